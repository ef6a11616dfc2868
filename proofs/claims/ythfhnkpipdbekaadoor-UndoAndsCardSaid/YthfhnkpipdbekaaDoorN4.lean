-- CUT by a program of this session: what the claim does not use is left out
import Derived.Test.YthfhnkpipdbekaaDoorN2
import Derived.Deep.RegionHeld3
import Derived.Great.Walk
namespace Go.Proofs.YthfhnkpipdbekaaDoor.Giv
set_option linter.unusedVariables false
set_option linter.unusedSimpArgs false
open Go.RowKit Go.Shelf Go.Proofs.YthfhnkpipdbekaaDoorW.PrintWords Go.Proofs.YthfhnkpipdbekaaDoorW.PrintLast Go.Proofs.YthfhnkpipdbekaaDoorW.PrintMore
open Go.Proofs.YthfhnkpipdbekaaDoor.Ua (S67 k67 z67 rd_T67 at_T67 k67_open k67_openM k67_mkM)
theorem pSn4 {α : Type} : (∀ (l : List α) (i : Nat) (a : α), l.toArray.setIfInBounds i a = (l.set i a).toArray) ∧ (∀ (l : List α) (x y : α), (x :: l).set 0 y = y :: l) ∧ (∀ (l : List α) (x y : α) (n : Nat), (x :: l).set (n + 1) y = x :: l.set n y) :=
 ⟨fun _ _ _ => List.setIfInBounds_toArray .., fun _ _ _ => rfl, fun _ _ _ _ => rfl⟩
open Bool renaming true → T, false → F
abbrev z0n4 : Array Bool := #[F,F,F,F,F,F,F,F,F,F,F]
abbrev z1n4 : Array Bool := #[T,F,F,F,F,F,F,F,F,F,F]
abbrev z2n4 : Array Bool := #[T,T,F,F,F,F,F,F,F,F,F]
abbrev z3n4 : Array Bool := #[T,T,T,F,F,F,F,F,F,F,F]
abbrev z4n4 : Array Bool := #[T,T,T,T,F,F,F,F,F,F,F]
abbrev z5n4 : Array Bool := #[T,T,T,T,T,F,F,F,F,F,F]
abbrev z6n4 : Array Bool := #[T,T,T,T,T,T,F,F,F,F,F]
abbrev z7n4 : Array Bool := #[T,T,T,T,T,T,T,F,F,F,F]
abbrev z8n4 : Array Bool := #[T,T,T,T,T,T,T,T,F,F,F]
abbrev z9n4 : Array Bool := #[T,T,T,T,T,T,T,T,T,F,F]
abbrev z10n4 : Array Bool := #[T,T,T,T,T,T,T,T,T,T,F]
abbrev z11n4 : Array Bool := #[T,T,T,T,T,T,T,T,T,T,T]
abbrev z12n4 : Array Bool := #[F,F,F,F,F,F,F,F,F,F,F,F,F,F,F,F]
abbrev z13n4 : Array Bool := #[T,F,F,F,F,F,F,F,F,F,F,F,F,F,F,F]
abbrev z14n4 : Array Bool := #[T,T,F,F,F,F,F,F,F,F,F,F,F,F,F,F]
abbrev z15n4 : Array Bool := #[T,T,T,F,F,F,F,F,F,F,F,F,F,F,F,F]
abbrev z16n4 : Array Bool := #[T,T,T,T,F,F,F,F,F,F,F,F,F,F,F,F]
abbrev z17n4 : Array Bool := #[T,T,T,T,T,F,F,F,F,F,F,F,F,F,F,F]
abbrev z18n4 : Array Bool := #[T,T,T,T,T,T,F,F,F,F,F,F,F,F,F,F]
abbrev z19n4 : Array Bool := #[T,T,T,T,T,T,T,F,F,F,F,F,F,F,F,F]
abbrev z20n4 : Array Bool := #[T,T,T,T,T,T,T,T,F,F,F,F,F,F,F,F]
abbrev z21n4 : Array Bool := #[T,T,T,T,T,T,T,T,T,F,F,F,F,F,F,F]
abbrev z22n4 : Array Bool := #[T,T,T,T,T,T,T,T,T,T,F,F,F,F,F,F]
abbrev z23n4 : Array Bool := #[T,T,T,T,T,T,T,T,T,T,T,F,F,F,F,F]
abbrev z24n4 : Array Bool := #[T,T,T,T,T,T,T,T,T,T,T,T,F,F,F,F]
abbrev z25n4 : Array Bool := #[T,T,T,T,T,T,T,T,T,T,T,T,T,F,F,F]
abbrev z26n4 : Array Bool := #[T,T,T,T,T,T,T,T,T,T,T,T,T,T,F,F]
abbrev z27n4 : Array Bool := #[T,T,T,T,T,T,T,T,T,T,T,T,T,T,T,F]
abbrev z28n4 : Array Bool := #[T,T,T,T,T,T,T,T,T,T,T,T,T,T,T,T]
abbrev z29n4 : Array Bool := #[F,F,F,F,F,F,F,F,F,F,F,F,F,F,F,F,F,F,F,F,F,F,F]
abbrev z30n4 : Array Bool := #[T,F,F,F,F,F,F,F,F,F,F,F,F,F,F,F,F,F,F,F,F,F,F]
abbrev z31n4 : Array Bool := #[T,T,F,F,F,F,F,F,F,F,F,F,F,F,F,F,F,F,F,F,F,F,F]
abbrev z32n4 : Array Bool := #[T,T,T,F,F,F,F,F,F,F,F,F,F,F,F,F,F,F,F,F,F,F,F]
abbrev z33n4 : Array Bool := #[T,T,T,T,F,F,F,F,F,F,F,F,F,F,F,F,F,F,F,F,F,F,F]
abbrev z34n4 : Array Bool := #[T,T,T,T,T,F,F,F,F,F,F,F,F,F,F,F,F,F,F,F,F,F,F]
abbrev z35n4 : Array Bool := #[T,T,T,T,T,T,F,F,F,F,F,F,F,F,F,F,F,F,F,F,F,F,F]
abbrev z36n4 : Array Bool := #[T,T,T,T,T,T,T,F,F,F,F,F,F,F,F,F,F,F,F,F,F,F,F]
abbrev z37n4 : Array Bool := #[T,T,T,T,T,T,T,T,F,F,F,F,F,F,F,F,F,F,F,F,F,F,F]
abbrev z38n4 : Array Bool := #[T,T,T,T,T,T,T,T,T,F,F,F,F,F,F,F,F,F,F,F,F,F,F]
abbrev z39n4 : Array Bool := #[T,T,T,T,T,T,T,T,T,T,F,F,F,F,F,F,F,F,F,F,F,F,F]
abbrev z40n4 : Array Bool := #[T,T,T,T,T,T,T,T,T,T,T,F,F,F,F,F,F,F,F,F,F,F,F]
abbrev z41n4 : Array Bool := #[T,T,T,T,T,T,T,T,T,T,T,T,F,F,F,F,F,F,F,F,F,F,F]
abbrev z42n4 : Array Bool := #[T,T,T,T,T,T,T,T,T,T,T,T,T,F,F,F,F,F,F,F,F,F,F]
abbrev z43n4 : Array Bool := #[T,T,T,T,T,T,T,T,T,T,T,T,T,T,F,F,F,F,F,F,F,F,F]
abbrev z44n4 : Array Bool := #[T,T,T,T,T,T,T,T,T,T,T,T,T,T,T,F,F,F,F,F,F,F,F]
abbrev z45n4 : Array Bool := #[T,T,T,T,T,T,T,T,T,T,T,T,T,T,T,T,F,F,F,F,F,F,F]
abbrev z46n4 : Array Bool := #[T,T,T,T,T,T,T,T,T,T,T,T,T,T,T,T,T,F,F,F,F,F,F]
abbrev z47n4 : Array Bool := #[T,T,T,T,T,T,T,T,T,T,T,T,T,T,T,T,T,T,F,F,F,F,F]
abbrev z48n4 : Array Bool := #[T,T,T,T,T,T,T,T,T,T,T,T,T,T,T,T,T,T,T,F,F,F,F]
abbrev z49n4 : Array Bool := #[T,T,T,T,T,T,T,T,T,T,T,T,T,T,T,T,T,T,T,T,F,F,F]
abbrev z50n4 : Array Bool := #[T,T,T,T,T,T,T,T,T,T,T,T,T,T,T,T,T,T,T,T,T,F,F]
abbrev z51n4 : Array Bool := #[T,T,T,T,T,T,T,T,T,T,T,T,T,T,T,T,T,T,T,T,T,T,F]
abbrev z52n4 : Array Bool := #[T,T,T,T,T,T,T,T,T,T,T,T,T,T,T,T,T,T,T,T,T,T,T]
abbrev z53n4 : Array Bool := #[F,F,F,F,F,F,F,F,F,F,F,F,F,F,F,F,F,F,F,F]
abbrev z54n4 : Array Bool := #[T,F,F,F,F,F,F,F,F,F,F,F,F,F,F,F,F,F,F,F]
abbrev z55n4 : Array Bool := #[T,T,F,F,F,F,F,F,F,F,F,F,F,F,F,F,F,F,F,F]
abbrev z56n4 : Array Bool := #[T,T,T,F,F,F,F,F,F,F,F,F,F,F,F,F,F,F,F,F]
abbrev z57n4 : Array Bool := #[T,T,T,T,F,F,F,F,F,F,F,F,F,F,F,F,F,F,F,F]
abbrev z58n4 : Array Bool := #[T,T,T,T,T,F,F,F,F,F,F,F,F,F,F,F,F,F,F,F]
abbrev z59n4 : Array Bool := #[T,T,T,T,T,T,F,F,F,F,F,F,F,F,F,F,F,F,F,F]
abbrev z60n4 : Array Bool := #[T,T,T,T,T,T,T,F,F,F,F,F,F,F,F,F,F,F,F,F]
abbrev z61n4 : Array Bool := #[T,T,T,T,T,T,T,T,F,F,F,F,F,F,F,F,F,F,F,F]
abbrev z62n4 : Array Bool := #[T,T,T,T,T,T,T,T,T,F,F,F,F,F,F,F,F,F,F,F]
abbrev z63n4 : Array Bool := #[T,T,T,T,T,T,T,T,T,T,F,F,F,F,F,F,F,F,F,F]
abbrev z64n4 : Array Bool := #[T,T,T,T,T,T,T,T,T,T,F,T,F,F,F,F,F,F,F,F]
abbrev z65n4 : Array Bool := #[T,T,T,T,T,T,T,T,T,T,F,T,T,F,F,F,F,F,F,F]
abbrev z66n4 : Array Bool := #[T,T,T,T,T,T,T,T,T,T,F,T,T,T,F,F,F,F,F,F]
abbrev z67n4 : Array Bool := #[T,T,T,T,T,T,T,T,T,T,F,T,T,T,T,F,F,F,F,F]
abbrev z68n4 : Array Bool := #[T,T,T,T,T,T,T,T,T,T,T,T,T,T,T,F,F,F,F,F]
abbrev z69n4 : Array Bool := #[T,T,T,T,T,T,T,T,T,T,F,T,T,T,T,T,F,F,F,F]
abbrev z70n4 : Array Bool := #[T,T,T,T,T,T,T,T,T,T,T,T,T,T,T,T,F,F,F,F]
abbrev z71n4 : Array Bool := #[T,T,T,T,T,T,T,T,T,T,T,T,T,T,T,T,T,F,F,F]
abbrev z72n4 : Array Bool := #[T,T,T,T,T,T,T,T,T,T,T,T,T,T,T,T,T,T,F,F]
abbrev z73n4 : Array Bool := #[T,T,T,T,T,T,T,T,T,T,T,T,T,T,T,T,T,T,T,F]
abbrev z74n4 : Array Bool := #[T,T,T,T,T,T,T,T,T,T,T,T,T,T,T,T,T,T,T,T]
def runOp (x : List Bool) (o : S67) : List Bool :=
 if o.f0 = 0 then x.set o.f1.toNat (!rdOf false x o.f1)
 else if o.f0 = 1 then x.set o.f1.toNat (rdOf false x o.f1 != rdOf false x o.f2)
 else if o.f0 = 2 then x.set o.f1.toNat (rdOf false x o.f1 != (rdOf false x o.f2 && rdOf false x o.f3))
 else (x.set o.f1.toNat (rdOf false x o.f2)).set o.f2.toNat (rdOf false x o.f1)
def runL (x : List Bool) (l : List S67) : List Bool := l.foldl runOp x
theorem runOp_len (x : List Bool) (o : S67) : (runOp x o).length = x.length := by
 unfold runOp; split <;> (try split) <;> (try split) <;> simp
theorem runL_len : ∀ (l : List S67) (x : List Bool), (runL x l).length = x.length
 | [], _ => rfl
 | o :: l, x => by rw [runL, List.foldl_cons]; exact (runL_len l _).trans (runOp_len x o)
theorem runL_next {l : List S67} {x : List Bool} {i : Nat} (h : i < l.length) : runL x (l.take (i + 1)) = runOp (runL x (l.take i)) l[i] := by
 rw [runL, List.take_succ_eq_append_getElem h, List.foldl_append]; rfl
theorem rightB_in {n : Int} {o : S67} (h : rightB n o = true) : (0 ≤ o.f1 ∧ o.f1 < n) ∧ (o.f0 ≠ 0 → 0 ≤ o.f2 ∧ o.f2 < n) ∧ (o.f0 = 2 → 0 ≤ o.f3 ∧ o.f3 < n) ∧ (o.f0 = 0 ∨ o.f0 = 1 ∨ o.f0 = 2 ∨ o.f0 = 3) := by
 unfold rightB inB at h
 repeat' split at h
 all_goals (simp at h; try omega)
structure RunAt (g cp : Nat) (w0 w wr : World) (x : List Bool) : Prop where
 row : Kd.R Kd.bool 4 wr w0.heap.size (fun _ => True) (.slice (some ⟨g, 0, none⟩) x.length cp) x
 below : Below w0.heap.size w0 wr
 grown : w.grownBy wr (some g)
theorem RunAt.drew {g cp : Nat} {w0 w wr : World} {x : List Bool} (h : RunAt g cp w0 w wr x) : RunAt g cp w0 w wr.drew x :=
 ⟨Kd.R_drew h.row, below_drew h.below, ⟨h.grown.os, h.grown.tape, h.grown.output, h.grown.size, h.grown.block⟩⟩
theorem RunAt.later {g cp : Nat} {w0 w wr W : World} {x : List Bool} (h : RunAt g cp w0 w wr x) (hb : Below wr.heap.size wr W) : RunAt g cp w0 w W x :=
 ⟨Kd.R_below h.row hb, below_step h.below hb, World.grownBy.trans h.grown ⟨hb.os, hb.tape, hb.output, hb.size, fun i hi _ => hb.block i hi⟩⟩
theorem RunAt.put {g cp : Nat} {w0 w wr : World} {x : List Bool} (h : RunAt g cp w0 w wr x) (hg : w0.heap.size ≤ g) (i : Int) (b : Bool) : RunAt g cp w0 w (wr.setCell ⟨g, i.toNat, none⟩ (.bool b)) (x.set i.toNat b) := by
 obtain ⟨h1, h2⟩ := Kd.R_put (enc := Value.bool) h.row i b
 exact ⟨by rw [List.length_set]; exact h1, below_set h.below hg, World.grownBy.trans h.grown h2⟩
theorem RunAt.cell {g cp : Nat} {w0 w wr : World} {x : List Bool} (h : RunAt g cp w0 w wr x) (i : Int) (h0 : 0 ≤ i) (h1 : i < x.length) : wr.cell? ⟨g, i.toNat, none⟩ = some (.bool (rdOf false x i)) ∧ wr.frozen? ⟨g, i.toNat, none⟩ = false := Kd.R_cell (enc := Value.bool) false h.row i h0 h1
theorem blk_set {W : World} {g t : Nat} {c : Array Value} {f : Nat × Nat} (h : W.heap[g]? = some (.cells c t f)) (j : Nat) (v : Value) : (W.setCell ⟨g, j, none⟩ v).heap[g]? = some (.cells (c.setIfInBounds j v) t f) := by
 simp [World.setCell, Array.getElem?_modify, h]
theorem opSet_at {wr w9 : World} {gb : Nat} {z0 z1 z2 z3 : Value} (hbox : w9.heap[gb]? = some (.cells #[z0, z1, z2, z3] 67)) (hgb : gb = wr.heap.size) (hb : Below wr.heap.size wr w9) (v0 v1 v2 v3 : Value) :
  ((((w9.setCell ⟨gb, 0, none⟩ v0).setCell ⟨gb, 1, none⟩ v1).setCell ⟨gb, 2, none⟩ v2).setCell ⟨gb, 3, none⟩ v3).heap[gb]? = some (.cells #[v0, v1, v2, v3] 67) ∧ Below wr.heap.size wr ((((w9.setCell ⟨gb, 0, none⟩ v0).setCell ⟨gb, 1, none⟩ v1).setCell ⟨gb, 2, none⟩ v2).setCell ⟨gb, 3, none⟩ v3) := by
 have hle : wr.heap.size ≤ gb := by omega
 refine ⟨?_, below_set (below_set (below_set (below_set hb hle) hle) hle) hle⟩
 exact blk_set (blk_set (blk_set (blk_set hbox 0 v0) 1 v1) 2 v2) 3 v3
theorem set_keep {W : World} {g gb i : Nat} {v : Value} (h : g ≠ gb) (j : Nat) : (W.setCell ⟨g, i, none⟩ v).cell? ⟨gb, j, none⟩ = W.cell? ⟨gb, j, none⟩ := World.cell?_setCell_other _ _ _ _ (by intro e; injection e with e1; exact h e1)
def reg56_6.T : Bool × List (List Nat × List Nat) := (true, [([], []), ([], []), ([1], [1]), ([], []), ([], []), ([4], [4]), ([3, 5], [3, 5]), ([6], [6]), ([7], [7]), ([0, 2, 0, 1, 2, 3, 4, 5, 6, 7, 8], [0, 2]), ([9, 8, 0, 1, 2, 3, 4, 5, 6, 7, 8], [8, 9])])
def reg56_6.B : List Nat := [0, 0, 2, 0, 0, 16, 56, 120, 248, 511, 1023]
theorem reg56_6.tab : rtab .any (opsOf Tryd.f56 6) = reg56_6.T := by kernel_rfl
theorem reg56_6.bits : waitsOk reg56_6.T.2 reg56_6.B = true := by kernel_rfl
def reg56_8.T : Bool × List (List Nat × List Nat) := (true, [([], []), ([], []), ([1], [1]), ([], []), ([], []), ([4], [4]), ([3, 5], [3, 5]), ([6], [6]), ([], []), ([], []), ([9], [9]), ([8, 10], [8, 10]), ([11], [11]), ([7, 12], [7, 12]), ([0, 2, 0, 1, 2, 3, 4, 5, 6, 7, 8, 9, 10, 11, 12, 13], [0, 2]), ([14, 13, 0, 1, 2, 3, 4, 5, 6, 7, 8, 9, 10, 11, 12, 13], [13, 14])])
def reg56_8.B : List Nat := [0, 0, 2, 0, 0, 16, 56, 120, 0, 0, 512, 1792, 3840, 8184, 16383, 32767]
theorem reg56_8.tab : rtab .any (opsOf Tryd.f56 8) = reg56_8.T := by kernel_rfl
theorem reg56_8.bits : waitsOk reg56_8.T.2 reg56_8.B = true := by kernel_rfl
def reg56_10.T : Bool × List (List Nat × List Nat) := (true, [([], []), ([], []), ([1], [1]), ([], []), ([], []), ([4], [4]), ([3, 5], [3, 5]), ([6], [6]), ([], []), ([], []), ([9], [9]), ([8, 10], [8, 10]), ([11], [11]), ([12], [12]), ([13], [13]), ([13], [13]), ([15, 13], [13, 15]), ([14, 16, 13], [13, 14, 16]), ([17, 13], [13, 17]), ([13, 18], [13, 18]), ([7, 19], [7, 19]), ([0, 2, 0, 1, 2, 3, 4, 5, 6, 7, 8, 9, 10, 11, 12, 13, 14, 15, 16, 17, 18, 19, 20], [0, 2]), ([21, 20, 13, 0, 1, 2, 3, 4, 5, 6, 7, 8, 9, 10, 11, 12, 13, 14, 15, 16, 17, 18, 19, 20], [20, 21])])
def reg56_10.B : List Nat := [0, 0, 2, 0, 0, 16, 56, 120, 0, 0, 512, 1792, 3840, 7936, 16128, 16128, 48896, 130816, 261888, 524032, 1048568, 2097151, 4194303]
theorem reg56_10.tab : rtab .any (opsOf Tryd.f56 10) = reg56_10.T := by kernel_rfl
theorem reg56_10.bits : waitsOk reg56_10.T.2 reg56_10.B = true := by kernel_rfl
def reg56_4.T : Bool × List (List Nat × List Nat) := (true, [([], []), ([], []), ([1], [1]), ([], []), ([], []), ([4], [4]), ([], []), ([], []), ([7], [7]), ([6, 8], [6, 8]), ([9], [9]), ([], []), ([], []), ([12], [12]), ([11, 13], [11, 13]), ([14], [14]), ([0, 2, 0, 1, 2, 6, 7, 8, 9, 10, 15], [0, 2]), ([16, 10, 0, 1, 2, 6, 7, 8, 9, 10, 15], [10, 16]), ([3, 5, 0, 1, 2, 3, 4, 5, 6, 7, 8, 9, 10, 11, 12, 13, 14, 15, 16, 17], [3, 5]), ([18, 15, 17, 0, 1, 2, 3, 4, 5, 6, 7, 8, 9, 10, 11, 12, 13, 14, 15, 16, 17], [15, 18])])
def reg56_4.B : List Nat := [0, 0, 2, 0, 0, 16, 0, 0, 128, 448, 960, 0, 0, 4096, 14336, 30720, 65479, 131015, 262143, 524287]
theorem reg56_4.tab : rtab .any (opsOf Tryd.f56 4) = reg56_4.T := by kernel_rfl
theorem reg56_4.bits : waitsOk reg56_4.T.2 reg56_4.B = true := by kernel_rfl
set_option maxHeartbeats 8000000 in
set_option maxRecDepth 100000 in
theorem run_walk (A : Option Addr) (c : Nat) (l : List S67) (g cp : Nat) (x : List Bool) (w0 w : World) (hC : Kd.C k67 w0 A l.length l) (hx : Kd.R Kd.bool 4 w w0.heap.size (fun _ => True) (.slice (some ⟨g, 0, none⟩) x.length cp) x) (hb : Below w0.heap.size w0 w) (hg : w0.heap.size ≤ g) (hgl : g < w.heap.size) (hr : ∀ o ∈ l, rightB x.length o = true) :
  Calls Tryd.prog 56 #[.slice A l.length c, .slice (some ⟨g, 0, none⟩) x.length cp] w fun e w' => e = .returned (.tuple #[]) ∧ RunAt g cp w0 w w' (runL x l) := by
 have HC := Aside0.mk hC
 have HL := Aside0.mk hC.2.1
 have HG := Aside0.mk hg
 have HGL := Aside0.mk hgl
 have HRT := Aside0.mk hr
 have HA0 : Aside0 (RunAt g cp w0 w w x) := ⟨⟨hx, hb, ⟨rfl, rfl, rfl, Nat.le_refl _, fun _ _ _ => rfl⟩⟩⟩
 clear hC hx hb hg hgl hr
 go_enter Tryd.func56, Tryd.ntmps56
 go_wp2
 go_loopg [5, 8] l.length (fun gg _ s8 wr => ∃ i : Nat, s8 = .int .i64 (i : Int) ∧ Aside0 (i ≤ l.length) ∧ Aside0 (l.length - i = gg) ∧ Aside0 (RunAt g cp w0 w wr (runL x (l.take i))))
 case atStart => exact ⟨0, rfl, ⟨by omega⟩, ⟨by omega⟩, ⟨by simpa [runL] using HA0.out⟩⟩
 case round =>
  obtain ⟨i, rfl, HI, HG2, HAT⟩ := hrel
  by_cases cl : i < l.length
  ·have clb : decide ((i : Int) < (l.length : Int)) = true := decide_eq_true (by omega)
   obtain ⟨ad, e1, h0, h1, h2, h3⟩ := at_T67 (Kd.C_below HC.out HAT.out.below) (i : Int) (by omega) (by omega)
   rw [rd_T67_at l i cl] at h0 h1 h2 h3
   subst e1
   have p1 : (0 ≤ (i : Int)) = True := eq_true (by omega)
   have q1 : ((i : Int) < (l.length : Int)) = True := eq_true (by omega)
   rw [Int.toNat_natCast] at h0 h1 h2 h3
   have HM := Aside0.mk (List.getElem_mem cl)
   have HN := Aside0.mk (runL_next (x := x) cl)
   obtain ⟨o, ho⟩ : ∃ o, o = l[i] := ⟨_, rfl⟩
   rw [← ho] at h0 h1 h2 h3 HN HM
   clear ho
   have HO := Aside0.mk (HRT.out o HM.out)
   have CL := Aside0.mk cl
   clear cl
   obtain ⟨k, a, b, cc⟩ := o
   dsimp only at h0 h1 h2 h3
   obtain ⟨X, hX⟩ : ∃ X, X = runL x (l.take i) := ⟨_, rfl⟩
   rw [← hX] at HAT HN
   have HXL : Aside0 (X.length = x.length) := ⟨by rw [hX, runL_len]⟩
   clear hX
   obtain ⟨⟨a0, a1⟩, hb0, hc0, hk⟩ := rightB_in HO.out
   dsimp only at a0 a1 hb0 hc0 hk
   have HB0 := Aside0.mk hb0
   have HC0 := Aside0.mk hc0
   have HK := Aside0.mk hk
   have pa : (0 ≤ a) = True := eq_true a0
   have qa : (a < (x.length : Int)) = True := eq_true a1
   have HPA : Aside0 (0 ≤ a ∧ a < (X.length : Int)) := ⟨by have := HXL.out; omega⟩
   clear hb0 hc0 hk a0 a1
   by_cases k0 : k = 0
   ·subst k0
    go_wp2_with ((with_reducible refine gate_dst (N := 5) rfl ?_); refine box_event ?hg (N := 5) ?hd (cs := #[.int .i64 0, .int .i64 0, .int .i64 0, .int .i64 0]) (t := 67) ?hr ?_; (case hd => rfl); (case hg => rfl); (case hr => first | (go_simp; done) | (go_simp; rfl)); intro gb hgb w9 hbox hb; have hcz0 : w9.cell? ⟨gb, 0, none⟩ = some (.int .i64 0) := (blk_cell hbox 0).trans rfl; have hcz1 : w9.cell? ⟨gb, 1, none⟩ = some (.int .i64 0) := (blk_cell hbox 1).trans rfl; have hcz2 : w9.cell? ⟨gb, 2, none⟩ = some (.int .i64 0) := (blk_cell hbox 2).trans rfl; have hcz3 : w9.cell? ⟨gb, 3, none⟩ = some (.int .i64 0) := (blk_cell hbox 3).trans rfl; have hfz0 := blk_frozen hbox 0; have hfz1 := blk_frozen hbox 1; have hfz2 := blk_frozen hbox 2; have hfz3 := blk_frozen hbox 3; have HBX := Aside0.mk hbox; have HGB := Aside0.mk hgb; have HB9 := Aside0.mk hb; clear hbox hgb hb)
    obtain ⟨hw1, hw2⟩ := opSet_at HBX.out HGB.out HB9.out (.int .i64 0) (.int .i64 a) (.int .i64 b) (.int .i64 cc)
    generalize ((((w9.setCell ⟨gb, 0, none⟩ (.int .i64 0)).setCell ⟨gb, 1, none⟩ (.int .i64 a)).setCell ⟨gb, 2, none⟩ (.int .i64 b)).setCell ⟨gb, 3, none⟩ (.int .i64 cc)) = W at hw1 hw2 ⊢
    clear hcz0 hcz1 hcz2 hcz3 hfz0 hfz1 hfz2 hfz3 HBX HB9
    have HAW := Aside0.mk (HAT.out.later hw2)
    have o1 : W.cell? ⟨gb, 1, none⟩ = some (.int .i64 a) := (blk_cell hw1 1).trans rfl
    have o2 : W.cell? ⟨gb, 2, none⟩ = some (.int .i64 b) := (blk_cell hw1 2).trans rfl
    have o3 : W.cell? ⟨gb, 3, none⟩ = some (.int .i64 cc) := (blk_cell hw1 3).trans rfl
    have HGW : Aside0 (gb < W.heap.size) := ⟨(Array.getElem?_eq_some_iff.1 hw1).1⟩
    have HGE : Aside0 (g ≠ gb) := ⟨by have := HGB.out; have := HAT.out.grown.size; have := HGL.out; omega⟩
    clear hw1 hw2
    have xa : W.cell? ⟨g, a.toNat, none⟩ = some (.bool (rdOf false X a)) := (HAW.out.cell a HPA.out.1 HPA.out.2).1
    refine start_ (n := 11) (S := fun w' => w'.cell? ⟨gb, 1, none⟩ = some (.int .i64 a) ∧ w'.cell? ⟨gb, 2, none⟩ = some (.int .i64 b) ∧ w'.cell? ⟨gb, 3, none⟩ = some (.int .i64 cc) ∧ w'.cell? ⟨g, a.toNat, none⟩ = some (.bool (rdOf false X a))) (ds := [10]) z0n4 (by kernel_rfl) rfl rfl ⟨o1, o2, o3, xa⟩ (fun hHeld => ?_); refine with_tabW reg56_6.tab reg56_6.bits (fun HT_ HW_ => ?_)
    have HAW0 := Aside0.mk HAW.out.drew
    generalize W.drew = W0 at HAW0 hHeld ⊢
    refine pure_ (i := 0) (N := some 34) (v := ?_) (a' := ?_) z1n4 rfl rfl (any_of HT_.out (by kernel_rfl)) (fun _ _ _ h => h) (Or.inl ⟨by rfl, ?_⟩) ?_ ?_
    rotate_left
    ·intro w'
     go_simp
     with_reducible rfl
    rotate_left
    ·simp only [Act.put, pSn4, i64_w]
     rfl
    refine pure_ (i := 1) (N := some 35) (v := ?_) (a' := ?_) z2n4 rfl rfl (any_of HT_.out (by kernel_rfl)) (fun _ _ _ h => h) (Or.inl ⟨by rfl, ?_⟩) ?_ ?_
    rotate_left
    ·intro w'
     go_simp
     with_reducible rfl
    rotate_left
    ·simp only [Act.put, pSn4, i64_w]
     rfl
    refine take_ (i := 2) (N := some 36) (v := ?_) (a' := ?_) z3n4 rfl rfl (take_ofW HT_.out HW_.out (by kernel_rfl)) (fun _ _ _ h => h) (Or.inl ⟨by rfl, ?_⟩) hHeld ?_ ?_
    rotate_left
    ·rintro w' ⟨s1, s2, s3, ya⟩
     go_simp
     with_reducible rfl
    rotate_left
    ·simp only [Act.put, pSn4, i64_w]
     rfl
    refine pure_ (i := 3) (N := some 37) (v := ?_) (a' := ?_) z4n4 rfl rfl (any_of HT_.out (by kernel_rfl)) (fun _ _ _ h => h) (Or.inl ⟨by rfl, ?_⟩) ?_ ?_
    rotate_left
    ·intro w'
     go_simp
     with_reducible rfl
    rotate_left
    ·simp only [Act.put, pSn4, i64_w]
     rfl
    refine pure_ (i := 4) (N := some 38) (v := ?_) (a' := ?_) z5n4 rfl rfl (any_of HT_.out (by kernel_rfl)) (fun _ _ _ h => h) (Or.inl ⟨by rfl, ?_⟩) ?_ ?_
    rotate_left
    ·intro w'
     go_simp
     with_reducible rfl
    rotate_left
    ·simp only [Act.put, pSn4, i64_w]
     rfl
    refine take_ (i := 5) (N := some 39) (v := ?_) (a' := ?_) z6n4 rfl rfl (take_ofW HT_.out HW_.out (by kernel_rfl)) (fun _ _ _ h => h) (Or.inl ⟨by rfl, ?_⟩) hHeld ?_ ?_
    rotate_left
    ·rintro w' ⟨s1, s2, s3, ya⟩
     go_simp
     with_reducible rfl
    rotate_left
    ·simp only [Act.put, pSn4, i64_w]
     rfl
    refine pure_ (i := 6) (N := some 40) (v := ?_) (a' := ?_) z7n4 rfl rfl (any_of HT_.out (by kernel_rfl)) (fun _ _ _ h => h) (Or.inl ⟨by rfl, ?_⟩) ?_ ?_
    rotate_left
    ·intro w'
     go_simp
     with_reducible rfl
    rotate_left
    ·simp only [Act.put, pSn4, i64_w]
     rfl
    refine take_ (i := 7) (N := some 41) (v := ?_) (a' := ?_) z8n4 rfl rfl (take_ofW HT_.out HW_.out (by kernel_rfl)) (fun _ _ _ h => h) (Or.inl ⟨by rfl, ?_⟩) hHeld ?_ ?_
    rotate_left
    ·rintro w' ⟨s1, s2, s3, ya⟩
     go_simp
     with_reducible rfl
    rotate_left
    ·simp only [Act.put, pSn4, i64_w]
     rfl
    refine pure_ (i := 8) (N := some 42) (v := ?_) (a' := ?_) z9n4 rfl rfl (any_of HT_.out (by kernel_rfl)) (fun _ _ _ h => h) (Or.inl ⟨by rfl, ?_⟩) ?_ ?_
    rotate_left
    ·intro w'
     go_simp
     with_reducible rfl
    rotate_left
    ·simp only [Act.put, pSn4, i64_w]
     rfl
    refine pure_ (i := 9) (N := some 43) (v := ?_) (a' := ?_) z10n4 rfl rfl (any_of HT_.out (by kernel_rfl)) (fun _ _ _ h => h) (Or.inl ⟨by rfl, ?_⟩) ?_ ?_
    rotate_left
    ·intro w'
     go_simp
     with_reducible rfl
    rotate_left
    ·simp only [Act.put, pSn4, i64_w]
     rfl
    refine last_ (i := 10) (N := none) z11n4 rfl rfl (one_of HT_.out (by kernel_rfl)) (by decide) (fun K hK => ?_)
    obtain ⟨s1, s2, s3, ya⟩ := hHeld
    have fz := (HAW0.out.cell a HPA.out.1 HPA.out.2).2
    refine skip_ (w1 := ?_) (by rfl) rfl ?_ ?_
    rotate_left
    ·go_simp
     rfl
    refine hK.out _ _ ?_
    clear hK K
    refine done_ (done_of HT_.out (by kernel_rfl)) ?_
    go_wp2
    go_roundg (l.length - (i + 1))
    case measure => have := HG2.out; have := CL.out; omega
    case rel =>
     have := CL.out
     refine ⟨i + 1, ?_, ⟨by omega⟩, ⟨by omega⟩, ⟨by rw [HN.out]; exact HAW0.out.put HG.out a (!rdOf false X a)⟩⟩
     rw [show wrap64 ((i : Int) + 1) = ((i + 1 : Nat) : Int) by have := HL.out; unfold wrap64; omega]
   have HPB : Aside0 (0 ≤ b ∧ b < (X.length : Int)) := ⟨by have := HXL.out; have := HB0.out k0; omega⟩
   have pb : (0 ≤ b) = True := eq_true (HB0.out k0).1
   have qb : (b < (x.length : Int)) = True := eq_true (HB0.out k0).2
   have k0b : (k == 0) = false := beq_eq_false_iff_ne.2 k0
   by_cases k1 : k = 1
   ·subst k1
    go_wp2_with ((with_reducible refine gate_dst (N := 5) rfl ?_); refine box_event ?hg (N := 5) ?hd (cs := #[.int .i64 0, .int .i64 0, .int .i64 0, .int .i64 0]) (t := 67) ?hr ?_; (case hd => rfl); (case hg => rfl); (case hr => first | (go_simp; done) | (go_simp; rfl)); intro gb hgb w9 hbox hb; have hcz0 : w9.cell? ⟨gb, 0, none⟩ = some (.int .i64 0) := (blk_cell hbox 0).trans rfl; have hcz1 : w9.cell? ⟨gb, 1, none⟩ = some (.int .i64 0) := (blk_cell hbox 1).trans rfl; have hcz2 : w9.cell? ⟨gb, 2, none⟩ = some (.int .i64 0) := (blk_cell hbox 2).trans rfl; have hcz3 : w9.cell? ⟨gb, 3, none⟩ = some (.int .i64 0) := (blk_cell hbox 3).trans rfl; have hfz0 := blk_frozen hbox 0; have hfz1 := blk_frozen hbox 1; have hfz2 := blk_frozen hbox 2; have hfz3 := blk_frozen hbox 3; have HBX := Aside0.mk hbox; have HGB := Aside0.mk hgb; have HB9 := Aside0.mk hb; clear hbox hgb hb)
    obtain ⟨hw1, hw2⟩ := opSet_at HBX.out HGB.out HB9.out (.int .i64 1) (.int .i64 a) (.int .i64 b) (.int .i64 cc)
    generalize ((((w9.setCell ⟨gb, 0, none⟩ (.int .i64 1)).setCell ⟨gb, 1, none⟩ (.int .i64 a)).setCell ⟨gb, 2, none⟩ (.int .i64 b)).setCell ⟨gb, 3, none⟩ (.int .i64 cc)) = W at hw1 hw2 ⊢
    clear hcz0 hcz1 hcz2 hcz3 hfz0 hfz1 hfz2 hfz3 HBX HB9
    have HAW := Aside0.mk (HAT.out.later hw2)
    have o1 : W.cell? ⟨gb, 1, none⟩ = some (.int .i64 a) := (blk_cell hw1 1).trans rfl
    have o2 : W.cell? ⟨gb, 2, none⟩ = some (.int .i64 b) := (blk_cell hw1 2).trans rfl
    have o3 : W.cell? ⟨gb, 3, none⟩ = some (.int .i64 cc) := (blk_cell hw1 3).trans rfl
    have HGW : Aside0 (gb < W.heap.size) := ⟨(Array.getElem?_eq_some_iff.1 hw1).1⟩
    have HGE : Aside0 (g ≠ gb) := ⟨by have := HGB.out; have := HAT.out.grown.size; have := HGL.out; omega⟩
    clear hw1 hw2
    have xa : W.cell? ⟨g, a.toNat, none⟩ = some (.bool (rdOf false X a)) := (HAW.out.cell a HPA.out.1 HPA.out.2).1
    have xb : W.cell? ⟨g, b.toNat, none⟩ = some (.bool (rdOf false X b)) := (HAW.out.cell b HPB.out.1 HPB.out.2).1
    refine start_ (n := 16) (S := fun w' => w'.cell? ⟨gb, 1, none⟩ = some (.int .i64 a) ∧ w'.cell? ⟨gb, 2, none⟩ = some (.int .i64 b) ∧ w'.cell? ⟨gb, 3, none⟩ = some (.int .i64 cc) ∧ w'.cell? ⟨g, a.toNat, none⟩ = some (.bool (rdOf false X a)) ∧ w'.cell? ⟨g, b.toNat, none⟩ = some (.bool (rdOf false X b))) (ds := [15]) z12n4 (by kernel_rfl) rfl rfl ⟨o1, o2, o3, xa, xb⟩ (fun hHeld => ?_); refine with_tabW reg56_8.tab reg56_8.bits (fun HT_ HW_ => ?_)
    have HAW0 := Aside0.mk HAW.out.drew
    generalize W.drew = W0 at HAW0 hHeld ⊢
    refine pure_ (i := 0) (N := some 46) (v := ?_) (a' := ?_) z13n4 rfl rfl (any_of HT_.out (by kernel_rfl)) (fun _ _ _ h => h) (Or.inl ⟨by rfl, ?_⟩) ?_ ?_
    rotate_left
    ·intro w'
     go_simp
     with_reducible rfl
    rotate_left
    ·simp only [Act.put, pSn4, i64_w]
     rfl
    refine pure_ (i := 1) (N := some 47) (v := ?_) (a' := ?_) z14n4 rfl rfl (any_of HT_.out (by kernel_rfl)) (fun _ _ _ h => h) (Or.inl ⟨by rfl, ?_⟩) ?_ ?_
    rotate_left
    ·intro w'
     go_simp
     with_reducible rfl
    rotate_left
    ·simp only [Act.put, pSn4, i64_w]
     rfl
    refine take_ (i := 2) (N := some 48) (v := ?_) (a' := ?_) z15n4 rfl rfl (take_ofW HT_.out HW_.out (by kernel_rfl)) (fun _ _ _ h => h) (Or.inl ⟨by rfl, ?_⟩) hHeld ?_ ?_
    rotate_left
    ·rintro w' ⟨s1, s2, s3, ya, yb⟩
     go_simp
     with_reducible rfl
    rotate_left
    ·simp only [Act.put, pSn4, i64_w]
     rfl
    refine pure_ (i := 3) (N := some 49) (v := ?_) (a' := ?_) z16n4 rfl rfl (any_of HT_.out (by kernel_rfl)) (fun _ _ _ h => h) (Or.inl ⟨by rfl, ?_⟩) ?_ ?_
    rotate_left
    ·intro w'
     go_simp
     with_reducible rfl
    rotate_left
    ·simp only [Act.put, pSn4, i64_w]
     rfl
    refine pure_ (i := 4) (N := some 50) (v := ?_) (a' := ?_) z17n4 rfl rfl (any_of HT_.out (by kernel_rfl)) (fun _ _ _ h => h) (Or.inl ⟨by rfl, ?_⟩) ?_ ?_
    rotate_left
    ·intro w'
     go_simp
     with_reducible rfl
    rotate_left
    ·simp only [Act.put, pSn4, i64_w]
     rfl
    refine take_ (i := 5) (N := some 51) (v := ?_) (a' := ?_) z18n4 rfl rfl (take_ofW HT_.out HW_.out (by kernel_rfl)) (fun _ _ _ h => h) (Or.inl ⟨by rfl, ?_⟩) hHeld ?_ ?_
    rotate_left
    ·rintro w' ⟨s1, s2, s3, ya, yb⟩
     go_simp
     with_reducible rfl
    rotate_left
    ·simp only [Act.put, pSn4, i64_w]
     rfl
    refine pure_ (i := 6) (N := some 52) (v := ?_) (a' := ?_) z19n4 rfl rfl (any_of HT_.out (by kernel_rfl)) (fun _ _ _ h => h) (Or.inl ⟨by rfl, ?_⟩) ?_ ?_
    rotate_left
    ·intro w'
     go_simp
     with_reducible rfl
    rotate_left
    ·simp only [Act.put, pSn4, i64_w]
     rfl
    refine take_ (i := 7) (N := some 53) (v := ?_) (a' := ?_) z20n4 rfl rfl (take_ofW HT_.out HW_.out (by kernel_rfl)) (fun _ _ _ h => h) (Or.inl ⟨by rfl, ?_⟩) hHeld ?_ ?_
    rotate_left
    ·rintro w' ⟨s1, s2, s3, ya, yb⟩
     go_simp
     with_reducible rfl
    rotate_left
    ·simp only [Act.put, pSn4, i64_w]
     rfl
    refine pure_ (i := 8) (N := some 54) (v := ?_) (a' := ?_) z21n4 rfl rfl (any_of HT_.out (by kernel_rfl)) (fun _ _ _ h => h) (Or.inl ⟨by rfl, ?_⟩) ?_ ?_
    rotate_left
    ·intro w'
     go_simp
     with_reducible rfl
    rotate_left
    ·simp only [Act.put, pSn4, i64_w]
     rfl
    refine pure_ (i := 9) (N := some 55) (v := ?_) (a' := ?_) z22n4 rfl rfl (any_of HT_.out (by kernel_rfl)) (fun _ _ _ h => h) (Or.inl ⟨by rfl, ?_⟩) ?_ ?_
    rotate_left
    ·intro w'
     go_simp
     with_reducible rfl
    rotate_left
    ·simp only [Act.put, pSn4, i64_w]
     rfl
    refine take_ (i := 10) (N := some 56) (v := ?_) (a' := ?_) z23n4 rfl rfl (take_ofW HT_.out HW_.out (by kernel_rfl)) (fun _ _ _ h => h) (Or.inl ⟨by rfl, ?_⟩) hHeld ?_ ?_
    rotate_left
    ·rintro w' ⟨s1, s2, s3, ya, yb⟩
     go_simp
     with_reducible rfl
    rotate_left
    ·simp only [Act.put, pSn4, i64_w]
     rfl
    refine pure_ (i := 11) (N := some 57) (v := ?_) (a' := ?_) z24n4 rfl rfl (any_of HT_.out (by kernel_rfl)) (fun _ _ _ h => h) (Or.inl ⟨by rfl, ?_⟩) ?_ ?_
    rotate_left
    ·intro w'
     go_simp
     with_reducible rfl
    rotate_left
    ·simp only [Act.put, pSn4, i64_w]
     rfl
    refine take_ (i := 12) (N := some 58) (v := ?_) (a' := ?_) z25n4 rfl rfl (take_ofW HT_.out HW_.out (by kernel_rfl)) (fun _ _ _ h => h) (Or.inl ⟨by rfl, ?_⟩) hHeld ?_ ?_
    rotate_left
    ·rintro w' ⟨s1, s2, s3, ya, yb⟩
     go_simp
     with_reducible rfl
    rotate_left
    ·simp only [Act.put, pSn4, i64_w]
     rfl
    refine pure_ (i := 13) (N := some 59) (v := ?_) (a' := ?_) z26n4 rfl rfl (any_of HT_.out (by kernel_rfl)) (fun _ _ _ h => h) (Or.inl ⟨by rfl, ?_⟩) ?_ ?_
    rotate_left
    ·intro w'
     go_simp
     with_reducible rfl
    rotate_left
    ·simp only [Act.put, pSn4, i64_w]
     rfl
    refine pure_ (i := 14) (N := some 60) (v := ?_) (a' := ?_) z27n4 rfl rfl (any_of HT_.out (by kernel_rfl)) (fun _ _ _ h => h) (Or.inl ⟨by rfl, ?_⟩) ?_ ?_
    rotate_left
    ·intro w'
     go_simp
     with_reducible rfl
    rotate_left
    ·simp only [Act.put, pSn4, i64_w]
     rfl
    refine last_ (i := 15) (N := none) z28n4 rfl rfl (one_of HT_.out (by kernel_rfl)) (by decide) (fun K hK => ?_)
    obtain ⟨s1, s2, s3, ya, yb⟩ := hHeld
    have fz := (HAW0.out.cell a HPA.out.1 HPA.out.2).2
    refine skip_ (w1 := ?_) (by rfl) rfl ?_ ?_
    rotate_left
    ·go_simp
     rfl
    refine hK.out _ _ ?_
    clear hK K
    refine done_ (done_of HT_.out (by kernel_rfl)) ?_
    go_wp2
    go_roundg (l.length - (i + 1))
    case measure => have := HG2.out; have := CL.out; omega
    case rel =>
     have := CL.out
     refine ⟨i + 1, ?_, ⟨by omega⟩, ⟨by omega⟩, ⟨by rw [HN.out]; exact HAW0.out.put HG.out a (rdOf false X a != rdOf false X b)⟩⟩
     rw [show wrap64 ((i : Int) + 1) = ((i + 1 : Nat) : Int) by have := HL.out; unfold wrap64; omega]
   have k1b : (k == 1) = false := beq_eq_false_iff_ne.2 k1
   by_cases k2 : k = 2
   ·subst k2
    have HPC : Aside0 (0 ≤ cc ∧ cc < (X.length : Int)) := ⟨by have := HXL.out; have := HC0.out rfl; omega⟩
    have pc : (0 ≤ cc) = True := eq_true (HC0.out rfl).1
    have qc : (cc < (x.length : Int)) = True := eq_true (HC0.out rfl).2
    go_wp2_with ((with_reducible refine gate_dst (N := 5) rfl ?_); refine box_event ?hg (N := 5) ?hd (cs := #[.int .i64 0, .int .i64 0, .int .i64 0, .int .i64 0]) (t := 67) ?hr ?_; (case hd => rfl); (case hg => rfl); (case hr => first | (go_simp; done) | (go_simp; rfl)); intro gb hgb w9 hbox hb; have hcz0 : w9.cell? ⟨gb, 0, none⟩ = some (.int .i64 0) := (blk_cell hbox 0).trans rfl; have hcz1 : w9.cell? ⟨gb, 1, none⟩ = some (.int .i64 0) := (blk_cell hbox 1).trans rfl; have hcz2 : w9.cell? ⟨gb, 2, none⟩ = some (.int .i64 0) := (blk_cell hbox 2).trans rfl; have hcz3 : w9.cell? ⟨gb, 3, none⟩ = some (.int .i64 0) := (blk_cell hbox 3).trans rfl; have hfz0 := blk_frozen hbox 0; have hfz1 := blk_frozen hbox 1; have hfz2 := blk_frozen hbox 2; have hfz3 := blk_frozen hbox 3; have HBX := Aside0.mk hbox; have HGB := Aside0.mk hgb; have HB9 := Aside0.mk hb; clear hbox hgb hb)
    obtain ⟨hw1, hw2⟩ := opSet_at HBX.out HGB.out HB9.out (.int .i64 2) (.int .i64 a) (.int .i64 b) (.int .i64 cc)
    generalize ((((w9.setCell ⟨gb, 0, none⟩ (.int .i64 2)).setCell ⟨gb, 1, none⟩ (.int .i64 a)).setCell ⟨gb, 2, none⟩ (.int .i64 b)).setCell ⟨gb, 3, none⟩ (.int .i64 cc)) = W at hw1 hw2 ⊢
    clear hcz0 hcz1 hcz2 hcz3 hfz0 hfz1 hfz2 hfz3 HBX HB9
    have HAW := Aside0.mk (HAT.out.later hw2)
    have o1 : W.cell? ⟨gb, 1, none⟩ = some (.int .i64 a) := (blk_cell hw1 1).trans rfl
    have o2 : W.cell? ⟨gb, 2, none⟩ = some (.int .i64 b) := (blk_cell hw1 2).trans rfl
    have o3 : W.cell? ⟨gb, 3, none⟩ = some (.int .i64 cc) := (blk_cell hw1 3).trans rfl
    have HGW : Aside0 (gb < W.heap.size) := ⟨(Array.getElem?_eq_some_iff.1 hw1).1⟩
    have HGE : Aside0 (g ≠ gb) := ⟨by have := HGB.out; have := HAT.out.grown.size; have := HGL.out; omega⟩
    clear hw1 hw2
    cases hq : rdOf false X b with
    | true =>
     have xa := (HAW.out.cell a HPA.out.1 HPA.out.2).1
     have xb := (HAW.out.cell b HPB.out.1 HPB.out.2).1
     have xcc := (HAW.out.cell cc HPC.out.1 HPC.out.2).1
     rw [hq] at xb
     refine start_ (n := 23) (S := fun w' => w'.cell? ⟨gb, 1, none⟩ = some (.int .i64 a) ∧ w'.cell? ⟨gb, 2, none⟩ = some (.int .i64 b) ∧ w'.cell? ⟨gb, 3, none⟩ = some (.int .i64 cc) ∧ w'.cell? ⟨g, a.toNat, none⟩ = some (.bool (rdOf false X a)) ∧ w'.cell? ⟨g, b.toNat, none⟩ = some (.bool true) ∧ w'.cell? ⟨g, cc.toNat, none⟩ = some (.bool (rdOf false X cc))) (ds := [22]) z29n4 (by kernel_rfl) rfl rfl ⟨o1, o2, o3, xa, xb, xcc⟩ (fun hHeld => ?_); refine with_tabW reg56_10.tab reg56_10.bits (fun HT_ HW_ => ?_)
     have HAW0 := Aside0.mk HAW.out.drew
     generalize W.drew = W0 at HAW0 hHeld ⊢
     refine pure_ (i := 0) (N := some 63) (v := ?_) (a' := ?_) z30n4 rfl rfl (any_of HT_.out (by kernel_rfl)) (fun _ _ _ h => h) (Or.inl ⟨by rfl, ?_⟩) ?_ ?_
     rotate_left
     ·intro w'
      go_simp
      with_reducible rfl
     rotate_left
     ·simp only [Act.put, pSn4, i64_w]
      rfl
     refine pure_ (i := 1) (N := some 64) (v := ?_) (a' := ?_) z31n4 rfl rfl (any_of HT_.out (by kernel_rfl)) (fun _ _ _ h => h) (Or.inl ⟨by rfl, ?_⟩) ?_ ?_
     rotate_left
     ·intro w'
      go_simp
      with_reducible rfl
     rotate_left
     ·simp only [Act.put, pSn4, i64_w]
      rfl
     refine take_ (i := 2) (N := some 65) (v := ?_) (a' := ?_) z32n4 rfl rfl (take_ofW HT_.out HW_.out (by kernel_rfl)) (fun _ _ _ h => h) (Or.inl ⟨by rfl, ?_⟩) hHeld ?_ ?_
     rotate_left
     ·rintro w' ⟨s1, s2, s3, ya, yb, ycc⟩
      go_simp
      with_reducible rfl
     rotate_left
     ·simp only [Act.put, pSn4, i64_w]
      rfl
     refine pure_ (i := 3) (N := some 66) (v := ?_) (a' := ?_) z33n4 rfl rfl (any_of HT_.out (by kernel_rfl)) (fun _ _ _ h => h) (Or.inl ⟨by rfl, ?_⟩) ?_ ?_
     rotate_left
     ·intro w'
      go_simp
      with_reducible rfl
     rotate_left
     ·simp only [Act.put, pSn4, i64_w]
      rfl
     refine pure_ (i := 4) (N := some 67) (v := ?_) (a' := ?_) z34n4 rfl rfl (any_of HT_.out (by kernel_rfl)) (fun _ _ _ h => h) (Or.inl ⟨by rfl, ?_⟩) ?_ ?_
     rotate_left
     ·intro w'
      go_simp
      with_reducible rfl
     rotate_left
     ·simp only [Act.put, pSn4, i64_w]
      rfl
     refine take_ (i := 5) (N := some 68) (v := ?_) (a' := ?_) z35n4 rfl rfl (take_ofW HT_.out HW_.out (by kernel_rfl)) (fun _ _ _ h => h) (Or.inl ⟨by rfl, ?_⟩) hHeld ?_ ?_
     rotate_left
     ·rintro w' ⟨s1, s2, s3, ya, yb, ycc⟩
      go_simp
      with_reducible rfl
     rotate_left
     ·simp only [Act.put, pSn4, i64_w]
      rfl
     refine pure_ (i := 6) (N := some 69) (v := ?_) (a' := ?_) z36n4 rfl rfl (any_of HT_.out (by kernel_rfl)) (fun _ _ _ h => h) (Or.inl ⟨by rfl, ?_⟩) ?_ ?_
     rotate_left
     ·intro w'
      go_simp
      with_reducible rfl
     rotate_left
     ·simp only [Act.put, pSn4, i64_w]
      rfl
     refine take_ (i := 7) (N := some 70) (v := ?_) (a' := ?_) z37n4 rfl rfl (take_ofW HT_.out HW_.out (by kernel_rfl)) (fun _ _ _ h => h) (Or.inl ⟨by rfl, ?_⟩) hHeld ?_ ?_
     rotate_left
     ·rintro w' ⟨s1, s2, s3, ya, yb, ycc⟩
      go_simp
      with_reducible rfl
     rotate_left
     ·simp only [Act.put, pSn4, i64_w]
      rfl
     refine pure_ (i := 8) (N := some 71) (v := ?_) (a' := ?_) z38n4 rfl rfl (any_of HT_.out (by kernel_rfl)) (fun _ _ _ h => h) (Or.inl ⟨by rfl, ?_⟩) ?_ ?_
     rotate_left
     ·intro w'
      go_simp
      with_reducible rfl
     rotate_left
     ·simp only [Act.put, pSn4, i64_w]
      rfl
     refine pure_ (i := 9) (N := some 72) (v := ?_) (a' := ?_) z39n4 rfl rfl (any_of HT_.out (by kernel_rfl)) (fun _ _ _ h => h) (Or.inl ⟨by rfl, ?_⟩) ?_ ?_
     rotate_left
     ·intro w'
      go_simp
      with_reducible rfl
     rotate_left
     ·simp only [Act.put, pSn4, i64_w]
      rfl
     refine take_ (i := 10) (N := some 73) (v := ?_) (a' := ?_) z40n4 rfl rfl (take_ofW HT_.out HW_.out (by kernel_rfl)) (fun _ _ _ h => h) (Or.inl ⟨by rfl, ?_⟩) hHeld ?_ ?_
     rotate_left
     ·rintro w' ⟨s1, s2, s3, ya, yb, ycc⟩
      go_simp
      with_reducible rfl
     rotate_left
     ·simp only [Act.put, pSn4, i64_w]
      rfl
     refine pure_ (i := 11) (N := some 74) (v := ?_) (a' := ?_) z41n4 rfl rfl (any_of HT_.out (by kernel_rfl)) (fun _ _ _ h => h) (Or.inl ⟨by rfl, ?_⟩) ?_ ?_
     rotate_left
     ·intro w'
      go_simp
      with_reducible rfl
     rotate_left
     ·simp only [Act.put, pSn4, i64_w]
      rfl
     refine take_ (i := 12) (N := some 75) (v := ?_) (a' := ?_) z42n4 rfl rfl (take_ofW HT_.out HW_.out (by kernel_rfl)) (fun _ _ _ h => h) (Or.inl ⟨by rfl, ?_⟩) hHeld ?_ ?_
     rotate_left
     ·rintro w' ⟨s1, s2, s3, ya, yb, ycc⟩
      go_simp
      with_reducible rfl
     rotate_left
     ·simp only [Act.put, pSn4, i64_w]
      rfl
     refine pure_ (i := 13) (N := some 76) (v := ?_) (a' := ?_) z43n4 rfl rfl (any_of HT_.out (by kernel_rfl)) (fun _ _ _ h => h) (Or.inl ⟨by rfl, ?_⟩) ?_ ?_
     rotate_left
     ·intro w'
      go_simp
      with_reducible rfl
     rotate_left
     ·simp only [Act.put, pSn4, i64_w]
      rfl
     refine pure_ (i := 14) (N := some 77) (v := ?_) (a' := ?_) z44n4 rfl rfl (any_of HT_.out (by kernel_rfl)) (fun _ _ _ h => h) (Or.inl ⟨by rfl, ?_⟩) ?_ ?_
     rotate_left
     ·intro w'
      go_simp
      with_reducible rfl
     rotate_left
     ·simp only [Act.put, pSn4, i64_w]
      rfl
     refine pure_ (i := 15) (N := some 78) (v := ?_) (a' := ?_) z45n4 rfl rfl (any_of HT_.out (by kernel_rfl)) (fun _ _ _ h => h) (Or.inl ⟨by rfl, ?_⟩) ?_ ?_
     rotate_left
     ·intro w'
      go_simp
      with_reducible rfl
     rotate_left
     ·simp only [Act.put, pSn4, i64_w]
      rfl
     refine take_ (i := 16) (N := some 79) (v := ?_) (a' := ?_) z46n4 rfl rfl (take_ofW HT_.out HW_.out (by kernel_rfl)) (fun _ _ _ h => h) (Or.inl ⟨by rfl, ?_⟩) hHeld ?_ ?_
     rotate_left
     ·rintro w' ⟨s1, s2, s3, ya, yb, ycc⟩
      go_simp
      with_reducible rfl
     rotate_left
     ·simp only [Act.put, pSn4, i64_w]
      rfl
     refine pure_ (i := 17) (N := some 80) (v := ?_) (a' := ?_) z47n4 rfl rfl (any_of HT_.out (by kernel_rfl)) (fun _ _ _ h => h) (Or.inl ⟨by rfl, ?_⟩) ?_ ?_
     rotate_left
     ·intro w'
      go_simp
      with_reducible rfl
     rotate_left
     ·simp only [Act.put, pSn4, i64_w]
      rfl
     refine take_ (i := 18) (N := some 81) (v := ?_) (a' := ?_) z48n4 rfl rfl (take_ofW HT_.out HW_.out (by kernel_rfl)) (fun _ _ _ h => h) (Or.inl ⟨by rfl, ?_⟩) hHeld ?_ ?_
     rotate_left
     ·rintro w' ⟨s1, s2, s3, ya, yb, ycc⟩
      go_simp
      with_reducible rfl
     rotate_left
     ·simp only [Act.put, pSn4, i64_w]
      rfl
     refine pure_ (i := 19) (N := some 82) (v := ?_) (a' := ?_) z49n4 rfl rfl (any_of HT_.out (by kernel_rfl)) (fun _ _ _ h => h) (Or.inl ⟨by rfl, ?_⟩) ?_ ?_
     rotate_left
     ·intro w'
      go_simp
      with_reducible rfl
     rotate_left
     ·simp only [Act.put, pSn4, i64_w]
      rfl
     refine pure_ (i := 20) (N := some 83) (v := ?_) (a' := ?_) z50n4 rfl rfl (any_of HT_.out (by kernel_rfl)) (fun _ _ _ h => h) (Or.inl ⟨by rfl, ?_⟩) ?_ ?_
     rotate_left
     ·intro w'
      go_simp
      with_reducible rfl
     rotate_left
     ·simp only [Act.put, pSn4, i64_w]
      rfl
     refine pure_ (i := 21) (N := some 84) (v := ?_) (a' := ?_) z51n4 rfl rfl (any_of HT_.out (by kernel_rfl)) (fun _ _ _ h => h) (Or.inl ⟨by rfl, ?_⟩) ?_ ?_
     rotate_left
     ·intro w'
      go_simp
      with_reducible rfl
     rotate_left
     ·simp only [Act.put, pSn4, i64_w]
      rfl
     refine last_ (i := 22) (N := none) z52n4 rfl rfl (one_of HT_.out (by kernel_rfl)) (by decide) (fun K hK => ?_)
     obtain ⟨s1, s2, s3, ya, yb, ycc⟩ := hHeld
     have fz := (HAW0.out.cell a HPA.out.1 HPA.out.2).2
     refine skip_ (w1 := ?_) (by rfl) rfl ?_ ?_
     rotate_left
     ·go_simp
      rfl
     refine hK.out _ _ ?_
     clear hK K
     refine done_ (done_of HT_.out (by kernel_rfl)) ?_
     go_wp2
     go_roundg (l.length - (i + 1))
     case measure => have := HG2.out; have := CL.out; omega
     case rel =>
      have := CL.out
      refine ⟨i + 1, ?_, ⟨by omega⟩, ⟨by omega⟩, ⟨by rw [HN.out]; exact (by have := HAW0.out.put HG.out a (rdOf false X a != (rdOf false X b && rdOf false X cc)); rw [hq] at this; rw [show runOp X ⟨2, a, b, cc⟩ = X.set a.toNat (rdOf false X a != (rdOf false X b && rdOf false X cc)) from rfl, hq]; first | exact this | (simp only [Bool.false_and, Bool.bne_false] at this ⊢; exact this))⟩⟩
      rw [show wrap64 ((i : Int) + 1) = ((i + 1 : Nat) : Int) by have := HL.out; unfold wrap64; omega]
    | false =>
     have xa := (HAW.out.cell a HPA.out.1 HPA.out.2).1
     have xb := (HAW.out.cell b HPB.out.1 HPB.out.2).1
     rw [hq] at xb
     refine start_ (n := 23) (S := fun w' => w'.cell? ⟨gb, 1, none⟩ = some (.int .i64 a) ∧ w'.cell? ⟨gb, 2, none⟩ = some (.int .i64 b) ∧ w'.cell? ⟨gb, 3, none⟩ = some (.int .i64 cc) ∧ w'.cell? ⟨g, a.toNat, none⟩ = some (.bool (rdOf false X a)) ∧ w'.cell? ⟨g, b.toNat, none⟩ = some (.bool false)) (ds := [22]) z29n4 (by kernel_rfl) rfl rfl ⟨o1, o2, o3, xa, xb⟩ (fun hHeld => ?_); refine with_tabW reg56_10.tab reg56_10.bits (fun HT_ HW_ => ?_)
     have HAW0 := Aside0.mk HAW.out.drew
     generalize W.drew = W0 at HAW0 hHeld ⊢
     refine pure_ (i := 0) (N := some 63) (v := ?_) (a' := ?_) z30n4 rfl rfl (any_of HT_.out (by kernel_rfl)) (fun _ _ _ h => h) (Or.inl ⟨by rfl, ?_⟩) ?_ ?_
     rotate_left
     ·intro w'
      go_simp
      with_reducible rfl
     rotate_left
     ·simp only [Act.put, pSn4, i64_w]
      rfl
     refine pure_ (i := 1) (N := some 64) (v := ?_) (a' := ?_) z31n4 rfl rfl (any_of HT_.out (by kernel_rfl)) (fun _ _ _ h => h) (Or.inl ⟨by rfl, ?_⟩) ?_ ?_
     rotate_left
     ·intro w'
      go_simp
      with_reducible rfl
     rotate_left
     ·simp only [Act.put, pSn4, i64_w]
      rfl
     refine take_ (i := 2) (N := some 65) (v := ?_) (a' := ?_) z32n4 rfl rfl (take_ofW HT_.out HW_.out (by kernel_rfl)) (fun _ _ _ h => h) (Or.inl ⟨by rfl, ?_⟩) hHeld ?_ ?_
     rotate_left
     ·rintro w' ⟨s1, s2, s3, ya, yb⟩
      go_simp
      with_reducible rfl
     rotate_left
     ·simp only [Act.put, pSn4, i64_w]
      rfl
     refine pure_ (i := 3) (N := some 66) (v := ?_) (a' := ?_) z33n4 rfl rfl (any_of HT_.out (by kernel_rfl)) (fun _ _ _ h => h) (Or.inl ⟨by rfl, ?_⟩) ?_ ?_
     rotate_left
     ·intro w'
      go_simp
      with_reducible rfl
     rotate_left
     ·simp only [Act.put, pSn4, i64_w]
      rfl
     refine pure_ (i := 4) (N := some 67) (v := ?_) (a' := ?_) z34n4 rfl rfl (any_of HT_.out (by kernel_rfl)) (fun _ _ _ h => h) (Or.inl ⟨by rfl, ?_⟩) ?_ ?_
     rotate_left
     ·intro w'
      go_simp
      with_reducible rfl
     rotate_left
     ·simp only [Act.put, pSn4, i64_w]
      rfl
     refine take_ (i := 5) (N := some 68) (v := ?_) (a' := ?_) z35n4 rfl rfl (take_ofW HT_.out HW_.out (by kernel_rfl)) (fun _ _ _ h => h) (Or.inl ⟨by rfl, ?_⟩) hHeld ?_ ?_
     rotate_left
     ·rintro w' ⟨s1, s2, s3, ya, yb⟩
      go_simp
      with_reducible rfl
     rotate_left
     ·simp only [Act.put, pSn4, i64_w]
      rfl
     refine pure_ (i := 6) (N := some 69) (v := ?_) (a' := ?_) z36n4 rfl rfl (any_of HT_.out (by kernel_rfl)) (fun _ _ _ h => h) (Or.inl ⟨by rfl, ?_⟩) ?_ ?_
     rotate_left
     ·intro w'
      go_simp
      with_reducible rfl
     rotate_left
     ·simp only [Act.put, pSn4, i64_w]
      rfl
     refine take_ (i := 7) (N := some 70) (v := ?_) (a' := ?_) z37n4 rfl rfl (take_ofW HT_.out HW_.out (by kernel_rfl)) (fun _ _ _ h => h) (Or.inl ⟨by rfl, ?_⟩) hHeld ?_ ?_
     rotate_left
     ·rintro w' ⟨s1, s2, s3, ya, yb⟩
      go_simp
      with_reducible rfl
     rotate_left
     ·simp only [Act.put, pSn4, i64_w]
      rfl
     refine pure_ (i := 8) (N := some 71) (v := ?_) (a' := ?_) z38n4 rfl rfl (any_of HT_.out (by kernel_rfl)) (fun _ _ _ h => h) (Or.inl ⟨by rfl, ?_⟩) ?_ ?_
     rotate_left
     ·intro w'
      go_simp
      with_reducible rfl
     rotate_left
     ·simp only [Act.put, pSn4, i64_w]
      rfl
     refine pure_ (i := 9) (N := some 72) (v := ?_) (a' := ?_) z39n4 rfl rfl (any_of HT_.out (by kernel_rfl)) (fun _ _ _ h => h) (Or.inl ⟨by rfl, ?_⟩) ?_ ?_
     rotate_left
     ·intro w'
      go_simp
      with_reducible rfl
     rotate_left
     ·simp only [Act.put, pSn4, i64_w]
      rfl
     refine take_ (i := 10) (N := some 73) (v := ?_) (a' := ?_) z40n4 rfl rfl (take_ofW HT_.out HW_.out (by kernel_rfl)) (fun _ _ _ h => h) (Or.inl ⟨by rfl, ?_⟩) hHeld ?_ ?_
     rotate_left
     ·rintro w' ⟨s1, s2, s3, ya, yb⟩
      go_simp
      with_reducible rfl
     rotate_left
     ·simp only [Act.put, pSn4, i64_w]
      rfl
     refine pure_ (i := 11) (N := some 74) (v := ?_) (a' := ?_) z41n4 rfl rfl (any_of HT_.out (by kernel_rfl)) (fun _ _ _ h => h) (Or.inl ⟨by rfl, ?_⟩) ?_ ?_
     rotate_left
     ·intro w'
      go_simp
      with_reducible rfl
     rotate_left
     ·simp only [Act.put, pSn4, i64_w]
      rfl
     refine take_ (i := 12) (N := some 75) (v := ?_) (a' := ?_) z42n4 rfl rfl (take_ofW HT_.out HW_.out (by kernel_rfl)) (fun _ _ _ h => h) (Or.inl ⟨by rfl, ?_⟩) hHeld ?_ ?_
     rotate_left
     ·rintro w' ⟨s1, s2, s3, ya, yb⟩
      go_simp
      with_reducible rfl
     rotate_left
     ·simp only [Act.put, pSn4, i64_w]
      rfl
     refine pure_ (i := 13) (N := some 76) (v := ?_) (a' := ?_) z43n4 rfl rfl (any_of HT_.out (by kernel_rfl)) (fun _ _ _ h => h) (Or.inl ⟨by rfl, ?_⟩) ?_ ?_
     rotate_left
     ·intro w'
      go_simp
      with_reducible rfl
     rotate_left
     ·simp only [Act.put, pSn4, i64_w]
      rfl
     refine pure_ (i := 14) (N := some 77) (v := undef) (a' := ?_) z44n4 rfl rfl (any_of HT_.out (by kernel_rfl)) (fun _ _ _ h => h) (Or.inr ⟨by rfl, rfl⟩) ?_ ?_
     rotate_left
     ·simp only [Act.put, pSn4, i64_w]
      rfl
     refine pure_ (i := 15) (N := some 78) (v := undef) (a' := ?_) z45n4 rfl rfl (any_of HT_.out (by kernel_rfl)) (fun _ _ _ h => h) (Or.inr ⟨by rfl, rfl⟩) ?_ ?_
     rotate_left
     ·simp only [Act.put, pSn4, i64_w]
      rfl
     refine pure_ (i := 16) (N := some 79) (v := undef) (a' := ?_) z46n4 rfl rfl (any_of HT_.out (by kernel_rfl)) (fun _ _ _ h => h) (Or.inr ⟨by rfl, rfl⟩) ?_ ?_
     rotate_left
     ·simp only [Act.put, pSn4, i64_w]
      rfl
     refine pure_ (i := 17) (N := some 80) (v := undef) (a' := ?_) z47n4 rfl rfl (any_of HT_.out (by kernel_rfl)) (fun _ _ _ h => h) (Or.inr ⟨by rfl, rfl⟩) ?_ ?_
     rotate_left
     ·simp only [Act.put, pSn4, i64_w]
      rfl
     refine pure_ (i := 18) (N := some 81) (v := undef) (a' := ?_) z48n4 rfl rfl (any_of HT_.out (by kernel_rfl)) (fun _ _ _ h => h) (Or.inr ⟨by rfl, rfl⟩) ?_ ?_
     rotate_left
     ·simp only [Act.put, pSn4, i64_w]
      rfl
     refine pure_ (i := 19) (N := some 82) (v := ?_) (a' := ?_) z49n4 rfl rfl (any_of HT_.out (by kernel_rfl)) (fun _ _ _ h => h) (Or.inl ⟨by rfl, ?_⟩) ?_ ?_
     rotate_left
     ·intro w'
      go_simp
      with_reducible rfl
     rotate_left
     ·simp only [Act.put, pSn4, i64_w]
      rfl
     refine pure_ (i := 20) (N := some 83) (v := ?_) (a' := ?_) z50n4 rfl rfl (any_of HT_.out (by kernel_rfl)) (fun _ _ _ h => h) (Or.inl ⟨by rfl, ?_⟩) ?_ ?_
     rotate_left
     ·intro w'
      go_simp
      with_reducible rfl
     rotate_left
     ·simp only [Act.put, pSn4, i64_w]
      rfl
     refine pure_ (i := 21) (N := some 84) (v := ?_) (a' := ?_) z51n4 rfl rfl (any_of HT_.out (by kernel_rfl)) (fun _ _ _ h => h) (Or.inl ⟨by rfl, ?_⟩) ?_ ?_
     rotate_left
     ·intro w'
      go_simp
      with_reducible rfl
     rotate_left
     ·simp only [Act.put, pSn4, i64_w]
      rfl
     refine last_ (i := 22) (N := none) z52n4 rfl rfl (one_of HT_.out (by kernel_rfl)) (by decide) (fun K hK => ?_)
     obtain ⟨s1, s2, s3, ya, yb⟩ := hHeld
     have fz := (HAW0.out.cell a HPA.out.1 HPA.out.2).2
     refine skip_ (w1 := ?_) (by rfl) rfl ?_ ?_
     rotate_left
     ·go_simp
      rfl
     refine hK.out _ _ ?_
     clear hK K
     refine done_ (done_of HT_.out (by kernel_rfl)) ?_
     go_wp2
     go_roundg (l.length - (i + 1))
     case measure => have := HG2.out; have := CL.out; omega
     case rel =>
      have := CL.out
      refine ⟨i + 1, ?_, ⟨by omega⟩, ⟨by omega⟩, ⟨by rw [HN.out]; exact (by have := HAW0.out.put HG.out a (rdOf false X a != (rdOf false X b && rdOf false X cc)); rw [hq] at this; rw [show runOp X ⟨2, a, b, cc⟩ = X.set a.toNat (rdOf false X a != (rdOf false X b && rdOf false X cc)) from rfl, hq]; first | exact this | (simp only [Bool.false_and, Bool.bne_false] at this ⊢; exact this))⟩⟩
      rw [show wrap64 ((i : Int) + 1) = ((i + 1 : Nat) : Int) by have := HL.out; unfold wrap64; omega]
   have k2b : (k == 2) = false := beq_eq_false_iff_ne.2 k2
   have k3 : k = 3 := by have := HK.out; omega
   subst k3
   go_wp2_with ((with_reducible refine gate_dst (N := 5) rfl ?_); refine box_event ?hg (N := 5) ?hd (cs := #[.int .i64 0, .int .i64 0, .int .i64 0, .int .i64 0]) (t := 67) ?hr ?_; (case hd => rfl); (case hg => rfl); (case hr => first | (go_simp; done) | (go_simp; rfl)); intro gb hgb w9 hbox hb; have hcz0 : w9.cell? ⟨gb, 0, none⟩ = some (.int .i64 0) := (blk_cell hbox 0).trans rfl; have hcz1 : w9.cell? ⟨gb, 1, none⟩ = some (.int .i64 0) := (blk_cell hbox 1).trans rfl; have hcz2 : w9.cell? ⟨gb, 2, none⟩ = some (.int .i64 0) := (blk_cell hbox 2).trans rfl; have hcz3 : w9.cell? ⟨gb, 3, none⟩ = some (.int .i64 0) := (blk_cell hbox 3).trans rfl; have hfz0 := blk_frozen hbox 0; have hfz1 := blk_frozen hbox 1; have hfz2 := blk_frozen hbox 2; have hfz3 := blk_frozen hbox 3; have HBX := Aside0.mk hbox; have HGB := Aside0.mk hgb; have HB9 := Aside0.mk hb; clear hbox hgb hb)
   obtain ⟨hw1, hw2⟩ := opSet_at HBX.out HGB.out HB9.out (.int .i64 3) (.int .i64 a) (.int .i64 b) (.int .i64 cc)
   generalize ((((w9.setCell ⟨gb, 0, none⟩ (.int .i64 3)).setCell ⟨gb, 1, none⟩ (.int .i64 a)).setCell ⟨gb, 2, none⟩ (.int .i64 b)).setCell ⟨gb, 3, none⟩ (.int .i64 cc)) = W at hw1 hw2 ⊢
   clear hcz0 hcz1 hcz2 hcz3 hfz0 hfz1 hfz2 hfz3 HBX HB9
   have HAW := Aside0.mk (HAT.out.later hw2)
   have o1 : W.cell? ⟨gb, 1, none⟩ = some (.int .i64 a) := (blk_cell hw1 1).trans rfl
   have o2 : W.cell? ⟨gb, 2, none⟩ = some (.int .i64 b) := (blk_cell hw1 2).trans rfl
   have o3 : W.cell? ⟨gb, 3, none⟩ = some (.int .i64 cc) := (blk_cell hw1 3).trans rfl
   have HGW : Aside0 (gb < W.heap.size) := ⟨(Array.getElem?_eq_some_iff.1 hw1).1⟩
   have HGE : Aside0 (g ≠ gb) := ⟨by have := HGB.out; have := HAT.out.grown.size; have := HGL.out; omega⟩
   clear hw1 hw2
   refine start_ (n := 20) (S := fun w' => w'.cell? ⟨gb, 1, none⟩ = some (.int .i64 a) ∧ w'.cell? ⟨gb, 2, none⟩ = some (.int .i64 b) ∧ w'.cell? ⟨gb, 3, none⟩ = some (.int .i64 cc)) (ds := [19]) z53n4 (by kernel_rfl) rfl rfl ⟨o1, o2, o3⟩ (fun hHeld => ?_); refine with_tabW reg56_4.tab reg56_4.bits (fun HT_ HW_ => ?_)
   have HAW0 := Aside0.mk HAW.out.drew
   generalize W.drew = W0 at HAW0 hHeld ⊢
   have hne := HGE.out
   refine pure_ (i := 0) (N := some 14) (v := ?_) (a' := ?_) z54n4 rfl rfl (any_of HT_.out (by kernel_rfl)) (fun _ _ _ h => h) (Or.inl ⟨by rfl, ?_⟩) ?_ ?_
   rotate_left
   ·intro w'
    go_simp
    with_reducible rfl
   rotate_left
   ·simp only [Act.put, pSn4, i64_w]
    rfl
   refine pure_ (i := 1) (N := some 15) (v := ?_) (a' := ?_) z55n4 rfl rfl (any_of HT_.out (by kernel_rfl)) (fun _ _ _ h => h) (Or.inl ⟨by rfl, ?_⟩) ?_ ?_
   rotate_left
   ·intro w'
    go_simp
    with_reducible rfl
   rotate_left
   ·simp only [Act.put, pSn4, i64_w]
    rfl
   refine take_ (i := 2) (N := some 16) (v := ?_) (a' := ?_) z56n4 rfl rfl (take_ofW HT_.out HW_.out (by kernel_rfl)) (fun _ _ _ h => h) (Or.inl ⟨by rfl, ?_⟩) hHeld ?_ ?_
   rotate_left
   ·rintro w' ⟨s1, s2, s3⟩
    go_simp
    with_reducible rfl
   rotate_left
   ·simp only [Act.put, pSn4, i64_w]
    rfl
   refine pure_ (i := 3) (N := some 17) (v := ?_) (a' := ?_) z57n4 rfl rfl (any_of HT_.out (by kernel_rfl)) (fun _ _ _ h => h) (Or.inl ⟨by rfl, ?_⟩) ?_ ?_
   rotate_left
   ·intro w'
    go_simp
    with_reducible rfl
   rotate_left
   ·simp only [Act.put, pSn4, i64_w]
    rfl
   refine pure_ (i := 4) (N := some 18) (v := ?_) (a' := ?_) z58n4 rfl rfl (any_of HT_.out (by kernel_rfl)) (fun _ _ _ h => h) (Or.inl ⟨by rfl, ?_⟩) ?_ ?_
   rotate_left
   ·intro w'
    go_simp
    with_reducible rfl
   rotate_left
   ·simp only [Act.put, pSn4, i64_w]
    rfl
   refine take_ (i := 5) (N := some 19) (v := ?_) (a' := ?_) z59n4 rfl rfl (take_ofW HT_.out HW_.out (by kernel_rfl)) (fun _ _ _ h => h) (Or.inl ⟨by rfl, ?_⟩) hHeld ?_ ?_
   rotate_left
   ·rintro w' ⟨s1, s2, s3⟩
    go_simp
    with_reducible rfl
   rotate_left
   ·simp only [Act.put, pSn4, i64_w]
    rfl
   refine pure_ (i := 6) (N := some 20) (v := ?_) (a' := ?_) z60n4 rfl rfl (any_of HT_.out (by kernel_rfl)) (fun _ _ _ h => h) (Or.inl ⟨by rfl, ?_⟩) ?_ ?_
   rotate_left
   ·intro w'
    go_simp
    with_reducible rfl
   rotate_left
   ·simp only [Act.put, pSn4, i64_w]
    rfl
   refine pure_ (i := 7) (N := some 21) (v := ?_) (a' := ?_) z61n4 rfl rfl (any_of HT_.out (by kernel_rfl)) (fun _ _ _ h => h) (Or.inl ⟨by rfl, ?_⟩) ?_ ?_
   rotate_left
   ·intro w'
    go_simp
    with_reducible rfl
   rotate_left
   ·simp only [Act.put, pSn4, i64_w]
    rfl
   refine take_ (i := 8) (N := some 22) (v := ?_) (a' := ?_) z62n4 rfl rfl (take_ofW HT_.out HW_.out (by kernel_rfl)) (fun _ _ _ h => h) (Or.inl ⟨by rfl, ?_⟩) hHeld ?_ ?_
   rotate_left
   ·rintro w' ⟨s1, s2, s3⟩
    go_simp
    with_reducible rfl
   rotate_left
   ·simp only [Act.put, pSn4, i64_w]
    rfl
   refine pure_ (i := 9) (N := some 23) (v := ?_) (a' := ?_) z63n4 rfl rfl (any_of HT_.out (by kernel_rfl)) (fun _ _ _ h => h) (Or.inl ⟨by rfl, ?_⟩) ?_ ?_
   rotate_left
   ·intro w'
    go_simp
    with_reducible rfl
   rotate_left
   ·simp only [Act.put, pSn4, i64_w]
    rfl
   refine pure_ (i := 11) (N := some 25) (v := ?_) (a' := ?_) z64n4 rfl rfl (any_of HT_.out (by kernel_rfl)) (fun _ _ _ h => h) (Or.inl ⟨by rfl, ?_⟩) ?_ ?_
   rotate_left
   ·intro w'
    go_simp
    with_reducible rfl
   rotate_left
   ·simp only [Act.put, pSn4, i64_w]
    rfl
   refine pure_ (i := 12) (N := some 26) (v := ?_) (a' := ?_) z65n4 rfl rfl (any_of HT_.out (by kernel_rfl)) (fun _ _ _ h => h) (Or.inl ⟨by rfl, ?_⟩) ?_ ?_
   rotate_left
   ·intro w'
    go_simp
    with_reducible rfl
   rotate_left
   ·simp only [Act.put, pSn4, i64_w]
    rfl
   refine take_ (i := 13) (N := some 27) (v := ?_) (a' := ?_) z66n4 rfl rfl (take_ofW HT_.out HW_.out (by kernel_rfl)) (fun _ _ _ h => h) (Or.inl ⟨by rfl, ?_⟩) hHeld ?_ ?_
   rotate_left
   ·rintro w' ⟨s1, s2, s3⟩
    go_simp
    with_reducible rfl
   rotate_left
   ·simp only [Act.put, pSn4, i64_w]
    rfl
   refine pure_ (i := 14) (N := some 28) (v := ?_) (a' := ?_) z67n4 rfl rfl (any_of HT_.out (by kernel_rfl)) (fun _ _ _ h => h) (Or.inl ⟨by rfl, ?_⟩) ?_ ?_
   rotate_left
   ·intro w'
    go_simp
    with_reducible rfl
   rotate_left
   ·simp only [Act.put, pSn4, i64_w]
    rfl
   have ya := HAW0.out.cell a HPA.out.1 HPA.out.2
   have yb := HAW0.out.cell b HPB.out.1 HPB.out.2
   obtain ⟨ya, fa⟩ := ya
   obtain ⟨yb, fb⟩ := yb
   refine two_ (i := 10) (j := 15) (Ni := some 24) (Nj := some 29) z68n4 z69n4 rfl rfl rfl rfl (two_of HT_.out (by kernel_rfl)) (by decide) (by decide) (fun K hK => ?_) (fun K hK => ?_)
   ·skip
    refine event_step (v := .bool (rdOf false X b)) (w1 := W0) (by rfl) ?hr ?_; (case hr => first | (go_simp; done) | (go_simp; rfl))
    refine hK.out _ _ hHeld (fun hHeld => ?_)
    clear hK K
    refine norm_ (a' := ?_) ?_ ?_
    rotate_left
    ·show Act.put _ (some 24) _ = _
     simp only [Act.put, pSn4, i64_w]
     rfl
    refine one_ (i := 15) (N := some 29) z70n4 rfl rfl (one_of HT_.out (by kernel_rfl)) (by decide) (fun K hK => ?_)
    refine event_step (v := .bool (rdOf false X a)) (w1 := W0) (by rfl) ?hr ?_; (case hr => first | (go_simp; done) | (go_simp; rfl))
    refine hK.out _ _ hHeld (fun hHeld => ?_)
    clear hK K
    refine norm_ (a' := ?_) ?_ ?_
    rotate_left
    ·show Act.put _ (some 29) _ = _
     simp only [Act.put, pSn4, i64_w]
     rfl
    refine pure_ (i := 16) (N := some 30) (v := ?_) (a' := ?_) z71n4 rfl rfl (any_of HT_.out (by kernel_rfl)) (fun _ _ _ h => h) (Or.inl ⟨by rfl, ?_⟩) ?_ ?_
    rotate_left
    ·intro w'
     go_simp
     with_reducible rfl
    rotate_left
    ·simp only [Act.put, pSn4, i64_w]
     rfl
    refine one_ (i := 17) (N := none) z72n4 rfl rfl (one_of HT_.out (by kernel_rfl)) (by decide) (fun K hK => ?_)
    refine skip_ (w1 := ?_) (by rfl) rfl ?_ ?_
    rotate_left
    ·go_simp
     rfl
    refine hK.out _ _ ⟨(set_keep hne _).trans hHeld.1, (set_keep hne _).trans hHeld.2.1, (set_keep hne _).trans hHeld.2.2⟩ (fun hHeld => ?_)
    clear hK K
    obtain ⟨HA1⟩ := Aside0.mk (HAW0.out.put HG.out a (rdOf false X b))
    have HA1 := Aside0.mk HA1
    obtain ⟨zb, fzb⟩ := HA1.out.cell b HPB.out.1 (by rw [List.length_set]; exact HPB.out.2)
    generalize W0.setCell ⟨g, a.toNat, none⟩ (.bool (rdOf false X b)) = W1 at HA1 zb fzb hHeld ⊢
    refine pure_ (i := 18) (N := some 31) (v := ?_) (a' := ?_) z73n4 rfl rfl (any_of HT_.out (by kernel_rfl)) (fun _ _ _ h => h) (Or.inl ⟨by rfl, ?_⟩) ?_ ?_
    rotate_left
    ·intro w'
     go_simp
     with_reducible rfl
    rotate_left
    ·simp only [Act.put, pSn4, i64_w]
     rfl
    refine last_ (i := 19) (N := none) z74n4 rfl rfl (one_of HT_.out (by kernel_rfl)) (by decide) (fun K hK => ?_)
    refine skip_ (w1 := ?_) (by rfl) rfl ?_ ?_
    rotate_left
    ·go_simp
     rfl
    refine hK.out _ _ ?_
    clear hK K
    refine done_ (done_of HT_.out (by kernel_rfl)) ?_
    go_wp2
    go_roundg (l.length - (i + 1))
    case measure => have := HG2.out; have := CL.out; omega
    case rel =>
     have := CL.out
     refine ⟨i + 1, ?_, ⟨by omega⟩, ⟨by omega⟩, ⟨by rw [HN.out]; exact (HA1.out.put HG.out b (rdOf false X a))⟩⟩
     rw [show wrap64 ((i : Int) + 1) = ((i + 1 : Nat) : Int) by have := HL.out; unfold wrap64; omega]
   ·skip
    refine event_step (v := .bool (rdOf false X a)) (w1 := W0) (by rfl) ?hr ?_; (case hr => first | (go_simp; done) | (go_simp; rfl))
    refine hK.out _ _ hHeld (fun hHeld => ?_)
    clear hK K
    refine norm_ (a' := ?_) ?_ ?_
    rotate_left
    ·show Act.put _ (some 29) _ = _
     simp only [Act.put, pSn4, i64_w]
     rfl
    refine one_ (i := 10) (N := some 24) z70n4 rfl rfl (one_of HT_.out (by kernel_rfl)) (by decide) (fun K hK => ?_)
    refine event_step (v := .bool (rdOf false X b)) (w1 := W0) (by rfl) ?hr ?_; (case hr => first | (go_simp; done) | (go_simp; rfl))
    refine hK.out _ _ hHeld (fun hHeld => ?_)
    clear hK K
    refine norm_ (a' := ?_) ?_ ?_
    rotate_left
    ·show Act.put _ (some 24) _ = _
     simp only [Act.put, pSn4, i64_w]
     rfl
    refine pure_ (i := 16) (N := some 30) (v := ?_) (a' := ?_) z71n4 rfl rfl (any_of HT_.out (by kernel_rfl)) (fun _ _ _ h => h) (Or.inl ⟨by rfl, ?_⟩) ?_ ?_
    rotate_left
    ·intro w'
     go_simp
     with_reducible rfl
    rotate_left
    ·simp only [Act.put, pSn4, i64_w]
     rfl
    refine one_ (i := 17) (N := none) z72n4 rfl rfl (one_of HT_.out (by kernel_rfl)) (by decide) (fun K hK => ?_)
    refine skip_ (w1 := ?_) (by rfl) rfl ?_ ?_
    rotate_left
    ·go_simp
     rfl
    refine hK.out _ _ ⟨(set_keep hne _).trans hHeld.1, (set_keep hne _).trans hHeld.2.1, (set_keep hne _).trans hHeld.2.2⟩ (fun hHeld => ?_)
    clear hK K
    obtain ⟨HA1⟩ := Aside0.mk (HAW0.out.put HG.out a (rdOf false X b))
    have HA1 := Aside0.mk HA1
    obtain ⟨zb, fzb⟩ := HA1.out.cell b HPB.out.1 (by rw [List.length_set]; exact HPB.out.2)
    generalize W0.setCell ⟨g, a.toNat, none⟩ (.bool (rdOf false X b)) = W1 at HA1 zb fzb hHeld ⊢
    refine pure_ (i := 18) (N := some 31) (v := ?_) (a' := ?_) z73n4 rfl rfl (any_of HT_.out (by kernel_rfl)) (fun _ _ _ h => h) (Or.inl ⟨by rfl, ?_⟩) ?_ ?_
    rotate_left
    ·intro w'
     go_simp
     with_reducible rfl
    rotate_left
    ·simp only [Act.put, pSn4, i64_w]
     rfl
    refine last_ (i := 19) (N := none) z74n4 rfl rfl (one_of HT_.out (by kernel_rfl)) (by decide) (fun K hK => ?_)
    refine skip_ (w1 := ?_) (by rfl) rfl ?_ ?_
    rotate_left
    ·go_simp
     rfl
    refine hK.out _ _ ?_
    clear hK K
    refine done_ (done_of HT_.out (by kernel_rfl)) ?_
    go_wp2
    go_roundg (l.length - (i + 1))
    case measure => have := HG2.out; have := CL.out; omega
    case rel =>
     have := CL.out
     refine ⟨i + 1, ?_, ⟨by omega⟩, ⟨by omega⟩, ⟨by rw [HN.out]; exact (HA1.out.put HG.out b (rdOf false X a))⟩⟩
     rw [show wrap64 ((i : Int) + 1) = ((i + 1 : Nat) : Int) by have := HL.out; unfold wrap64; omega]
  ·have clb : decide ((i : Int) < (l.length : Int)) = false := decide_eq_false (by omega)
   go_wp2
   refine Go.Great.bodyPost_end0 (by rfl) rfl ?_
   have := HAT.out
   rw [List.take_of_length_le (by omega)] at this
   exact ⟨rfl, this⟩
end Go.Proofs.YthfhnkpipdbekaaDoor.Giv
