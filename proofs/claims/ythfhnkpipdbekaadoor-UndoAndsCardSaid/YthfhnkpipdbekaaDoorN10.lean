-- CUT by a program of this session: what the claim does not use is left out
import Derived.Test.YthfhnkpipdbekaaDoorN9
import Derived.Test.YthfhnkpipdbekaaDoorN6
import Derived.Test.YthfhnkpipdbekaaDoorTxx1
namespace Go.Proofs.YthfhnkpipdbekaaDoor.Giv
set_option linter.unusedVariables false
set_option linter.unusedSimpArgs false
open Go.RowKit Go.Shelf Go.Proofs.YthfhnkpipdbekaaDoorW.PrintWords Go.Proofs.YthfhnkpipdbekaaDoorW.PrintLast Go.Proofs.YthfhnkpipdbekaaDoorW.PrintMore
open Go.Proofs.YthfhnkpipdbekaaDoor.Ua (S67 k67 z67 rd_T67 at_T67 k67_open k67_openM k67_mkM)
open Go.Proofs.YthfhnkpipdbekaaDoor.Tx (slices_Index_string_string.f slices_Index_string_string.l0 slices_Index_string_string.calls)
def semi : ByteArray := ⟨#[59, 32]⟩
def blank : ByteArray := ⟨#[32]⟩
def cutB (s sep : ByteArray) : List ByteArray := Lib.splitB sep 0 (Lib.countB s sep) s
theorem cutB_len (s sep : ByteArray) (h : 1 ≤ sep.size) : (cutB s sep).length = Lib.countB s sep + 1 := Lib.splitB_all sep h 0 _ s rfl
theorem extract_size (s : ByteArray) (a b : Nat) : (s.extract a b).size ≤ s.size := by
 rw [ByteArray.size_extract]; omega
theorem splitB_size (sep : ByteArray) (v : Nat) : ∀ (k : Nat) (s x : ByteArray), x ∈ Lib.splitB sep v k s → x.size ≤ s.size
 | 0, s, x, h => by
  rw [Lib.splitB_zero, List.mem_singleton] at h; subst h; exact Nat.le_refl _
 | k + 1, s, x, h => by
  unfold Lib.splitB at h
  split at h
  ·rw [List.mem_singleton] at h; subst h; exact Nat.le_refl _
  ·rcases List.mem_cons.1 h with rfl | h
   ·exact extract_size _ _ _
   ·exact Nat.le_trans (splitB_size sep v k _ x h) (extract_size _ _ _)
theorem cutB_size {s sep x : ByteArray} (h : x ∈ cutB s sep) : x.size ≤ s.size := splitB_size sep 0 _ s x h
theorem split_calls (s sep : ByteArray) (w : World) (hlay : Laid w) (hs : s.size ≤ 100000) (h1 : 1 ≤ sep.size) :
  Calls Tryd.prog 47 #[.string s, .string sep] w fun e w' => ∃ P, e = .returned (.slice (some ⟨P, 0, none⟩) (cutB s sep).length (cutB s sep).length) ∧ w'.heap[P]? = some (.cells ((cutB s sep).map Value.string).toArray 9 (0, 0)) ∧ w.heap.size ≤ P ∧ Below w.heap.size w w' := by
 obtain ⟨m, hm⟩ := hlay.len
 rw [cutB_len s sep h1]
 refine (Tryd.strings_Split s sep m w (by omega) hm h1).mono ?_
 rintro e w' ⟨rfl, rfl⟩
 exact ⟨_, rfl, box_heap _ _, Nat.le_refl _, below_alloc (Below.refl _ _) _⟩
theorem names_calls' (w : World) (hlay : Laid w) : Calls Tryd.prog 50 #[.string namesS] w fun e w' => ∃ g, e = .returned (.slice (some ⟨g, 0, none⟩) 4 4) ∧ w'.heap[g]? = some (.cells #[.string (wordS 0), .string (wordS 1), .string (wordS 2), .string (wordS 3)] 9 (0, 0)) ∧ Below w.heap.size w w' := by
 refine (names_calls w hlay).mono ?_
 rintro e w' ⟨rfl, rfl⟩
 exact ⟨_, rfl, box_heap _ _, below_alloc (Below.refl _ _) _⟩
theorem cut_form (s sep : ByteArray) (h : 1 ≤ sep.size) : ∃ q0 qs, cutB s sep = q0 :: qs := by
 cases hc : cutB s sep with
 | nil => have := cutB_len s sep h; rw [hc] at this; simp at this
 | cons q0 qs => exact ⟨q0, qs, rfl⟩
def idxB (x : ByteArray) : Int := if x.toList = (wordS 0).toList then 0 else if x.toList = (wordS 1).toList then 1 else if x.toList = (wordS 2).toList then 2 else if x.toList = (wordS 3).toList then 3 else -1
def namesL : List ByteArray := [wordS 0, wordS 1, wordS 2, wordS 3]
theorem idx_f (x : ByteArray) : slices_Index_string_string.f 6 namesL x = some (idxB x) := by
 unfold slices_Index_string_string.f idxB namesL
 have e1 : wrap64 (0 + 1) = 1 := by decide +kernel
 have e2 : wrap64 (1 + 1) = 2 := by decide +kernel
 have e3 : wrap64 (2 + 1) = 3 := by decide +kernel
 have e4 : wrap64 (3 + 1) = 4 := by decide +kernel
 simp only [slices_Index_string_string.l0, rdOf, List.length_cons, List.length_nil, e1, e2, e3, e4]
 simp
 repeat' split
 all_goals rfl
def numS (x : ByteArray) : Option Int := numB x.data.toList
def opR (p : ByteArray) : Option S67 :=
 if 3 < (cutB p blank).tail.length then none
 else ((cutB p blank).tail.mapM numS).map fun xs => ⟨idxB ((cutB p blank).headD ByteArray.empty), xs.getD 0 0, xs.getD 1 0, xs.getD 2 0⟩
def parseF (s : ByteArray) : Option (Int × List S67) :=
 if 40000 < s.size then none
 else (numS ((cutB s semi).headD ByteArray.empty)).bind fun n => ((cutB s semi).tail.mapM opR).bind fun ops => if validB n ops = true ∧ writeB n ops = s.data.toList then some (n, ops) else none
def undo_Parse.f (a0 : ByteArray) : Option (Int × List S67 × Int) := some (match parseF a0 with | some (n, ops) => (n, ops, 0) | none => (0, [], 3))
theorem mapM_next {α β : Type} {f : α → Option β} {l : List α} {j : Nat} {xs : List β} {x : β} (hj : j < l.length) (h : (l.take j).mapM f = some xs) (hx : f l[j] = some x) : (l.take (j + 1)).mapM f = some (xs ++ [x]) := by
 rw [List.take_succ_eq_append_getElem hj, List.mapM_append, h]
 simp [hx]
theorem mapM_stop {α β : Type} {f : α → Option β} {l : List α} {j : Nat} (hj : j < l.length) (hx : f l[j] = none) : l.mapM f = none := by
 have e : l = l.take j ++ l[j] :: l.drop (j + 1) := by
  rw [← List.drop_eq_getElem_cons hj, List.take_append_drop]
 rw [e, List.mapM_append]
 cases (l.take j).mapM f with
 | none => rfl
 | some y => rw [List.mapM_cons, hx]; rfl
structure PsAt (w : World) (R P Q : Nat) (parts : List ByteArray) (n : Int) (W : World) (v : Value) (ops : List S67) : Prop where
 res : W.heap[R]? = some (.cells #[.int .i64 0, .slice none 0 0] 25 (0, 0))
 prt : W.heap[P]? = some (.cells (parts.map Value.string).toArray 9 (0, 0))
 cur : W.heap[Q]? = some (.cells #[.int .i64 n, v] 25 (0, 0))
 row : Kd.R k67 67 W w.heap.size (fun _ => True) v ops
 below : Below w.heap.size w W
 out : w.heap.size ≤ R ∧ w.heap.size ≤ Q ∧ R ≠ Q
theorem lt_of_blk {W : World} {b : Nat} {o : Obj} (h : W.heap[b]? = some o) : b < W.heap.size := (Array.getElem?_eq_some_iff.1 h).1
theorem PsAt.later {w : World} {R P Q : Nat} {parts : List ByteArray} {n : Int} {W W' : World} {v : Value} {ops : List S67} (h : PsAt w R P Q parts n W v ops) (hb : Below W.heap.size W W') : PsAt w R P Q parts n W' v ops :=
 ⟨(hb.block R (lt_of_blk h.res)).trans h.res, (hb.block P (lt_of_blk h.prt)).trans h.prt, (hb.block Q (lt_of_blk h.cur)).trans h.cur, Kd.R_below h.row hb, below_step h.below hb, h.out⟩
theorem PsAt.drew {w : World} {R P Q : Nat} {parts : List ByteArray} {n : Int} {W : World} {v : Value} {ops : List S67} (h : PsAt w R P Q parts n W v ops) : PsAt w R P Q parts n W.drew v ops := h.later (below_drew (Below.refl _ _))
structure InAt (w : World) (R P Q Wd T ob : Nat) (parts ws : List ByteArray) (n : Int) (W : World) (v : Value) (ops : List S67) (o : S67) : Prop where
 ps : PsAt w R P Q parts n W v ops
 wrd : W.heap[Wd]? = some (.cells (ws.map Value.string).toArray 9 (0, 0))
 ptr : W.heap[T]? = some (.cells #[.pointer (some ⟨ob, 1, none⟩), .pointer (some ⟨ob, 2, none⟩), .pointer (some ⟨ob, 3, none⟩)] 74 (0, 0))
 op : W.heap[ob]? = some (.cells #[.int .i64 o.f0, .int .i64 o.f1, .int .i64 o.f2, .int .i64 o.f3] 67 (0, 0))
 away : v.ownBlock ≠ some ob
 ge : w.heap.size ≤ ob
theorem InAt.later {w : World} {R P Q Wd T ob : Nat} {parts ws : List ByteArray} {n : Int} {W W' : World} {v : Value} {ops : List S67} {o : S67} (h : InAt w R P Q Wd T ob parts ws n W v ops o) (hb : Below W.heap.size W W') : InAt w R P Q Wd T ob parts ws n W' v ops o :=
 ⟨h.ps.later hb, (hb.block Wd (lt_of_blk h.wrd)).trans h.wrd, (hb.block T (lt_of_blk h.ptr)).trans h.ptr, (hb.block ob (lt_of_blk h.op)).trans h.op, h.away, h.ge⟩
theorem blk_ne {W : World} {a b : Nat} {c1 c2 : Array Value} {t1 t2 : Nat} {f1 f2 : Nat × Nat} (h1 : W.heap[a]? = some (.cells c1 t1 f1)) (h2 : W.heap[b]? = some (.cells c2 t2 f2)) (ht : t1 ≠ t2) : a ≠ b := fun e => by
 subst e; rw [h1] at h2; injection h2 with h2; injection h2 with _ h2; exact ht h2
theorem R_mine {W : World} {base : Nat} {v : Value} {xs : List S67} (h : Kd.R k67 67 W base (fun _ => True) v xs) : Kd.R k67 67 W base (fun k => some k = v.ownBlock) v xs := ⟨fun k hk => hk.symm, h.2⟩
def setF (o : S67) (j : Nat) (x : Int) : S67 := if j = 0 then ⟨o.f0, x, o.f2, o.f3⟩ else if j = 1 then ⟨o.f0, o.f1, x, o.f3⟩ else ⟨o.f0, o.f1, o.f2, x⟩
theorem InAt.put {w : World} {R P Q Wd T ob : Nat} {parts ws : List ByteArray} {n : Int} {W : World} {v : Value} {ops : List S67} {o : S67} (h : InAt w R P Q Wd T ob parts ws n W v ops o) (j : Nat) (hj : j < 3) (x : Int) : InAt w R P Q Wd T ob parts ws n (W.setCell ⟨ob, j + 1, none⟩ (.int .i64 x)) v ops (setF o j x) := by
 have far : ∀ {b : Nat} {ob' : Obj}, W.heap[b]? = some ob' → b ≠ ob → (W.setCell ⟨ob, j + 1, none⟩ (.int .i64 x)).heap[b]? = some ob' := fun hb hn => (Below.heap_setCell _ _ _ _ hn).trans hb
 have nR := blk_ne h.ps.res h.op (by decide)
 have nP := blk_ne h.ps.prt h.op (by decide)
 have nQ := blk_ne h.ps.cur h.op (by decide)
 have nW := blk_ne h.wrd h.op (by decide)
 have nT := blk_ne h.ptr h.op (by decide)
 have hg : W.grownBy (W.setCell ⟨ob, j + 1, none⟩ (.int .i64 x)) (some ob) := ⟨rfl, rfl, rfl, by simp [World.setCell], fun k hk hne => Below.heap_setCell _ _ _ _ (fun e => hne (congrArg some e))⟩
 refine ⟨⟨far h.ps.res nR, far h.ps.prt nP, far h.ps.cur nQ, ?_, below_set h.ps.below h.ge, h.ps.out⟩, far h.wrd nW, far h.ptr nT, ?_, h.away, h.ge⟩
 ·exact Kd.R_mono (Kd.R_step (R_mine h.ps.row) (fun k hk _ => Below.heap_setCell _ _ _ _ (fun e => h.away (hk.symm.trans (congrArg some e))))) (fun _ _ => trivial)
 ·have hb := blk_set h.op (j + 1) (.int .i64 x)
  rw [hb]
  have : j = 0 ∨ j = 1 ∨ j = 2 := by omega
  rcases this with rfl | rfl | rfl <;> rfl
theorem InAt.cell {w : World} {R P Q Wd T ob : Nat} {parts ws : List ByteArray} {n : Int} {W : World} {v : Value} {ops : List S67} {o : S67} (h : InAt w R P Q Wd T ob parts ws n W v ops o) (j : Nat) (hj : j < 3) : ∃ x : Int, W.cell? ⟨ob, j + 1, none⟩ = some (.int .i64 x) ∧ W.frozen? ⟨ob, j + 1, none⟩ = false ∧ W.cell? ⟨T, j, none⟩ = some (.pointer (some ⟨ob, j + 1, none⟩)) := by
 have : j = 0 ∨ j = 1 ∨ j = 2 := by omega
 rcases this with rfl | rfl | rfl
 ·exact ⟨o.f1, (blk_cell h.op 1).trans rfl, blk_frozen h.op 1, (blk_cell h.ptr 0).trans rfl⟩
 ·exact ⟨o.f2, (blk_cell h.op 2).trans rfl, blk_frozen h.op 2, (blk_cell h.ptr 1).trans rfl⟩
 ·exact ⟨o.f3, (blk_cell h.op 3).trans rfl, blk_frozen h.op 3, (blk_cell h.ptr 2).trans rfl⟩
def opOf (i : Int) (xs : List Int) : S67 := ⟨i, xs.getD 0 0, xs.getD 1 0, xs.getD 2 0⟩
theorem opOf_next (i : Int) (xs : List Int) (x : Int) (h : xs.length < 3) : setF (opOf i xs) xs.length x = opOf i (xs ++ [x]) := by
 match xs, h with
 | [], _ => rfl
 | [a], _ => rfl
 | [a, b], _ => rfl
theorem str_cell {W : World} {b : Nat} {l : List ByteArray} {t : Nat} {f : Nat × Nat} (h : W.heap[b]? = some (.cells (l.map Value.string).toArray t f)) (i : Nat) (hi : i < l.length) : W.cell? ⟨b, i, none⟩ = some (.string l[i]) := by
 simp [World.cell?, h, hi]
theorem reads_str {W : World} {b : Nat} {l : List ByteArray} {t : Nat} {f : Nat × Nat} (h : W.heap[b]? = some (.cells (l.map Value.string).toArray t f)) (hl : l.length ≤ 100000) : Kd.C Kd.string W (some ⟨b, 0, none⟩) l.length l := by
 refine ⟨rfl, ?_, fun _ => ⟨_, rfl, fun j p hj => ⟨[.string p], rfl, rfl, fun i u hi => ?_⟩⟩⟩
 ·omega
 ·have hlt : j < l.length := (List.getElem?_eq_some_iff.1 hj).1
  have hp : l[j] = p := (List.getElem?_eq_some_iff.1 hj).2
  match i with
  | 0 =>
   obtain rfl := Option.some.inj hi
   have := str_cell h j hlt
   rw [hp] at this
   have e : (⟨b, 0, none⟩ : Addr).add (j * Kd.string.sz + 0) = ⟨b, j, none⟩ := by
    show (⟨b, 0, none⟩ : Addr).add (j * 1 + 0) = ⟨b, j, none⟩
    rw [Nat.mul_one, Nat.add_zero]; unfold Addr.add; split <;> simp_all
   rw [e]; exact this
  | i + 1 => simp at hi
end Go.Proofs.YthfhnkpipdbekaaDoor.Giv
