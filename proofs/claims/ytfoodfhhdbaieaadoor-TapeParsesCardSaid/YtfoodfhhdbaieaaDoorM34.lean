-- CUT by a program of this session: what the claim does not use is left out
import Derived.Test.YtfoodfhhdbaieaaDoorM33
namespace Go.Proofs.YtfoodfhhdbaieaaDoor.Giv
set_option maxRecDepth 100000
set_option linter.unusedVariables false
set_option linter.unusedSimpArgs false
open Go.RowKit Go.Shelf Go.Proofs.YtfoodfhhdbaieaaDoorW.PrintWords Go.Proofs.YtfoodfhhdbaieaaDoorW.PrintLast Go.Proofs.YtfoodfhhdbaieaaDoorW.PrintMore
open Go.Proofs.YtfoodfhhdbaieaaDoor.Ka (S40 k40 z40 rd_T40 at_T40 k40_open k40_mk rd_L1 at_L1 info3 info38 info40)
def parseF (s : ByteArray) : Option (Int × Int × Int × List S40) := if s.size ≤ 40000 then parseP intsR (cutB s semi) s else none
def zeroM : Value := .agg #[.int .i64 0, .int .i64 0, .int .i64 0, .slice none 0 0]
def ParseOut (w : World) (m : Option (Int × Int × Int × List S40)) (no yes : Value) (e : Ending) (w' : World) : Prop :=
 Below w.heap.size w w' ∧ match m with
  | none => e = .returned (.tuple #[zeroM, no])
  | some (a0, a1, a2, l) => ∃ A c, e = .returned (.tuple #[.agg #[.int .i64 a0, .int .i64 a1, .int .i64 a2, .slice A l.length c], yes]) ∧ l.length ≤ c ∧ ∃ base, RowsAt w' base (.slice A l.length c) l
theorem zero_cells {W : World} {b : Nat} (h : W.heap[b]? = some (.cells #[.int .i64 0, .int .i64 0, .int .i64 0, .slice none 0 0] 24 (0, 0))) : W.cell? ⟨b, 0, none⟩ = some (.int .i64 0) ∧ W.cell? ⟨b, 1, none⟩ = some (.int .i64 0) ∧ W.cell? ⟨b, 2, none⟩ = some (.int .i64 0) ∧ W.cell? ⟨b, 3, none⟩ = some (.slice none 0 0) ∧ W.frozen? ⟨b, 0, none⟩ = false ∧ W.frozen? ⟨b, 1, none⟩ = false ∧ W.frozen? ⟨b, 2, none⟩ = false ∧ W.frozen? ⟨b, 3, none⟩ = false :=
 ⟨(blk_cell h 0).trans rfl, (blk_cell h 1).trans rfl, (blk_cell h 2).trans rfl, (blk_cell h 3).trans rfl, blk_frozen h 0, blk_frozen h 1, blk_frozen h 2, blk_frozen h 3⟩
theorem parseP_head_none {nr : ByteArray → Option (List Int)} {q0 : ByteArray} {qs : List ByteArray} {s : ByteArray} (h : nr q0 = none) : parseP nr (q0 :: qs) s = none := by
 unfold parseP readM; rw [List.headD_cons, h]; rfl
theorem parseP_head_bad {nr : ByteArray → Option (List Int)} {q0 : ByteArray} {qs : List ByteArray} {s : ByteArray} {l : List Int} (h : nr q0 = some l) (hb : ¬ (l.length = 3 ∧ 1 ≤ rd l 2 ∧ rd l 2 ≤ 3)) : parseP nr (q0 :: qs) s = none := by
 unfold parseP readM; rw [List.headD_cons, h]; simp only [Option.bind_some]; rw [if_neg hb]; rfl
theorem parseP_rules_none {nr : ByteArray → Option (List Int)} {q0 : ByteArray} {qs : List ByteArray} {s : ByteArray} {x y z : Int} (h : nr q0 = some [x, y, z]) (hm : qs.mapM (ruleR nr z.toNat) = none) : parseP nr (q0 :: qs) s = none := by
 unfold parseP readM; rw [List.headD_cons, h]; simp only [Option.bind_some]
 split
 ·show ((qs.mapM (ruleR nr z.toNat)).bind _).bind _ = none
  rw [hm]; rfl
 ·rfl
theorem parseP_done {nr : ByteArray → Option (List Int)} {q0 : ByteArray} {qs : List ByteArray} {s : ByteArray} {x y z : Int} {rs : List S40} (h : nr q0 = some [x, y, z]) (hz : 1 ≤ z ∧ z ≤ 3) (hm : qs.mapM (ruleR nr z.toNat) = some rs) :
  parseP nr (q0 :: qs) s = if validM x y z rs = true ∧ writeT x y z rs = s.data.toList then some (x, y, z, rs) else none := by
 unfold parseP readM; rw [List.headD_cons, h]; simp only [Option.bind_some]
 rw [if_pos ⟨rfl, hz.1, hz.2⟩]
 show ((qs.mapM (ruleR nr z.toNat)).bind _).bind _ = _
 rw [hm]; rfl
structure ReadAt (W1 : World) (P gb : Nat) (cur : Array Value) (x y z : Int) (W : World) (v : Value) (rs : List S40) : Prop where
 prt : W.heap[P]? = some (.cells cur 9 (0, 0))
 box : W.heap[gb]? = some (.cells #[.int .i64 x, .int .i64 y, .int .i64 z, v] 24 (0, 0))
 rows : RowsAt W W1.heap.size v rs
 below : Below W1.heap.size W1 W
 hg : W1.heap.size ≤ gb
theorem ReadAt.later {W1 W W' : World} {P gb : Nat} {cur : Array Value} {x y z : Int} {v : Value} {rs : List S40} (h : ReadAt W1 P gb cur x y z W v rs) (hb : Below W.heap.size W W') : ReadAt W1 P gb cur x y z W' v rs :=
 ⟨(hb.block _ (Array.getElem?_eq_some_iff.1 h.prt).1).trans h.prt, (hb.block _ (Array.getElem?_eq_some_iff.1 h.box).1).trans h.box, h.rows.below hb, below_step h.below hb, h.hg⟩
theorem box_cells {W : World} {b : Nat} {c0 c1 c2 c3 : Value} (h : W.heap[b]? = some (.cells #[c0, c1, c2, c3] 24 (0, 0))) : W.cell? ⟨b, 0, none⟩ = some c0 ∧ W.cell? ⟨b, 1, none⟩ = some c1 ∧ W.cell? ⟨b, 2, none⟩ = some c2 ∧ W.cell? ⟨b, 3, none⟩ = some c3 :=
 ⟨(blk_cell h 0).trans rfl, (blk_cell h 1).trans rfl, (blk_cell h 2).trans rfl, (blk_cell h 3).trans rfl⟩
theorem RowsAt.set {W : World} {base b i : Nat} {v u : Value} {cs : Array Value} {rs : List S40} (h : RowsAt W base v rs) (hb : W.heap[b]? = some (.cells cs 24 (0, 0))) : RowsAt (W.setCell ⟨b, i, none⟩ u) base v rs := by
 obtain ⟨css, ho, ha⟩ := h
 refine ⟨css, own_move ho (fun k hk => ?_), ha.keep (Keep3.of_set hb (by decide))⟩
 refine Below.heap_setCell _ _ _ _ (fun e => ?_)
 subst e
 obtain ⟨cells, hc⟩ := own_typed ho _ hk
 rw [hb] at hc
 cases hc
theorem cell5 {x0 x2 : Int} {A1 A3 A4 : Option Addr} {n1 n3 n4 c1 c3 c4 : Nat} : ∀ u ∈ [Value.int .i64 x0, .slice A1 n1 c1, .int .i64 x2, .slice A3 n3 c3, .slice A4 n4 c4], u.oneCell' = true := by
 simp [Value.oneCell']
theorem read_push {W1 W0 W2 : World} {P gb : Nat} {cur : Array Value} {x y z : Int} {A A1 A3 A4 : Option Addr} {n c n1 n3 n4 c1 c3 c4 : Nat} {rs : List S40} {r : S40}
  (h : ReadAt W1 P gb cur x y z W0 (.slice A n c) rs) (hW : W0.alloc (.cells #[.int .i64 r.f0, .slice A1 n1 c1, .int .i64 r.f2, .slice A3 n3 c3, .slice A4 n4 c4] 40) = W2)
  (e1 : n1 = r.f1.length) (e3 : n3 = r.f3.length) (e4 : n4 = r.f4.length) (h1 : SlAt W0 A1 c1 r.f1) (h3 : SlAt W0 A3 c3 r.f3) (h4 : SlAt W0 A4 c4 r.f4) :
  n = rs.length ∧ W2.heap[W0.heap.size]? = some (.cells #[.int .i64 r.f0, .slice A1 n1 c1, .int .i64 r.f2, .slice A3 n3 c3, .slice A4 n4 c4] 40 (0, 0)) ∧ W1.heap.size ≤ W2.heap.size ∧ ∃ xs, W2.ownsRow W1.heap.size 40 5 (.slice A n c) n xs ∧
   ∀ v' w', w'.ownsRow W1.heap.size 40 5 v' (n + 1) (xs ++ [.int .i64 r.f0, .slice A1 n1 c1, .int .i64 r.f2, .slice A3 n3 c3, .slice A4 n4 c4]) → W2.grownBy w' (Value.slice A n c).ownBlock →
    w'.heap[gb]? = some (.cells #[.int .i64 x, .int .i64 y, .int .i64 z, .slice A n c] 24 (0, 0)) ∧ ReadAt W1 P gb cur x y z (w'.setCell ⟨gb, 3, none⟩ v') v' (rs ++ [r]) := by
 have hn := h.rows.C.1
 subst hn; subst e1; subst e3; subst e4
 obtain ⟨css, ho, ha⟩ := h.rows
 have hb2 : Below W0.heap.size W0 W2 := by rw [← hW]; exact below_alloc (Below.refl _ _) _
 have hbk : W2.heap[W0.heap.size]? = some (.cells #[.int .i64 r.f0, .slice A1 r.f1.length c1, .int .i64 r.f2, .slice A3 r.f3.length c3, .slice A4 r.f4.length c4] 40 (0, 0)) := by rw [← hW]; exact box_at _ _
 have hs2 := hb2.size
 have ho2 := pw_own_below ho hb2
 refine ⟨rfl, hbk, by have := h.below.size; omega, css.flatten, ho2, fun v' w' q1 q2 => ?_⟩
 have keepb : ∀ (k : Nat) (cs : Array Value) (t : TypeId), W0.heap[k]? = some (.cells cs t (0, 0)) → t ≠ 40 → w'.heap[k]? = some (.cells cs t (0, 0)) := fun k cs t hk ht => by
  have hlt : k < W0.heap.size := (Array.getElem?_eq_some_iff.1 hk).1
  refine (q2.block k (by omega) (fun e => ?_)).trans ((hb2.block k hlt).trans hk)
  obtain ⟨cells, hc⟩ := own_typed ho k e.symm
  rw [hk] at hc
  cases hc
  exact ht rfl
 have hbox := keepb gb _ 24 h.box (by decide)
 have kp : Keep3 W0 w' := Keep3.trans (Keep3.of_below hb2) (Keep3.of_grown ho2 (by decide) q2)
 have hne : P ≠ gb := fun e => by
  have h9 := h.prt
  subst e
  rw [h.box] at h9
  injection h9 with h9
  injection h9 with _ h9
  exact absurd h9 (by decide)
 have hb3 : Below W1.heap.size W1 W2 := below_step h.below hb2
 refine ⟨hbox, ⟨(Below.heap_setCell _ _ _ _ hne).trans (keepb P _ 9 h.prt (by decide)), blk_set hbox 3 v', RowsAt.set ⟨css ++ [_], ?_, (ha.keep kp).push ⟨A1, c1, A3, c3, A4, c4, rfl, h1.keep kp, h3.keep kp, h4.keep kp⟩⟩ hbox, below_set (hb3.grown q2 hb3.size (fun k hk => own_base ho k hk)) h.hg, h.hg⟩⟩
 rw [List.length_append, List.flatten_append, List.flatten_singleton]
 exact q1
theorem done_out {w W1 W9 : World} {x y z : Int} {A : Option Addr} {n c : Nat} {rs : List S40} (HR : W9.heap[w.heap.size]? = some (.cells #[.int .i64 0, .int .i64 0, .int .i64 0, .slice none 0 0] 24 (0, 0))) (hb : Below w.heap.size w W9) (hr : RowsAt W9 W1.heap.size (.slice A n c) rs) :
  ∃ W, (((W9.setCell ⟨w.heap.size, 0, none⟩ (.int .i64 x)).setCell ⟨w.heap.size, 1, none⟩ (.int .i64 y)).setCell ⟨w.heap.size, 2, none⟩ (.int .i64 z)).setCell ⟨w.heap.size, 3, none⟩ (.slice A n c) = W ∧
   (W.cell? ⟨w.heap.size, 0, none⟩ = some (.int .i64 x) ∧ W.cell? ⟨w.heap.size, 1, none⟩ = some (.int .i64 y) ∧ W.cell? ⟨w.heap.size, 2, none⟩ = some (.int .i64 z) ∧ W.cell? ⟨w.heap.size, 3, none⟩ = some (.slice A n c)) ∧ Below w.heap.size w W ∧ RowsAt W W1.heap.size (.slice A n c) rs := by
 have h0 := blk_set HR 0 (.int .i64 x)
 have h1 := blk_set h0 1 (.int .i64 y)
 have h2 := blk_set h1 2 (.int .i64 z)
 have h3 := blk_set h2 3 (.slice A n c)
 have r3 := (((hr.set (i := 0) (u := .int .i64 x) HR).set (i := 1) (u := .int .i64 y) h0).set (i := 2) (u := .int .i64 z) h1).set (i := 3) (u := .slice A n c) h2
 exact ⟨_, rfl, box_cells h3, below_set (below_set (below_set (below_set hb (Nat.le_refl _)) (Nat.le_refl _)) (Nat.le_refl _)) (Nat.le_refl _), r3⟩
theorem own_cap {W : World} {base g cap n : Nat} {xs : List Value} (h : W.ownsRow base 3 1 (.slice (some ⟨g, 0, none⟩) n cap) n xs) : n ≤ cap := by
 obtain ⟨_, ⟨h2, _⟩ | ⟨g', cap', cur, e, hg, hh, h3, h4, h5, h6⟩⟩ := h
 ·cases h2
 ·injection e with e1 e2 e3
  omega
theorem RowAt.rdcell {W : World} {g : Nat} {l : List Int} (h : RowAt W g l) {j : Nat} (hj : j < l.length) : W.cell? ⟨g, j, none⟩ = some (.int .i64 (rd l (j : Int))) := by
 rw [h.cell hj]; simp [rd, hj]
theorem rule_parts {W : World} {base g cap k : Nat} {l : List Int} (h : W.ownsRow base 3 1 (.slice (some ⟨g, 0, none⟩) l.length cap) l.length (l.map (Value.int .i64))) (hl : l.length = 2 + 3 * k) (hk : k ≤ 3) :
  ((ruleOf k l).f1.length = k ∧ (ruleOf k l).f3.length = k ∧ (ruleOf k l).f4.length = k) ∧ ∀ c1 c3 c4, k ≤ c1 → k ≤ c3 → k ≤ c4 → SlAt W (some ⟨g, 1, none⟩) c1 (ruleOf k l).f1 ∧ SlAt W (some ⟨g, k + 2, none⟩) c3 (ruleOf k l).f3 ∧ SlAt W (some ⟨g, 2 * k + 2, none⟩) c4 (ruleOf k l).f4 := by
 have hm : l.length ≤ maxLen := by unfold maxLen; omega
 refine ⟨⟨by simp [ruleOf]; omega, by simp [ruleOf]; omega, by simp [ruleOf]; omega⟩, fun c1 c3 c4 h1 h3 h4 => ⟨SlAt.of_own h h1 (by omega) hm, SlAt.of_own h h3 (by omega) hm, ?_⟩⟩
 have := SlAt.of_own (o := 2 * k + 2) (k := k) (c := c4) h h4 (by omega) hm
 rwa [List.take_of_length_le (by simp; omega)] at this
theorem RowsAt.slice {W : World} {base : Nat} {v : Value} {rs : List S40} (h : RowsAt W base v rs) : ∃ A n c, v = .slice A n c := by
 obtain ⟨css, ho, _⟩ := h
 obtain ⟨A, c, e⟩ := own_slice ho
 exact ⟨A, _, c, e⟩
theorem list3 {l : List Int} (h : l.length = 3) : ∃ x y z, l = [x, y, z] := by
 match l, h with
 | [x, y, z], _ => exact ⟨x, y, z, rfl⟩
def reg14_7.T : Bool × List (List Nat × List Nat) := (true, [([], []), ([0], [0]), ([1], [1]), ([], []), ([3], [3]), ([4], [4]), ([], []), ([6], [6]), ([7], [7]), ([2, 5, 8], [2, 5, 8]), ([], []), ([10, 9, 0, 1, 2, 3, 4, 5, 6, 7, 8, 9, 10], [9, 10])])
def reg14_7.B : List Nat := [0, 1, 3, 0, 8, 24, 0, 64, 192, 511, 0, 2047]
theorem reg14_7.tab : rtab .any (opsOf Tryd.f14 7) = reg14_7.T := by kernel_rfl
theorem reg14_7.bits : waitsOk reg14_7.T.2 reg14_7.B = true := by kernel_rfl
def reg14_15.T : Bool × List (List Nat × List Nat) := (true, [([], []), ([0], [0]), ([], []), ([2], [2]), ([3], [3]), ([], []), ([], []), ([6], [6]), ([], []), ([8], [8]), ([5, 7, 9], [5, 7, 9]), ([], []), ([], []), ([12], [12]), ([11, 13], [11, 13]), ([14], [14]), ([], []), ([], []), ([17], [17]), ([], []), ([19], [19]), ([20], [20]), ([], []), ([22], [22]), ([23], [23]), ([16, 18, 21, 24], [16, 18, 21, 24]), ([], []), ([], []), ([27], [27]), ([28], [28]), ([26, 29], [26, 29]), ([4, 10, 15, 25, 30], [4, 10, 15, 25, 30]), ([31], [31]), ([1, 32], [1, 32]), ([0, 1, 2, 3, 4, 5, 6, 7, 8, 9, 10, 11, 12, 13, 14, 15, 16, 17, 18, 19, 20, 21, 22, 23, 24, 25, 26, 27, 28, 29, 30, 31, 32, 33], []), ([34, 33, 33, 0, 1, 2, 3, 4, 5, 6, 7, 8, 9, 10, 11, 12, 13, 14, 15, 16, 17, 18, 19, 20, 21, 22, 23, 24, 25, 26, 27, 28, 29, 30, 31, 32, 33], [33, 34])])
def reg14_15.B : List Nat := [0, 1, 0, 4, 12, 0, 0, 64, 0, 256, 992, 0, 0, 4096, 14336, 30720, 0, 0, 131072, 0, 524288, 1572864, 0, 4194304, 12582912, 33488896, 0, 0, 134217728, 402653184, 1006632960, 2147483644, 4294967292, 8589934591, 17179869183, 34359738367]
theorem reg14_15.tab : rtab .any (opsOf Tryd.f14 15) = reg14_15.T := by kernel_rfl
theorem reg14_15.bits : waitsOk reg14_15.T.2 reg14_15.B = true := by kernel_rfl
set_option maxHeartbeats 16000000 in
theorem parse_calls (s : ByteArray) (w : World) (hlay : LaidP w) (hsz : s.size ≤ 140737488351232) :
  Calls Tryd.prog 14 #[.string s] w (ParseOut w (parseF s) (.int .i64 3) (.int .i64 0)) := by
 have HLAY := Aside0.mk hlay
 obtain ⟨W1, hW1⟩ : ∃ W1, w.alloc (.cells #[.int .i64 0, .int .i64 0, .int .i64 0, .slice none 0 0] 24) = W1 := ⟨_, rfl⟩
 have HB1 : Aside0 (Below w.heap.size w W1) := ⟨by rw [← hW1]; exact below_alloc (Below.refl _ _) _⟩
 have hbx0 : W1.heap[w.heap.size]? = some (.cells #[.int .i64 0, .int .i64 0, .int .i64 0, .slice none 0 0] 24 (0, 0)) := by rw [← hW1]; exact box_at _ _
 have hz1 : W1.heap.size = w.heap.size + 1 := by rw [← hW1]; simp
 have res0 : ∀ {W}, Below W1.heap.size W1 W → W.heap[w.heap.size]? = some (.cells #[.int .i64 0, .int .i64 0, .int .i64 0, .slice none 0 0] 24 (0, 0)) := fun hb => (hb.block _ (Array.getElem?_eq_some_iff.1 hbx0).1).trans hbx0
 have HW1 := Aside0.mk hW1
 have HZ1 := Aside0.mk hz1
 have HSS := Aside0.mk hsz
 clear hlay hbx0 hz1 hsz
 by_cases c0 : s.size ≤ 40000
 ·have d1 : decide ((40000 : Int) < (s.size : Int)) = false := decide_eq_false (by omega)
  have d2 : decide (40000 < s.size) = false := decide_eq_false (by omega)
  have d3 : (40000 < s.size) = False := eq_false (by omega)
  have HF : Aside0 (parseF s = parseP intsR (cutB s semi) s) := ⟨if_pos c0⟩
  have HS := Aside0.mk c0
  rw [HF.out]
  clear c0 hW1
  obtain ⟨q0, qs, hq⟩ := cut_form s semi (by decide)
  have HQL : Aside0 (∀ x ∈ q0 :: qs, x.size ≤ 40000) := ⟨fun x hx => by rw [← hq] at hx; exact Nat.le_trans (cutB_size hx) HS.out⟩
  have HCQ := Aside0.mk hq
  have HCB : Aside0 ((cutB q0 blank).length ≤ 100001) := ⟨by rw [cutB_len _ _ (by decide)]; have h1 := Lib.countB_le blank (by decide) q0.size q0 (Nat.le_refl _); have := HQL.out q0 List.mem_cons_self; omega⟩
  cases hi : intsR q0 with
  | none =>
   rw [hq, parseP_head_none hi]
   have HI := Aside0.mk hi
   clear hq hi
   go_enter Tryd.func14, Tryd.ntmps14
   go_wp2_with (first | (go_at_call 28; (rw [HW1.out]; refine (split_calls s semi W1 (HLAY.out.below HB1.out) (by have := HS.out; omega) (by decide)).mono ?_; rw [HCQ.out]; rintro e w2 ⟨P, rfl, hP, hPb, hb⟩; have HP := Aside0.mk hP; have HPB := Aside0.mk hPb; have HBL := Aside0.mk hb; have hp0 := str_at hP (i := 0) (by simp); clear hP hPb hb)) | (go_at_call 29; (refine (integers_calls q0 _ (HLAY.out.below (below_step HB1.out HBL.out)) (by have := HQL.out q0 List.mem_cons_self; omega) HCB.out).mono ?_; rw [HI.out]; rintro e w3 ⟨v3, rfl, hno, hyes, hb⟩; have HP3 := Aside0.mk ((hb.block _ (Array.getElem?_eq_some_iff.1 HP.out).1).trans HP.out); have HOW := Aside0.mk hyes; have HNO := Aside0.mk hno; have HBM := HBL; have HBL := Aside0.mk (below_step HBL.out hb); obtain ⟨z0, z1, z2, z3, f0, f1, f2, f3⟩ := zero_cells (res0 HBL.out); clear hno hyes hb)))
   refine bodyPost_ret (v := .tuple #[zeroM, .int .i64 3]) (by simp [results, Tryd.results14, go_sem, z0, z1, z2, z3, zeroM]) rfl ?_
   exact ⟨below_set (below_set (below_set (below_set (below_step HB1.out HBL.out) (Nat.le_refl _)) (Nat.le_refl _)) (Nat.le_refl _)) (Nat.le_refl _), rfl⟩
  | some h =>
   have HI := Aside0.mk hi
   by_cases h3 : h.length = 3
   ·obtain ⟨x, y, z, rfl⟩ := list3 h3
    have HH3 := Aside0.mk h3
    clear h3
    by_cases hz : 1 ≤ z ∧ z ≤ 3
    ·rw [hq]
     have HZ := Aside0.mk hz
     have e1 : decide (z < 1) = false := decide_eq_false (by omega)
     have e2 : decide (3 < z) = false := decide_eq_false (by omega)
     clear hq hi hz
     go_enter Tryd.func14, Tryd.ntmps14
     go_wp2_with (first | (go_at_call 28; (rw [HW1.out]; refine (split_calls s semi W1 (HLAY.out.below HB1.out) (by have := HS.out; omega) (by decide)).mono ?_; rw [HCQ.out]; rintro e w2 ⟨P, rfl, hP, hPb, hb⟩; have HP := Aside0.mk hP; have HPB := Aside0.mk hPb; have HBL := Aside0.mk hb; have hp0 := str_at hP (i := 0) (by simp); clear hP hPb hb)) | (go_at_call 29; (refine (integers_calls q0 _ (HLAY.out.below (below_step HB1.out HBL.out)) (by have := HQL.out q0 List.mem_cons_self; omega) HCB.out).mono ?_; rw [HI.out]; rintro e w3 ⟨v3, rfl, hno, hyes, hb⟩; have HP3 := Aside0.mk ((hb.block _ (Array.getElem?_eq_some_iff.1 HP.out).1).trans HP.out); have HOW := Aside0.mk hyes; have HNO := Aside0.mk hno; have HBM := HBL; have HBL := Aside0.mk (below_step HBL.out hb); obtain ⟨z0, z1, z2, z3, f0, f1, f2, f3⟩ := zero_cells (res0 HBL.out); obtain ⟨gh, ch, eh, hgh, hrow⟩ := own_row (l := [x, y, z]) (hyes _ rfl) rfl (by simp); subst eh; have HGH := Aside0.mk hgh; have HRH := Aside0.mk hrow; have x0 := hrow.cell (j := 0) (by simp); have x1 := hrow.cell (j := 1) (by simp); have x2 := hrow.cell (j := 2) (by simp); clear hno hyes hb hgh hrow)))
     refine start_ (n := 12) (S := fun w' => w'.cell? ⟨gh, 0, none⟩ = some (.int .i64 x) ∧ w'.cell? ⟨gh, 1, none⟩ = some (.int .i64 y) ∧ w'.cell? ⟨gh, 2, none⟩ = some (.int .i64 z)) (ds := [11]) #[false, false, false, false, false, false, false, false, false, false, false, false] (by kernel_rfl) rfl rfl ⟨x0, x1, x2⟩ (fun hHeld => ?_); refine with_tabW reg14_7.tab reg14_7.bits (fun HT_ HW_ => ?_)
     have HBL0 : Aside0 (Below W1.heap.size W1 w3.drew) := ⟨below_drew HBL.out⟩
     have HP0 : Aside0 (w3.drew.heap[P]? = some (.cells ((q0 :: qs).map Value.string).toArray 9 (0, 0))) := ⟨HP3.out⟩
     generalize w3.drew = W0 at HBL0 HP0 hHeld ⊢
     clear x0 x1 x2
     refine pure_ (i := 0) (N := some 46) (v := ?_) (a' := ?_) #[true, false, false, false, false, false, false, false, false, false, false, false] rfl rfl (any_of HT_.out (by kernel_rfl)) (fun _ _ _ h => h) (Or.inl ⟨by rfl, ?_⟩) ?_ ?_
     rotate_left
     ·intro w'
      go_simp
      with_reducible rfl
     rotate_left
     ·simp only [Act.put, List.setIfInBounds_toArray, List.set_cons_zero, List.set_cons_succ, i64_w, i32_w]
      rfl
     refine pure_ (i := 1) (N := some 47) (v := ?_) (a' := ?_) #[true, true, false, false, false, false, false, false, false, false, false, false] rfl rfl (any_of HT_.out (by kernel_rfl)) (fun _ _ _ h => h) (Or.inl ⟨by rfl, ?_⟩) ?_ ?_
     rotate_left
     ·intro w'
      go_simp
      with_reducible rfl
     rotate_left
     ·simp only [Act.put, List.setIfInBounds_toArray, List.set_cons_zero, List.set_cons_succ, i64_w, i32_w]
      rfl
     refine take_ (i := 2) (N := some 48) (v := ?_) (a' := ?_) #[true, true, true, false, false, false, false, false, false, false, false, false] rfl rfl (take_ofW HT_.out HW_.out (by kernel_rfl)) (fun _ _ _ h => h) (Or.inl ⟨by rfl, ?_⟩) hHeld ?_ ?_
     rotate_left
     ·rintro w' ⟨s0, s1, s2⟩
      go_simp
      with_reducible rfl
     rotate_left
     ·simp only [Act.put, List.setIfInBounds_toArray, List.set_cons_zero, List.set_cons_succ, i64_w, i32_w]
      rfl
     refine pure_ (i := 3) (N := some 49) (v := ?_) (a' := ?_) #[true, true, true, true, false, false, false, false, false, false, false, false] rfl rfl (any_of HT_.out (by kernel_rfl)) (fun _ _ _ h => h) (Or.inl ⟨by rfl, ?_⟩) ?_ ?_
     rotate_left
     ·intro w'
      go_simp
      with_reducible rfl
     rotate_left
     ·simp only [Act.put, List.setIfInBounds_toArray, List.set_cons_zero, List.set_cons_succ, i64_w, i32_w]
      rfl
     refine pure_ (i := 4) (N := some 50) (v := ?_) (a' := ?_) #[true, true, true, true, true, false, false, false, false, false, false, false] rfl rfl (any_of HT_.out (by kernel_rfl)) (fun _ _ _ h => h) (Or.inl ⟨by rfl, ?_⟩) ?_ ?_
     rotate_left
     ·intro w'
      go_simp
      with_reducible rfl
     rotate_left
     ·simp only [Act.put, List.setIfInBounds_toArray, List.set_cons_zero, List.set_cons_succ, i64_w, i32_w]
      rfl
     refine take_ (i := 5) (N := some 51) (v := ?_) (a' := ?_) #[true, true, true, true, true, true, false, false, false, false, false, false] rfl rfl (take_ofW HT_.out HW_.out (by kernel_rfl)) (fun _ _ _ h => h) (Or.inl ⟨by rfl, ?_⟩) hHeld ?_ ?_
     rotate_left
     ·rintro w' ⟨s0, s1, s2⟩
      go_simp
      with_reducible rfl
     rotate_left
     ·simp only [Act.put, List.setIfInBounds_toArray, List.set_cons_zero, List.set_cons_succ, i64_w, i32_w]
      rfl
     refine pure_ (i := 6) (N := some 52) (v := ?_) (a' := ?_) #[true, true, true, true, true, true, true, false, false, false, false, false] rfl rfl (any_of HT_.out (by kernel_rfl)) (fun _ _ _ h => h) (Or.inl ⟨by rfl, ?_⟩) ?_ ?_
     rotate_left
     ·intro w'
      go_simp
      with_reducible rfl
     rotate_left
     ·simp only [Act.put, List.setIfInBounds_toArray, List.set_cons_zero, List.set_cons_succ, i64_w, i32_w]
      rfl
     refine pure_ (i := 7) (N := some 53) (v := ?_) (a' := ?_) #[true, true, true, true, true, true, true, true, false, false, false, false] rfl rfl (any_of HT_.out (by kernel_rfl)) (fun _ _ _ h => h) (Or.inl ⟨by rfl, ?_⟩) ?_ ?_
     rotate_left
     ·intro w'
      go_simp
      with_reducible rfl
     rotate_left
     ·simp only [Act.put, List.setIfInBounds_toArray, List.set_cons_zero, List.set_cons_succ, i64_w, i32_w]
      rfl
     refine take_ (i := 8) (N := some 54) (v := ?_) (a' := ?_) #[true, true, true, true, true, true, true, true, true, false, false, false] rfl rfl (take_ofW HT_.out HW_.out (by kernel_rfl)) (fun _ _ _ h => h) (Or.inl ⟨by rfl, ?_⟩) hHeld ?_ ?_
     rotate_left
     ·rintro w' ⟨s0, s1, s2⟩
      go_simp
      with_reducible rfl
     rotate_left
     ·simp only [Act.put, List.setIfInBounds_toArray, List.set_cons_zero, List.set_cons_succ, i64_w, i32_w]
      rfl
     refine pure_ (i := 9) (N := some 55) (v := ?_) (a' := ?_) #[true, true, true, true, true, true, true, true, true, true, false, false] rfl rfl (any_of HT_.out (by kernel_rfl)) (fun _ _ _ h => h) (Or.inl ⟨by rfl, ?_⟩) ?_ ?_
     rotate_left
     ·intro w'
      go_simp
      with_reducible rfl
     rotate_left
     ·simp only [Act.put, List.setIfInBounds_toArray, List.set_cons_zero, List.set_cons_succ, i64_w, i32_w]
      rfl
     refine one_ (i := 10) (N := some 7) #[true, true, true, true, true, true, true, true, true, true, true, false] rfl rfl (one_of HT_.out (by kernel_rfl)) (by decide) (fun K hK => ?_)
     refine box_step ?hg (N := 7) ?hd (cs := #[.int .i64 0, .int .i64 0, .int .i64 0, .slice none 0 0]) (t := 24) ?hr ?_; (case hd => rfl); (case hg => rfl); (case hr => first | (go_simp; done) | (go_simp; rfl))
     intro gb hg w4 hbox hb
     have HBX := Aside0.mk hbox
     have HGB := Aside0.mk hg
     have HB4 := Aside0.mk hb
     clear hbox hg hb
     refine hK.out _ _ ⟨pw_cell_below HB4.out hHeld.1, pw_cell_below HB4.out hHeld.2.1, pw_cell_below HB4.out hHeld.2.2⟩ (fun hHeld => ?_)
     clear hK K
     refine norm_ (a' := ?_) ?_ ?_
     rotate_left
     ·show Act.put _ (some 7) _ = _
      simp only [Act.put, List.setIfInBounds_toArray, List.set_cons_zero, List.set_cons_succ, i64_w, i32_w]
      rfl
     refine last_ (i := 11) (N := none) #[true, true, true, true, true, true, true, true, true, true, true, true] rfl rfl (one_of HT_.out (by kernel_rfl)) (by decide) (fun K hK => ?_)
     obtain ⟨y0, y1, y2, y3, f0', f1', f2', f3'⟩ := zero_cells HBX.out
     refine skip_ (w1 := ?_) (by rfl) rfl ?_ ?_
     rotate_left
     ·go_simp
      rfl
     refine hK.out _ _ ?_
     clear hK K
     refine done_ (done_of HT_.out (by kernel_rfl)) ?_
     have HRD : Aside0 (ReadAt W1 P gb ((q0 :: qs).map Value.string).toArray x y z ((((w4.setCell ⟨gb, 0, none⟩ (.int .i64 x)).setCell ⟨gb, 1, none⟩ (.int .i64 y)).setCell ⟨gb, 2, none⟩ (.int .i64 z)).setCell ⟨gb, 3, none⟩ (.slice none 0 0)) (.slice none 0 0) []) := ⟨by
      have hgs : W0.heap.size ≤ gb := by have := HGB.out; omega
      have hb5 := below_set (below_set (below_set (below_set (j := 0) (v := .int .i64 x) HB4.out hgs) (j := 1) (v := .int .i64 y) hgs) (j := 2) (v := .int .i64 z) hgs) (j := 3) (v := .slice none 0 0) hgs
      exact ⟨(hb5.block _ (Array.getElem?_eq_some_iff.1 HP0.out).1).trans HP0.out, blk_set (blk_set (blk_set (blk_set HBX.out 0 _) 1 _) 2 _) 3 _, RowsAt.nil _ _, below_step HBL0.out hb5, by have := HBL0.out.size; omega⟩⟩
     generalize ((((w4.setCell ⟨gb, 0, none⟩ (.int .i64 x)).setCell ⟨gb, 1, none⟩ (.int .i64 y)).setCell ⟨gb, 2, none⟩ (.int .i64 z)).setCell ⟨gb, 3, none⟩ (.slice none 0 0)) = W5 at HRD ⊢
     clear y0 y1 y2 y3 f0' f1' f2' f3' HBX HGB HB4 HBL0 HP0
     have zk : W5.cell? ⟨gb, 2, none⟩ = some (.int .i64 z) := (box_cells HRD.out.box).2.2.1
     by_cases he : qs = []
     ·subst he
      go_wp2
      go_loopg [61] 0 (fun gg s61 wr => s61 = .int .i64 0 ∧ wr = W5)
      case atStart => exact ⟨rfl, rfl⟩
      case round =>
       obtain ⟨rfl, hwr⟩ := hrel
       subst hwr
       have HM : Aside0 (([] : List ByteArray).mapM (ruleR intsR z.toNat) = some []) := ⟨rfl⟩
       obtain ⟨v, hv⟩ : ∃ v, v = Value.slice none 0 0 := ⟨_, rfl⟩
       obtain ⟨rs, hrs⟩ : ∃ rs : List S40, rs = [] := ⟨_, rfl⟩
       have HLQ : Aside0 (rs.length ≤ 100000) := ⟨by rw [hrs]; simp⟩
       rw [← hv, ← hrs] at HRD
       rw [← hrs] at HM
       clear hv hrs zk
       obtain ⟨A, n, c, hvA⟩ := HRD.out.rows.slice
       subst hvA
       obtain ⟨en, hnc, hC⟩ := HRD.out.rows.C
       subst en
       have HCC := Aside0.mk hC
       have HNC := Aside0.mk hnc
       have HPD := Aside0.mk (parseP_done (s := s) HI.out HZ.out HM.out)
       obtain ⟨b0, b1, b2, b3⟩ := box_cells HRD.out.box
       clear hC hnc
       cases hv : validM x y z rs with
       | false =>
        have HPQ := Aside0.mk (HPD.out.trans (if_neg (fun hh => by rw [hv] at hh; cases hh.1)))
        have HV := Aside0.mk hv
        have HBL := Aside0.mk HRD.out.below
        clear hv
        go_wp2_with (go_at_call 10; refine (valid_calls x y z A c rs _ HCC.out).mono ?_; rw [HV.out]; rintro e w8 ⟨rfl, hb⟩; have HBL := Aside0.mk (below_step HBL.out hb); obtain ⟨z0, z1, z2, z3, f0, f1, f2, f3⟩ := zero_cells (res0 HBL.out); clear hb)
        refine bodyPost_ret (v := .tuple #[zeroM, .int .i64 3]) (by simp [results, Tryd.results14, go_sem, z0, z1, z2, z3, zeroM]) rfl ?_
        exact ⟨below_set (below_set (below_set (below_set (below_step HB1.out HBL.out) (Nat.le_refl _)) (Nat.le_refl _)) (Nat.le_refl _)) (Nat.le_refl _), by rw [HPQ.out]⟩
       | true =>
        have HV := Aside0.mk hv
        have HVN := Aside0.mk (valid_neat hv)
        clear hv
        have HBL := Aside0.mk HRD.out.below
        obtain ⟨TX, hTX⟩ : ∃ TX : ByteArray, (⟨(writeT x y z rs).toArray⟩ : ByteArray) = TX := ⟨_, rfl⟩
        have HTX := Aside0.mk hTX
        have HTI : Aside0 (TX.toList = s.toList ↔ writeT x y z rs = s.data.toList) := ⟨by rw [← hTX, ByteArray.toList_eq, ByteArray.toList_eq]⟩
        clear hTX
        by_cases ht : writeT x y z rs = s.data.toList
        ·have HPQ := Aside0.mk (HPD.out.trans (if_pos ⟨HV.out, ht⟩))
         have t1 : (TX.toList == s.toList) = true := beq_iff_eq.2 (HTI.out.2 ht)
         have t2 : (TX.toList != s.toList) = false := bne_eq_false_iff_eq.2 (HTI.out.2 ht)
         clear ht
         go_wp2_with (first
          | (go_at_call 10; refine (valid_calls x y z A c rs _ HCC.out).mono ?_; rw [HV.out]; rintro e w8 ⟨rfl, hb⟩; have HRD := Aside0.mk (HRD.out.later hb); have HBL := Aside0.mk (below_step HBL.out hb); obtain ⟨b0, b1, b2, b3⟩ := box_cells HRD.out.box; obtain ⟨z0, z1, z2, z3, f0, f1, f2, f3⟩ := zero_cells (res0 HBL.out); clear hb)
          | (go_at_call 25; refine (write_calls x y z A c rs _ HRD.out.rows.C.2.2 (HLAY.out.below (below_step HB1.out HBL.out)).lay HVN.out.2.1 HVN.out.2.2 HLQ.out).mono ?_; rw [HTX.out]; rintro e w9 ⟨rfl, hb⟩; have HRD := Aside0.mk (HRD.out.later hb); have HBL := Aside0.mk (below_step HBL.out hb); obtain ⟨b0, b1, b2, b3⟩ := box_cells HRD.out.box; obtain ⟨z0, z1, z2, z3, f0, f1, f2, f3⟩ := zero_cells (res0 HBL.out); clear hb))
         obtain ⟨WR, hWR, ⟨g0, g1, g2, g3⟩, hbR, hCR⟩ := done_out (x := x) (y := y) (z := z) (res0 HBL.out) (below_step HB1.out HBL.out) HRD.out.rows
         rw [hWR]
         refine bodyPost_ret (v := .tuple #[.agg #[.int .i64 x, .int .i64 y, .int .i64 z, .slice A rs.length c], .int .i64 0]) (by simp [results, Tryd.results14, go_sem, g0, g1, g2, g3]) rfl ?_
         refine ⟨hbR, ?_⟩
         rw [HPQ.out]
         exact ⟨A, c, rfl, HNC.out, _, hCR⟩
        ·have HPQ := Aside0.mk (HPD.out.trans (if_neg (fun hh => ht hh.2)))
         have t1 : (TX.toList == s.toList) = false := beq_eq_false_iff_ne.2 (fun e => ht (HTI.out.1 e))
         have t2 : (TX.toList != s.toList) = true := bne_iff_ne.2 (fun e => ht (HTI.out.1 e))
         clear ht
         go_wp2_with (first
          | (go_at_call 10; refine (valid_calls x y z A c rs _ HCC.out).mono ?_; rw [HV.out]; rintro e w8 ⟨rfl, hb⟩; have HRD := Aside0.mk (HRD.out.later hb); have HBL := Aside0.mk (below_step HBL.out hb); obtain ⟨b0, b1, b2, b3⟩ := box_cells HRD.out.box; obtain ⟨z0, z1, z2, z3, f0, f1, f2, f3⟩ := zero_cells (res0 HBL.out); clear hb)
          | (go_at_call 25; refine (write_calls x y z A c rs _ HRD.out.rows.C.2.2 (HLAY.out.below (below_step HB1.out HBL.out)).lay HVN.out.2.1 HVN.out.2.2 HLQ.out).mono ?_; rw [HTX.out]; rintro e w9 ⟨rfl, hb⟩; have HRD := Aside0.mk (HRD.out.later hb); have HBL := Aside0.mk (below_step HBL.out hb); obtain ⟨z0, z1, z2, z3, f0, f1, f2, f3⟩ := zero_cells (res0 HBL.out); clear hb))
         refine bodyPost_ret (v := .tuple #[zeroM, .int .i64 3]) (by simp [results, Tryd.results14, go_sem, z0, z1, z2, z3, zeroM]) rfl ?_
         exact ⟨below_set (below_set (below_set (below_set (below_step HB1.out HBL.out) (Nat.le_refl _)) (Nat.le_refl _)) (Nat.le_refl _)) (Nat.le_refl _), by rw [HPQ.out]⟩
     ·have hne : (qs = []) = False := eq_false he
      have HNE := Aside0.mk he
      have HQC : Aside0 (qs.length ≤ 40001) := ⟨by have h1 := cutB_len s semi (by decide); have h2 := Lib.countB_le semi (by decide) s.size s (Nat.le_refl _); rw [HCQ.out, List.length_cons] at h1; have := HS.out; omega⟩
      clear he
      go_wp2
      go_loopg [61] qs.length (fun gg s61 wr => ∃ (i : Nat) (v : Value) (rs : List S40), s61 = .int .i64 (i : Int) ∧ Aside0 (i ≤ qs.length) ∧ Aside0 (qs.length - i = gg) ∧ Aside0 ((qs.take i).mapM (ruleR intsR z.toNat) = some rs) ∧ Aside0 (ReadAt W1 P gb ((q0 :: qs).map Value.string).toArray x y z wr v rs))
      case atStart => exact ⟨0, _, [], rfl, ⟨by omega⟩, ⟨by omega⟩, ⟨rfl⟩, HRD⟩
      case round =>
       clear HRD zk
       obtain ⟨i, v, rs, rfl, HI2, HG2, HXS, HRD⟩ := hrel
       by_cases ci : i < qs.length
       ·have cib : decide ((i : Int) < (qs.length : Int)) = true := decide_eq_true (by omega)
        have cib2 : decide (i < qs.length) = true := decide_eq_true ci
        have p1 : (0 ≤ (i : Int)) = True := eq_true (by omega)
        have q1 : ((i : Int) < (qs.length : Int)) = True := eq_true (by omega)
        have q2 : (i < qs.length) = True := eq_true ci
        have b1 : (0 : Int) ≤ (i : Int) := by omega
        have b2 : (i : Int) ≤ 40001 := by have := HQC.out; omega
        have HRX := Aside0.mk (HXS.out)
        have HNX : Aside0 (∀ r, ruleR intsR z.toNat qs[i] = some r → (qs.take (i + 1)).mapM (ruleR intsR z.toNat) = some (rs ++ [r])) := ⟨fun r hr => mapM_next ci HXS.out hr⟩
        have HST : Aside0 (ruleR intsR z.toNat qs[i] = none → parseP intsR (q0 :: qs) s = none) := ⟨fun hr => parseP_rules_none HI.out (mapM_stop ci hr)⟩
        have pc : wr.cell? ⟨P, 1 + i, none⟩ = some (.string qs[i]) := by have := str_at HRD.out.prt (i := i + 1) (by simp; omega); rw [Nat.add_comm 1 i]; simpa using this
        have HPS : Aside0 (qs[i].size ≤ 40000) := ⟨HQL.out _ (List.mem_cons_of_mem _ (List.getElem_mem ci))⟩
        have CI := Aside0.mk ci
        obtain ⟨p, hp⟩ : ∃ p, p = qs[i] := ⟨_, rfl⟩
        rw [← hp] at HNX HST pc HPS
        clear hp ci
        have HPB2 : Aside0 ((cutB p blank).length ≤ 100001) := ⟨by rw [cutB_len _ _ (by decide)]; have h1 := Lib.countB_le blank (by decide) p.size p (Nat.le_refl _); have := HPS.out; omega⟩
        have HBL := Aside0.mk HRD.out.below
        cases hl : intsR p with
        | none =>
         have HPQ := Aside0.mk (HST.out (by unfold ruleR; rw [hl]; rfl))
         have HI3 := Aside0.mk hl
         clear hl
         go_wp2_with (go_at_call 29; (refine (integers_calls p _ (HLAY.out.below (below_step HB1.out HBL.out)) (by have := HPS.out; omega) HPB2.out).mono ?_; rw [HI3.out]; rintro e w6 ⟨v6, rfl, hno, hyes, hb⟩; have HRD := Aside0.mk (HRD.out.later hb); have HOW := Aside0.mk hyes; have HBL := Aside0.mk HRD.out.below; obtain ⟨z0, z1, z2, z3, f0, f1, f2, f3⟩ := zero_cells (res0 HBL.out); clear hno hyes hb))
         refine bodyPost_ret (v := .tuple #[zeroM, .int .i64 3]) (by simp [results, Tryd.results14, go_sem, z0, z1, z2, z3, zeroM]) rfl ?_
         exact ⟨below_set (below_set (below_set (below_set (below_step HB1.out HBL.out) (Nat.le_refl _)) (Nat.le_refl _)) (Nat.le_refl _)) (Nat.le_refl _), by rw [HPQ.out]⟩
        | some l =>
         have HI3 := Aside0.mk hl
         have HZC : Aside0 (z = 1 ∨ z = 2 ∨ z = 3) := ⟨by have := HZ.out; omega⟩
         by_cases h5 : l.length = 2 + 3 * z.toNat
         ·have HNX2 := Aside0.mk (HNX.out (ruleOf z.toNat l) (by unfold ruleR; rw [hl]; simp only [Option.bind_some]; rw [if_pos h5]))
          clear hl
          obtain ⟨Av, nv, cv, hva⟩ := HRD.out.rows.slice
          subst hva
          have HLN : Aside0 (l ≠ []) := ⟨fun e => by rw [e] at h5; simp at h5; omega⟩
          rcases HZC.out with hz1 | hz1 | hz1
          ·subst hz1
           have h5 : l.length = 5 := h5
           go_wp2_with (go_at_call 29; (refine (integers_calls p _ (HLAY.out.below (below_step HB1.out HBL.out)) (by have := HPS.out; omega) HPB2.out).mono ?_; rw [HI3.out]; rintro e w6 ⟨v6, rfl, hno, hyes, hb⟩; have HRD := Aside0.mk (HRD.out.later hb); have HOW := Aside0.mk hyes; have HBL := Aside0.mk HRD.out.below; obtain ⟨z0, z1, z2, z3, f0, f1, f2, f3⟩ := zero_cells (res0 HBL.out); have how := hyes _ rfl; obtain ⟨gl, cl, eh, hgl, hrow⟩ := own_row how rfl HLN.out; rw [eh] at how; have HPT := Aside0.mk (rule_parts (k := 1) how h5 (by omega)); have HCP := own_cap how; rw [h5] at eh HCP; subst eh; have l0 := hrow.rdcell (j := 0) (by omega); have lk := hrow.rdcell (j := 1 + 1) (by omega); have HGL := Aside0.mk hgl; obtain ⟨b0, b1, b2, b3⟩ := box_cells HRD.out.box; clear hno hyes hb how hgl hrow))
           have c_1 : (5 ≤ cl) = True := eq_true (by omega)
           have c_2 : (2 ≤ cl) = True := eq_true (by omega)
           have c_3 : (4 ≤ cl) = True := eq_true (by omega)
           have c_4 : (1 ≤ cl) = True := eq_true (by omega)
           have c_5 : (cl = 4) = False := eq_false (by omega)
           have d_0 : ((1 : Int) ≤ (cl : Int)) = True := eq_true (by omega)
           have d_1 : ((2 : Int) ≤ (cl : Int)) = True := eq_true (by omega)
           have d_2 : ((3 : Int) ≤ (cl : Int)) = True := eq_true (by omega)
           have d_3 : ((4 : Int) ≤ (cl : Int)) = True := eq_true (by omega)
           have d_4 : ((5 : Int) ≤ (cl : Int)) = True := eq_true (by omega)
           have HCP2 := Aside0.mk HCP
           clear HCP
           refine start_ (n := 36) (S := fun w' => w'.cell? ⟨gb, 3, none⟩ = some (.slice Av nv cv) ∧ w'.cell? ⟨gl, 0, none⟩ = some (.int .i64 (rd l ((0 : Nat) : Int))) ∧ w'.cell? ⟨gl, 2, none⟩ = some (.int .i64 (rd l ((2 : Nat) : Int)))) (ds := [33, 35]) #[false, false, false, false, false, false, false, false, false, false, false, false, false, false, false, false, false, false, false, false, false, false, false, false, false, false, false, false, false, false, false, false, false, false, false, false] (by kernel_rfl) rfl rfl ⟨b3, l0, lk⟩ (fun hHeld => ?_); refine with_tabW reg14_15.tab reg14_15.bits (fun HT_ HW_ => ?_)
           have HRD0 := Aside0.mk (HRD.out.later (below_drew (Below.refl _ _)))
           have HPT0 : Aside0 (∀ c1 c3 c4, 1 ≤ c1 → 1 ≤ c3 → 1 ≤ c4 → SlAt w6.drew (some ⟨gl, 1, none⟩) c1 (ruleOf 1 l).f1 ∧ SlAt w6.drew (some ⟨gl, 1 + 2, none⟩) c3 (ruleOf 1 l).f3 ∧ SlAt w6.drew (some ⟨gl, 2 * 1 + 2, none⟩) c4 (ruleOf 1 l).f4) := ⟨fun c1 c3 c4 q1 q3 q4 => by have h := HPT.out.2 c1 c3 c4 q1 q3 q4; have hk := Keep3.of_below (below_drew (Below.refl w6.heap.size w6)); exact ⟨h.1.keep hk, h.2.1.keep hk, h.2.2.keep hk⟩⟩
           generalize w6.drew = W0 at HRD0 HPT0 hHeld ⊢
           clear b0 b1 b2 b3 l0 lk
           refine pure_ (i := 0) (N := some 81) (v := ?_) (a' := ?_) #[true, false, false, false, false, false, false, false, false, false, false, false, false, false, false, false, false, false, false, false, false, false, false, false, false, false, false, false, false, false, false, false, false, false, false, false] rfl rfl (any_of HT_.out (by kernel_rfl)) (fun _ _ _ h => h) (Or.inl ⟨by rfl, ?_⟩) ?_ ?_
           rotate_left
           ·intro w'
            go_simp
            with_reducible rfl
           rotate_left
           ·simp only [Act.put, List.setIfInBounds_toArray, List.set_cons_zero, List.set_cons_succ, i64_w, i32_w]
            rfl
           refine take_ (i := 1) (N := some 82) (v := ?_) (a' := ?_) #[true, true, false, false, false, false, false, false, false, false, false, false, false, false, false, false, false, false, false, false, false, false, false, false, false, false, false, false, false, false, false, false, false, false, false, false] rfl rfl (take_ofW HT_.out HW_.out (by kernel_rfl)) (fun _ _ _ h => h) (Or.inl ⟨by rfl, ?_⟩) hHeld ?_ ?_
           rotate_left
           ·rintro w' ⟨s0, s1, s2⟩
            go_simp
            with_reducible rfl
           rotate_left
           ·simp only [Act.put, List.setIfInBounds_toArray, List.set_cons_zero, List.set_cons_succ, i64_w, i32_w]
            rfl
           refine pure_ (i := 2) (N := some 83) (v := ?_) (a' := ?_) #[true, true, true, false, false, false, false, false, false, false, false, false, false, false, false, false, false, false, false, false, false, false, false, false, false, false, false, false, false, false, false, false, false, false, false, false] rfl rfl (any_of HT_.out (by kernel_rfl)) (fun _ _ _ h => h) (Or.inl ⟨by rfl, ?_⟩) ?_ ?_
           rotate_left
           ·intro w'
            go_simp
            with_reducible rfl
           rotate_left
           ·simp only [Act.put, List.setIfInBounds_toArray, List.set_cons_zero, List.set_cons_succ, i64_w, i32_w]
            rfl
           refine pure_ (i := 3) (N := some 84) (v := ?_) (a' := ?_) #[true, true, true, true, false, false, false, false, false, false, false, false, false, false, false, false, false, false, false, false, false, false, false, false, false, false, false, false, false, false, false, false, false, false, false, false] rfl rfl (any_of HT_.out (by kernel_rfl)) (fun _ _ _ h => h) (Or.inl ⟨by rfl, ?_⟩) ?_ ?_
           rotate_left
           ·intro w'
            go_simp
            with_reducible rfl
           rotate_left
           ·simp only [Act.put, List.setIfInBounds_toArray, List.set_cons_zero, List.set_cons_succ, i64_w, i32_w]
            rfl
           refine take_ (i := 4) (N := some 85) (v := ?_) (a' := ?_) #[true, true, true, true, true, false, false, false, false, false, false, false, false, false, false, false, false, false, false, false, false, false, false, false, false, false, false, false, false, false, false, false, false, false, false, false] rfl rfl (take_ofW HT_.out HW_.out (by kernel_rfl)) (fun _ _ _ h => h) (Or.inl ⟨by rfl, ?_⟩) hHeld ?_ ?_
           rotate_left
           ·rintro w' ⟨s0, s1, s2⟩
            go_simp
            with_reducible rfl
           rotate_left
           ·simp only [Act.put, List.setIfInBounds_toArray, List.set_cons_zero, List.set_cons_succ, i64_w, i32_w]
            rfl
           refine pure_ (i := 5) (N := some 86) (v := ?_) (a' := ?_) #[true, true, true, true, true, true, false, false, false, false, false, false, false, false, false, false, false, false, false, false, false, false, false, false, false, false, false, false, false, false, false, false, false, false, false, false] rfl rfl (any_of HT_.out (by kernel_rfl)) (fun _ _ _ h => h) (Or.inl ⟨by rfl, ?_⟩) ?_ ?_
           rotate_left
           ·intro w'
            go_simp
            with_reducible rfl
           rotate_left
           ·simp only [Act.put, List.setIfInBounds_toArray, List.set_cons_zero, List.set_cons_succ, i64_w, i32_w]
            rfl
           refine pure_ (i := 6) (N := some 87) (v := ?_) (a' := ?_) #[true, true, true, true, true, true, true, false, false, false, false, false, false, false, false, false, false, false, false, false, false, false, false, false, false, false, false, false, false, false, false, false, false, false, false, false] rfl rfl (any_of HT_.out (by kernel_rfl)) (fun _ _ _ h => h) (Or.inl ⟨by rfl, ?_⟩) ?_ ?_
           rotate_left
           ·intro w'
            go_simp
            with_reducible rfl
           rotate_left
           ·simp only [Act.put, List.setIfInBounds_toArray, List.set_cons_zero, List.set_cons_succ, i64_w, i32_w]
            rfl
           refine pure_ (i := 7) (N := some 88) (v := (.int .i64 2)) (a' := ?_) #[true, true, true, true, true, true, true, true, false, false, false, false, false, false, false, false, false, false, false, false, false, false, false, false, false, false, false, false, false, false, false, false, false, false, false, false] rfl rfl (any_of HT_.out (by kernel_rfl)) (fun _ _ _ h => h) (Or.inl ⟨by rfl, ?_⟩) ?_ ?_
           ·intro w'
            go_simp
            first | done | rfl
           rotate_left
           ·simp only [Act.put, List.setIfInBounds_toArray, List.set_cons_zero, List.set_cons_succ, i64_w, i32_w]
            rfl
           refine pure_ (i := 8) (N := some 89) (v := ?_) (a' := ?_) #[true, true, true, true, true, true, true, true, true, false, false, false, false, false, false, false, false, false, false, false, false, false, false, false, false, false, false, false, false, false, false, false, false, false, false, false] rfl rfl (any_of HT_.out (by kernel_rfl)) (fun _ _ _ h => h) (Or.inl ⟨by rfl, ?_⟩) ?_ ?_
           rotate_left
           ·intro w'
            go_simp
            with_reducible rfl
           rotate_left
           ·simp only [Act.put, List.setIfInBounds_toArray, List.set_cons_zero, List.set_cons_succ, i64_w, i32_w]
            rfl
           refine pure_ (i := 9) (N := some 90) (v := (.int .i64 2)) (a' := ?_) #[true, true, true, true, true, true, true, true, true, true, false, false, false, false, false, false, false, false, false, false, false, false, false, false, false, false, false, false, false, false, false, false, false, false, false, false] rfl rfl (any_of HT_.out (by kernel_rfl)) (fun _ _ _ h => h) (Or.inl ⟨by rfl, ?_⟩) ?_ ?_
           ·intro w'
            go_simp
            first | done | rfl
           rotate_left
           ·simp only [Act.put, List.setIfInBounds_toArray, List.set_cons_zero, List.set_cons_succ, i64_w, i32_w]
            rfl
           refine pure_ (i := 10) (N := some 91) (v := ?_) (a' := ?_) #[true, true, true, true, true, true, true, true, true, true, true, false, false, false, false, false, false, false, false, false, false, false, false, false, false, false, false, false, false, false, false, false, false, false, false, false] rfl rfl (any_of HT_.out (by kernel_rfl)) (fun _ _ _ h => h) (Or.inl ⟨by rfl, ?_⟩) ?_ ?_
           rotate_left
           ·intro w'
            go_simp
            with_reducible rfl
           rotate_left
           ·simp only [Act.put, List.setIfInBounds_toArray, List.set_cons_zero, List.set_cons_succ, i64_w, i32_w]
            rfl
           refine pure_ (i := 11) (N := some 92) (v := ?_) (a' := ?_) #[true, true, true, true, true, true, true, true, true, true, true, true, false, false, false, false, false, false, false, false, false, false, false, false, false, false, false, false, false, false, false, false, false, false, false, false] rfl rfl (any_of HT_.out (by kernel_rfl)) (fun _ _ _ h => h) (Or.inl ⟨by rfl, ?_⟩) ?_ ?_
           rotate_left
           ·intro w'
            go_simp
            with_reducible rfl
           rotate_left
           ·simp only [Act.put, List.setIfInBounds_toArray, List.set_cons_zero, List.set_cons_succ, i64_w, i32_w]
            rfl
           refine pure_ (i := 12) (N := some 93) (v := ?_) (a' := ?_) #[true, true, true, true, true, true, true, true, true, true, true, true, true, false, false, false, false, false, false, false, false, false, false, false, false, false, false, false, false, false, false, false, false, false, false, false] rfl rfl (any_of HT_.out (by kernel_rfl)) (fun _ _ _ h => h) (Or.inl ⟨by rfl, ?_⟩) ?_ ?_
           rotate_left
           ·intro w'
            go_simp
            with_reducible rfl
           rotate_left
           ·simp only [Act.put, List.setIfInBounds_toArray, List.set_cons_zero, List.set_cons_succ, i64_w, i32_w]
            rfl
           refine pure_ (i := 13) (N := some 94) (v := (.int .i64 2)) (a' := ?_) #[true, true, true, true, true, true, true, true, true, true, true, true, true, true, false, false, false, false, false, false, false, false, false, false, false, false, false, false, false, false, false, false, false, false, false, false] rfl rfl (any_of HT_.out (by kernel_rfl)) (fun _ _ _ h => h) (Or.inl ⟨by rfl, ?_⟩) ?_ ?_
           ·intro w'
            go_simp
            first | done | rfl
           rotate_left
           ·simp only [Act.put, List.setIfInBounds_toArray, List.set_cons_zero, List.set_cons_succ, i64_w, i32_w]
            rfl
           refine pure_ (i := 14) (N := some 95) (v := ?_) (a' := ?_) #[true, true, true, true, true, true, true, true, true, true, true, true, true, true, true, false, false, false, false, false, false, false, false, false, false, false, false, false, false, false, false, false, false, false, false, false] rfl rfl (any_of HT_.out (by kernel_rfl)) (fun _ _ _ h => h) (Or.inl ⟨by rfl, ?_⟩) ?_ ?_
           rotate_left
           ·intro w'
            go_simp
            with_reducible rfl
           rotate_left
           ·simp only [Act.put, List.setIfInBounds_toArray, List.set_cons_zero, List.set_cons_succ, i64_w, i32_w]
            rfl
           refine take_ (i := 15) (N := some 96) (v := ?_) (a' := ?_) #[true, true, true, true, true, true, true, true, true, true, true, true, true, true, true, true, false, false, false, false, false, false, false, false, false, false, false, false, false, false, false, false, false, false, false, false] rfl rfl (take_ofW HT_.out HW_.out (by kernel_rfl)) (fun _ _ _ h => h) (Or.inl ⟨by rfl, ?_⟩) hHeld ?_ ?_
           rotate_left
           ·rintro w' ⟨s0, s1, s2⟩
            go_simp
            with_reducible rfl
           rotate_left
           ·simp only [Act.put, List.setIfInBounds_toArray, List.set_cons_zero, List.set_cons_succ, i64_w, i32_w]
            rfl
           refine pure_ (i := 16) (N := some 97) (v := ?_) (a' := ?_) #[true, true, true, true, true, true, true, true, true, true, true, true, true, true, true, true, true, false, false, false, false, false, false, false, false, false, false, false, false, false, false, false, false, false, false, false] rfl rfl (any_of HT_.out (by kernel_rfl)) (fun _ _ _ h => h) (Or.inl ⟨by rfl, ?_⟩) ?_ ?_
           rotate_left
           ·intro w'
            go_simp
            with_reducible rfl
           rotate_left
           ·simp only [Act.put, List.setIfInBounds_toArray, List.set_cons_zero, List.set_cons_succ, i64_w, i32_w]
            rfl
           refine pure_ (i := 17) (N := some 98) (v := ?_) (a' := ?_) #[true, true, true, true, true, true, true, true, true, true, true, true, true, true, true, true, true, true, false, false, false, false, false, false, false, false, false, false, false, false, false, false, false, false, false, false] rfl rfl (any_of HT_.out (by kernel_rfl)) (fun _ _ _ h => h) (Or.inl ⟨by rfl, ?_⟩) ?_ ?_
           rotate_left
           ·intro w'
            go_simp
            with_reducible rfl
           rotate_left
           ·simp only [Act.put, List.setIfInBounds_toArray, List.set_cons_zero, List.set_cons_succ, i64_w, i32_w]
            rfl
           refine pure_ (i := 18) (N := some 99) (v := (.int .i64 3)) (a' := ?_) #[true, true, true, true, true, true, true, true, true, true, true, true, true, true, true, true, true, true, true, false, false, false, false, false, false, false, false, false, false, false, false, false, false, false, false, false] rfl rfl (any_of HT_.out (by kernel_rfl)) (fun _ _ _ h => h) (Or.inl ⟨by rfl, ?_⟩) ?_ ?_
           ·intro w'
            go_simp
            first | done | rfl
           rotate_left
           ·simp only [Act.put, List.setIfInBounds_toArray, List.set_cons_zero, List.set_cons_succ, i64_w, i32_w]
            rfl
           refine pure_ (i := 19) (N := some 100) (v := ?_) (a' := ?_) #[true, true, true, true, true, true, true, true, true, true, true, true, true, true, true, true, true, true, true, true, false, false, false, false, false, false, false, false, false, false, false, false, false, false, false, false] rfl rfl (any_of HT_.out (by kernel_rfl)) (fun _ _ _ h => h) (Or.inl ⟨by rfl, ?_⟩) ?_ ?_
           rotate_left
           ·intro w'
            go_simp
            with_reducible rfl
           rotate_left
           ·simp only [Act.put, List.setIfInBounds_toArray, List.set_cons_zero, List.set_cons_succ, i64_w, i32_w]
            rfl
           refine pure_ (i := 20) (N := some 101) (v := (.int .i64 2)) (a' := ?_) #[true, true, true, true, true, true, true, true, true, true, true, true, true, true, true, true, true, true, true, true, true, false, false, false, false, false, false, false, false, false, false, false, false, false, false, false] rfl rfl (any_of HT_.out (by kernel_rfl)) (fun _ _ _ h => h) (Or.inl ⟨by rfl, ?_⟩) ?_ ?_
           ·intro w'
            go_simp
            first | done | rfl
           rotate_left
           ·simp only [Act.put, List.setIfInBounds_toArray, List.set_cons_zero, List.set_cons_succ, i64_w, i32_w]
            rfl
           refine pure_ (i := 21) (N := some 102) (v := (.int .i64 4)) (a' := ?_) #[true, true, true, true, true, true, true, true, true, true, true, true, true, true, true, true, true, true, true, true, true, true, false, false, false, false, false, false, false, false, false, false, false, false, false, false] rfl rfl (any_of HT_.out (by kernel_rfl)) (fun _ _ _ h => h) (Or.inl ⟨by rfl, ?_⟩) ?_ ?_
           ·intro w'
            go_simp
            first | done | rfl
           rotate_left
           ·simp only [Act.put, List.setIfInBounds_toArray, List.set_cons_zero, List.set_cons_succ, i64_w, i32_w]
            rfl
           refine pure_ (i := 22) (N := some 103) (v := ?_) (a' := ?_) #[true, true, true, true, true, true, true, true, true, true, true, true, true, true, true, true, true, true, true, true, true, true, true, false, false, false, false, false, false, false, false, false, false, false, false, false] rfl rfl (any_of HT_.out (by kernel_rfl)) (fun _ _ _ h => h) (Or.inl ⟨by rfl, ?_⟩) ?_ ?_
           rotate_left
           ·intro w'
            go_simp
            with_reducible rfl
           rotate_left
           ·simp only [Act.put, List.setIfInBounds_toArray, List.set_cons_zero, List.set_cons_succ, i64_w, i32_w]
            rfl
           refine pure_ (i := 23) (N := some 104) (v := (.int .i64 2)) (a' := ?_) #[true, true, true, true, true, true, true, true, true, true, true, true, true, true, true, true, true, true, true, true, true, true, true, true, false, false, false, false, false, false, false, false, false, false, false, false] rfl rfl (any_of HT_.out (by kernel_rfl)) (fun _ _ _ h => h) (Or.inl ⟨by rfl, ?_⟩) ?_ ?_
           ·intro w'
            go_simp
            first | done | rfl
           rotate_left
           ·simp only [Act.put, List.setIfInBounds_toArray, List.set_cons_zero, List.set_cons_succ, i64_w, i32_w]
            rfl
           refine pure_ (i := 24) (N := some 105) (v := (.int .i64 4)) (a' := ?_) #[true, true, true, true, true, true, true, true, true, true, true, true, true, true, true, true, true, true, true, true, true, true, true, true, true, false, false, false, false, false, false, false, false, false, false, false] rfl rfl (any_of HT_.out (by kernel_rfl)) (fun _ _ _ h => h) (Or.inl ⟨by rfl, ?_⟩) ?_ ?_
           ·intro w'
            go_simp
            first | done | rfl
           rotate_left
           ·simp only [Act.put, List.setIfInBounds_toArray, List.set_cons_zero, List.set_cons_succ, i64_w, i32_w]
            rfl
           refine pure_ (i := 25) (N := some 106) (v := ?_) (a' := ?_) #[true, true, true, true, true, true, true, true, true, true, true, true, true, true, true, true, true, true, true, true, true, true, true, true, true, true, false, false, false, false, false, false, false, false, false, false] rfl rfl (any_of HT_.out (by kernel_rfl)) (fun _ _ _ h => h) (Or.inl ⟨by rfl, ?_⟩) ?_ ?_
           rotate_left
           ·intro w'
            go_simp
            with_reducible rfl
           rotate_left
           ·simp only [Act.put, List.setIfInBounds_toArray, List.set_cons_zero, List.set_cons_succ, i64_w, i32_w]
            rfl
           refine pure_ (i := 26) (N := some 107) (v := ?_) (a' := ?_) #[true, true, true, true, true, true, true, true, true, true, true, true, true, true, true, true, true, true, true, true, true, true, true, true, true, true, true, false, false, false, false, false, false, false, false, false] rfl rfl (any_of HT_.out (by kernel_rfl)) (fun _ _ _ h => h) (Or.inl ⟨by rfl, ?_⟩) ?_ ?_
           rotate_left
           ·intro w'
            go_simp
            with_reducible rfl
           rotate_left
           ·simp only [Act.put, List.setIfInBounds_toArray, List.set_cons_zero, List.set_cons_succ, i64_w, i32_w]
            rfl
           refine pure_ (i := 27) (N := some 108) (v := ?_) (a' := ?_) #[true, true, true, true, true, true, true, true, true, true, true, true, true, true, true, true, true, true, true, true, true, true, true, true, true, true, true, true, false, false, false, false, false, false, false, false] rfl rfl (any_of HT_.out (by kernel_rfl)) (fun _ _ _ h => h) (Or.inl ⟨by rfl, ?_⟩) ?_ ?_
           rotate_left
           ·intro w'
            go_simp
            with_reducible rfl
           rotate_left
           ·simp only [Act.put, List.setIfInBounds_toArray, List.set_cons_zero, List.set_cons_succ, i64_w, i32_w]
            rfl
           refine pure_ (i := 28) (N := some 109) (v := (.int .i64 2)) (a' := ?_) #[true, true, true, true, true, true, true, true, true, true, true, true, true, true, true, true, true, true, true, true, true, true, true, true, true, true, true, true, true, false, false, false, false, false, false, false] rfl rfl (any_of HT_.out (by kernel_rfl)) (fun _ _ _ h => h) (Or.inl ⟨by rfl, ?_⟩) ?_ ?_
           ·intro w'
            go_simp
            first | done | rfl
           rotate_left
           ·simp only [Act.put, List.setIfInBounds_toArray, List.set_cons_zero, List.set_cons_succ, i64_w, i32_w]
            rfl
           refine pure_ (i := 29) (N := some 110) (v := (.int .i64 4)) (a' := ?_) #[true, true, true, true, true, true, true, true, true, true, true, true, true, true, true, true, true, true, true, true, true, true, true, true, true, true, true, true, true, true, false, false, false, false, false, false] rfl rfl (any_of HT_.out (by kernel_rfl)) (fun _ _ _ h => h) (Or.inl ⟨by rfl, ?_⟩) ?_ ?_
           ·intro w'
            go_simp
            first | done | rfl
           rotate_left
           ·simp only [Act.put, List.setIfInBounds_toArray, List.set_cons_zero, List.set_cons_succ, i64_w, i32_w]
            rfl
           refine pure_ (i := 30) (N := some 111) (v := ?_) (a' := ?_) #[true, true, true, true, true, true, true, true, true, true, true, true, true, true, true, true, true, true, true, true, true, true, true, true, true, true, true, true, true, true, true, false, false, false, false, false] rfl rfl (any_of HT_.out (by kernel_rfl)) (fun _ _ _ h => h) (Or.inl ⟨by rfl, ?_⟩) ?_ ?_
           rotate_left
           ·intro w'
            go_simp
            with_reducible rfl
           rotate_left
           ·simp only [Act.put, List.setIfInBounds_toArray, List.set_cons_zero, List.set_cons_succ, i64_w, i32_w]
            rfl
           refine pure_ (i := 31) (N := some 112) (v := ?_) (a' := ?_) #[true, true, true, true, true, true, true, true, true, true, true, true, true, true, true, true, true, true, true, true, true, true, true, true, true, true, true, true, true, true, true, true, false, false, false, false] rfl rfl (any_of HT_.out (by kernel_rfl)) (fun _ _ _ h => h) (Or.inl ⟨by rfl, ?_⟩) ?_ ?_
           rotate_left
           ·intro w'
            go_simp
            with_reducible rfl
           rotate_left
           ·simp only [Act.put, List.setIfInBounds_toArray, List.set_cons_zero, List.set_cons_succ, i64_w, i32_w]
            rfl
           have HPR := Aside0.mk HPT.out.1
           have hcl4 : 1 ≤ cl - 4 := by have := HCP2.out; omega
           have HSL := Aside0.mk (HPT0.out 1 1 (cl - 4) (Nat.le_refl _) (Nat.le_refl _) hcl4)
           obtain ⟨W2, hW2⟩ : ∃ W2, W0.alloc (.cells #[.int .i64 (ruleOf 1 l).f0, .slice (some ⟨gl, 1, none⟩) 1 1, .int .i64 (ruleOf 1 l).f2, .slice (some ⟨gl, 3, none⟩) 1 1, .slice (some ⟨gl, 4, none⟩) 1 (cl - 4)] 40) = W2 := ⟨_, rfl⟩
           have hb2 : Below W0.heap.size W0 W2 := by rw [← hW2]; exact below_alloc (Below.refl _ _) _
           clear hcl4
           refine one_ (i := 32) (N := some 113) #[true, true, true, true, true, true, true, true, true, true, true, true, true, true, true, true, true, true, true, true, true, true, true, true, true, true, true, true, true, true, true, true, true, false, false, false] rfl rfl (one_of HT_.out (by kernel_rfl)) (by decide) (fun K hK => ?_)
           refine event_step (v := .slice (some ⟨W0.heap.size, 0, none⟩) 1 1) (w1 := W2) (by rfl) (by rw [← hW2]; exact exec_buildR rfl rfl) ?_
           obtain ⟨hnr, hbk2, hs2, xs, hO2, hP2⟩ := read_push HRD0.out hW2 HPR.out.1.symm HPR.out.2.1.symm HPR.out.2.2.symm HSL.out.1 HSL.out.2.1 HSL.out.2.2
           have HNR := Aside0.mk hnr
           have HBK2 := Aside0.mk hbk2
           have HS2 := Aside0.mk hs2
           have HO2 := Aside0.mk hO2
           have HP2 := Aside0.mk hP2
           refine hK.out _ _ ⟨pw_cell_below hb2 hHeld.1, pw_cell_below hb2 hHeld.2.1, pw_cell_below hb2 hHeld.2.2⟩ (fun hHeld2 => ?_)
           clear hK K hW2 hb2 hnr hbk2 hs2 hO2 hP2
           refine norm_ (a' := ?_) ?_ ?_
           rotate_left
           ·show Act.put _ (some 113) _ = _
            simp only [Act.put, List.setIfInBounds_toArray, List.set_cons_zero, List.set_cons_succ, i64_w, i32_w]
            rfl
           refine last_ (i := 33) (N := some 114) #[true, true, true, true, true, true, true, true, true, true, true, true, true, true, true, true, true, true, true, true, true, true, true, true, true, true, true, true, true, true, true, true, true, true, false, false] rfl rfl (one_of HT_.out (by kernel_rfl)) (by decide) (fun K hK => ?_)
           refine append_rule_ev (by rfl) rfl (by rfl) (by rfl) HO2.out HBK2.out cell5 (by have h1 := mapM_len HXS.out; have h2 := HQC.out; have h3 := HNR.out; have h4 : (qs.take i).length ≤ i := List.length_take_le _ _; have h5 := HI2.out; omega) HS2.out ?_
           intro v7 w7 q1 q2
           obtain ⟨hbx, hRDn⟩ := HP2.out v7 w7 q1 q2
           obtain ⟨A7, c7, hv7⟩ := own_slice q1
           subst hv7
           have HRN := Aside0.mk hRDn
           obtain ⟨b0, b1, b2, b3⟩ := box_cells hbx
           have b4 := blk_frozen hbx 3
           clear q1 q2 hbx hRDn hHeld2
           refine hK.out _ _ ?_
           clear hK K
           refine norm_ (a' := ?_) ?_ ?_
           rotate_left
           ·show Act.put _ (some 114) _ = _
            simp only [Act.put, List.setIfInBounds_toArray, List.set_cons_zero, List.set_cons_succ, i64_w, i32_w]
            rfl
           refine pure_ (i := 34) (N := some 115) (v := ?_) (a' := ?_) #[true, true, true, true, true, true, true, true, true, true, true, true, true, true, true, true, true, true, true, true, true, true, true, true, true, true, true, true, true, true, true, true, true, true, true, false] rfl rfl (any_of HT_.out (by kernel_rfl)) (fun _ _ _ h => h) (Or.inl ⟨by rfl, ?_⟩) ?_ ?_
           rotate_left
           ·intro w'
            go_simp
            with_reducible rfl
           rotate_left
           ·simp only [Act.put, List.setIfInBounds_toArray, List.set_cons_zero, List.set_cons_succ, i64_w, i32_w]
            rfl
           refine last_ (i := 35) (N := none) #[true, true, true, true, true, true, true, true, true, true, true, true, true, true, true, true, true, true, true, true, true, true, true, true, true, true, true, true, true, true, true, true, true, true, true, true] rfl rfl (one_of HT_.out (by kernel_rfl)) (by decide) (fun K hK => ?_)
           refine skip_ (w1 := ?_) (by rfl) rfl ?_ ?_
           rotate_left
           ·go_simp
            rfl
           refine hK.out _ _ ?_
           clear hK K
           refine done_ (done_of HT_.out (by kernel_rfl)) ?_
           go_wp2
           go_roundg (qs.length - (i + 1))
           case measure => have := HG2.out; have := CI.out; omega
           case rel =>
            have := CI.out
            exact ⟨i + 1, _, _, by simp, ⟨by omega⟩, ⟨by omega⟩, ⟨HNX2.out⟩, HRN⟩
          ·subst hz1
           have h5 : l.length = 8 := h5
           go_wp2_with (go_at_call 29; (refine (integers_calls p _ (HLAY.out.below (below_step HB1.out HBL.out)) (by have := HPS.out; omega) HPB2.out).mono ?_; rw [HI3.out]; rintro e w6 ⟨v6, rfl, hno, hyes, hb⟩; have HRD := Aside0.mk (HRD.out.later hb); have HOW := Aside0.mk hyes; have HBL := Aside0.mk HRD.out.below; obtain ⟨z0, z1, z2, z3, f0, f1, f2, f3⟩ := zero_cells (res0 HBL.out); have how := hyes _ rfl; obtain ⟨gl, cl, eh, hgl, hrow⟩ := own_row how rfl HLN.out; rw [eh] at how; have HPT := Aside0.mk (rule_parts (k := 2) how h5 (by omega)); have HCP := own_cap how; rw [h5] at eh HCP; subst eh; have l0 := hrow.rdcell (j := 0) (by omega); have lk := hrow.rdcell (j := 2 + 1) (by omega); have HGL := Aside0.mk hgl; obtain ⟨b0, b1, b2, b3⟩ := box_cells HRD.out.box; clear hno hyes hb how hgl hrow))
           have c_1 : (8 ≤ cl) = True := eq_true (by omega)
           have c_2 : (3 ≤ cl) = True := eq_true (by omega)
           have c_3 : (6 ≤ cl) = True := eq_true (by omega)
           have c_4 : (1 ≤ cl) = True := eq_true (by omega)
           have c_5 : (cl = 6) = False := eq_false (by omega)
           have d_0 : ((1 : Int) ≤ (cl : Int)) = True := eq_true (by omega)
           have d_1 : ((3 : Int) ≤ (cl : Int)) = True := eq_true (by omega)
           have d_2 : ((4 : Int) ≤ (cl : Int)) = True := eq_true (by omega)
           have d_3 : ((6 : Int) ≤ (cl : Int)) = True := eq_true (by omega)
           have d_4 : ((8 : Int) ≤ (cl : Int)) = True := eq_true (by omega)
           have HCP2 := Aside0.mk HCP
           clear HCP
           refine start_ (n := 36) (S := fun w' => w'.cell? ⟨gb, 3, none⟩ = some (.slice Av nv cv) ∧ w'.cell? ⟨gl, 0, none⟩ = some (.int .i64 (rd l ((0 : Nat) : Int))) ∧ w'.cell? ⟨gl, 3, none⟩ = some (.int .i64 (rd l ((3 : Nat) : Int)))) (ds := [33, 35]) #[false, false, false, false, false, false, false, false, false, false, false, false, false, false, false, false, false, false, false, false, false, false, false, false, false, false, false, false, false, false, false, false, false, false, false, false] (by kernel_rfl) rfl rfl ⟨b3, l0, lk⟩ (fun hHeld => ?_); refine with_tabW reg14_15.tab reg14_15.bits (fun HT_ HW_ => ?_)
           have HRD0 := Aside0.mk (HRD.out.later (below_drew (Below.refl _ _)))
           have HPT0 : Aside0 (∀ c1 c3 c4, 2 ≤ c1 → 2 ≤ c3 → 2 ≤ c4 → SlAt w6.drew (some ⟨gl, 1, none⟩) c1 (ruleOf 2 l).f1 ∧ SlAt w6.drew (some ⟨gl, 2 + 2, none⟩) c3 (ruleOf 2 l).f3 ∧ SlAt w6.drew (some ⟨gl, 2 * 2 + 2, none⟩) c4 (ruleOf 2 l).f4) := ⟨fun c1 c3 c4 q1 q3 q4 => by have h := HPT.out.2 c1 c3 c4 q1 q3 q4; have hk := Keep3.of_below (below_drew (Below.refl w6.heap.size w6)); exact ⟨h.1.keep hk, h.2.1.keep hk, h.2.2.keep hk⟩⟩
           generalize w6.drew = W0 at HRD0 HPT0 hHeld ⊢
           clear b0 b1 b2 b3 l0 lk
           refine pure_ (i := 0) (N := some 81) (v := ?_) (a' := ?_) #[true, false, false, false, false, false, false, false, false, false, false, false, false, false, false, false, false, false, false, false, false, false, false, false, false, false, false, false, false, false, false, false, false, false, false, false] rfl rfl (any_of HT_.out (by kernel_rfl)) (fun _ _ _ h => h) (Or.inl ⟨by rfl, ?_⟩) ?_ ?_
           rotate_left
           ·intro w'
            go_simp
            with_reducible rfl
           rotate_left
           ·simp only [Act.put, List.setIfInBounds_toArray, List.set_cons_zero, List.set_cons_succ, i64_w, i32_w]
            rfl
           refine take_ (i := 1) (N := some 82) (v := ?_) (a' := ?_) #[true, true, false, false, false, false, false, false, false, false, false, false, false, false, false, false, false, false, false, false, false, false, false, false, false, false, false, false, false, false, false, false, false, false, false, false] rfl rfl (take_ofW HT_.out HW_.out (by kernel_rfl)) (fun _ _ _ h => h) (Or.inl ⟨by rfl, ?_⟩) hHeld ?_ ?_
           rotate_left
           ·rintro w' ⟨s0, s1, s2⟩
            go_simp
            with_reducible rfl
           rotate_left
           ·simp only [Act.put, List.setIfInBounds_toArray, List.set_cons_zero, List.set_cons_succ, i64_w, i32_w]
            rfl
           refine pure_ (i := 2) (N := some 83) (v := ?_) (a' := ?_) #[true, true, true, false, false, false, false, false, false, false, false, false, false, false, false, false, false, false, false, false, false, false, false, false, false, false, false, false, false, false, false, false, false, false, false, false] rfl rfl (any_of HT_.out (by kernel_rfl)) (fun _ _ _ h => h) (Or.inl ⟨by rfl, ?_⟩) ?_ ?_
           rotate_left
           ·intro w'
            go_simp
            with_reducible rfl
           rotate_left
           ·simp only [Act.put, List.setIfInBounds_toArray, List.set_cons_zero, List.set_cons_succ, i64_w, i32_w]
            rfl
           refine pure_ (i := 3) (N := some 84) (v := ?_) (a' := ?_) #[true, true, true, true, false, false, false, false, false, false, false, false, false, false, false, false, false, false, false, false, false, false, false, false, false, false, false, false, false, false, false, false, false, false, false, false] rfl rfl (any_of HT_.out (by kernel_rfl)) (fun _ _ _ h => h) (Or.inl ⟨by rfl, ?_⟩) ?_ ?_
           rotate_left
           ·intro w'
            go_simp
            with_reducible rfl
           rotate_left
           ·simp only [Act.put, List.setIfInBounds_toArray, List.set_cons_zero, List.set_cons_succ, i64_w, i32_w]
            rfl
           refine take_ (i := 4) (N := some 85) (v := ?_) (a' := ?_) #[true, true, true, true, true, false, false, false, false, false, false, false, false, false, false, false, false, false, false, false, false, false, false, false, false, false, false, false, false, false, false, false, false, false, false, false] rfl rfl (take_ofW HT_.out HW_.out (by kernel_rfl)) (fun _ _ _ h => h) (Or.inl ⟨by rfl, ?_⟩) hHeld ?_ ?_
           rotate_left
           ·rintro w' ⟨s0, s1, s2⟩
            go_simp
            with_reducible rfl
           rotate_left
           ·simp only [Act.put, List.setIfInBounds_toArray, List.set_cons_zero, List.set_cons_succ, i64_w, i32_w]
            rfl
           refine pure_ (i := 5) (N := some 86) (v := ?_) (a' := ?_) #[true, true, true, true, true, true, false, false, false, false, false, false, false, false, false, false, false, false, false, false, false, false, false, false, false, false, false, false, false, false, false, false, false, false, false, false] rfl rfl (any_of HT_.out (by kernel_rfl)) (fun _ _ _ h => h) (Or.inl ⟨by rfl, ?_⟩) ?_ ?_
           rotate_left
           ·intro w'
            go_simp
            with_reducible rfl
           rotate_left
           ·simp only [Act.put, List.setIfInBounds_toArray, List.set_cons_zero, List.set_cons_succ, i64_w, i32_w]
            rfl
           refine pure_ (i := 6) (N := some 87) (v := ?_) (a' := ?_) #[true, true, true, true, true, true, true, false, false, false, false, false, false, false, false, false, false, false, false, false, false, false, false, false, false, false, false, false, false, false, false, false, false, false, false, false] rfl rfl (any_of HT_.out (by kernel_rfl)) (fun _ _ _ h => h) (Or.inl ⟨by rfl, ?_⟩) ?_ ?_
           rotate_left
           ·intro w'
            go_simp
            with_reducible rfl
           rotate_left
           ·simp only [Act.put, List.setIfInBounds_toArray, List.set_cons_zero, List.set_cons_succ, i64_w, i32_w]
            rfl
           refine pure_ (i := 7) (N := some 88) (v := (.int .i64 3)) (a' := ?_) #[true, true, true, true, true, true, true, true, false, false, false, false, false, false, false, false, false, false, false, false, false, false, false, false, false, false, false, false, false, false, false, false, false, false, false, false] rfl rfl (any_of HT_.out (by kernel_rfl)) (fun _ _ _ h => h) (Or.inl ⟨by rfl, ?_⟩) ?_ ?_
           ·intro w'
            go_simp
            first | done | rfl
           rotate_left
           ·simp only [Act.put, List.setIfInBounds_toArray, List.set_cons_zero, List.set_cons_succ, i64_w, i32_w]
            rfl
           refine pure_ (i := 8) (N := some 89) (v := ?_) (a' := ?_) #[true, true, true, true, true, true, true, true, true, false, false, false, false, false, false, false, false, false, false, false, false, false, false, false, false, false, false, false, false, false, false, false, false, false, false, false] rfl rfl (any_of HT_.out (by kernel_rfl)) (fun _ _ _ h => h) (Or.inl ⟨by rfl, ?_⟩) ?_ ?_
           rotate_left
           ·intro w'
            go_simp
            with_reducible rfl
           rotate_left
           ·simp only [Act.put, List.setIfInBounds_toArray, List.set_cons_zero, List.set_cons_succ, i64_w, i32_w]
            rfl
           refine pure_ (i := 9) (N := some 90) (v := (.int .i64 3)) (a' := ?_) #[true, true, true, true, true, true, true, true, true, true, false, false, false, false, false, false, false, false, false, false, false, false, false, false, false, false, false, false, false, false, false, false, false, false, false, false] rfl rfl (any_of HT_.out (by kernel_rfl)) (fun _ _ _ h => h) (Or.inl ⟨by rfl, ?_⟩) ?_ ?_
           ·intro w'
            go_simp
            first | done | rfl
           rotate_left
           ·simp only [Act.put, List.setIfInBounds_toArray, List.set_cons_zero, List.set_cons_succ, i64_w, i32_w]
            rfl
           refine pure_ (i := 10) (N := some 91) (v := ?_) (a' := ?_) #[true, true, true, true, true, true, true, true, true, true, true, false, false, false, false, false, false, false, false, false, false, false, false, false, false, false, false, false, false, false, false, false, false, false, false, false] rfl rfl (any_of HT_.out (by kernel_rfl)) (fun _ _ _ h => h) (Or.inl ⟨by rfl, ?_⟩) ?_ ?_
           rotate_left
           ·intro w'
            go_simp
            with_reducible rfl
           rotate_left
           ·simp only [Act.put, List.setIfInBounds_toArray, List.set_cons_zero, List.set_cons_succ, i64_w, i32_w]
            rfl
           refine pure_ (i := 11) (N := some 92) (v := ?_) (a' := ?_) #[true, true, true, true, true, true, true, true, true, true, true, true, false, false, false, false, false, false, false, false, false, false, false, false, false, false, false, false, false, false, false, false, false, false, false, false] rfl rfl (any_of HT_.out (by kernel_rfl)) (fun _ _ _ h => h) (Or.inl ⟨by rfl, ?_⟩) ?_ ?_
           rotate_left
           ·intro w'
            go_simp
            with_reducible rfl
           rotate_left
           ·simp only [Act.put, List.setIfInBounds_toArray, List.set_cons_zero, List.set_cons_succ, i64_w, i32_w]
            rfl
           refine pure_ (i := 12) (N := some 93) (v := ?_) (a' := ?_) #[true, true, true, true, true, true, true, true, true, true, true, true, true, false, false, false, false, false, false, false, false, false, false, false, false, false, false, false, false, false, false, false, false, false, false, false] rfl rfl (any_of HT_.out (by kernel_rfl)) (fun _ _ _ h => h) (Or.inl ⟨by rfl, ?_⟩) ?_ ?_
           rotate_left
           ·intro w'
            go_simp
            with_reducible rfl
           rotate_left
           ·simp only [Act.put, List.setIfInBounds_toArray, List.set_cons_zero, List.set_cons_succ, i64_w, i32_w]
            rfl
           refine pure_ (i := 13) (N := some 94) (v := (.int .i64 3)) (a' := ?_) #[true, true, true, true, true, true, true, true, true, true, true, true, true, true, false, false, false, false, false, false, false, false, false, false, false, false, false, false, false, false, false, false, false, false, false, false] rfl rfl (any_of HT_.out (by kernel_rfl)) (fun _ _ _ h => h) (Or.inl ⟨by rfl, ?_⟩) ?_ ?_
           ·intro w'
            go_simp
            first | done | rfl
           rotate_left
           ·simp only [Act.put, List.setIfInBounds_toArray, List.set_cons_zero, List.set_cons_succ, i64_w, i32_w]
            rfl
           refine pure_ (i := 14) (N := some 95) (v := ?_) (a' := ?_) #[true, true, true, true, true, true, true, true, true, true, true, true, true, true, true, false, false, false, false, false, false, false, false, false, false, false, false, false, false, false, false, false, false, false, false, false] rfl rfl (any_of HT_.out (by kernel_rfl)) (fun _ _ _ h => h) (Or.inl ⟨by rfl, ?_⟩) ?_ ?_
           rotate_left
           ·intro w'
            go_simp
            with_reducible rfl
           rotate_left
           ·simp only [Act.put, List.setIfInBounds_toArray, List.set_cons_zero, List.set_cons_succ, i64_w, i32_w]
            rfl
           refine take_ (i := 15) (N := some 96) (v := ?_) (a' := ?_) #[true, true, true, true, true, true, true, true, true, true, true, true, true, true, true, true, false, false, false, false, false, false, false, false, false, false, false, false, false, false, false, false, false, false, false, false] rfl rfl (take_ofW HT_.out HW_.out (by kernel_rfl)) (fun _ _ _ h => h) (Or.inl ⟨by rfl, ?_⟩) hHeld ?_ ?_
           rotate_left
           ·rintro w' ⟨s0, s1, s2⟩
            go_simp
            with_reducible rfl
           rotate_left
           ·simp only [Act.put, List.setIfInBounds_toArray, List.set_cons_zero, List.set_cons_succ, i64_w, i32_w]
            rfl
           refine pure_ (i := 16) (N := some 97) (v := ?_) (a' := ?_) #[true, true, true, true, true, true, true, true, true, true, true, true, true, true, true, true, true, false, false, false, false, false, false, false, false, false, false, false, false, false, false, false, false, false, false, false] rfl rfl (any_of HT_.out (by kernel_rfl)) (fun _ _ _ h => h) (Or.inl ⟨by rfl, ?_⟩) ?_ ?_
           rotate_left
           ·intro w'
            go_simp
            with_reducible rfl
           rotate_left
           ·simp only [Act.put, List.setIfInBounds_toArray, List.set_cons_zero, List.set_cons_succ, i64_w, i32_w]
            rfl
           refine pure_ (i := 17) (N := some 98) (v := ?_) (a' := ?_) #[true, true, true, true, true, true, true, true, true, true, true, true, true, true, true, true, true, true, false, false, false, false, false, false, false, false, false, false, false, false, false, false, false, false, false, false] rfl rfl (any_of HT_.out (by kernel_rfl)) (fun _ _ _ h => h) (Or.inl ⟨by rfl, ?_⟩) ?_ ?_
           rotate_left
           ·intro w'
            go_simp
            with_reducible rfl
           rotate_left
           ·simp only [Act.put, List.setIfInBounds_toArray, List.set_cons_zero, List.set_cons_succ, i64_w, i32_w]
            rfl
           refine pure_ (i := 18) (N := some 99) (v := (.int .i64 4)) (a' := ?_) #[true, true, true, true, true, true, true, true, true, true, true, true, true, true, true, true, true, true, true, false, false, false, false, false, false, false, false, false, false, false, false, false, false, false, false, false] rfl rfl (any_of HT_.out (by kernel_rfl)) (fun _ _ _ h => h) (Or.inl ⟨by rfl, ?_⟩) ?_ ?_
           ·intro w'
            go_simp
            first | done | rfl
           rotate_left
           ·simp only [Act.put, List.setIfInBounds_toArray, List.set_cons_zero, List.set_cons_succ, i64_w, i32_w]
            rfl
           refine pure_ (i := 19) (N := some 100) (v := ?_) (a' := ?_) #[true, true, true, true, true, true, true, true, true, true, true, true, true, true, true, true, true, true, true, true, false, false, false, false, false, false, false, false, false, false, false, false, false, false, false, false] rfl rfl (any_of HT_.out (by kernel_rfl)) (fun _ _ _ h => h) (Or.inl ⟨by rfl, ?_⟩) ?_ ?_
           rotate_left
           ·intro w'
            go_simp
            with_reducible rfl
           rotate_left
           ·simp only [Act.put, List.setIfInBounds_toArray, List.set_cons_zero, List.set_cons_succ, i64_w, i32_w]
            rfl
           refine pure_ (i := 20) (N := some 101) (v := (.int .i64 4)) (a' := ?_) #[true, true, true, true, true, true, true, true, true, true, true, true, true, true, true, true, true, true, true, true, true, false, false, false, false, false, false, false, false, false, false, false, false, false, false, false] rfl rfl (any_of HT_.out (by kernel_rfl)) (fun _ _ _ h => h) (Or.inl ⟨by rfl, ?_⟩) ?_ ?_
           ·intro w'
            go_simp
            first | done | rfl
           rotate_left
           ·simp only [Act.put, List.setIfInBounds_toArray, List.set_cons_zero, List.set_cons_succ, i64_w, i32_w]
            rfl
           refine pure_ (i := 21) (N := some 102) (v := (.int .i64 6)) (a' := ?_) #[true, true, true, true, true, true, true, true, true, true, true, true, true, true, true, true, true, true, true, true, true, true, false, false, false, false, false, false, false, false, false, false, false, false, false, false] rfl rfl (any_of HT_.out (by kernel_rfl)) (fun _ _ _ h => h) (Or.inl ⟨by rfl, ?_⟩) ?_ ?_
           ·intro w'
            go_simp
            first | done | rfl
           rotate_left
           ·simp only [Act.put, List.setIfInBounds_toArray, List.set_cons_zero, List.set_cons_succ, i64_w, i32_w]
            rfl
           refine pure_ (i := 22) (N := some 103) (v := ?_) (a' := ?_) #[true, true, true, true, true, true, true, true, true, true, true, true, true, true, true, true, true, true, true, true, true, true, true, false, false, false, false, false, false, false, false, false, false, false, false, false] rfl rfl (any_of HT_.out (by kernel_rfl)) (fun _ _ _ h => h) (Or.inl ⟨by rfl, ?_⟩) ?_ ?_
           rotate_left
           ·intro w'
            go_simp
            with_reducible rfl
           rotate_left
           ·simp only [Act.put, List.setIfInBounds_toArray, List.set_cons_zero, List.set_cons_succ, i64_w, i32_w]
            rfl
           refine pure_ (i := 23) (N := some 104) (v := (.int .i64 4)) (a' := ?_) #[true, true, true, true, true, true, true, true, true, true, true, true, true, true, true, true, true, true, true, true, true, true, true, true, false, false, false, false, false, false, false, false, false, false, false, false] rfl rfl (any_of HT_.out (by kernel_rfl)) (fun _ _ _ h => h) (Or.inl ⟨by rfl, ?_⟩) ?_ ?_
           ·intro w'
            go_simp
            first | done | rfl
           rotate_left
           ·simp only [Act.put, List.setIfInBounds_toArray, List.set_cons_zero, List.set_cons_succ, i64_w, i32_w]
            rfl
           refine pure_ (i := 24) (N := some 105) (v := (.int .i64 6)) (a' := ?_) #[true, true, true, true, true, true, true, true, true, true, true, true, true, true, true, true, true, true, true, true, true, true, true, true, true, false, false, false, false, false, false, false, false, false, false, false] rfl rfl (any_of HT_.out (by kernel_rfl)) (fun _ _ _ h => h) (Or.inl ⟨by rfl, ?_⟩) ?_ ?_
           ·intro w'
            go_simp
            first | done | rfl
           rotate_left
           ·simp only [Act.put, List.setIfInBounds_toArray, List.set_cons_zero, List.set_cons_succ, i64_w, i32_w]
            rfl
           refine pure_ (i := 25) (N := some 106) (v := ?_) (a' := ?_) #[true, true, true, true, true, true, true, true, true, true, true, true, true, true, true, true, true, true, true, true, true, true, true, true, true, true, false, false, false, false, false, false, false, false, false, false] rfl rfl (any_of HT_.out (by kernel_rfl)) (fun _ _ _ h => h) (Or.inl ⟨by rfl, ?_⟩) ?_ ?_
           rotate_left
           ·intro w'
            go_simp
            with_reducible rfl
           rotate_left
           ·simp only [Act.put, List.setIfInBounds_toArray, List.set_cons_zero, List.set_cons_succ, i64_w, i32_w]
            rfl
           refine pure_ (i := 26) (N := some 107) (v := ?_) (a' := ?_) #[true, true, true, true, true, true, true, true, true, true, true, true, true, true, true, true, true, true, true, true, true, true, true, true, true, true, true, false, false, false, false, false, false, false, false, false] rfl rfl (any_of HT_.out (by kernel_rfl)) (fun _ _ _ h => h) (Or.inl ⟨by rfl, ?_⟩) ?_ ?_
           rotate_left
           ·intro w'
            go_simp
            with_reducible rfl
           rotate_left
           ·simp only [Act.put, List.setIfInBounds_toArray, List.set_cons_zero, List.set_cons_succ, i64_w, i32_w]
            rfl
           refine pure_ (i := 27) (N := some 108) (v := ?_) (a' := ?_) #[true, true, true, true, true, true, true, true, true, true, true, true, true, true, true, true, true, true, true, true, true, true, true, true, true, true, true, true, false, false, false, false, false, false, false, false] rfl rfl (any_of HT_.out (by kernel_rfl)) (fun _ _ _ h => h) (Or.inl ⟨by rfl, ?_⟩) ?_ ?_
           rotate_left
           ·intro w'
            go_simp
            with_reducible rfl
           rotate_left
           ·simp only [Act.put, List.setIfInBounds_toArray, List.set_cons_zero, List.set_cons_succ, i64_w, i32_w]
            rfl
           refine pure_ (i := 28) (N := some 109) (v := (.int .i64 4)) (a' := ?_) #[true, true, true, true, true, true, true, true, true, true, true, true, true, true, true, true, true, true, true, true, true, true, true, true, true, true, true, true, true, false, false, false, false, false, false, false] rfl rfl (any_of HT_.out (by kernel_rfl)) (fun _ _ _ h => h) (Or.inl ⟨by rfl, ?_⟩) ?_ ?_
           ·intro w'
            go_simp
            first | done | rfl
           rotate_left
           ·simp only [Act.put, List.setIfInBounds_toArray, List.set_cons_zero, List.set_cons_succ, i64_w, i32_w]
            rfl
           refine pure_ (i := 29) (N := some 110) (v := (.int .i64 6)) (a' := ?_) #[true, true, true, true, true, true, true, true, true, true, true, true, true, true, true, true, true, true, true, true, true, true, true, true, true, true, true, true, true, true, false, false, false, false, false, false] rfl rfl (any_of HT_.out (by kernel_rfl)) (fun _ _ _ h => h) (Or.inl ⟨by rfl, ?_⟩) ?_ ?_
           ·intro w'
            go_simp
            first | done | rfl
           rotate_left
           ·simp only [Act.put, List.setIfInBounds_toArray, List.set_cons_zero, List.set_cons_succ, i64_w, i32_w]
            rfl
           refine pure_ (i := 30) (N := some 111) (v := ?_) (a' := ?_) #[true, true, true, true, true, true, true, true, true, true, true, true, true, true, true, true, true, true, true, true, true, true, true, true, true, true, true, true, true, true, true, false, false, false, false, false] rfl rfl (any_of HT_.out (by kernel_rfl)) (fun _ _ _ h => h) (Or.inl ⟨by rfl, ?_⟩) ?_ ?_
           rotate_left
           ·intro w'
            go_simp
            with_reducible rfl
           rotate_left
           ·simp only [Act.put, List.setIfInBounds_toArray, List.set_cons_zero, List.set_cons_succ, i64_w, i32_w]
            rfl
           refine pure_ (i := 31) (N := some 112) (v := ?_) (a' := ?_) #[true, true, true, true, true, true, true, true, true, true, true, true, true, true, true, true, true, true, true, true, true, true, true, true, true, true, true, true, true, true, true, true, false, false, false, false] rfl rfl (any_of HT_.out (by kernel_rfl)) (fun _ _ _ h => h) (Or.inl ⟨by rfl, ?_⟩) ?_ ?_
           rotate_left
           ·intro w'
            go_simp
            with_reducible rfl
           rotate_left
           ·simp only [Act.put, List.setIfInBounds_toArray, List.set_cons_zero, List.set_cons_succ, i64_w, i32_w]
            rfl
           have HPR := Aside0.mk HPT.out.1
           have hcl4 : 2 ≤ cl - 6 := by have := HCP2.out; omega
           have HSL := Aside0.mk (HPT0.out 2 2 (cl - 6) (Nat.le_refl _) (Nat.le_refl _) hcl4)
           obtain ⟨W2, hW2⟩ : ∃ W2, W0.alloc (.cells #[.int .i64 (ruleOf 2 l).f0, .slice (some ⟨gl, 1, none⟩) 2 2, .int .i64 (ruleOf 2 l).f2, .slice (some ⟨gl, 4, none⟩) 2 2, .slice (some ⟨gl, 6, none⟩) 2 (cl - 6)] 40) = W2 := ⟨_, rfl⟩
           have hb2 : Below W0.heap.size W0 W2 := by rw [← hW2]; exact below_alloc (Below.refl _ _) _
           clear hcl4
           refine one_ (i := 32) (N := some 113) #[true, true, true, true, true, true, true, true, true, true, true, true, true, true, true, true, true, true, true, true, true, true, true, true, true, true, true, true, true, true, true, true, true, false, false, false] rfl rfl (one_of HT_.out (by kernel_rfl)) (by decide) (fun K hK => ?_)
           refine event_step (v := .slice (some ⟨W0.heap.size, 0, none⟩) 1 1) (w1 := W2) (by rfl) (by rw [← hW2]; exact exec_buildR rfl rfl) ?_
           obtain ⟨hnr, hbk2, hs2, xs, hO2, hP2⟩ := read_push HRD0.out hW2 HPR.out.1.symm HPR.out.2.1.symm HPR.out.2.2.symm HSL.out.1 HSL.out.2.1 HSL.out.2.2
           have HNR := Aside0.mk hnr
           have HBK2 := Aside0.mk hbk2
           have HS2 := Aside0.mk hs2
           have HO2 := Aside0.mk hO2
           have HP2 := Aside0.mk hP2
           refine hK.out _ _ ⟨pw_cell_below hb2 hHeld.1, pw_cell_below hb2 hHeld.2.1, pw_cell_below hb2 hHeld.2.2⟩ (fun hHeld2 => ?_)
           clear hK K hW2 hb2 hnr hbk2 hs2 hO2 hP2
           refine norm_ (a' := ?_) ?_ ?_
           rotate_left
           ·show Act.put _ (some 113) _ = _
            simp only [Act.put, List.setIfInBounds_toArray, List.set_cons_zero, List.set_cons_succ, i64_w, i32_w]
            rfl
           refine last_ (i := 33) (N := some 114) #[true, true, true, true, true, true, true, true, true, true, true, true, true, true, true, true, true, true, true, true, true, true, true, true, true, true, true, true, true, true, true, true, true, true, false, false] rfl rfl (one_of HT_.out (by kernel_rfl)) (by decide) (fun K hK => ?_)
           refine append_rule_ev (by rfl) rfl (by rfl) (by rfl) HO2.out HBK2.out cell5 (by have h1 := mapM_len HXS.out; have h2 := HQC.out; have h3 := HNR.out; have h4 : (qs.take i).length ≤ i := List.length_take_le _ _; have h5 := HI2.out; omega) HS2.out ?_
           intro v7 w7 q1 q2
           obtain ⟨hbx, hRDn⟩ := HP2.out v7 w7 q1 q2
           obtain ⟨A7, c7, hv7⟩ := own_slice q1
           subst hv7
           have HRN := Aside0.mk hRDn
           obtain ⟨b0, b1, b2, b3⟩ := box_cells hbx
           have b4 := blk_frozen hbx 3
           clear q1 q2 hbx hRDn hHeld2
           refine hK.out _ _ ?_
           clear hK K
           refine norm_ (a' := ?_) ?_ ?_
           rotate_left
           ·show Act.put _ (some 114) _ = _
            simp only [Act.put, List.setIfInBounds_toArray, List.set_cons_zero, List.set_cons_succ, i64_w, i32_w]
            rfl
           refine pure_ (i := 34) (N := some 115) (v := ?_) (a' := ?_) #[true, true, true, true, true, true, true, true, true, true, true, true, true, true, true, true, true, true, true, true, true, true, true, true, true, true, true, true, true, true, true, true, true, true, true, false] rfl rfl (any_of HT_.out (by kernel_rfl)) (fun _ _ _ h => h) (Or.inl ⟨by rfl, ?_⟩) ?_ ?_
           rotate_left
           ·intro w'
            go_simp
            with_reducible rfl
           rotate_left
           ·simp only [Act.put, List.setIfInBounds_toArray, List.set_cons_zero, List.set_cons_succ, i64_w, i32_w]
            rfl
           refine last_ (i := 35) (N := none) #[true, true, true, true, true, true, true, true, true, true, true, true, true, true, true, true, true, true, true, true, true, true, true, true, true, true, true, true, true, true, true, true, true, true, true, true] rfl rfl (one_of HT_.out (by kernel_rfl)) (by decide) (fun K hK => ?_)
           refine skip_ (w1 := ?_) (by rfl) rfl ?_ ?_
           rotate_left
           ·go_simp
            rfl
           refine hK.out _ _ ?_
           clear hK K
           refine done_ (done_of HT_.out (by kernel_rfl)) ?_
           go_wp2
           go_roundg (qs.length - (i + 1))
           case measure => have := HG2.out; have := CI.out; omega
           case rel =>
            have := CI.out
            exact ⟨i + 1, _, _, by simp, ⟨by omega⟩, ⟨by omega⟩, ⟨HNX2.out⟩, HRN⟩
          ·subst hz1
           have h5 : l.length = 11 := h5
           go_wp2_with (go_at_call 29; (refine (integers_calls p _ (HLAY.out.below (below_step HB1.out HBL.out)) (by have := HPS.out; omega) HPB2.out).mono ?_; rw [HI3.out]; rintro e w6 ⟨v6, rfl, hno, hyes, hb⟩; have HRD := Aside0.mk (HRD.out.later hb); have HOW := Aside0.mk hyes; have HBL := Aside0.mk HRD.out.below; obtain ⟨z0, z1, z2, z3, f0, f1, f2, f3⟩ := zero_cells (res0 HBL.out); have how := hyes _ rfl; obtain ⟨gl, cl, eh, hgl, hrow⟩ := own_row how rfl HLN.out; rw [eh] at how; have HPT := Aside0.mk (rule_parts (k := 3) how h5 (by omega)); have HCP := own_cap how; rw [h5] at eh HCP; subst eh; have l0 := hrow.rdcell (j := 0) (by omega); have lk := hrow.rdcell (j := 3 + 1) (by omega); have HGL := Aside0.mk hgl; obtain ⟨b0, b1, b2, b3⟩ := box_cells HRD.out.box; clear hno hyes hb how hgl hrow))
           have c_1 : (11 ≤ cl) = True := eq_true (by omega)
           have c_2 : (4 ≤ cl) = True := eq_true (by omega)
           have c_3 : (8 ≤ cl) = True := eq_true (by omega)
           have c_4 : (1 ≤ cl) = True := eq_true (by omega)
           have c_5 : (cl = 8) = False := eq_false (by omega)
           have d_0 : ((1 : Int) ≤ (cl : Int)) = True := eq_true (by omega)
           have d_1 : ((4 : Int) ≤ (cl : Int)) = True := eq_true (by omega)
           have d_2 : ((5 : Int) ≤ (cl : Int)) = True := eq_true (by omega)
           have d_3 : ((8 : Int) ≤ (cl : Int)) = True := eq_true (by omega)
           have d_4 : ((11 : Int) ≤ (cl : Int)) = True := eq_true (by omega)
           have HCP2 := Aside0.mk HCP
           clear HCP
           refine start_ (n := 36) (S := fun w' => w'.cell? ⟨gb, 3, none⟩ = some (.slice Av nv cv) ∧ w'.cell? ⟨gl, 0, none⟩ = some (.int .i64 (rd l ((0 : Nat) : Int))) ∧ w'.cell? ⟨gl, 4, none⟩ = some (.int .i64 (rd l ((4 : Nat) : Int)))) (ds := [33, 35]) #[false, false, false, false, false, false, false, false, false, false, false, false, false, false, false, false, false, false, false, false, false, false, false, false, false, false, false, false, false, false, false, false, false, false, false, false] (by kernel_rfl) rfl rfl ⟨b3, l0, lk⟩ (fun hHeld => ?_); refine with_tabW reg14_15.tab reg14_15.bits (fun HT_ HW_ => ?_)
           have HRD0 := Aside0.mk (HRD.out.later (below_drew (Below.refl _ _)))
           have HPT0 : Aside0 (∀ c1 c3 c4, 3 ≤ c1 → 3 ≤ c3 → 3 ≤ c4 → SlAt w6.drew (some ⟨gl, 1, none⟩) c1 (ruleOf 3 l).f1 ∧ SlAt w6.drew (some ⟨gl, 3 + 2, none⟩) c3 (ruleOf 3 l).f3 ∧ SlAt w6.drew (some ⟨gl, 2 * 3 + 2, none⟩) c4 (ruleOf 3 l).f4) := ⟨fun c1 c3 c4 q1 q3 q4 => by have h := HPT.out.2 c1 c3 c4 q1 q3 q4; have hk := Keep3.of_below (below_drew (Below.refl w6.heap.size w6)); exact ⟨h.1.keep hk, h.2.1.keep hk, h.2.2.keep hk⟩⟩
           generalize w6.drew = W0 at HRD0 HPT0 hHeld ⊢
           clear b0 b1 b2 b3 l0 lk
           refine pure_ (i := 0) (N := some 81) (v := ?_) (a' := ?_) #[true, false, false, false, false, false, false, false, false, false, false, false, false, false, false, false, false, false, false, false, false, false, false, false, false, false, false, false, false, false, false, false, false, false, false, false] rfl rfl (any_of HT_.out (by kernel_rfl)) (fun _ _ _ h => h) (Or.inl ⟨by rfl, ?_⟩) ?_ ?_
           rotate_left
           ·intro w'
            go_simp
            with_reducible rfl
           rotate_left
           ·simp only [Act.put, List.setIfInBounds_toArray, List.set_cons_zero, List.set_cons_succ, i64_w, i32_w]
            rfl
           refine take_ (i := 1) (N := some 82) (v := ?_) (a' := ?_) #[true, true, false, false, false, false, false, false, false, false, false, false, false, false, false, false, false, false, false, false, false, false, false, false, false, false, false, false, false, false, false, false, false, false, false, false] rfl rfl (take_ofW HT_.out HW_.out (by kernel_rfl)) (fun _ _ _ h => h) (Or.inl ⟨by rfl, ?_⟩) hHeld ?_ ?_
           rotate_left
           ·rintro w' ⟨s0, s1, s2⟩
            go_simp
            with_reducible rfl
           rotate_left
           ·simp only [Act.put, List.setIfInBounds_toArray, List.set_cons_zero, List.set_cons_succ, i64_w, i32_w]
            rfl
           refine pure_ (i := 2) (N := some 83) (v := ?_) (a' := ?_) #[true, true, true, false, false, false, false, false, false, false, false, false, false, false, false, false, false, false, false, false, false, false, false, false, false, false, false, false, false, false, false, false, false, false, false, false] rfl rfl (any_of HT_.out (by kernel_rfl)) (fun _ _ _ h => h) (Or.inl ⟨by rfl, ?_⟩) ?_ ?_
           rotate_left
           ·intro w'
            go_simp
            with_reducible rfl
           rotate_left
           ·simp only [Act.put, List.setIfInBounds_toArray, List.set_cons_zero, List.set_cons_succ, i64_w, i32_w]
            rfl
           refine pure_ (i := 3) (N := some 84) (v := ?_) (a' := ?_) #[true, true, true, true, false, false, false, false, false, false, false, false, false, false, false, false, false, false, false, false, false, false, false, false, false, false, false, false, false, false, false, false, false, false, false, false] rfl rfl (any_of HT_.out (by kernel_rfl)) (fun _ _ _ h => h) (Or.inl ⟨by rfl, ?_⟩) ?_ ?_
           rotate_left
           ·intro w'
            go_simp
            with_reducible rfl
           rotate_left
           ·simp only [Act.put, List.setIfInBounds_toArray, List.set_cons_zero, List.set_cons_succ, i64_w, i32_w]
            rfl
           refine take_ (i := 4) (N := some 85) (v := ?_) (a' := ?_) #[true, true, true, true, true, false, false, false, false, false, false, false, false, false, false, false, false, false, false, false, false, false, false, false, false, false, false, false, false, false, false, false, false, false, false, false] rfl rfl (take_ofW HT_.out HW_.out (by kernel_rfl)) (fun _ _ _ h => h) (Or.inl ⟨by rfl, ?_⟩) hHeld ?_ ?_
           rotate_left
           ·rintro w' ⟨s0, s1, s2⟩
            go_simp
            with_reducible rfl
           rotate_left
           ·simp only [Act.put, List.setIfInBounds_toArray, List.set_cons_zero, List.set_cons_succ, i64_w, i32_w]
            rfl
           refine pure_ (i := 5) (N := some 86) (v := ?_) (a' := ?_) #[true, true, true, true, true, true, false, false, false, false, false, false, false, false, false, false, false, false, false, false, false, false, false, false, false, false, false, false, false, false, false, false, false, false, false, false] rfl rfl (any_of HT_.out (by kernel_rfl)) (fun _ _ _ h => h) (Or.inl ⟨by rfl, ?_⟩) ?_ ?_
           rotate_left
           ·intro w'
            go_simp
            with_reducible rfl
           rotate_left
           ·simp only [Act.put, List.setIfInBounds_toArray, List.set_cons_zero, List.set_cons_succ, i64_w, i32_w]
            rfl
           refine pure_ (i := 6) (N := some 87) (v := ?_) (a' := ?_) #[true, true, true, true, true, true, true, false, false, false, false, false, false, false, false, false, false, false, false, false, false, false, false, false, false, false, false, false, false, false, false, false, false, false, false, false] rfl rfl (any_of HT_.out (by kernel_rfl)) (fun _ _ _ h => h) (Or.inl ⟨by rfl, ?_⟩) ?_ ?_
           rotate_left
           ·intro w'
            go_simp
            with_reducible rfl
           rotate_left
           ·simp only [Act.put, List.setIfInBounds_toArray, List.set_cons_zero, List.set_cons_succ, i64_w, i32_w]
            rfl
           refine pure_ (i := 7) (N := some 88) (v := (.int .i64 4)) (a' := ?_) #[true, true, true, true, true, true, true, true, false, false, false, false, false, false, false, false, false, false, false, false, false, false, false, false, false, false, false, false, false, false, false, false, false, false, false, false] rfl rfl (any_of HT_.out (by kernel_rfl)) (fun _ _ _ h => h) (Or.inl ⟨by rfl, ?_⟩) ?_ ?_
           ·intro w'
            go_simp
            first | done | rfl
           rotate_left
           ·simp only [Act.put, List.setIfInBounds_toArray, List.set_cons_zero, List.set_cons_succ, i64_w, i32_w]
            rfl
           refine pure_ (i := 8) (N := some 89) (v := ?_) (a' := ?_) #[true, true, true, true, true, true, true, true, true, false, false, false, false, false, false, false, false, false, false, false, false, false, false, false, false, false, false, false, false, false, false, false, false, false, false, false] rfl rfl (any_of HT_.out (by kernel_rfl)) (fun _ _ _ h => h) (Or.inl ⟨by rfl, ?_⟩) ?_ ?_
           rotate_left
           ·intro w'
            go_simp
            with_reducible rfl
           rotate_left
           ·simp only [Act.put, List.setIfInBounds_toArray, List.set_cons_zero, List.set_cons_succ, i64_w, i32_w]
            rfl
           refine pure_ (i := 9) (N := some 90) (v := (.int .i64 4)) (a' := ?_) #[true, true, true, true, true, true, true, true, true, true, false, false, false, false, false, false, false, false, false, false, false, false, false, false, false, false, false, false, false, false, false, false, false, false, false, false] rfl rfl (any_of HT_.out (by kernel_rfl)) (fun _ _ _ h => h) (Or.inl ⟨by rfl, ?_⟩) ?_ ?_
           ·intro w'
            go_simp
            first | done | rfl
           rotate_left
           ·simp only [Act.put, List.setIfInBounds_toArray, List.set_cons_zero, List.set_cons_succ, i64_w, i32_w]
            rfl
           refine pure_ (i := 10) (N := some 91) (v := ?_) (a' := ?_) #[true, true, true, true, true, true, true, true, true, true, true, false, false, false, false, false, false, false, false, false, false, false, false, false, false, false, false, false, false, false, false, false, false, false, false, false] rfl rfl (any_of HT_.out (by kernel_rfl)) (fun _ _ _ h => h) (Or.inl ⟨by rfl, ?_⟩) ?_ ?_
           rotate_left
           ·intro w'
            go_simp
            with_reducible rfl
           rotate_left
           ·simp only [Act.put, List.setIfInBounds_toArray, List.set_cons_zero, List.set_cons_succ, i64_w, i32_w]
            rfl
           refine pure_ (i := 11) (N := some 92) (v := ?_) (a' := ?_) #[true, true, true, true, true, true, true, true, true, true, true, true, false, false, false, false, false, false, false, false, false, false, false, false, false, false, false, false, false, false, false, false, false, false, false, false] rfl rfl (any_of HT_.out (by kernel_rfl)) (fun _ _ _ h => h) (Or.inl ⟨by rfl, ?_⟩) ?_ ?_
           rotate_left
           ·intro w'
            go_simp
            with_reducible rfl
           rotate_left
           ·simp only [Act.put, List.setIfInBounds_toArray, List.set_cons_zero, List.set_cons_succ, i64_w, i32_w]
            rfl
           refine pure_ (i := 12) (N := some 93) (v := ?_) (a' := ?_) #[true, true, true, true, true, true, true, true, true, true, true, true, true, false, false, false, false, false, false, false, false, false, false, false, false, false, false, false, false, false, false, false, false, false, false, false] rfl rfl (any_of HT_.out (by kernel_rfl)) (fun _ _ _ h => h) (Or.inl ⟨by rfl, ?_⟩) ?_ ?_
           rotate_left
           ·intro w'
            go_simp
            with_reducible rfl
           rotate_left
           ·simp only [Act.put, List.setIfInBounds_toArray, List.set_cons_zero, List.set_cons_succ, i64_w, i32_w]
            rfl
           refine pure_ (i := 13) (N := some 94) (v := (.int .i64 4)) (a' := ?_) #[true, true, true, true, true, true, true, true, true, true, true, true, true, true, false, false, false, false, false, false, false, false, false, false, false, false, false, false, false, false, false, false, false, false, false, false] rfl rfl (any_of HT_.out (by kernel_rfl)) (fun _ _ _ h => h) (Or.inl ⟨by rfl, ?_⟩) ?_ ?_
           ·intro w'
            go_simp
            first | done | rfl
           rotate_left
           ·simp only [Act.put, List.setIfInBounds_toArray, List.set_cons_zero, List.set_cons_succ, i64_w, i32_w]
            rfl
           refine pure_ (i := 14) (N := some 95) (v := ?_) (a' := ?_) #[true, true, true, true, true, true, true, true, true, true, true, true, true, true, true, false, false, false, false, false, false, false, false, false, false, false, false, false, false, false, false, false, false, false, false, false] rfl rfl (any_of HT_.out (by kernel_rfl)) (fun _ _ _ h => h) (Or.inl ⟨by rfl, ?_⟩) ?_ ?_
           rotate_left
           ·intro w'
            go_simp
            with_reducible rfl
           rotate_left
           ·simp only [Act.put, List.setIfInBounds_toArray, List.set_cons_zero, List.set_cons_succ, i64_w, i32_w]
            rfl
           refine take_ (i := 15) (N := some 96) (v := ?_) (a' := ?_) #[true, true, true, true, true, true, true, true, true, true, true, true, true, true, true, true, false, false, false, false, false, false, false, false, false, false, false, false, false, false, false, false, false, false, false, false] rfl rfl (take_ofW HT_.out HW_.out (by kernel_rfl)) (fun _ _ _ h => h) (Or.inl ⟨by rfl, ?_⟩) hHeld ?_ ?_
           rotate_left
           ·rintro w' ⟨s0, s1, s2⟩
            go_simp
            with_reducible rfl
           rotate_left
           ·simp only [Act.put, List.setIfInBounds_toArray, List.set_cons_zero, List.set_cons_succ, i64_w, i32_w]
            rfl
           refine pure_ (i := 16) (N := some 97) (v := ?_) (a' := ?_) #[true, true, true, true, true, true, true, true, true, true, true, true, true, true, true, true, true, false, false, false, false, false, false, false, false, false, false, false, false, false, false, false, false, false, false, false] rfl rfl (any_of HT_.out (by kernel_rfl)) (fun _ _ _ h => h) (Or.inl ⟨by rfl, ?_⟩) ?_ ?_
           rotate_left
           ·intro w'
            go_simp
            with_reducible rfl
           rotate_left
           ·simp only [Act.put, List.setIfInBounds_toArray, List.set_cons_zero, List.set_cons_succ, i64_w, i32_w]
            rfl
           refine pure_ (i := 17) (N := some 98) (v := ?_) (a' := ?_) #[true, true, true, true, true, true, true, true, true, true, true, true, true, true, true, true, true, true, false, false, false, false, false, false, false, false, false, false, false, false, false, false, false, false, false, false] rfl rfl (any_of HT_.out (by kernel_rfl)) (fun _ _ _ h => h) (Or.inl ⟨by rfl, ?_⟩) ?_ ?_
           rotate_left
           ·intro w'
            go_simp
            with_reducible rfl
           rotate_left
           ·simp only [Act.put, List.setIfInBounds_toArray, List.set_cons_zero, List.set_cons_succ, i64_w, i32_w]
            rfl
           refine pure_ (i := 18) (N := some 99) (v := (.int .i64 5)) (a' := ?_) #[true, true, true, true, true, true, true, true, true, true, true, true, true, true, true, true, true, true, true, false, false, false, false, false, false, false, false, false, false, false, false, false, false, false, false, false] rfl rfl (any_of HT_.out (by kernel_rfl)) (fun _ _ _ h => h) (Or.inl ⟨by rfl, ?_⟩) ?_ ?_
           ·intro w'
            go_simp
            first | done | rfl
           rotate_left
           ·simp only [Act.put, List.setIfInBounds_toArray, List.set_cons_zero, List.set_cons_succ, i64_w, i32_w]
            rfl
           refine pure_ (i := 19) (N := some 100) (v := ?_) (a' := ?_) #[true, true, true, true, true, true, true, true, true, true, true, true, true, true, true, true, true, true, true, true, false, false, false, false, false, false, false, false, false, false, false, false, false, false, false, false] rfl rfl (any_of HT_.out (by kernel_rfl)) (fun _ _ _ h => h) (Or.inl ⟨by rfl, ?_⟩) ?_ ?_
           rotate_left
           ·intro w'
            go_simp
            with_reducible rfl
           rotate_left
           ·simp only [Act.put, List.setIfInBounds_toArray, List.set_cons_zero, List.set_cons_succ, i64_w, i32_w]
            rfl
           refine pure_ (i := 20) (N := some 101) (v := (.int .i64 6)) (a' := ?_) #[true, true, true, true, true, true, true, true, true, true, true, true, true, true, true, true, true, true, true, true, true, false, false, false, false, false, false, false, false, false, false, false, false, false, false, false] rfl rfl (any_of HT_.out (by kernel_rfl)) (fun _ _ _ h => h) (Or.inl ⟨by rfl, ?_⟩) ?_ ?_
           ·intro w'
            go_simp
            first | done | rfl
           rotate_left
           ·simp only [Act.put, List.setIfInBounds_toArray, List.set_cons_zero, List.set_cons_succ, i64_w, i32_w]
            rfl
           refine pure_ (i := 21) (N := some 102) (v := (.int .i64 8)) (a' := ?_) #[true, true, true, true, true, true, true, true, true, true, true, true, true, true, true, true, true, true, true, true, true, true, false, false, false, false, false, false, false, false, false, false, false, false, false, false] rfl rfl (any_of HT_.out (by kernel_rfl)) (fun _ _ _ h => h) (Or.inl ⟨by rfl, ?_⟩) ?_ ?_
           ·intro w'
            go_simp
            first | done | rfl
           rotate_left
           ·simp only [Act.put, List.setIfInBounds_toArray, List.set_cons_zero, List.set_cons_succ, i64_w, i32_w]
            rfl
           refine pure_ (i := 22) (N := some 103) (v := ?_) (a' := ?_) #[true, true, true, true, true, true, true, true, true, true, true, true, true, true, true, true, true, true, true, true, true, true, true, false, false, false, false, false, false, false, false, false, false, false, false, false] rfl rfl (any_of HT_.out (by kernel_rfl)) (fun _ _ _ h => h) (Or.inl ⟨by rfl, ?_⟩) ?_ ?_
           rotate_left
           ·intro w'
            go_simp
            with_reducible rfl
           rotate_left
           ·simp only [Act.put, List.setIfInBounds_toArray, List.set_cons_zero, List.set_cons_succ, i64_w, i32_w]
            rfl
           refine pure_ (i := 23) (N := some 104) (v := (.int .i64 6)) (a' := ?_) #[true, true, true, true, true, true, true, true, true, true, true, true, true, true, true, true, true, true, true, true, true, true, true, true, false, false, false, false, false, false, false, false, false, false, false, false] rfl rfl (any_of HT_.out (by kernel_rfl)) (fun _ _ _ h => h) (Or.inl ⟨by rfl, ?_⟩) ?_ ?_
           ·intro w'
            go_simp
            first | done | rfl
           rotate_left
           ·simp only [Act.put, List.setIfInBounds_toArray, List.set_cons_zero, List.set_cons_succ, i64_w, i32_w]
            rfl
           refine pure_ (i := 24) (N := some 105) (v := (.int .i64 8)) (a' := ?_) #[true, true, true, true, true, true, true, true, true, true, true, true, true, true, true, true, true, true, true, true, true, true, true, true, true, false, false, false, false, false, false, false, false, false, false, false] rfl rfl (any_of HT_.out (by kernel_rfl)) (fun _ _ _ h => h) (Or.inl ⟨by rfl, ?_⟩) ?_ ?_
           ·intro w'
            go_simp
            first | done | rfl
           rotate_left
           ·simp only [Act.put, List.setIfInBounds_toArray, List.set_cons_zero, List.set_cons_succ, i64_w, i32_w]
            rfl
           refine pure_ (i := 25) (N := some 106) (v := ?_) (a' := ?_) #[true, true, true, true, true, true, true, true, true, true, true, true, true, true, true, true, true, true, true, true, true, true, true, true, true, true, false, false, false, false, false, false, false, false, false, false] rfl rfl (any_of HT_.out (by kernel_rfl)) (fun _ _ _ h => h) (Or.inl ⟨by rfl, ?_⟩) ?_ ?_
           rotate_left
           ·intro w'
            go_simp
            with_reducible rfl
           rotate_left
           ·simp only [Act.put, List.setIfInBounds_toArray, List.set_cons_zero, List.set_cons_succ, i64_w, i32_w]
            rfl
           refine pure_ (i := 26) (N := some 107) (v := ?_) (a' := ?_) #[true, true, true, true, true, true, true, true, true, true, true, true, true, true, true, true, true, true, true, true, true, true, true, true, true, true, true, false, false, false, false, false, false, false, false, false] rfl rfl (any_of HT_.out (by kernel_rfl)) (fun _ _ _ h => h) (Or.inl ⟨by rfl, ?_⟩) ?_ ?_
           rotate_left
           ·intro w'
            go_simp
            with_reducible rfl
           rotate_left
           ·simp only [Act.put, List.setIfInBounds_toArray, List.set_cons_zero, List.set_cons_succ, i64_w, i32_w]
            rfl
           refine pure_ (i := 27) (N := some 108) (v := ?_) (a' := ?_) #[true, true, true, true, true, true, true, true, true, true, true, true, true, true, true, true, true, true, true, true, true, true, true, true, true, true, true, true, false, false, false, false, false, false, false, false] rfl rfl (any_of HT_.out (by kernel_rfl)) (fun _ _ _ h => h) (Or.inl ⟨by rfl, ?_⟩) ?_ ?_
           rotate_left
           ·intro w'
            go_simp
            with_reducible rfl
           rotate_left
           ·simp only [Act.put, List.setIfInBounds_toArray, List.set_cons_zero, List.set_cons_succ, i64_w, i32_w]
            rfl
           refine pure_ (i := 28) (N := some 109) (v := (.int .i64 6)) (a' := ?_) #[true, true, true, true, true, true, true, true, true, true, true, true, true, true, true, true, true, true, true, true, true, true, true, true, true, true, true, true, true, false, false, false, false, false, false, false] rfl rfl (any_of HT_.out (by kernel_rfl)) (fun _ _ _ h => h) (Or.inl ⟨by rfl, ?_⟩) ?_ ?_
           ·intro w'
            go_simp
            first | done | rfl
           rotate_left
           ·simp only [Act.put, List.setIfInBounds_toArray, List.set_cons_zero, List.set_cons_succ, i64_w, i32_w]
            rfl
           refine pure_ (i := 29) (N := some 110) (v := (.int .i64 8)) (a' := ?_) #[true, true, true, true, true, true, true, true, true, true, true, true, true, true, true, true, true, true, true, true, true, true, true, true, true, true, true, true, true, true, false, false, false, false, false, false] rfl rfl (any_of HT_.out (by kernel_rfl)) (fun _ _ _ h => h) (Or.inl ⟨by rfl, ?_⟩) ?_ ?_
           ·intro w'
            go_simp
            first | done | rfl
           rotate_left
           ·simp only [Act.put, List.setIfInBounds_toArray, List.set_cons_zero, List.set_cons_succ, i64_w, i32_w]
            rfl
           refine pure_ (i := 30) (N := some 111) (v := ?_) (a' := ?_) #[true, true, true, true, true, true, true, true, true, true, true, true, true, true, true, true, true, true, true, true, true, true, true, true, true, true, true, true, true, true, true, false, false, false, false, false] rfl rfl (any_of HT_.out (by kernel_rfl)) (fun _ _ _ h => h) (Or.inl ⟨by rfl, ?_⟩) ?_ ?_
           rotate_left
           ·intro w'
            go_simp
            with_reducible rfl
           rotate_left
           ·simp only [Act.put, List.setIfInBounds_toArray, List.set_cons_zero, List.set_cons_succ, i64_w, i32_w]
            rfl
           refine pure_ (i := 31) (N := some 112) (v := ?_) (a' := ?_) #[true, true, true, true, true, true, true, true, true, true, true, true, true, true, true, true, true, true, true, true, true, true, true, true, true, true, true, true, true, true, true, true, false, false, false, false] rfl rfl (any_of HT_.out (by kernel_rfl)) (fun _ _ _ h => h) (Or.inl ⟨by rfl, ?_⟩) ?_ ?_
           rotate_left
           ·intro w'
            go_simp
            with_reducible rfl
           rotate_left
           ·simp only [Act.put, List.setIfInBounds_toArray, List.set_cons_zero, List.set_cons_succ, i64_w, i32_w]
            rfl
           have HPR := Aside0.mk HPT.out.1
           have hcl4 : 3 ≤ cl - 8 := by have := HCP2.out; omega
           have HSL := Aside0.mk (HPT0.out 3 3 (cl - 8) (Nat.le_refl _) (Nat.le_refl _) hcl4)
           obtain ⟨W2, hW2⟩ : ∃ W2, W0.alloc (.cells #[.int .i64 (ruleOf 3 l).f0, .slice (some ⟨gl, 1, none⟩) 3 3, .int .i64 (ruleOf 3 l).f2, .slice (some ⟨gl, 5, none⟩) 3 3, .slice (some ⟨gl, 8, none⟩) 3 (cl - 8)] 40) = W2 := ⟨_, rfl⟩
           have hb2 : Below W0.heap.size W0 W2 := by rw [← hW2]; exact below_alloc (Below.refl _ _) _
           clear hcl4
           refine one_ (i := 32) (N := some 113) #[true, true, true, true, true, true, true, true, true, true, true, true, true, true, true, true, true, true, true, true, true, true, true, true, true, true, true, true, true, true, true, true, true, false, false, false] rfl rfl (one_of HT_.out (by kernel_rfl)) (by decide) (fun K hK => ?_)
           refine event_step (v := .slice (some ⟨W0.heap.size, 0, none⟩) 1 1) (w1 := W2) (by rfl) (by rw [← hW2]; exact exec_buildR rfl rfl) ?_
           obtain ⟨hnr, hbk2, hs2, xs, hO2, hP2⟩ := read_push HRD0.out hW2 HPR.out.1.symm HPR.out.2.1.symm HPR.out.2.2.symm HSL.out.1 HSL.out.2.1 HSL.out.2.2
           have HNR := Aside0.mk hnr
           have HBK2 := Aside0.mk hbk2
           have HS2 := Aside0.mk hs2
           have HO2 := Aside0.mk hO2
           have HP2 := Aside0.mk hP2
           refine hK.out _ _ ⟨pw_cell_below hb2 hHeld.1, pw_cell_below hb2 hHeld.2.1, pw_cell_below hb2 hHeld.2.2⟩ (fun hHeld2 => ?_)
           clear hK K hW2 hb2 hnr hbk2 hs2 hO2 hP2
           refine norm_ (a' := ?_) ?_ ?_
           rotate_left
           ·show Act.put _ (some 113) _ = _
            simp only [Act.put, List.setIfInBounds_toArray, List.set_cons_zero, List.set_cons_succ, i64_w, i32_w]
            rfl
           refine last_ (i := 33) (N := some 114) #[true, true, true, true, true, true, true, true, true, true, true, true, true, true, true, true, true, true, true, true, true, true, true, true, true, true, true, true, true, true, true, true, true, true, false, false] rfl rfl (one_of HT_.out (by kernel_rfl)) (by decide) (fun K hK => ?_)
           refine append_rule_ev (by rfl) rfl (by rfl) (by rfl) HO2.out HBK2.out cell5 (by have h1 := mapM_len HXS.out; have h2 := HQC.out; have h3 := HNR.out; have h4 : (qs.take i).length ≤ i := List.length_take_le _ _; have h5 := HI2.out; omega) HS2.out ?_
           intro v7 w7 q1 q2
           obtain ⟨hbx, hRDn⟩ := HP2.out v7 w7 q1 q2
           obtain ⟨A7, c7, hv7⟩ := own_slice q1
           subst hv7
           have HRN := Aside0.mk hRDn
           obtain ⟨b0, b1, b2, b3⟩ := box_cells hbx
           have b4 := blk_frozen hbx 3
           clear q1 q2 hbx hRDn hHeld2
           refine hK.out _ _ ?_
           clear hK K
           refine norm_ (a' := ?_) ?_ ?_
           rotate_left
           ·show Act.put _ (some 114) _ = _
            simp only [Act.put, List.setIfInBounds_toArray, List.set_cons_zero, List.set_cons_succ, i64_w, i32_w]
            rfl
           refine pure_ (i := 34) (N := some 115) (v := ?_) (a' := ?_) #[true, true, true, true, true, true, true, true, true, true, true, true, true, true, true, true, true, true, true, true, true, true, true, true, true, true, true, true, true, true, true, true, true, true, true, false] rfl rfl (any_of HT_.out (by kernel_rfl)) (fun _ _ _ h => h) (Or.inl ⟨by rfl, ?_⟩) ?_ ?_
           rotate_left
           ·intro w'
            go_simp
            with_reducible rfl
           rotate_left
           ·simp only [Act.put, List.setIfInBounds_toArray, List.set_cons_zero, List.set_cons_succ, i64_w, i32_w]
            rfl
           refine last_ (i := 35) (N := none) #[true, true, true, true, true, true, true, true, true, true, true, true, true, true, true, true, true, true, true, true, true, true, true, true, true, true, true, true, true, true, true, true, true, true, true, true] rfl rfl (one_of HT_.out (by kernel_rfl)) (by decide) (fun K hK => ?_)
           refine skip_ (w1 := ?_) (by rfl) rfl ?_ ?_
           rotate_left
           ·go_simp
            rfl
           refine hK.out _ _ ?_
           clear hK K
           refine done_ (done_of HT_.out (by kernel_rfl)) ?_
           go_wp2
           go_roundg (qs.length - (i + 1))
           case measure => have := HG2.out; have := CI.out; omega
           case rel =>
            have := CI.out
            exact ⟨i + 1, _, _, by simp, ⟨by omega⟩, ⟨by omega⟩, ⟨HNX2.out⟩, HRN⟩
         ·have HPQ := Aside0.mk (HST.out (by unfold ruleR; rw [hl]; simp only [Option.bind_some]; rw [if_neg h5]))
          clear hl
          rcases HZC.out with hz1 | hz1 | hz1
          ·subst hz1
           have h5 : l.length ≠ 5 := h5
           have e1 : ((l.length : Int) != 5) = true := bne_iff_ne.2 (by omega)
           have e2 : ((l.length : Int) == 5) = false := beq_eq_false_iff_ne.2 (by omega)
           have e3 : (l.length == 5) = false := beq_eq_false_iff_ne.2 h5
           have e4 : (l.length != 5) = true := bne_iff_ne.2 h5
           have e5 : decide ((l.length : Int) = 5) = false := decide_eq_false (by omega)
           have e6 : decide (l.length = 5) = false := decide_eq_false h5
           clear h5
           go_wp2_with (go_at_call 29; (refine (integers_calls p _ (HLAY.out.below (below_step HB1.out HBL.out)) (by have := HPS.out; omega) HPB2.out).mono ?_; rw [HI3.out]; rintro e w6 ⟨v6, rfl, hno, hyes, hb⟩; have HRD := Aside0.mk (HRD.out.later hb); have HOW := Aside0.mk hyes; have HBL := Aside0.mk HRD.out.below; obtain ⟨z0, z1, z2, z3, f0, f1, f2, f3⟩ := zero_cells (res0 HBL.out); obtain ⟨Ah, ch2, eh⟩ := own_slice (hyes _ rfl); subst eh; clear hno hyes hb))
           refine bodyPost_ret (v := .tuple #[zeroM, .int .i64 3]) (by simp [results, Tryd.results14, go_sem, z0, z1, z2, z3, zeroM]) rfl ?_
           exact ⟨below_set (below_set (below_set (below_set (below_step HB1.out HBL.out) (Nat.le_refl _)) (Nat.le_refl _)) (Nat.le_refl _)) (Nat.le_refl _), by rw [HPQ.out]⟩
          ·subst hz1
           have h5 : l.length ≠ 8 := h5
           have e1 : ((l.length : Int) != 8) = true := bne_iff_ne.2 (by omega)
           have e2 : ((l.length : Int) == 8) = false := beq_eq_false_iff_ne.2 (by omega)
           have e3 : (l.length == 8) = false := beq_eq_false_iff_ne.2 h5
           have e4 : (l.length != 8) = true := bne_iff_ne.2 h5
           have e5 : decide ((l.length : Int) = 8) = false := decide_eq_false (by omega)
           have e6 : decide (l.length = 8) = false := decide_eq_false h5
           clear h5
           go_wp2_with (go_at_call 29; (refine (integers_calls p _ (HLAY.out.below (below_step HB1.out HBL.out)) (by have := HPS.out; omega) HPB2.out).mono ?_; rw [HI3.out]; rintro e w6 ⟨v6, rfl, hno, hyes, hb⟩; have HRD := Aside0.mk (HRD.out.later hb); have HOW := Aside0.mk hyes; have HBL := Aside0.mk HRD.out.below; obtain ⟨z0, z1, z2, z3, f0, f1, f2, f3⟩ := zero_cells (res0 HBL.out); obtain ⟨Ah, ch2, eh⟩ := own_slice (hyes _ rfl); subst eh; clear hno hyes hb))
           refine bodyPost_ret (v := .tuple #[zeroM, .int .i64 3]) (by simp [results, Tryd.results14, go_sem, z0, z1, z2, z3, zeroM]) rfl ?_
           exact ⟨below_set (below_set (below_set (below_set (below_step HB1.out HBL.out) (Nat.le_refl _)) (Nat.le_refl _)) (Nat.le_refl _)) (Nat.le_refl _), by rw [HPQ.out]⟩
          ·subst hz1
           have h5 : l.length ≠ 11 := h5
           have e1 : ((l.length : Int) != 11) = true := bne_iff_ne.2 (by omega)
           have e2 : ((l.length : Int) == 11) = false := beq_eq_false_iff_ne.2 (by omega)
           have e3 : (l.length == 11) = false := beq_eq_false_iff_ne.2 h5
           have e4 : (l.length != 11) = true := bne_iff_ne.2 h5
           have e5 : decide ((l.length : Int) = 11) = false := decide_eq_false (by omega)
           have e6 : decide (l.length = 11) = false := decide_eq_false h5
           clear h5
           go_wp2_with (go_at_call 29; (refine (integers_calls p _ (HLAY.out.below (below_step HB1.out HBL.out)) (by have := HPS.out; omega) HPB2.out).mono ?_; rw [HI3.out]; rintro e w6 ⟨v6, rfl, hno, hyes, hb⟩; have HRD := Aside0.mk (HRD.out.later hb); have HOW := Aside0.mk hyes; have HBL := Aside0.mk HRD.out.below; obtain ⟨z0, z1, z2, z3, f0, f1, f2, f3⟩ := zero_cells (res0 HBL.out); obtain ⟨Ah, ch2, eh⟩ := own_slice (hyes _ rfl); subst eh; clear hno hyes hb))
           refine bodyPost_ret (v := .tuple #[zeroM, .int .i64 3]) (by simp [results, Tryd.results14, go_sem, z0, z1, z2, z3, zeroM]) rfl ?_
           exact ⟨below_set (below_set (below_set (below_set (below_step HB1.out HBL.out) (Nat.le_refl _)) (Nat.le_refl _)) (Nat.le_refl _)) (Nat.le_refl _), by rw [HPQ.out]⟩
       ·have cib : decide ((i : Int) < (qs.length : Int)) = false := decide_eq_false (by omega)
        have cib2 : decide (i < qs.length) = false := decide_eq_false ci
        have HM : Aside0 (qs.mapM (ruleR intsR z.toNat) = some rs) := ⟨by rw [← HXS.out, List.take_of_length_le (by omega)]⟩
        have HLQ : Aside0 (rs.length ≤ 100000) := ⟨by have := mapM_len HM.out; have := HQC.out; omega⟩
        clear ci
        obtain ⟨A, n, c, hvA⟩ := HRD.out.rows.slice
        subst hvA
        obtain ⟨en, hnc, hC⟩ := HRD.out.rows.C
        subst en
        have HCC := Aside0.mk hC
        have HNC := Aside0.mk hnc
        have HPD := Aside0.mk (parseP_done (s := s) HI.out HZ.out HM.out)
        obtain ⟨b0, b1, b2, b3⟩ := box_cells HRD.out.box
        clear hC hnc
        cases hv : validM x y z rs with
        | false =>
         have HPQ := Aside0.mk (HPD.out.trans (if_neg (fun hh => by rw [hv] at hh; cases hh.1)))
         have HV := Aside0.mk hv
         have HBL := Aside0.mk HRD.out.below
         clear hv
         go_wp2_with (go_at_call 10; refine (valid_calls x y z A c rs _ HCC.out).mono ?_; rw [HV.out]; rintro e w8 ⟨rfl, hb⟩; have HBL := Aside0.mk (below_step HBL.out hb); obtain ⟨z0, z1, z2, z3, f0, f1, f2, f3⟩ := zero_cells (res0 HBL.out); clear hb)
         refine bodyPost_ret (v := .tuple #[zeroM, .int .i64 3]) (by simp [results, Tryd.results14, go_sem, z0, z1, z2, z3, zeroM]) rfl ?_
         exact ⟨below_set (below_set (below_set (below_set (below_step HB1.out HBL.out) (Nat.le_refl _)) (Nat.le_refl _)) (Nat.le_refl _)) (Nat.le_refl _), by rw [HPQ.out]⟩
        | true =>
         have HV := Aside0.mk hv
         have HVN := Aside0.mk (valid_neat hv)
         clear hv
         have HBL := Aside0.mk HRD.out.below
         obtain ⟨TX, hTX⟩ : ∃ TX : ByteArray, (⟨(writeT x y z rs).toArray⟩ : ByteArray) = TX := ⟨_, rfl⟩
         have HTX := Aside0.mk hTX
         have HTI : Aside0 (TX.toList = s.toList ↔ writeT x y z rs = s.data.toList) := ⟨by rw [← hTX, ByteArray.toList_eq, ByteArray.toList_eq]⟩
         clear hTX
         by_cases ht : writeT x y z rs = s.data.toList
         ·have HPQ := Aside0.mk (HPD.out.trans (if_pos ⟨HV.out, ht⟩))
          have t1 : (TX.toList == s.toList) = true := beq_iff_eq.2 (HTI.out.2 ht)
          have t2 : (TX.toList != s.toList) = false := bne_eq_false_iff_eq.2 (HTI.out.2 ht)
          clear ht
          go_wp2_with (first
           | (go_at_call 10; refine (valid_calls x y z A c rs _ HCC.out).mono ?_; rw [HV.out]; rintro e w8 ⟨rfl, hb⟩; have HRD := Aside0.mk (HRD.out.later hb); have HBL := Aside0.mk (below_step HBL.out hb); obtain ⟨b0, b1, b2, b3⟩ := box_cells HRD.out.box; obtain ⟨z0, z1, z2, z3, f0, f1, f2, f3⟩ := zero_cells (res0 HBL.out); clear hb)
           | (go_at_call 25; refine (write_calls x y z A c rs _ HRD.out.rows.C.2.2 (HLAY.out.below (below_step HB1.out HBL.out)).lay HVN.out.2.1 HVN.out.2.2 HLQ.out).mono ?_; rw [HTX.out]; rintro e w9 ⟨rfl, hb⟩; have HRD := Aside0.mk (HRD.out.later hb); have HBL := Aside0.mk (below_step HBL.out hb); obtain ⟨b0, b1, b2, b3⟩ := box_cells HRD.out.box; obtain ⟨z0, z1, z2, z3, f0, f1, f2, f3⟩ := zero_cells (res0 HBL.out); clear hb))
          obtain ⟨WR, hWR, ⟨g0, g1, g2, g3⟩, hbR, hCR⟩ := done_out (x := x) (y := y) (z := z) (res0 HBL.out) (below_step HB1.out HBL.out) HRD.out.rows
          rw [hWR]
          refine bodyPost_ret (v := .tuple #[.agg #[.int .i64 x, .int .i64 y, .int .i64 z, .slice A rs.length c], .int .i64 0]) (by simp [results, Tryd.results14, go_sem, g0, g1, g2, g3]) rfl ?_
          refine ⟨hbR, ?_⟩
          rw [HPQ.out]
          exact ⟨A, c, rfl, HNC.out, _, hCR⟩
         ·have HPQ := Aside0.mk (HPD.out.trans (if_neg (fun hh => ht hh.2)))
          have t1 : (TX.toList == s.toList) = false := beq_eq_false_iff_ne.2 (fun e => ht (HTI.out.1 e))
          have t2 : (TX.toList != s.toList) = true := bne_iff_ne.2 (fun e => ht (HTI.out.1 e))
          clear ht
          go_wp2_with (first
           | (go_at_call 10; refine (valid_calls x y z A c rs _ HCC.out).mono ?_; rw [HV.out]; rintro e w8 ⟨rfl, hb⟩; have HRD := Aside0.mk (HRD.out.later hb); have HBL := Aside0.mk (below_step HBL.out hb); obtain ⟨b0, b1, b2, b3⟩ := box_cells HRD.out.box; obtain ⟨z0, z1, z2, z3, f0, f1, f2, f3⟩ := zero_cells (res0 HBL.out); clear hb)
           | (go_at_call 25; refine (write_calls x y z A c rs _ HRD.out.rows.C.2.2 (HLAY.out.below (below_step HB1.out HBL.out)).lay HVN.out.2.1 HVN.out.2.2 HLQ.out).mono ?_; rw [HTX.out]; rintro e w9 ⟨rfl, hb⟩; have HRD := Aside0.mk (HRD.out.later hb); have HBL := Aside0.mk (below_step HBL.out hb); obtain ⟨z0, z1, z2, z3, f0, f1, f2, f3⟩ := zero_cells (res0 HBL.out); clear hb))
          refine bodyPost_ret (v := .tuple #[zeroM, .int .i64 3]) (by simp [results, Tryd.results14, go_sem, z0, z1, z2, z3, zeroM]) rfl ?_
          exact ⟨below_set (below_set (below_set (below_set (below_step HB1.out HBL.out) (Nat.le_refl _)) (Nat.le_refl _)) (Nat.le_refl _)) (Nat.le_refl _), by rw [HPQ.out]⟩
    ·rw [hq, parseP_head_bad hi (fun hh => hz hh.2)]
     clear hq hi
     by_cases c1 : z < 1
     ·have e1 : decide (z < 1) = true := decide_eq_true c1
      clear hz c1
      go_enter Tryd.func14, Tryd.ntmps14
      go_wp2_with (first | (go_at_call 28; (rw [HW1.out]; refine (split_calls s semi W1 (HLAY.out.below HB1.out) (by have := HS.out; omega) (by decide)).mono ?_; rw [HCQ.out]; rintro e w2 ⟨P, rfl, hP, hPb, hb⟩; have HP := Aside0.mk hP; have HPB := Aside0.mk hPb; have HBL := Aside0.mk hb; have hp0 := str_at hP (i := 0) (by simp); clear hP hPb hb)) | (go_at_call 29; (refine (integers_calls q0 _ (HLAY.out.below (below_step HB1.out HBL.out)) (by have := HQL.out q0 List.mem_cons_self; omega) HCB.out).mono ?_; rw [HI.out]; rintro e w3 ⟨v3, rfl, hno, hyes, hb⟩; have HP3 := Aside0.mk ((hb.block _ (Array.getElem?_eq_some_iff.1 HP.out).1).trans HP.out); have HOW := Aside0.mk hyes; have HNO := Aside0.mk hno; have HBM := HBL; have HBL := Aside0.mk (below_step HBL.out hb); obtain ⟨z0, z1, z2, z3, f0, f1, f2, f3⟩ := zero_cells (res0 HBL.out); obtain ⟨gh, ch, eh, hgh, hrow⟩ := own_row (l := [x, y, z]) (hyes _ rfl) rfl (by simp); subst eh; have HGH := Aside0.mk hgh; have HRH := Aside0.mk hrow; have x0 := hrow.cell (j := 0) (by simp); have x1 := hrow.cell (j := 1) (by simp); have x2 := hrow.cell (j := 2) (by simp); clear hno hyes hb hgh hrow)))
      refine bodyPost_ret (v := .tuple #[zeroM, .int .i64 3]) (by simp [results, Tryd.results14, go_sem, z0, z1, z2, z3, zeroM]) rfl ?_
      exact ⟨below_set (below_set (below_set (below_set (below_step HB1.out HBL.out) (Nat.le_refl _)) (Nat.le_refl _)) (Nat.le_refl _)) (Nat.le_refl _), rfl⟩
     ·have e1 : decide (z < 1) = false := decide_eq_false c1
      have e2 : decide (3 < z) = true := decide_eq_true (by omega)
      clear hz c1
      go_enter Tryd.func14, Tryd.ntmps14
      go_wp2_with (first | (go_at_call 28; (rw [HW1.out]; refine (split_calls s semi W1 (HLAY.out.below HB1.out) (by have := HS.out; omega) (by decide)).mono ?_; rw [HCQ.out]; rintro e w2 ⟨P, rfl, hP, hPb, hb⟩; have HP := Aside0.mk hP; have HPB := Aside0.mk hPb; have HBL := Aside0.mk hb; have hp0 := str_at hP (i := 0) (by simp); clear hP hPb hb)) | (go_at_call 29; (refine (integers_calls q0 _ (HLAY.out.below (below_step HB1.out HBL.out)) (by have := HQL.out q0 List.mem_cons_self; omega) HCB.out).mono ?_; rw [HI.out]; rintro e w3 ⟨v3, rfl, hno, hyes, hb⟩; have HP3 := Aside0.mk ((hb.block _ (Array.getElem?_eq_some_iff.1 HP.out).1).trans HP.out); have HOW := Aside0.mk hyes; have HNO := Aside0.mk hno; have HBM := HBL; have HBL := Aside0.mk (below_step HBL.out hb); obtain ⟨z0, z1, z2, z3, f0, f1, f2, f3⟩ := zero_cells (res0 HBL.out); obtain ⟨gh, ch, eh, hgh, hrow⟩ := own_row (l := [x, y, z]) (hyes _ rfl) rfl (by simp); subst eh; have HGH := Aside0.mk hgh; have HRH := Aside0.mk hrow; have x0 := hrow.cell (j := 0) (by simp); have x1 := hrow.cell (j := 1) (by simp); have x2 := hrow.cell (j := 2) (by simp); clear hno hyes hb hgh hrow)))
      refine bodyPost_ret (v := .tuple #[zeroM, .int .i64 3]) (by simp [results, Tryd.results14, go_sem, z0, z1, z2, z3, zeroM]) rfl ?_
      exact ⟨below_set (below_set (below_set (below_set (below_step HB1.out HBL.out) (Nat.le_refl _)) (Nat.le_refl _)) (Nat.le_refl _)) (Nat.le_refl _), rfl⟩
   ·rw [hq, parseP_head_bad hi (fun hh => h3 hh.1)]
    have e1 : ((h.length : Int) != 3) = true := bne_iff_ne.2 (by omega)
    have e2 : ((h.length : Int) == 3) = false := beq_eq_false_iff_ne.2 (by omega)
    have e3 : (h.length == 3) = false := beq_eq_false_iff_ne.2 h3
    have e4 : (h.length != 3) = true := bne_iff_ne.2 h3
    have e5 : decide ((h.length : Int) = 3) = false := decide_eq_false (by omega)
    have e6 : decide (h.length = 3) = false := decide_eq_false h3
    clear hq hi h3
    go_enter Tryd.func14, Tryd.ntmps14
    go_wp2_with (first | (go_at_call 28; (rw [HW1.out]; refine (split_calls s semi W1 (HLAY.out.below HB1.out) (by have := HS.out; omega) (by decide)).mono ?_; rw [HCQ.out]; rintro e w2 ⟨P, rfl, hP, hPb, hb⟩; have HP := Aside0.mk hP; have HPB := Aside0.mk hPb; have HBL := Aside0.mk hb; have hp0 := str_at hP (i := 0) (by simp); clear hP hPb hb)) | (go_at_call 29; (refine (integers_calls q0 _ (HLAY.out.below (below_step HB1.out HBL.out)) (by have := HQL.out q0 List.mem_cons_self; omega) HCB.out).mono ?_; rw [HI.out]; rintro e w3 ⟨v3, rfl, hno, hyes, hb⟩; have HP3 := Aside0.mk ((hb.block _ (Array.getElem?_eq_some_iff.1 HP.out).1).trans HP.out); have HOW := Aside0.mk hyes; have HNO := Aside0.mk hno; have HBM := HBL; have HBL := Aside0.mk (below_step HBL.out hb); obtain ⟨z0, z1, z2, z3, f0, f1, f2, f3⟩ := zero_cells (res0 HBL.out); obtain ⟨Ah, ch, eh⟩ := own_slice (hyes _ rfl); subst eh; clear hno hyes hb)))
    refine bodyPost_ret (v := .tuple #[zeroM, .int .i64 3]) (by simp [results, Tryd.results14, go_sem, z0, z1, z2, z3, zeroM]) rfl ?_
    exact ⟨below_set (below_set (below_set (below_set (below_step HB1.out HBL.out) (Nat.le_refl _)) (Nat.le_refl _)) (Nat.le_refl _)) (Nat.le_refl _), rfl⟩
 ·have d1 : decide ((40000 : Int) < (s.size : Int)) = true := decide_eq_true (by omega)
  have d2 : decide (40000 < s.size) = true := decide_eq_true (by omega)
  have d3 : (40000 < s.size) = True := eq_true (by omega)
  have HF : Aside0 (parseF s = none) := ⟨if_neg c0⟩
  rw [HF.out]
  clear c0 hW1
  go_enter Tryd.func14, Tryd.ntmps14
  go_wp2
  rw [HW1.out]
  obtain ⟨z0, z1, z2, z3, _⟩ := zero_cells (res0 (Below.refl _ _))
  refine bodyPost_ret (v := .tuple #[zeroM, .int .i64 3]) (by simp [results, Tryd.results14, go_sem, z0, z1, z2, z3, zeroM]) rfl ?_
  exact ⟨HB1.out, rfl⟩
end Go.Proofs.YtfoodfhhdbaieaaDoor.Giv
