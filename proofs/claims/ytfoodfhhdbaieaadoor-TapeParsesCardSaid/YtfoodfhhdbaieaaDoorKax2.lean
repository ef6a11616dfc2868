-- CUT by a program of this session from a text printed by the kit's print
import Derived.Test.YtfoodfhhdbaieaaDoorKax0
import Derived.Test.YtfoodfhhdbaieaaDoorKax1
namespace Go.Proofs.YtfoodfhhdbaieaaDoor.Ka
open Go.RowKit Go.Proofs.YtfoodfhhdbaieaaDoorW.PrintWords Go.Proofs.YtfoodfhhdbaieaaDoorW.PrintLast Go.Proofs.YtfoodfhhdbaieaaDoorW.PrintMore
attribute [local go_sem] max2_int min2_int max_two min_two max_three min_three max_four min_four   -- for this text's walks alone
set_option linter.unusedVariables false
set_option linter.unusedSimpArgs false

mutual
def commodatumref20_Valid.j0 : Nat → Bool → Int → Int → Int → List (S40) → Option (Bool)
 | 0, _, _, _, _, _ => none
 | k + 1, x33, x132000, x132001, x132002, x132003 => if x33 = true then (some false) else (commodatumref20_Valid.l0 k 0 x132000 x132001 x132002 x132003)
def commodatumref20_Valid.l0 : Nat → Int → Int → Int → Int → List (S40) → Option (Bool)
 | 0, _, _, _, _, _ => none
 | k + 1, x3, x132000, x132001, x132002, x132003 => if x3 < (x132003.length : Int) then (if 0 ≤ x3 then (if ((rd_T40 x132003 x3).f0) < 0 then (commodatumref20_Valid.j2 k x3 true x132000 x132001 x132002 x132003 ((rd_T40 x132003 x3).f0) ((rd_T40 x132003 x3).f1) ((rd_T40 x132003 x3).f2) ((rd_T40 x132003 x3).f3) ((rd_T40 x132003 x3).f4)) else (if ((rd_T40 x132003 x3).f0) ≥ x132000 then (commodatumref20_Valid.j2 k x3 true x132000 x132001 x132002 x132003 ((rd_T40 x132003 x3).f0) ((rd_T40 x132003 x3).f1) ((rd_T40 x132003 x3).f2) ((rd_T40 x132003 x3).f3) ((rd_T40 x132003 x3).f4)) else (if ((rd_T40 x132003 x3).f0) = 1 then (commodatumref20_Valid.j2 k x3 true x132000 x132001 x132002 x132003 ((rd_T40 x132003 x3).f0) ((rd_T40 x132003 x3).f1) ((rd_T40 x132003 x3).f2) ((rd_T40 x132003 x3).f3) ((rd_T40 x132003 x3).f4)) else (if ((rd_T40 x132003 x3).f0) = 2 then (commodatumref20_Valid.j2 k x3 true x132000 x132001 x132002 x132003 ((rd_T40 x132003 x3).f0) ((rd_T40 x132003 x3).f1) ((rd_T40 x132003 x3).f2) ((rd_T40 x132003 x3).f3) ((rd_T40 x132003 x3).f4)) else (if ((rd_T40 x132003 x3).f2) < 0 then (commodatumref20_Valid.j2 k x3 true x132000 x132001 x132002 x132003 ((rd_T40 x132003 x3).f0) ((rd_T40 x132003 x3).f1) ((rd_T40 x132003 x3).f2) ((rd_T40 x132003 x3).f3) ((rd_T40 x132003 x3).f4)) else (commodatumref20_Valid.j2 k x3 (decide (((rd_T40 x132003 x3).f2) ≥ x132000)) x132000 x132001 x132002 x132003 ((rd_T40 x132003 x3).f0) ((rd_T40 x132003 x3).f1) ((rd_T40 x132003 x3).f2) ((rd_T40 x132003 x3).f3) ((rd_T40 x132003 x3).f4))))))) else (none)) else (some true)
def commodatumref20_Valid.j2 : Nat → Int → Bool → Int → Int → Int → List (S40) → Int → List Int → Int → List Int → List Int → Option (Bool)
 | 0, _, _, _, _, _, _, _, _, _, _, _ => none
 | k + 1, x3, x77, x132000, x132001, x132002, x132003, x134000, x134001, x134002, x134003, x134004 => if x77 = true then (some false) else ((commodatumref20_within.f k x134001 x132002 0 (wrap64 (x132001 - 1))).bind fun t134 => (if t134 = true then ((commodatumref20_within.f k x134003 x132002 0 (wrap64 (x132001 - 1))).bind fun t135 => (if t135 = true then ((commodatumref20_within.f k x134004 x132002 (-1) 1).bind fun t136 => (commodatumref20_Valid.j3 k x3 (!t136) x132000 x132001 x132002 x132003 x134000 x134001 x134002 x134003 x134004)) else (commodatumref20_Valid.j3 k x3 true x132000 x132001 x132002 x132003 x134000 x134001 x134002 x134003 x134004))) else (commodatumref20_Valid.j3 k x3 true x132000 x132001 x132002 x132003 x134000 x134001 x134002 x134003 x134004)))
def commodatumref20_Valid.j3 : Nat → Int → Bool → Int → Int → Int → List (S40) → Int → List Int → Int → List Int → List Int → Option (Bool)
 | 0, _, _, _, _, _, _, _, _, _, _, _ => none
 | k + 1, x3, x105, x132000, x132001, x132002, x132003, x134000, x134001, x134002, x134003, x134004 => if x105 = true then (some false) else (commodatumref20_Valid.l1 k x3 0 x132000 x132001 x132002 x132003 x134000 x134001 x134002 x134003 x134004)
def commodatumref20_Valid.l1 : Nat → Int → Int → Int → Int → Int → List (S40) → Int → List Int → Int → List Int → List Int → Option (Bool)
 | 0, _, _, _, _, _, _, _, _, _, _, _ => none
 | k + 1, x3, x5, x132000, x132001, x132002, x132003, x134000, x134001, x134002, x134003, x134004 => if x5 < x3 then (if 0 ≤ x5 then (if x5 < (x132003.length : Int) then (if ((rd_T40 x132003 x5).f0) = x134000 then ((commodatumref20_Equal.f k ((rd_T40 x132003 x5).f1) x134001).bind fun t139 => (if t139 = true then (some false) else (commodatumref20_Valid.l1 k x3 (wrap64 (x5 + 1)) x132000 x132001 x132002 x132003 x134000 x134001 x134002 x134003 x134004))) else (commodatumref20_Valid.l1 k x3 (wrap64 (x5 + 1)) x132000 x132001 x132002 x132003 x134000 x134001 x134002 x134003 x134004)) else (none)) else (none)) else (commodatumref20_Valid.l0 k (wrap64 (x3 + 1)) x132000 x132001 x132002 x132003)
end
def commodatumref20_Valid.f (k : Nat) (a0_0 : Int) (a0_1 : Int) (a0_2 : Int) (l0_3 : List (S40)) : Option (Bool) := if a0_0 < 3 then (commodatumref20_Valid.j0 k true a0_0 a0_1 a0_2 l0_3) else (if a0_0 > 64 then (commodatumref20_Valid.j0 k true a0_0 a0_1 a0_2 l0_3) else (if a0_1 < 2 then (commodatumref20_Valid.j0 k true a0_0 a0_1 a0_2 l0_3) else (if a0_1 > 8 then (commodatumref20_Valid.j0 k true a0_0 a0_1 a0_2 l0_3) else (if a0_2 < 1 then (commodatumref20_Valid.j0 k true a0_0 a0_1 a0_2 l0_3) else (commodatumref20_Valid.j0 k (decide (a0_2 > 3)) a0_0 a0_1 a0_2 l0_3)))))
set_option maxHeartbeats 8000000 in
set_option maxRecDepth 100000 in
theorem commodatumref20_Valid.calls (k : Nat) (a0_0 : Int) (a0_1 : Int) (a0_2 : Int) (A0_3 : Option Addr) (c0_3 : Nat) (l0_3 : List (S40)) (r : Bool) (w : World) (hr0_3 : Kd.C k40 w A0_3 l0_3.length l0_3) (hc0_3 : l0_3.length ≤ c0_3) (h : commodatumref20_Valid.f k a0_0 a0_1 a0_2 l0_3 = some r) :
  Calls Tryd.prog 8 #[.agg #[.int .i64 a0_0, .int .i64 a0_1, .int .i64 a0_2, .slice A0_3 l0_3.length c0_3]] w fun e w' => e = .returned (.bool r) ∧ Below w.heap.size w w' := by
 have hu24 := Tryd.underlying24
 have hu40 := Tryd.underlying40
 have HR0_3 := Aside0.mk hr0_3
 have HC0_3 := Aside0.mk hc0_3
 clear hr0_3 hc0_3
 have HB := Aside0.mk (Below.refl w.heap.size w)
 have H : (if a0_0 < 3 then (commodatumref20_Valid.j0 k true a0_0 a0_1 a0_2 l0_3) else (if a0_0 > 64 then (commodatumref20_Valid.j0 k true a0_0 a0_1 a0_2 l0_3) else (if a0_1 < 2 then (commodatumref20_Valid.j0 k true a0_0 a0_1 a0_2 l0_3) else (if a0_1 > 8 then (commodatumref20_Valid.j0 k true a0_0 a0_1 a0_2 l0_3) else (if a0_2 < 1 then (commodatumref20_Valid.j0 k true a0_0 a0_1 a0_2 l0_3) else (commodatumref20_Valid.j0 k (decide (a0_2 > 3)) a0_0 a0_1 a0_2 l0_3)))))) = some r := h
 clear h
 have HC2 := Aside0.mk H
 clear H
 go_enter Tryd.func8, Tryd.ntmps8
 go_upto_region 1 with (first | ((with_reducible refine gate_dst (N := 1) rfl ?_); refine box_event ?hg (N := 1) ?hd (cs := #[.int .i64 a0_0, .int .i64 a0_1, .int .i64 a0_2, .slice A0_3 l0_3.length c0_3]) (t := 24) ?hr ?_; (case hd => rfl); (case hg => rfl); (case hr => first | (go_simp; done) | (go_simp; rfl)); intro gb131 hg w3 hbox hb; have n0_ := Aside0.mk (below_step (by repeat (first | (with_reducible first | exact HB.out | apply below_alloc | apply pw_below_drewN | apply below_drew1) | exact HB.out)) hb); have n1_ := Aside0.mk (hbox); have n2_ := Aside0.mk ((by rw [hg]; exact (below_size (by repeat (first | (with_reducible first | exact HB.out | apply below_alloc | apply pw_below_drewN | apply below_drew1) | exact HB.out))) : w.heap.size ≤ gb131)); have n3_ := Aside0.mk ((by rw [hg]; exact (below_size (by repeat (first | (with_reducible first | exact HB.out | apply below_alloc | apply pw_below_drewN | apply below_drew1) | exact HB.out))) : w.heap.size ≤ gb131)); clear HB; have HB := n0_; have BK131 := n1_; have GW131 := n2_; have GE131 := n3_; clear n0_ n1_ n2_ n3_; clear hb hbox hg))
 repeat (go_quiet (first | ((with_reducible refine gate_dst (N := 1) rfl ?_); refine box_event ?hg (N := 1) ?hd (cs := #[.int .i64 a0_0, .int .i64 a0_1, .int .i64 a0_2, .slice A0_3 l0_3.length c0_3]) (t := 24) ?hr ?_; (case hd => rfl); (case hg => rfl); (case hr => first | (go_simp; done) | (go_simp; rfl)); intro gb131 hg w3 hbox hb; have n0_ := Aside0.mk (below_step (by repeat (first | (with_reducible first | exact HB.out | apply below_alloc | apply pw_below_drewN | apply below_drew1) | exact HB.out)) hb); have n1_ := Aside0.mk (hbox); have n2_ := Aside0.mk ((by rw [hg]; exact (below_size (by repeat (first | (with_reducible first | exact HB.out | apply below_alloc | apply pw_below_drewN | apply below_drew1) | exact HB.out))) : w.heap.size ≤ gb131)); have n3_ := Aside0.mk ((by rw [hg]; exact (below_size (by repeat (first | (with_reducible first | exact HB.out | apply below_alloc | apply pw_below_drewN | apply below_drew1) | exact HB.out))) : w.heap.size ≤ gb131)); clear HB; have HB := n0_; have BK131 := n1_; have GW131 := n2_; have GE131 := n3_; clear n0_ n1_ n2_ n3_; clear hb hbox hg)); go_upto_region 1 with (first | ((with_reducible refine gate_dst (N := 1) rfl ?_); refine box_event ?hg (N := 1) ?hd (cs := #[.int .i64 a0_0, .int .i64 a0_1, .int .i64 a0_2, .slice A0_3 l0_3.length c0_3]) (t := 24) ?hr ?_; (case hd => rfl); (case hg => rfl); (case hr => first | (go_simp; done) | (go_simp; rfl)); intro gb131 hg w3 hbox hb; have n0_ := Aside0.mk (below_step (by repeat (first | (with_reducible first | exact HB.out | apply below_alloc | apply pw_below_drewN | apply below_drew1) | exact HB.out)) hb); have n1_ := Aside0.mk (hbox); have n2_ := Aside0.mk ((by rw [hg]; exact (below_size (by repeat (first | (with_reducible first | exact HB.out | apply below_alloc | apply pw_below_drewN | apply below_drew1) | exact HB.out))) : w.heap.size ≤ gb131)); have n3_ := Aside0.mk ((by rw [hg]; exact (below_size (by repeat (first | (with_reducible first | exact HB.out | apply below_alloc | apply pw_below_drewN | apply below_drew1) | exact HB.out))) : w.heap.size ≤ gb131)); clear HB; have HB := n0_; have BK131 := n1_; have GW131 := n2_; have GE131 := n3_; clear n0_ n1_ n2_ n3_; clear hb hbox hg)))
 (try simp only [Act.put, List.setIfInBounds_toArray, List.set_cons_zero, List.set_cons_succ])
 go_cut [33] (fun v33 wc => ∃ (kq : Nat) (x33_1 : Bool), v33 = .bool x33_1 ∧ Aside0 (commodatumref20_Valid.j0 kq x33_1 a0_0 a0_1 a0_2 l0_3 = some r) ∧ Aside0 (kq ≤ k) ∧ Aside0 (wc.heap[gb131]? = some (.cells #[.int .i64 a0_0, .int .i64 a0_1, .int .i64 a0_2, (.slice A0_3 l0_3.length c0_3)] 24 (0, 0))) ∧ Aside0 (Below w.heap.size w wc))
 case first =>
  have H := HC2.out
  clear HC2
  by_cases c4 : a0_0 < 3
  ·rw [if_pos c4] at H
   have c4b0 : decide (a0_0 < 3) = true := decide_eq_true c4
   clear c4
   (first | rw [c4b0] | (simp only [i64_w, i32_w]; rw [c4b0]) | skip)
   have H' := Aside0.mk H
   clear H
   have hcz5_0 : w3.cell? ⟨gb131, 0, none⟩ = some (.int .i64 a0_0) := (blk_cell BK131.out 0).trans rfl
   have hcz5_1 : w3.cell? ⟨gb131, 1, none⟩ = some (.int .i64 a0_1) := (blk_cell BK131.out 1).trans rfl
   have hcz5_2 : w3.cell? ⟨gb131, 2, none⟩ = some (.int .i64 a0_2) := (blk_cell BK131.out 2).trans rfl
   have hcz5_3 : w3.cell? ⟨gb131, 3, none⟩ = some (.slice A0_3 l0_3.length c0_3) := (blk_cell BK131.out 3).trans rfl
   have hfz5_0 := blk_frozen BK131.out 0
   have hfz5_1 := blk_frozen BK131.out 1
   have hfz5_2 := blk_frozen BK131.out 2
   have hfz5_3 := blk_frozen BK131.out 3
   go_wp2
   repeat (go_quiet (fail); try go_wp2)
   go_meet
   case rel => exact ⟨_, (true), (by first | rfl | (simp; done) | (simp [*]; done)), H', ⟨by first | omega | exact Nat.le_refl _⟩, ⟨by (with_reducible repeat (first | refine blk_drewN ?_ _ | refine blk_drew ?_ | refine blk_alloc ?_ _)); exact BK131.out⟩, ⟨by repeat (first | (with_reducible first | exact HB.out | apply below_alloc | apply pw_below_drewN | apply below_drew1 | refine below_set ?_ GE131.out) | exact HB.out)⟩⟩
  ·rw [if_neg c4] at H
   have c4b0 : decide (a0_0 < 3) = false := decide_eq_false c4
   clear c4
   (first | rw [c4b0] | (simp only [i64_w, i32_w]; rw [c4b0]) | skip)
   by_cases c6 : a0_0 > 64
   ·rw [if_pos c6] at H
    have c6b0 : decide (64 < a0_0) = true := decide_eq_true c6
    clear c6
    have H' := Aside0.mk H
    clear H
    have hcz7_0 : w3.cell? ⟨gb131, 0, none⟩ = some (.int .i64 a0_0) := (blk_cell BK131.out 0).trans rfl
    have hcz7_1 : w3.cell? ⟨gb131, 1, none⟩ = some (.int .i64 a0_1) := (blk_cell BK131.out 1).trans rfl
    have hcz7_2 : w3.cell? ⟨gb131, 2, none⟩ = some (.int .i64 a0_2) := (blk_cell BK131.out 2).trans rfl
    have hcz7_3 : w3.cell? ⟨gb131, 3, none⟩ = some (.slice A0_3 l0_3.length c0_3) := (blk_cell BK131.out 3).trans rfl
    have hfz7_0 := blk_frozen BK131.out 0
    have hfz7_1 := blk_frozen BK131.out 1
    have hfz7_2 := blk_frozen BK131.out 2
    have hfz7_3 := blk_frozen BK131.out 3
    go_wp2
    repeat (go_quiet (fail); try go_wp2)
    go_meet
    case rel => exact ⟨_, (true), (by first | rfl | (simp; done) | (simp [*]; done)), H', ⟨by first | omega | exact Nat.le_refl _⟩, ⟨by (with_reducible repeat (first | refine blk_drewN ?_ _ | refine blk_drew ?_ | refine blk_alloc ?_ _)); exact BK131.out⟩, ⟨by repeat (first | (with_reducible first | exact HB.out | apply below_alloc | apply pw_below_drewN | apply below_drew1 | refine below_set ?_ GE131.out) | exact HB.out)⟩⟩
   ·rw [if_neg c6] at H
    have c6b0 : decide (64 < a0_0) = false := decide_eq_false c6
    clear c6
    by_cases c8 : a0_1 < 2
    ·rw [if_pos c8] at H
     have c8b0 : decide (a0_1 < 2) = true := decide_eq_true c8
     clear c8
     have H' := Aside0.mk H
     clear H
     have hcz9_0 : w3.cell? ⟨gb131, 0, none⟩ = some (.int .i64 a0_0) := (blk_cell BK131.out 0).trans rfl
     have hcz9_1 : w3.cell? ⟨gb131, 1, none⟩ = some (.int .i64 a0_1) := (blk_cell BK131.out 1).trans rfl
     have hcz9_2 : w3.cell? ⟨gb131, 2, none⟩ = some (.int .i64 a0_2) := (blk_cell BK131.out 2).trans rfl
     have hcz9_3 : w3.cell? ⟨gb131, 3, none⟩ = some (.slice A0_3 l0_3.length c0_3) := (blk_cell BK131.out 3).trans rfl
     have hfz9_0 := blk_frozen BK131.out 0
     have hfz9_1 := blk_frozen BK131.out 1
     have hfz9_2 := blk_frozen BK131.out 2
     have hfz9_3 := blk_frozen BK131.out 3
     go_wp2
     repeat (go_quiet (fail); try go_wp2)
     go_meet
     case rel => exact ⟨_, (true), (by first | rfl | (simp; done) | (simp [*]; done)), H', ⟨by first | omega | exact Nat.le_refl _⟩, ⟨by (with_reducible repeat (first | refine blk_drewN ?_ _ | refine blk_drew ?_ | refine blk_alloc ?_ _)); exact BK131.out⟩, ⟨by repeat (first | (with_reducible first | exact HB.out | apply below_alloc | apply pw_below_drewN | apply below_drew1 | refine below_set ?_ GE131.out) | exact HB.out)⟩⟩
    ·rw [if_neg c8] at H
     have c8b0 : decide (a0_1 < 2) = false := decide_eq_false c8
     clear c8
     by_cases c10 : a0_1 > 8
     ·rw [if_pos c10] at H
      have c10b0 : decide (8 < a0_1) = true := decide_eq_true c10
      clear c10
      have H' := Aside0.mk H
      clear H
      have hcz11_0 : w3.cell? ⟨gb131, 0, none⟩ = some (.int .i64 a0_0) := (blk_cell BK131.out 0).trans rfl
      have hcz11_1 : w3.cell? ⟨gb131, 1, none⟩ = some (.int .i64 a0_1) := (blk_cell BK131.out 1).trans rfl
      have hcz11_2 : w3.cell? ⟨gb131, 2, none⟩ = some (.int .i64 a0_2) := (blk_cell BK131.out 2).trans rfl
      have hcz11_3 : w3.cell? ⟨gb131, 3, none⟩ = some (.slice A0_3 l0_3.length c0_3) := (blk_cell BK131.out 3).trans rfl
      have hfz11_0 := blk_frozen BK131.out 0
      have hfz11_1 := blk_frozen BK131.out 1
      have hfz11_2 := blk_frozen BK131.out 2
      have hfz11_3 := blk_frozen BK131.out 3
      go_wp2
      repeat (go_quiet (fail); try go_wp2)
      go_meet
      case rel => exact ⟨_, (true), (by first | rfl | (simp; done) | (simp [*]; done)), H', ⟨by first | omega | exact Nat.le_refl _⟩, ⟨by (with_reducible repeat (first | refine blk_drewN ?_ _ | refine blk_drew ?_ | refine blk_alloc ?_ _)); exact BK131.out⟩, ⟨by repeat (first | (with_reducible first | exact HB.out | apply below_alloc | apply pw_below_drewN | apply below_drew1 | refine below_set ?_ GE131.out) | exact HB.out)⟩⟩
     ·rw [if_neg c10] at H
      have c10b0 : decide (8 < a0_1) = false := decide_eq_false c10
      clear c10
      by_cases c12 : a0_2 < 1
      ·rw [if_pos c12] at H
       have c12b0 : decide (a0_2 < 1) = true := decide_eq_true c12
       clear c12
       have H' := Aside0.mk H
       clear H
       have hcz13_0 : w3.cell? ⟨gb131, 0, none⟩ = some (.int .i64 a0_0) := (blk_cell BK131.out 0).trans rfl
       have hcz13_1 : w3.cell? ⟨gb131, 1, none⟩ = some (.int .i64 a0_1) := (blk_cell BK131.out 1).trans rfl
       have hcz13_2 : w3.cell? ⟨gb131, 2, none⟩ = some (.int .i64 a0_2) := (blk_cell BK131.out 2).trans rfl
       have hcz13_3 : w3.cell? ⟨gb131, 3, none⟩ = some (.slice A0_3 l0_3.length c0_3) := (blk_cell BK131.out 3).trans rfl
       have hfz13_0 := blk_frozen BK131.out 0
       have hfz13_1 := blk_frozen BK131.out 1
       have hfz13_2 := blk_frozen BK131.out 2
       have hfz13_3 := blk_frozen BK131.out 3
       go_wp2
       repeat (go_quiet (fail); try go_wp2)
       go_meet
       case rel => exact ⟨_, (true), (by first | rfl | (simp; done) | (simp [*]; done)), H', ⟨by first | omega | exact Nat.le_refl _⟩, ⟨by (with_reducible repeat (first | refine blk_drewN ?_ _ | refine blk_drew ?_ | refine blk_alloc ?_ _)); exact BK131.out⟩, ⟨by repeat (first | (with_reducible first | exact HB.out | apply below_alloc | apply pw_below_drewN | apply below_drew1 | refine below_set ?_ GE131.out) | exact HB.out)⟩⟩
      ·rw [if_neg c12] at H
       have c12b0 : decide (a0_2 < 1) = false := decide_eq_false c12
       clear c12
       have H' := Aside0.mk H
       clear H
       have hcz14_0 : w3.cell? ⟨gb131, 0, none⟩ = some (.int .i64 a0_0) := (blk_cell BK131.out 0).trans rfl
       have hcz14_1 : w3.cell? ⟨gb131, 1, none⟩ = some (.int .i64 a0_1) := (blk_cell BK131.out 1).trans rfl
       have hcz14_2 : w3.cell? ⟨gb131, 2, none⟩ = some (.int .i64 a0_2) := (blk_cell BK131.out 2).trans rfl
       have hcz14_3 : w3.cell? ⟨gb131, 3, none⟩ = some (.slice A0_3 l0_3.length c0_3) := (blk_cell BK131.out 3).trans rfl
       have hfz14_0 := blk_frozen BK131.out 0
       have hfz14_1 := blk_frozen BK131.out 1
       have hfz14_2 := blk_frozen BK131.out 2
       have hfz14_3 := blk_frozen BK131.out 3
       go_wp2
       repeat (go_quiet (fail); try go_wp2)
       go_meet
       case rel => exact ⟨_, (decide (a0_2 > 3)), (by first | rfl | (simp; done) | (simp [*]; done)), H', ⟨by first | omega | exact Nat.le_refl _⟩, ⟨by (with_reducible repeat (first | refine blk_drewN ?_ _ | refine blk_drew ?_ | refine blk_alloc ?_ _)); exact BK131.out⟩, ⟨by repeat (first | (with_reducible first | exact HB.out | apply below_alloc | apply pw_below_drewN | apply below_drew1 | refine below_set ?_ GE131.out) | exact HB.out)⟩⟩
 case rest =>
  clear HC2
  try clear c1
  try clear p2
  try clear c4
  try clear c4b0
  try clear c6
  try clear c6b0
  try clear c8
  try clear c8b0
  try clear c10
  try clear c10b0
  try clear c12
  try clear c12b0
  try clear hcz11_0
  try clear hcz11_1
  try clear hcz11_2
  try clear hcz11_3
  try clear hcz13_0
  try clear hcz13_1
  try clear hcz13_2
  try clear hcz13_3
  try clear hcz14_0
  try clear hcz14_1
  try clear hcz14_2
  try clear hcz14_3
  try clear hcz5_0
  try clear hcz5_1
  try clear hcz5_2
  try clear hcz5_3
  try clear hcz7_0
  try clear hcz7_1
  try clear hcz7_2
  try clear hcz7_3
  try clear hcz9_0
  try clear hcz9_1
  try clear hcz9_2
  try clear hcz9_3
  try clear hfz11_0
  try clear hfz11_1
  try clear hfz11_2
  try clear hfz11_3
  try clear hfz13_0
  try clear hfz13_1
  try clear hfz13_2
  try clear hfz13_3
  try clear hfz14_0
  try clear hfz14_1
  try clear hfz14_2
  try clear hfz14_3
  try clear hfz5_0
  try clear hfz5_1
  try clear hfz5_2
  try clear hfz5_3
  try clear hfz7_0
  try clear hfz7_1
  try clear hfz7_2
  try clear hfz7_3
  try clear hfz9_0
  try clear hfz9_1
  try clear hfz9_2
  try clear hfz9_3
  obtain ⟨kq, x33_1, rfl, HA, HJ1, BK131, HB⟩ := hcut
  cases kq with
  | zero => exact absurd HA.out (by simp [commodatumref20_Valid.j0])
  | succ kj1 =>
   have H := HA.out
   clear HA
   simp only [commodatumref20_Valid.j0] at H
   by_cases c15 : x33_1 = true
   ·subst c15
    have H1 : (some false) = some r := by rw [if_pos rfl] at H; exact H
    clear H
    have H := H1
    clear H1
    obtain rfl := Option.some.inj H
    go_wp2
    repeat (go_quiet (fail); try go_wp2)
    go_ret
    exact ⟨by first | rfl | (simp [errW_none, errW_some] <;> rfl) | (simp [*, errW_none, errW_some] <;> rfl), by repeat (first | (with_reducible first | exact HB.out | apply below_alloc | apply pw_below_drewN | apply below_drew1 | refine below_set ?_ GE131.out) | exact HB.out)⟩
   ·replace c15 := Bool.eq_false_iff.mpr c15
    subst c15
    have H1 : (commodatumref20_Valid.l0 kj1 0 a0_0 a0_1 a0_2 l0_3) = some r := by rw [if_neg (show ¬ (false = true) by decide)] at H; exact H
    clear H
    have H := H1
    clear H1
    have H' := Aside0.mk H
    clear H
    go_wp2
    repeat (go_quiet (fail); try go_wp2)
    go_loopg [3] kj1 (fun kq v3 w' => ∃ (x3_2 : Int), v3 = .int .i64 x3_2 ∧ Aside0 (commodatumref20_Valid.l0 kq x3_2 a0_0 a0_1 a0_2 l0_3 = some r) ∧ Aside0 (kq ≤ kj1) ∧ Aside0 (w'.heap[gb131]? = some (.cells #[.int .i64 a0_0, .int .i64 a0_1, .int .i64 a0_2, (.slice A0_3 l0_3.length c0_3)] 24 (0, 0))) ∧ Aside0 (Below w.heap.size w w'))
    case atStart => exact ⟨(0), (by first | rfl | (simp; done) | (simp [*]; done)), H', ⟨Nat.le_refl _⟩, ⟨by (with_reducible repeat (first | refine blk_drewN ?_ _ | refine blk_drew ?_ | refine blk_alloc ?_ _)); exact BK131.out⟩, ⟨by repeat (first | (with_reducible first | exact HB.out | apply below_alloc | apply pw_below_drewN | apply below_drew1 | refine below_set ?_ GE131.out) | exact HB.out)⟩⟩
    case round =>
     clear H'
     try clear c1
     try clear p2
     try clear c4
     try clear c4b0
     try clear c6
     try clear c6b0
     try clear c8
     try clear c8b0
     try clear c10
     try clear c10b0
     try clear c12
     try clear c12b0
     try clear c15
     try clear hcz11_0
     try clear hcz11_1
     try clear hcz11_2
     try clear hcz11_3
     try clear hcz13_0
     try clear hcz13_1
     try clear hcz13_2
     try clear hcz13_3
     try clear hcz14_0
     try clear hcz14_1
     try clear hcz14_2
     try clear hcz14_3
     try clear hcz5_0
     try clear hcz5_1
     try clear hcz5_2
     try clear hcz5_3
     try clear hcz7_0
     try clear hcz7_1
     try clear hcz7_2
     try clear hcz7_3
     try clear hcz9_0
     try clear hcz9_1
     try clear hcz9_2
     try clear hcz9_3
     try clear hfz11_0
     try clear hfz11_1
     try clear hfz11_2
     try clear hfz11_3
     try clear hfz13_0
     try clear hfz13_1
     try clear hfz13_2
     try clear hfz13_3
     try clear hfz14_0
     try clear hfz14_1
     try clear hfz14_2
     try clear hfz14_3
     try clear hfz5_0
     try clear hfz5_1
     try clear hfz5_2
     try clear hfz5_3
     try clear hfz7_0
     try clear hfz7_1
     try clear hfz7_2
     try clear hfz7_3
     try clear hfz9_0
     try clear hfz9_1
     try clear hfz9_2
     try clear hfz9_3
     try clear p2
     obtain ⟨x3_2, rfl, HA, HK2, BK131, HB⟩ := hrel
     cases gk with
     | zero => exact absurd HA.out (by simp [commodatumref20_Valid.l0])
     | succ k2 =>
      have H := HA.out
      clear HA
      simp only [commodatumref20_Valid.l0] at H
      by_cases c16 : x3_2 < (l0_3.length : Int)
      ·rw [if_pos c16] at H
       have c16b0 : decide (x3_2 < (l0_3.length : Int)) = true := decide_eq_true c16
       clear c16
       by_cases c17 : 0 ≤ x3_2
       ·rw [if_pos c17] at H
        have c17b0 : decide (0 ≤ x3_2) = true := decide_eq_true c17
        clear c17
        have HC18 := Aside0.mk H
        clear H
        have hcz19_0 : wr.cell? ⟨gb131, 0, none⟩ = some (.int .i64 a0_0) := (blk_cell BK131.out 0).trans rfl
        have hcz19_1 : wr.cell? ⟨gb131, 1, none⟩ = some (.int .i64 a0_1) := (blk_cell BK131.out 1).trans rfl
        have hcz19_2 : wr.cell? ⟨gb131, 2, none⟩ = some (.int .i64 a0_2) := (blk_cell BK131.out 2).trans rfl
        have hcz19_3 : wr.cell? ⟨gb131, 3, none⟩ = some (.slice A0_3 l0_3.length c0_3) := (blk_cell BK131.out 3).trans rfl
        have hfz19_0 := blk_frozen BK131.out 0
        have hfz19_1 := blk_frozen BK131.out 1
        have hfz19_2 := blk_frozen BK131.out 2
        have hfz19_3 := blk_frozen BK131.out 3
        have p132 : 0 ≤ (x3_2 : Int) := of_decide_eq_true (by first | (with_reducible assumption) | assumption)
        have q132 : x3_2 < (l0_3.length : Int) := of_decide_eq_true (by first | (with_reducible assumption) | assumption)
        obtain ⟨ad132, A132_1, c132_1, A132_3, c132_3, A132_4, c132_4, e132, hx132_0, hx132_1, hx132_2, hx132_3, hx132_4, hl132_1, hi132_1, hl132_3, hi132_3, hl132_4, hi132_4⟩ := at_T40 HR0_3.out x3_2 p132 q132
        cases e132
        replace hx132_0 := (HB.out.cell (World.block_lt_of_cell? w _ hx132_0)).trans hx132_0
        replace hx132_1 := (HB.out.cell (World.block_lt_of_cell? w _ hx132_1)).trans hx132_1
        replace hx132_2 := (HB.out.cell (World.block_lt_of_cell? w _ hx132_2)).trans hx132_2
        replace hx132_3 := (HB.out.cell (World.block_lt_of_cell? w _ hx132_3)).trans hx132_3
        replace hx132_4 := (HB.out.cell (World.block_lt_of_cell? w _ hx132_4)).trans hx132_4
        have HR132_1 := Aside0.mk hi132_1
        have HC132_1 := Aside0.mk hl132_1
        clear hi132_1 hl132_1
        have HR132_3 := Aside0.mk hi132_3
        have HC132_3 := Aside0.mk hl132_3
        clear hi132_3 hl132_3
        have HR132_4 := Aside0.mk hi132_4
        have HC132_4 := Aside0.mk hl132_4
        clear hi132_4 hl132_4
        replace p132 := eq_true p132
        replace q132 := eq_true q132
        go_upto_region 7 with (first | ((with_reducible refine gate_dst (N := 4) rfl ?_); refine box_event ?hg (N := 4) ?hd (cs := #[.int .i64 0, .slice none 0 0, .int .i64 0, .slice none 0 0, .slice none 0 0]) (t := 40) ?hr ?_; (case hd => rfl); (case hg => rfl); (case hr => first | (go_simp; done) | (go_simp; rfl)); intro gb133 hg w20 hbox hb; have n0_ := Aside0.mk (blk_below (g := gb131) (o := .cells #[.int .i64 a0_0, .int .i64 a0_1, .int .i64 a0_2, .slice (some ad132) l0_3.length c0_3] 24 (0, 0)) (by (with_reducible repeat (first | refine blk_drewN ?_ _ | refine blk_drew ?_ | refine blk_alloc ?_ _)); exact BK131.out) hb); have n1_ := Aside0.mk (below_step (by repeat (first | (with_reducible first | exact HB.out | apply below_alloc | apply pw_below_drewN | apply below_drew1 | refine below_set ?_ GE131.out) | exact HB.out)) hb); have n2_ := Aside0.mk (hbox); have n3_ := Aside0.mk ((by rw [hg]; exact (below_size (by repeat (first | (with_reducible first | exact HB.out | apply below_alloc | apply pw_below_drewN | apply below_drew1 | refine below_set ?_ GE131.out) | exact HB.out))) : w.heap.size ≤ gb133)); have n4_ := Aside0.mk ((by rw [hg]; exact (below_size (by repeat (first | (with_reducible first | exact HB.out | apply below_alloc | apply pw_below_drewN | apply below_drew1 | refine below_set ?_ GE131.out) | exact HB.out))) : w.heap.size ≤ gb133)); have n5_ := Aside0.mk ((by rw [hg]; exact Nat.ne_of_lt (blk_lt (g := gb131) (o := .cells #[.int .i64 a0_0, .int .i64 a0_1, .int .i64 a0_2, .slice (some ad132) l0_3.length c0_3] 24 (0, 0)) (by (with_reducible repeat (first | refine blk_drewN ?_ _ | refine blk_drew ?_ | refine blk_alloc ?_ _)); exact BK131.out)) : gb131 ≠ gb133)); have n6_ := Aside0.mk ((by rw [hg]; exact Nat.ne_of_gt (blk_lt (g := gb131) (o := .cells #[.int .i64 a0_0, .int .i64 a0_1, .int .i64 a0_2, .slice (some ad132) l0_3.length c0_3] 24 (0, 0)) (by (with_reducible repeat (first | refine blk_drewN ?_ _ | refine blk_drew ?_ | refine blk_alloc ?_ _)); exact BK131.out)) : gb133 ≠ gb131)); clear BK131; clear HB; have BK131 := n0_; have HB := n1_; have BK133 := n2_; have GW133 := n3_; have GE133 := n4_; have NB131_133 := n5_; have NB133_131 := n6_; clear n0_ n1_ n2_ n3_ n4_ n5_ n6_; clear hb hbox hg; have hnb21 := NB133_131.out; have hnc21 := NB131_133.out; have hcz22_0 : w20.cell? ⟨gb133, 0, none⟩ = some (.int .i64 0) := (blk_cell BK133.out 0).trans rfl; have hcz22_1 : w20.cell? ⟨gb133, 1, none⟩ = some (.slice none 0 0) := (blk_cell BK133.out 1).trans rfl; have hcz22_2 : w20.cell? ⟨gb133, 2, none⟩ = some (.int .i64 0) := (blk_cell BK133.out 2).trans rfl; have hcz22_3 : w20.cell? ⟨gb133, 3, none⟩ = some (.slice none 0 0) := (blk_cell BK133.out 3).trans rfl; have hcz22_4 : w20.cell? ⟨gb133, 4, none⟩ = some (.slice none 0 0) := (blk_cell BK133.out 4).trans rfl; have hfz22_0 := blk_frozen BK133.out 0; have hfz22_1 := blk_frozen BK133.out 1; have hfz22_2 := blk_frozen BK133.out 2; have hfz22_3 := blk_frozen BK133.out 3; have hfz22_4 := blk_frozen BK133.out 4))
        repeat (go_quiet (first | ((with_reducible refine gate_dst (N := 4) rfl ?_); refine box_event ?hg (N := 4) ?hd (cs := #[.int .i64 0, .slice none 0 0, .int .i64 0, .slice none 0 0, .slice none 0 0]) (t := 40) ?hr ?_; (case hd => rfl); (case hg => rfl); (case hr => first | (go_simp; done) | (go_simp; rfl)); intro gb133 hg w20 hbox hb; have n0_ := Aside0.mk (blk_below (g := gb131) (o := .cells #[.int .i64 a0_0, .int .i64 a0_1, .int .i64 a0_2, .slice (some ad132) l0_3.length c0_3] 24 (0, 0)) (by (with_reducible repeat (first | refine blk_drewN ?_ _ | refine blk_drew ?_ | refine blk_alloc ?_ _)); exact BK131.out) hb); have n1_ := Aside0.mk (below_step (by repeat (first | (with_reducible first | exact HB.out | apply below_alloc | apply pw_below_drewN | apply below_drew1 | refine below_set ?_ GE131.out) | exact HB.out)) hb); have n2_ := Aside0.mk (hbox); have n3_ := Aside0.mk ((by rw [hg]; exact (below_size (by repeat (first | (with_reducible first | exact HB.out | apply below_alloc | apply pw_below_drewN | apply below_drew1 | refine below_set ?_ GE131.out) | exact HB.out))) : w.heap.size ≤ gb133)); have n4_ := Aside0.mk ((by rw [hg]; exact (below_size (by repeat (first | (with_reducible first | exact HB.out | apply below_alloc | apply pw_below_drewN | apply below_drew1 | refine below_set ?_ GE131.out) | exact HB.out))) : w.heap.size ≤ gb133)); have n5_ := Aside0.mk ((by rw [hg]; exact Nat.ne_of_lt (blk_lt (g := gb131) (o := .cells #[.int .i64 a0_0, .int .i64 a0_1, .int .i64 a0_2, .slice (some ad132) l0_3.length c0_3] 24 (0, 0)) (by (with_reducible repeat (first | refine blk_drewN ?_ _ | refine blk_drew ?_ | refine blk_alloc ?_ _)); exact BK131.out)) : gb131 ≠ gb133)); have n6_ := Aside0.mk ((by rw [hg]; exact Nat.ne_of_gt (blk_lt (g := gb131) (o := .cells #[.int .i64 a0_0, .int .i64 a0_1, .int .i64 a0_2, .slice (some ad132) l0_3.length c0_3] 24 (0, 0)) (by (with_reducible repeat (first | refine blk_drewN ?_ _ | refine blk_drew ?_ | refine blk_alloc ?_ _)); exact BK131.out)) : gb133 ≠ gb131)); clear BK131; clear HB; have BK131 := n0_; have HB := n1_; have BK133 := n2_; have GW133 := n3_; have GE133 := n4_; have NB131_133 := n5_; have NB133_131 := n6_; clear n0_ n1_ n2_ n3_ n4_ n5_ n6_; clear hb hbox hg; have hnb21 := NB133_131.out; have hnc21 := NB131_133.out; have hcz22_0 : w20.cell? ⟨gb133, 0, none⟩ = some (.int .i64 0) := (blk_cell BK133.out 0).trans rfl; have hcz22_1 : w20.cell? ⟨gb133, 1, none⟩ = some (.slice none 0 0) := (blk_cell BK133.out 1).trans rfl; have hcz22_2 : w20.cell? ⟨gb133, 2, none⟩ = some (.int .i64 0) := (blk_cell BK133.out 2).trans rfl; have hcz22_3 : w20.cell? ⟨gb133, 3, none⟩ = some (.slice none 0 0) := (blk_cell BK133.out 3).trans rfl; have hcz22_4 : w20.cell? ⟨gb133, 4, none⟩ = some (.slice none 0 0) := (blk_cell BK133.out 4).trans rfl; have hfz22_0 := blk_frozen BK133.out 0; have hfz22_1 := blk_frozen BK133.out 1; have hfz22_2 := blk_frozen BK133.out 2; have hfz22_3 := blk_frozen BK133.out 3; have hfz22_4 := blk_frozen BK133.out 4)); go_upto_region 7 with (first | ((with_reducible refine gate_dst (N := 4) rfl ?_); refine box_event ?hg (N := 4) ?hd (cs := #[.int .i64 0, .slice none 0 0, .int .i64 0, .slice none 0 0, .slice none 0 0]) (t := 40) ?hr ?_; (case hd => rfl); (case hg => rfl); (case hr => first | (go_simp; done) | (go_simp; rfl)); intro gb133 hg w20 hbox hb; have n0_ := Aside0.mk (blk_below (g := gb131) (o := .cells #[.int .i64 a0_0, .int .i64 a0_1, .int .i64 a0_2, .slice (some ad132) l0_3.length c0_3] 24 (0, 0)) (by (with_reducible repeat (first | refine blk_drewN ?_ _ | refine blk_drew ?_ | refine blk_alloc ?_ _)); exact BK131.out) hb); have n1_ := Aside0.mk (below_step (by repeat (first | (with_reducible first | exact HB.out | apply below_alloc | apply pw_below_drewN | apply below_drew1 | refine below_set ?_ GE131.out) | exact HB.out)) hb); have n2_ := Aside0.mk (hbox); have n3_ := Aside0.mk ((by rw [hg]; exact (below_size (by repeat (first | (with_reducible first | exact HB.out | apply below_alloc | apply pw_below_drewN | apply below_drew1 | refine below_set ?_ GE131.out) | exact HB.out))) : w.heap.size ≤ gb133)); have n4_ := Aside0.mk ((by rw [hg]; exact (below_size (by repeat (first | (with_reducible first | exact HB.out | apply below_alloc | apply pw_below_drewN | apply below_drew1 | refine below_set ?_ GE131.out) | exact HB.out))) : w.heap.size ≤ gb133)); have n5_ := Aside0.mk ((by rw [hg]; exact Nat.ne_of_lt (blk_lt (g := gb131) (o := .cells #[.int .i64 a0_0, .int .i64 a0_1, .int .i64 a0_2, .slice (some ad132) l0_3.length c0_3] 24 (0, 0)) (by (with_reducible repeat (first | refine blk_drewN ?_ _ | refine blk_drew ?_ | refine blk_alloc ?_ _)); exact BK131.out)) : gb131 ≠ gb133)); have n6_ := Aside0.mk ((by rw [hg]; exact Nat.ne_of_gt (blk_lt (g := gb131) (o := .cells #[.int .i64 a0_0, .int .i64 a0_1, .int .i64 a0_2, .slice (some ad132) l0_3.length c0_3] 24 (0, 0)) (by (with_reducible repeat (first | refine blk_drewN ?_ _ | refine blk_drew ?_ | refine blk_alloc ?_ _)); exact BK131.out)) : gb133 ≠ gb131)); clear BK131; clear HB; have BK131 := n0_; have HB := n1_; have BK133 := n2_; have GW133 := n3_; have GE133 := n4_; have NB131_133 := n5_; have NB133_131 := n6_; clear n0_ n1_ n2_ n3_ n4_ n5_ n6_; clear hb hbox hg; have hnb21 := NB133_131.out; have hnc21 := NB131_133.out; have hcz22_0 : w20.cell? ⟨gb133, 0, none⟩ = some (.int .i64 0) := (blk_cell BK133.out 0).trans rfl; have hcz22_1 : w20.cell? ⟨gb133, 1, none⟩ = some (.slice none 0 0) := (blk_cell BK133.out 1).trans rfl; have hcz22_2 : w20.cell? ⟨gb133, 2, none⟩ = some (.int .i64 0) := (blk_cell BK133.out 2).trans rfl; have hcz22_3 : w20.cell? ⟨gb133, 3, none⟩ = some (.slice none 0 0) := (blk_cell BK133.out 3).trans rfl; have hcz22_4 : w20.cell? ⟨gb133, 4, none⟩ = some (.slice none 0 0) := (blk_cell BK133.out 4).trans rfl; have hfz22_0 := blk_frozen BK133.out 0; have hfz22_1 := blk_frozen BK133.out 1; have hfz22_2 := blk_frozen BK133.out 2; have hfz22_3 := blk_frozen BK133.out 3; have hfz22_4 := blk_frozen BK133.out 4)))
        (try simp only [Act.put, List.setIfInBounds_toArray, List.set_cons_zero, List.set_cons_succ])
        go_cut [77] (fun v77 wc => ∃ (kq : Nat) (x77_17 : Bool), v77 = .bool x77_17 ∧ Aside0 (commodatumref20_Valid.j2 kq x3_2 x77_17 a0_0 a0_1 a0_2 l0_3 ((rd_T40 l0_3 x3_2).f0) ((rd_T40 l0_3 x3_2).f1) ((rd_T40 l0_3 x3_2).f2) ((rd_T40 l0_3 x3_2).f3) ((rd_T40 l0_3 x3_2).f4) = some r) ∧ Aside0 (kq ≤ k2) ∧ Aside0 (wc.heap[gb131]? = some (.cells #[.int .i64 a0_0, .int .i64 a0_1, .int .i64 a0_2, (.slice (some ad132) l0_3.length c0_3)] 24 (0, 0))) ∧ Aside0 (wc.heap[gb133]? = some (.cells #[.int .i64 ((rd_T40 l0_3 x3_2).f0), (.slice A132_1 ((rd_T40 l0_3 x3_2).f1).length c132_1), .int .i64 ((rd_T40 l0_3 x3_2).f2), (.slice A132_3 ((rd_T40 l0_3 x3_2).f3).length c132_3), (.slice A132_4 ((rd_T40 l0_3 x3_2).f4).length c132_4)] 40 (0, 0))) ∧ Aside0 (Below w.heap.size w wc))
        case first =>
         have H := HC18.out
         clear HC18
         by_cases c23 : ((rd_T40 l0_3 x3_2).f0) < 0
         ·rw [if_pos c23] at H
          have c23b0 : decide (((rd_T40 l0_3 x3_2).f0) < 0) = true := decide_eq_true c23
          clear c23
          (first | rw [c23b0] | (simp only [i64_w, i32_w]; rw [c23b0]) | skip)
          have H' := Aside0.mk H
          clear H
          have hnb24 := NB133_131.out
          have hnc24 := NB131_133.out
          have hcz25_0 : w20.cell? ⟨gb133, 0, none⟩ = some (.int .i64 0) := (blk_cell BK133.out 0).trans rfl
          have hcz25_1 : w20.cell? ⟨gb133, 1, none⟩ = some (.slice none 0 0) := (blk_cell BK133.out 1).trans rfl
          have hcz25_2 : w20.cell? ⟨gb133, 2, none⟩ = some (.int .i64 0) := (blk_cell BK133.out 2).trans rfl
          have hcz25_3 : w20.cell? ⟨gb133, 3, none⟩ = some (.slice none 0 0) := (blk_cell BK133.out 3).trans rfl
          have hcz25_4 : w20.cell? ⟨gb133, 4, none⟩ = some (.slice none 0 0) := (blk_cell BK133.out 4).trans rfl
          have hfz25_0 := blk_frozen BK133.out 0
          have hfz25_1 := blk_frozen BK133.out 1
          have hfz25_2 := blk_frozen BK133.out 2
          have hfz25_3 := blk_frozen BK133.out 3
          have hfz25_4 := blk_frozen BK133.out 4
          go_wp2
          repeat (go_quiet (fail); try go_wp2)
          go_meet
          case rel => exact ⟨_, (true), (by first | rfl | (simp; done) | (simp [*]; done)), H', ⟨by have := HJ1.out; have := HK2.out; first | omega | exact Nat.le_refl _⟩, ⟨by (with_reducible repeat (first | refine blk_drewN ?_ _ | refine blk_drew ?_ | refine blk_alloc ?_ _)); refine blk_far ?_ NB131_133.out _; (with_reducible repeat (first | refine blk_drewN ?_ _ | refine blk_drew ?_ | refine blk_alloc ?_ _)); refine blk_far ?_ NB131_133.out _; (with_reducible repeat (first | refine blk_drewN ?_ _ | refine blk_drew ?_ | refine blk_alloc ?_ _)); refine blk_far ?_ NB131_133.out _; (with_reducible repeat (first | refine blk_drewN ?_ _ | refine blk_drew ?_ | refine blk_alloc ?_ _)); refine blk_far ?_ NB131_133.out _; (with_reducible repeat (first | refine blk_drewN ?_ _ | refine blk_drew ?_ | refine blk_alloc ?_ _)); refine blk_far ?_ NB131_133.out _; (with_reducible repeat (first | refine blk_drewN ?_ _ | refine blk_drew ?_ | refine blk_alloc ?_ _)); exact BK131.out⟩, ⟨by (with_reducible repeat (first | refine blk_drewN ?_ _ | refine blk_drew ?_ | refine blk_alloc ?_ _)); refine blk_put (cs := #[.int .i64 ((rd_T40 l0_3 x3_2).f0), .slice A132_1 ((rd_T40 l0_3 x3_2).f1).length c132_1, .int .i64 ((rd_T40 l0_3 x3_2).f2), .slice A132_3 ((rd_T40 l0_3 x3_2).f3).length c132_3, .slice none 0 0]) ?_ 4 _ rfl; (with_reducible repeat (first | refine blk_drewN ?_ _ | refine blk_drew ?_ | refine blk_alloc ?_ _)); refine blk_put (cs := #[.int .i64 ((rd_T40 l0_3 x3_2).f0), .slice A132_1 ((rd_T40 l0_3 x3_2).f1).length c132_1, .int .i64 ((rd_T40 l0_3 x3_2).f2), .slice none 0 0, .slice none 0 0]) ?_ 3 _ rfl; (with_reducible repeat (first | refine blk_drewN ?_ _ | refine blk_drew ?_ | refine blk_alloc ?_ _)); refine blk_put (cs := #[.int .i64 ((rd_T40 l0_3 x3_2).f0), .slice A132_1 ((rd_T40 l0_3 x3_2).f1).length c132_1, .int .i64 0, .slice none 0 0, .slice none 0 0]) ?_ 2 _ rfl; (with_reducible repeat (first | refine blk_drewN ?_ _ | refine blk_drew ?_ | refine blk_alloc ?_ _)); refine blk_put (cs := #[.int .i64 ((rd_T40 l0_3 x3_2).f0), .slice none 0 0, .int .i64 0, .slice none 0 0, .slice none 0 0]) ?_ 1 _ rfl; (with_reducible repeat (first | refine blk_drewN ?_ _ | refine blk_drew ?_ | refine blk_alloc ?_ _)); refine blk_put (cs := #[.int .i64 0, .slice none 0 0, .int .i64 0, .slice none 0 0, .slice none 0 0]) ?_ 0 _ rfl; (with_reducible repeat (first | refine blk_drewN ?_ _ | refine blk_drew ?_ | refine blk_alloc ?_ _)); exact BK133.out⟩, ⟨by repeat (first | (with_reducible first | exact HB.out | apply below_alloc | apply pw_below_drewN | apply below_drew1 | refine below_set ?_ GE131.out | refine below_set ?_ GE133.out) | exact HB.out)⟩⟩
         ·rw [if_neg c23] at H
          have c23b0 : decide (((rd_T40 l0_3 x3_2).f0) < 0) = false := decide_eq_false c23
          clear c23
          (first | rw [c23b0] | (simp only [i64_w, i32_w]; rw [c23b0]) | skip)
          by_cases c26 : ((rd_T40 l0_3 x3_2).f0) ≥ a0_0
          ·rw [if_pos c26] at H
           have c26b0 : decide (a0_0 ≤ ((rd_T40 l0_3 x3_2).f0)) = true := decide_eq_true c26
           clear c26
           have H' := Aside0.mk H
           clear H
           have hnb27 := NB133_131.out
           have hnc27 := NB131_133.out
           have hcz28_0 : w20.cell? ⟨gb133, 0, none⟩ = some (.int .i64 0) := (blk_cell BK133.out 0).trans rfl
           have hcz28_1 : w20.cell? ⟨gb133, 1, none⟩ = some (.slice none 0 0) := (blk_cell BK133.out 1).trans rfl
           have hcz28_2 : w20.cell? ⟨gb133, 2, none⟩ = some (.int .i64 0) := (blk_cell BK133.out 2).trans rfl
           have hcz28_3 : w20.cell? ⟨gb133, 3, none⟩ = some (.slice none 0 0) := (blk_cell BK133.out 3).trans rfl
           have hcz28_4 : w20.cell? ⟨gb133, 4, none⟩ = some (.slice none 0 0) := (blk_cell BK133.out 4).trans rfl
           have hfz28_0 := blk_frozen BK133.out 0
           have hfz28_1 := blk_frozen BK133.out 1
           have hfz28_2 := blk_frozen BK133.out 2
           have hfz28_3 := blk_frozen BK133.out 3
           have hfz28_4 := blk_frozen BK133.out 4
           have hcz29_0 : w20.cell? ⟨gb131, 0, none⟩ = some (.int .i64 a0_0) := (blk_cell BK131.out 0).trans rfl
           have hcz29_1 : w20.cell? ⟨gb131, 1, none⟩ = some (.int .i64 a0_1) := (blk_cell BK131.out 1).trans rfl
           have hcz29_2 : w20.cell? ⟨gb131, 2, none⟩ = some (.int .i64 a0_2) := (blk_cell BK131.out 2).trans rfl
           have hcz29_3 : w20.cell? ⟨gb131, 3, none⟩ = some (.slice (some ad132) l0_3.length c0_3) := (blk_cell BK131.out 3).trans rfl
           have hfz29_0 := blk_frozen BK131.out 0
           have hfz29_1 := blk_frozen BK131.out 1
           have hfz29_2 := blk_frozen BK131.out 2
           have hfz29_3 := blk_frozen BK131.out 3
           go_wp2
           repeat (go_quiet (fail); try go_wp2)
           go_meet
           case rel => exact ⟨_, (true), (by first | rfl | (simp; done) | (simp [*]; done)), H', ⟨by have := HJ1.out; have := HK2.out; first | omega | exact Nat.le_refl _⟩, ⟨by (with_reducible repeat (first | refine blk_drewN ?_ _ | refine blk_drew ?_ | refine blk_alloc ?_ _)); refine blk_far ?_ NB131_133.out _; (with_reducible repeat (first | refine blk_drewN ?_ _ | refine blk_drew ?_ | refine blk_alloc ?_ _)); refine blk_far ?_ NB131_133.out _; (with_reducible repeat (first | refine blk_drewN ?_ _ | refine blk_drew ?_ | refine blk_alloc ?_ _)); refine blk_far ?_ NB131_133.out _; (with_reducible repeat (first | refine blk_drewN ?_ _ | refine blk_drew ?_ | refine blk_alloc ?_ _)); refine blk_far ?_ NB131_133.out _; (with_reducible repeat (first | refine blk_drewN ?_ _ | refine blk_drew ?_ | refine blk_alloc ?_ _)); refine blk_far ?_ NB131_133.out _; (with_reducible repeat (first | refine blk_drewN ?_ _ | refine blk_drew ?_ | refine blk_alloc ?_ _)); exact BK131.out⟩, ⟨by (with_reducible repeat (first | refine blk_drewN ?_ _ | refine blk_drew ?_ | refine blk_alloc ?_ _)); refine blk_put (cs := #[.int .i64 ((rd_T40 l0_3 x3_2).f0), .slice A132_1 ((rd_T40 l0_3 x3_2).f1).length c132_1, .int .i64 ((rd_T40 l0_3 x3_2).f2), .slice A132_3 ((rd_T40 l0_3 x3_2).f3).length c132_3, .slice none 0 0]) ?_ 4 _ rfl; (with_reducible repeat (first | refine blk_drewN ?_ _ | refine blk_drew ?_ | refine blk_alloc ?_ _)); refine blk_put (cs := #[.int .i64 ((rd_T40 l0_3 x3_2).f0), .slice A132_1 ((rd_T40 l0_3 x3_2).f1).length c132_1, .int .i64 ((rd_T40 l0_3 x3_2).f2), .slice none 0 0, .slice none 0 0]) ?_ 3 _ rfl; (with_reducible repeat (first | refine blk_drewN ?_ _ | refine blk_drew ?_ | refine blk_alloc ?_ _)); refine blk_put (cs := #[.int .i64 ((rd_T40 l0_3 x3_2).f0), .slice A132_1 ((rd_T40 l0_3 x3_2).f1).length c132_1, .int .i64 0, .slice none 0 0, .slice none 0 0]) ?_ 2 _ rfl; (with_reducible repeat (first | refine blk_drewN ?_ _ | refine blk_drew ?_ | refine blk_alloc ?_ _)); refine blk_put (cs := #[.int .i64 ((rd_T40 l0_3 x3_2).f0), .slice none 0 0, .int .i64 0, .slice none 0 0, .slice none 0 0]) ?_ 1 _ rfl; (with_reducible repeat (first | refine blk_drewN ?_ _ | refine blk_drew ?_ | refine blk_alloc ?_ _)); refine blk_put (cs := #[.int .i64 0, .slice none 0 0, .int .i64 0, .slice none 0 0, .slice none 0 0]) ?_ 0 _ rfl; (with_reducible repeat (first | refine blk_drewN ?_ _ | refine blk_drew ?_ | refine blk_alloc ?_ _)); exact BK133.out⟩, ⟨by repeat (first | (with_reducible first | exact HB.out | apply below_alloc | apply pw_below_drewN | apply below_drew1 | refine below_set ?_ GE131.out | refine below_set ?_ GE133.out) | exact HB.out)⟩⟩
          ·rw [if_neg c26] at H
           have c26b0 : decide (a0_0 ≤ ((rd_T40 l0_3 x3_2).f0)) = false := decide_eq_false c26
           clear c26
           by_cases c30 : ((rd_T40 l0_3 x3_2).f0) = 1
           ·rw [if_pos c30] at H
            have c30b0 : (((rd_T40 l0_3 x3_2).f0) == 1) = true := beq_iff_eq.mpr c30
            have c30b1 : (((rd_T40 l0_3 x3_2).f0) != 1) = false := bne_eq_false_iff_eq.mpr c30
            clear c30
            have H' := Aside0.mk H
            clear H
            have hnb31 := NB133_131.out
            have hnc31 := NB131_133.out
            have hcz32_0 : w20.cell? ⟨gb133, 0, none⟩ = some (.int .i64 0) := (blk_cell BK133.out 0).trans rfl
            have hcz32_1 : w20.cell? ⟨gb133, 1, none⟩ = some (.slice none 0 0) := (blk_cell BK133.out 1).trans rfl
            have hcz32_2 : w20.cell? ⟨gb133, 2, none⟩ = some (.int .i64 0) := (blk_cell BK133.out 2).trans rfl
            have hcz32_3 : w20.cell? ⟨gb133, 3, none⟩ = some (.slice none 0 0) := (blk_cell BK133.out 3).trans rfl
            have hcz32_4 : w20.cell? ⟨gb133, 4, none⟩ = some (.slice none 0 0) := (blk_cell BK133.out 4).trans rfl
            have hfz32_0 := blk_frozen BK133.out 0
            have hfz32_1 := blk_frozen BK133.out 1
            have hfz32_2 := blk_frozen BK133.out 2
            have hfz32_3 := blk_frozen BK133.out 3
            have hfz32_4 := blk_frozen BK133.out 4
            have hcz33_0 : w20.cell? ⟨gb131, 0, none⟩ = some (.int .i64 a0_0) := (blk_cell BK131.out 0).trans rfl
            have hcz33_1 : w20.cell? ⟨gb131, 1, none⟩ = some (.int .i64 a0_1) := (blk_cell BK131.out 1).trans rfl
            have hcz33_2 : w20.cell? ⟨gb131, 2, none⟩ = some (.int .i64 a0_2) := (blk_cell BK131.out 2).trans rfl
            have hcz33_3 : w20.cell? ⟨gb131, 3, none⟩ = some (.slice (some ad132) l0_3.length c0_3) := (blk_cell BK131.out 3).trans rfl
            have hfz33_0 := blk_frozen BK131.out 0
            have hfz33_1 := blk_frozen BK131.out 1
            have hfz33_2 := blk_frozen BK131.out 2
            have hfz33_3 := blk_frozen BK131.out 3
            go_wp2
            repeat (go_quiet (fail); try go_wp2)
            go_meet
            case rel => exact ⟨_, (true), (by first | rfl | (simp; done) | (simp [*]; done)), H', ⟨by have := HJ1.out; have := HK2.out; first | omega | exact Nat.le_refl _⟩, ⟨by (with_reducible repeat (first | refine blk_drewN ?_ _ | refine blk_drew ?_ | refine blk_alloc ?_ _)); refine blk_far ?_ NB131_133.out _; (with_reducible repeat (first | refine blk_drewN ?_ _ | refine blk_drew ?_ | refine blk_alloc ?_ _)); refine blk_far ?_ NB131_133.out _; (with_reducible repeat (first | refine blk_drewN ?_ _ | refine blk_drew ?_ | refine blk_alloc ?_ _)); refine blk_far ?_ NB131_133.out _; (with_reducible repeat (first | refine blk_drewN ?_ _ | refine blk_drew ?_ | refine blk_alloc ?_ _)); refine blk_far ?_ NB131_133.out _; (with_reducible repeat (first | refine blk_drewN ?_ _ | refine blk_drew ?_ | refine blk_alloc ?_ _)); refine blk_far ?_ NB131_133.out _; (with_reducible repeat (first | refine blk_drewN ?_ _ | refine blk_drew ?_ | refine blk_alloc ?_ _)); exact BK131.out⟩, ⟨by (with_reducible repeat (first | refine blk_drewN ?_ _ | refine blk_drew ?_ | refine blk_alloc ?_ _)); refine blk_put (cs := #[.int .i64 ((rd_T40 l0_3 x3_2).f0), .slice A132_1 ((rd_T40 l0_3 x3_2).f1).length c132_1, .int .i64 ((rd_T40 l0_3 x3_2).f2), .slice A132_3 ((rd_T40 l0_3 x3_2).f3).length c132_3, .slice none 0 0]) ?_ 4 _ rfl; (with_reducible repeat (first | refine blk_drewN ?_ _ | refine blk_drew ?_ | refine blk_alloc ?_ _)); refine blk_put (cs := #[.int .i64 ((rd_T40 l0_3 x3_2).f0), .slice A132_1 ((rd_T40 l0_3 x3_2).f1).length c132_1, .int .i64 ((rd_T40 l0_3 x3_2).f2), .slice none 0 0, .slice none 0 0]) ?_ 3 _ rfl; (with_reducible repeat (first | refine blk_drewN ?_ _ | refine blk_drew ?_ | refine blk_alloc ?_ _)); refine blk_put (cs := #[.int .i64 ((rd_T40 l0_3 x3_2).f0), .slice A132_1 ((rd_T40 l0_3 x3_2).f1).length c132_1, .int .i64 0, .slice none 0 0, .slice none 0 0]) ?_ 2 _ rfl; (with_reducible repeat (first | refine blk_drewN ?_ _ | refine blk_drew ?_ | refine blk_alloc ?_ _)); refine blk_put (cs := #[.int .i64 ((rd_T40 l0_3 x3_2).f0), .slice none 0 0, .int .i64 0, .slice none 0 0, .slice none 0 0]) ?_ 1 _ rfl; (with_reducible repeat (first | refine blk_drewN ?_ _ | refine blk_drew ?_ | refine blk_alloc ?_ _)); refine blk_put (cs := #[.int .i64 0, .slice none 0 0, .int .i64 0, .slice none 0 0, .slice none 0 0]) ?_ 0 _ rfl; (with_reducible repeat (first | refine blk_drewN ?_ _ | refine blk_drew ?_ | refine blk_alloc ?_ _)); exact BK133.out⟩, ⟨by repeat (first | (with_reducible first | exact HB.out | apply below_alloc | apply pw_below_drewN | apply below_drew1 | refine below_set ?_ GE131.out | refine below_set ?_ GE133.out) | exact HB.out)⟩⟩
           ·rw [if_neg c30] at H
            have c30b0 : (((rd_T40 l0_3 x3_2).f0) == 1) = false := beq_eq_false_iff_ne.mpr c30
            have c30b1 : (((rd_T40 l0_3 x3_2).f0) != 1) = true := bne_iff_ne.mpr c30
            by_cases c34 : ((rd_T40 l0_3 x3_2).f0) = 2
            ·rw [if_pos c34] at H
             have c34b0 : (((rd_T40 l0_3 x3_2).f0) == 2) = true := beq_iff_eq.mpr c34
             have c34b1 : (((rd_T40 l0_3 x3_2).f0) != 2) = false := bne_eq_false_iff_eq.mpr c34
             clear c34
             have H' := Aside0.mk H
             clear H
             have hnb35 := NB133_131.out
             have hnc35 := NB131_133.out
             have hcz36_0 : w20.cell? ⟨gb133, 0, none⟩ = some (.int .i64 0) := (blk_cell BK133.out 0).trans rfl
             have hcz36_1 : w20.cell? ⟨gb133, 1, none⟩ = some (.slice none 0 0) := (blk_cell BK133.out 1).trans rfl
             have hcz36_2 : w20.cell? ⟨gb133, 2, none⟩ = some (.int .i64 0) := (blk_cell BK133.out 2).trans rfl
             have hcz36_3 : w20.cell? ⟨gb133, 3, none⟩ = some (.slice none 0 0) := (blk_cell BK133.out 3).trans rfl
             have hcz36_4 : w20.cell? ⟨gb133, 4, none⟩ = some (.slice none 0 0) := (blk_cell BK133.out 4).trans rfl
             have hfz36_0 := blk_frozen BK133.out 0
             have hfz36_1 := blk_frozen BK133.out 1
             have hfz36_2 := blk_frozen BK133.out 2
             have hfz36_3 := blk_frozen BK133.out 3
             have hfz36_4 := blk_frozen BK133.out 4
             have hcz37_0 : w20.cell? ⟨gb131, 0, none⟩ = some (.int .i64 a0_0) := (blk_cell BK131.out 0).trans rfl
             have hcz37_1 : w20.cell? ⟨gb131, 1, none⟩ = some (.int .i64 a0_1) := (blk_cell BK131.out 1).trans rfl
             have hcz37_2 : w20.cell? ⟨gb131, 2, none⟩ = some (.int .i64 a0_2) := (blk_cell BK131.out 2).trans rfl
             have hcz37_3 : w20.cell? ⟨gb131, 3, none⟩ = some (.slice (some ad132) l0_3.length c0_3) := (blk_cell BK131.out 3).trans rfl
             have hfz37_0 := blk_frozen BK131.out 0
             have hfz37_1 := blk_frozen BK131.out 1
             have hfz37_2 := blk_frozen BK131.out 2
             have hfz37_3 := blk_frozen BK131.out 3
             go_wp2
             repeat (go_quiet (fail); try go_wp2)
             go_meet
             case rel => exact ⟨_, (true), (by first | rfl | (simp; done) | (simp [*]; done)), H', ⟨by have := HJ1.out; have := HK2.out; first | omega | exact Nat.le_refl _⟩, ⟨by (with_reducible repeat (first | refine blk_drewN ?_ _ | refine blk_drew ?_ | refine blk_alloc ?_ _)); refine blk_far ?_ NB131_133.out _; (with_reducible repeat (first | refine blk_drewN ?_ _ | refine blk_drew ?_ | refine blk_alloc ?_ _)); refine blk_far ?_ NB131_133.out _; (with_reducible repeat (first | refine blk_drewN ?_ _ | refine blk_drew ?_ | refine blk_alloc ?_ _)); refine blk_far ?_ NB131_133.out _; (with_reducible repeat (first | refine blk_drewN ?_ _ | refine blk_drew ?_ | refine blk_alloc ?_ _)); refine blk_far ?_ NB131_133.out _; (with_reducible repeat (first | refine blk_drewN ?_ _ | refine blk_drew ?_ | refine blk_alloc ?_ _)); refine blk_far ?_ NB131_133.out _; (with_reducible repeat (first | refine blk_drewN ?_ _ | refine blk_drew ?_ | refine blk_alloc ?_ _)); exact BK131.out⟩, ⟨by (with_reducible repeat (first | refine blk_drewN ?_ _ | refine blk_drew ?_ | refine blk_alloc ?_ _)); refine blk_put (cs := #[.int .i64 ((rd_T40 l0_3 x3_2).f0), .slice A132_1 ((rd_T40 l0_3 x3_2).f1).length c132_1, .int .i64 ((rd_T40 l0_3 x3_2).f2), .slice A132_3 ((rd_T40 l0_3 x3_2).f3).length c132_3, .slice none 0 0]) ?_ 4 _ rfl; (with_reducible repeat (first | refine blk_drewN ?_ _ | refine blk_drew ?_ | refine blk_alloc ?_ _)); refine blk_put (cs := #[.int .i64 ((rd_T40 l0_3 x3_2).f0), .slice A132_1 ((rd_T40 l0_3 x3_2).f1).length c132_1, .int .i64 ((rd_T40 l0_3 x3_2).f2), .slice none 0 0, .slice none 0 0]) ?_ 3 _ rfl; (with_reducible repeat (first | refine blk_drewN ?_ _ | refine blk_drew ?_ | refine blk_alloc ?_ _)); refine blk_put (cs := #[.int .i64 ((rd_T40 l0_3 x3_2).f0), .slice A132_1 ((rd_T40 l0_3 x3_2).f1).length c132_1, .int .i64 0, .slice none 0 0, .slice none 0 0]) ?_ 2 _ rfl; (with_reducible repeat (first | refine blk_drewN ?_ _ | refine blk_drew ?_ | refine blk_alloc ?_ _)); refine blk_put (cs := #[.int .i64 ((rd_T40 l0_3 x3_2).f0), .slice none 0 0, .int .i64 0, .slice none 0 0, .slice none 0 0]) ?_ 1 _ rfl; (with_reducible repeat (first | refine blk_drewN ?_ _ | refine blk_drew ?_ | refine blk_alloc ?_ _)); refine blk_put (cs := #[.int .i64 0, .slice none 0 0, .int .i64 0, .slice none 0 0, .slice none 0 0]) ?_ 0 _ rfl; (with_reducible repeat (first | refine blk_drewN ?_ _ | refine blk_drew ?_ | refine blk_alloc ?_ _)); exact BK133.out⟩, ⟨by repeat (first | (with_reducible first | exact HB.out | apply below_alloc | apply pw_below_drewN | apply below_drew1 | refine below_set ?_ GE131.out | refine below_set ?_ GE133.out) | exact HB.out)⟩⟩
            ·rw [if_neg c34] at H
             have c34b0 : (((rd_T40 l0_3 x3_2).f0) == 2) = false := beq_eq_false_iff_ne.mpr c34
             have c34b1 : (((rd_T40 l0_3 x3_2).f0) != 2) = true := bne_iff_ne.mpr c34
             by_cases c38 : ((rd_T40 l0_3 x3_2).f2) < 0
             ·rw [if_pos c38] at H
              have c38b0 : decide (((rd_T40 l0_3 x3_2).f2) < 0) = true := decide_eq_true c38
              clear c38
              have H' := Aside0.mk H
              clear H
              have hnb39 := NB133_131.out
              have hnc39 := NB131_133.out
              have hcz40_0 : w20.cell? ⟨gb133, 0, none⟩ = some (.int .i64 0) := (blk_cell BK133.out 0).trans rfl
              have hcz40_1 : w20.cell? ⟨gb133, 1, none⟩ = some (.slice none 0 0) := (blk_cell BK133.out 1).trans rfl
              have hcz40_2 : w20.cell? ⟨gb133, 2, none⟩ = some (.int .i64 0) := (blk_cell BK133.out 2).trans rfl
              have hcz40_3 : w20.cell? ⟨gb133, 3, none⟩ = some (.slice none 0 0) := (blk_cell BK133.out 3).trans rfl
              have hcz40_4 : w20.cell? ⟨gb133, 4, none⟩ = some (.slice none 0 0) := (blk_cell BK133.out 4).trans rfl
              have hfz40_0 := blk_frozen BK133.out 0
              have hfz40_1 := blk_frozen BK133.out 1
              have hfz40_2 := blk_frozen BK133.out 2
              have hfz40_3 := blk_frozen BK133.out 3
              have hfz40_4 := blk_frozen BK133.out 4
              have hcz41_0 : w20.cell? ⟨gb131, 0, none⟩ = some (.int .i64 a0_0) := (blk_cell BK131.out 0).trans rfl
              have hcz41_1 : w20.cell? ⟨gb131, 1, none⟩ = some (.int .i64 a0_1) := (blk_cell BK131.out 1).trans rfl
              have hcz41_2 : w20.cell? ⟨gb131, 2, none⟩ = some (.int .i64 a0_2) := (blk_cell BK131.out 2).trans rfl
              have hcz41_3 : w20.cell? ⟨gb131, 3, none⟩ = some (.slice (some ad132) l0_3.length c0_3) := (blk_cell BK131.out 3).trans rfl
              have hfz41_0 := blk_frozen BK131.out 0
              have hfz41_1 := blk_frozen BK131.out 1
              have hfz41_2 := blk_frozen BK131.out 2
              have hfz41_3 := blk_frozen BK131.out 3
              go_wp2
              repeat (go_quiet (fail); try go_wp2)
              go_meet
              case rel => exact ⟨_, (true), (by first | rfl | (simp; done) | (simp [*]; done)), H', ⟨by have := HJ1.out; have := HK2.out; first | omega | exact Nat.le_refl _⟩, ⟨by (with_reducible repeat (first | refine blk_drewN ?_ _ | refine blk_drew ?_ | refine blk_alloc ?_ _)); refine blk_far ?_ NB131_133.out _; (with_reducible repeat (first | refine blk_drewN ?_ _ | refine blk_drew ?_ | refine blk_alloc ?_ _)); refine blk_far ?_ NB131_133.out _; (with_reducible repeat (first | refine blk_drewN ?_ _ | refine blk_drew ?_ | refine blk_alloc ?_ _)); refine blk_far ?_ NB131_133.out _; (with_reducible repeat (first | refine blk_drewN ?_ _ | refine blk_drew ?_ | refine blk_alloc ?_ _)); refine blk_far ?_ NB131_133.out _; (with_reducible repeat (first | refine blk_drewN ?_ _ | refine blk_drew ?_ | refine blk_alloc ?_ _)); refine blk_far ?_ NB131_133.out _; (with_reducible repeat (first | refine blk_drewN ?_ _ | refine blk_drew ?_ | refine blk_alloc ?_ _)); exact BK131.out⟩, ⟨by (with_reducible repeat (first | refine blk_drewN ?_ _ | refine blk_drew ?_ | refine blk_alloc ?_ _)); refine blk_put (cs := #[.int .i64 ((rd_T40 l0_3 x3_2).f0), .slice A132_1 ((rd_T40 l0_3 x3_2).f1).length c132_1, .int .i64 ((rd_T40 l0_3 x3_2).f2), .slice A132_3 ((rd_T40 l0_3 x3_2).f3).length c132_3, .slice none 0 0]) ?_ 4 _ rfl; (with_reducible repeat (first | refine blk_drewN ?_ _ | refine blk_drew ?_ | refine blk_alloc ?_ _)); refine blk_put (cs := #[.int .i64 ((rd_T40 l0_3 x3_2).f0), .slice A132_1 ((rd_T40 l0_3 x3_2).f1).length c132_1, .int .i64 ((rd_T40 l0_3 x3_2).f2), .slice none 0 0, .slice none 0 0]) ?_ 3 _ rfl; (with_reducible repeat (first | refine blk_drewN ?_ _ | refine blk_drew ?_ | refine blk_alloc ?_ _)); refine blk_put (cs := #[.int .i64 ((rd_T40 l0_3 x3_2).f0), .slice A132_1 ((rd_T40 l0_3 x3_2).f1).length c132_1, .int .i64 0, .slice none 0 0, .slice none 0 0]) ?_ 2 _ rfl; (with_reducible repeat (first | refine blk_drewN ?_ _ | refine blk_drew ?_ | refine blk_alloc ?_ _)); refine blk_put (cs := #[.int .i64 ((rd_T40 l0_3 x3_2).f0), .slice none 0 0, .int .i64 0, .slice none 0 0, .slice none 0 0]) ?_ 1 _ rfl; (with_reducible repeat (first | refine blk_drewN ?_ _ | refine blk_drew ?_ | refine blk_alloc ?_ _)); refine blk_put (cs := #[.int .i64 0, .slice none 0 0, .int .i64 0, .slice none 0 0, .slice none 0 0]) ?_ 0 _ rfl; (with_reducible repeat (first | refine blk_drewN ?_ _ | refine blk_drew ?_ | refine blk_alloc ?_ _)); exact BK133.out⟩, ⟨by repeat (first | (with_reducible first | exact HB.out | apply below_alloc | apply pw_below_drewN | apply below_drew1 | refine below_set ?_ GE131.out | refine below_set ?_ GE133.out) | exact HB.out)⟩⟩
             ·rw [if_neg c38] at H
              have c38b0 : decide (((rd_T40 l0_3 x3_2).f2) < 0) = false := decide_eq_false c38
              clear c38
              have H' := Aside0.mk H
              clear H
              have hnb42 := NB133_131.out
              have hnc42 := NB131_133.out
              have hcz43_0 : w20.cell? ⟨gb133, 0, none⟩ = some (.int .i64 0) := (blk_cell BK133.out 0).trans rfl
              have hcz43_1 : w20.cell? ⟨gb133, 1, none⟩ = some (.slice none 0 0) := (blk_cell BK133.out 1).trans rfl
              have hcz43_2 : w20.cell? ⟨gb133, 2, none⟩ = some (.int .i64 0) := (blk_cell BK133.out 2).trans rfl
              have hcz43_3 : w20.cell? ⟨gb133, 3, none⟩ = some (.slice none 0 0) := (blk_cell BK133.out 3).trans rfl
              have hcz43_4 : w20.cell? ⟨gb133, 4, none⟩ = some (.slice none 0 0) := (blk_cell BK133.out 4).trans rfl
              have hfz43_0 := blk_frozen BK133.out 0
              have hfz43_1 := blk_frozen BK133.out 1
              have hfz43_2 := blk_frozen BK133.out 2
              have hfz43_3 := blk_frozen BK133.out 3
              have hfz43_4 := blk_frozen BK133.out 4
              have hcz44_0 : w20.cell? ⟨gb131, 0, none⟩ = some (.int .i64 a0_0) := (blk_cell BK131.out 0).trans rfl
              have hcz44_1 : w20.cell? ⟨gb131, 1, none⟩ = some (.int .i64 a0_1) := (blk_cell BK131.out 1).trans rfl
              have hcz44_2 : w20.cell? ⟨gb131, 2, none⟩ = some (.int .i64 a0_2) := (blk_cell BK131.out 2).trans rfl
              have hcz44_3 : w20.cell? ⟨gb131, 3, none⟩ = some (.slice (some ad132) l0_3.length c0_3) := (blk_cell BK131.out 3).trans rfl
              have hfz44_0 := blk_frozen BK131.out 0
              have hfz44_1 := blk_frozen BK131.out 1
              have hfz44_2 := blk_frozen BK131.out 2
              have hfz44_3 := blk_frozen BK131.out 3
              go_wp2
              repeat (go_quiet (fail); try go_wp2)
              go_meet
              case rel => exact ⟨_, (decide (((rd_T40 l0_3 x3_2).f2) ≥ a0_0)), (by first | rfl | (simp; done) | (simp [*]; done)), H', ⟨by have := HJ1.out; have := HK2.out; first | omega | exact Nat.le_refl _⟩, ⟨by (with_reducible repeat (first | refine blk_drewN ?_ _ | refine blk_drew ?_ | refine blk_alloc ?_ _)); refine blk_far ?_ NB131_133.out _; (with_reducible repeat (first | refine blk_drewN ?_ _ | refine blk_drew ?_ | refine blk_alloc ?_ _)); refine blk_far ?_ NB131_133.out _; (with_reducible repeat (first | refine blk_drewN ?_ _ | refine blk_drew ?_ | refine blk_alloc ?_ _)); refine blk_far ?_ NB131_133.out _; (with_reducible repeat (first | refine blk_drewN ?_ _ | refine blk_drew ?_ | refine blk_alloc ?_ _)); refine blk_far ?_ NB131_133.out _; (with_reducible repeat (first | refine blk_drewN ?_ _ | refine blk_drew ?_ | refine blk_alloc ?_ _)); refine blk_far ?_ NB131_133.out _; (with_reducible repeat (first | refine blk_drewN ?_ _ | refine blk_drew ?_ | refine blk_alloc ?_ _)); exact BK131.out⟩, ⟨by (with_reducible repeat (first | refine blk_drewN ?_ _ | refine blk_drew ?_ | refine blk_alloc ?_ _)); refine blk_put (cs := #[.int .i64 ((rd_T40 l0_3 x3_2).f0), .slice A132_1 ((rd_T40 l0_3 x3_2).f1).length c132_1, .int .i64 ((rd_T40 l0_3 x3_2).f2), .slice A132_3 ((rd_T40 l0_3 x3_2).f3).length c132_3, .slice none 0 0]) ?_ 4 _ rfl; (with_reducible repeat (first | refine blk_drewN ?_ _ | refine blk_drew ?_ | refine blk_alloc ?_ _)); refine blk_put (cs := #[.int .i64 ((rd_T40 l0_3 x3_2).f0), .slice A132_1 ((rd_T40 l0_3 x3_2).f1).length c132_1, .int .i64 ((rd_T40 l0_3 x3_2).f2), .slice none 0 0, .slice none 0 0]) ?_ 3 _ rfl; (with_reducible repeat (first | refine blk_drewN ?_ _ | refine blk_drew ?_ | refine blk_alloc ?_ _)); refine blk_put (cs := #[.int .i64 ((rd_T40 l0_3 x3_2).f0), .slice A132_1 ((rd_T40 l0_3 x3_2).f1).length c132_1, .int .i64 0, .slice none 0 0, .slice none 0 0]) ?_ 2 _ rfl; (with_reducible repeat (first | refine blk_drewN ?_ _ | refine blk_drew ?_ | refine blk_alloc ?_ _)); refine blk_put (cs := #[.int .i64 ((rd_T40 l0_3 x3_2).f0), .slice none 0 0, .int .i64 0, .slice none 0 0, .slice none 0 0]) ?_ 1 _ rfl; (with_reducible repeat (first | refine blk_drewN ?_ _ | refine blk_drew ?_ | refine blk_alloc ?_ _)); refine blk_put (cs := #[.int .i64 0, .slice none 0 0, .int .i64 0, .slice none 0 0, .slice none 0 0]) ?_ 0 _ rfl; (with_reducible repeat (first | refine blk_drewN ?_ _ | refine blk_drew ?_ | refine blk_alloc ?_ _)); exact BK133.out⟩, ⟨by repeat (first | (with_reducible first | exact HB.out | apply below_alloc | apply pw_below_drewN | apply below_drew1 | refine below_set ?_ GE131.out | refine below_set ?_ GE133.out) | exact HB.out)⟩⟩
        case rest =>
         clear HC18
         try clear c1
         try clear p1
         try clear q1
         try clear hx1
         try clear c2
         try clear p2
         try clear c3
         try clear c4
         try clear c4b0
         try clear c6
         try clear c6b0
         try clear c8
         try clear c8b0
         try clear c10
         try clear c10b0
         try clear c12
         try clear c12b0
         try clear c13
         try clear p13
         try clear q13
         try clear hx13
         try clear c15
         try clear c16
         try clear c16b0
         try clear c17
         try clear c17b0
         try clear c21
         try clear c23
         try clear c23b0
         try clear c24
         try clear c26
         try clear c26b0
         try clear c27
         try clear c30
         try clear c30b0
         try clear c30b1
         try clear c31
         try clear c34
         try clear c34b0
         try clear c34b1
         try clear c35
         try clear c38
         try clear c38b0
         try clear c39
         try clear c42
         try clear hcz11_0
         try clear hcz11_1
         try clear hcz11_2
         try clear hcz11_3
         try clear hcz13_0
         try clear hcz13_1
         try clear hcz13_2
         try clear hcz13_3
         try clear hcz14_0
         try clear hcz14_1
         try clear hcz14_2
         try clear hcz14_3
         try clear hcz19_0
         try clear hcz19_1
         try clear hcz19_2
         try clear hcz19_3
         try clear hcz22_0
         try clear hcz22_1
         try clear hcz22_2
         try clear hcz22_3
         try clear hcz22_4
         try clear hcz25_0
         try clear hcz25_1
         try clear hcz25_2
         try clear hcz25_3
         try clear hcz25_4
         try clear hcz28_0
         try clear hcz28_1
         try clear hcz28_2
         try clear hcz28_3
         try clear hcz28_4
         try clear hcz29_0
         try clear hcz29_1
         try clear hcz29_2
         try clear hcz29_3
         try clear hcz32_0
         try clear hcz32_1
         try clear hcz32_2
         try clear hcz32_3
         try clear hcz32_4
         try clear hcz33_0
         try clear hcz33_1
         try clear hcz33_2
         try clear hcz33_3
         try clear hcz36_0
         try clear hcz36_1
         try clear hcz36_2
         try clear hcz36_3
         try clear hcz36_4
         try clear hcz37_0
         try clear hcz37_1
         try clear hcz37_2
         try clear hcz37_3
         try clear hcz40_0
         try clear hcz40_1
         try clear hcz40_2
         try clear hcz40_3
         try clear hcz40_4
         try clear hcz41_0
         try clear hcz41_1
         try clear hcz41_2
         try clear hcz41_3
         try clear hcz43_0
         try clear hcz43_1
         try clear hcz43_2
         try clear hcz43_3
         try clear hcz43_4
         try clear hcz44_0
         try clear hcz44_1
         try clear hcz44_2
         try clear hcz44_3
         try clear hcz5_0
         try clear hcz5_1
         try clear hcz5_2
         try clear hcz5_3
         try clear hcz7_0
         try clear hcz7_1
         try clear hcz7_2
         try clear hcz7_3
         try clear hcz9_0
         try clear hcz9_1
         try clear hcz9_2
         try clear hcz9_3
         try clear hfz11_0
         try clear hfz11_1
         try clear hfz11_2
         try clear hfz11_3
         try clear hfz13_0
         try clear hfz13_1
         try clear hfz13_2
         try clear hfz13_3
         try clear hfz14_0
         try clear hfz14_1
         try clear hfz14_2
         try clear hfz14_3
         try clear hfz19_0
         try clear hfz19_1
         try clear hfz19_2
         try clear hfz19_3
         try clear hfz22_0
         try clear hfz22_1
         try clear hfz22_2
         try clear hfz22_3
         try clear hfz22_4
         try clear hfz25_0
         try clear hfz25_1
         try clear hfz25_2
         try clear hfz25_3
         try clear hfz25_4
         try clear hfz28_0
         try clear hfz28_1
         try clear hfz28_2
         try clear hfz28_3
         try clear hfz28_4
         try clear hfz29_0
         try clear hfz29_1
         try clear hfz29_2
         try clear hfz29_3
         try clear hfz32_0
         try clear hfz32_1
         try clear hfz32_2
         try clear hfz32_3
         try clear hfz32_4
         try clear hfz33_0
         try clear hfz33_1
         try clear hfz33_2
         try clear hfz33_3
         try clear hfz36_0
         try clear hfz36_1
         try clear hfz36_2
         try clear hfz36_3
         try clear hfz36_4
         try clear hfz37_0
         try clear hfz37_1
         try clear hfz37_2
         try clear hfz37_3
         try clear hfz40_0
         try clear hfz40_1
         try clear hfz40_2
         try clear hfz40_3
         try clear hfz40_4
         try clear hfz41_0
         try clear hfz41_1
         try clear hfz41_2
         try clear hfz41_3
         try clear hfz43_0
         try clear hfz43_1
         try clear hfz43_2
         try clear hfz43_3
         try clear hfz43_4
         try clear hfz44_0
         try clear hfz44_1
         try clear hfz44_2
         try clear hfz44_3
         try clear hfz5_0
         try clear hfz5_1
         try clear hfz5_2
         try clear hfz5_3
         try clear hfz7_0
         try clear hfz7_1
         try clear hfz7_2
         try clear hfz7_3
         try clear hfz9_0
         try clear hfz9_1
         try clear hfz9_2
         try clear hfz9_3
         try clear hx132_0
         try clear hx132_1
         try clear hx132_2
         try clear hx132_3
         try clear hx132_4
         try clear p132
         try clear p2
         try clear q132
         obtain ⟨kq, x77_17, rfl, HA, HJ17, BK131, BK133, HB⟩ := hcut
         cases kq with
         | zero => exact absurd HA.out (by simp [commodatumref20_Valid.j2])
         | succ kj17 =>
          have H := HA.out
          clear HA
          simp only [commodatumref20_Valid.j2] at H
          by_cases c45 : x77_17 = true
          ·subst c45
           have H1 : (some false) = some r := by rw [if_pos rfl] at H; exact H
           clear H
           have H := H1
           clear H1
           obtain rfl := Option.some.inj H
           go_wp2
           repeat (go_quiet (fail); try go_wp2)
           go_ret
           exact ⟨by first | rfl | (simp [errW_none, errW_some] <;> rfl) | (simp [*, errW_none, errW_some] <;> rfl), by repeat (first | (with_reducible first | exact HB.out | apply below_alloc | apply pw_below_drewN | apply below_drew1 | refine below_set ?_ GE131.out | refine below_set ?_ GE133.out) | exact HB.out)⟩
          ·replace c45 := Bool.eq_false_iff.mpr c45
           subst c45
           have H1 : ((commodatumref20_within.f kj17 ((rd_T40 l0_3 x3_2).f1) a0_2 0 (wrap64 (a0_1 - 1))).bind fun t134 => (if t134 = true then ((commodatumref20_within.f kj17 ((rd_T40 l0_3 x3_2).f3) a0_2 0 (wrap64 (a0_1 - 1))).bind fun t135 => (if t135 = true then ((commodatumref20_within.f kj17 ((rd_T40 l0_3 x3_2).f4) a0_2 (-1) 1).bind fun t136 => (commodatumref20_Valid.j3 kj17 x3_2 (!t136) a0_0 a0_1 a0_2 l0_3 ((rd_T40 l0_3 x3_2).f0) ((rd_T40 l0_3 x3_2).f1) ((rd_T40 l0_3 x3_2).f2) ((rd_T40 l0_3 x3_2).f3) ((rd_T40 l0_3 x3_2).f4))) else (commodatumref20_Valid.j3 kj17 x3_2 true a0_0 a0_1 a0_2 l0_3 ((rd_T40 l0_3 x3_2).f0) ((rd_T40 l0_3 x3_2).f1) ((rd_T40 l0_3 x3_2).f2) ((rd_T40 l0_3 x3_2).f3) ((rd_T40 l0_3 x3_2).f4)))) else (commodatumref20_Valid.j3 kj17 x3_2 true a0_0 a0_1 a0_2 l0_3 ((rd_T40 l0_3 x3_2).f0) ((rd_T40 l0_3 x3_2).f1) ((rd_T40 l0_3 x3_2).f2) ((rd_T40 l0_3 x3_2).f3) ((rd_T40 l0_3 x3_2).f4)))) = some r := by rw [if_neg (show ¬ (false = true) by decide)] at H; exact H
           clear H
           have H := H1
           clear H1
           have HC46 := Aside0.mk H
           clear H
           go_upto_region 9 with (fail)
           repeat (go_quiet (fail); go_upto_region 9 with (fail))
           go_cut [105] (fun v105 wc => ∃ (kq : Nat) (x105_45 : Bool), v105 = .bool x105_45 ∧ Aside0 (commodatumref20_Valid.j3 kq x3_2 x105_45 a0_0 a0_1 a0_2 l0_3 ((rd_T40 l0_3 x3_2).f0) ((rd_T40 l0_3 x3_2).f1) ((rd_T40 l0_3 x3_2).f2) ((rd_T40 l0_3 x3_2).f3) ((rd_T40 l0_3 x3_2).f4) = some r) ∧ Aside0 (kq ≤ kj17) ∧ Aside0 (wc.heap[gb131]? = some (.cells #[.int .i64 a0_0, .int .i64 a0_1, .int .i64 a0_2, (.slice (some ad132) l0_3.length c0_3)] 24 (0, 0))) ∧ Aside0 (wc.heap[gb133]? = some (.cells #[.int .i64 ((rd_T40 l0_3 x3_2).f0), (.slice A132_1 ((rd_T40 l0_3 x3_2).f1).length c132_1), .int .i64 ((rd_T40 l0_3 x3_2).f2), (.slice A132_3 ((rd_T40 l0_3 x3_2).f3).length c132_3), (.slice A132_4 ((rd_T40 l0_3 x3_2).f4).length c132_4)] 40 (0, 0))) ∧ Aside0 (Below w.heap.size w wc))
           case first =>
            have H := HC46.out
            clear HC46
            replace H := Option.bind_eq_some_iff.mp H
            obtain ⟨t134, A470, H⟩ := H
            replace H : (if t134 = true then ((commodatumref20_within.f kj17 ((rd_T40 l0_3 x3_2).f3) a0_2 0 (wrap64 (a0_1 - 1))).bind fun t135 => (if t135 = true then ((commodatumref20_within.f kj17 ((rd_T40 l0_3 x3_2).f4) a0_2 (-1) 1).bind fun t136 => (commodatumref20_Valid.j3 kj17 x3_2 (!t136) a0_0 a0_1 a0_2 l0_3 ((rd_T40 l0_3 x3_2).f0) ((rd_T40 l0_3 x3_2).f1) ((rd_T40 l0_3 x3_2).f2) ((rd_T40 l0_3 x3_2).f3) ((rd_T40 l0_3 x3_2).f4))) else (commodatumref20_Valid.j3 kj17 x3_2 true a0_0 a0_1 a0_2 l0_3 ((rd_T40 l0_3 x3_2).f0) ((rd_T40 l0_3 x3_2).f1) ((rd_T40 l0_3 x3_2).f2) ((rd_T40 l0_3 x3_2).f3) ((rd_T40 l0_3 x3_2).f4)))) else (commodatumref20_Valid.j3 kj17 x3_2 true a0_0 a0_1 a0_2 l0_3 ((rd_T40 l0_3 x3_2).f0) ((rd_T40 l0_3 x3_2).f1) ((rd_T40 l0_3 x3_2).f2) ((rd_T40 l0_3 x3_2).f3) ((rd_T40 l0_3 x3_2).f4))) = some r := H
            have A47 := Aside0.mk A470
            clear A470
            by_cases c48 : t134 = true
            ·subst c48
             have H1 : ((commodatumref20_within.f kj17 ((rd_T40 l0_3 x3_2).f3) a0_2 0 (wrap64 (a0_1 - 1))).bind fun t135 => (if t135 = true then ((commodatumref20_within.f kj17 ((rd_T40 l0_3 x3_2).f4) a0_2 (-1) 1).bind fun t136 => (commodatumref20_Valid.j3 kj17 x3_2 (!t136) a0_0 a0_1 a0_2 l0_3 ((rd_T40 l0_3 x3_2).f0) ((rd_T40 l0_3 x3_2).f1) ((rd_T40 l0_3 x3_2).f2) ((rd_T40 l0_3 x3_2).f3) ((rd_T40 l0_3 x3_2).f4))) else (commodatumref20_Valid.j3 kj17 x3_2 true a0_0 a0_1 a0_2 l0_3 ((rd_T40 l0_3 x3_2).f0) ((rd_T40 l0_3 x3_2).f1) ((rd_T40 l0_3 x3_2).f2) ((rd_T40 l0_3 x3_2).f3) ((rd_T40 l0_3 x3_2).f4)))) = some r := by rw [if_pos rfl] at H; exact H
             clear H
             have H := H1
             clear H1
             replace H := Option.bind_eq_some_iff.mp H
             obtain ⟨t135, A490, H⟩ := H
             replace H : (if t135 = true then ((commodatumref20_within.f kj17 ((rd_T40 l0_3 x3_2).f4) a0_2 (-1) 1).bind fun t136 => (commodatumref20_Valid.j3 kj17 x3_2 (!t136) a0_0 a0_1 a0_2 l0_3 ((rd_T40 l0_3 x3_2).f0) ((rd_T40 l0_3 x3_2).f1) ((rd_T40 l0_3 x3_2).f2) ((rd_T40 l0_3 x3_2).f3) ((rd_T40 l0_3 x3_2).f4))) else (commodatumref20_Valid.j3 kj17 x3_2 true a0_0 a0_1 a0_2 l0_3 ((rd_T40 l0_3 x3_2).f0) ((rd_T40 l0_3 x3_2).f1) ((rd_T40 l0_3 x3_2).f2) ((rd_T40 l0_3 x3_2).f3) ((rd_T40 l0_3 x3_2).f4))) = some r := H
             have A49 := Aside0.mk A490
             clear A490
             by_cases c50 : t135 = true
             ·subst c50
              have H1 : ((commodatumref20_within.f kj17 ((rd_T40 l0_3 x3_2).f4) a0_2 (-1) 1).bind fun t136 => (commodatumref20_Valid.j3 kj17 x3_2 (!t136) a0_0 a0_1 a0_2 l0_3 ((rd_T40 l0_3 x3_2).f0) ((rd_T40 l0_3 x3_2).f1) ((rd_T40 l0_3 x3_2).f2) ((rd_T40 l0_3 x3_2).f3) ((rd_T40 l0_3 x3_2).f4))) = some r := by rw [if_pos rfl] at H; exact H
              clear H
              have H := H1
              clear H1
              replace H := Option.bind_eq_some_iff.mp H
              obtain ⟨t136, A510, H⟩ := H
              replace H : (commodatumref20_Valid.j3 kj17 x3_2 (!t136) a0_0 a0_1 a0_2 l0_3 ((rd_T40 l0_3 x3_2).f0) ((rd_T40 l0_3 x3_2).f1) ((rd_T40 l0_3 x3_2).f2) ((rd_T40 l0_3 x3_2).f3) ((rd_T40 l0_3 x3_2).f4)) = some r := H
              have A51 := Aside0.mk A510
              clear A510
              have H' := Aside0.mk H
              clear H
              have hnb52 := NB133_131.out
              have hnc52 := NB131_133.out
              have hcz53_0 : wc.cell? ⟨gb133, 0, none⟩ = some (.int .i64 ((rd_T40 l0_3 x3_2).f0)) := (blk_cell BK133.out 0).trans rfl
              have hcz53_1 : wc.cell? ⟨gb133, 1, none⟩ = some (.slice A132_1 ((rd_T40 l0_3 x3_2).f1).length c132_1) := (blk_cell BK133.out 1).trans rfl
              have hcz53_2 : wc.cell? ⟨gb133, 2, none⟩ = some (.int .i64 ((rd_T40 l0_3 x3_2).f2)) := (blk_cell BK133.out 2).trans rfl
              have hcz53_3 : wc.cell? ⟨gb133, 3, none⟩ = some (.slice A132_3 ((rd_T40 l0_3 x3_2).f3).length c132_3) := (blk_cell BK133.out 3).trans rfl
              have hcz53_4 : wc.cell? ⟨gb133, 4, none⟩ = some (.slice A132_4 ((rd_T40 l0_3 x3_2).f4).length c132_4) := (blk_cell BK133.out 4).trans rfl
              have hfz53_0 := blk_frozen BK133.out 0
              have hfz53_1 := blk_frozen BK133.out 1
              have hfz53_2 := blk_frozen BK133.out 2
              have hfz53_3 := blk_frozen BK133.out 3
              have hfz53_4 := blk_frozen BK133.out 4
              have hcz54_0 : wc.cell? ⟨gb131, 0, none⟩ = some (.int .i64 a0_0) := (blk_cell BK131.out 0).trans rfl
              have hcz54_1 : wc.cell? ⟨gb131, 1, none⟩ = some (.int .i64 a0_1) := (blk_cell BK131.out 1).trans rfl
              have hcz54_2 : wc.cell? ⟨gb131, 2, none⟩ = some (.int .i64 a0_2) := (blk_cell BK131.out 2).trans rfl
              have hcz54_3 : wc.cell? ⟨gb131, 3, none⟩ = some (.slice (some ad132) l0_3.length c0_3) := (blk_cell BK131.out 3).trans rfl
              have hfz54_0 := blk_frozen BK131.out 0
              have hfz54_1 := blk_frozen BK131.out 1
              have hfz54_2 := blk_frozen BK131.out 2
              have hfz54_3 := blk_frozen BK131.out 3
              go_wp2_with (first | (go_at_call 19; (with_reducible refine (commodatumref20_within.calls kj17 _ _ ((rd_T40 l0_3 x3_2).f1) a0_2 0 (wrap64 (a0_1 - 1)) true _ ?side1 ?side2 A47.out).mono ?_); (case side1 => repeat (first | exact (Kd.C_below HR132_1.out HB.out) | (with_reducible refine Kd.C_alloc ?_ _) | (with_reducible refine Kd.C_drewN ?_ _) | (with_reducible refine Kd.C_drew ?_))); (case side2 => exact HC132_1.out); rintro e w' ⟨rfl, ⟨nd, rfl⟩⟩; (try first | exact ⟨rfl, _, World.drewN_drewN _ _ _⟩ | exact ⟨rfl, _, Eq.trans (World.drewN_drewN _ _ _) (congrArg (World.drewN _) (Nat.add_assoc _ _ _))⟩)) | (go_at_call 19; (with_reducible refine (commodatumref20_within.calls kj17 _ _ ((rd_T40 l0_3 x3_2).f3) a0_2 0 (wrap64 (a0_1 - 1)) true _ ?side1 ?side2 A49.out).mono ?_); (case side1 => repeat (first | exact (Kd.C_below HR132_3.out (by repeat (first | (with_reducible first | exact HB.out | apply below_alloc | apply pw_below_drewN | apply below_drew1 | refine below_set ?_ GE131.out | refine below_set ?_ GE133.out) | exact HB.out))) | (with_reducible refine Kd.C_alloc ?_ _) | (with_reducible refine Kd.C_drewN ?_ _) | (with_reducible refine Kd.C_drew ?_))); (case side2 => exact HC132_3.out); rintro e w' ⟨rfl, ⟨nd, rfl⟩⟩; (try first | exact ⟨rfl, _, World.drewN_drewN _ _ _⟩ | exact ⟨rfl, _, Eq.trans (World.drewN_drewN _ _ _) (congrArg (World.drewN _) (Nat.add_assoc _ _ _))⟩)) | (go_at_call 19; (with_reducible refine (commodatumref20_within.calls kj17 _ _ ((rd_T40 l0_3 x3_2).f4) a0_2 (-1) 1 t136 _ ?side1 ?side2 A51.out).mono ?_); (case side1 => repeat (first | exact (Kd.C_below HR132_4.out (by repeat (first | (with_reducible first | exact HB.out | apply below_alloc | apply pw_below_drewN | apply below_drew1 | refine below_set ?_ GE131.out | refine below_set ?_ GE133.out) | exact HB.out))) | (with_reducible refine Kd.C_alloc ?_ _) | (with_reducible refine Kd.C_drewN ?_ _) | (with_reducible refine Kd.C_drew ?_))); (case side2 => exact HC132_4.out); rintro e w' ⟨rfl, ⟨nd, rfl⟩⟩; (try first | exact ⟨rfl, _, World.drewN_drewN _ _ _⟩ | exact ⟨rfl, _, Eq.trans (World.drewN_drewN _ _ _) (congrArg (World.drewN _) (Nat.add_assoc _ _ _))⟩)))
              repeat (go_quiet (first | (go_at_call 19; (with_reducible refine (commodatumref20_within.calls kj17 _ _ ((rd_T40 l0_3 x3_2).f1) a0_2 0 (wrap64 (a0_1 - 1)) true _ ?side1 ?side2 A47.out).mono ?_); (case side1 => repeat (first | exact (Kd.C_below HR132_1.out HB.out) | (with_reducible refine Kd.C_alloc ?_ _) | (with_reducible refine Kd.C_drewN ?_ _) | (with_reducible refine Kd.C_drew ?_))); (case side2 => exact HC132_1.out); rintro e w' ⟨rfl, ⟨nd, rfl⟩⟩; (try first | exact ⟨rfl, _, World.drewN_drewN _ _ _⟩ | exact ⟨rfl, _, Eq.trans (World.drewN_drewN _ _ _) (congrArg (World.drewN _) (Nat.add_assoc _ _ _))⟩)) | (go_at_call 19; (with_reducible refine (commodatumref20_within.calls kj17 _ _ ((rd_T40 l0_3 x3_2).f3) a0_2 0 (wrap64 (a0_1 - 1)) true _ ?side1 ?side2 A49.out).mono ?_); (case side1 => repeat (first | exact (Kd.C_below HR132_3.out (by repeat (first | (with_reducible first | exact HB.out | apply below_alloc | apply pw_below_drewN | apply below_drew1 | refine below_set ?_ GE131.out | refine below_set ?_ GE133.out) | exact HB.out))) | (with_reducible refine Kd.C_alloc ?_ _) | (with_reducible refine Kd.C_drewN ?_ _) | (with_reducible refine Kd.C_drew ?_))); (case side2 => exact HC132_3.out); rintro e w' ⟨rfl, ⟨nd, rfl⟩⟩; (try first | exact ⟨rfl, _, World.drewN_drewN _ _ _⟩ | exact ⟨rfl, _, Eq.trans (World.drewN_drewN _ _ _) (congrArg (World.drewN _) (Nat.add_assoc _ _ _))⟩)) | (go_at_call 19; (with_reducible refine (commodatumref20_within.calls kj17 _ _ ((rd_T40 l0_3 x3_2).f4) a0_2 (-1) 1 t136 _ ?side1 ?side2 A51.out).mono ?_); (case side1 => repeat (first | exact (Kd.C_below HR132_4.out (by repeat (first | (with_reducible first | exact HB.out | apply below_alloc | apply pw_below_drewN | apply below_drew1 | refine below_set ?_ GE131.out | refine below_set ?_ GE133.out) | exact HB.out))) | (with_reducible refine Kd.C_alloc ?_ _) | (with_reducible refine Kd.C_drewN ?_ _) | (with_reducible refine Kd.C_drew ?_))); (case side2 => exact HC132_4.out); rintro e w' ⟨rfl, ⟨nd, rfl⟩⟩; (try first | exact ⟨rfl, _, World.drewN_drewN _ _ _⟩ | exact ⟨rfl, _, Eq.trans (World.drewN_drewN _ _ _) (congrArg (World.drewN _) (Nat.add_assoc _ _ _))⟩))); try go_wp2_with (first | (go_at_call 19; (with_reducible refine (commodatumref20_within.calls kj17 _ _ ((rd_T40 l0_3 x3_2).f1) a0_2 0 (wrap64 (a0_1 - 1)) true _ ?side1 ?side2 A47.out).mono ?_); (case side1 => repeat (first | exact (Kd.C_below HR132_1.out HB.out) | (with_reducible refine Kd.C_alloc ?_ _) | (with_reducible refine Kd.C_drewN ?_ _) | (with_reducible refine Kd.C_drew ?_))); (case side2 => exact HC132_1.out); rintro e w' ⟨rfl, ⟨nd, rfl⟩⟩; (try first | exact ⟨rfl, _, World.drewN_drewN _ _ _⟩ | exact ⟨rfl, _, Eq.trans (World.drewN_drewN _ _ _) (congrArg (World.drewN _) (Nat.add_assoc _ _ _))⟩)) | (go_at_call 19; (with_reducible refine (commodatumref20_within.calls kj17 _ _ ((rd_T40 l0_3 x3_2).f3) a0_2 0 (wrap64 (a0_1 - 1)) true _ ?side1 ?side2 A49.out).mono ?_); (case side1 => repeat (first | exact (Kd.C_below HR132_3.out (by repeat (first | (with_reducible first | exact HB.out | apply below_alloc | apply pw_below_drewN | apply below_drew1 | refine below_set ?_ GE131.out | refine below_set ?_ GE133.out) | exact HB.out))) | (with_reducible refine Kd.C_alloc ?_ _) | (with_reducible refine Kd.C_drewN ?_ _) | (with_reducible refine Kd.C_drew ?_))); (case side2 => exact HC132_3.out); rintro e w' ⟨rfl, ⟨nd, rfl⟩⟩; (try first | exact ⟨rfl, _, World.drewN_drewN _ _ _⟩ | exact ⟨rfl, _, Eq.trans (World.drewN_drewN _ _ _) (congrArg (World.drewN _) (Nat.add_assoc _ _ _))⟩)) | (go_at_call 19; (with_reducible refine (commodatumref20_within.calls kj17 _ _ ((rd_T40 l0_3 x3_2).f4) a0_2 (-1) 1 t136 _ ?side1 ?side2 A51.out).mono ?_); (case side1 => repeat (first | exact (Kd.C_below HR132_4.out (by repeat (first | (with_reducible first | exact HB.out | apply below_alloc | apply pw_below_drewN | apply below_drew1 | refine below_set ?_ GE131.out | refine below_set ?_ GE133.out) | exact HB.out))) | (with_reducible refine Kd.C_alloc ?_ _) | (with_reducible refine Kd.C_drewN ?_ _) | (with_reducible refine Kd.C_drew ?_))); (case side2 => exact HC132_4.out); rintro e w' ⟨rfl, ⟨nd, rfl⟩⟩; (try first | exact ⟨rfl, _, World.drewN_drewN _ _ _⟩ | exact ⟨rfl, _, Eq.trans (World.drewN_drewN _ _ _) (congrArg (World.drewN _) (Nat.add_assoc _ _ _))⟩))))
              go_meet
              case rel => exact ⟨_, (!t136), (by first | rfl | (simp; done) | (simp [*]; done)), H', ⟨by have := HJ1.out; have := HK2.out; have := HJ17.out; first | omega | exact Nat.le_refl _⟩, ⟨by (with_reducible repeat (first | refine blk_drewN ?_ _ | refine blk_drew ?_ | refine blk_alloc ?_ _)); exact BK131.out⟩, ⟨by (with_reducible repeat (first | refine blk_drewN ?_ _ | refine blk_drew ?_ | refine blk_alloc ?_ _)); exact BK133.out⟩, ⟨by repeat (first | (with_reducible first | exact HB.out | apply below_alloc | apply pw_below_drewN | apply below_drew1 | refine below_set ?_ GE131.out | refine below_set ?_ GE133.out) | exact HB.out)⟩⟩
             ·replace c50 := Bool.eq_false_iff.mpr c50
              subst c50
              have H1 : (commodatumref20_Valid.j3 kj17 x3_2 true a0_0 a0_1 a0_2 l0_3 ((rd_T40 l0_3 x3_2).f0) ((rd_T40 l0_3 x3_2).f1) ((rd_T40 l0_3 x3_2).f2) ((rd_T40 l0_3 x3_2).f3) ((rd_T40 l0_3 x3_2).f4)) = some r := by rw [if_neg (show ¬ (false = true) by decide)] at H; exact H
              clear H
              have H := H1
              clear H1
              have H' := Aside0.mk H
              clear H
              have hnb55 := NB133_131.out
              have hnc55 := NB131_133.out
              have hcz56_0 : wc.cell? ⟨gb133, 0, none⟩ = some (.int .i64 ((rd_T40 l0_3 x3_2).f0)) := (blk_cell BK133.out 0).trans rfl
              have hcz56_1 : wc.cell? ⟨gb133, 1, none⟩ = some (.slice A132_1 ((rd_T40 l0_3 x3_2).f1).length c132_1) := (blk_cell BK133.out 1).trans rfl
              have hcz56_2 : wc.cell? ⟨gb133, 2, none⟩ = some (.int .i64 ((rd_T40 l0_3 x3_2).f2)) := (blk_cell BK133.out 2).trans rfl
              have hcz56_3 : wc.cell? ⟨gb133, 3, none⟩ = some (.slice A132_3 ((rd_T40 l0_3 x3_2).f3).length c132_3) := (blk_cell BK133.out 3).trans rfl
              have hcz56_4 : wc.cell? ⟨gb133, 4, none⟩ = some (.slice A132_4 ((rd_T40 l0_3 x3_2).f4).length c132_4) := (blk_cell BK133.out 4).trans rfl
              have hfz56_0 := blk_frozen BK133.out 0
              have hfz56_1 := blk_frozen BK133.out 1
              have hfz56_2 := blk_frozen BK133.out 2
              have hfz56_3 := blk_frozen BK133.out 3
              have hfz56_4 := blk_frozen BK133.out 4
              have hcz57_0 : wc.cell? ⟨gb131, 0, none⟩ = some (.int .i64 a0_0) := (blk_cell BK131.out 0).trans rfl
              have hcz57_1 : wc.cell? ⟨gb131, 1, none⟩ = some (.int .i64 a0_1) := (blk_cell BK131.out 1).trans rfl
              have hcz57_2 : wc.cell? ⟨gb131, 2, none⟩ = some (.int .i64 a0_2) := (blk_cell BK131.out 2).trans rfl
              have hcz57_3 : wc.cell? ⟨gb131, 3, none⟩ = some (.slice (some ad132) l0_3.length c0_3) := (blk_cell BK131.out 3).trans rfl
              have hfz57_0 := blk_frozen BK131.out 0
              have hfz57_1 := blk_frozen BK131.out 1
              have hfz57_2 := blk_frozen BK131.out 2
              have hfz57_3 := blk_frozen BK131.out 3
              go_wp2_with (first | (go_at_call 19; (with_reducible refine (commodatumref20_within.calls kj17 _ _ ((rd_T40 l0_3 x3_2).f1) a0_2 0 (wrap64 (a0_1 - 1)) true _ ?side1 ?side2 A47.out).mono ?_); (case side1 => repeat (first | exact (Kd.C_below HR132_1.out HB.out) | (with_reducible refine Kd.C_alloc ?_ _) | (with_reducible refine Kd.C_drewN ?_ _) | (with_reducible refine Kd.C_drew ?_))); (case side2 => exact HC132_1.out); rintro e w' ⟨rfl, ⟨nd, rfl⟩⟩; (try first | exact ⟨rfl, _, World.drewN_drewN _ _ _⟩ | exact ⟨rfl, _, Eq.trans (World.drewN_drewN _ _ _) (congrArg (World.drewN _) (Nat.add_assoc _ _ _))⟩)) | (go_at_call 19; (with_reducible refine (commodatumref20_within.calls kj17 _ _ ((rd_T40 l0_3 x3_2).f3) a0_2 0 (wrap64 (a0_1 - 1)) false _ ?side1 ?side2 A49.out).mono ?_); (case side1 => repeat (first | exact (Kd.C_below HR132_3.out (by repeat (first | (with_reducible first | exact HB.out | apply below_alloc | apply pw_below_drewN | apply below_drew1 | refine below_set ?_ GE131.out | refine below_set ?_ GE133.out) | exact HB.out))) | (with_reducible refine Kd.C_alloc ?_ _) | (with_reducible refine Kd.C_drewN ?_ _) | (with_reducible refine Kd.C_drew ?_))); (case side2 => exact HC132_3.out); rintro e w' ⟨rfl, ⟨nd, rfl⟩⟩; (try first | exact ⟨rfl, _, World.drewN_drewN _ _ _⟩ | exact ⟨rfl, _, Eq.trans (World.drewN_drewN _ _ _) (congrArg (World.drewN _) (Nat.add_assoc _ _ _))⟩)))
              repeat (go_quiet (first | (go_at_call 19; (with_reducible refine (commodatumref20_within.calls kj17 _ _ ((rd_T40 l0_3 x3_2).f1) a0_2 0 (wrap64 (a0_1 - 1)) true _ ?side1 ?side2 A47.out).mono ?_); (case side1 => repeat (first | exact (Kd.C_below HR132_1.out HB.out) | (with_reducible refine Kd.C_alloc ?_ _) | (with_reducible refine Kd.C_drewN ?_ _) | (with_reducible refine Kd.C_drew ?_))); (case side2 => exact HC132_1.out); rintro e w' ⟨rfl, ⟨nd, rfl⟩⟩; (try first | exact ⟨rfl, _, World.drewN_drewN _ _ _⟩ | exact ⟨rfl, _, Eq.trans (World.drewN_drewN _ _ _) (congrArg (World.drewN _) (Nat.add_assoc _ _ _))⟩)) | (go_at_call 19; (with_reducible refine (commodatumref20_within.calls kj17 _ _ ((rd_T40 l0_3 x3_2).f3) a0_2 0 (wrap64 (a0_1 - 1)) false _ ?side1 ?side2 A49.out).mono ?_); (case side1 => repeat (first | exact (Kd.C_below HR132_3.out (by repeat (first | (with_reducible first | exact HB.out | apply below_alloc | apply pw_below_drewN | apply below_drew1 | refine below_set ?_ GE131.out | refine below_set ?_ GE133.out) | exact HB.out))) | (with_reducible refine Kd.C_alloc ?_ _) | (with_reducible refine Kd.C_drewN ?_ _) | (with_reducible refine Kd.C_drew ?_))); (case side2 => exact HC132_3.out); rintro e w' ⟨rfl, ⟨nd, rfl⟩⟩; (try first | exact ⟨rfl, _, World.drewN_drewN _ _ _⟩ | exact ⟨rfl, _, Eq.trans (World.drewN_drewN _ _ _) (congrArg (World.drewN _) (Nat.add_assoc _ _ _))⟩))); try go_wp2_with (first | (go_at_call 19; (with_reducible refine (commodatumref20_within.calls kj17 _ _ ((rd_T40 l0_3 x3_2).f1) a0_2 0 (wrap64 (a0_1 - 1)) true _ ?side1 ?side2 A47.out).mono ?_); (case side1 => repeat (first | exact (Kd.C_below HR132_1.out HB.out) | (with_reducible refine Kd.C_alloc ?_ _) | (with_reducible refine Kd.C_drewN ?_ _) | (with_reducible refine Kd.C_drew ?_))); (case side2 => exact HC132_1.out); rintro e w' ⟨rfl, ⟨nd, rfl⟩⟩; (try first | exact ⟨rfl, _, World.drewN_drewN _ _ _⟩ | exact ⟨rfl, _, Eq.trans (World.drewN_drewN _ _ _) (congrArg (World.drewN _) (Nat.add_assoc _ _ _))⟩)) | (go_at_call 19; (with_reducible refine (commodatumref20_within.calls kj17 _ _ ((rd_T40 l0_3 x3_2).f3) a0_2 0 (wrap64 (a0_1 - 1)) false _ ?side1 ?side2 A49.out).mono ?_); (case side1 => repeat (first | exact (Kd.C_below HR132_3.out (by repeat (first | (with_reducible first | exact HB.out | apply below_alloc | apply pw_below_drewN | apply below_drew1 | refine below_set ?_ GE131.out | refine below_set ?_ GE133.out) | exact HB.out))) | (with_reducible refine Kd.C_alloc ?_ _) | (with_reducible refine Kd.C_drewN ?_ _) | (with_reducible refine Kd.C_drew ?_))); (case side2 => exact HC132_3.out); rintro e w' ⟨rfl, ⟨nd, rfl⟩⟩; (try first | exact ⟨rfl, _, World.drewN_drewN _ _ _⟩ | exact ⟨rfl, _, Eq.trans (World.drewN_drewN _ _ _) (congrArg (World.drewN _) (Nat.add_assoc _ _ _))⟩))))
              go_meet
              case rel => exact ⟨_, (true), (by first | rfl | (simp; done) | (simp [*]; done)), H', ⟨by have := HJ1.out; have := HK2.out; have := HJ17.out; first | omega | exact Nat.le_refl _⟩, ⟨by (with_reducible repeat (first | refine blk_drewN ?_ _ | refine blk_drew ?_ | refine blk_alloc ?_ _)); exact BK131.out⟩, ⟨by (with_reducible repeat (first | refine blk_drewN ?_ _ | refine blk_drew ?_ | refine blk_alloc ?_ _)); exact BK133.out⟩, ⟨by repeat (first | (with_reducible first | exact HB.out | apply below_alloc | apply pw_below_drewN | apply below_drew1 | refine below_set ?_ GE131.out | refine below_set ?_ GE133.out) | exact HB.out)⟩⟩
            ·replace c48 := Bool.eq_false_iff.mpr c48
             subst c48
             have H1 : (commodatumref20_Valid.j3 kj17 x3_2 true a0_0 a0_1 a0_2 l0_3 ((rd_T40 l0_3 x3_2).f0) ((rd_T40 l0_3 x3_2).f1) ((rd_T40 l0_3 x3_2).f2) ((rd_T40 l0_3 x3_2).f3) ((rd_T40 l0_3 x3_2).f4)) = some r := by rw [if_neg (show ¬ (false = true) by decide)] at H; exact H
             clear H
             have H := H1
             clear H1
             have H' := Aside0.mk H
             clear H
             have hnb58 := NB133_131.out
             have hnc58 := NB131_133.out
             have hcz59_0 : wc.cell? ⟨gb133, 0, none⟩ = some (.int .i64 ((rd_T40 l0_3 x3_2).f0)) := (blk_cell BK133.out 0).trans rfl
             have hcz59_1 : wc.cell? ⟨gb133, 1, none⟩ = some (.slice A132_1 ((rd_T40 l0_3 x3_2).f1).length c132_1) := (blk_cell BK133.out 1).trans rfl
             have hcz59_2 : wc.cell? ⟨gb133, 2, none⟩ = some (.int .i64 ((rd_T40 l0_3 x3_2).f2)) := (blk_cell BK133.out 2).trans rfl
             have hcz59_3 : wc.cell? ⟨gb133, 3, none⟩ = some (.slice A132_3 ((rd_T40 l0_3 x3_2).f3).length c132_3) := (blk_cell BK133.out 3).trans rfl
             have hcz59_4 : wc.cell? ⟨gb133, 4, none⟩ = some (.slice A132_4 ((rd_T40 l0_3 x3_2).f4).length c132_4) := (blk_cell BK133.out 4).trans rfl
             have hfz59_0 := blk_frozen BK133.out 0
             have hfz59_1 := blk_frozen BK133.out 1
             have hfz59_2 := blk_frozen BK133.out 2
             have hfz59_3 := blk_frozen BK133.out 3
             have hfz59_4 := blk_frozen BK133.out 4
             have hcz60_0 : wc.cell? ⟨gb131, 0, none⟩ = some (.int .i64 a0_0) := (blk_cell BK131.out 0).trans rfl
             have hcz60_1 : wc.cell? ⟨gb131, 1, none⟩ = some (.int .i64 a0_1) := (blk_cell BK131.out 1).trans rfl
             have hcz60_2 : wc.cell? ⟨gb131, 2, none⟩ = some (.int .i64 a0_2) := (blk_cell BK131.out 2).trans rfl
             have hcz60_3 : wc.cell? ⟨gb131, 3, none⟩ = some (.slice (some ad132) l0_3.length c0_3) := (blk_cell BK131.out 3).trans rfl
             have hfz60_0 := blk_frozen BK131.out 0
             have hfz60_1 := blk_frozen BK131.out 1
             have hfz60_2 := blk_frozen BK131.out 2
             have hfz60_3 := blk_frozen BK131.out 3
             go_wp2_with (first | (go_at_call 19; (with_reducible refine (commodatumref20_within.calls kj17 _ _ ((rd_T40 l0_3 x3_2).f1) a0_2 0 (wrap64 (a0_1 - 1)) false _ ?side1 ?side2 A47.out).mono ?_); (case side1 => repeat (first | exact (Kd.C_below HR132_1.out HB.out) | (with_reducible refine Kd.C_alloc ?_ _) | (with_reducible refine Kd.C_drewN ?_ _) | (with_reducible refine Kd.C_drew ?_))); (case side2 => exact HC132_1.out); rintro e w' ⟨rfl, ⟨nd, rfl⟩⟩; (try first | exact ⟨rfl, _, World.drewN_drewN _ _ _⟩ | exact ⟨rfl, _, Eq.trans (World.drewN_drewN _ _ _) (congrArg (World.drewN _) (Nat.add_assoc _ _ _))⟩)))
             repeat (go_quiet (first | (go_at_call 19; (with_reducible refine (commodatumref20_within.calls kj17 _ _ ((rd_T40 l0_3 x3_2).f1) a0_2 0 (wrap64 (a0_1 - 1)) false _ ?side1 ?side2 A47.out).mono ?_); (case side1 => repeat (first | exact (Kd.C_below HR132_1.out HB.out) | (with_reducible refine Kd.C_alloc ?_ _) | (with_reducible refine Kd.C_drewN ?_ _) | (with_reducible refine Kd.C_drew ?_))); (case side2 => exact HC132_1.out); rintro e w' ⟨rfl, ⟨nd, rfl⟩⟩; (try first | exact ⟨rfl, _, World.drewN_drewN _ _ _⟩ | exact ⟨rfl, _, Eq.trans (World.drewN_drewN _ _ _) (congrArg (World.drewN _) (Nat.add_assoc _ _ _))⟩))); try go_wp2_with (first | (go_at_call 19; (with_reducible refine (commodatumref20_within.calls kj17 _ _ ((rd_T40 l0_3 x3_2).f1) a0_2 0 (wrap64 (a0_1 - 1)) false _ ?side1 ?side2 A47.out).mono ?_); (case side1 => repeat (first | exact (Kd.C_below HR132_1.out HB.out) | (with_reducible refine Kd.C_alloc ?_ _) | (with_reducible refine Kd.C_drewN ?_ _) | (with_reducible refine Kd.C_drew ?_))); (case side2 => exact HC132_1.out); rintro e w' ⟨rfl, ⟨nd, rfl⟩⟩; (try first | exact ⟨rfl, _, World.drewN_drewN _ _ _⟩ | exact ⟨rfl, _, Eq.trans (World.drewN_drewN _ _ _) (congrArg (World.drewN _) (Nat.add_assoc _ _ _))⟩))))
             go_meet
             case rel => exact ⟨_, (true), (by first | rfl | (simp; done) | (simp [*]; done)), H', ⟨by have := HJ1.out; have := HK2.out; have := HJ17.out; first | omega | exact Nat.le_refl _⟩, ⟨by (with_reducible repeat (first | refine blk_drewN ?_ _ | refine blk_drew ?_ | refine blk_alloc ?_ _)); exact BK131.out⟩, ⟨by (with_reducible repeat (first | refine blk_drewN ?_ _ | refine blk_drew ?_ | refine blk_alloc ?_ _)); exact BK133.out⟩, ⟨by repeat (first | (with_reducible first | exact HB.out | apply below_alloc | apply pw_below_drewN | apply below_drew1 | refine below_set ?_ GE131.out | refine below_set ?_ GE133.out) | exact HB.out)⟩⟩
           case rest =>
            clear HC46
            try clear c1
            try clear p1
            try clear q1
            try clear hx1
            try clear c2
            try clear p2
            try clear c3
            try clear c4
            try clear c4b0
            try clear c5
            try clear c6
            try clear c6b0
            try clear p6
            try clear c8
            try clear c8b0
            try clear c10
            try clear c10b0
            try clear c12
            try clear c12b0
            try clear c13
            try clear p13
            try clear q13
            try clear hx13
            try clear c15
            try clear c16
            try clear c16b0
            try clear c17
            try clear c17b0
            try clear c21
            try clear c23
            try clear c23b0
            try clear c24
            try clear c26
            try clear c26b0
            try clear c27
            try clear c30
            try clear c30b0
            try clear c30b1
            try clear c31
            try clear c34
            try clear c34b0
            try clear c34b1
            try clear c35
            try clear c38
            try clear c38b0
            try clear c39
            try clear c42
            try clear c45
            try clear c48
            try clear c50
            try clear c52
            try clear c55
            try clear c58
            try clear hcz11_0
            try clear hcz11_1
            try clear hcz11_2
            try clear hcz11_3
            try clear hcz13_0
            try clear hcz13_1
            try clear hcz13_2
            try clear hcz13_3
            try clear hcz14_0
            try clear hcz14_1
            try clear hcz14_2
            try clear hcz14_3
            try clear hcz19_0
            try clear hcz19_1
            try clear hcz19_2
            try clear hcz19_3
            try clear hcz22_0
            try clear hcz22_1
            try clear hcz22_2
            try clear hcz22_3
            try clear hcz22_4
            try clear hcz25_0
            try clear hcz25_1
            try clear hcz25_2
            try clear hcz25_3
            try clear hcz25_4
            try clear hcz28_0
            try clear hcz28_1
            try clear hcz28_2
            try clear hcz28_3
            try clear hcz28_4
            try clear hcz29_0
            try clear hcz29_1
            try clear hcz29_2
            try clear hcz29_3
            try clear hcz32_0
            try clear hcz32_1
            try clear hcz32_2
            try clear hcz32_3
            try clear hcz32_4
            try clear hcz33_0
            try clear hcz33_1
            try clear hcz33_2
            try clear hcz33_3
            try clear hcz36_0
            try clear hcz36_1
            try clear hcz36_2
            try clear hcz36_3
            try clear hcz36_4
            try clear hcz37_0
            try clear hcz37_1
            try clear hcz37_2
            try clear hcz37_3
            try clear hcz40_0
            try clear hcz40_1
            try clear hcz40_2
            try clear hcz40_3
            try clear hcz40_4
            try clear hcz41_0
            try clear hcz41_1
            try clear hcz41_2
            try clear hcz41_3
            try clear hcz43_0
            try clear hcz43_1
            try clear hcz43_2
            try clear hcz43_3
            try clear hcz43_4
            try clear hcz44_0
            try clear hcz44_1
            try clear hcz44_2
            try clear hcz44_3
            try clear hcz53_0
            try clear hcz53_1
            try clear hcz53_2
            try clear hcz53_3
            try clear hcz53_4
            try clear hcz54_0
            try clear hcz54_1
            try clear hcz54_2
            try clear hcz54_3
            try clear hcz56_0
            try clear hcz56_1
            try clear hcz56_2
            try clear hcz56_3
            try clear hcz56_4
            try clear hcz57_0
            try clear hcz57_1
            try clear hcz57_2
            try clear hcz57_3
            try clear hcz59_0
            try clear hcz59_1
            try clear hcz59_2
            try clear hcz59_3
            try clear hcz59_4
            try clear hcz5_0
            try clear hcz5_1
            try clear hcz5_2
            try clear hcz5_3
            try clear hcz60_0
            try clear hcz60_1
            try clear hcz60_2
            try clear hcz60_3
            try clear hcz7_0
            try clear hcz7_1
            try clear hcz7_2
            try clear hcz7_3
            try clear hcz9_0
            try clear hcz9_1
            try clear hcz9_2
            try clear hcz9_3
            try clear hfz11_0
            try clear hfz11_1
            try clear hfz11_2
            try clear hfz11_3
            try clear hfz13_0
            try clear hfz13_1
            try clear hfz13_2
            try clear hfz13_3
            try clear hfz14_0
            try clear hfz14_1
            try clear hfz14_2
            try clear hfz14_3
            try clear hfz19_0
            try clear hfz19_1
            try clear hfz19_2
            try clear hfz19_3
            try clear hfz22_0
            try clear hfz22_1
            try clear hfz22_2
            try clear hfz22_3
            try clear hfz22_4
            try clear hfz25_0
            try clear hfz25_1
            try clear hfz25_2
            try clear hfz25_3
            try clear hfz25_4
            try clear hfz28_0
            try clear hfz28_1
            try clear hfz28_2
            try clear hfz28_3
            try clear hfz28_4
            try clear hfz29_0
            try clear hfz29_1
            try clear hfz29_2
            try clear hfz29_3
            try clear hfz32_0
            try clear hfz32_1
            try clear hfz32_2
            try clear hfz32_3
            try clear hfz32_4
            try clear hfz33_0
            try clear hfz33_1
            try clear hfz33_2
            try clear hfz33_3
            try clear hfz36_0
            try clear hfz36_1
            try clear hfz36_2
            try clear hfz36_3
            try clear hfz36_4
            try clear hfz37_0
            try clear hfz37_1
            try clear hfz37_2
            try clear hfz37_3
            try clear hfz40_0
            try clear hfz40_1
            try clear hfz40_2
            try clear hfz40_3
            try clear hfz40_4
            try clear hfz41_0
            try clear hfz41_1
            try clear hfz41_2
            try clear hfz41_3
            try clear hfz43_0
            try clear hfz43_1
            try clear hfz43_2
            try clear hfz43_3
            try clear hfz43_4
            try clear hfz44_0
            try clear hfz44_1
            try clear hfz44_2
            try clear hfz44_3
            try clear hfz53_0
            try clear hfz53_1
            try clear hfz53_2
            try clear hfz53_3
            try clear hfz53_4
            try clear hfz54_0
            try clear hfz54_1
            try clear hfz54_2
            try clear hfz54_3
            try clear hfz56_0
            try clear hfz56_1
            try clear hfz56_2
            try clear hfz56_3
            try clear hfz56_4
            try clear hfz57_0
            try clear hfz57_1
            try clear hfz57_2
            try clear hfz57_3
            try clear hfz59_0
            try clear hfz59_1
            try clear hfz59_2
            try clear hfz59_3
            try clear hfz59_4
            try clear hfz5_0
            try clear hfz5_1
            try clear hfz5_2
            try clear hfz5_3
            try clear hfz60_0
            try clear hfz60_1
            try clear hfz60_2
            try clear hfz60_3
            try clear hfz7_0
            try clear hfz7_1
            try clear hfz7_2
            try clear hfz7_3
            try clear hfz9_0
            try clear hfz9_1
            try clear hfz9_2
            try clear hfz9_3
            try clear hx132_0
            try clear hx132_1
            try clear hx132_2
            try clear hx132_3
            try clear hx132_4
            try clear p1
            try clear p13
            try clear p132
            try clear p2
            try clear q1
            try clear q13
            try clear q132
            obtain ⟨kq, x105_45, rfl, HA, HJ45, BK131, BK133, HB⟩ := hcut
            cases kq with
            | zero => exact absurd HA.out (by simp [commodatumref20_Valid.j3])
            | succ kj45 =>
             have H := HA.out
             clear HA
             simp only [commodatumref20_Valid.j3] at H
             by_cases c61 : x105_45 = true
             ·subst c61
              have H1 : (some false) = some r := by rw [if_pos rfl] at H; exact H
              clear H
              have H := H1
              clear H1
              obtain rfl := Option.some.inj H
              go_wp2
              repeat (go_quiet (fail); try go_wp2)
              go_ret
              exact ⟨by first | rfl | (simp [errW_none, errW_some] <;> rfl) | (simp [*, errW_none, errW_some] <;> rfl), by repeat (first | (with_reducible first | exact HB.out | apply below_alloc | apply pw_below_drewN | apply below_drew1 | refine below_set ?_ GE131.out | refine below_set ?_ GE133.out) | exact HB.out)⟩
             ·replace c61 := Bool.eq_false_iff.mpr c61
              subst c61
              have H1 : (commodatumref20_Valid.l1 kj45 x3_2 0 a0_0 a0_1 a0_2 l0_3 ((rd_T40 l0_3 x3_2).f0) ((rd_T40 l0_3 x3_2).f1) ((rd_T40 l0_3 x3_2).f2) ((rd_T40 l0_3 x3_2).f3) ((rd_T40 l0_3 x3_2).f4)) = some r := by rw [if_neg (show ¬ (false = true) by decide)] at H; exact H
              clear H
              have H := H1
              clear H1
              have H' := Aside0.mk H
              clear H
              go_wp2
              repeat (go_quiet (fail); try go_wp2)
              go_loopg [5] kj45 (fun kq v5 w' => ∃ (x5_5 : Int), v5 = .int .i64 x5_5 ∧ Aside0 (commodatumref20_Valid.l1 kq x3_2 x5_5 a0_0 a0_1 a0_2 l0_3 ((rd_T40 l0_3 x3_2).f0) ((rd_T40 l0_3 x3_2).f1) ((rd_T40 l0_3 x3_2).f2) ((rd_T40 l0_3 x3_2).f3) ((rd_T40 l0_3 x3_2).f4) = some r) ∧ Aside0 (kq ≤ kj45) ∧ Aside0 (w'.heap[gb131]? = some (.cells #[.int .i64 a0_0, .int .i64 a0_1, .int .i64 a0_2, (.slice (some ad132) l0_3.length c0_3)] 24 (0, 0))) ∧ Aside0 (w'.heap[gb133]? = some (.cells #[.int .i64 ((rd_T40 l0_3 x3_2).f0), (.slice A132_1 ((rd_T40 l0_3 x3_2).f1).length c132_1), .int .i64 ((rd_T40 l0_3 x3_2).f2), (.slice A132_3 ((rd_T40 l0_3 x3_2).f3).length c132_3), (.slice A132_4 ((rd_T40 l0_3 x3_2).f4).length c132_4)] 40 (0, 0))) ∧ Aside0 (Below w.heap.size w w'))
              case atStart => exact ⟨(0), (by first | rfl | (simp; done) | (simp [*]; done)), H', ⟨Nat.le_refl _⟩, ⟨by (with_reducible repeat (first | refine blk_drewN ?_ _ | refine blk_drew ?_ | refine blk_alloc ?_ _)); exact BK131.out⟩, ⟨by (with_reducible repeat (first | refine blk_drewN ?_ _ | refine blk_drew ?_ | refine blk_alloc ?_ _)); exact BK133.out⟩, ⟨by repeat (first | (with_reducible first | exact HB.out | apply below_alloc | apply pw_below_drewN | apply below_drew1 | refine below_set ?_ GE131.out | refine below_set ?_ GE133.out) | exact HB.out)⟩⟩
              case round =>
               clear H'
               try clear c1
               try clear p1
               try clear q1
               try clear hx1
               try clear c2
               try clear p2
               try clear c3
               try clear c4
               try clear c4b0
               try clear c5
               try clear c6
               try clear c6b0
               try clear p6
               try clear c8
               try clear c8b0
               try clear c10
               try clear c10b0
               try clear c12
               try clear c12b0
               try clear c13
               try clear p13
               try clear q13
               try clear hx13
               try clear c15
               try clear c16
               try clear c16b0
               try clear c17
               try clear c17b0
               try clear c21
               try clear c23
               try clear c23b0
               try clear c24
               try clear c26
               try clear c26b0
               try clear c27
               try clear c30
               try clear c30b0
               try clear c30b1
               try clear c31
               try clear c34
               try clear c34b0
               try clear c34b1
               try clear c35
               try clear c38
               try clear c38b0
               try clear c39
               try clear c42
               try clear c45
               try clear c48
               try clear c50
               try clear c52
               try clear c55
               try clear c58
               try clear c61
               try clear hcz11_0
               try clear hcz11_1
               try clear hcz11_2
               try clear hcz11_3
               try clear hcz13_0
               try clear hcz13_1
               try clear hcz13_2
               try clear hcz13_3
               try clear hcz14_0
               try clear hcz14_1
               try clear hcz14_2
               try clear hcz14_3
               try clear hcz19_0
               try clear hcz19_1
               try clear hcz19_2
               try clear hcz19_3
               try clear hcz22_0
               try clear hcz22_1
               try clear hcz22_2
               try clear hcz22_3
               try clear hcz22_4
               try clear hcz25_0
               try clear hcz25_1
               try clear hcz25_2
               try clear hcz25_3
               try clear hcz25_4
               try clear hcz28_0
               try clear hcz28_1
               try clear hcz28_2
               try clear hcz28_3
               try clear hcz28_4
               try clear hcz29_0
               try clear hcz29_1
               try clear hcz29_2
               try clear hcz29_3
               try clear hcz32_0
               try clear hcz32_1
               try clear hcz32_2
               try clear hcz32_3
               try clear hcz32_4
               try clear hcz33_0
               try clear hcz33_1
               try clear hcz33_2
               try clear hcz33_3
               try clear hcz36_0
               try clear hcz36_1
               try clear hcz36_2
               try clear hcz36_3
               try clear hcz36_4
               try clear hcz37_0
               try clear hcz37_1
               try clear hcz37_2
               try clear hcz37_3
               try clear hcz40_0
               try clear hcz40_1
               try clear hcz40_2
               try clear hcz40_3
               try clear hcz40_4
               try clear hcz41_0
               try clear hcz41_1
               try clear hcz41_2
               try clear hcz41_3
               try clear hcz43_0
               try clear hcz43_1
               try clear hcz43_2
               try clear hcz43_3
               try clear hcz43_4
               try clear hcz44_0
               try clear hcz44_1
               try clear hcz44_2
               try clear hcz44_3
               try clear hcz53_0
               try clear hcz53_1
               try clear hcz53_2
               try clear hcz53_3
               try clear hcz53_4
               try clear hcz54_0
               try clear hcz54_1
               try clear hcz54_2
               try clear hcz54_3
               try clear hcz56_0
               try clear hcz56_1
               try clear hcz56_2
               try clear hcz56_3
               try clear hcz56_4
               try clear hcz57_0
               try clear hcz57_1
               try clear hcz57_2
               try clear hcz57_3
               try clear hcz59_0
               try clear hcz59_1
               try clear hcz59_2
               try clear hcz59_3
               try clear hcz59_4
               try clear hcz5_0
               try clear hcz5_1
               try clear hcz5_2
               try clear hcz5_3
               try clear hcz60_0
               try clear hcz60_1
               try clear hcz60_2
               try clear hcz60_3
               try clear hcz7_0
               try clear hcz7_1
               try clear hcz7_2
               try clear hcz7_3
               try clear hcz9_0
               try clear hcz9_1
               try clear hcz9_2
               try clear hcz9_3
               try clear hfz11_0
               try clear hfz11_1
               try clear hfz11_2
               try clear hfz11_3
               try clear hfz13_0
               try clear hfz13_1
               try clear hfz13_2
               try clear hfz13_3
               try clear hfz14_0
               try clear hfz14_1
               try clear hfz14_2
               try clear hfz14_3
               try clear hfz19_0
               try clear hfz19_1
               try clear hfz19_2
               try clear hfz19_3
               try clear hfz22_0
               try clear hfz22_1
               try clear hfz22_2
               try clear hfz22_3
               try clear hfz22_4
               try clear hfz25_0
               try clear hfz25_1
               try clear hfz25_2
               try clear hfz25_3
               try clear hfz25_4
               try clear hfz28_0
               try clear hfz28_1
               try clear hfz28_2
               try clear hfz28_3
               try clear hfz28_4
               try clear hfz29_0
               try clear hfz29_1
               try clear hfz29_2
               try clear hfz29_3
               try clear hfz32_0
               try clear hfz32_1
               try clear hfz32_2
               try clear hfz32_3
               try clear hfz32_4
               try clear hfz33_0
               try clear hfz33_1
               try clear hfz33_2
               try clear hfz33_3
               try clear hfz36_0
               try clear hfz36_1
               try clear hfz36_2
               try clear hfz36_3
               try clear hfz36_4
               try clear hfz37_0
               try clear hfz37_1
               try clear hfz37_2
               try clear hfz37_3
               try clear hfz40_0
               try clear hfz40_1
               try clear hfz40_2
               try clear hfz40_3
               try clear hfz40_4
               try clear hfz41_0
               try clear hfz41_1
               try clear hfz41_2
               try clear hfz41_3
               try clear hfz43_0
               try clear hfz43_1
               try clear hfz43_2
               try clear hfz43_3
               try clear hfz43_4
               try clear hfz44_0
               try clear hfz44_1
               try clear hfz44_2
               try clear hfz44_3
               try clear hfz53_0
               try clear hfz53_1
               try clear hfz53_2
               try clear hfz53_3
               try clear hfz53_4
               try clear hfz54_0
               try clear hfz54_1
               try clear hfz54_2
               try clear hfz54_3
               try clear hfz56_0
               try clear hfz56_1
               try clear hfz56_2
               try clear hfz56_3
               try clear hfz56_4
               try clear hfz57_0
               try clear hfz57_1
               try clear hfz57_2
               try clear hfz57_3
               try clear hfz59_0
               try clear hfz59_1
               try clear hfz59_2
               try clear hfz59_3
               try clear hfz59_4
               try clear hfz5_0
               try clear hfz5_1
               try clear hfz5_2
               try clear hfz5_3
               try clear hfz60_0
               try clear hfz60_1
               try clear hfz60_2
               try clear hfz60_3
               try clear hfz7_0
               try clear hfz7_1
               try clear hfz7_2
               try clear hfz7_3
               try clear hfz9_0
               try clear hfz9_1
               try clear hfz9_2
               try clear hfz9_3
               try clear hx132_0
               try clear hx132_1
               try clear hx132_2
               try clear hx132_3
               try clear hx132_4
               try clear p1
               try clear p13
               try clear p132
               try clear p2
               try clear p6
               try clear q1
               try clear q13
               try clear q132
               obtain ⟨x5_5, rfl, HA, HK5, BK131, BK133, HB⟩ := hrel
               cases gk with
               | zero => exact absurd HA.out (by simp [commodatumref20_Valid.l1])
               | succ k5 =>
                have H := HA.out
                clear HA
                simp only [commodatumref20_Valid.l1] at H
                by_cases c62 : x5_5 < x3_2
                ·rw [if_pos c62] at H
                 have c62b0 : decide (x5_5 < x3_2) = true := decide_eq_true c62
                 clear c62
                 by_cases c63 : 0 ≤ x5_5
                 ·rw [if_pos c63] at H
                  have c63b0 : decide (0 ≤ x5_5) = true := decide_eq_true c63
                  clear c63
                  by_cases c64 : x5_5 < (l0_3.length : Int)
                  ·rw [if_pos c64] at H
                   have c64b0 : decide (x5_5 < (l0_3.length : Int)) = true := decide_eq_true c64
                   clear c64
                   by_cases c65 : ((rd_T40 l0_3 x5_5).f0) = ((rd_T40 l0_3 x3_2).f0)
                   ·rw [if_pos c65] at H
                    have c65b0 : (((rd_T40 l0_3 x5_5).f0) == ((rd_T40 l0_3 x3_2).f0)) = true := beq_iff_eq.mpr c65
                    have c65b1 : (((rd_T40 l0_3 x5_5).f0) != ((rd_T40 l0_3 x3_2).f0)) = false := bne_eq_false_iff_eq.mpr c65
                    clear c65
                    replace H := Option.bind_eq_some_iff.mp H
                    obtain ⟨t139, A660, H⟩ := H
                    replace H : (if t139 = true then (some false) else (commodatumref20_Valid.l1 k5 x3_2 (wrap64 (x5_5 + 1)) a0_0 a0_1 a0_2 l0_3 ((rd_T40 l0_3 x3_2).f0) ((rd_T40 l0_3 x3_2).f1) ((rd_T40 l0_3 x3_2).f2) ((rd_T40 l0_3 x3_2).f3) ((rd_T40 l0_3 x3_2).f4))) = some r := H
                    have A66 := Aside0.mk A660
                    clear A660
                    by_cases c67 : t139 = true
                    ·subst c67
                     have H1 : (some false) = some r := by rw [if_pos rfl] at H; exact H
                     clear H
                     have H := H1
                     clear H1
                     obtain rfl := Option.some.inj H
                     have hnb68 := NB131_133.out
                     have hnc68 := NB133_131.out
                     have hcz69_0 : wr.cell? ⟨gb131, 0, none⟩ = some (.int .i64 a0_0) := (blk_cell BK131.out 0).trans rfl
                     have hcz69_1 : wr.cell? ⟨gb131, 1, none⟩ = some (.int .i64 a0_1) := (blk_cell BK131.out 1).trans rfl
                     have hcz69_2 : wr.cell? ⟨gb131, 2, none⟩ = some (.int .i64 a0_2) := (blk_cell BK131.out 2).trans rfl
                     have hcz69_3 : wr.cell? ⟨gb131, 3, none⟩ = some (.slice (some ad132) l0_3.length c0_3) := (blk_cell BK131.out 3).trans rfl
                     have hfz69_0 := blk_frozen BK131.out 0
                     have hfz69_1 := blk_frozen BK131.out 1
                     have hfz69_2 := blk_frozen BK131.out 2
                     have hfz69_3 := blk_frozen BK131.out 3
                     have p137 : 0 ≤ (x5_5 : Int) := of_decide_eq_true (by first | (with_reducible assumption) | assumption)
                     have q137 : x5_5 < (l0_3.length : Int) := of_decide_eq_true (by first | (with_reducible assumption) | assumption)
                     obtain ⟨ad137, A137_1, c137_1, A137_3, c137_3, A137_4, c137_4, e137, hx137_0, hx137_1, hx137_2, hx137_3, hx137_4, hl137_1, hi137_1, hl137_3, hi137_3, hl137_4, hi137_4⟩ := at_T40 HR0_3.out x5_5 p137 q137
                     obtain rfl : ad132 = ad137 := (by injection e137)
                     replace hx137_0 := (HB.out.cell (World.block_lt_of_cell? w _ hx137_0)).trans hx137_0
                     replace hx137_1 := (HB.out.cell (World.block_lt_of_cell? w _ hx137_1)).trans hx137_1
                     replace hx137_2 := (HB.out.cell (World.block_lt_of_cell? w _ hx137_2)).trans hx137_2
                     replace hx137_3 := (HB.out.cell (World.block_lt_of_cell? w _ hx137_3)).trans hx137_3
                     replace hx137_4 := (HB.out.cell (World.block_lt_of_cell? w _ hx137_4)).trans hx137_4
                     have HR137_1 := Aside0.mk hi137_1
                     have HC137_1 := Aside0.mk hl137_1
                     clear hi137_1 hl137_1
                     have HR137_3 := Aside0.mk hi137_3
                     have HC137_3 := Aside0.mk hl137_3
                     clear hi137_3 hl137_3
                     have HR137_4 := Aside0.mk hi137_4
                     have HC137_4 := Aside0.mk hl137_4
                     clear hi137_4 hl137_4
                     replace p137 := eq_true p137
                     replace q137 := eq_true q137
                     have hcz70_0 : wr.cell? ⟨gb133, 0, none⟩ = some (.int .i64 ((rd_T40 l0_3 x3_2).f0)) := (blk_cell BK133.out 0).trans rfl
                     have hcz70_1 : wr.cell? ⟨gb133, 1, none⟩ = some (.slice A132_1 ((rd_T40 l0_3 x3_2).f1).length c132_1) := (blk_cell BK133.out 1).trans rfl
                     have hcz70_2 : wr.cell? ⟨gb133, 2, none⟩ = some (.int .i64 ((rd_T40 l0_3 x3_2).f2)) := (blk_cell BK133.out 2).trans rfl
                     have hcz70_3 : wr.cell? ⟨gb133, 3, none⟩ = some (.slice A132_3 ((rd_T40 l0_3 x3_2).f3).length c132_3) := (blk_cell BK133.out 3).trans rfl
                     have hcz70_4 : wr.cell? ⟨gb133, 4, none⟩ = some (.slice A132_4 ((rd_T40 l0_3 x3_2).f4).length c132_4) := (blk_cell BK133.out 4).trans rfl
                     have hfz70_0 := blk_frozen BK133.out 0
                     have hfz70_1 := blk_frozen BK133.out 1
                     have hfz70_2 := blk_frozen BK133.out 2
                     have hfz70_3 := blk_frozen BK133.out 3
                     have hfz70_4 := blk_frozen BK133.out 4
                     have p138 : 0 ≤ (x5_5 : Int) := of_decide_eq_true (by first | (with_reducible assumption) | assumption)
                     have q138 : x5_5 < (l0_3.length : Int) := of_decide_eq_true (by first | (with_reducible assumption) | assumption)
                     obtain ⟨ad138, A138_1, c138_1, A138_3, c138_3, A138_4, c138_4, e138, hx138_0, hx138_1, hx138_2, hx138_3, hx138_4, hl138_1, hi138_1, hl138_3, hi138_3, hl138_4, hi138_4⟩ := at_T40 HR0_3.out x5_5 p138 q138
                     obtain rfl : ad132 = ad138 := (by injection e138)
                     replace hx138_0 := (HB.out.cell (World.block_lt_of_cell? w _ hx138_0)).trans hx138_0
                     replace hx138_1 := (HB.out.cell (World.block_lt_of_cell? w _ hx138_1)).trans hx138_1
                     replace hx138_2 := (HB.out.cell (World.block_lt_of_cell? w _ hx138_2)).trans hx138_2
                     replace hx138_3 := (HB.out.cell (World.block_lt_of_cell? w _ hx138_3)).trans hx138_3
                     replace hx138_4 := (HB.out.cell (World.block_lt_of_cell? w _ hx138_4)).trans hx138_4
                     have HR138_1 := Aside0.mk hi138_1
                     have HC138_1 := Aside0.mk hl138_1
                     clear hi138_1 hl138_1
                     have HR138_3 := Aside0.mk hi138_3
                     have HC138_3 := Aside0.mk hl138_3
                     clear hi138_3 hl138_3
                     have HR138_4 := Aside0.mk hi138_4
                     have HC138_4 := Aside0.mk hl138_4
                     clear hi138_4 hl138_4
                     replace p138 := eq_true p138
                     replace q138 := eq_true q138
                     have ea_ := Option.some.inj (hx137_1.symm.trans hx138_1)
                     injection ea_ with ea_ en_ ec_
                     subst ea_
                     subst ec_
                     clear en_
                     have ea_ := Option.some.inj (hx137_3.symm.trans hx138_3)
                     injection ea_ with ea_ en_ ec_
                     subst ea_
                     subst ec_
                     clear en_
                     have ea_ := Option.some.inj (hx137_4.symm.trans hx138_4)
                     injection ea_ with ea_ en_ ec_
                     subst ea_
                     subst ec_
                     clear en_
                     go_wp2_with (first | (go_at_call 20; (with_reducible refine (commodatumref20_Equal.calls k5 _ _ ((rd_T40 l0_3 x5_5).f1) _ _ ((rd_T40 l0_3 x3_2).f1) true _ ?side1 ?side2 ?side3 ?side4 A66.out).mono ?_); (case side1 => repeat (first | exact (Kd.C_below HR138_1.out HB.out) | (with_reducible refine Kd.C_alloc ?_ _) | (with_reducible refine Kd.C_drewN ?_ _) | (with_reducible refine Kd.C_drew ?_))); (case side2 => exact HC138_1.out); (case side3 => repeat (first | exact (Kd.C_below HR132_1.out HB.out) | (with_reducible refine Kd.C_alloc ?_ _) | (with_reducible refine Kd.C_drewN ?_ _) | (with_reducible refine Kd.C_drew ?_))); (case side4 => exact HC132_1.out); rintro e w' ⟨rfl, ⟨nd, rfl⟩⟩; (try first | exact ⟨rfl, _, World.drewN_drewN _ _ _⟩ | exact ⟨rfl, _, Eq.trans (World.drewN_drewN _ _ _) (congrArg (World.drewN _) (Nat.add_assoc _ _ _))⟩)))
                     repeat (go_quiet (first | (go_at_call 20; (with_reducible refine (commodatumref20_Equal.calls k5 _ _ ((rd_T40 l0_3 x5_5).f1) _ _ ((rd_T40 l0_3 x3_2).f1) true _ ?side1 ?side2 ?side3 ?side4 A66.out).mono ?_); (case side1 => repeat (first | exact (Kd.C_below HR138_1.out HB.out) | (with_reducible refine Kd.C_alloc ?_ _) | (with_reducible refine Kd.C_drewN ?_ _) | (with_reducible refine Kd.C_drew ?_))); (case side2 => exact HC138_1.out); (case side3 => repeat (first | exact (Kd.C_below HR132_1.out HB.out) | (with_reducible refine Kd.C_alloc ?_ _) | (with_reducible refine Kd.C_drewN ?_ _) | (with_reducible refine Kd.C_drew ?_))); (case side4 => exact HC132_1.out); rintro e w' ⟨rfl, ⟨nd, rfl⟩⟩; (try first | exact ⟨rfl, _, World.drewN_drewN _ _ _⟩ | exact ⟨rfl, _, Eq.trans (World.drewN_drewN _ _ _) (congrArg (World.drewN _) (Nat.add_assoc _ _ _))⟩))); try go_wp2_with (first | (go_at_call 20; (with_reducible refine (commodatumref20_Equal.calls k5 _ _ ((rd_T40 l0_3 x5_5).f1) _ _ ((rd_T40 l0_3 x3_2).f1) true _ ?side1 ?side2 ?side3 ?side4 A66.out).mono ?_); (case side1 => repeat (first | exact (Kd.C_below HR138_1.out HB.out) | (with_reducible refine Kd.C_alloc ?_ _) | (with_reducible refine Kd.C_drewN ?_ _) | (with_reducible refine Kd.C_drew ?_))); (case side2 => exact HC138_1.out); (case side3 => repeat (first | exact (Kd.C_below HR132_1.out HB.out) | (with_reducible refine Kd.C_alloc ?_ _) | (with_reducible refine Kd.C_drewN ?_ _) | (with_reducible refine Kd.C_drew ?_))); (case side4 => exact HC132_1.out); rintro e w' ⟨rfl, ⟨nd, rfl⟩⟩; (try first | exact ⟨rfl, _, World.drewN_drewN _ _ _⟩ | exact ⟨rfl, _, Eq.trans (World.drewN_drewN _ _ _) (congrArg (World.drewN _) (Nat.add_assoc _ _ _))⟩))))
                     go_ret
                     exact ⟨by first | rfl | (simp [errW_none, errW_some] <;> rfl) | (simp [*, errW_none, errW_some] <;> rfl), by repeat (first | (with_reducible first | exact HB.out | apply below_alloc | apply pw_below_drewN | apply below_drew1 | refine below_set ?_ GE131.out | refine below_set ?_ GE133.out) | exact HB.out)⟩
                    ·replace c67 := Bool.eq_false_iff.mpr c67
                     subst c67
                     have H1 : (commodatumref20_Valid.l1 k5 x3_2 (wrap64 (x5_5 + 1)) a0_0 a0_1 a0_2 l0_3 ((rd_T40 l0_3 x3_2).f0) ((rd_T40 l0_3 x3_2).f1) ((rd_T40 l0_3 x3_2).f2) ((rd_T40 l0_3 x3_2).f3) ((rd_T40 l0_3 x3_2).f4)) = some r := by rw [if_neg (show ¬ (false = true) by decide)] at H; exact H
                     clear H
                     have H := H1
                     clear H1
                     have H' := Aside0.mk H
                     clear H
                     have hnb71 := NB131_133.out
                     have hnc71 := NB133_131.out
                     have hcz72_0 : wr.cell? ⟨gb131, 0, none⟩ = some (.int .i64 a0_0) := (blk_cell BK131.out 0).trans rfl
                     have hcz72_1 : wr.cell? ⟨gb131, 1, none⟩ = some (.int .i64 a0_1) := (blk_cell BK131.out 1).trans rfl
                     have hcz72_2 : wr.cell? ⟨gb131, 2, none⟩ = some (.int .i64 a0_2) := (blk_cell BK131.out 2).trans rfl
                     have hcz72_3 : wr.cell? ⟨gb131, 3, none⟩ = some (.slice (some ad132) l0_3.length c0_3) := (blk_cell BK131.out 3).trans rfl
                     have hfz72_0 := blk_frozen BK131.out 0
                     have hfz72_1 := blk_frozen BK131.out 1
                     have hfz72_2 := blk_frozen BK131.out 2
                     have hfz72_3 := blk_frozen BK131.out 3
                     have p137 : 0 ≤ (x5_5 : Int) := of_decide_eq_true (by first | (with_reducible assumption) | assumption)
                     have q137 : x5_5 < (l0_3.length : Int) := of_decide_eq_true (by first | (with_reducible assumption) | assumption)
                     obtain ⟨ad137, A137_1, c137_1, A137_3, c137_3, A137_4, c137_4, e137, hx137_0, hx137_1, hx137_2, hx137_3, hx137_4, hl137_1, hi137_1, hl137_3, hi137_3, hl137_4, hi137_4⟩ := at_T40 HR0_3.out x5_5 p137 q137
                     obtain rfl : ad132 = ad137 := (by injection e137)
                     replace hx137_0 := (HB.out.cell (World.block_lt_of_cell? w _ hx137_0)).trans hx137_0
                     replace hx137_1 := (HB.out.cell (World.block_lt_of_cell? w _ hx137_1)).trans hx137_1
                     replace hx137_2 := (HB.out.cell (World.block_lt_of_cell? w _ hx137_2)).trans hx137_2
                     replace hx137_3 := (HB.out.cell (World.block_lt_of_cell? w _ hx137_3)).trans hx137_3
                     replace hx137_4 := (HB.out.cell (World.block_lt_of_cell? w _ hx137_4)).trans hx137_4
                     have HR137_1 := Aside0.mk hi137_1
                     have HC137_1 := Aside0.mk hl137_1
                     clear hi137_1 hl137_1
                     have HR137_3 := Aside0.mk hi137_3
                     have HC137_3 := Aside0.mk hl137_3
                     clear hi137_3 hl137_3
                     have HR137_4 := Aside0.mk hi137_4
                     have HC137_4 := Aside0.mk hl137_4
                     clear hi137_4 hl137_4
                     replace p137 := eq_true p137
                     replace q137 := eq_true q137
                     have hcz73_0 : wr.cell? ⟨gb133, 0, none⟩ = some (.int .i64 ((rd_T40 l0_3 x3_2).f0)) := (blk_cell BK133.out 0).trans rfl
                     have hcz73_1 : wr.cell? ⟨gb133, 1, none⟩ = some (.slice A132_1 ((rd_T40 l0_3 x3_2).f1).length c132_1) := (blk_cell BK133.out 1).trans rfl
                     have hcz73_2 : wr.cell? ⟨gb133, 2, none⟩ = some (.int .i64 ((rd_T40 l0_3 x3_2).f2)) := (blk_cell BK133.out 2).trans rfl
                     have hcz73_3 : wr.cell? ⟨gb133, 3, none⟩ = some (.slice A132_3 ((rd_T40 l0_3 x3_2).f3).length c132_3) := (blk_cell BK133.out 3).trans rfl
                     have hcz73_4 : wr.cell? ⟨gb133, 4, none⟩ = some (.slice A132_4 ((rd_T40 l0_3 x3_2).f4).length c132_4) := (blk_cell BK133.out 4).trans rfl
                     have hfz73_0 := blk_frozen BK133.out 0
                     have hfz73_1 := blk_frozen BK133.out 1
                     have hfz73_2 := blk_frozen BK133.out 2
                     have hfz73_3 := blk_frozen BK133.out 3
                     have hfz73_4 := blk_frozen BK133.out 4
                     have p138 : 0 ≤ (x5_5 : Int) := of_decide_eq_true (by first | (with_reducible assumption) | assumption)
                     have q138 : x5_5 < (l0_3.length : Int) := of_decide_eq_true (by first | (with_reducible assumption) | assumption)
                     obtain ⟨ad138, A138_1, c138_1, A138_3, c138_3, A138_4, c138_4, e138, hx138_0, hx138_1, hx138_2, hx138_3, hx138_4, hl138_1, hi138_1, hl138_3, hi138_3, hl138_4, hi138_4⟩ := at_T40 HR0_3.out x5_5 p138 q138
                     obtain rfl : ad132 = ad138 := (by injection e138)
                     replace hx138_0 := (HB.out.cell (World.block_lt_of_cell? w _ hx138_0)).trans hx138_0
                     replace hx138_1 := (HB.out.cell (World.block_lt_of_cell? w _ hx138_1)).trans hx138_1
                     replace hx138_2 := (HB.out.cell (World.block_lt_of_cell? w _ hx138_2)).trans hx138_2
                     replace hx138_3 := (HB.out.cell (World.block_lt_of_cell? w _ hx138_3)).trans hx138_3
                     replace hx138_4 := (HB.out.cell (World.block_lt_of_cell? w _ hx138_4)).trans hx138_4
                     have HR138_1 := Aside0.mk hi138_1
                     have HC138_1 := Aside0.mk hl138_1
                     clear hi138_1 hl138_1
                     have HR138_3 := Aside0.mk hi138_3
                     have HC138_3 := Aside0.mk hl138_3
                     clear hi138_3 hl138_3
                     have HR138_4 := Aside0.mk hi138_4
                     have HC138_4 := Aside0.mk hl138_4
                     clear hi138_4 hl138_4
                     replace p138 := eq_true p138
                     replace q138 := eq_true q138
                     have ea_ := Option.some.inj (hx137_1.symm.trans hx138_1)
                     injection ea_ with ea_ en_ ec_
                     subst ea_
                     subst ec_
                     clear en_
                     have ea_ := Option.some.inj (hx137_3.symm.trans hx138_3)
                     injection ea_ with ea_ en_ ec_
                     subst ea_
                     subst ec_
                     clear en_
                     have ea_ := Option.some.inj (hx137_4.symm.trans hx138_4)
                     injection ea_ with ea_ en_ ec_
                     subst ea_
                     subst ec_
                     clear en_
                     go_wp2_with (first | (go_at_call 20; (with_reducible refine (commodatumref20_Equal.calls k5 _ _ ((rd_T40 l0_3 x5_5).f1) _ _ ((rd_T40 l0_3 x3_2).f1) false _ ?side1 ?side2 ?side3 ?side4 A66.out).mono ?_); (case side1 => repeat (first | exact (Kd.C_below HR138_1.out HB.out) | (with_reducible refine Kd.C_alloc ?_ _) | (with_reducible refine Kd.C_drewN ?_ _) | (with_reducible refine Kd.C_drew ?_))); (case side2 => exact HC138_1.out); (case side3 => repeat (first | exact (Kd.C_below HR132_1.out HB.out) | (with_reducible refine Kd.C_alloc ?_ _) | (with_reducible refine Kd.C_drewN ?_ _) | (with_reducible refine Kd.C_drew ?_))); (case side4 => exact HC132_1.out); rintro e w' ⟨rfl, ⟨nd, rfl⟩⟩; (try first | exact ⟨rfl, _, World.drewN_drewN _ _ _⟩ | exact ⟨rfl, _, Eq.trans (World.drewN_drewN _ _ _) (congrArg (World.drewN _) (Nat.add_assoc _ _ _))⟩)))
                     repeat (go_quiet (first | (go_at_call 20; (with_reducible refine (commodatumref20_Equal.calls k5 _ _ ((rd_T40 l0_3 x5_5).f1) _ _ ((rd_T40 l0_3 x3_2).f1) false _ ?side1 ?side2 ?side3 ?side4 A66.out).mono ?_); (case side1 => repeat (first | exact (Kd.C_below HR138_1.out HB.out) | (with_reducible refine Kd.C_alloc ?_ _) | (with_reducible refine Kd.C_drewN ?_ _) | (with_reducible refine Kd.C_drew ?_))); (case side2 => exact HC138_1.out); (case side3 => repeat (first | exact (Kd.C_below HR132_1.out HB.out) | (with_reducible refine Kd.C_alloc ?_ _) | (with_reducible refine Kd.C_drewN ?_ _) | (with_reducible refine Kd.C_drew ?_))); (case side4 => exact HC132_1.out); rintro e w' ⟨rfl, ⟨nd, rfl⟩⟩; (try first | exact ⟨rfl, _, World.drewN_drewN _ _ _⟩ | exact ⟨rfl, _, Eq.trans (World.drewN_drewN _ _ _) (congrArg (World.drewN _) (Nat.add_assoc _ _ _))⟩))); try go_wp2_with (first | (go_at_call 20; (with_reducible refine (commodatumref20_Equal.calls k5 _ _ ((rd_T40 l0_3 x5_5).f1) _ _ ((rd_T40 l0_3 x3_2).f1) false _ ?side1 ?side2 ?side3 ?side4 A66.out).mono ?_); (case side1 => repeat (first | exact (Kd.C_below HR138_1.out HB.out) | (with_reducible refine Kd.C_alloc ?_ _) | (with_reducible refine Kd.C_drewN ?_ _) | (with_reducible refine Kd.C_drew ?_))); (case side2 => exact HC138_1.out); (case side3 => repeat (first | exact (Kd.C_below HR132_1.out HB.out) | (with_reducible refine Kd.C_alloc ?_ _) | (with_reducible refine Kd.C_drewN ?_ _) | (with_reducible refine Kd.C_drew ?_))); (case side4 => exact HC132_1.out); rintro e w' ⟨rfl, ⟨nd, rfl⟩⟩; (try first | exact ⟨rfl, _, World.drewN_drewN _ _ _⟩ | exact ⟨rfl, _, Eq.trans (World.drewN_drewN _ _ _) (congrArg (World.drewN _) (Nat.add_assoc _ _ _))⟩))))
                     go_roundg k5
                     case measure => have := HJ1.out; have := HK2.out; have := HJ17.out; have := HJ45.out; have := HK5.out; omega
                     case rel => exact ⟨(wrap64 (x5_5 + 1)), (by first | rfl | (simp; done) | (simp [*]; done)), H', ⟨by have := HJ1.out; have := HK2.out; have := HJ17.out; have := HJ45.out; have := HK5.out; omega⟩, ⟨by (with_reducible repeat (first | refine blk_drewN ?_ _ | refine blk_drew ?_ | refine blk_alloc ?_ _)); exact BK131.out⟩, ⟨by (with_reducible repeat (first | refine blk_drewN ?_ _ | refine blk_drew ?_ | refine blk_alloc ?_ _)); exact BK133.out⟩, ⟨by repeat (first | (with_reducible first | exact HB.out | apply below_alloc | apply pw_below_drewN | apply below_drew1 | refine below_set ?_ GE131.out | refine below_set ?_ GE133.out) | exact HB.out)⟩⟩
                   ·rw [if_neg c65] at H
                    have c65b0 : (((rd_T40 l0_3 x5_5).f0) == ((rd_T40 l0_3 x3_2).f0)) = false := beq_eq_false_iff_ne.mpr c65
                    have c65b1 : (((rd_T40 l0_3 x5_5).f0) != ((rd_T40 l0_3 x3_2).f0)) = true := bne_iff_ne.mpr c65
                    have H' := Aside0.mk H
                    clear H
                    have hnb74 := NB131_133.out
                    have hnc74 := NB133_131.out
                    have hcz75_0 : wr.cell? ⟨gb131, 0, none⟩ = some (.int .i64 a0_0) := (blk_cell BK131.out 0).trans rfl
                    have hcz75_1 : wr.cell? ⟨gb131, 1, none⟩ = some (.int .i64 a0_1) := (blk_cell BK131.out 1).trans rfl
                    have hcz75_2 : wr.cell? ⟨gb131, 2, none⟩ = some (.int .i64 a0_2) := (blk_cell BK131.out 2).trans rfl
                    have hcz75_3 : wr.cell? ⟨gb131, 3, none⟩ = some (.slice (some ad132) l0_3.length c0_3) := (blk_cell BK131.out 3).trans rfl
                    have hfz75_0 := blk_frozen BK131.out 0
                    have hfz75_1 := blk_frozen BK131.out 1
                    have hfz75_2 := blk_frozen BK131.out 2
                    have hfz75_3 := blk_frozen BK131.out 3
                    have p137 : 0 ≤ (x5_5 : Int) := of_decide_eq_true (by first | (with_reducible assumption) | assumption)
                    have q137 : x5_5 < (l0_3.length : Int) := of_decide_eq_true (by first | (with_reducible assumption) | assumption)
                    obtain ⟨ad137, A137_1, c137_1, A137_3, c137_3, A137_4, c137_4, e137, hx137_0, hx137_1, hx137_2, hx137_3, hx137_4, hl137_1, hi137_1, hl137_3, hi137_3, hl137_4, hi137_4⟩ := at_T40 HR0_3.out x5_5 p137 q137
                    obtain rfl : ad132 = ad137 := (by injection e137)
                    replace hx137_0 := (HB.out.cell (World.block_lt_of_cell? w _ hx137_0)).trans hx137_0
                    replace hx137_1 := (HB.out.cell (World.block_lt_of_cell? w _ hx137_1)).trans hx137_1
                    replace hx137_2 := (HB.out.cell (World.block_lt_of_cell? w _ hx137_2)).trans hx137_2
                    replace hx137_3 := (HB.out.cell (World.block_lt_of_cell? w _ hx137_3)).trans hx137_3
                    replace hx137_4 := (HB.out.cell (World.block_lt_of_cell? w _ hx137_4)).trans hx137_4
                    have HR137_1 := Aside0.mk hi137_1
                    have HC137_1 := Aside0.mk hl137_1
                    clear hi137_1 hl137_1
                    have HR137_3 := Aside0.mk hi137_3
                    have HC137_3 := Aside0.mk hl137_3
                    clear hi137_3 hl137_3
                    have HR137_4 := Aside0.mk hi137_4
                    have HC137_4 := Aside0.mk hl137_4
                    clear hi137_4 hl137_4
                    replace p137 := eq_true p137
                    replace q137 := eq_true q137
                    have hcz76_0 : wr.cell? ⟨gb133, 0, none⟩ = some (.int .i64 ((rd_T40 l0_3 x3_2).f0)) := (blk_cell BK133.out 0).trans rfl
                    have hcz76_1 : wr.cell? ⟨gb133, 1, none⟩ = some (.slice A132_1 ((rd_T40 l0_3 x3_2).f1).length c132_1) := (blk_cell BK133.out 1).trans rfl
                    have hcz76_2 : wr.cell? ⟨gb133, 2, none⟩ = some (.int .i64 ((rd_T40 l0_3 x3_2).f2)) := (blk_cell BK133.out 2).trans rfl
                    have hcz76_3 : wr.cell? ⟨gb133, 3, none⟩ = some (.slice A132_3 ((rd_T40 l0_3 x3_2).f3).length c132_3) := (blk_cell BK133.out 3).trans rfl
                    have hcz76_4 : wr.cell? ⟨gb133, 4, none⟩ = some (.slice A132_4 ((rd_T40 l0_3 x3_2).f4).length c132_4) := (blk_cell BK133.out 4).trans rfl
                    have hfz76_0 := blk_frozen BK133.out 0
                    have hfz76_1 := blk_frozen BK133.out 1
                    have hfz76_2 := blk_frozen BK133.out 2
                    have hfz76_3 := blk_frozen BK133.out 3
                    have hfz76_4 := blk_frozen BK133.out 4
                    go_wp2
                    repeat (go_quiet (fail); try go_wp2)
                    go_roundg k5
                    case measure => have := HJ1.out; have := HK2.out; have := HJ17.out; have := HJ45.out; have := HK5.out; omega
                    case rel => exact ⟨(wrap64 (x5_5 + 1)), (by first | rfl | (simp; done) | (simp [*]; done)), H', ⟨by have := HJ1.out; have := HK2.out; have := HJ17.out; have := HJ45.out; have := HK5.out; omega⟩, ⟨by (with_reducible repeat (first | refine blk_drewN ?_ _ | refine blk_drew ?_ | refine blk_alloc ?_ _)); exact BK131.out⟩, ⟨by (with_reducible repeat (first | refine blk_drewN ?_ _ | refine blk_drew ?_ | refine blk_alloc ?_ _)); exact BK133.out⟩, ⟨by repeat (first | (with_reducible first | exact HB.out | apply below_alloc | apply pw_below_drewN | apply below_drew1 | refine below_set ?_ GE131.out | refine below_set ?_ GE133.out) | exact HB.out)⟩⟩
                  ·rw [if_neg c64] at H
                   exact absurd H (by simp)
                 ·rw [if_neg c63] at H
                  exact absurd H (by simp)
                ·rw [if_neg c62] at H
                 have c62b0 : decide (x5_5 < x3_2) = false := decide_eq_false c62
                 clear c62
                 have H' := Aside0.mk H
                 clear H
                 go_wp2
                 repeat (go_quiet (fail); try go_wp2)
                 go_roundg k5
                 case measure => have := HJ1.out; have := HK2.out; have := HJ17.out; have := HJ45.out; have := HK5.out; omega
                 case rel => exact ⟨(wrap64 (x3_2 + 1)), (by first | rfl | (simp; done) | (simp [*]; done)), H', ⟨by have := HJ1.out; have := HK2.out; have := HJ17.out; have := HJ45.out; have := HK5.out; omega⟩, ⟨by (with_reducible repeat (first | refine blk_drewN ?_ _ | refine blk_drew ?_ | refine blk_alloc ?_ _)); exact BK131.out⟩, ⟨by repeat (first | (with_reducible first | exact HB.out | apply below_alloc | apply pw_below_drewN | apply below_drew1 | refine below_set ?_ GE131.out | refine below_set ?_ GE133.out) | exact HB.out)⟩⟩
       ·rw [if_neg c17] at H
        exact absurd H (by simp)
      ·rw [if_neg c16] at H
       have c16b0 : decide (x3_2 < (l0_3.length : Int)) = false := decide_eq_false c16
       clear c16
       obtain rfl := Option.some.inj H
       have hcz77_0 : wr.cell? ⟨gb131, 0, none⟩ = some (.int .i64 a0_0) := (blk_cell BK131.out 0).trans rfl
       have hcz77_1 : wr.cell? ⟨gb131, 1, none⟩ = some (.int .i64 a0_1) := (blk_cell BK131.out 1).trans rfl
       have hcz77_2 : wr.cell? ⟨gb131, 2, none⟩ = some (.int .i64 a0_2) := (blk_cell BK131.out 2).trans rfl
       have hcz77_3 : wr.cell? ⟨gb131, 3, none⟩ = some (.slice A0_3 l0_3.length c0_3) := (blk_cell BK131.out 3).trans rfl
       have hfz77_0 := blk_frozen BK131.out 0
       have hfz77_1 := blk_frozen BK131.out 1
       have hfz77_2 := blk_frozen BK131.out 2
       have hfz77_3 := blk_frozen BK131.out 3
       go_wp2
       repeat (go_quiet (fail); try go_wp2)
       go_ret
       exact ⟨by first | rfl | (simp [errW_none, errW_some] <;> rfl) | (simp [*, errW_none, errW_some] <;> rfl), by repeat (first | (with_reducible first | exact HB.out | apply below_alloc | apply pw_below_drewN | apply below_drew1 | refine below_set ?_ GE131.out) | exact HB.out)⟩

end Go.Proofs.YtfoodfhhdbaieaaDoor.Ka
