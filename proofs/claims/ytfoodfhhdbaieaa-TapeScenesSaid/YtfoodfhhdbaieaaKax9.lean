-- CUT by a program of this session from a text printed by the kit's print
import Derived.Test.YtfoodfhhdbaieaaKax0
import Derived.Test.YtfoodfhhdbaieaaKax1
namespace Go.Proofs.Ytfoodfhhdbaieaa.Ka
open Go.RowKit Go.Proofs.YtfoodfhhdbaieaaW.PrintWords Go.Proofs.YtfoodfhhdbaieaaW.PrintLast Go.Proofs.YtfoodfhhdbaieaaW.PrintMore
attribute [local go_sem] max2_int min2_int max_two min_two max_three min_three max_four min_four   -- for this text's walks alone
set_option linter.unusedVariables false
set_option linter.unusedSimpArgs false

mutual
def commodatumref20_ValidScene.j0 : Nat → Bool → Int → Int → Int → List (S54) → Int → List Int → List (List Int) → Option (Bool)
  | 0, _, _, _, _, _, _, _, _ => none
  | k + 1, x32, x290000, x290001, x290002, x290003, x291000, x291001, x291002 => if x32 = true then (some false) else (commodatumref20_ValidScene.l0 k 0 x290000 x290001 x290002 x290003 x291000 x291001 x291002)
def commodatumref20_ValidScene.l0 : Nat → Int → Int → Int → Int → List (S54) → Int → List Int → List (List Int) → Option (Bool)
  | 0, _, _, _, _, _, _, _, _ => none
  | k + 1, x5, x290000, x290001, x290002, x290003, x291000, x291001, x291002 => if x5 < (x291002.length : Int) then (if 0 ≤ x5 then (if ((rd_L1 x291002 x5).length : Int) > 20001 then (some false) else ((commodatumref20_within.f k (rd_L1 x291002 x5) ((rd_L1 x291002 x5).length : Int) 0 (wrap64 (x290001 - 1))).bind fun t293 => (if t293 = true then (if ((rd_L1 x291002 x5).length : Int) > 0 then (if 0 ≤ (wrap64 (((rd_L1 x291002 x5).length : Int) - 1)) then (if (wrap64 (((rd_L1 x291002 x5).length : Int) - 1)) < ((rd_L1 x291002 x5).length : Int) then (if (rd (rd_L1 x291002 x5) (wrap64 (((rd_L1 x291002 x5).length : Int) - 1))) = 0 then (some false) else (commodatumref20_ValidScene.l0 k (wrap64 (x5 + 1)) x290000 x290001 x290002 x290003 x291000 x291001 x291002)) else (none)) else (none)) else (commodatumref20_ValidScene.l0 k (wrap64 (x5 + 1)) x290000 x290001 x290002 x290003 x291000 x291001 x291002)) else (some false)))) else (none)) else (some true)
end
def commodatumref20_ValidScene.f (k : Nat) (a0_0 : Int) (a0_1 : Int) (a0_2 : Int) (l0_3 : List (S54)) (a1_0 : Int) (l1_1 : List Int) (l1_2 : List (List Int)) : Option (Bool) := if a1_0 < 0 then (commodatumref20_ValidScene.j0 k true a0_0 a0_1 a0_2 l0_3 a1_0 l1_1 l1_2) else (if a1_0 ≥ a0_0 then (commodatumref20_ValidScene.j0 k true a0_0 a0_1 a0_2 l0_3 a1_0 l1_1 l1_2) else ((commodatumref20_within.f k l1_1 a0_2 0 20000).bind fun t291 => (if t291 = true then (commodatumref20_ValidScene.j0 k ((l1_2.length : Int) != a0_2) a0_0 a0_1 a0_2 l0_3 a1_0 l1_1 l1_2) else (commodatumref20_ValidScene.j0 k true a0_0 a0_1 a0_2 l0_3 a1_0 l1_1 l1_2))))
set_option maxHeartbeats 8000000 in
set_option maxRecDepth 100000 in
theorem commodatumref20_ValidScene.calls (k : Nat) (a0_0 : Int) (a0_1 : Int) (a0_2 : Int) (A0_3 : Option Addr) (c0_3 : Nat) (l0_3 : List (S54)) (a1_0 : Int) (A1_1 : Option Addr) (c1_1 : Nat) (l1_1 : List Int) (A1_2 : Option Addr) (c1_2 : Nat) (l1_2 : List (List Int)) (r : Bool) (w : World) (hr0_3 : Kd.C k54 w A0_3 l0_3.length l0_3) (hc0_3 : l0_3.length ≤ c0_3) (hr1_1 : Kd.C (Kd.int .i64) w A1_1 l1_1.length l1_1) (hc1_1 : l1_1.length ≤ c1_1) (hr1_2 : Kd.C (Kd.slice 3 (Kd.int .i64)) w A1_2 l1_2.length l1_2) (hc1_2 : l1_2.length ≤ c1_2) (h : commodatumref20_ValidScene.f k a0_0 a0_1 a0_2 l0_3 a1_0 l1_1 l1_2 = some r) :
    Calls Try.prog 25 #[.agg #[.int .i64 a0_0, .int .i64 a0_1, .int .i64 a0_2, .slice A0_3 l0_3.length c0_3], .agg #[.int .i64 a1_0, .slice A1_1 l1_1.length c1_1, .slice A1_2 l1_2.length c1_2]] w fun e w' => e = .returned (.bool r) ∧ Below w.heap.size w w' := by
  have hu24 := Try.underlying24
  have hu32 := Try.underlying32
  have HR0_3 := Aside0.mk hr0_3
  have HC0_3 := Aside0.mk hc0_3
  clear hr0_3 hc0_3
  have HR1_1 := Aside0.mk hr1_1
  have HC1_1 := Aside0.mk hc1_1
  clear hr1_1 hc1_1
  have HR1_2 := Aside0.mk hr1_2
  have HC1_2 := Aside0.mk hc1_2
  clear hr1_2 hc1_2
  have HB := Aside0.mk (Below.refl w.heap.size w)
  have H : (if a1_0 < 0 then (commodatumref20_ValidScene.j0 k true a0_0 a0_1 a0_2 l0_3 a1_0 l1_1 l1_2) else (if a1_0 ≥ a0_0 then (commodatumref20_ValidScene.j0 k true a0_0 a0_1 a0_2 l0_3 a1_0 l1_1 l1_2) else ((commodatumref20_within.f k l1_1 a0_2 0 20000).bind fun t291 => (if t291 = true then (commodatumref20_ValidScene.j0 k ((l1_2.length : Int) != a0_2) a0_0 a0_1 a0_2 l0_3 a1_0 l1_1 l1_2) else (commodatumref20_ValidScene.j0 k true a0_0 a0_1 a0_2 l0_3 a1_0 l1_1 l1_2))))) = some r := h
  clear h
  have HC3 := Aside0.mk H
  clear H
  go_enter Try.func25, Try.ntmps25
  go_upto_region 1 with (first | ((with_reducible refine gate_dst (N := 2) rfl ?_); (try (refine gate_guard (by rfl) ?_; dsimp only)); refine box_event ?hg (N := 2) ?hd (cs := #[.int .i64 a0_0, .int .i64 a0_1, .int .i64 a0_2, .slice A0_3 l0_3.length c0_3]) (t := 24) ?hr ?_; (case hd => rfl); (case hg => rfl); (case hr => first | (go_simp; done) | (go_simp; rfl)); intro gb289 hg w4 hbox hb; have n0_ := Aside0.mk (below_step (by repeat (first | (with_reducible first | exact HB.out | apply below_alloc | apply pw_below_drewN | apply below_drew1) | exact HB.out)) hb); have n1_ := Aside0.mk (hbox); have n2_ := Aside0.mk ((by rw [hg]; exact (below_size (by repeat (first | (with_reducible first | exact HB.out | apply below_alloc | apply pw_below_drewN | apply below_drew1) | exact HB.out))) : w.heap.size ≤ gb289)); have n3_ := Aside0.mk ((by rw [hg]; exact (below_size (by repeat (first | (with_reducible first | exact HB.out | apply below_alloc | apply pw_below_drewN | apply below_drew1) | exact HB.out))) : w.heap.size ≤ gb289)); clear HB; have HB := n0_; have BK289 := n1_; have GW289 := n2_; have GE289 := n3_; clear n0_ n1_ n2_ n3_; clear hb hbox hg) | ((with_reducible refine gate_dst (N := 3) rfl ?_); (try (refine gate_guard (by rfl) ?_; dsimp only)); refine box_event ?hg (N := 3) ?hd (cs := #[.int .i64 a1_0, .slice A1_1 l1_1.length c1_1, .slice A1_2 l1_2.length c1_2]) (t := 32) ?hr ?_; (case hd => rfl); (case hg => rfl); (case hr => first | (go_simp; done) | (go_simp; rfl)); intro gb290 hg w5 hbox hb; have n0_ := Aside0.mk (blk_below (g := gb289) (o := .cells #[.int .i64 a0_0, .int .i64 a0_1, .int .i64 a0_2, .slice A0_3 l0_3.length c0_3] 24 (0, 0)) (by (with_reducible repeat (first | refine blk_drewN ?_ _ | refine blk_drew ?_ | refine blk_alloc ?_ _)); exact BK289.out) hb); have n1_ := Aside0.mk (below_step (by repeat (first | (with_reducible first | exact HB.out | apply below_alloc | apply pw_below_drewN | apply below_drew1 | refine below_set ?_ GE289.out) | exact HB.out)) hb); have n2_ := Aside0.mk (hbox); have n3_ := Aside0.mk ((by rw [hg]; exact (below_size (by repeat (first | (with_reducible first | exact HB.out | apply below_alloc | apply pw_below_drewN | apply below_drew1 | refine below_set ?_ GE289.out) | exact HB.out))) : w.heap.size ≤ gb290)); have n4_ := Aside0.mk ((by rw [hg]; exact (below_size (by repeat (first | (with_reducible first | exact HB.out | apply below_alloc | apply pw_below_drewN | apply below_drew1 | refine below_set ?_ GE289.out) | exact HB.out))) : w.heap.size ≤ gb290)); have n5_ := Aside0.mk ((by rw [hg]; exact Nat.ne_of_lt (blk_lt (g := gb289) (o := .cells #[.int .i64 a0_0, .int .i64 a0_1, .int .i64 a0_2, .slice A0_3 l0_3.length c0_3] 24 (0, 0)) (by (with_reducible repeat (first | refine blk_drewN ?_ _ | refine blk_drew ?_ | refine blk_alloc ?_ _)); exact BK289.out)) : gb289 ≠ gb290)); have n6_ := Aside0.mk ((by rw [hg]; exact Nat.ne_of_gt (blk_lt (g := gb289) (o := .cells #[.int .i64 a0_0, .int .i64 a0_1, .int .i64 a0_2, .slice A0_3 l0_3.length c0_3] 24 (0, 0)) (by (with_reducible repeat (first | refine blk_drewN ?_ _ | refine blk_drew ?_ | refine blk_alloc ?_ _)); exact BK289.out)) : gb290 ≠ gb289)); clear BK289; clear HB; have BK289 := n0_; have HB := n1_; have BK290 := n2_; have GW290 := n3_; have GE290 := n4_; have NB289_290 := n5_; have NB290_289 := n6_; clear n0_ n1_ n2_ n3_ n4_ n5_ n6_; clear hb hbox hg))
  (try simp only [Act.put, List.setIfInBounds_toArray, List.set_cons_zero, List.set_cons_succ])
  go_cut [32] (fun v32 wc => ∃ (kq : Nat) (x32_2 : Bool), v32 = .bool x32_2 ∧ Aside0 (commodatumref20_ValidScene.j0 kq x32_2 a0_0 a0_1 a0_2 l0_3 a1_0 l1_1 l1_2 = some r) ∧ Aside0 (kq ≤ k) ∧ Aside0 (wc.heap[gb289]? = some (.cells #[.int .i64 a0_0, .int .i64 a0_1, .int .i64 a0_2, (.slice A0_3 l0_3.length c0_3)] 24 (0, 0))) ∧ Aside0 (wc.heap[gb290]? = some (.cells #[.int .i64 a1_0, (.slice A1_1 l1_1.length c1_1), (.slice A1_2 l1_2.length c1_2)] 32 (0, 0))) ∧ Aside0 (Below w.heap.size w wc))
  case first =>
    have H := HC3.out
    clear HC3
    by_cases c6 : a1_0 < 0
    · rw [if_pos c6] at H
      have c6b0 : decide (a1_0 < 0) = true := decide_eq_true c6
      clear c6
      (first | rw [c6b0] | (simp only [i64_w, i32_w]; rw [c6b0]) | skip)
      have H' := Aside0.mk H
      clear H
      have hnb7 := NB290_289.out
      have hnc7 := NB289_290.out
      have hcz8_0 : w5.cell? ⟨gb290, 0, none⟩ = some (.int .i64 a1_0) := (blk_cell BK290.out 0).trans rfl
      have hcz8_1 : w5.cell? ⟨gb290, 1, none⟩ = some (.slice A1_1 l1_1.length c1_1) := (blk_cell BK290.out 1).trans rfl
      have hcz8_2 : w5.cell? ⟨gb290, 2, none⟩ = some (.slice A1_2 l1_2.length c1_2) := (blk_cell BK290.out 2).trans rfl
      have hfz8_0 := blk_frozen BK290.out 0
      have hfz8_1 := blk_frozen BK290.out 1
      have hfz8_2 := blk_frozen BK290.out 2
      go_wp2
      go_meet
      case rel => exact ⟨_, (true), (by first | rfl | (simp; done) | (simp [*]; done)), H', ⟨by first | omega | exact Nat.le_refl _⟩, ⟨by (with_reducible repeat (first | refine blk_drewN ?_ _ | refine blk_drew ?_ | refine blk_alloc ?_ _)); exact BK289.out⟩, ⟨by (with_reducible repeat (first | refine blk_drewN ?_ _ | refine blk_drew ?_ | refine blk_alloc ?_ _)); exact BK290.out⟩, ⟨by repeat (first | (with_reducible first | exact HB.out | apply below_alloc | apply pw_below_drewN | apply below_drew1 | refine below_set ?_ GE289.out | refine below_set ?_ GE290.out) | exact HB.out)⟩⟩
    · rw [if_neg c6] at H
      have c6b0 : decide (a1_0 < 0) = false := decide_eq_false c6
      clear c6
      (first | rw [c6b0] | (simp only [i64_w, i32_w]; rw [c6b0]) | skip)
      by_cases c9 : a1_0 ≥ a0_0
      · rw [if_pos c9] at H
        have c9b0 : decide (a0_0 ≤ a1_0) = true := decide_eq_true c9
        clear c9
        have H' := Aside0.mk H
        clear H
        have hnb10 := NB290_289.out
        have hnc10 := NB289_290.out
        have hcz11_0 : w5.cell? ⟨gb290, 0, none⟩ = some (.int .i64 a1_0) := (blk_cell BK290.out 0).trans rfl
        have hcz11_1 : w5.cell? ⟨gb290, 1, none⟩ = some (.slice A1_1 l1_1.length c1_1) := (blk_cell BK290.out 1).trans rfl
        have hcz11_2 : w5.cell? ⟨gb290, 2, none⟩ = some (.slice A1_2 l1_2.length c1_2) := (blk_cell BK290.out 2).trans rfl
        have hfz11_0 := blk_frozen BK290.out 0
        have hfz11_1 := blk_frozen BK290.out 1
        have hfz11_2 := blk_frozen BK290.out 2
        have hcz12_0 : w5.cell? ⟨gb289, 0, none⟩ = some (.int .i64 a0_0) := (blk_cell BK289.out 0).trans rfl
        have hcz12_1 : w5.cell? ⟨gb289, 1, none⟩ = some (.int .i64 a0_1) := (blk_cell BK289.out 1).trans rfl
        have hcz12_2 : w5.cell? ⟨gb289, 2, none⟩ = some (.int .i64 a0_2) := (blk_cell BK289.out 2).trans rfl
        have hcz12_3 : w5.cell? ⟨gb289, 3, none⟩ = some (.slice A0_3 l0_3.length c0_3) := (blk_cell BK289.out 3).trans rfl
        have hfz12_0 := blk_frozen BK289.out 0
        have hfz12_1 := blk_frozen BK289.out 1
        have hfz12_2 := blk_frozen BK289.out 2
        have hfz12_3 := blk_frozen BK289.out 3
        go_wp2
        go_meet
        case rel => exact ⟨_, (true), (by first | rfl | (simp; done) | (simp [*]; done)), H', ⟨by first | omega | exact Nat.le_refl _⟩, ⟨by (with_reducible repeat (first | refine blk_drewN ?_ _ | refine blk_drew ?_ | refine blk_alloc ?_ _)); exact BK289.out⟩, ⟨by (with_reducible repeat (first | refine blk_drewN ?_ _ | refine blk_drew ?_ | refine blk_alloc ?_ _)); exact BK290.out⟩, ⟨by repeat (first | (with_reducible first | exact HB.out | apply below_alloc | apply pw_below_drewN | apply below_drew1 | refine below_set ?_ GE289.out | refine below_set ?_ GE290.out) | exact HB.out)⟩⟩
      · rw [if_neg c9] at H
        have c9b0 : decide (a0_0 ≤ a1_0) = false := decide_eq_false c9
        clear c9
        replace H := Option.bind_eq_some_iff.mp H
        obtain ⟨t291, A130, H⟩ := H
        replace H : (if t291 = true then (commodatumref20_ValidScene.j0 k ((l1_2.length : Int) != a0_2) a0_0 a0_1 a0_2 l0_3 a1_0 l1_1 l1_2) else (commodatumref20_ValidScene.j0 k true a0_0 a0_1 a0_2 l0_3 a1_0 l1_1 l1_2)) = some r := H
        have A13 := Aside0.mk A130
        clear A130
        by_cases c14 : t291 = true
        · subst c14
          have H1 : (commodatumref20_ValidScene.j0 k ((l1_2.length : Int) != a0_2) a0_0 a0_1 a0_2 l0_3 a1_0 l1_1 l1_2) = some r := by rw [if_pos rfl] at H; exact H
          clear H
          have H := H1
          clear H1
          have H' := Aside0.mk H
          clear H
          have hnb15 := NB290_289.out
          have hnc15 := NB289_290.out
          have hcz16_0 : w5.cell? ⟨gb290, 0, none⟩ = some (.int .i64 a1_0) := (blk_cell BK290.out 0).trans rfl
          have hcz16_1 : w5.cell? ⟨gb290, 1, none⟩ = some (.slice A1_1 l1_1.length c1_1) := (blk_cell BK290.out 1).trans rfl
          have hcz16_2 : w5.cell? ⟨gb290, 2, none⟩ = some (.slice A1_2 l1_2.length c1_2) := (blk_cell BK290.out 2).trans rfl
          have hfz16_0 := blk_frozen BK290.out 0
          have hfz16_1 := blk_frozen BK290.out 1
          have hfz16_2 := blk_frozen BK290.out 2
          have hcz17_0 : w5.cell? ⟨gb289, 0, none⟩ = some (.int .i64 a0_0) := (blk_cell BK289.out 0).trans rfl
          have hcz17_1 : w5.cell? ⟨gb289, 1, none⟩ = some (.int .i64 a0_1) := (blk_cell BK289.out 1).trans rfl
          have hcz17_2 : w5.cell? ⟨gb289, 2, none⟩ = some (.int .i64 a0_2) := (blk_cell BK289.out 2).trans rfl
          have hcz17_3 : w5.cell? ⟨gb289, 3, none⟩ = some (.slice A0_3 l0_3.length c0_3) := (blk_cell BK289.out 3).trans rfl
          have hfz17_0 := blk_frozen BK289.out 0
          have hfz17_1 := blk_frozen BK289.out 1
          have hfz17_2 := blk_frozen BK289.out 2
          have hfz17_3 := blk_frozen BK289.out 3
          go_wp2_with (first | (go_at_call 32; (with_reducible refine (commodatumref20_within.calls k _ _ l1_1 a0_2 0 20000 true _ ?side1 ?side2 A13.out).mono ?_); (case side1 => repeat (first | exact (Kd.C_below HR1_1.out HB.out) | (with_reducible refine Kd.C_alloc ?_ _) | (with_reducible refine Kd.C_drewN ?_ _) | (with_reducible refine Kd.C_drew ?_))); (case side2 => exact HC1_1.out); rintro e w' ⟨rfl, ⟨nd, rfl⟩⟩))
          go_meet
          case rel => exact ⟨_, (((l1_2.length : Int) != a0_2)), (by first | rfl | (simp; done) | (simp [*]; done)), H', ⟨by first | omega | exact Nat.le_refl _⟩, ⟨by (with_reducible repeat (first | refine blk_drewN ?_ _ | refine blk_drew ?_ | refine blk_alloc ?_ _)); exact BK289.out⟩, ⟨by (with_reducible repeat (first | refine blk_drewN ?_ _ | refine blk_drew ?_ | refine blk_alloc ?_ _)); exact BK290.out⟩, ⟨by repeat (first | (with_reducible first | exact HB.out | apply below_alloc | apply pw_below_drewN | apply below_drew1 | refine below_set ?_ GE289.out | refine below_set ?_ GE290.out) | exact HB.out)⟩⟩
        · replace c14 := Bool.eq_false_iff.mpr c14
          subst c14
          have H1 : (commodatumref20_ValidScene.j0 k true a0_0 a0_1 a0_2 l0_3 a1_0 l1_1 l1_2) = some r := by rw [if_neg (show ¬ (false = true) by decide)] at H; exact H
          clear H
          have H := H1
          clear H1
          have H' := Aside0.mk H
          clear H
          have hnb18 := NB290_289.out
          have hnc18 := NB289_290.out
          have hcz19_0 : w5.cell? ⟨gb290, 0, none⟩ = some (.int .i64 a1_0) := (blk_cell BK290.out 0).trans rfl
          have hcz19_1 : w5.cell? ⟨gb290, 1, none⟩ = some (.slice A1_1 l1_1.length c1_1) := (blk_cell BK290.out 1).trans rfl
          have hcz19_2 : w5.cell? ⟨gb290, 2, none⟩ = some (.slice A1_2 l1_2.length c1_2) := (blk_cell BK290.out 2).trans rfl
          have hfz19_0 := blk_frozen BK290.out 0
          have hfz19_1 := blk_frozen BK290.out 1
          have hfz19_2 := blk_frozen BK290.out 2
          have hcz20_0 : w5.cell? ⟨gb289, 0, none⟩ = some (.int .i64 a0_0) := (blk_cell BK289.out 0).trans rfl
          have hcz20_1 : w5.cell? ⟨gb289, 1, none⟩ = some (.int .i64 a0_1) := (blk_cell BK289.out 1).trans rfl
          have hcz20_2 : w5.cell? ⟨gb289, 2, none⟩ = some (.int .i64 a0_2) := (blk_cell BK289.out 2).trans rfl
          have hcz20_3 : w5.cell? ⟨gb289, 3, none⟩ = some (.slice A0_3 l0_3.length c0_3) := (blk_cell BK289.out 3).trans rfl
          have hfz20_0 := blk_frozen BK289.out 0
          have hfz20_1 := blk_frozen BK289.out 1
          have hfz20_2 := blk_frozen BK289.out 2
          have hfz20_3 := blk_frozen BK289.out 3
          go_wp2_with (first | (go_at_call 32; (with_reducible refine (commodatumref20_within.calls k _ _ l1_1 a0_2 0 20000 false _ ?side1 ?side2 A13.out).mono ?_); (case side1 => repeat (first | exact (Kd.C_below HR1_1.out HB.out) | (with_reducible refine Kd.C_alloc ?_ _) | (with_reducible refine Kd.C_drewN ?_ _) | (with_reducible refine Kd.C_drew ?_))); (case side2 => exact HC1_1.out); rintro e w' ⟨rfl, ⟨nd, rfl⟩⟩))
          go_meet
          case rel => exact ⟨_, (true), (by first | rfl | (simp; done) | (simp [*]; done)), H', ⟨by first | omega | exact Nat.le_refl _⟩, ⟨by (with_reducible repeat (first | refine blk_drewN ?_ _ | refine blk_drew ?_ | refine blk_alloc ?_ _)); exact BK289.out⟩, ⟨by (with_reducible repeat (first | refine blk_drewN ?_ _ | refine blk_drew ?_ | refine blk_alloc ?_ _)); exact BK290.out⟩, ⟨by repeat (first | (with_reducible first | exact HB.out | apply below_alloc | apply pw_below_drewN | apply below_drew1 | refine below_set ?_ GE289.out | refine below_set ?_ GE290.out) | exact HB.out)⟩⟩
  case rest =>
    clear HC3
    try clear c1
    try clear c2
    try clear p2
    try clear c6
    try clear c6b0
    try clear c7
    try clear c9
    try clear c9b0
    try clear c10
    try clear c14
    try clear c15
    try clear c18
    try clear hcz11_0
    try clear hcz11_1
    try clear hcz11_2
    try clear hcz12_0
    try clear hcz12_1
    try clear hcz12_2
    try clear hcz12_3
    try clear hcz16_0
    try clear hcz16_1
    try clear hcz16_2
    try clear hcz17_0
    try clear hcz17_1
    try clear hcz17_2
    try clear hcz17_3
    try clear hcz19_0
    try clear hcz19_1
    try clear hcz19_2
    try clear hcz20_0
    try clear hcz20_1
    try clear hcz20_2
    try clear hcz20_3
    try clear hcz8_0
    try clear hcz8_1
    try clear hcz8_2
    try clear hfz11_0
    try clear hfz11_1
    try clear hfz11_2
    try clear hfz12_0
    try clear hfz12_1
    try clear hfz12_2
    try clear hfz12_3
    try clear hfz16_0
    try clear hfz16_1
    try clear hfz16_2
    try clear hfz17_0
    try clear hfz17_1
    try clear hfz17_2
    try clear hfz17_3
    try clear hfz19_0
    try clear hfz19_1
    try clear hfz19_2
    try clear hfz20_0
    try clear hfz20_1
    try clear hfz20_2
    try clear hfz20_3
    try clear hfz8_0
    try clear hfz8_1
    try clear hfz8_2
    obtain ⟨kq, x32_2, rfl, HA, HJ2, BK289, BK290, HB⟩ := hcut
    cases kq with
    | zero => exact absurd HA.out (by simp [commodatumref20_ValidScene.j0])
    | succ kj2 =>
      have H := HA.out
      clear HA
      simp only [commodatumref20_ValidScene.j0] at H
      by_cases c21 : x32_2 = true
      · subst c21
        have H1 : (some false) = some r := by rw [if_pos rfl] at H; exact H
        clear H
        have H := H1
        clear H1
        obtain rfl := Option.some.inj H
        go_wp2
        go_ret
        exact ⟨by first | rfl | (simp [errW_none, errW_some] <;> rfl) | (simp [*, errW_none, errW_some] <;> rfl), by repeat (first | (with_reducible first | exact HB.out | apply below_alloc | apply pw_below_drewN | apply below_drew1 | refine below_set ?_ GE289.out | refine below_set ?_ GE290.out) | exact HB.out)⟩
      · replace c21 := Bool.eq_false_iff.mpr c21
        subst c21
        have H1 : (commodatumref20_ValidScene.l0 kj2 0 a0_0 a0_1 a0_2 l0_3 a1_0 l1_1 l1_2) = some r := by rw [if_neg (show ¬ (false = true) by decide)] at H; exact H
        clear H
        have H := H1
        clear H1
        have H' := Aside0.mk H
        clear H
        go_wp2
        go_loopg [5] kj2 (fun kq v5 w' => ∃ (x5_2 : Int), v5 = .int .i64 x5_2 ∧ Aside0 (commodatumref20_ValidScene.l0 kq x5_2 a0_0 a0_1 a0_2 l0_3 a1_0 l1_1 l1_2 = some r) ∧ Aside0 (kq ≤ kj2) ∧ Aside0 (w'.heap[gb289]? = some (.cells #[.int .i64 a0_0, .int .i64 a0_1, .int .i64 a0_2, (.slice A0_3 l0_3.length c0_3)] 24 (0, 0))) ∧ Aside0 (w'.heap[gb290]? = some (.cells #[.int .i64 a1_0, (.slice A1_1 l1_1.length c1_1), (.slice A1_2 l1_2.length c1_2)] 32 (0, 0))) ∧ Aside0 (Below w.heap.size w w'))
        case atStart => exact ⟨(0), (by first | rfl | (simp; done) | (simp [*]; done)), H', ⟨Nat.le_refl _⟩, ⟨by (with_reducible repeat (first | refine blk_drewN ?_ _ | refine blk_drew ?_ | refine blk_alloc ?_ _)); exact BK289.out⟩, ⟨by (with_reducible repeat (first | refine blk_drewN ?_ _ | refine blk_drew ?_ | refine blk_alloc ?_ _)); exact BK290.out⟩, ⟨by repeat (first | (with_reducible first | exact HB.out | apply below_alloc | apply pw_below_drewN | apply below_drew1 | refine below_set ?_ GE289.out | refine below_set ?_ GE290.out) | exact HB.out)⟩⟩
        case round =>
          clear H'
          try clear c1
          try clear c2
          try clear p2
          try clear c6
          try clear c6b0
          try clear c7
          try clear c9
          try clear c9b0
          try clear c10
          try clear c14
          try clear c15
          try clear c18
          try clear c21
          try clear hcz11_0
          try clear hcz11_1
          try clear hcz11_2
          try clear hcz12_0
          try clear hcz12_1
          try clear hcz12_2
          try clear hcz12_3
          try clear hcz16_0
          try clear hcz16_1
          try clear hcz16_2
          try clear hcz17_0
          try clear hcz17_1
          try clear hcz17_2
          try clear hcz17_3
          try clear hcz19_0
          try clear hcz19_1
          try clear hcz19_2
          try clear hcz20_0
          try clear hcz20_1
          try clear hcz20_2
          try clear hcz20_3
          try clear hcz8_0
          try clear hcz8_1
          try clear hcz8_2
          try clear hfz11_0
          try clear hfz11_1
          try clear hfz11_2
          try clear hfz12_0
          try clear hfz12_1
          try clear hfz12_2
          try clear hfz12_3
          try clear hfz16_0
          try clear hfz16_1
          try clear hfz16_2
          try clear hfz17_0
          try clear hfz17_1
          try clear hfz17_2
          try clear hfz17_3
          try clear hfz19_0
          try clear hfz19_1
          try clear hfz19_2
          try clear hfz20_0
          try clear hfz20_1
          try clear hfz20_2
          try clear hfz20_3
          try clear hfz8_0
          try clear hfz8_1
          try clear hfz8_2
          try clear p2
          obtain ⟨x5_2, rfl, HA, HK2, BK289, BK290, HB⟩ := hrel
          cases gk with
          | zero => exact absurd HA.out (by simp [commodatumref20_ValidScene.l0])
          | succ k2 =>
            have H := HA.out
            clear HA
            simp only [commodatumref20_ValidScene.l0] at H
            by_cases c22 : x5_2 < (l1_2.length : Int)
            · rw [if_pos c22] at H
              have c22b0 : decide (x5_2 < (l1_2.length : Int)) = true := decide_eq_true c22
              clear c22
              by_cases c23 : 0 ≤ x5_2
              · rw [if_pos c23] at H
                have c23b0 : decide (0 ≤ x5_2) = true := decide_eq_true c23
                clear c23
                by_cases c24 : ((rd_L1 l1_2 x5_2).length : Int) > 20001
                · rw [if_pos c24] at H
                  have c24b0 : decide (20001 < ((rd_L1 l1_2 x5_2).length : Int)) = true := decide_eq_true c24
                  have c24b1 : decide (20001 < (rd_L1 l1_2 x5_2).length) = true := decide_eq_true (by omega)
                  clear c24
                  obtain rfl := Option.some.inj H
                  have hnb25 := NB290_289.out
                  have hnc25 := NB289_290.out
                  have hcz26_0 : wr.cell? ⟨gb290, 0, none⟩ = some (.int .i64 a1_0) := (blk_cell BK290.out 0).trans rfl
                  have hcz26_1 : wr.cell? ⟨gb290, 1, none⟩ = some (.slice A1_1 l1_1.length c1_1) := (blk_cell BK290.out 1).trans rfl
                  have hcz26_2 : wr.cell? ⟨gb290, 2, none⟩ = some (.slice A1_2 l1_2.length c1_2) := (blk_cell BK290.out 2).trans rfl
                  have hfz26_0 := blk_frozen BK290.out 0
                  have hfz26_1 := blk_frozen BK290.out 1
                  have hfz26_2 := blk_frozen BK290.out 2
                  have p292 : 0 ≤ (x5_2 : Int) := of_decide_eq_true (by first | (with_reducible assumption) | assumption)
                  have q292 : x5_2 < (l1_2.length : Int) := of_decide_eq_true (by first | (with_reducible assumption) | assumption)
                  obtain ⟨ad292, A292_0, c292_0, e292, hx292_0, hl292_0, hi292_0⟩ := at_L1 HR1_2.out x5_2 p292 q292
                  cases e292
                  replace hx292_0 := (HB.out.cell (World.block_lt_of_cell? w _ hx292_0)).trans hx292_0
                  have HR292_0 := Aside0.mk hi292_0
                  have HC292_0 := Aside0.mk hl292_0
                  clear hi292_0 hl292_0
                  replace p292 := eq_true p292
                  replace q292 := eq_true q292
                  go_wp2
                  go_ret
                  exact ⟨by first | rfl | (simp [errW_none, errW_some] <;> rfl) | (simp [*, errW_none, errW_some] <;> rfl), by repeat (first | (with_reducible first | exact HB.out | apply below_alloc | apply pw_below_drewN | apply below_drew1 | refine below_set ?_ GE289.out | refine below_set ?_ GE290.out) | exact HB.out)⟩
                · rw [if_neg c24] at H
                  have c24b0 : decide (20001 < ((rd_L1 l1_2 x5_2).length : Int)) = false := decide_eq_false c24
                  have c24b1 : decide (20001 < (rd_L1 l1_2 x5_2).length) = false := decide_eq_false (by omega)
                  clear c24
                  replace H := Option.bind_eq_some_iff.mp H
                  obtain ⟨t293, A270, H⟩ := H
                  replace H : (if t293 = true then (if ((rd_L1 l1_2 x5_2).length : Int) > 0 then (if 0 ≤ (wrap64 (((rd_L1 l1_2 x5_2).length : Int) - 1)) then (if (wrap64 (((rd_L1 l1_2 x5_2).length : Int) - 1)) < ((rd_L1 l1_2 x5_2).length : Int) then (if (rd (rd_L1 l1_2 x5_2) (wrap64 (((rd_L1 l1_2 x5_2).length : Int) - 1))) = 0 then (some false) else (commodatumref20_ValidScene.l0 k2 (wrap64 (x5_2 + 1)) a0_0 a0_1 a0_2 l0_3 a1_0 l1_1 l1_2)) else (none)) else (none)) else (commodatumref20_ValidScene.l0 k2 (wrap64 (x5_2 + 1)) a0_0 a0_1 a0_2 l0_3 a1_0 l1_1 l1_2)) else (some false)) = some r := H
                  have A27 := Aside0.mk A270
                  clear A270
                  by_cases c28 : t293 = true
                  · subst c28
                    have H1 : (if ((rd_L1 l1_2 x5_2).length : Int) > 0 then (if 0 ≤ (wrap64 (((rd_L1 l1_2 x5_2).length : Int) - 1)) then (if (wrap64 (((rd_L1 l1_2 x5_2).length : Int) - 1)) < ((rd_L1 l1_2 x5_2).length : Int) then (if (rd (rd_L1 l1_2 x5_2) (wrap64 (((rd_L1 l1_2 x5_2).length : Int) - 1))) = 0 then (some false) else (commodatumref20_ValidScene.l0 k2 (wrap64 (x5_2 + 1)) a0_0 a0_1 a0_2 l0_3 a1_0 l1_1 l1_2)) else (none)) else (none)) else (commodatumref20_ValidScene.l0 k2 (wrap64 (x5_2 + 1)) a0_0 a0_1 a0_2 l0_3 a1_0 l1_1 l1_2)) = some r := by rw [if_pos rfl] at H; exact H
                    clear H
                    have H := H1
                    clear H1
                    by_cases c29 : ((rd_L1 l1_2 x5_2).length : Int) > 0
                    · rw [if_pos c29] at H
                      have c29b0 : decide (0 < ((rd_L1 l1_2 x5_2).length : Int)) = true := decide_eq_true c29
                      have c29b1 : decide (0 < (rd_L1 l1_2 x5_2).length) = true := decide_eq_true (by omega)
                      clear c29
                      obtain ⟨ji30, hji30⟩ : ∃ j_ : Int, (wrap64 (((rd_L1 l1_2 x5_2).length : Int) - 1)) = j_ := ⟨_, rfl⟩
                      replace H : (if 0 ≤ (ji30) then (if (ji30) < ((rd_L1 l1_2 x5_2).length : Int) then (if (rd (rd_L1 l1_2 x5_2) (ji30)) = 0 then (some false) else (commodatumref20_ValidScene.l0 k2 (wrap64 (x5_2 + 1)) a0_0 a0_1 a0_2 l0_3 a1_0 l1_1 l1_2)) else (none)) else (none)) = some r := by first | (rw [hji30] at H; exact H) | (simp only [hji30] at H ⊢; exact H)
                      (try rw [hji30] at A27)
                      have hji30w : (IntKind.i64.wrap (((rd_L1 l1_2 x5_2).length : Int) - 1)) = ji30 := (i64_w _).trans hji30
                      by_cases c31 : 0 ≤ (ji30)
                      · rw [if_pos c31] at H
                        have c31b0 : decide (0 ≤ (ji30)) = true := decide_eq_true c31
                        clear c31
                        by_cases c32 : (ji30) < ((rd_L1 l1_2 x5_2).length : Int)
                        · rw [if_pos c32] at H
                          have c32b0 : decide ((ji30) < ((rd_L1 l1_2 x5_2).length : Int)) = true := decide_eq_true c32
                          clear c32
                          by_cases c33 : (rd (rd_L1 l1_2 x5_2) (ji30)) = 0
                          · rw [if_pos c33] at H
                            have c33b0 : ((rd (rd_L1 l1_2 x5_2) (ji30)) == 0) = true := beq_iff_eq.mpr c33
                            have c33b1 : ((rd (rd_L1 l1_2 x5_2) (ji30)) != 0) = false := bne_eq_false_iff_eq.mpr c33
                            clear c33
                            obtain rfl := Option.some.inj H
                            have hnb34 := NB290_289.out
                            have hnc34 := NB289_290.out
                            have hcz35_0 : wr.cell? ⟨gb290, 0, none⟩ = some (.int .i64 a1_0) := (blk_cell BK290.out 0).trans rfl
                            have hcz35_1 : wr.cell? ⟨gb290, 1, none⟩ = some (.slice A1_1 l1_1.length c1_1) := (blk_cell BK290.out 1).trans rfl
                            have hcz35_2 : wr.cell? ⟨gb290, 2, none⟩ = some (.slice A1_2 l1_2.length c1_2) := (blk_cell BK290.out 2).trans rfl
                            have hfz35_0 := blk_frozen BK290.out 0
                            have hfz35_1 := blk_frozen BK290.out 1
                            have hfz35_2 := blk_frozen BK290.out 2
                            have p292 : 0 ≤ (x5_2 : Int) := of_decide_eq_true (by first | (with_reducible assumption) | assumption)
                            have q292 : x5_2 < (l1_2.length : Int) := of_decide_eq_true (by first | (with_reducible assumption) | assumption)
                            obtain ⟨ad292, A292_0, c292_0, e292, hx292_0, hl292_0, hi292_0⟩ := at_L1 HR1_2.out x5_2 p292 q292
                            cases e292
                            replace hx292_0 := (HB.out.cell (World.block_lt_of_cell? w _ hx292_0)).trans hx292_0
                            have HR292_0 := Aside0.mk hi292_0
                            have HC292_0 := Aside0.mk hl292_0
                            clear hi292_0 hl292_0
                            replace p292 := eq_true p292
                            replace q292 := eq_true q292
                            have hcz36_0 : wr.cell? ⟨gb289, 0, none⟩ = some (.int .i64 a0_0) := (blk_cell BK289.out 0).trans rfl
                            have hcz36_1 : wr.cell? ⟨gb289, 1, none⟩ = some (.int .i64 a0_1) := (blk_cell BK289.out 1).trans rfl
                            have hcz36_2 : wr.cell? ⟨gb289, 2, none⟩ = some (.int .i64 a0_2) := (blk_cell BK289.out 2).trans rfl
                            have hcz36_3 : wr.cell? ⟨gb289, 3, none⟩ = some (.slice A0_3 l0_3.length c0_3) := (blk_cell BK289.out 3).trans rfl
                            have hfz36_0 := blk_frozen BK289.out 0
                            have hfz36_1 := blk_frozen BK289.out 1
                            have hfz36_2 := blk_frozen BK289.out 2
                            have hfz36_3 := blk_frozen BK289.out 3
                            go_wp2_with (first | (go_at_call 32; (with_reducible refine (commodatumref20_within.calls k2 _ _ (rd_L1 l1_2 x5_2) ((rd_L1 l1_2 x5_2).length : Int) 0 (wrap64 (a0_1 - 1)) true _ ?side1 ?side2 A27.out).mono ?_); (case side1 => repeat (first | exact (Kd.C_below HR292_0.out HB.out) | (with_reducible refine Kd.C_alloc ?_ _) | (with_reducible refine Kd.C_drewN ?_ _) | (with_reducible refine Kd.C_drew ?_))); (case side2 => exact HC292_0.out); rintro e w' ⟨rfl, ⟨nd, rfl⟩⟩; have p294 : 0 ≤ ((ji30) : Int) := of_decide_eq_true (by first | (with_reducible assumption) | assumption); have q294 : (ji30) < ((rd_L1 l1_2 x5_2).length : Int) := of_decide_eq_true (by first | (with_reducible assumption) | assumption); obtain ⟨ad294, e294, hx294_0⟩ := Kd.at_int HR292_0.out (ji30) p294 q294; cases e294; replace hx294_0 := (HB.out.cell (World.block_lt_of_cell? w _ hx294_0)).trans hx294_0; replace p294 := eq_true p294; replace q294 := eq_true q294))
                            go_ret
                            exact ⟨by first | rfl | (simp [errW_none, errW_some] <;> rfl) | (simp only [← hji30]; first | rfl | (simp [errW_none, errW_some] <;> rfl)) | (simp [*, errW_none, errW_some] <;> rfl), by repeat (first | (with_reducible first | exact HB.out | apply below_alloc | apply pw_below_drewN | apply below_drew1 | refine below_set ?_ GE289.out | refine below_set ?_ GE290.out) | exact HB.out)⟩
                          · rw [if_neg c33] at H
                            have c33b0 : ((rd (rd_L1 l1_2 x5_2) (ji30)) == 0) = false := beq_eq_false_iff_ne.mpr c33
                            have c33b1 : ((rd (rd_L1 l1_2 x5_2) (ji30)) != 0) = true := bne_iff_ne.mpr c33
                            have H' := Aside0.mk H
                            clear H
                            have hnb37 := NB290_289.out
                            have hnc37 := NB289_290.out
                            have hcz38_0 : wr.cell? ⟨gb290, 0, none⟩ = some (.int .i64 a1_0) := (blk_cell BK290.out 0).trans rfl
                            have hcz38_1 : wr.cell? ⟨gb290, 1, none⟩ = some (.slice A1_1 l1_1.length c1_1) := (blk_cell BK290.out 1).trans rfl
                            have hcz38_2 : wr.cell? ⟨gb290, 2, none⟩ = some (.slice A1_2 l1_2.length c1_2) := (blk_cell BK290.out 2).trans rfl
                            have hfz38_0 := blk_frozen BK290.out 0
                            have hfz38_1 := blk_frozen BK290.out 1
                            have hfz38_2 := blk_frozen BK290.out 2
                            have p292 : 0 ≤ (x5_2 : Int) := of_decide_eq_true (by first | (with_reducible assumption) | assumption)
                            have q292 : x5_2 < (l1_2.length : Int) := of_decide_eq_true (by first | (with_reducible assumption) | assumption)
                            obtain ⟨ad292, A292_0, c292_0, e292, hx292_0, hl292_0, hi292_0⟩ := at_L1 HR1_2.out x5_2 p292 q292
                            cases e292
                            replace hx292_0 := (HB.out.cell (World.block_lt_of_cell? w _ hx292_0)).trans hx292_0
                            have HR292_0 := Aside0.mk hi292_0
                            have HC292_0 := Aside0.mk hl292_0
                            clear hi292_0 hl292_0
                            replace p292 := eq_true p292
                            replace q292 := eq_true q292
                            have hcz39_0 : wr.cell? ⟨gb289, 0, none⟩ = some (.int .i64 a0_0) := (blk_cell BK289.out 0).trans rfl
                            have hcz39_1 : wr.cell? ⟨gb289, 1, none⟩ = some (.int .i64 a0_1) := (blk_cell BK289.out 1).trans rfl
                            have hcz39_2 : wr.cell? ⟨gb289, 2, none⟩ = some (.int .i64 a0_2) := (blk_cell BK289.out 2).trans rfl
                            have hcz39_3 : wr.cell? ⟨gb289, 3, none⟩ = some (.slice A0_3 l0_3.length c0_3) := (blk_cell BK289.out 3).trans rfl
                            have hfz39_0 := blk_frozen BK289.out 0
                            have hfz39_1 := blk_frozen BK289.out 1
                            have hfz39_2 := blk_frozen BK289.out 2
                            have hfz39_3 := blk_frozen BK289.out 3
                            go_wp2_with (first | (go_at_call 32; (with_reducible refine (commodatumref20_within.calls k2 _ _ (rd_L1 l1_2 x5_2) ((rd_L1 l1_2 x5_2).length : Int) 0 (wrap64 (a0_1 - 1)) true _ ?side1 ?side2 A27.out).mono ?_); (case side1 => repeat (first | exact (Kd.C_below HR292_0.out HB.out) | (with_reducible refine Kd.C_alloc ?_ _) | (with_reducible refine Kd.C_drewN ?_ _) | (with_reducible refine Kd.C_drew ?_))); (case side2 => exact HC292_0.out); rintro e w' ⟨rfl, ⟨nd, rfl⟩⟩; have p294 : 0 ≤ ((ji30) : Int) := of_decide_eq_true (by first | (with_reducible assumption) | assumption); have q294 : (ji30) < ((rd_L1 l1_2 x5_2).length : Int) := of_decide_eq_true (by first | (with_reducible assumption) | assumption); obtain ⟨ad294, e294, hx294_0⟩ := Kd.at_int HR292_0.out (ji30) p294 q294; cases e294; replace hx294_0 := (HB.out.cell (World.block_lt_of_cell? w _ hx294_0)).trans hx294_0; replace p294 := eq_true p294; replace q294 := eq_true q294))
                            go_roundg k2
                            case measure => have := HJ2.out; have := HK2.out; omega
                            case rel => exact ⟨(wrap64 (x5_2 + 1)), (by first | rfl | (simp; done) | (simp [*]; done)), H', ⟨by have := HJ2.out; have := HK2.out; omega⟩, ⟨by (with_reducible repeat (first | refine blk_drewN ?_ _ | refine blk_drew ?_ | refine blk_alloc ?_ _)); exact BK289.out⟩, ⟨by (with_reducible repeat (first | refine blk_drewN ?_ _ | refine blk_drew ?_ | refine blk_alloc ?_ _)); exact BK290.out⟩, ⟨by repeat (first | (with_reducible first | exact HB.out | apply below_alloc | apply pw_below_drewN | apply below_drew1 | refine below_set ?_ GE289.out | refine below_set ?_ GE290.out) | exact HB.out)⟩⟩
                        · rw [if_neg c32] at H
                          exact absurd H (by simp)
                      · rw [if_neg c31] at H
                        exact absurd H (by simp)
                    · rw [if_neg c29] at H
                      have c29b0 : decide (0 < ((rd_L1 l1_2 x5_2).length : Int)) = false := decide_eq_false c29
                      have c29b1 : decide (0 < (rd_L1 l1_2 x5_2).length) = false := decide_eq_false (by omega)
                      clear c29
                      have H' := Aside0.mk H
                      clear H
                      have hnb40 := NB290_289.out
                      have hnc40 := NB289_290.out
                      have hcz41_0 : wr.cell? ⟨gb290, 0, none⟩ = some (.int .i64 a1_0) := (blk_cell BK290.out 0).trans rfl
                      have hcz41_1 : wr.cell? ⟨gb290, 1, none⟩ = some (.slice A1_1 l1_1.length c1_1) := (blk_cell BK290.out 1).trans rfl
                      have hcz41_2 : wr.cell? ⟨gb290, 2, none⟩ = some (.slice A1_2 l1_2.length c1_2) := (blk_cell BK290.out 2).trans rfl
                      have hfz41_0 := blk_frozen BK290.out 0
                      have hfz41_1 := blk_frozen BK290.out 1
                      have hfz41_2 := blk_frozen BK290.out 2
                      have p292 : 0 ≤ (x5_2 : Int) := of_decide_eq_true (by first | (with_reducible assumption) | assumption)
                      have q292 : x5_2 < (l1_2.length : Int) := of_decide_eq_true (by first | (with_reducible assumption) | assumption)
                      obtain ⟨ad292, A292_0, c292_0, e292, hx292_0, hl292_0, hi292_0⟩ := at_L1 HR1_2.out x5_2 p292 q292
                      cases e292
                      replace hx292_0 := (HB.out.cell (World.block_lt_of_cell? w _ hx292_0)).trans hx292_0
                      have HR292_0 := Aside0.mk hi292_0
                      have HC292_0 := Aside0.mk hl292_0
                      clear hi292_0 hl292_0
                      replace p292 := eq_true p292
                      replace q292 := eq_true q292
                      have hcz42_0 : wr.cell? ⟨gb289, 0, none⟩ = some (.int .i64 a0_0) := (blk_cell BK289.out 0).trans rfl
                      have hcz42_1 : wr.cell? ⟨gb289, 1, none⟩ = some (.int .i64 a0_1) := (blk_cell BK289.out 1).trans rfl
                      have hcz42_2 : wr.cell? ⟨gb289, 2, none⟩ = some (.int .i64 a0_2) := (blk_cell BK289.out 2).trans rfl
                      have hcz42_3 : wr.cell? ⟨gb289, 3, none⟩ = some (.slice A0_3 l0_3.length c0_3) := (blk_cell BK289.out 3).trans rfl
                      have hfz42_0 := blk_frozen BK289.out 0
                      have hfz42_1 := blk_frozen BK289.out 1
                      have hfz42_2 := blk_frozen BK289.out 2
                      have hfz42_3 := blk_frozen BK289.out 3
                      go_wp2_with (first | (go_at_call 32; (with_reducible refine (commodatumref20_within.calls k2 _ _ (rd_L1 l1_2 x5_2) ((rd_L1 l1_2 x5_2).length : Int) 0 (wrap64 (a0_1 - 1)) true _ ?side1 ?side2 A27.out).mono ?_); (case side1 => repeat (first | exact (Kd.C_below HR292_0.out HB.out) | (with_reducible refine Kd.C_alloc ?_ _) | (with_reducible refine Kd.C_drewN ?_ _) | (with_reducible refine Kd.C_drew ?_))); (case side2 => exact HC292_0.out); rintro e w' ⟨rfl, ⟨nd, rfl⟩⟩))
                      go_roundg k2
                      case measure => have := HJ2.out; have := HK2.out; omega
                      case rel => exact ⟨(wrap64 (x5_2 + 1)), (by first | rfl | (simp; done) | (simp [*]; done)), H', ⟨by have := HJ2.out; have := HK2.out; omega⟩, ⟨by (with_reducible repeat (first | refine blk_drewN ?_ _ | refine blk_drew ?_ | refine blk_alloc ?_ _)); exact BK289.out⟩, ⟨by (with_reducible repeat (first | refine blk_drewN ?_ _ | refine blk_drew ?_ | refine blk_alloc ?_ _)); exact BK290.out⟩, ⟨by repeat (first | (with_reducible first | exact HB.out | apply below_alloc | apply pw_below_drewN | apply below_drew1 | refine below_set ?_ GE289.out | refine below_set ?_ GE290.out) | exact HB.out)⟩⟩
                  · replace c28 := Bool.eq_false_iff.mpr c28
                    subst c28
                    have H1 : (some false) = some r := by rw [if_neg (show ¬ (false = true) by decide)] at H; exact H
                    clear H
                    have H := H1
                    clear H1
                    obtain rfl := Option.some.inj H
                    have hnb43 := NB290_289.out
                    have hnc43 := NB289_290.out
                    have hcz44_0 : wr.cell? ⟨gb290, 0, none⟩ = some (.int .i64 a1_0) := (blk_cell BK290.out 0).trans rfl
                    have hcz44_1 : wr.cell? ⟨gb290, 1, none⟩ = some (.slice A1_1 l1_1.length c1_1) := (blk_cell BK290.out 1).trans rfl
                    have hcz44_2 : wr.cell? ⟨gb290, 2, none⟩ = some (.slice A1_2 l1_2.length c1_2) := (blk_cell BK290.out 2).trans rfl
                    have hfz44_0 := blk_frozen BK290.out 0
                    have hfz44_1 := blk_frozen BK290.out 1
                    have hfz44_2 := blk_frozen BK290.out 2
                    have p292 : 0 ≤ (x5_2 : Int) := of_decide_eq_true (by first | (with_reducible assumption) | assumption)
                    have q292 : x5_2 < (l1_2.length : Int) := of_decide_eq_true (by first | (with_reducible assumption) | assumption)
                    obtain ⟨ad292, A292_0, c292_0, e292, hx292_0, hl292_0, hi292_0⟩ := at_L1 HR1_2.out x5_2 p292 q292
                    cases e292
                    replace hx292_0 := (HB.out.cell (World.block_lt_of_cell? w _ hx292_0)).trans hx292_0
                    have HR292_0 := Aside0.mk hi292_0
                    have HC292_0 := Aside0.mk hl292_0
                    clear hi292_0 hl292_0
                    replace p292 := eq_true p292
                    replace q292 := eq_true q292
                    have hcz45_0 : wr.cell? ⟨gb289, 0, none⟩ = some (.int .i64 a0_0) := (blk_cell BK289.out 0).trans rfl
                    have hcz45_1 : wr.cell? ⟨gb289, 1, none⟩ = some (.int .i64 a0_1) := (blk_cell BK289.out 1).trans rfl
                    have hcz45_2 : wr.cell? ⟨gb289, 2, none⟩ = some (.int .i64 a0_2) := (blk_cell BK289.out 2).trans rfl
                    have hcz45_3 : wr.cell? ⟨gb289, 3, none⟩ = some (.slice A0_3 l0_3.length c0_3) := (blk_cell BK289.out 3).trans rfl
                    have hfz45_0 := blk_frozen BK289.out 0
                    have hfz45_1 := blk_frozen BK289.out 1
                    have hfz45_2 := blk_frozen BK289.out 2
                    have hfz45_3 := blk_frozen BK289.out 3
                    go_wp2_with (first | (go_at_call 32; (with_reducible refine (commodatumref20_within.calls k2 _ _ (rd_L1 l1_2 x5_2) ((rd_L1 l1_2 x5_2).length : Int) 0 (wrap64 (a0_1 - 1)) false _ ?side1 ?side2 A27.out).mono ?_); (case side1 => repeat (first | exact (Kd.C_below HR292_0.out HB.out) | (with_reducible refine Kd.C_alloc ?_ _) | (with_reducible refine Kd.C_drewN ?_ _) | (with_reducible refine Kd.C_drew ?_))); (case side2 => exact HC292_0.out); rintro e w' ⟨rfl, ⟨nd, rfl⟩⟩))
                    go_ret
                    exact ⟨by first | rfl | (simp [errW_none, errW_some] <;> rfl) | (simp [*, errW_none, errW_some] <;> rfl), by repeat (first | (with_reducible first | exact HB.out | apply below_alloc | apply pw_below_drewN | apply below_drew1 | refine below_set ?_ GE289.out | refine below_set ?_ GE290.out) | exact HB.out)⟩
              · rw [if_neg c23] at H
                exact absurd H (by simp)
            · rw [if_neg c22] at H
              have c22b0 : decide (x5_2 < (l1_2.length : Int)) = false := decide_eq_false c22
              clear c22
              obtain rfl := Option.some.inj H
              have hnb46 := NB290_289.out
              have hnc46 := NB289_290.out
              have hcz47_0 : wr.cell? ⟨gb290, 0, none⟩ = some (.int .i64 a1_0) := (blk_cell BK290.out 0).trans rfl
              have hcz47_1 : wr.cell? ⟨gb290, 1, none⟩ = some (.slice A1_1 l1_1.length c1_1) := (blk_cell BK290.out 1).trans rfl
              have hcz47_2 : wr.cell? ⟨gb290, 2, none⟩ = some (.slice A1_2 l1_2.length c1_2) := (blk_cell BK290.out 2).trans rfl
              have hfz47_0 := blk_frozen BK290.out 0
              have hfz47_1 := blk_frozen BK290.out 1
              have hfz47_2 := blk_frozen BK290.out 2
              go_wp2
              go_ret
              exact ⟨by first | rfl | (simp [errW_none, errW_some] <;> rfl) | (simp [*, errW_none, errW_some] <;> rfl), by repeat (first | (with_reducible first | exact HB.out | apply below_alloc | apply pw_below_drewN | apply below_drew1 | refine below_set ?_ GE289.out | refine below_set ?_ GE290.out) | exact HB.out)⟩





end Go.Proofs.Ytfoodfhhdbaieaa.Ka
