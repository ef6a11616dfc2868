-- CUT by a program of this session: what the claim does not use is left out
import Derived.Test.YthfhnkpipdbekaaDoorUax0
import Derived.Test.YthfhnkpipdbekaaDoorProg
import Derived.Below
import Derived.Deep.Draws
import Derived.Deep.AppendLies
import Derived.Maps.AppendAt
import Derived.OwnWalk
import Derived.Laws.BytesArg
import Derived.Laws.MakeOwn
import Derived.Laws.OwnMore
import Derived.Deep.OwnRows
import Derived.Tactics
import Derived.Lib.ConvBytes
import Derived.Laws.Slices
import Derived.WalkKit
import Derived.KernelRfl
import Derived.RowKit3
import Derived.Deep.LoopGhost
import Derived.Deep.QuietTactic
import Derived.BigQuiet
import Derived.WideLaws
import Derived.Deep.DeepCutAuto
import Derived.Deep.CutBlock
import Derived.Deep.RegionHeld3
import Derived.Laws.Rows
import Derived.Lib.AppendStr
import Derived.ArgAppend
import Derived.Laws.IdiomCopy
import Derived.OrdersHeld
import Derived.Laws.BitsLemmas
import Derived.RowKit
import Derived.Test.YthfhnkpipdbekaaDoorN12
import Derived.Test.YthfhnkpipdbekaaDoorN6
import Derived.Test.YthfhnkpipdbekaaDoorWAll
import Derived.Test.YthfhnkpipdbekaaDoorTax5
import Derived.Test.YthfhnkpipdbekaaDoorTax6
import Derived.Test.YthfhnkpipdbekaaDoorTax1
import Derived.Test.YthfhnkpipdbekaaDoorTax13
import Derived.Test.YthfhnkpipdbekaaDoorTax2
import Derived.Test.YthfhnkpipdbekaaDoorTax3
import Derived.Test.YthfhnkpipdbekaaDoorTax4
import Derived.Test.YthfhnkpipdbekaaDoorTax7
import Derived.Test.YthfhnkpipdbekaaDoorTxx1
import Derived.Test.YthfhnkpipdbekaaDoorTxx2
import Derived.Test.YthfhnkpipdbekaaDoorTbx1
import Derived.Test.YthfhnkpipdbekaaDoorN15
import Derived.Test.YthfhnkpipdbekaaDoorTjx5
import Derived.Test.YthfhnkpipdbekaaDoorTjx6
namespace Go.Proofs.YthfhnkpipdbekaaDoor.Tj
open Go.Proofs.YthfhnkpipdbekaaDoor.Ua
open Go.Proofs.YthfhnkpipdbekaaDoor.Giv
open Go.Proofs.YthfhnkpipdbekaaDoor.Ta (api_RevOp_68.f api_RevOp_68.calls undo_enumerable.f undo_enumerable.calls undo_final.f undo_final.calls undo_final.mono undo_Dirty.f undo_Dirty.calls undo_Dirty.mono undo_Inverse.f undo_Permutation.f undo_Restores.f commodatumref12_op.f commodatumref12_op.calls commodatumref12_Bits.f commodatumref12_Bits.calls commodatumref12_Valid.f commodatumref12_Valid.calls commodatumref12_Run.f commodatumref12_Run.calls commodatumref12_Flips.f commodatumref12_Flips.calls commodatumlaw12_none.f commodatumlaw12_none.calls commodatumlaw12_spread.f commodatumlaw12_spread.calls commodatumref12_Equal.f commodatumref12_Equal.calls commodatumref12_Equal.mono)
open Go.Proofs.YthfhnkpipdbekaaDoor.Tx (slices_Index_string_string.f slices_Index_string_string.calls undo_numbers.f undo_numbers.calls commodatumlaw12_all.f commodatumlaw12_all.calls)
open Go.Proofs.YthfhnkpipdbekaaDoor.Ui (bits_Input.f bits_Input.calls bits_Input.mono slices_Equal_bool_bool.f slices_Equal_bool_bool.calls slices_Equal_bool_bool.mono)
open Go.Proofs.YthfhnkpipdbekaaDoor.Tb (commodatumlaw12_Awake.f commodatumlaw12_Awake.calls commodatumlaw12_Awake.mono)
open Go.RowKit Go.Proofs.YthfhnkpipdbekaaDoorW.PrintWords Go.Proofs.YthfhnkpipdbekaaDoorW.PrintLast Go.Proofs.YthfhnkpipdbekaaDoorW.PrintMore
attribute [local go_sem] max2_int min2_int max_two min_two max_three min_three max_four min_four   -- for this text's walks alone
set_option linter.unusedVariables false
set_option linter.unusedSimpArgs false

def commodatumlaw12_UndoAnds.j0 : Nat → Int → List Int → Int → Int → Bool → Int → List (S67) → Int → List (S67) → Option (Bool)
 | 0, _, _, _, _, _, _, _, _, _ => none
 | k + 1, x0, x1, x6, x8, x28, x362000, x362001, x368000, x368001 => if x28 = true then (if x6 = 2 then (if x8 = 2 then ((commodatumlaw12_none.f x362000 x362001).bind fun t368 => (if t368 = true then ((commodatumlaw12_none.f x368000 x368001).bind fun t369 => (if t369 = true then ((commodatumlaw12_Awake.f k).bind fun t370 => (some t370)) else (none))) else (none))) else (none)) else (none)) else (if x6 = 0 then (if x8 = 0 then ((commodatumlaw12_conjunction.f k x362000 x362001 x0 (wrap64 ((wrap64 (x0 + 1)) + (mx 0 (wrap64 (x0 - 2))))) (mx 1 (wrap64 (4 * x0))) x1).bind fun t371 => (if t371 = true then ((commodatumlaw12_conjunction.f k x368000 x368001 x0 (wrap64 (x0 + 2)) (mx 1 (wrap64 (8 * x0))) x1).bind fun t372 => (if t372 = true then ((commodatumlaw12_Awake.f k).bind fun t373 => (some t373)) else (none))) else (none))) else (none)) else (none))
def commodatumlaw12_UndoAnds.f (k : Nat) (a0 : Int) (l1 : List Int) : Option (Bool) := if (l1.length : Int) > 1000 then ((commodatumlaw12_Awake.f k).bind fun t355 => (some t355)) else ((undo_And.f k a0).bind fun bt356 => ((undo_AndOne.f k a0).bind fun bt362 => (if a0 < 0 then (commodatumlaw12_UndoAnds.j0 k a0 l1 bt356.2.2 bt362.2.2 true bt356.1 bt356.2.1 bt362.1 bt362.2.1) else (commodatumlaw12_UndoAnds.j0 k a0 l1 bt356.2.2 bt362.2.2 (decide (a0 > 300)) bt356.1 bt356.2.1 bt362.1 bt362.2.1))))
set_option maxHeartbeats 8000000 in
set_option maxRecDepth 100000 in
theorem commodatumlaw12_UndoAnds.calls (k : Nat) (a0 : Int) (A1 : Option Addr) (c1 : Nat) (l1 : List Int) (r : Bool) (w : World) (hr1 : Kd.C (Kd.int .i64) w A1 l1.length l1) (hc1 : l1.length ≤ c1) (hlay : Laid w) (h : commodatumlaw12_UndoAnds.f k a0 l1 = some r) :
  Calls Tryd.prog 11 #[.int .i64 a0, .slice A1 l1.length c1] w fun e w' => e = .returned (.bool r) ∧ Below w.heap.size w w' := by
 have hu25 := Tryd.underlying25
 have HR1 := Aside0.mk hr1
 have HC1 := Aside0.mk hc1
 clear hr1 hc1
 have HB := Aside0.mk (Below.refl w.heap.size w)
 have HLAY := Aside0.mk hlay
 clear hlay
 have H : (if (l1.length : Int) > 1000 then ((commodatumlaw12_Awake.f k).bind fun t355 => (some t355)) else ((undo_And.f k a0).bind fun bt356 => ((undo_AndOne.f k a0).bind fun bt362 => (if a0 < 0 then (commodatumlaw12_UndoAnds.j0 k a0 l1 bt356.2.2 bt362.2.2 true bt356.1 bt356.2.1 bt362.1 bt362.2.1) else (commodatumlaw12_UndoAnds.j0 k a0 l1 bt356.2.2 bt362.2.2 (decide (a0 > 300)) bt356.1 bt356.2.1 bt362.1 bt362.2.1))))) = some r := h
 clear h
 by_cases c3 : (l1.length : Int) > 1000
 ·rw [if_pos c3] at H
  have c3b0 : decide (1000 < (l1.length : Int)) = true := decide_eq_true c3
  have c3b1 : decide (1000 < l1.length) = true := decide_eq_true (by omega)
  clear c3
  replace H := Option.bind_eq_some_iff.mp H
  obtain ⟨t355, A40, H⟩ := H
  replace H : (some t355) = some r := H
  have A4 := Aside0.mk A40
  clear A40
  obtain rfl := Option.some.inj H
  go_enter Tryd.func11, Tryd.ntmps11
  go_wp2_with (first | ((with_reducible refine gate_callee (f := 12) rfl ?_); refine goesL_ (some 12) rfl rfl Tryd.func12 (by kernel_rfl) rfl #[] rfl (by (try simp only [List.map_toArray, List.map_cons, List.map_nil]); first | done | rfl | (simp only [List.length_drop, List.length_take]; rfl)) ?_; (with_reducible refine (commodatumlaw12_Awake.calls k  t355 _ ?side1 A4.out).mono ?_); (case side1 => exact Laid.below HLAY.out (by repeat (first | (with_reducible first | exact HB.out | apply below_alloc | apply pw_below_drewN | apply below_drew1) | exact HB.out))); rintro e w5 ⟨rfl, hb⟩; refine ⟨_, rfl, ?_⟩; have n0_ := Aside0.mk (below_step (by repeat (first | (with_reducible first | exact HB.out | apply below_alloc | apply pw_below_drewN | apply below_drew1) | exact HB.out)) hb); clear HB; have HB := n0_; clear n0_; (try clear hb); (try clear hb2); (try clear hk); (try clear hi)))
  go_ret
  exact ⟨by first | rfl | (simp [errW_none, errW_some] <;> rfl) | (simp [*, errW_none, errW_some] <;> rfl), by repeat (first | (with_reducible first | exact HB.out | apply below_alloc | apply pw_below_drewN | apply below_drew1) | exact HB.out)⟩
 ·rw [if_neg c3] at H
  have c3b0 : decide (1000 < (l1.length : Int)) = false := decide_eq_false c3
  have c3b1 : decide (1000 < l1.length) = false := decide_eq_false (by omega)
  clear c3
  replace H := Option.bind_eq_some_iff.mp H
  obtain ⟨⟨t356, t357, t360⟩, A60, H⟩ := H
  replace H : ((undo_AndOne.f k a0).bind fun bt362 => (if a0 < 0 then (commodatumlaw12_UndoAnds.j0 k a0 l1 t360 bt362.2.2 true t356 t357 bt362.1 bt362.2.1) else (commodatumlaw12_UndoAnds.j0 k a0 l1 t360 bt362.2.2 (decide (a0 > 300)) t356 t357 bt362.1 bt362.2.1))) = some r := H
  have A6 := Aside0.mk A60
  clear A60
  replace H := Option.bind_eq_some_iff.mp H
  obtain ⟨⟨t362, t363, t366⟩, A70, H⟩ := H
  replace H : (if a0 < 0 then (commodatumlaw12_UndoAnds.j0 k a0 l1 t360 t366 true t356 t357 t362 t363) else (commodatumlaw12_UndoAnds.j0 k a0 l1 t360 t366 (decide (a0 > 300)) t356 t357 t362 t363)) = some r := H
  have A7 := Aside0.mk A70
  clear A70
  have HC8 := Aside0.mk H
  clear H
  go_enter Tryd.func11, Tryd.ntmps11
  go_upto_region 5 with (first | ((with_reducible refine gate_callee (f := 41) rfl ?_); refine goesL_ (some 15) rfl rfl Tryd.func41 (by kernel_rfl) rfl #[.int .i64 a0] rfl (by (try simp only [List.map_toArray, List.map_cons, List.map_nil]); first | done | rfl | (simp only [List.length_drop, List.length_take]; rfl)) ?_; (with_reducible refine (undo_And.calls k a0 t356 t357 t360 _ A6.out).mono ?_); rintro e w9 ⟨v358, rfl, ho0, hb⟩; refine ⟨_, rfl, ?_⟩; have n0_ := Aside0.mk (Kd.R_lower ho0 (below_size (by repeat (first | (with_reducible first | exact HB.out | apply below_alloc | apply pw_below_drewN | apply below_drew1) | exact HB.out)))); have n1_ := Aside0.mk (below_step (by repeat (first | (with_reducible first | exact HB.out | apply below_alloc | apply pw_below_drewN | apply below_drew1) | exact HB.out)) hb); clear HB; have HO359 := n0_; have HB := n1_; clear n0_ n1_; (try clear hb); (try clear hb2); (try clear hk); (try clear hi); (try clear ho0)) | ((with_reducible refine gate_dst (N := 5) rfl ?_); (try (refine gate_guard (by rfl) ?_; dsimp only)); refine box_event ?hg (N := 5) ?hd (cs := #[.int .i64 0, .slice none 0 0]) (t := 25) ?hr ?_; (case hd => rfl); (case hg => rfl); (case hr => first | (go_simp; done) | (go_simp; rfl)); intro gb361 hg w10 hbox hb; have n0_ := Aside0.mk (Kd.R_below (by (with_reducible repeat (first | apply Kd.R_alloc | apply Kd.R_drewN | apply Kd.R_drew)); exact HO359.out) hb); have n1_ := Aside0.mk (below_step (by repeat (first | (with_reducible first | exact HB.out | apply below_alloc | apply pw_below_drewN | apply below_drew1) | exact HB.out)) hb); have n2_ := Aside0.mk (hbox); have n3_ := Aside0.mk ((by rw [hg]; exact (below_size (by repeat (first | (with_reducible first | exact HB.out | apply below_alloc | apply pw_below_drewN | apply below_drew1) | exact HB.out))) : w.heap.size ≤ gb361)); have n4_ := Aside0.mk ((by rw [hg]; exact (below_size (by repeat (first | (with_reducible first | exact HB.out | apply below_alloc | apply pw_below_drewN | apply below_drew1) | exact HB.out))) : w.heap.size ≤ gb361)); clear HO359; clear HB; have HO359 := n0_; have HB := n1_; have BK361 := n2_; have GW361 := n3_; have GE361 := n4_; clear n0_ n1_ n2_ n3_ n4_; clear hb hbox hg; have hcz11_0 : w10.cell? ⟨gb361, 0, none⟩ = some (.int .i64 0) := (blk_cell BK361.out 0).trans rfl; have hcz11_1 : w10.cell? ⟨gb361, 1, none⟩ = some (.slice none 0 0) := (blk_cell BK361.out 1).trans rfl; have hfz11_0 := blk_frozen BK361.out 0; have hfz11_1 := blk_frozen BK361.out 1; obtain ⟨Ao12, co12, eo12⟩ := Kd.R_slice HO359.out; subst eo12) | ((with_reducible refine gate_callee (f := 42) rfl ?_); refine goesL_ (some 20) rfl rfl Tryd.func42 (by kernel_rfl) rfl #[.int .i64 a0] rfl (by (try simp only [List.map_toArray, List.map_cons, List.map_nil]); first | done | rfl | (simp only [List.length_drop, List.length_take]; rfl)) ?_; (with_reducible refine (undo_AndOne.calls k a0 t362 t363 t366 _ A7.out).mono ?_); rintro e w13 ⟨v364, rfl, ho0, hb⟩; refine ⟨_, rfl, ?_⟩; have n0_ := Aside0.mk (Kd.R_elder' (by (with_reducible repeat (first | apply Kd.R_alloc | apply Kd.R_drewN | apply Kd.R_drew)); exact (Kd.R_mono (Kd.R_far (p := ⟨gb361, 1, none⟩) (Kd.R_far (p := ⟨gb361, 0, none⟩) (Kd.R_types HO359.out BK361.out (by decide)) (fun _ hk => hk.2) (.int .i64 t356)) (fun _ hk => hk.2) (.slice Ao12 t357.length co12)) (fun _ h_ => h_.1))) (Kd.R_base ho0) hb); have n1_ := Aside0.mk (Kd.R_lower (Kd.R_new' ho0 (Kd.R_lt (by (with_reducible repeat (first | apply Kd.R_alloc | apply Kd.R_drewN | apply Kd.R_drew)); exact (Kd.R_mono (Kd.R_far (p := ⟨gb361, 1, none⟩) (Kd.R_far (p := ⟨gb361, 0, none⟩) (Kd.R_types HO359.out BK361.out (by decide)) (fun _ hk => hk.2) (.int .i64 t356)) (fun _ hk => hk.2) (.slice Ao12 t357.length co12)) (fun _ h_ => h_.1))))) (below_size (by repeat (first | (with_reducible first | exact HB.out | apply below_alloc | apply pw_below_drewN | apply below_drew1 | refine below_set ?_ GE361.out) | exact HB.out)))); have n2_ := Aside0.mk (blk_below (g := gb361) (o := .cells #[.int .i64 t356, .slice Ao12 t357.length co12] 25 (0, 0)) (by (with_reducible repeat (first | refine blk_drewN ?_ _ | refine blk_drew ?_ | refine blk_alloc ?_ _)); refine blk_put (cs := #[.int .i64 t356, .slice none 0 0]) ?_ 1 _ rfl; (with_reducible repeat (first | refine blk_drewN ?_ _ | refine blk_drew ?_ | refine blk_alloc ?_ _)); refine blk_put (cs := #[.int .i64 0, .slice none 0 0]) ?_ 0 _ rfl; (with_reducible repeat (first | refine blk_drewN ?_ _ | refine blk_drew ?_ | refine blk_alloc ?_ _)); exact BK361.out) hb); have n3_ := Aside0.mk (below_step (by repeat (first | (with_reducible first | exact HB.out | apply below_alloc | apply pw_below_drewN | apply below_drew1 | refine below_set ?_ GE361.out) | exact HB.out)) hb); clear HO359; clear BK361; clear HB; have HO359 := n0_; have HO365 := n1_; have BK361 := n2_; have HB := n3_; clear n0_ n1_ n2_ n3_; (try clear hb); (try clear hb2); (try clear hk); (try clear hi); (try clear ho0)) | ((with_reducible refine gate_dst (N := 7) rfl ?_); (try (refine gate_guard (by rfl) ?_; dsimp only)); refine box_event ?hg (N := 7) ?hd (cs := #[.int .i64 0, .slice none 0 0]) (t := 25) ?hr ?_; (case hd => rfl); (case hg => rfl); (case hr => first | (go_simp; done) | (go_simp; rfl)); intro gb367 hg w14 hbox hb; have n0_ := Aside0.mk (Kd.R_below (by (with_reducible repeat (first | apply Kd.R_alloc | apply Kd.R_drewN | apply Kd.R_drew)); exact HO359.out) hb); have n1_ := Aside0.mk (Kd.R_below (by (with_reducible repeat (first | apply Kd.R_alloc | apply Kd.R_drewN | apply Kd.R_drew)); exact HO365.out) hb); have n2_ := Aside0.mk (blk_below (g := gb361) (o := .cells #[.int .i64 t356, .slice Ao12 t357.length co12] 25 (0, 0)) (by (with_reducible repeat (first | refine blk_drewN ?_ _ | refine blk_drew ?_ | refine blk_alloc ?_ _)); exact BK361.out) hb); have n3_ := Aside0.mk (below_step (by repeat (first | (with_reducible first | exact HB.out | apply below_alloc | apply pw_below_drewN | apply below_drew1 | refine below_set ?_ GE361.out) | exact HB.out)) hb); have n4_ := Aside0.mk (hbox); have n5_ := Aside0.mk ((by rw [hg]; exact (below_size (by repeat (first | (with_reducible first | exact HB.out | apply below_alloc | apply pw_below_drewN | apply below_drew1 | refine below_set ?_ GE361.out) | exact HB.out))) : w.heap.size ≤ gb367)); have n6_ := Aside0.mk ((by rw [hg]; exact (below_size (by repeat (first | (with_reducible first | exact HB.out | apply below_alloc | apply pw_below_drewN | apply below_drew1 | refine below_set ?_ GE361.out) | exact HB.out))) : w.heap.size ≤ gb367)); have n7_ := Aside0.mk ((by rw [hg]; exact Nat.ne_of_lt (blk_lt (g := gb361) (o := .cells #[.int .i64 t356, .slice Ao12 t357.length co12] 25 (0, 0)) (by (with_reducible repeat (first | refine blk_drewN ?_ _ | refine blk_drew ?_ | refine blk_alloc ?_ _)); exact BK361.out)) : gb361 ≠ gb367)); have n8_ := Aside0.mk ((by rw [hg]; exact Nat.ne_of_gt (blk_lt (g := gb361) (o := .cells #[.int .i64 t356, .slice Ao12 t357.length co12] 25 (0, 0)) (by (with_reducible repeat (first | refine blk_drewN ?_ _ | refine blk_drew ?_ | refine blk_alloc ?_ _)); exact BK361.out)) : gb367 ≠ gb361)); clear HO359; clear HO365; clear BK361; clear HB; have HO359 := n0_; have HO365 := n1_; have BK361 := n2_; have HB := n3_; have BK367 := n4_; have GW367 := n5_; have GE367 := n6_; have NB361_367 := n7_; have NB367_361 := n8_; clear n0_ n1_ n2_ n3_ n4_ n5_ n6_ n7_ n8_; clear hb hbox hg; have hnb15 := NB367_361.out; have hnc15 := NB361_367.out; have hcz16_0 : w14.cell? ⟨gb367, 0, none⟩ = some (.int .i64 0) := (blk_cell BK367.out 0).trans rfl; have hcz16_1 : w14.cell? ⟨gb367, 1, none⟩ = some (.slice none 0 0) := (blk_cell BK367.out 1).trans rfl; have hfz16_0 := blk_frozen BK367.out 0; have hfz16_1 := blk_frozen BK367.out 1; obtain ⟨Ao17, co17, eo17⟩ := Kd.R_slice HO365.out; subst eo17))
  (try simp only [Act.put, List.setIfInBounds_toArray, List.set_cons_zero, List.set_cons_succ])
  go_cut [28] (fun v28 wc => ∃ (kq : Nat) (x28_7 : Bool), v28 = .bool x28_7 ∧ Aside0 (commodatumlaw12_UndoAnds.j0 kq a0 l1 t360 t366 x28_7 t356 t357 t362 t363 = some r) ∧ Aside0 (kq ≤ k) ∧ Aside0 (Kd.R k67 67 wc w.heap.size (fun k_ => some k_ ≠ ((.slice Ao17 t363.length co17) : Value).ownBlock) (.slice Ao12 t357.length co12) t357) ∧ Aside0 (Kd.R k67 67 wc w.heap.size (fun k_ => some k_ ≠ ((.slice Ao12 t357.length co12) : Value).ownBlock) (.slice Ao17 t363.length co17) t363) ∧ Aside0 (wc.heap[gb361]? = some (.cells #[.int .i64 t356, (.slice Ao12 t357.length co12)] 25 (0, 0))) ∧ Aside0 (wc.heap[gb367]? = some (.cells #[.int .i64 t362, (.slice Ao17 t363.length co17)] 25 (0, 0))) ∧ Aside0 (Below w.heap.size w wc))
  case first =>
   have H := HC8.out
   clear HC8
   by_cases c18 : a0 < 0
   ·rw [if_pos c18] at H
    have c18b0 : decide (a0 < 0) = true := decide_eq_true c18
    clear c18
    (first | rw [c18b0] | (simp only [i64_w, i32_w]; rw [c18b0]) | skip)
    have H' := Aside0.mk H
    clear H
    go_wp2
    go_meet
    case rel => exact ⟨_, (true), (by first | rfl | (simp; done) | (simp [*]; done)), H', ⟨by first | omega | exact Nat.le_refl _⟩, ⟨by (with_reducible repeat (first | apply Kd.R_alloc | apply Kd.R_drewN | apply Kd.R_drew)); exact Kd.R_mono (Kd.R_far (p := ⟨gb367, 1, none⟩) (Kd.R_far (p := ⟨gb367, 0, none⟩) (Kd.R_types HO359.out BK367.out (by decide)) (fun _ hk => hk.2) (.int .i64 t362)) (fun _ hk => hk.2) (.slice Ao17 t363.length co17)) (fun _ hk => hk.1.2)⟩, ⟨by (with_reducible repeat (first | apply Kd.R_alloc | apply Kd.R_drewN | apply Kd.R_drew)); exact Kd.R_mono (Kd.R_far (p := ⟨gb367, 1, none⟩) (Kd.R_far (p := ⟨gb367, 0, none⟩) (Kd.R_types HO365.out BK367.out (by decide)) (fun _ hk => hk.2) (.int .i64 t362)) (fun _ hk => hk.2) (.slice Ao17 t363.length co17)) (fun _ hk => hk.1.2)⟩, ⟨by (with_reducible repeat (first | refine blk_drewN ?_ _ | refine blk_drew ?_ | refine blk_alloc ?_ _)); refine blk_far ?_ NB361_367.out _; (with_reducible repeat (first | refine blk_drewN ?_ _ | refine blk_drew ?_ | refine blk_alloc ?_ _)); refine blk_far ?_ NB361_367.out _; (with_reducible repeat (first | refine blk_drewN ?_ _ | refine blk_drew ?_ | refine blk_alloc ?_ _)); exact BK361.out⟩, ⟨by (with_reducible repeat (first | refine blk_drewN ?_ _ | refine blk_drew ?_ | refine blk_alloc ?_ _)); refine blk_put (cs := #[.int .i64 t362, .slice none 0 0]) ?_ 1 _ rfl; (with_reducible repeat (first | refine blk_drewN ?_ _ | refine blk_drew ?_ | refine blk_alloc ?_ _)); refine blk_put (cs := #[.int .i64 0, .slice none 0 0]) ?_ 0 _ rfl; (with_reducible repeat (first | refine blk_drewN ?_ _ | refine blk_drew ?_ | refine blk_alloc ?_ _)); exact BK367.out⟩, ⟨by repeat (first | (with_reducible first | exact HB.out | apply below_alloc | apply pw_below_drewN | apply below_drew1 | refine below_set ?_ GE361.out | refine below_set ?_ GE367.out) | exact HB.out)⟩⟩
   ·rw [if_neg c18] at H
    have c18b0 : decide (a0 < 0) = false := decide_eq_false c18
    clear c18
    (first | rw [c18b0] | (simp only [i64_w, i32_w]; rw [c18b0]) | skip)
    have H' := Aside0.mk H
    clear H
    go_wp2
    go_meet
    case rel => exact ⟨_, (decide (a0 > 300)), (by first | rfl | (simp; done) | (simp [*]; done)), H', ⟨by first | omega | exact Nat.le_refl _⟩, ⟨by (with_reducible repeat (first | apply Kd.R_alloc | apply Kd.R_drewN | apply Kd.R_drew)); exact Kd.R_mono (Kd.R_far (p := ⟨gb367, 1, none⟩) (Kd.R_far (p := ⟨gb367, 0, none⟩) (Kd.R_types HO359.out BK367.out (by decide)) (fun _ hk => hk.2) (.int .i64 t362)) (fun _ hk => hk.2) (.slice Ao17 t363.length co17)) (fun _ hk => hk.1.2)⟩, ⟨by (with_reducible repeat (first | apply Kd.R_alloc | apply Kd.R_drewN | apply Kd.R_drew)); exact Kd.R_mono (Kd.R_far (p := ⟨gb367, 1, none⟩) (Kd.R_far (p := ⟨gb367, 0, none⟩) (Kd.R_types HO365.out BK367.out (by decide)) (fun _ hk => hk.2) (.int .i64 t362)) (fun _ hk => hk.2) (.slice Ao17 t363.length co17)) (fun _ hk => hk.1.2)⟩, ⟨by (with_reducible repeat (first | refine blk_drewN ?_ _ | refine blk_drew ?_ | refine blk_alloc ?_ _)); refine blk_far ?_ NB361_367.out _; (with_reducible repeat (first | refine blk_drewN ?_ _ | refine blk_drew ?_ | refine blk_alloc ?_ _)); refine blk_far ?_ NB361_367.out _; (with_reducible repeat (first | refine blk_drewN ?_ _ | refine blk_drew ?_ | refine blk_alloc ?_ _)); exact BK361.out⟩, ⟨by (with_reducible repeat (first | refine blk_drewN ?_ _ | refine blk_drew ?_ | refine blk_alloc ?_ _)); refine blk_put (cs := #[.int .i64 t362, .slice none 0 0]) ?_ 1 _ rfl; (with_reducible repeat (first | refine blk_drewN ?_ _ | refine blk_drew ?_ | refine blk_alloc ?_ _)); refine blk_put (cs := #[.int .i64 0, .slice none 0 0]) ?_ 0 _ rfl; (with_reducible repeat (first | refine blk_drewN ?_ _ | refine blk_drew ?_ | refine blk_alloc ?_ _)); exact BK367.out⟩, ⟨by repeat (first | (with_reducible first | exact HB.out | apply below_alloc | apply pw_below_drewN | apply below_drew1 | refine below_set ?_ GE361.out | refine below_set ?_ GE367.out) | exact HB.out)⟩⟩
  case rest =>
   clear HC8
   try clear c1
   try clear p2
   try clear c3
   try clear c3b0
   try clear c3b1
   try clear c4
   try clear c11
   try clear c12
   try clear c15
   try clear c18
   try clear c18b0
   try clear hcz11_0
   try clear hcz11_1
   try clear hcz16_0
   try clear hcz16_1
   try clear hfz11_0
   try clear hfz11_1
   try clear hfz16_0
   try clear hfz16_1
   obtain ⟨kq, x28_7, rfl, HA, HJ7, HO_362001, HO_368001, BK361, BK367, HB⟩ := hcut
   cases kq with
   | zero => exact absurd HA.out (by simp [commodatumlaw12_UndoAnds.j0])
   | succ kj7 =>
    have H := HA.out
    clear HA
    simp only [commodatumlaw12_UndoAnds.j0] at H
    by_cases c19 : x28_7 = true
    ·subst c19
     have H1 : (if t360 = 2 then (if t366 = 2 then ((commodatumlaw12_none.f t356 t357).bind fun t368 => (if t368 = true then ((commodatumlaw12_none.f t362 t363).bind fun t369 => (if t369 = true then ((commodatumlaw12_Awake.f kj7).bind fun t370 => (some t370)) else (none))) else (none))) else (none)) else (none)) = some r := by rw [if_pos rfl] at H; exact H
     clear H
     have H := H1
     clear H1
     by_cases c20 : t360 = 2
     ·rw [if_pos c20] at H
      have c20b0 : (t360 == 2) = true := beq_iff_eq.mpr c20
      have c20b1 : (t360 != 2) = false := bne_eq_false_iff_eq.mpr c20
      clear c20
      by_cases c21 : t366 = 2
      ·rw [if_pos c21] at H
       have c21b0 : (t366 == 2) = true := beq_iff_eq.mpr c21
       have c21b1 : (t366 != 2) = false := bne_eq_false_iff_eq.mpr c21
       clear c21
       replace H := Option.bind_eq_some_iff.mp H
       obtain ⟨t368, A220, H⟩ := H
       replace H : (if t368 = true then ((commodatumlaw12_none.f t362 t363).bind fun t369 => (if t369 = true then ((commodatumlaw12_Awake.f kj7).bind fun t370 => (some t370)) else (none))) else (none)) = some r := H
       have A22 := Aside0.mk A220
       clear A220
       by_cases c23 : t368 = true
       ·subst c23
        have H1 : ((commodatumlaw12_none.f t362 t363).bind fun t369 => (if t369 = true then ((commodatumlaw12_Awake.f kj7).bind fun t370 => (some t370)) else (none))) = some r := by rw [if_pos rfl] at H; exact H
        clear H
        have H := H1
        clear H1
        replace H := Option.bind_eq_some_iff.mp H
        obtain ⟨t369, A240, H⟩ := H
        replace H : (if t369 = true then ((commodatumlaw12_Awake.f kj7).bind fun t370 => (some t370)) else (none)) = some r := H
        have A24 := Aside0.mk A240
        clear A240
        by_cases c25 : t369 = true
        ·subst c25
         have H1 : ((commodatumlaw12_Awake.f kj7).bind fun t370 => (some t370)) = some r := by rw [if_pos rfl] at H; exact H
         clear H
         have H := H1
         clear H1
         replace H := Option.bind_eq_some_iff.mp H
         obtain ⟨t370, A260, H⟩ := H
         replace H : (some t370) = some r := H
         have A26 := Aside0.mk A260
         clear A260
         obtain rfl := Option.some.inj H
         have hnb27 := NB361_367.out
         have hnc27 := NB367_361.out
         have hcz28_0 : wc.cell? ⟨gb361, 0, none⟩ = some (.int .i64 t356) := (blk_cell BK361.out 0).trans rfl
         have hcz28_1 : wc.cell? ⟨gb361, 1, none⟩ = some (.slice Ao12 t357.length co12) := (blk_cell BK361.out 1).trans rfl
         have hfz28_0 := blk_frozen BK361.out 0
         have hfz28_1 := blk_frozen BK361.out 1
         go_wp2_with (first | (go_at_call 15; (with_reducible refine (commodatumlaw12_none.calls t356 _ _ t357 true _ ?side1 ?side2 A22.out).mono ?_); (case side1 => repeat (first | exact (Kd.R_reads' HO_362001.out).2.2 | (with_reducible refine Kd.C_alloc ?_ _) | (with_reducible refine Kd.C_drewN ?_ _) | (with_reducible refine Kd.C_drew ?_))); (case side2 => exact (Kd.R_reads' HO_362001.out).2.1); rintro e w29 ⟨rfl, hb⟩; have n0_ := Aside0.mk (Kd.R_below (by (with_reducible repeat (first | apply Kd.R_alloc | apply Kd.R_drewN | apply Kd.R_drew)); exact HO_362001.out) hb); have n1_ := Aside0.mk (Kd.R_below (by (with_reducible repeat (first | apply Kd.R_alloc | apply Kd.R_drewN | apply Kd.R_drew)); exact HO_368001.out) hb); have n2_ := Aside0.mk (blk_below (g := gb361) (o := .cells #[.int .i64 t356, .slice Ao12 t357.length co12] 25 (0, 0)) (by (with_reducible repeat (first | refine blk_drewN ?_ _ | refine blk_drew ?_ | refine blk_alloc ?_ _)); exact BK361.out) hb); have n3_ := Aside0.mk (blk_below (g := gb367) (o := .cells #[.int .i64 t362, .slice Ao17 t363.length co17] 25 (0, 0)) (by (with_reducible repeat (first | refine blk_drewN ?_ _ | refine blk_drew ?_ | refine blk_alloc ?_ _)); exact BK367.out) hb); have n4_ := Aside0.mk (below_step (by repeat (first | (with_reducible first | exact HB.out | apply below_alloc | apply pw_below_drewN | apply below_drew1 | refine below_set ?_ GE361.out | refine below_set ?_ GE367.out) | exact HB.out)) hb); clear HO_362001; clear HO_368001; clear BK361; clear BK367; clear HB; have HO_362001 := n0_; have HO_368001 := n1_; have BK361 := n2_; have BK367 := n3_; have HB := n4_; clear n0_ n1_ n2_ n3_ n4_; (try clear hb); (try clear hb2); (try clear hk); (try clear hi); have hcz30_0 : w29.cell? ⟨gb367, 0, none⟩ = some (.int .i64 t362) := (blk_cell BK367.out 0).trans rfl; have hcz30_1 : w29.cell? ⟨gb367, 1, none⟩ = some (.slice Ao17 t363.length co17) := (blk_cell BK367.out 1).trans rfl; have hfz30_0 := blk_frozen BK367.out 0; have hfz30_1 := blk_frozen BK367.out 1) | (go_at_call 15; (with_reducible refine (commodatumlaw12_none.calls t362 _ _ t363 true _ ?side1 ?side2 A24.out).mono ?_); (case side1 => repeat (first | exact (Kd.R_reads' HO_368001.out).2.2 | (with_reducible refine Kd.C_alloc ?_ _) | (with_reducible refine Kd.C_drewN ?_ _) | (with_reducible refine Kd.C_drew ?_))); (case side2 => exact (Kd.R_reads' HO_368001.out).2.1); rintro e w31 ⟨rfl, hb⟩; have n0_ := Aside0.mk (Kd.R_below (by (with_reducible repeat (first | apply Kd.R_alloc | apply Kd.R_drewN | apply Kd.R_drew)); exact HO_362001.out) hb); have n1_ := Aside0.mk (Kd.R_below (by (with_reducible repeat (first | apply Kd.R_alloc | apply Kd.R_drewN | apply Kd.R_drew)); exact HO_368001.out) hb); have n2_ := Aside0.mk (blk_below (g := gb361) (o := .cells #[.int .i64 t356, .slice Ao12 t357.length co12] 25 (0, 0)) (by (with_reducible repeat (first | refine blk_drewN ?_ _ | refine blk_drew ?_ | refine blk_alloc ?_ _)); exact BK361.out) hb); have n3_ := Aside0.mk (blk_below (g := gb367) (o := .cells #[.int .i64 t362, .slice Ao17 t363.length co17] 25 (0, 0)) (by (with_reducible repeat (first | refine blk_drewN ?_ _ | refine blk_drew ?_ | refine blk_alloc ?_ _)); exact BK367.out) hb); have n4_ := Aside0.mk (below_step (by repeat (first | (with_reducible first | exact HB.out | apply below_alloc | apply pw_below_drewN | apply below_drew1 | refine below_set ?_ GE361.out | refine below_set ?_ GE367.out) | exact HB.out)) hb); clear HO_362001; clear HO_368001; clear BK361; clear BK367; clear HB; have HO_362001 := n0_; have HO_368001 := n1_; have BK361 := n2_; have BK367 := n3_; have HB := n4_; clear n0_ n1_ n2_ n3_ n4_; (try clear hb); (try clear hb2); (try clear hk); (try clear hi)) | (go_at_call 12; (with_reducible refine (commodatumlaw12_Awake.calls kj7  t370 _ ?side1 A26.out).mono ?_); (case side1 => exact Laid.below HLAY.out (by repeat (first | (with_reducible first | exact HB.out | apply below_alloc | apply pw_below_drewN | apply below_drew1 | refine below_set ?_ GE361.out | refine below_set ?_ GE367.out) | exact HB.out))); rintro e w32 ⟨rfl, hb⟩; have n0_ := Aside0.mk (Kd.R_below (by (with_reducible repeat (first | apply Kd.R_alloc | apply Kd.R_drewN | apply Kd.R_drew)); exact HO_362001.out) hb); have n1_ := Aside0.mk (Kd.R_below (by (with_reducible repeat (first | apply Kd.R_alloc | apply Kd.R_drewN | apply Kd.R_drew)); exact HO_368001.out) hb); have n2_ := Aside0.mk (blk_below (g := gb361) (o := .cells #[.int .i64 t356, .slice Ao12 t357.length co12] 25 (0, 0)) (by (with_reducible repeat (first | refine blk_drewN ?_ _ | refine blk_drew ?_ | refine blk_alloc ?_ _)); exact BK361.out) hb); have n3_ := Aside0.mk (blk_below (g := gb367) (o := .cells #[.int .i64 t362, .slice Ao17 t363.length co17] 25 (0, 0)) (by (with_reducible repeat (first | refine blk_drewN ?_ _ | refine blk_drew ?_ | refine blk_alloc ?_ _)); exact BK367.out) hb); have n4_ := Aside0.mk (below_step (by repeat (first | (with_reducible first | exact HB.out | apply below_alloc | apply pw_below_drewN | apply below_drew1 | refine below_set ?_ GE361.out | refine below_set ?_ GE367.out) | exact HB.out)) hb); clear HO_362001; clear HO_368001; clear BK361; clear BK367; clear HB; have HO_362001 := n0_; have HO_368001 := n1_; have BK361 := n2_; have BK367 := n3_; have HB := n4_; clear n0_ n1_ n2_ n3_ n4_; (try clear hb); (try clear hb2); (try clear hk); (try clear hi)))
         go_ret
         exact ⟨by first | rfl | (simp [errW_none, errW_some] <;> rfl) | (simp [*, errW_none, errW_some] <;> rfl), by repeat (first | (with_reducible first | exact HB.out | apply below_alloc | apply pw_below_drewN | apply below_drew1 | refine below_set ?_ GE361.out | refine below_set ?_ GE367.out) | exact HB.out)⟩
        ·replace c25 := Bool.eq_false_iff.mpr c25
         subst c25
         have H1 : (none) = some r := by rw [if_neg (show ¬ (false = true) by decide)] at H; exact H
         exact absurd H1 (by simp)
       ·replace c23 := Bool.eq_false_iff.mpr c23
        subst c23
        have H1 : (none) = some r := by rw [if_neg (show ¬ (false = true) by decide)] at H; exact H
        exact absurd H1 (by simp)
      ·rw [if_neg c21] at H
       exact absurd H (by simp)
     ·rw [if_neg c20] at H
      exact absurd H (by simp)
    ·replace c19 := Bool.eq_false_iff.mpr c19
     subst c19
     have H1 : (if t360 = 0 then (if t366 = 0 then ((commodatumlaw12_conjunction.f kj7 t356 t357 a0 (wrap64 ((wrap64 (a0 + 1)) + (mx 0 (wrap64 (a0 - 2))))) (mx 1 (wrap64 (4 * a0))) l1).bind fun t371 => (if t371 = true then ((commodatumlaw12_conjunction.f kj7 t362 t363 a0 (wrap64 (a0 + 2)) (mx 1 (wrap64 (8 * a0))) l1).bind fun t372 => (if t372 = true then ((commodatumlaw12_Awake.f kj7).bind fun t373 => (some t373)) else (none))) else (none))) else (none)) else (none)) = some r := by rw [if_neg (show ¬ (false = true) by decide)] at H; exact H
     clear H
     have H := H1
     clear H1
     by_cases c41 : t360 = 0
     ·rw [if_pos c41] at H
      have c41b0 : (t360 == 0) = true := beq_iff_eq.mpr c41
      have c41b1 : (t360 != 0) = false := bne_eq_false_iff_eq.mpr c41
      clear c41
      by_cases c42 : t366 = 0
      ·rw [if_pos c42] at H
       have c42b0 : (t366 == 0) = true := beq_iff_eq.mpr c42
       have c42b1 : (t366 != 0) = false := bne_eq_false_iff_eq.mpr c42
       clear c42
       obtain ⟨ji43, hji43⟩ : ∃ j_ : Int, (mx 0 (wrap64 (a0 - 2))) = j_ := ⟨_, rfl⟩
       replace H : ((commodatumlaw12_conjunction.f kj7 t356 t357 a0 (wrap64 ((wrap64 (a0 + 1)) + (ji43))) (mx 1 (wrap64 (4 * a0))) l1).bind fun t371 => (if t371 = true then ((commodatumlaw12_conjunction.f kj7 t362 t363 a0 (wrap64 (a0 + 2)) (mx 1 (wrap64 (8 * a0))) l1).bind fun t372 => (if t372 = true then ((commodatumlaw12_Awake.f kj7).bind fun t373 => (some t373)) else (none))) else (none))) = some r := by first | (rw [hji43] at H; exact H) | (simp only [hji43] at H ⊢; exact H)
       have hji43_ : (if 0 < (wrap64 (a0 - 2)) then (wrap64 (a0 - 2)) else 0) = ji43 := hji43
       obtain ⟨ji44, hji44⟩ : ∃ j_ : Int, (mx 1 (wrap64 (4 * a0))) = j_ := ⟨_, rfl⟩
       replace H : ((commodatumlaw12_conjunction.f kj7 t356 t357 a0 (wrap64 ((wrap64 (a0 + 1)) + (ji43))) (ji44) l1).bind fun t371 => (if t371 = true then ((commodatumlaw12_conjunction.f kj7 t362 t363 a0 (wrap64 (a0 + 2)) (mx 1 (wrap64 (8 * a0))) l1).bind fun t372 => (if t372 = true then ((commodatumlaw12_Awake.f kj7).bind fun t373 => (some t373)) else (none))) else (none))) = some r := by first | (rw [hji44] at H; exact H) | (simp only [hji44] at H ⊢; exact H)
       have hji44_ : (if 1 < (wrap64 (4 * a0)) then (wrap64 (4 * a0)) else 1) = ji44 := hji44
       replace H := Option.bind_eq_some_iff.mp H
       obtain ⟨t371, A450, H⟩ := H
       replace H : (if t371 = true then ((commodatumlaw12_conjunction.f kj7 t362 t363 a0 (wrap64 (a0 + 2)) (mx 1 (wrap64 (8 * a0))) l1).bind fun t372 => (if t372 = true then ((commodatumlaw12_Awake.f kj7).bind fun t373 => (some t373)) else (none))) else (none)) = some r := H
       have A45 := Aside0.mk A450
       clear A450
       by_cases c46 : t371 = true
       ·subst c46
        have H1 : ((commodatumlaw12_conjunction.f kj7 t362 t363 a0 (wrap64 (a0 + 2)) (mx 1 (wrap64 (8 * a0))) l1).bind fun t372 => (if t372 = true then ((commodatumlaw12_Awake.f kj7).bind fun t373 => (some t373)) else (none))) = some r := by rw [if_pos rfl] at H; exact H
        clear H
        have H := H1
        clear H1
        obtain ⟨ji47, hji47⟩ : ∃ j_ : Int, (mx 1 (wrap64 (8 * a0))) = j_ := ⟨_, rfl⟩
        replace H : ((commodatumlaw12_conjunction.f kj7 t362 t363 a0 (wrap64 (a0 + 2)) (ji47) l1).bind fun t372 => (if t372 = true then ((commodatumlaw12_Awake.f kj7).bind fun t373 => (some t373)) else (none))) = some r := by first | (rw [hji47] at H; exact H) | (simp only [hji47] at H ⊢; exact H)
        (try rw [hji47] at A45)
        have hji47_ : (if 1 < (wrap64 (8 * a0)) then (wrap64 (8 * a0)) else 1) = ji47 := hji47
        replace H := Option.bind_eq_some_iff.mp H
        obtain ⟨t372, A480, H⟩ := H
        replace H : (if t372 = true then ((commodatumlaw12_Awake.f kj7).bind fun t373 => (some t373)) else (none)) = some r := H
        have A48 := Aside0.mk A480
        clear A480
        by_cases c49 : t372 = true
        ·subst c49
         have H1 : ((commodatumlaw12_Awake.f kj7).bind fun t373 => (some t373)) = some r := by rw [if_pos rfl] at H; exact H
         clear H
         have H := H1
         clear H1
         replace H := Option.bind_eq_some_iff.mp H
         obtain ⟨t373, A500, H⟩ := H
         replace H : (some t373) = some r := H
         have A50 := Aside0.mk A500
         clear A500
         obtain rfl := Option.some.inj H
         have hnb51 := NB361_367.out
         have hnc51 := NB367_361.out
         have hcz52_0 : wc.cell? ⟨gb361, 0, none⟩ = some (.int .i64 t356) := (blk_cell BK361.out 0).trans rfl
         have hcz52_1 : wc.cell? ⟨gb361, 1, none⟩ = some (.slice Ao12 t357.length co12) := (blk_cell BK361.out 1).trans rfl
         have hfz52_0 := blk_frozen BK361.out 0
         have hfz52_1 := blk_frozen BK361.out 1
         go_wp2_with (first | (go_at_call 43; (with_reducible refine (commodatumlaw12_conjunction.calls kj7 t356 _ _ t357 a0 (wrap64 ((wrap64 (a0 + 1)) + (ji43))) ji44 _ _ l1 true _ ?side1 ?side2 ?side3 ?side4 A45.out).mono ?_); (case side1 => repeat (first | exact (Kd.R_reads' HO_362001.out).2.2 | (with_reducible refine Kd.C_alloc ?_ _) | (with_reducible refine Kd.C_drewN ?_ _) | (with_reducible refine Kd.C_drew ?_))); (case side2 => exact (Kd.R_reads' HO_362001.out).2.1); (case side3 => repeat (first | exact (Kd.C_below HR1.out HB.out) | (with_reducible refine Kd.C_alloc ?_ _) | (with_reducible refine Kd.C_drewN ?_ _) | (with_reducible refine Kd.C_drew ?_))); (case side4 => exact HC1.out); rintro e w53 ⟨rfl, hb⟩; have n0_ := Aside0.mk (Kd.R_below (by (with_reducible repeat (first | apply Kd.R_alloc | apply Kd.R_drewN | apply Kd.R_drew)); exact HO_362001.out) hb); have n1_ := Aside0.mk (Kd.R_below (by (with_reducible repeat (first | apply Kd.R_alloc | apply Kd.R_drewN | apply Kd.R_drew)); exact HO_368001.out) hb); have n2_ := Aside0.mk (blk_below (g := gb361) (o := .cells #[.int .i64 t356, .slice Ao12 t357.length co12] 25 (0, 0)) (by (with_reducible repeat (first | refine blk_drewN ?_ _ | refine blk_drew ?_ | refine blk_alloc ?_ _)); exact BK361.out) hb); have n3_ := Aside0.mk (blk_below (g := gb367) (o := .cells #[.int .i64 t362, .slice Ao17 t363.length co17] 25 (0, 0)) (by (with_reducible repeat (first | refine blk_drewN ?_ _ | refine blk_drew ?_ | refine blk_alloc ?_ _)); exact BK367.out) hb); have n4_ := Aside0.mk (below_step (by repeat (first | (with_reducible first | exact HB.out | apply below_alloc | apply pw_below_drewN | apply below_drew1 | refine below_set ?_ GE361.out | refine below_set ?_ GE367.out) | exact HB.out)) hb); clear HO_362001; clear HO_368001; clear BK361; clear BK367; clear HB; have HO_362001 := n0_; have HO_368001 := n1_; have BK361 := n2_; have BK367 := n3_; have HB := n4_; clear n0_ n1_ n2_ n3_ n4_; (try clear hb); (try clear hb2); (try clear hk); (try clear hi); have hcz54_0 : w53.cell? ⟨gb367, 0, none⟩ = some (.int .i64 t362) := (blk_cell BK367.out 0).trans rfl; have hcz54_1 : w53.cell? ⟨gb367, 1, none⟩ = some (.slice Ao17 t363.length co17) := (blk_cell BK367.out 1).trans rfl; have hfz54_0 := blk_frozen BK367.out 0; have hfz54_1 := blk_frozen BK367.out 1) | (go_at_call 43; (with_reducible refine (commodatumlaw12_conjunction.calls kj7 t362 _ _ t363 a0 (wrap64 (a0 + 2)) ji47 _ _ l1 true _ ?side1 ?side2 ?side3 ?side4 A48.out).mono ?_); (case side1 => repeat (first | exact (Kd.R_reads' HO_368001.out).2.2 | (with_reducible refine Kd.C_alloc ?_ _) | (with_reducible refine Kd.C_drewN ?_ _) | (with_reducible refine Kd.C_drew ?_))); (case side2 => exact (Kd.R_reads' HO_368001.out).2.1); (case side3 => repeat (first | exact (Kd.C_below HR1.out HB.out) | (with_reducible refine Kd.C_alloc ?_ _) | (with_reducible refine Kd.C_drewN ?_ _) | (with_reducible refine Kd.C_drew ?_))); (case side4 => exact HC1.out); rintro e w55 ⟨rfl, hb⟩; have n0_ := Aside0.mk (Kd.R_below (by (with_reducible repeat (first | apply Kd.R_alloc | apply Kd.R_drewN | apply Kd.R_drew)); exact HO_362001.out) hb); have n1_ := Aside0.mk (Kd.R_below (by (with_reducible repeat (first | apply Kd.R_alloc | apply Kd.R_drewN | apply Kd.R_drew)); exact HO_368001.out) hb); have n2_ := Aside0.mk (blk_below (g := gb361) (o := .cells #[.int .i64 t356, .slice Ao12 t357.length co12] 25 (0, 0)) (by (with_reducible repeat (first | refine blk_drewN ?_ _ | refine blk_drew ?_ | refine blk_alloc ?_ _)); exact BK361.out) hb); have n3_ := Aside0.mk (blk_below (g := gb367) (o := .cells #[.int .i64 t362, .slice Ao17 t363.length co17] 25 (0, 0)) (by (with_reducible repeat (first | refine blk_drewN ?_ _ | refine blk_drew ?_ | refine blk_alloc ?_ _)); exact BK367.out) hb); have n4_ := Aside0.mk (below_step (by repeat (first | (with_reducible first | exact HB.out | apply below_alloc | apply pw_below_drewN | apply below_drew1 | refine below_set ?_ GE361.out | refine below_set ?_ GE367.out) | exact HB.out)) hb); clear HO_362001; clear HO_368001; clear BK361; clear BK367; clear HB; have HO_362001 := n0_; have HO_368001 := n1_; have BK361 := n2_; have BK367 := n3_; have HB := n4_; clear n0_ n1_ n2_ n3_ n4_; (try clear hb); (try clear hb2); (try clear hk); (try clear hi)) | (go_at_call 12; (with_reducible refine (commodatumlaw12_Awake.calls kj7  t373 _ ?side1 A50.out).mono ?_); (case side1 => exact Laid.below HLAY.out (by repeat (first | (with_reducible first | exact HB.out | apply below_alloc | apply pw_below_drewN | apply below_drew1 | refine below_set ?_ GE361.out | refine below_set ?_ GE367.out) | exact HB.out))); rintro e w56 ⟨rfl, hb⟩; have n0_ := Aside0.mk (Kd.R_below (by (with_reducible repeat (first | apply Kd.R_alloc | apply Kd.R_drewN | apply Kd.R_drew)); exact HO_362001.out) hb); have n1_ := Aside0.mk (Kd.R_below (by (with_reducible repeat (first | apply Kd.R_alloc | apply Kd.R_drewN | apply Kd.R_drew)); exact HO_368001.out) hb); have n2_ := Aside0.mk (blk_below (g := gb361) (o := .cells #[.int .i64 t356, .slice Ao12 t357.length co12] 25 (0, 0)) (by (with_reducible repeat (first | refine blk_drewN ?_ _ | refine blk_drew ?_ | refine blk_alloc ?_ _)); exact BK361.out) hb); have n3_ := Aside0.mk (blk_below (g := gb367) (o := .cells #[.int .i64 t362, .slice Ao17 t363.length co17] 25 (0, 0)) (by (with_reducible repeat (first | refine blk_drewN ?_ _ | refine blk_drew ?_ | refine blk_alloc ?_ _)); exact BK367.out) hb); have n4_ := Aside0.mk (below_step (by repeat (first | (with_reducible first | exact HB.out | apply below_alloc | apply pw_below_drewN | apply below_drew1 | refine below_set ?_ GE361.out | refine below_set ?_ GE367.out) | exact HB.out)) hb); clear HO_362001; clear HO_368001; clear BK361; clear BK367; clear HB; have HO_362001 := n0_; have HO_368001 := n1_; have BK361 := n2_; have BK367 := n3_; have HB := n4_; clear n0_ n1_ n2_ n3_ n4_; (try clear hb); (try clear hb2); (try clear hk); (try clear hi)))
         go_ret
         exact ⟨by first | rfl | (simp [errW_none, errW_some] <;> rfl) | (simp only [← hji43, ← hji44, ← hji47]; first | rfl | (simp [errW_none, errW_some] <;> rfl)) | (simp [*, errW_none, errW_some] <;> rfl), by repeat (first | (with_reducible first | exact HB.out | apply below_alloc | apply pw_below_drewN | apply below_drew1 | refine below_set ?_ GE361.out | refine below_set ?_ GE367.out) | exact HB.out)⟩
        ·replace c49 := Bool.eq_false_iff.mpr c49
         subst c49
         have H1 : (none) = some r := by rw [if_neg (show ¬ (false = true) by decide)] at H; exact H
         exact absurd H1 (by simp)
       ·replace c46 := Bool.eq_false_iff.mpr c46
        subst c46
        have H1 : (none) = some r := by rw [if_neg (show ¬ (false = true) by decide)] at H; exact H
        exact absurd H1 (by simp)
      ·rw [if_neg c42] at H
       exact absurd H (by simp)
     ·rw [if_neg c41] at H
      exact absurd H (by simp)
end Go.Proofs.YthfhnkpipdbekaaDoor.Tj
