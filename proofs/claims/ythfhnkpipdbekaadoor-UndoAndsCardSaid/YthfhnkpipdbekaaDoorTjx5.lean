-- CUT by a program of this session: what the claim does not use is left out
import Derived.Test.YthfhnkpipdbekaaDoorUax0
import Derived.Test.YthfhnkpipdbekaaDoorProg
import Derived.Below
import Derived.Deep.Draws
import Derived.Deep.AppendLies
import Derived.Maps.AppendAt
import Derived.OwnWalk
import Derived.Laws.BytesArg
import Derived.Laws.MakeOwn
import Derived.Laws.OwnMore
import Derived.Deep.OwnRows
import Derived.Tactics
import Derived.Lib.ConvBytes
import Derived.Laws.Slices
import Derived.WalkKit
import Derived.KernelRfl
import Derived.RowKit3
import Derived.Deep.LoopGhost
import Derived.Deep.QuietTactic
import Derived.BigQuiet
import Derived.WideLaws
import Derived.Deep.DeepCutAuto
import Derived.Deep.CutBlock
import Derived.Deep.RegionHeld3
import Derived.Laws.Rows
import Derived.Lib.AppendStr
import Derived.ArgAppend
import Derived.Laws.IdiomCopy
import Derived.OrdersHeld
import Derived.Laws.BitsLemmas
import Derived.RowKit
import Derived.Test.YthfhnkpipdbekaaDoorN12
import Derived.Test.YthfhnkpipdbekaaDoorN6
import Derived.Test.YthfhnkpipdbekaaDoorWAll
import Derived.Test.YthfhnkpipdbekaaDoorTax5
import Derived.Test.YthfhnkpipdbekaaDoorTax6
import Derived.Test.YthfhnkpipdbekaaDoorTax1
import Derived.Test.YthfhnkpipdbekaaDoorTax13
import Derived.Test.YthfhnkpipdbekaaDoorTax2
import Derived.Test.YthfhnkpipdbekaaDoorTax3
import Derived.Test.YthfhnkpipdbekaaDoorTax4
import Derived.Test.YthfhnkpipdbekaaDoorTax7
import Derived.Test.YthfhnkpipdbekaaDoorTxx1
import Derived.Test.YthfhnkpipdbekaaDoorTxx2
import Derived.Test.YthfhnkpipdbekaaDoorTbx1
import Derived.Test.YthfhnkpipdbekaaDoorN15
import Derived.Test.YthfhnkpipdbekaaDoorTjx4
namespace Go.Proofs.YthfhnkpipdbekaaDoor.Tj
open Go.Proofs.YthfhnkpipdbekaaDoor.Ua
open Go.Proofs.YthfhnkpipdbekaaDoor.Giv
open Go.Proofs.YthfhnkpipdbekaaDoor.Ta (api_RevOp_68.f api_RevOp_68.calls undo_enumerable.f undo_enumerable.calls undo_final.f undo_final.calls undo_final.mono undo_Dirty.f undo_Dirty.calls undo_Dirty.mono undo_Inverse.f undo_Permutation.f undo_Restores.f commodatumref12_op.f commodatumref12_op.calls commodatumref12_Bits.f commodatumref12_Bits.calls commodatumref12_Valid.f commodatumref12_Valid.calls commodatumref12_Run.f commodatumref12_Run.calls commodatumref12_Flips.f commodatumref12_Flips.calls commodatumlaw12_none.f commodatumlaw12_none.calls commodatumlaw12_spread.f commodatumlaw12_spread.calls commodatumref12_Equal.f commodatumref12_Equal.calls commodatumref12_Equal.mono)
open Go.Proofs.YthfhnkpipdbekaaDoor.Tx (slices_Index_string_string.f slices_Index_string_string.calls undo_numbers.f undo_numbers.calls commodatumlaw12_all.f commodatumlaw12_all.calls)
open Go.Proofs.YthfhnkpipdbekaaDoor.Ui (bits_Input.f bits_Input.calls bits_Input.mono slices_Equal_bool_bool.f slices_Equal_bool_bool.calls slices_Equal_bool_bool.mono)
open Go.Proofs.YthfhnkpipdbekaaDoor.Tb (commodatumlaw12_Awake.f commodatumlaw12_Awake.calls commodatumlaw12_Awake.mono)
open Go.RowKit Go.Proofs.YthfhnkpipdbekaaDoorW.PrintWords Go.Proofs.YthfhnkpipdbekaaDoorW.PrintLast Go.Proofs.YthfhnkpipdbekaaDoorW.PrintMore
attribute [local go_sem] max2_int min2_int max_two min_two max_three min_three max_four min_four   -- for this text's walks alone
set_option linter.unusedVariables false
set_option linter.unusedSimpArgs false


def undo_And.j0 : Nat → Int → Bool → Option (Int × (List (S67)) × Int)
 | 0, _, _ => none
 | k + 1, x0, x10 => if x10 = true then (some (0, ([] : List (S67)), 2)) else ((undo_numbers.f k 0 x0).bind fun t278 => ((undo_numbers.f k (wrap64 (x0 + 1)) (wrap64 ((wrap64 (x0 + 1)) + (mx 0 (wrap64 (x0 - 2)))))).bind fun t281 => ((undo_Controlled.f k x0 t278 t281).bind fun t284 => (some (wrap64 ((wrap64 (x0 + 1)) + (mx 0 (wrap64 (x0 - 2)))), t284, 0)))))
def undo_And.f (k : Nat) (a0 : Int) : Option (Int × (List (S67)) × Int) := if a0 < 0 then (undo_And.j0 k a0 true) else (undo_And.j0 k a0 (decide (a0 > 300)))
set_option maxHeartbeats 8000000 in
set_option maxRecDepth 100000 in
theorem undo_And.calls (k : Nat) (a0 : Int) (r1 : Int) (r2 : List (S67)) (r3 : Int) (w : World) (h : undo_And.f k a0 = some (r1, r2, r3)) :
  Calls Tryd.prog 41 #[.int .i64 a0] w fun e w' => ∃ v1_ : Value, e = .returned (.tuple #[.agg #[.int .i64 r1, v1_], .int .i64 r3]) ∧ Kd.R k67 67 w' w.heap.size (fun _ => True) v1_ r2 ∧ Below w.heap.size w w' := by
 have hu25 := Tryd.underlying25
 have HB := Aside0.mk (Below.refl w.heap.size w)
 have H : (if a0 < 0 then (undo_And.j0 k a0 true) else (undo_And.j0 k a0 (decide (a0 > 300)))) = some (r1, r2, r3) := h
 clear h
 have HC2 := Aside0.mk H
 clear H
 go_enter Tryd.func41, Tryd.ntmps41
 go_upto_region 1 with (first | ((with_reducible refine gate_dst (N := 2) rfl ?_); refine box_event ?hg (N := 2) ?hd (cs := #[.int .i64 0, .slice none 0 0]) (t := 25) ?hr ?_; (case hd => rfl); (case hg => rfl); (case hr => first | (go_simp; done) | (go_simp; rfl)); intro gb277 hg w3 hbox hb; have BK277 := Aside0.mk (hbox); have GW277 := Aside0.mk ((by rw [hg]; exact (below_size (by (with_reducible apply_rules [HB.out, below_alloc, pw_below_drewN, below_drew1]))) : w.heap.size ≤ gb277)); have GE277 := Aside0.mk ((by rw [hg]; exact (below_size (by (with_reducible apply_rules [HB.out, below_alloc, pw_below_drewN, below_drew1]))) : w.heap.size ≤ gb277)); replace HB := Aside0.mk (below_step (by (with_reducible apply_rules [HB.out, below_alloc, pw_below_drewN, below_drew1])) hb); clear hb hbox hg))
 (try simp only [Act.put, List.setIfInBounds_toArray, List.set_cons_zero, List.set_cons_succ])
 go_cut [10] (fun v10 wc => ∃ (kq : Nat) (x10_1 : Bool), v10 = .bool x10_1 ∧ Aside0 (undo_And.j0 kq a0 x10_1 = some (r1, r2, r3)) ∧ Aside0 (kq ≤ k) ∧ Aside0 (wc.heap[gb277]? = some (.cells #[.int .i64 0, (.slice none 0 0)] 25 (0, 0))) ∧ Aside0 (Below w.heap.size w wc))
 case first =>
  have H := HC2.out
  clear HC2
  by_cases c4 : a0 < 0
  ·rw [if_pos c4] at H
   have c4b0 : decide (a0 < 0) = true := decide_eq_true c4
   clear c4
   (first | rw [c4b0] | (simp only [i64_w, i32_w]; rw [c4b0]) | skip)
   have H' := Aside0.mk H
   clear H
   go_wp2
   go_meet
   case rel => exact ⟨_, (true), (by first | rfl | (simp; done) | (simp [*]; done)), H', ⟨by first | omega | exact Nat.le_refl _⟩, ⟨by with_reducible apply_rules [BK277.out, blk_drewN, blk_drew, blk_alloc]⟩, ⟨by (with_reducible apply_rules [HB.out, below_alloc, pw_below_drewN, below_drew1, below_set, GE277.out])⟩⟩
  ·rw [if_neg c4] at H
   have c4b0 : decide (a0 < 0) = false := decide_eq_false c4
   clear c4
   (first | rw [c4b0] | (simp only [i64_w, i32_w]; rw [c4b0]) | skip)
   have H' := Aside0.mk H
   clear H
   go_wp2
   go_meet
   case rel => exact ⟨_, (decide (a0 > 300)), (by first | rfl | (simp; done) | (simp [*]; done)), H', ⟨by first | omega | exact Nat.le_refl _⟩, ⟨by with_reducible apply_rules [BK277.out, blk_drewN, blk_drew, blk_alloc]⟩, ⟨by (with_reducible apply_rules [HB.out, below_alloc, pw_below_drewN, below_drew1, below_set, GE277.out])⟩⟩
 case rest =>
  clear HC2
  try clear p2
  try clear c4
  try clear c4b0
  obtain ⟨kq, x10_1, rfl, HA, HJ1, BK277, HB⟩ := hcut
  cases kq with
  | zero => exact absurd HA.out (by simp [undo_And.j0])
  | succ kj1 =>
   have H := HA.out
   clear HA
   simp only [undo_And.j0] at H
   by_cases c5 : x10_1 = true
   ·subst c5
    have H1 : (some (0, ([] : List (S67)), 2)) = some (r1, r2, r3) := by rw [if_pos rfl] at H; exact H
    clear H
    have H := H1
    clear H1
    simp only [Option.some.injEq, Prod.mk.injEq] at H
    obtain ⟨rfl, rfl, rfl⟩ := H
    have hcz6_0 : wc.cell? ⟨gb277, 0, none⟩ = some (.int .i64 0) := (blk_cell BK277.out 0).trans rfl
    have hcz6_1 : wc.cell? ⟨gb277, 1, none⟩ = some (.slice none 0 0) := (blk_cell BK277.out 1).trans rfl
    have hfz6_0 := blk_frozen BK277.out 0
    have hfz6_1 := blk_frozen BK277.out 1
    go_wp2
    refine bodyPost_ret (results_ct rfl _ _ gb277 25 #[.int .i64 0, .slice none 0 0] (0, 0) _ rfl (by (with_reducible repeat (first | refine blk_drewN ?_ _ | refine blk_drew ?_ | refine blk_alloc ?_ _)); refine blk_put (cs := #[.int .i64 0, .slice none 0 0]) ?_ 1 _ rfl; (with_reducible repeat (first | refine blk_drewN ?_ _ | refine blk_drew ?_ | refine blk_alloc ?_ _)); refine blk_put (cs := #[.int .i64 0, .slice none 0 0]) ?_ 0 _ rfl; with_reducible apply_rules [BK277.out, blk_drewN, blk_drew, blk_alloc]) Tryd.underlying25 rfl (by kernel_rfl)) rfl ?_
    exact ⟨_, by first | rfl | (simp [errW_none, errW_some] <;> rfl) | (simp [*, errW_none, errW_some] <;> rfl), by first | exact Kd.R_nil _ _ _ _ _ | exact Kd.N_nil _ _ _ _ _ | exact Kd.V_nil _ _ _ _ _ | exact Kd.Q_nil _ _ _ _ _ | exact Kd.S_nil _ _ _ _ _, by (with_reducible apply_rules [HB.out, below_alloc, pw_below_drewN, below_drew1, below_set, GE277.out])⟩
   ·replace c5 := Bool.eq_false_iff.mpr c5
    subst c5
    have H1 : ((undo_numbers.f kj1 0 a0).bind fun t278 => ((undo_numbers.f kj1 (wrap64 (a0 + 1)) (wrap64 ((wrap64 (a0 + 1)) + (mx 0 (wrap64 (a0 - 2)))))).bind fun t281 => ((undo_Controlled.f kj1 a0 t278 t281).bind fun t284 => (some (wrap64 ((wrap64 (a0 + 1)) + (mx 0 (wrap64 (a0 - 2)))), t284, 0))))) = some (r1, r2, r3) := by rw [if_neg (show ¬ (false = true) by decide)] at H; exact H
    clear H
    have H := H1
    clear H1
    obtain ⟨ji7, hji7⟩ : ∃ j_ : Int, (mx 0 (wrap64 (a0 - 2))) = j_ := ⟨_, rfl⟩
    replace H : ((undo_numbers.f kj1 0 a0).bind fun t278 => ((undo_numbers.f kj1 (wrap64 (a0 + 1)) (wrap64 ((wrap64 (a0 + 1)) + (ji7)))).bind fun t281 => ((undo_Controlled.f kj1 a0 t278 t281).bind fun t284 => (some (wrap64 ((wrap64 (a0 + 1)) + (ji7)), t284, 0))))) = some (r1, r2, r3) := by first | (rw [hji7] at H; exact H) | (simp only [hji7] at H ⊢; exact H)
    have hji7_ : (if 0 < (wrap64 (a0 - 2)) then (wrap64 (a0 - 2)) else 0) = ji7 := hji7
    replace H := Option.bind_eq_some_iff.mp H
    obtain ⟨t278, A80, H⟩ := H
    replace H : ((undo_numbers.f kj1 (wrap64 (a0 + 1)) (wrap64 ((wrap64 (a0 + 1)) + (ji7)))).bind fun t281 => ((undo_Controlled.f kj1 a0 t278 t281).bind fun t284 => (some (wrap64 ((wrap64 (a0 + 1)) + (ji7)), t284, 0)))) = some (r1, r2, r3) := H
    have A8 := Aside0.mk A80
    clear A80
    replace H := Option.bind_eq_some_iff.mp H
    obtain ⟨t281, A90, H⟩ := H
    replace H : ((undo_Controlled.f kj1 a0 t278 t281).bind fun t284 => (some (wrap64 ((wrap64 (a0 + 1)) + (ji7)), t284, 0))) = some (r1, r2, r3) := H
    have A9 := Aside0.mk A90
    clear A90
    replace H := Option.bind_eq_some_iff.mp H
    obtain ⟨t284, A100, H⟩ := H
    replace H : (some (wrap64 ((wrap64 (a0 + 1)) + (ji7)), t284, 0)) = some (r1, r2, r3) := H
    have A10 := Aside0.mk A100
    clear A100
    simp only [Option.some.injEq, Prod.mk.injEq] at H
    obtain ⟨rfl, rfl, rfl⟩ := H
    go_wp2_with (first | ((with_reducible refine gate_callee (f := 73) rfl ?_); refine goesL_ (some 21) rfl rfl Tryd.func73 (by kernel_rfl) rfl #[.int .i64 0, .int .i64 a0] rfl (by (try simp only [List.map_toArray, List.map_cons, List.map_nil]); first | done | rfl | (simp only [List.length_drop, List.length_take]; rfl)) ?_; (with_reducible refine (undo_numbers.calls kj1 0 a0 t278 _ A8.out).mono ?_); rintro e w11 ⟨v279, rfl, ho0, hb⟩; refine ⟨_, rfl, ?_⟩; have HO280 := Aside0.mk (Kd.R_lower ho0 (below_size (by (with_reducible apply_rules [HB.out, below_alloc, pw_below_drewN, below_drew1, below_set, GE277.out])))); replace BK277 := Aside0.mk (blk_below (g := gb277) (o := .cells #[.int .i64 0, .slice none 0 0] 25 (0, 0)) (by with_reducible apply_rules [BK277.out, blk_drewN, blk_drew, blk_alloc]) hb); replace HB := Aside0.mk (below_step (by (with_reducible apply_rules [HB.out, below_alloc, pw_below_drewN, below_drew1, below_set, GE277.out])) hb); (try clear hb); (try clear hb2); (try clear hk); (try clear hi); (try clear ho0)) | ((with_reducible refine gate_callee (f := 73) rfl ?_); refine goesL_ (some 25) rfl rfl Tryd.func73 (by kernel_rfl) rfl #[.int .i64 (wrap64 (a0 + 1)), .int .i64 (wrap64 ((wrap64 (a0 + 1)) + (ji7)))] rfl (by (try simp only [List.map_toArray, List.map_cons, List.map_nil]); first | done | (simp only [hji7]; rfl) | rfl | (simp only [List.length_drop, List.length_take]; rfl)) ?_; (with_reducible refine (undo_numbers.calls kj1 (wrap64 (a0 + 1)) (wrap64 ((wrap64 (a0 + 1)) + (ji7))) t281 _ A9.out).mono ?_); rintro e w12 ⟨v282, rfl, ho0, hb⟩; refine ⟨_, rfl, ?_⟩; have HO283 := Aside0.mk (Kd.R_lower (Kd.R_new' ho0 (Kd.R_lt (by with_reducible apply_rules [HO280.out, Kd.R_alloc, Kd.R_drewN, Kd.R_drew]))) (below_size (by (with_reducible apply_rules [HB.out, below_alloc, pw_below_drewN, below_drew1, below_set, GE277.out])))); replace HO280 := Aside0.mk (Kd.R_elder' (by with_reducible apply_rules [HO280.out, Kd.R_alloc, Kd.R_drewN, Kd.R_drew]) (Kd.R_base ho0) hb); replace BK277 := Aside0.mk (blk_below (g := gb277) (o := .cells #[.int .i64 0, .slice none 0 0] 25 (0, 0)) (by with_reducible apply_rules [BK277.out, blk_drewN, blk_drew, blk_alloc]) hb); replace HB := Aside0.mk (below_step (by (with_reducible apply_rules [HB.out, below_alloc, pw_below_drewN, below_drew1, below_set, GE277.out])) hb); (try clear hb); (try clear hb2); (try clear hk); (try clear hi); (try clear ho0); obtain ⟨Ao13, co13, eo13⟩ := Kd.R_slice HO280.out; subst eo13; obtain ⟨Ao14, co14, eo14⟩ := Kd.R_slice HO283.out; subst eo14) | ((with_reducible refine gate_callee (f := 72) rfl ?_); refine goesL_ (some 26) rfl rfl Tryd.func72 (by kernel_rfl) rfl #[.int .i64 a0, .slice Ao13 t278.length co13, .slice Ao14 t281.length co14] rfl (by (try simp only [List.map_toArray, List.map_cons, List.map_nil]); first | done | rfl | (simp only [List.length_drop, List.length_take]; rfl)) ?_; (with_reducible refine (undo_Controlled.calls kj1 a0 _ _ t278 _ _ t281 t284 _ ?side1 ?side2 ?side3 ?side4 A10.out).mono ?_); (case side1 => repeat (first | exact (Kd.R_reads' HO280.out).2.2 | (with_reducible refine Kd.C_alloc ?_ _) | (with_reducible refine Kd.C_drewN ?_ _) | (with_reducible refine Kd.C_drew ?_))); (case side2 => exact (Kd.R_reads' HO280.out).2.1); (case side3 => repeat (first | exact (Kd.R_reads' HO283.out).2.2 | (with_reducible refine Kd.C_alloc ?_ _) | (with_reducible refine Kd.C_drewN ?_ _) | (with_reducible refine Kd.C_drew ?_))); (case side4 => exact (Kd.R_reads' HO283.out).2.1); rintro e w15 ⟨v285, rfl, ho0, hb⟩; refine ⟨_, rfl, ?_⟩; replace HO280 := Aside0.mk (Kd.R_below (by with_reducible apply_rules [HO280.out, Kd.R_alloc, Kd.R_drewN, Kd.R_drew]) hb); replace HO283 := Aside0.mk (Kd.R_below (by with_reducible apply_rules [HO283.out, Kd.R_alloc, Kd.R_drewN, Kd.R_drew]) hb); have HO286 := Aside0.mk (Kd.R_lower ho0 (below_size (by (with_reducible apply_rules [HB.out, below_alloc, pw_below_drewN, below_drew1, below_set, GE277.out])))); replace BK277 := Aside0.mk (blk_below (g := gb277) (o := .cells #[.int .i64 0, .slice none 0 0] 25 (0, 0)) (by with_reducible apply_rules [BK277.out, blk_drewN, blk_drew, blk_alloc]) hb); replace HB := Aside0.mk (below_step (by (with_reducible apply_rules [HB.out, below_alloc, pw_below_drewN, below_drew1, below_set, GE277.out])) hb); (try clear hb); (try clear hb2); (try clear hk); (try clear hi); (try clear ho0); obtain ⟨Ao16, co16, eo16⟩ := Kd.R_slice HO286.out; subst eo16; have hcz17_0 : w15.cell? ⟨gb277, 0, none⟩ = some (.int .i64 0) := (blk_cell BK277.out 0).trans rfl; have hcz17_1 : w15.cell? ⟨gb277, 1, none⟩ = some (.slice none 0 0) := (blk_cell BK277.out 1).trans rfl; have hfz17_0 := blk_frozen BK277.out 0; have hfz17_1 := blk_frozen BK277.out 1))
    refine bodyPost_ret (results_ct rfl _ _ gb277 25 #[.int .i64 (wrap64 ((wrap64 (a0 + 1)) + (ji7))), .slice Ao16 t284.length co16] (0, 0) _ rfl (by (with_reducible repeat (first | refine blk_drewN ?_ _ | refine blk_drew ?_ | refine blk_alloc ?_ _)); refine blk_put (cs := #[.int .i64 (wrap64 ((wrap64 (a0 + 1)) + (ji7))), .slice none 0 0]) ?_ 1 _ rfl; (with_reducible repeat (first | refine blk_drewN ?_ _ | refine blk_drew ?_ | refine blk_alloc ?_ _)); refine blk_put (cs := #[.int .i64 0, .slice none 0 0]) ?_ 0 _ rfl; with_reducible apply_rules [BK277.out, blk_drewN, blk_drew, blk_alloc]) Tryd.underlying25 rfl (by kernel_rfl)) rfl ?_
    exact ⟨_, by first | rfl | (simp [errW_none, errW_some] <;> rfl) | (simp only [← hji7]; first | rfl | (simp [errW_none, errW_some] <;> rfl)) | (simp [*, errW_none, errW_some] <;> rfl), by (with_reducible repeat (first | apply Kd.R_alloc | apply Kd.R_drewN | apply Kd.R_drew)); exact Kd.R_mono (Kd.R_far (p := ⟨gb277, 1, none⟩) (Kd.R_far (p := ⟨gb277, 0, none⟩) (Kd.R_types HO286.out BK277.out (by decide)) (fun _ hk => hk.2) (.int .i64 (wrap64 ((wrap64 (a0 + 1)) + (ji7))))) (fun _ hk => hk.2) (.slice Ao16 t284.length co16)) (fun _ hk => trivial), by (with_reducible apply_rules [HB.out, below_alloc, pw_below_drewN, below_drew1, below_set, GE277.out])⟩


def undo_AndOne.j0 : Nat → Int → Bool → Option (Int × (List (S67)) × Int)
 | 0, _, _ => none
 | k + 1, x0, x10 => if x10 = true then (some (0, ([] : List (S67)), 2)) else (if x0 ≤ 2 then ((undo_And.f k x0).bind fun bt288 => (some (bt288.1, bt288.2.1, bt288.2.2))) else ((undo_numbers.f k 0 (wrap64 (Int.tdiv (wrap64 (x0 + 1)) 2))).bind fun t293 => ((undo_numbers.f k (wrap64 (Int.tdiv (wrap64 (x0 + 1)) 2)) x0).bind fun t296 => ((slices_Clone_ints.f t296).bind fun t299 => (if t299.length < 17592186044416 then ((undo_Controlled.f k (wrap64 (x0 + 1)) t293 (t299 ++ [x0])).bind fun t305 => ((slices_Clone_ints.f t296).bind fun t308 => (if t308.length < 17592186044416 then ((undo_Controlled.f k x0 (t308 ++ [wrap64 (x0 + 1)]) t293).bind fun t314 => ((slices_Concat_ops.f (([t305, t314, t305, t314] : List (List (S67))))).bind fun t320 => (some (wrap64 (x0 + 2), t320, 0)))) else (none)))) else (none))))))
def undo_AndOne.f (k : Nat) (a0 : Int) : Option (Int × (List (S67)) × Int) := if a0 < 0 then (undo_AndOne.j0 k a0 true) else (undo_AndOne.j0 k a0 (decide (a0 > 300)))
open Go.Proofs.YthfhnkpipdbekaaDoorW.PrintWords renaming Kd.R_alloc → rA, Kd.R_drewN → rB, Kd.R_drew → rC, blk_drewN → bA, blk_drew → bB, blk_alloc → bC, below_set → sT, Aside0.mk → aM, pw_below_drewN → pD, below_drew1 → pE, below_alloc → pA, Kd.R_below → rD, below_step → pS_, Kd.R_mono → rE
set_option maxHeartbeats 8000000 in
set_option maxRecDepth 100000 in
theorem undo_AndOne.calls (k : Nat) (a0 : Int) (r1 : Int) (r2 : List (S67)) (r3 : Int) (w : World) (h : undo_AndOne.f k a0 = some (r1, r2, r3)) :
  Calls Tryd.prog 42 #[.int .i64 a0] w fun e w' => ∃ v1_ : Value, e = .returned (.tuple #[.agg #[.int .i64 r1, v1_], .int .i64 r3]) ∧ Kd.R k67 67 w' w.heap.size (fun _ => True) v1_ r2 ∧ Below w.heap.size w w' := by
 have hu25 := Tryd.underlying25
 have HB := aM (Below.refl w.heap.size w)
 have H : (if a0 < 0 then (undo_AndOne.j0 k a0 true) else (undo_AndOne.j0 k a0 (decide (a0 > 300)))) = some (r1, r2, r3) := h
 clear h
 have HC2 := aM H
 clear H
 go_enter Tryd.func42, Tryd.ntmps42
 go_upto_region 1 with (first | ((with_reducible refine gate_dst (N := 2) rfl ?_); refine box_event ?hg (N := 2) ?hd (cs := #[.int .i64 0, .slice none 0 0]) (t := 25) ?hr ?_; (case hd => rfl); (case hg => rfl); (case hr => first | (go_simp; done) | (go_simp; rfl)); intro gb287 hg w3 hbox hb; have B87 := aM (hbox); have GW287 := aM ((by rw [hg]; exact (below_size (by (with_reducible apply_rules [HB.out, pA, pD, pE]))) : w.heap.size ≤ gb287)); have GE287 := aM ((by rw [hg]; exact (below_size (by (with_reducible apply_rules [HB.out, pA, pD, pE]))) : w.heap.size ≤ gb287)); replace HB := aM (pS_ (by (with_reducible apply_rules [HB.out, pA, pD, pE])) hb); clear hb hbox hg))
 (try simp only [Act.put, List.setIfInBounds_toArray, List.set_cons_zero, List.set_cons_succ])
 go_cut [10] (fun v10 wc => ∃ (kq : Nat) (x10_1 : Bool), v10 = .bool x10_1 ∧ Aside0 (undo_AndOne.j0 kq a0 x10_1 = some (r1, r2, r3)) ∧ Aside0 (kq ≤ k) ∧ Aside0 (wc.heap[gb287]? = some (.cells #[.int .i64 0, (.slice none 0 0)] 25 (0, 0))) ∧ Aside0 (Below w.heap.size w wc))
 case first =>
  have H := HC2.out
  clear HC2
  by_cases c4 : a0 < 0
  ·rw [if_pos c4] at H
   have c4b0 : decide (a0 < 0) = true := decide_eq_true c4
   clear c4
   (first | rw [c4b0] | (simp only [i64_w, i32_w]; rw [c4b0]) | skip)
   have H' := aM H
   clear H
   go_wp2
   go_meet
   case rel => exact ⟨_, (true), (by first | rfl | (simp; done) | (simp [*]; done)), H', ⟨by first | omega | exact Nat.le_refl _⟩, ⟨by with_reducible apply_rules [B87.out, bA, bB, bC]⟩, ⟨by (with_reducible apply_rules [HB.out, pA, pD, pE, sT, GE287.out])⟩⟩
  ·rw [if_neg c4] at H
   have c4b0 : decide (a0 < 0) = false := decide_eq_false c4
   clear c4
   (first | rw [c4b0] | (simp only [i64_w, i32_w]; rw [c4b0]) | skip)
   have H' := aM H
   clear H
   go_wp2
   go_meet
   case rel => exact ⟨_, (decide (a0 > 300)), (by first | rfl | (simp; done) | (simp [*]; done)), H', ⟨by first | omega | exact Nat.le_refl _⟩, ⟨by with_reducible apply_rules [B87.out, bA, bB, bC]⟩, ⟨by (with_reducible apply_rules [HB.out, pA, pD, pE, sT, GE287.out])⟩⟩
 case rest =>
  clear HC2
  try clear p2
  try clear c4
  try clear c4b0
  obtain ⟨kq, x10_1, rfl, HA, HJ1, B87, HB⟩ := hcut
  cases kq with
  | zero => exact absurd HA.out (by simp [undo_AndOne.j0])
  | succ kj1 =>
   have H := HA.out
   clear HA
   simp only [undo_AndOne.j0] at H
   by_cases c5 : x10_1 = true
   ·subst c5
    have H1 : (some (0, ([] : List (S67)), 2)) = some (r1, r2, r3) := by rw [if_pos rfl] at H; exact H
    clear H
    have H := H1
    clear H1
    simp only [Option.some.injEq, Prod.mk.injEq] at H
    obtain ⟨rfl, rfl, rfl⟩ := H
    have hcz6_0 : wc.cell? ⟨gb287, 0, none⟩ = some (.int .i64 0) := (blk_cell B87.out 0).trans rfl
    have hcz6_1 : wc.cell? ⟨gb287, 1, none⟩ = some (.slice none 0 0) := (blk_cell B87.out 1).trans rfl
    have hfz6_0 := blk_frozen B87.out 0
    have hfz6_1 := blk_frozen B87.out 1
    go_wp2
    refine bodyPost_ret (results_ct rfl _ _ gb287 25 #[.int .i64 0, .slice none 0 0] (0, 0) _ rfl (by (with_reducible repeat (first | refine bA ?_ _ | refine bB ?_ | refine bC ?_ _)); refine blk_put (cs := #[.int .i64 0, .slice none 0 0]) ?_ 1 _ rfl; (with_reducible repeat (first | refine bA ?_ _ | refine bB ?_ | refine bC ?_ _)); refine blk_put (cs := #[.int .i64 0, .slice none 0 0]) ?_ 0 _ rfl; with_reducible apply_rules [B87.out, bA, bB, bC]) Tryd.underlying25 rfl (by kernel_rfl)) rfl ?_
    exact ⟨_, by first | rfl | (simp [errW_none, errW_some] <;> rfl) | (simp [*, errW_none, errW_some] <;> rfl), by first | exact Kd.R_nil _ _ _ _ _ | exact Kd.N_nil _ _ _ _ _ | exact Kd.V_nil _ _ _ _ _ | exact Kd.Q_nil _ _ _ _ _ | exact Kd.S_nil _ _ _ _ _, by (with_reducible apply_rules [HB.out, pA, pD, pE, sT, GE287.out])⟩
   ·replace c5 := Bool.eq_false_iff.mpr c5
    subst c5
    have H1 : (if a0 ≤ 2 then ((undo_And.f kj1 a0).bind fun bt288 => (some (bt288.1, bt288.2.1, bt288.2.2))) else ((undo_numbers.f kj1 0 (wrap64 (Int.tdiv (wrap64 (a0 + 1)) 2))).bind fun t293 => ((undo_numbers.f kj1 (wrap64 (Int.tdiv (wrap64 (a0 + 1)) 2)) a0).bind fun t296 => ((slices_Clone_ints.f t296).bind fun t299 => (if t299.length < 17592186044416 then ((undo_Controlled.f kj1 (wrap64 (a0 + 1)) t293 (t299 ++ [a0])).bind fun t305 => ((slices_Clone_ints.f t296).bind fun t308 => (if t308.length < 17592186044416 then ((undo_Controlled.f kj1 a0 (t308 ++ [wrap64 (a0 + 1)]) t293).bind fun t314 => ((slices_Concat_ops.f (([t305, t314, t305, t314] : List (List (S67))))).bind fun t320 => (some (wrap64 (a0 + 2), t320, 0)))) else (none)))) else (none)))))) = some (r1, r2, r3) := by rw [if_neg (show ¬ (false = true) by decide)] at H; exact H
    clear H
    have H := H1
    clear H1
    by_cases c7 : a0 ≤ 2
    ·rw [if_pos c7] at H
     have c7b0 : decide (a0 ≤ 2) = true := decide_eq_true c7
     clear c7
     replace H := Option.bind_eq_some_iff.mp H
     obtain ⟨⟨t288, t289, t292⟩, A80, H⟩ := H
     replace H : (some (t288, t289, t292)) = some (r1, r2, r3) := H
     have A8 := aM A80
     clear A80
     simp only [Option.some.injEq, Prod.mk.injEq] at H
     obtain ⟨rfl, rfl, rfl⟩ := H
     go_wp2_with (first | ((with_reducible refine gate_callee (f := 41) rfl ?_); refine goesL_ (some 22) rfl rfl Tryd.func41 (by kernel_rfl) rfl #[.int .i64 a0] rfl (by (try simp only [List.map_toArray, List.map_cons, List.map_nil]); first | done | rfl | (simp only [List.length_drop, List.length_take]; rfl)) ?_; (with_reducible refine (undo_And.calls kj1 a0 t288 t289 t292 _ A8.out).mono ?_); rintro e w9 ⟨v290, rfl, ho0, hb⟩; refine ⟨_, rfl, ?_⟩; have HO291 := aM (Kd.R_lower ho0 (below_size (by (with_reducible apply_rules [HB.out, pA, pD, pE, sT, GE287.out])))); replace B87 := aM (blk_below (g := gb287) (o := .cells #[.int .i64 0, .slice none 0 0] 25 (0, 0)) (by with_reducible apply_rules [B87.out, bA, bB, bC]) hb); replace HB := aM (pS_ (by (with_reducible apply_rules [HB.out, pA, pD, pE, sT, GE287.out])) hb); (try clear hb); (try clear hb2); (try clear hk); (try clear hi); (try clear ho0); have hcz10_0 : w9.cell? ⟨gb287, 0, none⟩ = some (.int .i64 0) := (blk_cell B87.out 0).trans rfl; have hcz10_1 : w9.cell? ⟨gb287, 1, none⟩ = some (.slice none 0 0) := (blk_cell B87.out 1).trans rfl; have hfz10_0 := blk_frozen B87.out 0; have hfz10_1 := blk_frozen B87.out 1; obtain ⟨Ao11, co11, eo11⟩ := Kd.R_slice HO291.out; subst eo11))
     refine bodyPost_ret (results_ct rfl _ _ gb287 25 #[.int .i64 t288, .slice Ao11 t289.length co11] (0, 0) _ rfl (by (with_reducible repeat (first | refine bA ?_ _ | refine bB ?_ | refine bC ?_ _)); refine blk_put (cs := #[.int .i64 t288, .slice none 0 0]) ?_ 1 _ rfl; (with_reducible repeat (first | refine bA ?_ _ | refine bB ?_ | refine bC ?_ _)); refine blk_put (cs := #[.int .i64 0, .slice none 0 0]) ?_ 0 _ rfl; with_reducible apply_rules [B87.out, bA, bB, bC]) Tryd.underlying25 rfl (by kernel_rfl)) rfl ?_
     exact ⟨_, by first | rfl | (simp [errW_none, errW_some] <;> rfl) | (simp [*, errW_none, errW_some] <;> rfl), by (with_reducible repeat (first | apply rA | apply rB | apply rC)); exact rE (Kd.R_far (p := ⟨gb287, 1, none⟩) (Kd.R_far (p := ⟨gb287, 0, none⟩) (Kd.R_types HO291.out B87.out (by decide)) (fun _ hk => hk.2) (.int .i64 t288)) (fun _ hk => hk.2) (.slice Ao11 t289.length co11)) (fun _ hk => trivial), by (with_reducible apply_rules [HB.out, pA, pD, pE, sT, GE287.out])⟩
    ·rw [if_neg c7] at H
     have c7b0 : decide (a0 ≤ 2) = false := decide_eq_false c7
     clear c7
     replace H := Option.bind_eq_some_iff.mp H
     obtain ⟨t293, A120, H⟩ := H
     replace H : ((undo_numbers.f kj1 (wrap64 (Int.tdiv (wrap64 (a0 + 1)) 2)) a0).bind fun t296 => ((slices_Clone_ints.f t296).bind fun t299 => (if t299.length < 17592186044416 then ((undo_Controlled.f kj1 (wrap64 (a0 + 1)) t293 (t299 ++ [a0])).bind fun t305 => ((slices_Clone_ints.f t296).bind fun t308 => (if t308.length < 17592186044416 then ((undo_Controlled.f kj1 a0 (t308 ++ [wrap64 (a0 + 1)]) t293).bind fun t314 => ((slices_Concat_ops.f (([t305, t314, t305, t314] : List (List (S67))))).bind fun t320 => (some (wrap64 (a0 + 2), t320, 0)))) else (none)))) else (none)))) = some (r1, r2, r3) := H
     have A12 := aM A120
     clear A120
     replace H := Option.bind_eq_some_iff.mp H
     obtain ⟨t296, A130, H⟩ := H
     replace H : ((slices_Clone_ints.f t296).bind fun t299 => (if t299.length < 17592186044416 then ((undo_Controlled.f kj1 (wrap64 (a0 + 1)) t293 (t299 ++ [a0])).bind fun t305 => ((slices_Clone_ints.f t296).bind fun t308 => (if t308.length < 17592186044416 then ((undo_Controlled.f kj1 a0 (t308 ++ [wrap64 (a0 + 1)]) t293).bind fun t314 => ((slices_Concat_ops.f (([t305, t314, t305, t314] : List (List (S67))))).bind fun t320 => (some (wrap64 (a0 + 2), t320, 0)))) else (none)))) else (none))) = some (r1, r2, r3) := H
     have A13 := aM A130
     clear A130
     replace H := Option.bind_eq_some_iff.mp H
     obtain ⟨t299, A140, H⟩ := H
     replace H : (if t299.length < 17592186044416 then ((undo_Controlled.f kj1 (wrap64 (a0 + 1)) t293 (t299 ++ [a0])).bind fun t305 => ((slices_Clone_ints.f t296).bind fun t308 => (if t308.length < 17592186044416 then ((undo_Controlled.f kj1 a0 (t308 ++ [wrap64 (a0 + 1)]) t293).bind fun t314 => ((slices_Concat_ops.f (([t305, t314, t305, t314] : List (List (S67))))).bind fun t320 => (some (wrap64 (a0 + 2), t320, 0)))) else (none)))) else (none)) = some (r1, r2, r3) := H
     have A14 := aM A140
     clear A140
     by_cases c15 : t299.length < 17592186044416
     ·rw [if_pos c15] at H
      have LMc15 := aM c15
      clear c15
      obtain ⟨y302, hy302⟩ : ∃ y_ : List Int, y_ = (t299 ++ [a0]) := ⟨_, rfl⟩
      replace H : ((undo_Controlled.f kj1 (wrap64 (a0 + 1)) t293 y302).bind fun t305 => ((slices_Clone_ints.f t296).bind fun t308 => (if t308.length < 17592186044416 then ((undo_Controlled.f kj1 a0 (t308 ++ [wrap64 (a0 + 1)]) t293).bind fun t314 => ((slices_Concat_ops.f (([t305, t314, t305, t314] : List (List (S67))))).bind fun t320 => (some (wrap64 (a0 + 2), t320, 0)))) else (none)))) = some (r1, r2, r3) := by first | (rw [hy302]; with_reducible exact H) | (have H2_ := (Option.bind_some _ _).symm.trans H; rw [hy302]; with_reducible exact H2_) | (have H2_ := (Option.bind_some _ _).symm.trans H; with_reducible exact H2_) | with_reducible exact H | (rw [hy302]; exact H) | exact H
      have Ny302 := aM hy302
      clear hy302
      replace H := Option.bind_eq_some_iff.mp H
      obtain ⟨t305, A160, H⟩ := H
      replace H : ((slices_Clone_ints.f t296).bind fun t308 => (if t308.length < 17592186044416 then ((undo_Controlled.f kj1 a0 (t308 ++ [wrap64 (a0 + 1)]) t293).bind fun t314 => ((slices_Concat_ops.f (([t305, t314, t305, t314] : List (List (S67))))).bind fun t320 => (some (wrap64 (a0 + 2), t320, 0)))) else (none))) = some (r1, r2, r3) := H
      have A16 := aM A160
      clear A160
      replace H := Option.bind_eq_some_iff.mp H
      obtain ⟨t308, A170, H⟩ := H
      replace H : (if t308.length < 17592186044416 then ((undo_Controlled.f kj1 a0 (t308 ++ [wrap64 (a0 + 1)]) t293).bind fun t314 => ((slices_Concat_ops.f (([t305, t314, t305, t314] : List (List (S67))))).bind fun t320 => (some (wrap64 (a0 + 2), t320, 0)))) else (none)) = some (r1, r2, r3) := H
      have A17 := aM A170
      clear A170
      by_cases c18 : t308.length < 17592186044416
      ·rw [if_pos c18] at H
       have LMc18 := aM c18
       clear c18
       obtain ⟨y311, hy311⟩ : ∃ y_ : List Int, y_ = (t308 ++ [wrap64 (a0 + 1)]) := ⟨_, rfl⟩
       replace H : ((undo_Controlled.f kj1 a0 y311 t293).bind fun t314 => ((slices_Concat_ops.f (([t305, t314, t305, t314] : List (List (S67))))).bind fun t320 => (some (wrap64 (a0 + 2), t320, 0)))) = some (r1, r2, r3) := by first | (rw [hy311]; with_reducible exact H) | (have H2_ := (Option.bind_some _ _).symm.trans H; rw [hy311]; with_reducible exact H2_) | (have H2_ := (Option.bind_some _ _).symm.trans H; with_reducible exact H2_) | with_reducible exact H | (rw [hy311]; exact H) | exact H
       have Ny311 := aM hy311
       clear hy311
       replace H := Option.bind_eq_some_iff.mp H
       obtain ⟨t314, A190, H⟩ := H
       replace H : ((slices_Concat_ops.f (([t305, t314, t305, t314] : List (List (S67))))).bind fun t320 => (some (wrap64 (a0 + 2), t320, 0))) = some (r1, r2, r3) := H
       have A19 := aM A190
       clear A190
       obtain ⟨y317, hy317⟩ : ∃ y_ : List (List (S67)), y_ = (([t305, t314, t305, t314] : List (List (S67)))) := ⟨_, rfl⟩
       replace H : ((slices_Concat_ops.f y317).bind fun t320 => (some (wrap64 (a0 + 2), t320, 0))) = some (r1, r2, r3) := by first | (rw [hy317]; with_reducible exact H) | (have H2_ := (Option.bind_some _ _).symm.trans H; rw [hy317]; with_reducible exact H2_) | (have H2_ := (Option.bind_some _ _).symm.trans H; with_reducible exact H2_) | with_reducible exact H | (rw [hy317]; exact H) | exact H
       have Ny317 := aM hy317
       clear hy317
       replace H := Option.bind_eq_some_iff.mp H
       obtain ⟨t320, A200, H⟩ := H
       replace H : (some (wrap64 (a0 + 2), t320, 0)) = some (r1, r2, r3) := H
       have A20 := aM A200
       clear A200
       simp only [Option.some.injEq, Prod.mk.injEq] at H
       obtain ⟨rfl, rfl, rfl⟩ := H
       go_wp2_with (first | ((with_reducible refine gate_callee (f := 73) rfl ?_); refine goesL_ (some 29) rfl rfl Tryd.func73 (by kernel_rfl) rfl #[.int .i64 0, .int .i64 (wrap64 (Int.tdiv (wrap64 (a0 + 1)) 2))] rfl (by (try simp only [List.map_toArray, List.map_cons, List.map_nil]); first | done | rfl | (simp only [List.length_drop, List.length_take]; rfl)) ?_; (with_reducible refine (undo_numbers.calls kj1 0 (wrap64 (Int.tdiv (wrap64 (a0 + 1)) 2)) t293 _ A12.out).mono ?_); rintro e w21 ⟨v294, rfl, ho0, hb⟩; refine ⟨_, rfl, ?_⟩; have HO295 := aM (Kd.R_lower ho0 (below_size (by (with_reducible apply_rules [HB.out, pA, pD, pE, sT, GE287.out])))); replace B87 := aM (blk_below (g := gb287) (o := .cells #[.int .i64 0, .slice none 0 0] 25 (0, 0)) (by with_reducible apply_rules [B87.out, bA, bB, bC]) hb); replace HB := aM (pS_ (by (with_reducible apply_rules [HB.out, pA, pD, pE, sT, GE287.out])) hb); (try clear hb); (try clear hb2); (try clear hk); (try clear hi); (try clear ho0)) | ((with_reducible refine gate_callee (f := 73) rfl ?_); refine goesL_ (some 32) rfl rfl Tryd.func73 (by kernel_rfl) rfl #[.int .i64 (wrap64 (Int.tdiv (wrap64 (a0 + 1)) 2)), .int .i64 a0] rfl (by (try simp only [List.map_toArray, List.map_cons, List.map_nil]); first | done | rfl | (simp only [List.length_drop, List.length_take]; rfl)) ?_; (with_reducible refine (undo_numbers.calls kj1 (wrap64 (Int.tdiv (wrap64 (a0 + 1)) 2)) a0 t296 _ A13.out).mono ?_); rintro e w22 ⟨v297, rfl, ho0, hb⟩; refine ⟨_, rfl, ?_⟩; have HO298 := aM (Kd.R_lower (Kd.R_new' ho0 (Kd.R_lt (by with_reducible apply_rules [HO295.out, rA, rB, rC]))) (below_size (by (with_reducible apply_rules [HB.out, pA, pD, pE, sT, GE287.out])))); replace HO295 := aM (Kd.R_elder' (by with_reducible apply_rules [HO295.out, rA, rB, rC]) (Kd.R_base ho0) hb); replace B87 := aM (blk_below (g := gb287) (o := .cells #[.int .i64 0, .slice none 0 0] 25 (0, 0)) (by with_reducible apply_rules [B87.out, bA, bB, bC]) hb); replace HB := aM (pS_ (by (with_reducible apply_rules [HB.out, pA, pD, pE, sT, GE287.out])) hb); (try clear hb); (try clear hb2); (try clear hk); (try clear hi); (try clear ho0); obtain ⟨Ao23, co23, eo23⟩ := Kd.R_slice HO298.out; subst eo23) | ((with_reducible refine gate_callee (f := 74) rfl ?_); refine goesL_ (some 38) rfl rfl Tryd.func74 (by kernel_rfl) rfl #[.slice Ao23 t296.length co23] rfl (by (try simp only [List.map_toArray, List.map_cons, List.map_nil]); first | done | rfl | (simp only [List.length_drop, List.length_take]; rfl)) ?_; (with_reducible refine (slices_Clone_ints.calls _ _ t296 t299 _ ?side1 ?side2 A14.out).mono ?_); (case side1 => repeat (first | exact (Kd.R_reads' HO298.out).2.2 | (with_reducible refine Kd.C_alloc ?_ _) | (with_reducible refine Kd.C_drewN ?_ _) | (with_reducible refine Kd.C_drew ?_))); (case side2 => exact (Kd.R_reads' HO298.out).2.1); rintro e w24 ⟨v300, rfl, ho0, hb⟩; refine ⟨_, rfl, ?_⟩; have HO301 := aM (Kd.R_lower (Kd.R_new' (Kd.R_new' ho0 (Kd.R_lt (by with_reducible apply_rules [HO295.out, rA, rB, rC]))) (Kd.R_lt (by with_reducible apply_rules [HO298.out, rA, rB, rC]))) (below_size (by (with_reducible apply_rules [HB.out, pA, pD, pE, sT, GE287.out])))); replace HO295 := aM (Kd.R_elder' (by with_reducible apply_rules [HO295.out, rA, rB, rC]) (Kd.R_base ho0) hb); replace HO298 := aM (Kd.R_elder' (by with_reducible apply_rules [HO298.out, rA, rB, rC]) (Kd.R_base ho0) hb); replace B87 := aM (blk_below (g := gb287) (o := .cells #[.int .i64 0, .slice none 0 0] 25 (0, 0)) (by with_reducible apply_rules [B87.out, bA, bB, bC]) hb); replace HB := aM (pS_ (by (with_reducible apply_rules [HB.out, pA, pD, pE, sT, GE287.out])) hb); (try clear hb); (try clear hb2); (try clear hk); (try clear hi); (try clear ho0)) | ((with_reducible refine gate_builtin (b := .append) (xs := #[.tmp 38, .tmp 40]) rfl ?_); at_builtin; refine Kd.R_append (Kd.int .i64) (w0 := w) w.heap.size rfl (.tmp 38) (.tmp 40) 49 3 (.int .i64 0) 8 rfl Tryd.underlying49 info3 rfl (by decide) (by omega) v300 t299 a0 [.int .i64 a0] (fun k_ => some k_ ≠ (v294 : Value).ownBlock ∧ some k_ ≠ (.slice Ao23 t296.length co23 : Value).ownBlock) (fun _ => False) rfl rfl ?aP (fun _ hk => hk.elim) ?aF ?aO ?aB ?aS ?aL ?_; (case aP => exact rfl); (case aB => exact (by (with_reducible apply_rules [HB.out, pA, pD, pE, sT, GE287.out]))); (case aF => exact (fun k_ hk => ⟨Kd.fresh' (Kd.R_lt (by with_reducible apply_rules [HO295.out, rA, rB, rC])) k_ hk, Kd.fresh' (Kd.R_lt (by with_reducible apply_rules [HO298.out, rA, rB, rC])) k_ hk⟩)); (case aO => exact (by (with_reducible repeat (first | apply rA | apply rB | apply rC)); exact rE HO301.out (fun _ hk => ⟨hk.1.2, hk.2⟩))); (case aS => exact (below_size (by (with_reducible apply_rules [HB.out, pA, pD, pE, sT, GE287.out])))); (case aL => have := LMc15.out; omega); intro v303 w25 ho hb hg hat; rw [← Ny302.out] at ho; replace B87 := aM (blk_grown (g := gb287) (o := .cells #[.int .i64 0, .slice none 0 0] 25 (0, 0)) (by with_reducible apply_rules [B87.out, bA, bB, bC]) hg (Kd.R_ne HO301.out B87.out (by decide))); replace HO295 := aM (Kd.R_after (ok := (fun k_ => some k_ ≠ (.slice Ao23 t296.length co23 : Value).ownBlock)) (by (with_reducible repeat (first | apply rA | apply rB | apply rC)); exact rE HO295.out (fun _ hk => ⟨hk.1.2, hk.2⟩)) hg hat); replace HO298 := aM (Kd.R_after (ok := (fun k_ => some k_ ≠ (v294 : Value).ownBlock)) (by (with_reducible repeat (first | apply rA | apply rB | apply rC)); exact rE HO298.out (fun _ hk => ⟨hk.1.2, hk.2⟩)) hg hat); replace HB := aM (hb); have HO304 := aM (ho); clear HO301; clear ho hb hg hat; obtain ⟨Ao26, co26, eo26⟩ := Kd.R_slice HO295.out; subst eo26; obtain ⟨Ao27, co27, eo27⟩ := Kd.R_slice HO304.out; subst eo27) | ((with_reducible refine gate_callee (f := 72) rfl ?_); refine goesL_ (some 42) rfl rfl Tryd.func72 (by kernel_rfl) rfl #[.int .i64 (wrap64 (a0 + 1)), .slice Ao26 t293.length co26, .slice Ao27 y302.length co27] rfl (by (try simp only [List.map_toArray, List.map_cons, List.map_nil]); first | done | rfl | (simp only [List.length_drop, List.length_take]; rfl)) ?_; (with_reducible refine (undo_Controlled.calls kj1 (wrap64 (a0 + 1)) _ _ t293 _ _ y302 t305 _ ?side1 ?side2 ?side3 ?side4 A16.out).mono ?_); (case side1 => repeat (first | exact (Kd.R_reads' HO295.out).2.2 | (with_reducible refine Kd.C_alloc ?_ _) | (with_reducible refine Kd.C_drewN ?_ _) | (with_reducible refine Kd.C_drew ?_))); (case side2 => exact (Kd.R_reads' HO295.out).2.1); (case side3 => repeat (first | exact (Kd.R_reads' HO304.out).2.2 | (with_reducible refine Kd.C_alloc ?_ _) | (with_reducible refine Kd.C_drewN ?_ _) | (with_reducible refine Kd.C_drew ?_))); (case side4 => exact (Kd.R_reads' HO304.out).2.1); rintro e w28 ⟨v306, rfl, ho0, hb⟩; refine ⟨_, rfl, ?_⟩; replace HO295 := aM (rD (by with_reducible apply_rules [HO295.out, rA, rB, rC]) hb); replace HO298 := aM (rD (by with_reducible apply_rules [HO298.out, rA, rB, rC]) hb); replace HO304 := aM (rD (by with_reducible apply_rules [HO304.out, rA, rB, rC]) hb); have HO307 := aM (Kd.R_lower ho0 (below_size (by (with_reducible apply_rules [HB.out, pA, pD, pE, sT, GE287.out])))); replace B87 := aM (blk_below (g := gb287) (o := .cells #[.int .i64 0, .slice none 0 0] 25 (0, 0)) (by with_reducible apply_rules [B87.out, bA, bB, bC]) hb); replace HB := aM (pS_ (by (with_reducible apply_rules [HB.out, pA, pD, pE, sT, GE287.out])) hb); (try clear hb); (try clear hb2); (try clear hk); (try clear hi); (try clear ho0)) | ((with_reducible refine gate_callee (f := 74) rfl ?_); refine goesL_ (some 45) rfl rfl Tryd.func74 (by kernel_rfl) rfl #[.slice Ao23 t296.length co23] rfl (by (try simp only [List.map_toArray, List.map_cons, List.map_nil]); first | done | rfl | (simp only [List.length_drop, List.length_take]; rfl)) ?_; (with_reducible refine (slices_Clone_ints.calls _ _ t296 t308 _ ?side1 ?side2 A17.out).mono ?_); (case side1 => repeat (first | exact (Kd.R_reads' HO298.out).2.2 | (with_reducible refine Kd.C_alloc ?_ _) | (with_reducible refine Kd.C_drewN ?_ _) | (with_reducible refine Kd.C_drew ?_))); (case side2 => exact (Kd.R_reads' HO298.out).2.1); rintro e w29 ⟨v309, rfl, ho0, hb⟩; refine ⟨_, rfl, ?_⟩; replace HO307 := aM (rD (by with_reducible apply_rules [HO307.out, rA, rB, rC]) hb); have HO310 := aM (Kd.R_lower (Kd.R_new' (Kd.R_new' (Kd.R_new' ho0 (Kd.R_lt (by with_reducible apply_rules [HO295.out, rA, rB, rC]))) (Kd.R_lt (by with_reducible apply_rules [HO298.out, rA, rB, rC]))) (Kd.R_lt (by with_reducible apply_rules [HO304.out, rA, rB, rC]))) (below_size (by (with_reducible apply_rules [HB.out, pA, pD, pE, sT, GE287.out])))); replace HO295 := aM (Kd.R_elder' (by with_reducible apply_rules [HO295.out, rA, rB, rC]) (Kd.R_base ho0) hb); replace HO298 := aM (Kd.R_elder' (by with_reducible apply_rules [HO298.out, rA, rB, rC]) (Kd.R_base ho0) hb); replace HO304 := aM (Kd.R_elder' (by with_reducible apply_rules [HO304.out, rA, rB, rC]) (Kd.R_base ho0) hb); replace B87 := aM (blk_below (g := gb287) (o := .cells #[.int .i64 0, .slice none 0 0] 25 (0, 0)) (by with_reducible apply_rules [B87.out, bA, bB, bC]) hb); replace HB := aM (pS_ (by (with_reducible apply_rules [HB.out, pA, pD, pE, sT, GE287.out])) hb); (try clear hb); (try clear hb2); (try clear hk); (try clear hi); (try clear ho0)) | ((with_reducible refine gate_builtin (b := .append) (xs := #[.tmp 45, .tmp 47]) rfl ?_); at_builtin; refine Kd.R_append (Kd.int .i64) (w0 := w) w.heap.size rfl (.tmp 45) (.tmp 47) 49 3 (.int .i64 0) 8 rfl Tryd.underlying49 info3 rfl (by decide) (by omega) v309 t308 (wrap64 (a0 + 1)) [.int .i64 (wrap64 (a0 + 1))] (fun k_ => some k_ ≠ (.slice Ao26 t293.length co26 : Value).ownBlock ∧ some k_ ≠ (.slice Ao23 t296.length co23 : Value).ownBlock ∧ some k_ ≠ (.slice Ao27 y302.length co27 : Value).ownBlock) (fun _ => False) rfl rfl ?aP (fun _ hk => hk.elim) ?aF ?aO ?aB ?aS ?aL ?_; (case aP => exact rfl); (case aB => exact (by (with_reducible apply_rules [HB.out, pA, pD, pE, sT, GE287.out]))); (case aF => exact (fun k_ hk => ⟨Kd.fresh' (Kd.R_lt (by with_reducible apply_rules [HO295.out, rA, rB, rC])) k_ hk, Kd.fresh' (Kd.R_lt (by with_reducible apply_rules [HO298.out, rA, rB, rC])) k_ hk, Kd.fresh' (Kd.R_lt (by with_reducible apply_rules [HO304.out, rA, rB, rC])) k_ hk⟩)); (case aO => exact (by (with_reducible repeat (first | apply rA | apply rB | apply rC)); exact rE HO310.out (fun _ hk => ⟨hk.1.1.2, ⟨hk.1.2, hk.2⟩⟩))); (case aS => exact (below_size (by (with_reducible apply_rules [HB.out, pA, pD, pE, sT, GE287.out])))); (case aL => have := LMc18.out; omega); intro v312 w30 ho hb hg hat; rw [← Ny311.out] at ho; replace B87 := aM (blk_grown (g := gb287) (o := .cells #[.int .i64 0, .slice none 0 0] 25 (0, 0)) (by with_reducible apply_rules [B87.out, bA, bB, bC]) hg (Kd.R_ne HO310.out B87.out (by decide))); replace HO295 := aM (Kd.R_after (ok := (fun k_ => some k_ ≠ (.slice Ao23 t296.length co23 : Value).ownBlock ∧ some k_ ≠ (.slice Ao27 y302.length co27 : Value).ownBlock)) (by with_reducible apply_rules [HO295.out, rA, rB, rC]) hg hat); replace HO298 := aM (Kd.R_after (ok := (fun k_ => some k_ ≠ (.slice Ao26 t293.length co26 : Value).ownBlock ∧ some k_ ≠ (.slice Ao27 y302.length co27 : Value).ownBlock)) (by with_reducible apply_rules [HO298.out, rA, rB, rC]) hg hat); replace HO304 := aM (Kd.R_after (ok := (fun k_ => some k_ ≠ (.slice Ao26 t293.length co26 : Value).ownBlock ∧ some k_ ≠ (.slice Ao23 t296.length co23 : Value).ownBlock)) (by with_reducible apply_rules [HO304.out, rA, rB, rC]) hg hat); replace HO307 := aM (Kd.R_over' (by with_reducible apply_rules [HO307.out, rA, rB, rC]) (Kd.R_typed (by with_reducible apply_rules [HO310.out, rA, rB, rC])) (by decide) hg); replace HB := aM (hb); have HO313 := aM (ho); clear HO310; clear ho hb hg hat; obtain ⟨Ao31, co31, eo31⟩ := Kd.R_slice HO313.out; subst eo31) | ((with_reducible refine gate_callee (f := 72) rfl ?_); refine goesL_ (some 50) rfl rfl Tryd.func72 (by kernel_rfl) rfl #[.int .i64 a0, .slice Ao31 y311.length co31, .slice Ao26 t293.length co26] rfl (by (try simp only [List.map_toArray, List.map_cons, List.map_nil]); first | done | rfl | (simp only [List.length_drop, List.length_take]; rfl)) ?_; (with_reducible refine (undo_Controlled.calls kj1 a0 _ _ y311 _ _ t293 t314 _ ?side1 ?side2 ?side3 ?side4 A19.out).mono ?_); (case side1 => repeat (first | exact (Kd.R_reads' HO313.out).2.2 | (with_reducible refine Kd.C_alloc ?_ _) | (with_reducible refine Kd.C_drewN ?_ _) | (with_reducible refine Kd.C_drew ?_))); (case side2 => exact (Kd.R_reads' HO313.out).2.1); (case side3 => repeat (first | exact (Kd.R_reads' HO295.out).2.2 | (with_reducible refine Kd.C_alloc ?_ _) | (with_reducible refine Kd.C_drewN ?_ _) | (with_reducible refine Kd.C_drew ?_))); (case side4 => exact (Kd.R_reads' HO295.out).2.1); rintro e w32 ⟨v315, rfl, ho0, hb⟩; refine ⟨_, rfl, ?_⟩; replace HO295 := aM (rD (by with_reducible apply_rules [HO295.out, rA, rB, rC]) hb); replace HO298 := aM (rD (by with_reducible apply_rules [HO298.out, rA, rB, rC]) hb); replace HO304 := aM (rD (by with_reducible apply_rules [HO304.out, rA, rB, rC]) hb); replace HO313 := aM (rD (by with_reducible apply_rules [HO313.out, rA, rB, rC]) hb); have HO316 := aM (Kd.R_lower (Kd.R_new' ho0 (Kd.R_lt (by with_reducible apply_rules [HO307.out, rA, rB, rC]))) (below_size (by (with_reducible apply_rules [HB.out, pA, pD, pE, sT, GE287.out])))); replace HO307 := aM (Kd.R_elder' (by with_reducible apply_rules [HO307.out, rA, rB, rC]) (Kd.R_base ho0) hb); replace B87 := aM (blk_below (g := gb287) (o := .cells #[.int .i64 0, .slice none 0 0] 25 (0, 0)) (by with_reducible apply_rules [B87.out, bA, bB, bC]) hb); replace HB := aM (pS_ (by (with_reducible apply_rules [HB.out, pA, pD, pE, sT, GE287.out])) hb); (try clear hb); (try clear hb2); (try clear hk); (try clear hi); (try clear ho0); obtain ⟨Ao33, co33, eo33⟩ := Kd.R_slice HO307.out; subst eo33; obtain ⟨Ao34, co34, eo34⟩ := Kd.R_slice HO316.out; subst eo34) | ((with_reducible refine gate_dst (N := 57) rfl ?_); refine Kd.N_lit (Kd.slice 67 k67) _ 23 ?hg (N' := 57) ?hd (xs := ([t305, t314, t305, t314] : List (List (S67)))) (inner := [.slice Ao33 t305.length co33, .slice Ao34 t314.length co34, .slice Ao33 t305.length co33, .slice Ao34 t314.length co34]) (ok := (fun k_ => some k_ ≠ (.slice Ao26 t293.length co26 : Value).ownBlock ∧ some k_ ≠ (.slice Ao23 t296.length co23 : Value).ownBlock ∧ some k_ ≠ (.slice Ao27 y302.length co27 : Value).ownBlock ∧ some k_ ≠ (.slice Ao31 y311.length co31 : Value).ownBlock ∧ k_ ≠ gb287)) (okp := (fun k_ => some k_ ≠ (.slice Ao26 t293.length co26 : Value).ownBlock ∧ some k_ ≠ (.slice Ao23 t296.length co23 : Value).ownBlock ∧ some k_ ≠ (.slice Ao27 y302.length co27 : Value).ownBlock ∧ some k_ ≠ (.slice Ao31 y311.length co31 : Value).ownBlock ∧ k_ ≠ gb287)) ?hr ?hp (fun _ hk => hk) ((show ∀ k_, w32.heap.size ≤ k_ → (fun k_ => some k_ ≠ (.slice Ao26 t293.length co26 : Value).ownBlock ∧ some k_ ≠ (.slice Ao23 t296.length co23 : Value).ownBlock ∧ some k_ ≠ (.slice Ao27 y302.length co27 : Value).ownBlock ∧ some k_ ≠ (.slice Ao31 y311.length co31 : Value).ownBlock ∧ k_ ≠ gb287) k_ from fun k_ hk => ⟨Kd.fresh' (Kd.R_lt (by with_reducible apply_rules [HO295.out, rA, rB, rC])) k_ hk, Kd.fresh' (Kd.R_lt (by with_reducible apply_rules [HO298.out, rA, rB, rC])) k_ hk, Kd.fresh' (Kd.R_lt (by with_reducible apply_rules [HO304.out, rA, rB, rC])) k_ hk, Kd.fresh' (Kd.R_lt (by with_reducible apply_rules [HO313.out, rA, rB, rC])) k_ hk, Kd.freshB (g := gb287) (o := .cells #[.int .i64 0, .slice none 0 0] 25 (0, 0)) (by with_reducible apply_rules [B87.out, bA, bB, bC]) k_ hk⟩) _ (Nat.le_refl _)) (Below.refl _ _) (Nat.le_refl _) (by simp) ?_; (case hd => rfl); (case hg => rfl); (case hr => first | (go_simp; done) | (go_simp; rfl)); (case hp => exact (Reps.one (show Kd.FK (Kd.slice 67 k67) _ _ t305 [.slice Ao33 t305.length co33] from (Kd.FK_slice_mk (Kd.R_reads' (rE (ok' := (fun k_ => some k_ ≠ (.slice Ao26 t293.length co26 : Value).ownBlock ∧ some k_ ≠ (.slice Ao23 t296.length co23 : Value).ownBlock ∧ some k_ ≠ (.slice Ao27 y302.length co27 : Value).ownBlock ∧ some k_ ≠ (.slice Ao31 y311.length co31 : Value).ownBlock ∧ k_ ≠ gb287)) (Kd.R_types (Kd.R_apart' (Kd.R_apart' (Kd.R_apart' (Kd.R_apart' (HO307.out) (Kd.R_typed HO295.out) (by decide)) (Kd.R_typed HO298.out) (by decide)) (Kd.R_typed HO304.out) (by decide)) (Kd.R_typed HO313.out) (by decide)) B87.out (by decide)) (fun k_ hk => ⟨hk.1.1.1.1.2, ⟨hk.1.1.1.2, ⟨hk.1.1.2, ⟨hk.1.2, hk.2⟩⟩⟩⟩))).2.1 (Kd.R_F (rE (ok' := (fun k_ => some k_ ≠ (.slice Ao26 t293.length co26 : Value).ownBlock ∧ some k_ ≠ (.slice Ao23 t296.length co23 : Value).ownBlock ∧ some k_ ≠ (.slice Ao27 y302.length co27 : Value).ownBlock ∧ some k_ ≠ (.slice Ao31 y311.length co31 : Value).ownBlock ∧ k_ ≠ gb287)) (Kd.R_types (Kd.R_apart' (Kd.R_apart' (Kd.R_apart' (Kd.R_apart' (HO307.out) (Kd.R_typed HO295.out) (by decide)) (Kd.R_typed HO298.out) (by decide)) (Kd.R_typed HO304.out) (by decide)) (Kd.R_typed HO313.out) (by decide)) B87.out (by decide)) (fun k_ hk => ⟨hk.1.1.1.1.2, ⟨hk.1.1.1.2, ⟨hk.1.1.2, ⟨hk.1.2, hk.2⟩⟩⟩⟩))))) (Reps.one (show Kd.FK (Kd.slice 67 k67) _ _ t314 [.slice Ao34 t314.length co34] from (Kd.FK_slice_mk (Kd.R_reads' (rE (ok' := (fun k_ => some k_ ≠ (.slice Ao26 t293.length co26 : Value).ownBlock ∧ some k_ ≠ (.slice Ao23 t296.length co23 : Value).ownBlock ∧ some k_ ≠ (.slice Ao27 y302.length co27 : Value).ownBlock ∧ some k_ ≠ (.slice Ao31 y311.length co31 : Value).ownBlock ∧ k_ ≠ gb287)) (Kd.R_types (Kd.R_apart' (Kd.R_apart' (Kd.R_apart' (Kd.R_apart' (HO316.out) (Kd.R_typed HO295.out) (by decide)) (Kd.R_typed HO298.out) (by decide)) (Kd.R_typed HO304.out) (by decide)) (Kd.R_typed HO313.out) (by decide)) B87.out (by decide)) (fun k_ hk => ⟨hk.1.1.1.1.2, ⟨hk.1.1.1.2, ⟨hk.1.1.2, ⟨hk.1.2, hk.2⟩⟩⟩⟩))).2.1 (Kd.R_F (rE (ok' := (fun k_ => some k_ ≠ (.slice Ao26 t293.length co26 : Value).ownBlock ∧ some k_ ≠ (.slice Ao23 t296.length co23 : Value).ownBlock ∧ some k_ ≠ (.slice Ao27 y302.length co27 : Value).ownBlock ∧ some k_ ≠ (.slice Ao31 y311.length co31 : Value).ownBlock ∧ k_ ≠ gb287)) (Kd.R_types (Kd.R_apart' (Kd.R_apart' (Kd.R_apart' (Kd.R_apart' (HO316.out) (Kd.R_typed HO295.out) (by decide)) (Kd.R_typed HO298.out) (by decide)) (Kd.R_typed HO304.out) (by decide)) (Kd.R_typed HO313.out) (by decide)) B87.out (by decide)) (fun k_ hk => ⟨hk.1.1.1.1.2, ⟨hk.1.1.1.2, ⟨hk.1.1.2, ⟨hk.1.2, hk.2⟩⟩⟩⟩))))) (Reps.one (show Kd.FK (Kd.slice 67 k67) _ _ t305 [.slice Ao33 t305.length co33] from (Kd.FK_slice_mk (Kd.R_reads' (rE (ok' := (fun k_ => some k_ ≠ (.slice Ao26 t293.length co26 : Value).ownBlock ∧ some k_ ≠ (.slice Ao23 t296.length co23 : Value).ownBlock ∧ some k_ ≠ (.slice Ao27 y302.length co27 : Value).ownBlock ∧ some k_ ≠ (.slice Ao31 y311.length co31 : Value).ownBlock ∧ k_ ≠ gb287)) (Kd.R_types (Kd.R_apart' (Kd.R_apart' (Kd.R_apart' (Kd.R_apart' (HO307.out) (Kd.R_typed HO295.out) (by decide)) (Kd.R_typed HO298.out) (by decide)) (Kd.R_typed HO304.out) (by decide)) (Kd.R_typed HO313.out) (by decide)) B87.out (by decide)) (fun k_ hk => ⟨hk.1.1.1.1.2, ⟨hk.1.1.1.2, ⟨hk.1.1.2, ⟨hk.1.2, hk.2⟩⟩⟩⟩))).2.1 (Kd.R_F (rE (ok' := (fun k_ => some k_ ≠ (.slice Ao26 t293.length co26 : Value).ownBlock ∧ some k_ ≠ (.slice Ao23 t296.length co23 : Value).ownBlock ∧ some k_ ≠ (.slice Ao27 y302.length co27 : Value).ownBlock ∧ some k_ ≠ (.slice Ao31 y311.length co31 : Value).ownBlock ∧ k_ ≠ gb287)) (Kd.R_types (Kd.R_apart' (Kd.R_apart' (Kd.R_apart' (Kd.R_apart' (HO307.out) (Kd.R_typed HO295.out) (by decide)) (Kd.R_typed HO298.out) (by decide)) (Kd.R_typed HO304.out) (by decide)) (Kd.R_typed HO313.out) (by decide)) B87.out (by decide)) (fun k_ hk => ⟨hk.1.1.1.1.2, ⟨hk.1.1.1.2, ⟨hk.1.1.2, ⟨hk.1.2, hk.2⟩⟩⟩⟩))))) (Reps.one (show Kd.FK (Kd.slice 67 k67) _ _ t314 [.slice Ao34 t314.length co34] from (Kd.FK_slice_mk (Kd.R_reads' (rE (ok' := (fun k_ => some k_ ≠ (.slice Ao26 t293.length co26 : Value).ownBlock ∧ some k_ ≠ (.slice Ao23 t296.length co23 : Value).ownBlock ∧ some k_ ≠ (.slice Ao27 y302.length co27 : Value).ownBlock ∧ some k_ ≠ (.slice Ao31 y311.length co31 : Value).ownBlock ∧ k_ ≠ gb287)) (Kd.R_types (Kd.R_apart' (Kd.R_apart' (Kd.R_apart' (Kd.R_apart' (HO316.out) (Kd.R_typed HO295.out) (by decide)) (Kd.R_typed HO298.out) (by decide)) (Kd.R_typed HO304.out) (by decide)) (Kd.R_typed HO313.out) (by decide)) B87.out (by decide)) (fun k_ hk => ⟨hk.1.1.1.1.2, ⟨hk.1.1.1.2, ⟨hk.1.1.2, ⟨hk.1.2, hk.2⟩⟩⟩⟩))).2.1 (Kd.R_F (rE (ok' := (fun k_ => some k_ ≠ (.slice Ao26 t293.length co26 : Value).ownBlock ∧ some k_ ≠ (.slice Ao23 t296.length co23 : Value).ownBlock ∧ some k_ ≠ (.slice Ao27 y302.length co27 : Value).ownBlock ∧ some k_ ≠ (.slice Ao31 y311.length co31 : Value).ownBlock ∧ k_ ≠ gb287)) (Kd.R_types (Kd.R_apart' (Kd.R_apart' (Kd.R_apart' (Kd.R_apart' (HO316.out) (Kd.R_typed HO295.out) (by decide)) (Kd.R_typed HO298.out) (by decide)) (Kd.R_typed HO304.out) (by decide)) (Kd.R_typed HO313.out) (by decide)) B87.out (by decide)) (fun k_ hk => ⟨hk.1.1.1.1.2, ⟨hk.1.1.1.2, ⟨hk.1.1.2, ⟨hk.1.2, hk.2⟩⟩⟩⟩))))) (Reps.none _ _)))))); intro v318 w35 ho36 hb hg_ hnew_; clear hg_ hnew_; (first | rw [← Ny317.out] at ho36 | (simp only [Int.reduceToNat] at ho36; rw [← Ny317.out] at ho36)); replace HO295 := aM (rD (by with_reducible apply_rules [HO295.out, rA, rB, rC]) hb); replace HO298 := aM (rD (by with_reducible apply_rules [HO298.out, rA, rB, rC]) hb); replace HO304 := aM (rD (by with_reducible apply_rules [HO304.out, rA, rB, rC]) hb); replace HO313 := aM (rD (by with_reducible apply_rules [HO313.out, rA, rB, rC]) hb); have HO319 := aM (Kd.N_lower ho36 (below_size (by (with_reducible apply_rules [HB.out, pA, pD, pE, sT, GE287.out])))); replace B87 := aM (blk_below (g := gb287) (o := .cells #[.int .i64 0, .slice none 0 0] 25 (0, 0)) (by with_reducible apply_rules [B87.out, bA, bB, bC]) hb); replace HB := aM (pS_ (by (with_reducible apply_rules [HB.out, pA, pD, pE, sT, GE287.out])) hb); clear HO307 HO316; clear hb ho36; obtain ⟨Ao37, co37, eo37⟩ := Kd.N_slice HO319.out; subst eo37) | ((with_reducible refine gate_callee (f := 71) rfl ?_); refine goesL_ (some 58) rfl rfl Tryd.func71 (by kernel_rfl) rfl #[.slice Ao37 y317.length co37] rfl (by (try simp only [List.map_toArray, List.map_cons, List.map_nil]); first | done | rfl | (simp only [List.length_drop, List.length_take]; rfl)) ?_; (with_reducible refine (slices_Concat_ops.calls _ _ y317 t320 _ ?side1 ?side2 A20.out).mono ?_); (case side1 => repeat (first | exact (Kd.N_reads' HO319.out).2.2 | (with_reducible refine Kd.C_alloc ?_ _) | (with_reducible refine Kd.C_drewN ?_ _) | (with_reducible refine Kd.C_drew ?_))); (case side2 => exact (Kd.N_reads' HO319.out).2.1); rintro e w38 ⟨v321, rfl, ho0, hb⟩; refine ⟨_, rfl, ?_⟩; replace HO295 := aM (rD (by with_reducible apply_rules [HO295.out, rA, rB, rC]) hb); replace HO298 := aM (rD (by with_reducible apply_rules [HO298.out, rA, rB, rC]) hb); replace HO304 := aM (rD (by with_reducible apply_rules [HO304.out, rA, rB, rC]) hb); replace HO313 := aM (rD (by with_reducible apply_rules [HO313.out, rA, rB, rC]) hb); replace HO319 := aM (Kd.N_elder' (by with_reducible apply_rules [HO319.out, Kd.N_alloc, Kd.N_drewN, Kd.N_drew]) (Kd.R_base ho0) hb); have HO322 := aM (Kd.R_lower ho0 (below_size (by (with_reducible apply_rules [HB.out, pA, pD, pE, sT, GE287.out])))); replace B87 := aM (blk_below (g := gb287) (o := .cells #[.int .i64 0, .slice none 0 0] 25 (0, 0)) (by with_reducible apply_rules [B87.out, bA, bB, bC]) hb); replace HB := aM (pS_ (by (with_reducible apply_rules [HB.out, pA, pD, pE, sT, GE287.out])) hb); (try clear hb); (try clear hb2); (try clear hk); (try clear hi); (try clear ho0); obtain ⟨Ao39, co39, eo39⟩ := Kd.R_slice HO322.out; subst eo39; have hcz40_0 : w38.cell? ⟨gb287, 0, none⟩ = some (.int .i64 0) := (blk_cell B87.out 0).trans rfl; have hcz40_1 : w38.cell? ⟨gb287, 1, none⟩ = some (.slice none 0 0) := (blk_cell B87.out 1).trans rfl; have hfz40_0 := blk_frozen B87.out 0; have hfz40_1 := blk_frozen B87.out 1))
       refine bodyPost_ret (results_ct rfl _ _ gb287 25 #[.int .i64 (wrap64 (a0 + 2)), .slice Ao39 t320.length co39] (0, 0) _ rfl (by (with_reducible repeat (first | refine bA ?_ _ | refine bB ?_ | refine bC ?_ _)); refine blk_put (cs := #[.int .i64 (wrap64 (a0 + 2)), .slice none 0 0]) ?_ 1 _ rfl; (with_reducible repeat (first | refine bA ?_ _ | refine bB ?_ | refine bC ?_ _)); refine blk_put (cs := #[.int .i64 0, .slice none 0 0]) ?_ 0 _ rfl; with_reducible apply_rules [B87.out, bA, bB, bC]) Tryd.underlying25 rfl (by kernel_rfl)) rfl ?_
       exact ⟨_, by first | rfl | (simp [errW_none, errW_some] <;> rfl) | (simp [*, errW_none, errW_some] <;> rfl), by (with_reducible repeat (first | apply rA | apply rB | apply rC)); exact rE (Kd.R_far (p := ⟨gb287, 1, none⟩) (Kd.R_far (p := ⟨gb287, 0, none⟩) (Kd.R_types HO322.out B87.out (by decide)) (fun _ hk => hk.2) (.int .i64 (wrap64 (a0 + 2)))) (fun _ hk => hk.2) (.slice Ao39 t320.length co39)) (fun _ hk => trivial), by (with_reducible apply_rules [HB.out, pA, pD, pE, sT, GE287.out])⟩
      ·rw [if_neg c18] at H
       exact absurd H (by simp)
     ·rw [if_neg c15] at H
      exact absurd H (by simp)



def commodatumlaw12_restores.f (k : Nat) (a0_0 : Int) (l0_1 : List (S67)) (a1 : Int) (l2 : List Bool) (a3 : Bool) : Option (Bool) := (commodatumref12_Flips.f k a0_0 l0_1 a1 l2).bind fun bt324 => (if bt324.2 = true then (some (bt324.1 == a3)) else (some false))
set_option maxHeartbeats 8000000 in
set_option maxRecDepth 100000 in
theorem commodatumlaw12_restores.calls (k : Nat) (a0_0 : Int) (A0_1 : Option Addr) (c0_1 : Nat) (l0_1 : List (S67)) (a1 : Int) (A2 : Option Addr) (c2 : Nat) (l2 : List Bool) (a3 : Bool) (r : Bool) (w : World) (hr0_1 : Kd.C k67 w A0_1 l0_1.length l0_1) (hc0_1 : l0_1.length ≤ c0_1) (hr2 : Kd.C Kd.bool w A2 l2.length l2) (hc2 : l2.length ≤ c2) (h : commodatumlaw12_restores.f k a0_0 l0_1 a1 l2 a3 = some r) :
  Calls Tryd.prog 75 #[.agg #[.int .i64 a0_0, .slice A0_1 l0_1.length c0_1], .int .i64 a1, .slice A2 l2.length c2, .bool a3] w fun e w' => e = .returned (.bool r) ∧ Below w.heap.size w w' := by
 have hu25 := Tryd.underlying25
 have HR0_1 := aM hr0_1
 have HC0_1 := aM hc0_1
 clear hr0_1 hc0_1
 have HR2 := aM hr2
 have HC2 := aM hc2
 clear hr2 hc2
 have HB := aM (Below.refl w.heap.size w)
 have H : ((commodatumref12_Flips.f k a0_0 l0_1 a1 l2).bind fun bt324 => (if bt324.2 = true then (some (bt324.1 == a3)) else (some false))) = some r := h
 clear h
 replace H := Option.bind_eq_some_iff.mp H
 obtain ⟨⟨t324, t325⟩, A50, H⟩ := H
 replace H : (if t325 = true then (some (t324 == a3)) else (some false)) = some r := H
 have A5 := aM A50
 clear A50
 by_cases c6 : t325 = true
 ·subst c6
  have H1 : (some (t324 == a3)) = some r := by rw [if_pos rfl] at H; exact H
  clear H
  have H := H1
  clear H1
  obtain rfl := Option.some.inj H
  go_enter Tryd.func75, Tryd.ntmps75
  go_wp2_with (first | ((with_reducible refine gate_dst (N := 4) rfl ?_); refine box_event ?hg (N := 4) ?hd (cs := #[.int .i64 a0_0, .slice A0_1 l0_1.length c0_1]) (t := 25) ?hr ?_; (case hd => rfl); (case hg => rfl); (case hr => first | (go_simp; done) | (go_simp; rfl)); intro gb323 hg w7 hbox hb; have B23 := aM (hbox); have GW323 := aM ((by rw [hg]; exact (below_size (by (with_reducible apply_rules [HB.out, pA, pD, pE]))) : w.heap.size ≤ gb323)); have GE323 := aM ((by rw [hg]; exact (below_size (by (with_reducible apply_rules [HB.out, pA, pD, pE]))) : w.heap.size ≤ gb323)); replace HB := aM (pS_ (by (with_reducible apply_rules [HB.out, pA, pD, pE])) hb); clear hb hbox hg; have hcz8_0 : w7.cell? ⟨gb323, 0, none⟩ = some (.int .i64 a0_0) := (blk_cell B23.out 0).trans rfl; have hcz8_1 : w7.cell? ⟨gb323, 1, none⟩ = some (.slice A0_1 l0_1.length c0_1) := (blk_cell B23.out 1).trans rfl; have hfz8_0 := blk_frozen B23.out 0; have hfz8_1 := blk_frozen B23.out 1) | ((with_reducible refine gate_callee (f := 88) rfl ?_); refine goesL_ (some 15) rfl rfl Tryd.func88 (by kernel_rfl) rfl #[.agg #[.int .i64 a0_0, .slice A0_1 l0_1.length c0_1], .int .i64 a1, .slice A2 l2.length c2] rfl (by (try simp only [List.map_toArray, List.map_cons, List.map_nil]); first | done | rfl | (simp only [List.length_drop, List.length_take]; rfl)) ?_; (with_reducible refine (commodatumref12_Flips.calls k a0_0 _ _ l0_1 a1 _ _ l2 t324 true _ ?side1 ?side2 ?side3 ?side4 A5.out).mono ?_); (case side1 => with_reducible apply_rules [(Kd.C_below HR0_1.out HB.out), Kd.C_alloc, Kd.C_drewN, Kd.C_drew]); (case side2 => exact HC0_1.out); (case side3 => with_reducible apply_rules [(Kd.C_below HR2.out HB.out), Kd.C_alloc, Kd.C_drewN, Kd.C_drew]); (case side4 => exact HC2.out); rintro e w9 ⟨rfl, hb⟩; refine ⟨_, rfl, ?_⟩; replace B23 := aM (blk_below (g := gb323) (o := .cells #[.int .i64 a0_0, .slice A0_1 l0_1.length c0_1] 25 (0, 0)) (by with_reducible apply_rules [B23.out, bA, bB, bC]) hb); replace HB := aM (pS_ (by (with_reducible apply_rules [HB.out, pA, pD, pE, sT, GE323.out])) hb); (try clear hb); (try clear hb2); (try clear hk); (try clear hi)))
  go_ret
  exact ⟨by first | rfl | (simp [errW_none, errW_some] <;> rfl) | (simp [*, errW_none, errW_some] <;> rfl), by (with_reducible apply_rules [HB.out, pA, pD, pE, sT, GE323.out])⟩
 ·replace c6 := Bool.eq_false_iff.mpr c6
  subst c6
  have H1 : (some false) = some r := by rw [if_neg (show ¬ (false = true) by decide)] at H; exact H
  clear H
  have H := H1
  clear H1
  obtain rfl := Option.some.inj H
  go_enter Tryd.func75, Tryd.ntmps75
  go_wp2_with (first | ((with_reducible refine gate_dst (N := 4) rfl ?_); refine box_event ?hg (N := 4) ?hd (cs := #[.int .i64 a0_0, .slice A0_1 l0_1.length c0_1]) (t := 25) ?hr ?_; (case hd => rfl); (case hg => rfl); (case hr => first | (go_simp; done) | (go_simp; rfl)); intro gb323 hg w10 hbox hb; have B23 := aM (hbox); have GW323 := aM ((by rw [hg]; exact (below_size (by (with_reducible apply_rules [HB.out, pA, pD, pE]))) : w.heap.size ≤ gb323)); have GE323 := aM ((by rw [hg]; exact (below_size (by (with_reducible apply_rules [HB.out, pA, pD, pE]))) : w.heap.size ≤ gb323)); replace HB := aM (pS_ (by (with_reducible apply_rules [HB.out, pA, pD, pE])) hb); clear hb hbox hg; have hcz11_0 : w10.cell? ⟨gb323, 0, none⟩ = some (.int .i64 a0_0) := (blk_cell B23.out 0).trans rfl; have hcz11_1 : w10.cell? ⟨gb323, 1, none⟩ = some (.slice A0_1 l0_1.length c0_1) := (blk_cell B23.out 1).trans rfl; have hfz11_0 := blk_frozen B23.out 0; have hfz11_1 := blk_frozen B23.out 1) | ((with_reducible refine gate_callee (f := 88) rfl ?_); refine goesL_ (some 15) rfl rfl Tryd.func88 (by kernel_rfl) rfl #[.agg #[.int .i64 a0_0, .slice A0_1 l0_1.length c0_1], .int .i64 a1, .slice A2 l2.length c2] rfl (by (try simp only [List.map_toArray, List.map_cons, List.map_nil]); first | done | rfl | (simp only [List.length_drop, List.length_take]; rfl)) ?_; (with_reducible refine (commodatumref12_Flips.calls k a0_0 _ _ l0_1 a1 _ _ l2 t324 false _ ?side1 ?side2 ?side3 ?side4 A5.out).mono ?_); (case side1 => with_reducible apply_rules [(Kd.C_below HR0_1.out HB.out), Kd.C_alloc, Kd.C_drewN, Kd.C_drew]); (case side2 => exact HC0_1.out); (case side3 => with_reducible apply_rules [(Kd.C_below HR2.out HB.out), Kd.C_alloc, Kd.C_drewN, Kd.C_drew]); (case side4 => exact HC2.out); rintro e w12 ⟨rfl, hb⟩; refine ⟨_, rfl, ?_⟩; replace B23 := aM (blk_below (g := gb323) (o := .cells #[.int .i64 a0_0, .slice A0_1 l0_1.length c0_1] 25 (0, 0)) (by with_reducible apply_rules [B23.out, bA, bB, bC]) hb); replace HB := aM (pS_ (by (with_reducible apply_rules [HB.out, pA, pD, pE, sT, GE323.out])) hb); (try clear hb); (try clear hb2); (try clear hk); (try clear hi)))
  go_ret
  exact ⟨by first | rfl | (simp [errW_none, errW_some] <;> rfl) | (simp [*, errW_none, errW_some] <;> rfl), by (with_reducible apply_rules [HB.out, pA, pD, pE, sT, GE323.out])⟩



end Go.Proofs.YthfhnkpipdbekaaDoor.Tj
