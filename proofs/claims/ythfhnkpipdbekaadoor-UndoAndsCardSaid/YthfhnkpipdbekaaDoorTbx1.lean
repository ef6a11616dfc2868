-- CUT by a program of this session: what the claim does not use is left out
import Derived.Test.YthfhnkpipdbekaaDoorUax0
import Derived.Test.YthfhnkpipdbekaaDoorProg
import Derived.Below
import Derived.Deep.Draws
import Derived.Deep.AppendLies
import Derived.Maps.AppendAt
import Derived.OwnWalk
import Derived.Laws.BytesArg
import Derived.Laws.MakeOwn
import Derived.Laws.OwnMore
import Derived.Deep.OwnRows
import Derived.Tactics
import Derived.Lib.ConvBytes
import Derived.Laws.Slices
import Derived.WalkKit
import Derived.KernelRfl
import Derived.RowKit3
import Derived.Deep.LoopGhost
import Derived.Deep.QuietTactic
import Derived.BigQuiet
import Derived.WideLaws
import Derived.Deep.DeepCutAuto
import Derived.Deep.CutBlock
import Derived.Deep.RegionHeld3
import Derived.Laws.Rows
import Derived.Lib.AppendStr
import Derived.ArgAppend
import Derived.Laws.IdiomCopy
import Derived.OrdersHeld
import Derived.Laws.BitsLemmas
import Derived.RowKit
import Derived.Test.YthfhnkpipdbekaaDoorN12
import Derived.Test.YthfhnkpipdbekaaDoorN6
import Derived.Test.YthfhnkpipdbekaaDoorWAll
import Derived.Test.YthfhnkpipdbekaaDoorTax5
import Derived.Test.YthfhnkpipdbekaaDoorTax6
import Derived.Test.YthfhnkpipdbekaaDoorTax1
import Derived.Test.YthfhnkpipdbekaaDoorTax13
import Derived.Test.YthfhnkpipdbekaaDoorTax2
import Derived.Test.YthfhnkpipdbekaaDoorTax3
import Derived.Test.YthfhnkpipdbekaaDoorTax4
import Derived.Test.YthfhnkpipdbekaaDoorTax7
import Derived.Test.YthfhnkpipdbekaaDoorTxx1
import Derived.Test.YthfhnkpipdbekaaDoorTxx2
namespace Go.Proofs.YthfhnkpipdbekaaDoor.Tb
open Go.Proofs.YthfhnkpipdbekaaDoor.Ua
open Go.Proofs.YthfhnkpipdbekaaDoor.Giv
open Go.Proofs.YthfhnkpipdbekaaDoor.Ta (undo_enumerable.f undo_enumerable.calls undo_final.f undo_final.calls undo_final.mono undo_Dirty.f undo_Dirty.calls undo_Dirty.mono undo_Inverse.f undo_Permutation.f undo_Restores.f commodatumref12_op.f commodatumref12_op.calls commodatumref12_Bits.f commodatumref12_Bits.calls commodatumref12_Valid.f commodatumref12_Valid.calls commodatumref12_Run.f commodatumref12_Run.calls commodatumref12_Flips.f commodatumref12_Flips.calls commodatumlaw12_none.f commodatumlaw12_none.calls commodatumlaw12_spread.f commodatumlaw12_spread.calls commodatumref12_Equal.f commodatumref12_Equal.calls commodatumref12_Equal.mono)
open Go.Proofs.YthfhnkpipdbekaaDoor.Tx (slices_Index_string_string.f slices_Index_string_string.calls undo_numbers.f undo_numbers.calls commodatumlaw12_all.f commodatumlaw12_all.calls)
open Go.Proofs.YthfhnkpipdbekaaDoor.Ui (bits_Input.f bits_Input.calls bits_Input.mono slices_Equal_bool_bool.f slices_Equal_bool_bool.calls slices_Equal_bool_bool.mono)
open Go.RowKit Go.Proofs.YthfhnkpipdbekaaDoorW.PrintWords Go.Proofs.YthfhnkpipdbekaaDoorW.PrintLast Go.Proofs.YthfhnkpipdbekaaDoorW.PrintMore
attribute [local go_sem] max2_int min2_int max_two min_two max_three min_three max_four min_four   -- for this text's walks alone
set_option linter.unusedVariables false
set_option linter.unusedSimpArgs false





def commodatumlaw12_Awake.f (k : Nat)  : Option (Bool) := (undo_Parse.f (⟨#[51, 59, 32, 116, 111, 102, 102, 111, 108, 105, 32, 50, 32, 48, 32, 49]⟩ : ByteArray)).bind fun bt101 => ((undo_Parse.f (⟨#[52, 59, 32, 116, 111, 102, 102, 111, 108, 105, 32, 51, 32, 48, 32, 49, 59, 32, 99, 110, 111, 116, 32, 50, 32, 51, 59, 32, 116, 111, 102, 102, 111, 108, 105, 32, 51, 32, 48, 32, 49]⟩ : ByteArray)).bind fun bt107 => ((undo_Dirty.f k bt101.1 bt101.2.1 2).bind fun bt113 => ((undo_Clean.f k bt107.1 bt107.2.1 2).bind fun bt117 => ((undo_Dirty.f k bt107.1 bt107.2.1 2).bind fun bt121 => ((some (([false, false, false, true] : List Bool) : List Bool)).bind fun y125 => (if bt101.2.2 = 0 then (if bt107.2.2 = 0 then (if bt113.2 = 0 then (if bt117.2 = 0 then (if bt121.2 = 6 then ((commodatumref12_Equal.f k bt113.1 y125).bind fun t128 => (if t128 = true then ((commodatumref12_Equal.f k bt117.1 y125).bind fun t129 => (some t129)) else (none))) else (none)) else (none)) else (none)) else (none)) else (none)))))))
theorem commodatumlaw12_Awake.mono : ∀ k, LeO (commodatumlaw12_Awake.f k ) (commodatumlaw12_Awake.f (k + 1) ) := by
 intro  k
 unfold commodatumlaw12_Awake.f
 repeat' first
   | (with_reducible exact commodatumref12_Equal.mono _ _ _)
   | (with_reducible exact undo_Clean.mono _ _ _ _)
   | (with_reducible exact undo_Dirty.mono _ _ _ _)
   | (with_reducible exact LeO.refl _)
   | (with_reducible exact LeO.none _)
   | (with_reducible refine LeO.ite ?_ ?_)
   | (with_reducible refine LeO.bind ?_ (fun _ => ?_))
   | exact commodatumref12_Equal.mono _ _ _
   | exact undo_Clean.mono _ _ _ _
   | exact undo_Dirty.mono _ _ _ _
   | exact LeO.none _
   | refine LeO.ite ?_ ?_
   | refine LeO.bind ?_ (fun _ => ?_)
open Go.Proofs.YthfhnkpipdbekaaDoorW.PrintWords renaming Kd.R_alloc → rA, Kd.R_drewN → rB, Kd.R_drew → rC, blk_drewN → bA, blk_drew → bB, blk_alloc → bC, below_set → sT, Aside0.mk → aM, pw_below_drewN → pD, below_drew1 → pE, below_alloc → pA
set_option maxHeartbeats 8000000 in
set_option maxRecDepth 100000 in
theorem commodatumlaw12_Awake.calls (k : Nat)  (r : Bool) (w : World) (hlay : Laid w) (h : commodatumlaw12_Awake.f k  = some r) :
  Calls Tryd.prog 12 #[] w fun e w' => e = .returned (.bool r) ∧ Below w.heap.size w w' := by
 have hu25 := Tryd.underlying25
 have HB := aM (Below.refl w.heap.size w)
 have HLAY := aM hlay
 clear hlay
 have H : ((undo_Parse.f (⟨#[51, 59, 32, 116, 111, 102, 102, 111, 108, 105, 32, 50, 32, 48, 32, 49]⟩ : ByteArray)).bind fun bt101 => ((undo_Parse.f (⟨#[52, 59, 32, 116, 111, 102, 102, 111, 108, 105, 32, 51, 32, 48, 32, 49, 59, 32, 99, 110, 111, 116, 32, 50, 32, 51, 59, 32, 116, 111, 102, 102, 111, 108, 105, 32, 51, 32, 48, 32, 49]⟩ : ByteArray)).bind fun bt107 => ((undo_Dirty.f k bt101.1 bt101.2.1 2).bind fun bt113 => ((undo_Clean.f k bt107.1 bt107.2.1 2).bind fun bt117 => ((undo_Dirty.f k bt107.1 bt107.2.1 2).bind fun bt121 => ((some (([false, false, false, true] : List Bool) : List Bool)).bind fun y125 => (if bt101.2.2 = 0 then (if bt107.2.2 = 0 then (if bt113.2 = 0 then (if bt117.2 = 0 then (if bt121.2 = 6 then ((commodatumref12_Equal.f k bt113.1 y125).bind fun t128 => (if t128 = true then ((commodatumref12_Equal.f k bt117.1 y125).bind fun t129 => (some t129)) else (none))) else (none)) else (none)) else (none)) else (none)) else (none)))))))) = some r := h
 clear h
 replace H := Option.bind_eq_some_iff.mp H
 obtain ⟨⟨t101, t102, t105⟩, A10, H⟩ := H
 replace H : ((undo_Parse.f (⟨#[52, 59, 32, 116, 111, 102, 102, 111, 108, 105, 32, 51, 32, 48, 32, 49, 59, 32, 99, 110, 111, 116, 32, 50, 32, 51, 59, 32, 116, 111, 102, 102, 111, 108, 105, 32, 51, 32, 48, 32, 49]⟩ : ByteArray)).bind fun bt107 => ((undo_Dirty.f k t101 t102 2).bind fun bt113 => ((undo_Clean.f k bt107.1 bt107.2.1 2).bind fun bt117 => ((undo_Dirty.f k bt107.1 bt107.2.1 2).bind fun bt121 => ((some (([false, false, false, true] : List Bool) : List Bool)).bind fun y125 => (if t105 = 0 then (if bt107.2.2 = 0 then (if bt113.2 = 0 then (if bt117.2 = 0 then (if bt121.2 = 6 then ((commodatumref12_Equal.f k bt113.1 y125).bind fun t128 => (if t128 = true then ((commodatumref12_Equal.f k bt117.1 y125).bind fun t129 => (some t129)) else (none))) else (none)) else (none)) else (none)) else (none)) else (none))))))) = some r := H
 have A1 := aM A10
 clear A10
 replace H := Option.bind_eq_some_iff.mp H
 obtain ⟨⟨t107, t108, t111⟩, A20, H⟩ := H
 replace H : ((undo_Dirty.f k t101 t102 2).bind fun bt113 => ((undo_Clean.f k t107 t108 2).bind fun bt117 => ((undo_Dirty.f k t107 t108 2).bind fun bt121 => ((some (([false, false, false, true] : List Bool) : List Bool)).bind fun y125 => (if t105 = 0 then (if t111 = 0 then (if bt113.2 = 0 then (if bt117.2 = 0 then (if bt121.2 = 6 then ((commodatumref12_Equal.f k bt113.1 y125).bind fun t128 => (if t128 = true then ((commodatumref12_Equal.f k bt117.1 y125).bind fun t129 => (some t129)) else (none))) else (none)) else (none)) else (none)) else (none)) else (none)))))) = some r := H
 have A2 := aM A20
 clear A20
 replace H := Option.bind_eq_some_iff.mp H
 obtain ⟨⟨t113, t116⟩, A30, H⟩ := H
 replace H : ((undo_Clean.f k t107 t108 2).bind fun bt117 => ((undo_Dirty.f k t107 t108 2).bind fun bt121 => ((some (([false, false, false, true] : List Bool) : List Bool)).bind fun y125 => (if t105 = 0 then (if t111 = 0 then (if t116 = 0 then (if bt117.2 = 0 then (if bt121.2 = 6 then ((commodatumref12_Equal.f k t113 y125).bind fun t128 => (if t128 = true then ((commodatumref12_Equal.f k bt117.1 y125).bind fun t129 => (some t129)) else (none))) else (none)) else (none)) else (none)) else (none)) else (none))))) = some r := H
 have A3 := aM A30
 clear A30
 replace H := Option.bind_eq_some_iff.mp H
 obtain ⟨⟨t117, t120⟩, A40, H⟩ := H
 replace H : ((undo_Dirty.f k t107 t108 2).bind fun bt121 => ((some (([false, false, false, true] : List Bool) : List Bool)).bind fun y125 => (if t105 = 0 then (if t111 = 0 then (if t116 = 0 then (if t120 = 0 then (if bt121.2 = 6 then ((commodatumref12_Equal.f k t113 y125).bind fun t128 => (if t128 = true then ((commodatumref12_Equal.f k t117 y125).bind fun t129 => (some t129)) else (none))) else (none)) else (none)) else (none)) else (none)) else (none)))) = some r := H
 have A4 := aM A40
 clear A40
 replace H := Option.bind_eq_some_iff.mp H
 obtain ⟨⟨t121, t124⟩, A50, H⟩ := H
 replace H : ((some (([false, false, false, true] : List Bool) : List Bool)).bind fun y125 => (if t105 = 0 then (if t111 = 0 then (if t116 = 0 then (if t120 = 0 then (if t124 = 6 then ((commodatumref12_Equal.f k t113 y125).bind fun t128 => (if t128 = true then ((commodatumref12_Equal.f k t117 y125).bind fun t129 => (some t129)) else (none))) else (none)) else (none)) else (none)) else (none)) else (none))) = some r := H
 have A5 := aM A50
 clear A50
 obtain ⟨y125, hy125⟩ : ∃ y_ : List Bool, y_ = (([false, false, false, true] : List Bool)) := ⟨_, rfl⟩
 replace H : (if t105 = 0 then (if t111 = 0 then (if t116 = 0 then (if t120 = 0 then (if t124 = 6 then ((commodatumref12_Equal.f k t113 y125).bind fun t128 => (if t128 = true then ((commodatumref12_Equal.f k t117 y125).bind fun t129 => (some t129)) else (none))) else (none)) else (none)) else (none)) else (none)) else (none)) = some r := by first | (rw [hy125]; with_reducible exact H) | (have H2_ := (Option.bind_some _ _).symm.trans H; rw [hy125]; with_reducible exact H2_) | (have H2_ := (Option.bind_some _ _).symm.trans H; with_reducible exact H2_) | with_reducible exact H | (rw [hy125]; exact H) | exact H
 have Ny125 := aM hy125
 clear hy125
 by_cases c6 : t105 = 0
 ·rw [if_pos c6] at H
  have c6b0 : (t105 == 0) = true := beq_iff_eq.mpr c6
  have c6b1 : (t105 != 0) = false := bne_eq_false_iff_eq.mpr c6
  clear c6
  by_cases c7 : t111 = 0
  ·rw [if_pos c7] at H
   have c7b0 : (t111 == 0) = true := beq_iff_eq.mpr c7
   have c7b1 : (t111 != 0) = false := bne_eq_false_iff_eq.mpr c7
   clear c7
   by_cases c8 : t116 = 0
   ·rw [if_pos c8] at H
    have c8b0 : (t116 == 0) = true := beq_iff_eq.mpr c8
    have c8b1 : (t116 != 0) = false := bne_eq_false_iff_eq.mpr c8
    clear c8
    by_cases c9 : t120 = 0
    ·rw [if_pos c9] at H
     have c9b0 : (t120 == 0) = true := beq_iff_eq.mpr c9
     have c9b1 : (t120 != 0) = false := bne_eq_false_iff_eq.mpr c9
     clear c9
     by_cases c10 : t124 = 6
     ·rw [if_pos c10] at H
      have c10b0 : (t124 == 6) = true := beq_iff_eq.mpr c10
      have c10b1 : (t124 != 6) = false := bne_eq_false_iff_eq.mpr c10
      clear c10
      replace H := Option.bind_eq_some_iff.mp H
      obtain ⟨t128, A110, H⟩ := H
      replace H : (if t128 = true then ((commodatumref12_Equal.f k t117 y125).bind fun t129 => (some t129)) else (none)) = some r := H
      have A11 := aM A110
      clear A110
      by_cases c12 : t128 = true
      ·subst c12
       have H1 : ((commodatumref12_Equal.f k t117 y125).bind fun t129 => (some t129)) = some r := by rw [if_pos rfl] at H; exact H
       clear H
       have H := H1
       clear H1
       replace H := Option.bind_eq_some_iff.mp H
       obtain ⟨t129, A130, H⟩ := H
       replace H : (some t129) = some r := H
       have A13 := aM A130
       clear A130
       obtain rfl := Option.some.inj H
       go_enter Tryd.func12, Tryd.ntmps12
       go_wp2_with (first | ((with_reducible refine gate_callee (f := 14) rfl ?_); refine goesL_ (some 13) rfl rfl Tryd.func14 (by kernel_rfl) rfl #[.string (⟨#[51, 59, 32, 116, 111, 102, 102, 111, 108, 105, 32, 50, 32, 48, 32, 49]⟩ : ByteArray)] rfl (by (try simp only [List.map_toArray, List.map_cons, List.map_nil]); first | done | rfl | (simp only [List.length_drop, List.length_take]; rfl)) ?_; (with_reducible refine (undo_Parse.calls (⟨#[51, 59, 32, 116, 111, 102, 102, 111, 108, 105, 32, 50, 32, 48, 32, 49]⟩ : ByteArray) t101 t102 t105 _ ?side1 A1.out).mono ?_); (case side1 => exact Laid.below HLAY.out (by (with_reducible apply_rules [HB.out, pA, pD, pE]))); rintro e w14 ⟨v103, rfl, ho0, hb⟩; refine ⟨_, rfl, ?_⟩; have HO104 := aM (Kd.R_lower ho0 (below_size (by (with_reducible apply_rules [HB.out, pA, pD, pE])))); replace HB := aM (below_step (by (with_reducible apply_rules [HB.out, pA, pD, pE])) hb); (try clear hb); (try clear hb2); (try clear hk); (try clear hi); (try clear ho0)) | ((with_reducible refine gate_dst (N := 1) rfl ?_); refine box_event ?hg (N := 1) ?hd (cs := #[.int .i64 0, .slice none 0 0]) (t := 25) ?hr ?_; (case hd => rfl); (case hg => rfl); (case hr => first | (go_simp; done) | (go_simp; rfl)); intro gb106 hg w15 hbox hb; replace HO104 := aM (Kd.R_below (by with_reducible apply_rules [HO104.out, rA, rB, rC]) hb); have B06 := aM (hbox); have GW106 := aM ((by rw [hg]; exact (below_size (by (with_reducible apply_rules [HB.out, pA, pD, pE]))) : w.heap.size ≤ gb106)); have GE106 := aM ((by rw [hg]; exact (below_size (by (with_reducible apply_rules [HB.out, pA, pD, pE]))) : w.heap.size ≤ gb106)); replace HB := aM (below_step (by (with_reducible apply_rules [HB.out, pA, pD, pE])) hb); clear hb hbox hg; have hcz16_0 : w15.cell? ⟨gb106, 0, none⟩ = some (.int .i64 0) := (blk_cell B06.out 0).trans rfl; have hcz16_1 : w15.cell? ⟨gb106, 1, none⟩ = some (.slice none 0 0) := (blk_cell B06.out 1).trans rfl; have hfz16_0 := blk_frozen B06.out 0; have hfz16_1 := blk_frozen B06.out 1; obtain ⟨Ao17, co17, eo17⟩ := Kd.R_slice HO104.out; subst eo17) | ((with_reducible refine gate_callee (f := 14) rfl ?_); refine goesL_ (some 17) rfl rfl Tryd.func14 (by kernel_rfl) rfl #[.string (⟨#[52, 59, 32, 116, 111, 102, 102, 111, 108, 105, 32, 51, 32, 48, 32, 49, 59, 32, 99, 110, 111, 116, 32, 50, 32, 51, 59, 32, 116, 111, 102, 102, 111, 108, 105, 32, 51, 32, 48, 32, 49]⟩ : ByteArray)] rfl (by (try simp only [List.map_toArray, List.map_cons, List.map_nil]); first | done | rfl | (simp only [List.length_drop, List.length_take]; rfl)) ?_; (with_reducible refine (undo_Parse.calls (⟨#[52, 59, 32, 116, 111, 102, 102, 111, 108, 105, 32, 51, 32, 48, 32, 49, 59, 32, 99, 110, 111, 116, 32, 50, 32, 51, 59, 32, 116, 111, 102, 102, 111, 108, 105, 32, 51, 32, 48, 32, 49]⟩ : ByteArray) t107 t108 t111 _ ?side1 A2.out).mono ?_); (case side1 => exact Laid.below HLAY.out (by (with_reducible apply_rules [HB.out, pA, pD, pE, sT, GE106.out]))); rintro e w18 ⟨v109, rfl, ho0, hb⟩; refine ⟨_, rfl, ?_⟩; have HO110 := aM (Kd.R_lower (Kd.R_new' ho0 (Kd.R_lt (by (with_reducible repeat (first | apply rA | apply rB | apply rC)); exact (Kd.R_mono (Kd.R_far (p := ⟨gb106, 1, none⟩) (Kd.R_far (p := ⟨gb106, 0, none⟩) (Kd.R_types HO104.out B06.out (by decide)) (fun _ hk => hk.2) (.int .i64 t101)) (fun _ hk => hk.2) (.slice Ao17 t102.length co17)) (fun _ h_ => h_.1))))) (below_size (by (with_reducible apply_rules [HB.out, pA, pD, pE, sT, GE106.out])))); replace HO104 := aM (Kd.R_elder' (by (with_reducible repeat (first | apply rA | apply rB | apply rC)); exact (Kd.R_mono (Kd.R_far (p := ⟨gb106, 1, none⟩) (Kd.R_far (p := ⟨gb106, 0, none⟩) (Kd.R_types HO104.out B06.out (by decide)) (fun _ hk => hk.2) (.int .i64 t101)) (fun _ hk => hk.2) (.slice Ao17 t102.length co17)) (fun _ h_ => h_.1))) (Kd.R_base ho0) hb); replace B06 := aM (blk_below (g := gb106) (o := .cells #[.int .i64 t101, .slice Ao17 t102.length co17] 25 (0, 0)) (by (with_reducible repeat (first | refine bA ?_ _ | refine bB ?_ | refine bC ?_ _)); refine blk_put (cs := #[.int .i64 t101, .slice none 0 0]) ?_ 1 _ rfl; (with_reducible repeat (first | refine bA ?_ _ | refine bB ?_ | refine bC ?_ _)); refine blk_put (cs := #[.int .i64 0, .slice none 0 0]) ?_ 0 _ rfl; with_reducible apply_rules [B06.out, bA, bB, bC]) hb); replace HB := aM (below_step (by (with_reducible apply_rules [HB.out, pA, pD, pE, sT, GE106.out])) hb); (try clear hb); (try clear hb2); (try clear hk); (try clear hi); (try clear ho0)) | ((with_reducible refine gate_dst (N := 3) rfl ?_); refine box_event ?hg (N := 3) ?hd (cs := #[.int .i64 0, .slice none 0 0]) (t := 25) ?hr ?_; (case hd => rfl); (case hg => rfl); (case hr => first | (go_simp; done) | (go_simp; rfl)); intro gb112 hg w19 hbox hb; replace HO104 := aM (Kd.R_below (by with_reducible apply_rules [HO104.out, rA, rB, rC]) hb); replace HO110 := aM (Kd.R_below (by with_reducible apply_rules [HO110.out, rA, rB, rC]) hb); have B12 := aM (hbox); have GW112 := aM ((by rw [hg]; exact (below_size (by (with_reducible apply_rules [HB.out, pA, pD, pE, sT, GE106.out]))) : w.heap.size ≤ gb112)); have GE112 := aM ((by rw [hg]; exact (below_size (by (with_reducible apply_rules [HB.out, pA, pD, pE, sT, GE106.out]))) : w.heap.size ≤ gb112)); replace HB := aM (below_step (by (with_reducible apply_rules [HB.out, pA, pD, pE, sT, GE106.out])) hb); have NB106_112 := aM ((by rw [hg]; exact Nat.ne_of_lt (blk_lt (g := gb106) (o := .cells #[.int .i64 t101, .slice Ao17 t102.length co17] 25 (0, 0)) (by with_reducible apply_rules [B06.out, bA, bB, bC])) : gb106 ≠ gb112)); have NB112_106 := aM ((by rw [hg]; exact Nat.ne_of_gt (blk_lt (g := gb106) (o := .cells #[.int .i64 t101, .slice Ao17 t102.length co17] 25 (0, 0)) (by with_reducible apply_rules [B06.out, bA, bB, bC])) : gb112 ≠ gb106)); replace B06 := aM (blk_below (g := gb106) (o := .cells #[.int .i64 t101, .slice Ao17 t102.length co17] 25 (0, 0)) (by with_reducible apply_rules [B06.out, bA, bB, bC]) hb); clear hb hbox hg; have hnb20 := NB112_106.out; have hnc20 := NB106_112.out; have hcz21_0 : w19.cell? ⟨gb112, 0, none⟩ = some (.int .i64 0) := (blk_cell B12.out 0).trans rfl; have hcz21_1 : w19.cell? ⟨gb112, 1, none⟩ = some (.slice none 0 0) := (blk_cell B12.out 1).trans rfl; have hfz21_0 := blk_frozen B12.out 0; have hfz21_1 := blk_frozen B12.out 1; obtain ⟨Ao22, co22, eo22⟩ := Kd.R_slice HO110.out; subst eo22; have hcz23_0 : w19.cell? ⟨gb106, 0, none⟩ = some (.int .i64 t101) := (blk_cell B06.out 0).trans rfl; have hcz23_1 : w19.cell? ⟨gb106, 1, none⟩ = some (.slice Ao17 t102.length co17) := (blk_cell B06.out 1).trans rfl; have hfz23_0 := blk_frozen B06.out 0; have hfz23_1 := blk_frozen B06.out 1) | ((with_reducible refine gate_callee (f := 25) rfl ?_); refine goesL_ (some 22) rfl rfl Tryd.func25 (by kernel_rfl) rfl #[.agg #[.int .i64 t101, .slice Ao17 t102.length co17], .int .i64 2] rfl (by (try simp only [List.map_toArray, List.map_cons, List.map_nil]); first | done | rfl | (simp only [List.length_drop, List.length_take]; rfl)) ?_; (with_reducible refine (undo_Dirty.calls k t101 _ _ t102 2 t113 t116 _ ?side1 ?side2 A3.out).mono ?_); (case side1 => refine (Kd.R_reads' (e := 67) (base := w.heap.size) (ok := fun k_ => (True ∧ some k_ ≠ (.slice Ao22 t108.length co22 : Value).ownBlock)) (n := t102.length) (c := co17) ?_).2.2; exact (by (with_reducible repeat (first | apply rA | apply rB | apply rC)); exact (Kd.R_mono (Kd.R_far (p := ⟨gb112, 1, none⟩) (Kd.R_far (p := ⟨gb112, 0, none⟩) (Kd.R_types HO104.out B12.out (by decide)) (fun _ hk => hk.2) (.int .i64 t107)) (fun _ hk => hk.2) (.slice Ao22 t108.length co22)) (fun _ h_ => h_.1)))); (case side2 => exact (Kd.R_reads' HO104.out).2.1); rintro e w24 ⟨v114, rfl, ho0, hb⟩; refine ⟨_, rfl, ?_⟩; replace HO104 := aM (Kd.R_below (by (with_reducible repeat (first | apply rA | apply rB | apply rC)); exact (Kd.R_mono (Kd.R_far (p := ⟨gb112, 1, none⟩) (Kd.R_far (p := ⟨gb112, 0, none⟩) (Kd.R_types HO104.out B12.out (by decide)) (fun _ hk => hk.2) (.int .i64 t107)) (fun _ hk => hk.2) (.slice Ao22 t108.length co22)) (fun _ h_ => h_.1))) hb); replace HO110 := aM (Kd.R_below (by (with_reducible repeat (first | apply rA | apply rB | apply rC)); exact (Kd.R_mono (Kd.R_far (p := ⟨gb112, 1, none⟩) (Kd.R_far (p := ⟨gb112, 0, none⟩) (Kd.R_types HO110.out B12.out (by decide)) (fun _ hk => hk.2) (.int .i64 t107)) (fun _ hk => hk.2) (.slice Ao22 t108.length co22)) (fun _ h_ => h_.1))) hb); have HO115 := aM (Kd.R_lower ho0 (below_size (by (with_reducible apply_rules [HB.out, pA, pD, pE, sT, GE106.out, GE112.out])))); replace B06 := aM (blk_below (g := gb106) (o := .cells #[.int .i64 t101, .slice Ao17 t102.length co17] 25 (0, 0)) (by (with_reducible repeat (first | refine bA ?_ _ | refine bB ?_ | refine bC ?_ _)); refine blk_far ?_ NB106_112.out _; (with_reducible repeat (first | refine bA ?_ _ | refine bB ?_ | refine bC ?_ _)); refine blk_far ?_ NB106_112.out _; with_reducible apply_rules [B06.out, bA, bB, bC]) hb); replace B12 := aM (blk_below (g := gb112) (o := .cells #[.int .i64 t107, .slice Ao22 t108.length co22] 25 (0, 0)) (by (with_reducible repeat (first | refine bA ?_ _ | refine bB ?_ | refine bC ?_ _)); refine blk_put (cs := #[.int .i64 t107, .slice none 0 0]) ?_ 1 _ rfl; (with_reducible repeat (first | refine bA ?_ _ | refine bB ?_ | refine bC ?_ _)); refine blk_put (cs := #[.int .i64 0, .slice none 0 0]) ?_ 0 _ rfl; with_reducible apply_rules [B12.out, bA, bB, bC]) hb); replace HB := aM (below_step (by (with_reducible apply_rules [HB.out, pA, pD, pE, sT, GE106.out, GE112.out])) hb); (try clear hb); (try clear hb2); (try clear hk); (try clear hi); (try clear ho0); have hcz25_0 : w24.cell? ⟨gb112, 0, none⟩ = some (.int .i64 t107) := (blk_cell B12.out 0).trans rfl; have hcz25_1 : w24.cell? ⟨gb112, 1, none⟩ = some (.slice Ao22 t108.length co22) := (blk_cell B12.out 1).trans rfl; have hfz25_0 := blk_frozen B12.out 0; have hfz25_1 := blk_frozen B12.out 1) | ((with_reducible refine gate_callee (f := 23) rfl ?_); refine goesL_ (some 27) rfl rfl Tryd.func23 (by kernel_rfl) rfl #[.agg #[.int .i64 t107, .slice Ao22 t108.length co22], .int .i64 2] rfl (by (try simp only [List.map_toArray, List.map_cons, List.map_nil]); first | done | rfl | (simp only [List.length_drop, List.length_take]; rfl)) ?_; (with_reducible refine (undo_Clean.calls k t107 _ _ t108 2 t117 t120 _ ?side1 ?side2 A4.out).mono ?_); (case side1 => repeat (first | exact (Kd.R_reads' HO110.out).2.2 | (with_reducible refine Kd.C_alloc ?_ _) | (with_reducible refine Kd.C_drewN ?_ _) | (with_reducible refine Kd.C_drew ?_))); (case side2 => exact (Kd.R_reads' HO110.out).2.1); rintro e w26 ⟨v118, rfl, ho0, hb⟩; refine ⟨_, rfl, ?_⟩; replace HO104 := aM (Kd.R_below (by with_reducible apply_rules [HO104.out, rA, rB, rC]) hb); replace HO110 := aM (Kd.R_below (by with_reducible apply_rules [HO110.out, rA, rB, rC]) hb); have HO119 := aM (Kd.R_lower (Kd.R_new' ho0 (Kd.R_lt (by with_reducible apply_rules [HO115.out, rA, rB, rC]))) (below_size (by (with_reducible apply_rules [HB.out, pA, pD, pE, sT, GE106.out, GE112.out])))); replace HO115 := aM (Kd.R_elder' (by with_reducible apply_rules [HO115.out, rA, rB, rC]) (Kd.R_base ho0) hb); replace B06 := aM (blk_below (g := gb106) (o := .cells #[.int .i64 t101, .slice Ao17 t102.length co17] 25 (0, 0)) (by with_reducible apply_rules [B06.out, bA, bB, bC]) hb); replace B12 := aM (blk_below (g := gb112) (o := .cells #[.int .i64 t107, .slice Ao22 t108.length co22] 25 (0, 0)) (by with_reducible apply_rules [B12.out, bA, bB, bC]) hb); replace HB := aM (below_step (by (with_reducible apply_rules [HB.out, pA, pD, pE, sT, GE106.out, GE112.out])) hb); (try clear hb); (try clear hb2); (try clear hk); (try clear hi); (try clear ho0); have hcz27_0 : w26.cell? ⟨gb112, 0, none⟩ = some (.int .i64 t107) := (blk_cell B12.out 0).trans rfl; have hcz27_1 : w26.cell? ⟨gb112, 1, none⟩ = some (.slice Ao22 t108.length co22) := (blk_cell B12.out 1).trans rfl; have hfz27_0 := blk_frozen B12.out 0; have hfz27_1 := blk_frozen B12.out 1) | ((with_reducible refine gate_callee (f := 25) rfl ?_); refine goesL_ (some 32) rfl rfl Tryd.func25 (by kernel_rfl) rfl #[.agg #[.int .i64 t107, .slice Ao22 t108.length co22], .int .i64 2] rfl (by (try simp only [List.map_toArray, List.map_cons, List.map_nil]); first | done | rfl | (simp only [List.length_drop, List.length_take]; rfl)) ?_; (with_reducible refine (undo_Dirty.calls k t107 _ _ t108 2 t121 t124 _ ?side1 ?side2 A5.out).mono ?_); (case side1 => repeat (first | exact (Kd.R_reads' HO110.out).2.2 | (with_reducible refine Kd.C_alloc ?_ _) | (with_reducible refine Kd.C_drewN ?_ _) | (with_reducible refine Kd.C_drew ?_))); (case side2 => exact (Kd.R_reads' HO110.out).2.1); rintro e w28 ⟨v122, rfl, ho0, hb⟩; refine ⟨_, rfl, ?_⟩; replace HO104 := aM (Kd.R_below (by with_reducible apply_rules [HO104.out, rA, rB, rC]) hb); replace HO110 := aM (Kd.R_below (by with_reducible apply_rules [HO110.out, rA, rB, rC]) hb); have HO123 := aM (Kd.R_lower (Kd.R_new' (Kd.R_new' ho0 (Kd.R_lt (by with_reducible apply_rules [HO115.out, rA, rB, rC]))) (Kd.R_lt (by with_reducible apply_rules [HO119.out, rA, rB, rC]))) (below_size (by (with_reducible apply_rules [HB.out, pA, pD, pE, sT, GE106.out, GE112.out])))); replace HO115 := aM (Kd.R_elder' (by with_reducible apply_rules [HO115.out, rA, rB, rC]) (Kd.R_base ho0) hb); replace HO119 := aM (Kd.R_elder' (by with_reducible apply_rules [HO119.out, rA, rB, rC]) (Kd.R_base ho0) hb); replace B06 := aM (blk_below (g := gb106) (o := .cells #[.int .i64 t101, .slice Ao17 t102.length co17] 25 (0, 0)) (by with_reducible apply_rules [B06.out, bA, bB, bC]) hb); replace B12 := aM (blk_below (g := gb112) (o := .cells #[.int .i64 t107, .slice Ao22 t108.length co22] 25 (0, 0)) (by with_reducible apply_rules [B12.out, bA, bB, bC]) hb); replace HB := aM (below_step (by (with_reducible apply_rules [HB.out, pA, pD, pE, sT, GE106.out, GE112.out])) hb); (try clear hb); (try clear hb2); (try clear hk); (try clear hi); (try clear ho0)) | ((with_reducible refine gate_dst (N := 35) rfl ?_); refine Kd.R_lit Kd.bool _ 4 ?hg (N := 35) ?hd (xs := ([false, false, false, true] : List Bool)) (inner := [.bool false, .bool false, .bool false, .bool true]) (ok := fun _ => True) (okp := fun _ => True) ?hr ?hp (fun _ hk => hk) trivial (Below.refl _ _) (Nat.le_refl _) (by simp) ?_; (case hd => rfl); (case hg => rfl); (case hr => first | (go_simp; done) | (go_simp; rfl)); (case hp => exact (Reps.one (show Kd.M Kd.bool _ _ _ false [.bool false] from rfl) (Reps.one (show Kd.M Kd.bool _ _ _ false [.bool false] from rfl) (Reps.one (show Kd.M Kd.bool _ _ _ false [.bool false] from rfl) (Reps.one (show Kd.M Kd.bool _ _ _ true [.bool true] from rfl) (Reps.none _ _)))))); intro v126 w29 ho30 hb hg_ hnew_; clear hg_ hnew_; (first | rw [← Ny125.out] at ho30 | (simp only [Int.reduceToNat] at ho30; rw [← Ny125.out] at ho30)); replace HO104 := aM (Kd.R_below (by with_reducible apply_rules [HO104.out, rA, rB, rC]) hb); replace HO110 := aM (Kd.R_below (by with_reducible apply_rules [HO110.out, rA, rB, rC]) hb); have HO127 := aM (Kd.R_lower (Kd.R_new' (Kd.R_new' (Kd.R_new' ho30 (Kd.R_lt (by with_reducible apply_rules [HO115.out, rA, rB, rC]))) (Kd.R_lt (by with_reducible apply_rules [HO119.out, rA, rB, rC]))) (Kd.R_lt (by with_reducible apply_rules [HO123.out, rA, rB, rC]))) (below_size (by (with_reducible apply_rules [HB.out, pA, pD, pE, sT, GE106.out, GE112.out])))); replace HO115 := aM (Kd.R_elder' (by with_reducible apply_rules [HO115.out, rA, rB, rC]) (Kd.R_base ho30) hb); replace HO119 := aM (Kd.R_elder' (by with_reducible apply_rules [HO119.out, rA, rB, rC]) (Kd.R_base ho30) hb); replace HO123 := aM (Kd.R_elder' (by with_reducible apply_rules [HO123.out, rA, rB, rC]) (Kd.R_base ho30) hb); replace B06 := aM (blk_below (g := gb106) (o := .cells #[.int .i64 t101, .slice Ao17 t102.length co17] 25 (0, 0)) (by with_reducible apply_rules [B06.out, bA, bB, bC]) hb); replace B12 := aM (blk_below (g := gb112) (o := .cells #[.int .i64 t107, .slice Ao22 t108.length co22] 25 (0, 0)) (by with_reducible apply_rules [B12.out, bA, bB, bC]) hb); replace HB := aM (below_step (by (with_reducible apply_rules [HB.out, pA, pD, pE, sT, GE106.out, GE112.out])) hb); clear hb ho30; obtain ⟨Ao31, co31, eo31⟩ := Kd.R_slice HO115.out; subst eo31; obtain ⟨Ao32, co32, eo32⟩ := Kd.R_slice HO127.out; subst eo32) | (go_at_call 26; (with_reducible refine (commodatumref12_Equal.calls k _ _ t113 _ _ y125 true _ ?side1 ?side2 ?side3 ?side4 A11.out).mono ?_); (case side1 => repeat (first | exact (Kd.R_reads' HO115.out).2.2 | (with_reducible refine Kd.C_alloc ?_ _) | (with_reducible refine Kd.C_drewN ?_ _) | (with_reducible refine Kd.C_drew ?_))); (case side2 => exact (Kd.R_reads' HO115.out).2.1); (case side3 => repeat (first | exact (Kd.R_reads' HO127.out).2.2 | (with_reducible refine Kd.C_alloc ?_ _) | (with_reducible refine Kd.C_drewN ?_ _) | (with_reducible refine Kd.C_drew ?_))); (case side4 => exact (Kd.R_reads' HO127.out).2.1); rintro e w' ⟨rfl, ⟨nd, rfl⟩⟩; obtain ⟨Ao33, co33, eo33⟩ := Kd.R_slice HO119.out; subst eo33) | (go_at_call 26; (with_reducible refine (commodatumref12_Equal.calls k _ _ t117 _ _ y125 t129 _ ?side1 ?side2 ?side3 ?side4 A13.out).mono ?_); (case side1 => repeat (first | exact (Kd.R_reads' HO119.out).2.2 | (with_reducible refine Kd.C_alloc ?_ _) | (with_reducible refine Kd.C_drewN ?_ _) | (with_reducible refine Kd.C_drew ?_))); (case side2 => exact (Kd.R_reads' HO119.out).2.1); (case side3 => repeat (first | exact (Kd.R_reads' HO127.out).2.2 | (with_reducible refine Kd.C_alloc ?_ _) | (with_reducible refine Kd.C_drewN ?_ _) | (with_reducible refine Kd.C_drew ?_))); (case side4 => exact (Kd.R_reads' HO127.out).2.1); rintro e w' ⟨rfl, ⟨nd, rfl⟩⟩))
       go_ret
       exact ⟨by first | rfl | (simp [errW_none, errW_some] <;> rfl) | (simp [*, errW_none, errW_some] <;> rfl), by (with_reducible apply_rules [HB.out, pA, pD, pE, sT, GE106.out, GE112.out])⟩
      ·replace c12 := Bool.eq_false_iff.mpr c12
       subst c12
       have H1 : (none) = some r := by rw [if_neg (show ¬ (false = true) by decide)] at H; exact H
       exact absurd H1 (by simp)
     ·rw [if_neg c10] at H
      exact absurd H (by simp)
    ·rw [if_neg c9] at H
     exact absurd H (by simp)
   ·rw [if_neg c8] at H
    exact absurd H (by simp)
  ·rw [if_neg c7] at H
   exact absurd H (by simp)
 ·rw [if_neg c6] at H
  exact absurd H (by simp)












end Go.Proofs.YthfhnkpipdbekaaDoor.Tb
