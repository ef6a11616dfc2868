-- CUT by a program of this session: what the claim does not use is left out
import Derived.Test.YthfhnkpipdbekaaDoorTbx0
import Derived.Test.YthfhnkpipdbekaaDoorTbx1
namespace Go.Proofs.YthfhnkpipdbekaaDoor.Tb
open Go.Proofs.YthfhnkpipdbekaaDoor.Ua
open Go.Proofs.YthfhnkpipdbekaaDoor.Giv
open Go.Proofs.YthfhnkpipdbekaaDoor.Ta (undo_enumerable.f undo_enumerable.calls undo_final.f undo_final.calls undo_final.mono undo_Dirty.f undo_Dirty.calls undo_Dirty.mono undo_Inverse.f undo_Inverse.calls undo_Inverse.mono undo_Permutation.f undo_Permutation.calls undo_Permutation.mono undo_Restores.f undo_Restores.calls undo_Restores.mono commodatumref12_op.f commodatumref12_op.calls commodatumref12_Bits.f commodatumref12_Bits.calls commodatumref12_Cost.f commodatumref12_Cost.calls commodatumref12_Large.f commodatumref12_Large.calls commodatumref12_Valid.f commodatumref12_Valid.calls commodatumref12_Run.f commodatumref12_Run.calls commodatumref12_Restores.f commodatumref12_Restores.calls commodatumref12_Number.f commodatumref12_Number.calls commodatumref12_Permutation.f commodatumref12_Permutation.calls commodatumlaw12_Copy.f commodatumlaw12_Copy.calls commodatumlaw12_numbers.f commodatumlaw12_numbers.calls commodatumref12_Join.f commodatumref12_Join.calls commodatumref12_Equal.f commodatumref12_Equal.calls commodatumref12_Equal.mono)
open Go.Proofs.YthfhnkpipdbekaaDoor.Tx (slices_Index_string_string.f slices_Index_string_string.calls slices_Index_string_string.mono undo_numbers.f undo_numbers.mono)
open Go.Proofs.YthfhnkpipdbekaaDoor.Ui (bits_Input.f bits_Input.calls bits_Input.mono slices_Equal_bool_bool.f slices_Equal_bool_bool.calls slices_Equal_bool_bool.mono)
open Go.RowKit Go.Proofs.YthfhnkpipdbekaaDoorW.PrintWords Go.Proofs.YthfhnkpipdbekaaDoorW.PrintLast Go.Proofs.YthfhnkpipdbekaaDoorW.PrintMore
attribute [local go_sem] max2_int min2_int max_two min_two max_three min_three max_four min_four   -- for this text's walks alone
set_option linter.unusedVariables false
set_option linter.unusedSimpArgs false

mutual
def commodatumlaw12_UndoNumbers.j0 : Nat → List Int → List Bool → Int → Int → List (S67) → Option (Bool)
 | 0, _, _, _, _, _ => none
 | k + 1, x3, x4, x5, x185000, x185001 => (commodatumlaw12_Copy.f x185000 x185001).bind fun bt197 => ((undo_Permutation.f k bt197.1 bt197.2).bind fun bt201 => ((commodatumlaw12_Copy.f x185000 x185001).bind fun bt205 => ((undo_Restores.f k bt205.1 bt205.2).bind fun bt209 => (if bt201.2 = x5 then (if bt209.2 = x5 then ((commodatumlaw12_numbers.f k bt201.1 x3).bind fun t213 => (if t213 = true then ((commodatumref12_Equal.f k bt209.1 x4).bind fun t214 => (commodatumlaw12_UndoNumbers.j1 k x5 bt201.1 (!t214) x185000 x185001)) else (commodatumlaw12_UndoNumbers.j1 k x5 bt201.1 true x185000 x185001))) else (commodatumlaw12_UndoNumbers.j1 k x5 bt201.1 true x185000 x185001)) else (commodatumlaw12_UndoNumbers.j1 k x5 bt201.1 true x185000 x185001)))))
def commodatumlaw12_UndoNumbers.j1 : Nat → Int → List Int → Bool → Int → List (S67) → Option (Bool)
 | 0, _, _, _, _, _ => none
 | k + 1, x5, x6, x67, x185000, x185001 => if x67 = true then (some false) else (if x5 = 0 then ((commodatumlaw12_Copy.f x185000 x185001).bind fun bt216 => ((undo_Inverse.f k bt216.1 bt216.2).bind fun bt220 => ((undo_Permutation.f k bt220.1 bt220.2.1).bind fun bt226 => (if bt220.2.2 = 0 then (if bt226.2 = 0 then (commodatumlaw12_UndoNumbers.j2 k x6 bt226.1 ((bt226.1.length : Int) != (x6.length : Int))) else (commodatumlaw12_UndoNumbers.j2 k x6 bt226.1 true)) else (commodatumlaw12_UndoNumbers.j2 k x6 bt226.1 true))))) else ((commodatumlaw12_Awake.f k).bind fun t215 => (some t215)))
def commodatumlaw12_UndoNumbers.j2 : Nat → List Int → List Int → Bool → Option (Bool)
 | 0, _, _, _ => none
 | k + 1, x6, x12, x94 => if x94 = true then (some false) else (commodatumlaw12_UndoNumbers.l0 k x6 x12 0)
def commodatumlaw12_UndoNumbers.l0 : Nat → List Int → List Int → Int → Option (Bool)
 | 0, _, _, _ => none
 | k + 1, x6, x12, x14 => if x14 < (x6.length : Int) then (if 0 ≤ x14 then (if 0 ≤ (rd x6 x14) then (if (rd x6 x14) < (x12.length : Int) then (if (rd x12 (rd x6 x14)) = x14 then (commodatumlaw12_UndoNumbers.l0 k x6 x12 (wrap64 (x14 + 1))) else (some false)) else (none)) else (none)) else (none)) else ((commodatumlaw12_Awake.f k).bind fun t232 => (some t232))
end
def commodatumlaw12_UndoNumbers.f (k : Nat) (a0_0 : Int) (l0_1 : List (S67)) : Option (Bool) := (commodatumlaw12_Wide.f a0_0 l0_1).bind fun t185 => (if t185 = true then ((commodatumlaw12_Awake.f k).bind fun t186 => (some t186)) else ((commodatumref12_Valid.f k a0_0 l0_1).bind fun t187 => (if t187 = true then ((commodatumref12_Large.f a0_0 l0_1).bind fun t188 => (if t188 = true then (commodatumlaw12_UndoNumbers.j0 k ([] : List Int) ([] : List Bool) 5 a0_0 l0_1) else ((commodatumref12_Cost.f a0_0 l0_1 a0_0).bind fun t189 => (if t189 > 400000 then ((commodatumlaw12_Awake.f k).bind fun t190 => (some t190)) else ((commodatumref12_Permutation.f k a0_0 l0_1).bind fun t191 => ((commodatumref12_Restores.f k a0_0 l0_1).bind fun t194 => (commodatumlaw12_UndoNumbers.j0 k t191 t194 0 a0_0 l0_1))))))) else (commodatumlaw12_UndoNumbers.j0 k ([] : List Int) ([] : List Bool) 1 a0_0 l0_1))))
theorem pSb2 {α : Type} : (∀ (l : List α) (i : Nat) (a : α), l.toArray.setIfInBounds i a = (l.set i a).toArray) ∧ (∀ (l : List α) (x y : α), (x :: l).set 0 y = y :: l) ∧ (∀ (l : List α) (x y : α) (n : Nat), (x :: l).set (n + 1) y = x :: l.set n y) :=
 ⟨fun _ _ _ => List.setIfInBounds_toArray .., fun _ _ _ => rfl, fun _ _ _ _ => rfl⟩
open Go.Proofs.YthfhnkpipdbekaaDoorW.PrintWords renaming Kd.R_alloc → rA, Kd.R_drewN → rB, Kd.R_drew → rC, blk_drewN → bA, blk_drew → bB, blk_alloc → bC, below_set → sT, Aside0.mk → aM, pw_below_drewN → pD, below_drew1 → pE, below_alloc → pA, blk_below → bD, Kd.R_below → rD, blk_cell → bE, blk_frozen → bF, below_step → pS_, Kd.R_mono → rE, Kd.C_alloc → cA, Kd.C_drewN → cB, Kd.C_drew → cC, Kd.C_below → cD
set_option maxHeartbeats 8000000 in
set_option maxRecDepth 100000 in
theorem commodatumlaw12_UndoNumbers.calls (k : Nat) (a0_0 : Int) (A0_1 : Option Addr) (c0_1 : Nat) (l0_1 : List (S67)) (r : Bool) (w : World) (hr0_1 : Kd.C k67 w A0_1 l0_1.length l0_1) (hc0_1 : l0_1.length ≤ c0_1) (hlay : Laid w) (h : commodatumlaw12_UndoNumbers.f k a0_0 l0_1 = some r) :
  Calls Tryd.prog 8 #[.agg #[.int .i64 a0_0, .slice A0_1 l0_1.length c0_1]] w fun e w' => e = .returned (.bool r) ∧ Below w.heap.size w w' := by
 have hu25 := Tryd.underlying25
 have HR0_1 := aM hr0_1
 have HC0_1 := aM hc0_1
 clear hr0_1 hc0_1
 have HB := aM (Below.refl w.heap.size w)
 have HLAY := aM hlay
 clear hlay
 have H : ((commodatumlaw12_Wide.f a0_0 l0_1).bind fun t185 => (if t185 = true then ((commodatumlaw12_Awake.f k).bind fun t186 => (some t186)) else ((commodatumref12_Valid.f k a0_0 l0_1).bind fun t187 => (if t187 = true then ((commodatumref12_Large.f a0_0 l0_1).bind fun t188 => (if t188 = true then (commodatumlaw12_UndoNumbers.j0 k ([] : List Int) ([] : List Bool) 5 a0_0 l0_1) else ((commodatumref12_Cost.f a0_0 l0_1 a0_0).bind fun t189 => (if t189 > 400000 then ((commodatumlaw12_Awake.f k).bind fun t190 => (some t190)) else ((commodatumref12_Permutation.f k a0_0 l0_1).bind fun t191 => ((commodatumref12_Restores.f k a0_0 l0_1).bind fun t194 => (commodatumlaw12_UndoNumbers.j0 k t191 t194 0 a0_0 l0_1))))))) else (commodatumlaw12_UndoNumbers.j0 k ([] : List Int) ([] : List Bool) 1 a0_0 l0_1))))) = some r := h
 clear h
 replace H := Option.bind_eq_some_iff.mp H
 obtain ⟨t185, A20, H⟩ := H
 replace H : (if t185 = true then ((commodatumlaw12_Awake.f k).bind fun t186 => (some t186)) else ((commodatumref12_Valid.f k a0_0 l0_1).bind fun t187 => (if t187 = true then ((commodatumref12_Large.f a0_0 l0_1).bind fun t188 => (if t188 = true then (commodatumlaw12_UndoNumbers.j0 k ([] : List Int) ([] : List Bool) 5 a0_0 l0_1) else ((commodatumref12_Cost.f a0_0 l0_1 a0_0).bind fun t189 => (if t189 > 400000 then ((commodatumlaw12_Awake.f k).bind fun t190 => (some t190)) else ((commodatumref12_Permutation.f k a0_0 l0_1).bind fun t191 => ((commodatumref12_Restores.f k a0_0 l0_1).bind fun t194 => (commodatumlaw12_UndoNumbers.j0 k t191 t194 0 a0_0 l0_1))))))) else (commodatumlaw12_UndoNumbers.j0 k ([] : List Int) ([] : List Bool) 1 a0_0 l0_1)))) = some r := H
 have A2 := aM A20
 clear A20
 by_cases c3 : t185 = true
 ·subst c3
  have H1 : ((commodatumlaw12_Awake.f k).bind fun t186 => (some t186)) = some r := by rw [if_pos rfl] at H; exact H
  clear H
  have H := H1
  clear H1
  replace H := Option.bind_eq_some_iff.mp H
  obtain ⟨t186, A40, H⟩ := H
  replace H : (some t186) = some r := H
  have A4 := aM A40
  clear A40
  obtain rfl := Option.some.inj H
  go_enter Tryd.func8, Tryd.ntmps8
  go_wp2_with (first | ((with_reducible refine gate_dst (N := 1) rfl ?_); (try (refine gate_guard (by rfl) ?_; dsimp only)); refine box_event ?hg (N := 1) ?hd (cs := #[.int .i64 a0_0, .slice A0_1 l0_1.length c0_1]) (t := 25) ?hr ?_; (case hd => rfl); (case hg => rfl); (case hr => first | (go_simp; done) | (go_simp; rfl)); intro gb184 hg w5 hbox hb; have n0_ := aM (pS_ (by (with_reducible apply_rules [HB.out, pA, pD, pE])) hb); have n1_ := aM (hbox); have n2_ := aM ((by rw [hg]; exact (below_size (by (with_reducible apply_rules [HB.out, pA, pD, pE]))) : w.heap.size ≤ gb184)); have n3_ := aM ((by rw [hg]; exact (below_size (by (with_reducible apply_rules [HB.out, pA, pD, pE]))) : w.heap.size ≤ gb184)); clear HB; have HB := n0_; have B84 := n1_; have GW184 := n2_; have GE184 := n3_; clear n0_ n1_ n2_ n3_; clear hb hbox hg; have hcz6_0 : w5.cell? ⟨gb184, 0, none⟩ = some (.int .i64 a0_0) := (bE B84.out 0).trans rfl; have hcz6_1 : w5.cell? ⟨gb184, 1, none⟩ = some (.slice A0_1 l0_1.length c0_1) := (bE B84.out 1).trans rfl; have hfz6_0 := bF B84.out 0; have hfz6_1 := bF B84.out 1) | ((with_reducible refine gate_callee (f := 17) rfl ?_); refine goesL_ (some 16) rfl rfl Tryd.func17 (by kernel_rfl) rfl #[.agg #[.int .i64 a0_0, .slice A0_1 l0_1.length c0_1]] rfl (by (try simp only [List.map_toArray, List.map_cons, List.map_nil]); first | done | rfl | (simp only [List.length_drop, List.length_take]; rfl)) ?_; (with_reducible refine (commodatumlaw12_Wide.calls a0_0 _ _ l0_1 true _ ?side1 ?side2 A2.out).mono ?_); (case side1 => repeat (first | exact (cD HR0_1.out HB.out) | (with_reducible refine cA ?_ _) | (with_reducible refine cB ?_ _) | (with_reducible refine cC ?_))); (case side2 => exact HC0_1.out); rintro e w7 ⟨rfl, hb⟩; refine ⟨_, rfl, ?_⟩; have n0_ := aM (bD (g := gb184) (o := .cells #[.int .i64 a0_0, .slice A0_1 l0_1.length c0_1] 25 (0, 0)) (by with_reducible apply_rules [B84.out, bA, bB, bC]) hb); have n1_ := aM (pS_ (by (with_reducible apply_rules [HB.out, pA, pD, pE, sT, GE184.out])) hb); clear B84; clear HB; have B84 := n0_; have HB := n1_; clear n0_ n1_; (try clear hb); (try clear hb2); (try clear hk); (try clear hi)) | ((with_reducible refine gate_callee (f := 12) rfl ?_); refine goesL_ (some 17) rfl rfl Tryd.func12 (by kernel_rfl) rfl #[] rfl (by (try simp only [List.map_toArray, List.map_cons, List.map_nil]); first | done | rfl | (simp only [List.length_drop, List.length_take]; rfl)) ?_; (with_reducible refine (commodatumlaw12_Awake.calls k  t186 _ ?side1 A4.out).mono ?_); (case side1 => exact Laid.below HLAY.out (by (with_reducible apply_rules [HB.out, pA, pD, pE, sT, GE184.out]))); rintro e w8 ⟨rfl, hb⟩; refine ⟨_, rfl, ?_⟩; have n0_ := aM (bD (g := gb184) (o := .cells #[.int .i64 a0_0, .slice A0_1 l0_1.length c0_1] 25 (0, 0)) (by with_reducible apply_rules [B84.out, bA, bB, bC]) hb); have n1_ := aM (pS_ (by (with_reducible apply_rules [HB.out, pA, pD, pE, sT, GE184.out])) hb); clear B84; clear HB; have B84 := n0_; have HB := n1_; clear n0_ n1_; (try clear hb); (try clear hb2); (try clear hk); (try clear hi)))
  go_ret
  exact ⟨by first | rfl | (simp [errW_none, errW_some] <;> rfl) | (simp [*, errW_none, errW_some] <;> rfl), by (with_reducible apply_rules [HB.out, pA, pD, pE, sT, GE184.out])⟩
 ·replace c3 := Bool.eq_false_iff.mpr c3
  subst c3
  have H1 : ((commodatumref12_Valid.f k a0_0 l0_1).bind fun t187 => (if t187 = true then ((commodatumref12_Large.f a0_0 l0_1).bind fun t188 => (if t188 = true then (commodatumlaw12_UndoNumbers.j0 k ([] : List Int) ([] : List Bool) 5 a0_0 l0_1) else ((commodatumref12_Cost.f a0_0 l0_1 a0_0).bind fun t189 => (if t189 > 400000 then ((commodatumlaw12_Awake.f k).bind fun t190 => (some t190)) else ((commodatumref12_Permutation.f k a0_0 l0_1).bind fun t191 => ((commodatumref12_Restores.f k a0_0 l0_1).bind fun t194 => (commodatumlaw12_UndoNumbers.j0 k t191 t194 0 a0_0 l0_1))))))) else (commodatumlaw12_UndoNumbers.j0 k ([] : List Int) ([] : List Bool) 1 a0_0 l0_1))) = some r := by rw [if_neg (show ¬ (false = true) by decide)] at H; exact H
  clear H
  have H := H1
  clear H1
  have HC9 := aM H
  clear H
  go_enter Tryd.func8, Tryd.ntmps8
  go_upto_block 0 with (first | ((with_reducible refine gate_dst (N := 1) rfl ?_); (try (refine gate_guard (by rfl) ?_; dsimp only)); refine box_event ?hg (N := 1) ?hd (cs := #[.int .i64 a0_0, .slice A0_1 l0_1.length c0_1]) (t := 25) ?hr ?_; (case hd => rfl); (case hg => rfl); (case hr => first | (go_simp; done) | (go_simp; rfl)); intro gb184 hg w10 hbox hb; have n0_ := aM (pS_ (by (with_reducible apply_rules [HB.out, pA, pD, pE])) hb); have n1_ := aM (hbox); have n2_ := aM ((by rw [hg]; exact (below_size (by (with_reducible apply_rules [HB.out, pA, pD, pE]))) : w.heap.size ≤ gb184)); have n3_ := aM ((by rw [hg]; exact (below_size (by (with_reducible apply_rules [HB.out, pA, pD, pE]))) : w.heap.size ≤ gb184)); clear HB; have HB := n0_; have B84 := n1_; have GW184 := n2_; have GE184 := n3_; clear n0_ n1_ n2_ n3_; clear hb hbox hg; have hcz11_0 : w10.cell? ⟨gb184, 0, none⟩ = some (.int .i64 a0_0) := (bE B84.out 0).trans rfl; have hcz11_1 : w10.cell? ⟨gb184, 1, none⟩ = some (.slice A0_1 l0_1.length c0_1) := (bE B84.out 1).trans rfl; have hfz11_0 := bF B84.out 0; have hfz11_1 := bF B84.out 1) | ((with_reducible refine gate_callee (f := 17) rfl ?_); refine goesL_ (some 16) rfl rfl Tryd.func17 (by kernel_rfl) rfl #[.agg #[.int .i64 a0_0, .slice A0_1 l0_1.length c0_1]] rfl (by (try simp only [List.map_toArray, List.map_cons, List.map_nil]); first | done | rfl | (simp only [List.length_drop, List.length_take]; rfl)) ?_; (with_reducible refine (commodatumlaw12_Wide.calls a0_0 _ _ l0_1 false _ ?side1 ?side2 A2.out).mono ?_); (case side1 => repeat (first | exact (cD HR0_1.out HB.out) | (with_reducible refine cA ?_ _) | (with_reducible refine cB ?_ _) | (with_reducible refine cC ?_))); (case side2 => exact HC0_1.out); rintro e w12 ⟨rfl, hb⟩; refine ⟨_, rfl, ?_⟩; have n0_ := aM (bD (g := gb184) (o := .cells #[.int .i64 a0_0, .slice A0_1 l0_1.length c0_1] 25 (0, 0)) (by with_reducible apply_rules [B84.out, bA, bB, bC]) hb); have n1_ := aM (pS_ (by (with_reducible apply_rules [HB.out, pA, pD, pE, sT, GE184.out])) hb); clear B84; clear HB; have B84 := n0_; have HB := n1_; clear n0_ n1_; (try clear hb); (try clear hb2); (try clear hk); (try clear hi)))
  (try simp only [Act.put, List.setIfInBounds_toArray, List.set_cons_zero, List.set_cons_succ])
  go_cut [3, 4, 5] (fun v3 v4 v5 wc => ∃ (kq : Nat) (x3_8 : List Int) (x4_8 : List Bool) (x5_8 : Int), v5 = .int .i64 x5_8 ∧ Aside0 (commodatumlaw12_UndoNumbers.j0 kq x3_8 x4_8 x5_8 a0_0 l0_1 = some r) ∧ Aside0 (kq ≤ k) ∧ Aside0 (Kd.R (Kd.int .i64) 3 wc w.heap.size (fun _ => True) v3 x3_8) ∧ Aside0 (Kd.R Kd.bool 4 wc w.heap.size (fun _ => True) v4 x4_8) ∧ Aside0 (wc.heap[gb184]? = some (.cells #[.int .i64 a0_0, (.slice A0_1 l0_1.length c0_1)] 25 (0, 0))) ∧ Aside0 (Below w.heap.size w wc))
  case first =>
   have H := HC9.out
   clear HC9
   replace H := Option.bind_eq_some_iff.mp H
   obtain ⟨t187, A130, H⟩ := H
   replace H : (if t187 = true then ((commodatumref12_Large.f a0_0 l0_1).bind fun t188 => (if t188 = true then (commodatumlaw12_UndoNumbers.j0 k ([] : List Int) ([] : List Bool) 5 a0_0 l0_1) else ((commodatumref12_Cost.f a0_0 l0_1 a0_0).bind fun t189 => (if t189 > 400000 then ((commodatumlaw12_Awake.f k).bind fun t190 => (some t190)) else ((commodatumref12_Permutation.f k a0_0 l0_1).bind fun t191 => ((commodatumref12_Restores.f k a0_0 l0_1).bind fun t194 => (commodatumlaw12_UndoNumbers.j0 k t191 t194 0 a0_0 l0_1))))))) else (commodatumlaw12_UndoNumbers.j0 k ([] : List Int) ([] : List Bool) 1 a0_0 l0_1)) = some r := H
   have A13 := aM A130
   clear A130
   by_cases c14 : t187 = true
   ·subst c14
    have H1 : ((commodatumref12_Large.f a0_0 l0_1).bind fun t188 => (if t188 = true then (commodatumlaw12_UndoNumbers.j0 k ([] : List Int) ([] : List Bool) 5 a0_0 l0_1) else ((commodatumref12_Cost.f a0_0 l0_1 a0_0).bind fun t189 => (if t189 > 400000 then ((commodatumlaw12_Awake.f k).bind fun t190 => (some t190)) else ((commodatumref12_Permutation.f k a0_0 l0_1).bind fun t191 => ((commodatumref12_Restores.f k a0_0 l0_1).bind fun t194 => (commodatumlaw12_UndoNumbers.j0 k t191 t194 0 a0_0 l0_1))))))) = some r := by rw [if_pos rfl] at H; exact H
    clear H
    have H := H1
    clear H1
    replace H := Option.bind_eq_some_iff.mp H
    obtain ⟨t188, A150, H⟩ := H
    replace H : (if t188 = true then (commodatumlaw12_UndoNumbers.j0 k ([] : List Int) ([] : List Bool) 5 a0_0 l0_1) else ((commodatumref12_Cost.f a0_0 l0_1 a0_0).bind fun t189 => (if t189 > 400000 then ((commodatumlaw12_Awake.f k).bind fun t190 => (some t190)) else ((commodatumref12_Permutation.f k a0_0 l0_1).bind fun t191 => ((commodatumref12_Restores.f k a0_0 l0_1).bind fun t194 => (commodatumlaw12_UndoNumbers.j0 k t191 t194 0 a0_0 l0_1)))))) = some r := H
    have A15 := aM A150
    clear A150
    by_cases c16 : t188 = true
    ·subst c16
     have H1 : (commodatumlaw12_UndoNumbers.j0 k ([] : List Int) ([] : List Bool) 5 a0_0 l0_1) = some r := by rw [if_pos rfl] at H; exact H
     clear H
     have H := H1
     clear H1
     have H' := aM H
     clear H
     have hcz17_0 : w12.cell? ⟨gb184, 0, none⟩ = some (.int .i64 a0_0) := (bE B84.out 0).trans rfl
     have hcz17_1 : w12.cell? ⟨gb184, 1, none⟩ = some (.slice A0_1 l0_1.length c0_1) := (bE B84.out 1).trans rfl
     have hfz17_0 := bF B84.out 0
     have hfz17_1 := bF B84.out 1
     go_wp2_with (first | ((with_reducible refine gate_callee (f := 18) rfl ?_); refine goesL_ (some 24) rfl rfl Tryd.func18 (by kernel_rfl) rfl #[.agg #[.int .i64 a0_0, .slice A0_1 l0_1.length c0_1]] rfl (by (try simp only [List.map_toArray, List.map_cons, List.map_nil]); first | done | rfl | (simp only [List.length_drop, List.length_take]; rfl)) ?_; (with_reducible refine (commodatumref12_Valid.calls k a0_0 _ _ l0_1 true _ ?side1 ?side2 A13.out).mono ?_); (case side1 => repeat (first | exact (cD HR0_1.out HB.out) | (with_reducible refine cA ?_ _) | (with_reducible refine cB ?_ _) | (with_reducible refine cC ?_))); (case side2 => exact HC0_1.out); rintro e w18 ⟨rfl, hb⟩; refine ⟨_, rfl, ?_⟩; have n0_ := aM (bD (g := gb184) (o := .cells #[.int .i64 a0_0, .slice A0_1 l0_1.length c0_1] 25 (0, 0)) (by with_reducible apply_rules [B84.out, bA, bB, bC]) hb); have n1_ := aM (pS_ (by (with_reducible apply_rules [HB.out, pA, pD, pE, sT, GE184.out])) hb); clear B84; clear HB; have B84 := n0_; have HB := n1_; clear n0_ n1_; (try clear hb); (try clear hb2); (try clear hk); (try clear hi); have hcz19_0 : w18.cell? ⟨gb184, 0, none⟩ = some (.int .i64 a0_0) := (bE B84.out 0).trans rfl; have hcz19_1 : w18.cell? ⟨gb184, 1, none⟩ = some (.slice A0_1 l0_1.length c0_1) := (bE B84.out 1).trans rfl; have hfz19_0 := bF B84.out 0; have hfz19_1 := bF B84.out 1) | ((with_reducible refine gate_callee (f := 21) rfl ?_); refine goesL_ (some 28) rfl rfl Tryd.func21 (by kernel_rfl) rfl #[.agg #[.int .i64 a0_0, .slice A0_1 l0_1.length c0_1]] rfl (by (try simp only [List.map_toArray, List.map_cons, List.map_nil]); first | done | rfl | (simp only [List.length_drop, List.length_take]; rfl)) ?_; (with_reducible refine (commodatumref12_Large.calls a0_0 _ _ l0_1 true _ ?side1 ?side2 A15.out).mono ?_); (case side1 => repeat (first | exact (cD HR0_1.out HB.out) | (with_reducible refine cA ?_ _) | (with_reducible refine cB ?_ _) | (with_reducible refine cC ?_))); (case side2 => exact HC0_1.out); rintro e w20 ⟨rfl, hb⟩; refine ⟨_, rfl, ?_⟩; have n0_ := aM (bD (g := gb184) (o := .cells #[.int .i64 a0_0, .slice A0_1 l0_1.length c0_1] 25 (0, 0)) (by with_reducible apply_rules [B84.out, bA, bB, bC]) hb); have n1_ := aM (pS_ (by (with_reducible apply_rules [HB.out, pA, pD, pE, sT, GE184.out])) hb); clear B84; clear HB; have B84 := n0_; have HB := n1_; clear n0_ n1_; (try clear hb); (try clear hb2); (try clear hk); (try clear hi)))
     go_meet
     case rel => exact ⟨_, (([] : List Int)), (([] : List Bool)), (5), (by first | rfl | (simp; done) | (simp [*]; done)), H', ⟨by first | omega | exact Nat.le_refl _⟩, ⟨by first | exact Kd.R_nil _ _ _ _ _ | exact Kd.N_nil _ _ _ _ _ | exact Kd.V_nil _ _ _ _ _ | exact Kd.Q_nil _ _ _ _ _ | exact Kd.S_nil _ _ _ _ _⟩, ⟨by first | exact Kd.R_nil _ _ _ _ _ | exact Kd.N_nil _ _ _ _ _ | exact Kd.V_nil _ _ _ _ _ | exact Kd.Q_nil _ _ _ _ _ | exact Kd.S_nil _ _ _ _ _⟩, ⟨by with_reducible apply_rules [B84.out, bA, bB, bC]⟩, ⟨by (with_reducible apply_rules [HB.out, pA, pD, pE, sT, GE184.out])⟩⟩
    ·replace c16 := Bool.eq_false_iff.mpr c16
     subst c16
     have H1 : ((commodatumref12_Cost.f a0_0 l0_1 a0_0).bind fun t189 => (if t189 > 400000 then ((commodatumlaw12_Awake.f k).bind fun t190 => (some t190)) else ((commodatumref12_Permutation.f k a0_0 l0_1).bind fun t191 => ((commodatumref12_Restores.f k a0_0 l0_1).bind fun t194 => (commodatumlaw12_UndoNumbers.j0 k t191 t194 0 a0_0 l0_1))))) = some r := by rw [if_neg (show ¬ (false = true) by decide)] at H; exact H
     clear H
     have H := H1
     clear H1
     replace H := Option.bind_eq_some_iff.mp H
     obtain ⟨t189, A210, H⟩ := H
     replace H : (if t189 > 400000 then ((commodatumlaw12_Awake.f k).bind fun t190 => (some t190)) else ((commodatumref12_Permutation.f k a0_0 l0_1).bind fun t191 => ((commodatumref12_Restores.f k a0_0 l0_1).bind fun t194 => (commodatumlaw12_UndoNumbers.j0 k t191 t194 0 a0_0 l0_1)))) = some r := H
     have A21 := aM A210
     clear A210
     by_cases c22 : t189 > 400000
     ·rw [if_pos c22] at H
      have c22b0 : decide (400000 < t189) = true := decide_eq_true c22
      clear c22
      (first | rw [c22b0] | (simp only [i64_w, i32_w]; rw [c22b0]) | skip)
      replace H := Option.bind_eq_some_iff.mp H
      obtain ⟨t190, A230, H⟩ := H
      replace H : (some t190) = some r := H
      have A23 := aM A230
      clear A230
      obtain rfl := Option.some.inj H
      have hcz24_0 : w12.cell? ⟨gb184, 0, none⟩ = some (.int .i64 a0_0) := (bE B84.out 0).trans rfl
      have hcz24_1 : w12.cell? ⟨gb184, 1, none⟩ = some (.slice A0_1 l0_1.length c0_1) := (bE B84.out 1).trans rfl
      have hfz24_0 := bF B84.out 0
      have hfz24_1 := bF B84.out 1
      go_wp2_with (first | ((with_reducible refine gate_callee (f := 18) rfl ?_); refine goesL_ (some 24) rfl rfl Tryd.func18 (by kernel_rfl) rfl #[.agg #[.int .i64 a0_0, .slice A0_1 l0_1.length c0_1]] rfl (by (try simp only [List.map_toArray, List.map_cons, List.map_nil]); first | done | rfl | (simp only [List.length_drop, List.length_take]; rfl)) ?_; (with_reducible refine (commodatumref12_Valid.calls k a0_0 _ _ l0_1 true _ ?side1 ?side2 A13.out).mono ?_); (case side1 => repeat (first | exact (cD HR0_1.out HB.out) | (with_reducible refine cA ?_ _) | (with_reducible refine cB ?_ _) | (with_reducible refine cC ?_))); (case side2 => exact HC0_1.out); rintro e w25 ⟨rfl, hb⟩; refine ⟨_, rfl, ?_⟩; have n0_ := aM (bD (g := gb184) (o := .cells #[.int .i64 a0_0, .slice A0_1 l0_1.length c0_1] 25 (0, 0)) (by with_reducible apply_rules [B84.out, bA, bB, bC]) hb); have n1_ := aM (pS_ (by (with_reducible apply_rules [HB.out, pA, pD, pE, sT, GE184.out])) hb); clear B84; clear HB; have B84 := n0_; have HB := n1_; clear n0_ n1_; (try clear hb); (try clear hb2); (try clear hk); (try clear hi); have hcz26_0 : w25.cell? ⟨gb184, 0, none⟩ = some (.int .i64 a0_0) := (bE B84.out 0).trans rfl; have hcz26_1 : w25.cell? ⟨gb184, 1, none⟩ = some (.slice A0_1 l0_1.length c0_1) := (bE B84.out 1).trans rfl; have hfz26_0 := bF B84.out 0; have hfz26_1 := bF B84.out 1) | ((with_reducible refine gate_callee (f := 21) rfl ?_); refine goesL_ (some 28) rfl rfl Tryd.func21 (by kernel_rfl) rfl #[.agg #[.int .i64 a0_0, .slice A0_1 l0_1.length c0_1]] rfl (by (try simp only [List.map_toArray, List.map_cons, List.map_nil]); first | done | rfl | (simp only [List.length_drop, List.length_take]; rfl)) ?_; (with_reducible refine (commodatumref12_Large.calls a0_0 _ _ l0_1 false _ ?side1 ?side2 A15.out).mono ?_); (case side1 => repeat (first | exact (cD HR0_1.out HB.out) | (with_reducible refine cA ?_ _) | (with_reducible refine cB ?_ _) | (with_reducible refine cC ?_))); (case side2 => exact HC0_1.out); rintro e w27 ⟨rfl, hb⟩; refine ⟨_, rfl, ?_⟩; have n0_ := aM (bD (g := gb184) (o := .cells #[.int .i64 a0_0, .slice A0_1 l0_1.length c0_1] 25 (0, 0)) (by with_reducible apply_rules [B84.out, bA, bB, bC]) hb); have n1_ := aM (pS_ (by (with_reducible apply_rules [HB.out, pA, pD, pE, sT, GE184.out])) hb); clear B84; clear HB; have B84 := n0_; have HB := n1_; clear n0_ n1_; (try clear hb); (try clear hb2); (try clear hk); (try clear hi); have hcz28_0 : w27.cell? ⟨gb184, 0, none⟩ = some (.int .i64 a0_0) := (bE B84.out 0).trans rfl; have hcz28_1 : w27.cell? ⟨gb184, 1, none⟩ = some (.slice A0_1 l0_1.length c0_1) := (bE B84.out 1).trans rfl; have hfz28_0 := bF B84.out 0; have hfz28_1 := bF B84.out 1) | ((with_reducible refine gate_callee (f := 19) rfl ?_); refine goesL_ (some 33) rfl rfl Tryd.func19 (by kernel_rfl) rfl #[.agg #[.int .i64 a0_0, .slice A0_1 l0_1.length c0_1], .int .i64 a0_0] rfl (by (try simp only [List.map_toArray, List.map_cons, List.map_nil]); first | done | rfl | (simp only [List.length_drop, List.length_take]; rfl)) ?_; (with_reducible refine (commodatumref12_Cost.calls a0_0 _ _ l0_1 a0_0 t189 _ ?side1 ?side2 A21.out).mono ?_); (case side1 => repeat (first | exact (cD HR0_1.out HB.out) | (with_reducible refine cA ?_ _) | (with_reducible refine cB ?_ _) | (with_reducible refine cC ?_))); (case side2 => exact HC0_1.out); rintro e w29 ⟨rfl, hb⟩; refine ⟨_, rfl, ?_⟩; have n0_ := aM (bD (g := gb184) (o := .cells #[.int .i64 a0_0, .slice A0_1 l0_1.length c0_1] 25 (0, 0)) (by with_reducible apply_rules [B84.out, bA, bB, bC]) hb); have n1_ := aM (pS_ (by (with_reducible apply_rules [HB.out, pA, pD, pE, sT, GE184.out])) hb); clear B84; clear HB; have B84 := n0_; have HB := n1_; clear n0_ n1_; (try clear hb); (try clear hb2); (try clear hk); (try clear hi)) | ((with_reducible refine gate_callee (f := 12) rfl ?_); refine goesL_ (some 35) rfl rfl Tryd.func12 (by kernel_rfl) rfl #[] rfl (by (try simp only [List.map_toArray, List.map_cons, List.map_nil]); first | done | rfl | (simp only [List.length_drop, List.length_take]; rfl)) ?_; (with_reducible refine (commodatumlaw12_Awake.calls k  t190 _ ?side1 A23.out).mono ?_); (case side1 => exact Laid.below HLAY.out (by (with_reducible apply_rules [HB.out, pA, pD, pE, sT, GE184.out]))); rintro e w30 ⟨rfl, hb⟩; refine ⟨_, rfl, ?_⟩; have n0_ := aM (bD (g := gb184) (o := .cells #[.int .i64 a0_0, .slice A0_1 l0_1.length c0_1] 25 (0, 0)) (by with_reducible apply_rules [B84.out, bA, bB, bC]) hb); have n1_ := aM (pS_ (by (with_reducible apply_rules [HB.out, pA, pD, pE, sT, GE184.out])) hb); clear B84; clear HB; have B84 := n0_; have HB := n1_; clear n0_ n1_; (try clear hb); (try clear hb2); (try clear hk); (try clear hi)))
      go_ret
      exact ⟨by first | rfl | (simp [errW_none, errW_some] <;> rfl) | (simp [*, errW_none, errW_some] <;> rfl), by (with_reducible apply_rules [HB.out, pA, pD, pE, sT, GE184.out])⟩
     ·rw [if_neg c22] at H
      have c22b0 : decide (400000 < t189) = false := decide_eq_false c22
      clear c22
      (first | rw [c22b0] | (simp only [i64_w, i32_w]; rw [c22b0]) | skip)
      replace H := Option.bind_eq_some_iff.mp H
      obtain ⟨t191, A310, H⟩ := H
      replace H : ((commodatumref12_Restores.f k a0_0 l0_1).bind fun t194 => (commodatumlaw12_UndoNumbers.j0 k t191 t194 0 a0_0 l0_1)) = some r := H
      have A31 := aM A310
      clear A310
      replace H := Option.bind_eq_some_iff.mp H
      obtain ⟨t194, A320, H⟩ := H
      replace H : (commodatumlaw12_UndoNumbers.j0 k t191 t194 0 a0_0 l0_1) = some r := H
      have A32 := aM A320
      clear A320
      have H' := aM H
      clear H
      have hcz33_0 : w12.cell? ⟨gb184, 0, none⟩ = some (.int .i64 a0_0) := (bE B84.out 0).trans rfl
      have hcz33_1 : w12.cell? ⟨gb184, 1, none⟩ = some (.slice A0_1 l0_1.length c0_1) := (bE B84.out 1).trans rfl
      have hfz33_0 := bF B84.out 0
      have hfz33_1 := bF B84.out 1
      try go_wp2_with (first | ((with_reducible refine gate_callee (f := 18) rfl ?_); refine goesL_ (some 24) rfl rfl Tryd.func18 (by kernel_rfl) rfl #[.agg #[.int .i64 a0_0, .slice A0_1 l0_1.length c0_1]] rfl (by (try simp only [List.map_toArray, List.map_cons, List.map_nil]); first | done | rfl | (simp only [List.length_drop, List.length_take]; rfl)) ?_; (with_reducible refine (commodatumref12_Valid.calls k a0_0 _ _ l0_1 true _ ?side1 ?side2 A13.out).mono ?_); (case side1 => repeat (first | exact (cD HR0_1.out HB.out) | (with_reducible refine cA ?_ _) | (with_reducible refine cB ?_ _) | (with_reducible refine cC ?_))); (case side2 => exact HC0_1.out); rintro e w34 ⟨rfl, hb⟩; refine ⟨_, rfl, ?_⟩; have n0_ := aM (bD (g := gb184) (o := .cells #[.int .i64 a0_0, .slice A0_1 l0_1.length c0_1] 25 (0, 0)) (by with_reducible apply_rules [B84.out, bA, bB, bC]) hb); have n1_ := aM (pS_ (by (with_reducible apply_rules [HB.out, pA, pD, pE, sT, GE184.out])) hb); clear B84; clear HB; have B84 := n0_; have HB := n1_; clear n0_ n1_; (try clear hb); (try clear hb2); (try clear hk); (try clear hi); have hcz35_0 : w34.cell? ⟨gb184, 0, none⟩ = some (.int .i64 a0_0) := (bE B84.out 0).trans rfl; have hcz35_1 : w34.cell? ⟨gb184, 1, none⟩ = some (.slice A0_1 l0_1.length c0_1) := (bE B84.out 1).trans rfl; have hfz35_0 := bF B84.out 0; have hfz35_1 := bF B84.out 1) | ((with_reducible refine gate_callee (f := 21) rfl ?_); refine goesL_ (some 28) rfl rfl Tryd.func21 (by kernel_rfl) rfl #[.agg #[.int .i64 a0_0, .slice A0_1 l0_1.length c0_1]] rfl (by (try simp only [List.map_toArray, List.map_cons, List.map_nil]); first | done | rfl | (simp only [List.length_drop, List.length_take]; rfl)) ?_; (with_reducible refine (commodatumref12_Large.calls a0_0 _ _ l0_1 false _ ?side1 ?side2 A15.out).mono ?_); (case side1 => repeat (first | exact (cD HR0_1.out HB.out) | (with_reducible refine cA ?_ _) | (with_reducible refine cB ?_ _) | (with_reducible refine cC ?_))); (case side2 => exact HC0_1.out); rintro e w36 ⟨rfl, hb⟩; refine ⟨_, rfl, ?_⟩; have n0_ := aM (bD (g := gb184) (o := .cells #[.int .i64 a0_0, .slice A0_1 l0_1.length c0_1] 25 (0, 0)) (by with_reducible apply_rules [B84.out, bA, bB, bC]) hb); have n1_ := aM (pS_ (by (with_reducible apply_rules [HB.out, pA, pD, pE, sT, GE184.out])) hb); clear B84; clear HB; have B84 := n0_; have HB := n1_; clear n0_ n1_; (try clear hb); (try clear hb2); (try clear hk); (try clear hi); have hcz37_0 : w36.cell? ⟨gb184, 0, none⟩ = some (.int .i64 a0_0) := (bE B84.out 0).trans rfl; have hcz37_1 : w36.cell? ⟨gb184, 1, none⟩ = some (.slice A0_1 l0_1.length c0_1) := (bE B84.out 1).trans rfl; have hfz37_0 := bF B84.out 0; have hfz37_1 := bF B84.out 1) | ((with_reducible refine gate_callee (f := 19) rfl ?_); refine goesL_ (some 33) rfl rfl Tryd.func19 (by kernel_rfl) rfl #[.agg #[.int .i64 a0_0, .slice A0_1 l0_1.length c0_1], .int .i64 a0_0] rfl (by (try simp only [List.map_toArray, List.map_cons, List.map_nil]); first | done | rfl | (simp only [List.length_drop, List.length_take]; rfl)) ?_; (with_reducible refine (commodatumref12_Cost.calls a0_0 _ _ l0_1 a0_0 t189 _ ?side1 ?side2 A21.out).mono ?_); (case side1 => repeat (first | exact (cD HR0_1.out HB.out) | (with_reducible refine cA ?_ _) | (with_reducible refine cB ?_ _) | (with_reducible refine cC ?_))); (case side2 => exact HC0_1.out); rintro e w38 ⟨rfl, hb⟩; refine ⟨_, rfl, ?_⟩; have n0_ := aM (bD (g := gb184) (o := .cells #[.int .i64 a0_0, .slice A0_1 l0_1.length c0_1] 25 (0, 0)) (by with_reducible apply_rules [B84.out, bA, bB, bC]) hb); have n1_ := aM (pS_ (by (with_reducible apply_rules [HB.out, pA, pD, pE, sT, GE184.out])) hb); clear B84; clear HB; have B84 := n0_; have HB := n1_; clear n0_ n1_; (try clear hb); (try clear hb2); (try clear hk); (try clear hi)))
      have n0_ := aM (bB B84.out)
      have n1_ := aM (pE HB.out)
      clear B84
      clear HB
      have B84 := n0_
      have HB := n1_
      clear n0_ n1_
      refine start_ (n := 6) (S := fun w' => w'.cell? ⟨gb184, 0, none⟩ = some (.int .i64 a0_0) ∧ w'.cell? ⟨gb184, 1, none⟩ = some (.slice A0_1 l0_1.length c0_1)) (ds := []) #[false, false, false, false, false, false] (by kernel_rfl) rfl rfl ⟨(bE B84.out 0).trans rfl, (bE B84.out 1).trans rfl⟩ (fun hHeld => ?_)
      generalize w38.drew = w39 at B84 HB hHeld ⊢
      refine take_ (i := 0) (N := some 18) (v := ?_) (a' := ?_) #[true, false, false, false, false, false] rfl rfl (by kernel_rfl) (fun _ _ _ h => h) (Or.inl ⟨by rfl, ?_⟩) hHeld ?_ ?_
      rotate_left
      ·rintro w' ⟨s0, s1⟩
       go_simp
       with_reducible rfl
      rotate_left
      ·simp only [Act.put, pSb2, i64_w]
       rfl
      refine take_ (i := 2) (N := some 20) (v := ?_) (a' := ?_) #[true, false, true, false, false, false] rfl rfl (by kernel_rfl) (fun _ _ _ h => h) (Or.inl ⟨by rfl, ?_⟩) hHeld ?_ ?_
      rotate_left
      ·rintro w' ⟨s0, s1⟩
       go_simp
       with_reducible rfl
      rotate_left
      ·simp only [Act.put, pSb2, i64_w]
       rfl
      refine one_ (i := 1) (N := some 19) #[true, true, true, false, false, false] rfl rfl (by kernel_rfl) (by decide) (fun K hK => ?_)
      refine goes_ Tryd.func32 (by kernel_rfl) rfl #[.agg #[.int .i64 a0_0, .slice A0_1 l0_1.length c0_1]] (by rfl) rfl rfl (by (try simp only [List.map_toArray, List.map_cons, List.map_nil]); first | done | rfl | (simp only [List.length_drop, List.length_take]; rfl)) ?_
      with_reducible refine (commodatumref12_Permutation.calls k a0_0 _ _ l0_1 t191 _ ?side1 ?side2 A31.out).mono ?_
      (case side1 => repeat (first | exact (cD HR0_1.out HB.out) | (with_reducible refine cA ?_ _) | (with_reducible refine cB ?_ _) | (with_reducible refine cC ?_)))
      (case side2 => exact HC0_1.out)
      rintro e w40 ⟨v192, rfl, ho0, hb⟩
      refine ⟨_, rfl, ?_⟩
      have n0_ := aM (Kd.R_lower ho0 (below_size (by (with_reducible apply_rules [HB.out, pA, pD, pE, sT, GE184.out]))))
      have n1_ := aM (bD (g := gb184) (o := .cells #[.int .i64 a0_0, .slice A0_1 l0_1.length c0_1] 25 (0, 0)) (by with_reducible apply_rules [B84.out, bA, bB, bC]) hb)
      have n2_ := aM (pS_ (by (with_reducible apply_rules [HB.out, pA, pD, pE, sT, GE184.out])) hb)
      clear B84
      clear HB
      have HO193 := n0_
      have B84 := n1_
      have HB := n2_
      clear n0_ n1_ n2_
      (try clear hb)
      (try clear hb2)
      (try clear hk)
      (try clear hi)
      (try clear ho0)
      refine hK.out _ _ ⟨(bE B84.out 0).trans rfl, (bE B84.out 1).trans rfl⟩ (fun hHeld => ?_)
      clear hK K
      refine norm_ (a' := ?_) ?_ ?_
      rotate_left
      ·show Act.put _ (some 19) _ = _
       simp only [Act.put, pSb2, i64_w]
       rfl
      refine one_ (i := 3) (N := some 21) #[true, true, true, true, false, false] rfl rfl (by kernel_rfl) (by decide) (fun K hK => ?_)
      refine goes_ Tryd.func33 (by kernel_rfl) rfl #[.agg #[.int .i64 a0_0, .slice A0_1 l0_1.length c0_1]] (by rfl) rfl rfl (by (try simp only [List.map_toArray, List.map_cons, List.map_nil]); first | done | rfl | (simp only [List.length_drop, List.length_take]; rfl)) ?_
      with_reducible refine (commodatumref12_Restores.calls k a0_0 _ _ l0_1 t194 _ ?side1 ?side2 A32.out).mono ?_
      (case side1 => repeat (first | exact (cD HR0_1.out HB.out) | (with_reducible refine cA ?_ _) | (with_reducible refine cB ?_ _) | (with_reducible refine cC ?_)))
      (case side2 => exact HC0_1.out)
      rintro e w41 ⟨v195, rfl, ho0, hb⟩
      refine ⟨_, rfl, ?_⟩
      have n0_ := aM (rD (by with_reducible apply_rules [HO193.out, rA, rB, rC]) hb)
      have n1_ := aM (Kd.R_lower ho0 (below_size (by (with_reducible apply_rules [HB.out, pA, pD, pE, sT, GE184.out]))))
      have n2_ := aM (bD (g := gb184) (o := .cells #[.int .i64 a0_0, .slice A0_1 l0_1.length c0_1] 25 (0, 0)) (by with_reducible apply_rules [B84.out, bA, bB, bC]) hb)
      have n3_ := aM (pS_ (by (with_reducible apply_rules [HB.out, pA, pD, pE, sT, GE184.out])) hb)
      clear HO193
      clear B84
      clear HB
      have HO193 := n0_
      have HO196 := n1_
      have B84 := n2_
      have HB := n3_
      clear n0_ n1_ n2_ n3_
      (try clear hb)
      (try clear hb2)
      (try clear hk)
      (try clear hi)
      (try clear ho0)
      refine hK.out _ _ ⟨(bE B84.out 0).trans rfl, (bE B84.out 1).trans rfl⟩ (fun hHeld => ?_)
      clear hK K
      refine norm_ (a' := ?_) ?_ ?_
      rotate_left
      ·show Act.put _ (some 21) _ = _
       simp only [Act.put, pSb2, i64_w]
       rfl
      refine pure_ (i := 4) (N := some 3) (v := ?_) (a' := ?_) #[true, true, true, true, true, false] rfl rfl (by kernel_rfl) (fun _ _ _ h => h) (Or.inl ⟨by rfl, ?_⟩) ?_ ?_
      rotate_left
      ·intro w'
       go_simp
       with_reducible rfl
      rotate_left
      ·simp only [Act.put, pSb2, i64_w]
       rfl
      refine pure_ (i := 5) (N := some 4) (v := ?_) (a' := ?_) #[true, true, true, true, true, true] rfl rfl (by kernel_rfl) (fun _ _ _ h => h) (Or.inl ⟨by rfl, ?_⟩) ?_ ?_
      rotate_left
      ·intro w'
       go_simp
       with_reducible rfl
      rotate_left
      ·simp only [Act.put, pSb2, i64_w]
       rfl
      refine done_ (by kernel_rfl) ?_
      try go_wp2
      go_meet
      case rel => exact ⟨_, (t191), (t194), (0), (by first | rfl | (simp; done) | (simp [*]; done)), H', ⟨by first | omega | exact Nat.le_refl _⟩, ⟨by with_reducible apply_rules [HO193.out, rA, rB, rC]⟩, ⟨by with_reducible apply_rules [HO196.out, rA, rB, rC]⟩, ⟨by with_reducible apply_rules [B84.out, bA, bB, bC]⟩, ⟨by (with_reducible apply_rules [HB.out, pA, pD, pE, sT, GE184.out])⟩⟩
   ·replace c14 := Bool.eq_false_iff.mpr c14
    subst c14
    have H1 : (commodatumlaw12_UndoNumbers.j0 k ([] : List Int) ([] : List Bool) 1 a0_0 l0_1) = some r := by rw [if_neg (show ¬ (false = true) by decide)] at H; exact H
    clear H
    have H := H1
    clear H1
    have H' := aM H
    clear H
    have hcz42_0 : w12.cell? ⟨gb184, 0, none⟩ = some (.int .i64 a0_0) := (bE B84.out 0).trans rfl
    have hcz42_1 : w12.cell? ⟨gb184, 1, none⟩ = some (.slice A0_1 l0_1.length c0_1) := (bE B84.out 1).trans rfl
    have hfz42_0 := bF B84.out 0
    have hfz42_1 := bF B84.out 1
    go_wp2_with (first | ((with_reducible refine gate_callee (f := 18) rfl ?_); refine goesL_ (some 24) rfl rfl Tryd.func18 (by kernel_rfl) rfl #[.agg #[.int .i64 a0_0, .slice A0_1 l0_1.length c0_1]] rfl (by (try simp only [List.map_toArray, List.map_cons, List.map_nil]); first | done | rfl | (simp only [List.length_drop, List.length_take]; rfl)) ?_; (with_reducible refine (commodatumref12_Valid.calls k a0_0 _ _ l0_1 false _ ?side1 ?side2 A13.out).mono ?_); (case side1 => repeat (first | exact (cD HR0_1.out HB.out) | (with_reducible refine cA ?_ _) | (with_reducible refine cB ?_ _) | (with_reducible refine cC ?_))); (case side2 => exact HC0_1.out); rintro e w43 ⟨rfl, hb⟩; refine ⟨_, rfl, ?_⟩; have n0_ := aM (bD (g := gb184) (o := .cells #[.int .i64 a0_0, .slice A0_1 l0_1.length c0_1] 25 (0, 0)) (by with_reducible apply_rules [B84.out, bA, bB, bC]) hb); have n1_ := aM (pS_ (by (with_reducible apply_rules [HB.out, pA, pD, pE, sT, GE184.out])) hb); clear B84; clear HB; have B84 := n0_; have HB := n1_; clear n0_ n1_; (try clear hb); (try clear hb2); (try clear hk); (try clear hi)))
    go_meet
    case rel => exact ⟨_, (([] : List Int)), (([] : List Bool)), (1), (by first | rfl | (simp; done) | (simp [*]; done)), H', ⟨by first | omega | exact Nat.le_refl _⟩, ⟨by first | exact Kd.R_nil _ _ _ _ _ | exact Kd.N_nil _ _ _ _ _ | exact Kd.V_nil _ _ _ _ _ | exact Kd.Q_nil _ _ _ _ _ | exact Kd.S_nil _ _ _ _ _⟩, ⟨by first | exact Kd.R_nil _ _ _ _ _ | exact Kd.N_nil _ _ _ _ _ | exact Kd.V_nil _ _ _ _ _ | exact Kd.Q_nil _ _ _ _ _ | exact Kd.S_nil _ _ _ _ _⟩, ⟨by with_reducible apply_rules [B84.out, bA, bB, bC]⟩, ⟨by (with_reducible apply_rules [HB.out, pA, pD, pE, sT, GE184.out])⟩⟩
  case rest =>
   clear HC9
   try clear c1
   try clear c2
   try clear p2
   try clear c3
   try clear c8
   try clear c12
   try clear c14
   try clear c16
   try clear c17
   try clear c18
   try clear c19
   try clear c21
   try clear c22
   try clear c22b0
   try clear c32
   try clear c33
   try clear hcz11_0
   try clear hcz11_1
   try clear hcz17_0
   try clear hcz17_1
   try clear hcz19_0
   try clear hcz19_1
   try clear hcz24_0
   try clear hcz24_1
   try clear hcz26_0
   try clear hcz26_1
   try clear hcz28_0
   try clear hcz28_1
   try clear hcz33_0
   try clear hcz33_1
   try clear hcz35_0
   try clear hcz35_1
   try clear hcz37_0
   try clear hcz37_1
   try clear hcz42_0
   try clear hcz42_1
   try clear hcz6_0
   try clear hcz6_1
   try clear hfz11_0
   try clear hfz11_1
   try clear hfz17_0
   try clear hfz17_1
   try clear hfz19_0
   try clear hfz19_1
   try clear hfz24_0
   try clear hfz24_1
   try clear hfz26_0
   try clear hfz26_1
   try clear hfz28_0
   try clear hfz28_1
   try clear hfz33_0
   try clear hfz33_1
   try clear hfz35_0
   try clear hfz35_1
   try clear hfz37_0
   try clear hfz37_1
   try clear hfz42_0
   try clear hfz42_1
   try clear hfz6_0
   try clear hfz6_1
   obtain ⟨kq, x3_8, x4_8, x5_8, rfl, HA, HJ8, HO_3, HO_4, B84, HB⟩ := hcut
   cases kq with
   | zero => exact absurd HA.out (by simp [commodatumlaw12_UndoNumbers.j0])
   | succ kj8 =>
    have H := HA.out
    clear HA
    simp only [commodatumlaw12_UndoNumbers.j0] at H
    replace H := Option.bind_eq_some_iff.mp H
    obtain ⟨⟨t197, t198⟩, A440, H⟩ := H
    replace H : ((undo_Permutation.f kj8 t197 t198).bind fun bt201 => ((commodatumlaw12_Copy.f a0_0 l0_1).bind fun bt205 => ((undo_Restores.f kj8 bt205.1 bt205.2).bind fun bt209 => (if bt201.2 = x5_8 then (if bt209.2 = x5_8 then ((commodatumlaw12_numbers.f kj8 bt201.1 x3_8).bind fun t213 => (if t213 = true then ((commodatumref12_Equal.f kj8 bt209.1 x4_8).bind fun t214 => (commodatumlaw12_UndoNumbers.j1 kj8 x5_8 bt201.1 (!t214) a0_0 l0_1)) else (commodatumlaw12_UndoNumbers.j1 kj8 x5_8 bt201.1 true a0_0 l0_1))) else (commodatumlaw12_UndoNumbers.j1 kj8 x5_8 bt201.1 true a0_0 l0_1)) else (commodatumlaw12_UndoNumbers.j1 kj8 x5_8 bt201.1 true a0_0 l0_1))))) = some r := H
    have A44 := aM A440
    clear A440
    replace H := Option.bind_eq_some_iff.mp H
    obtain ⟨⟨t201, t204⟩, A450, H⟩ := H
    replace H : ((commodatumlaw12_Copy.f a0_0 l0_1).bind fun bt205 => ((undo_Restores.f kj8 bt205.1 bt205.2).bind fun bt209 => (if t204 = x5_8 then (if bt209.2 = x5_8 then ((commodatumlaw12_numbers.f kj8 t201 x3_8).bind fun t213 => (if t213 = true then ((commodatumref12_Equal.f kj8 bt209.1 x4_8).bind fun t214 => (commodatumlaw12_UndoNumbers.j1 kj8 x5_8 t201 (!t214) a0_0 l0_1)) else (commodatumlaw12_UndoNumbers.j1 kj8 x5_8 t201 true a0_0 l0_1))) else (commodatumlaw12_UndoNumbers.j1 kj8 x5_8 t201 true a0_0 l0_1)) else (commodatumlaw12_UndoNumbers.j1 kj8 x5_8 t201 true a0_0 l0_1)))) = some r := H
    have A45 := aM A450
    clear A450
    replace H := Option.bind_eq_some_iff.mp H
    obtain ⟨⟨t205, t206⟩, A460, H⟩ := H
    replace H : ((undo_Restores.f kj8 t205 t206).bind fun bt209 => (if t204 = x5_8 then (if bt209.2 = x5_8 then ((commodatumlaw12_numbers.f kj8 t201 x3_8).bind fun t213 => (if t213 = true then ((commodatumref12_Equal.f kj8 bt209.1 x4_8).bind fun t214 => (commodatumlaw12_UndoNumbers.j1 kj8 x5_8 t201 (!t214) a0_0 l0_1)) else (commodatumlaw12_UndoNumbers.j1 kj8 x5_8 t201 true a0_0 l0_1))) else (commodatumlaw12_UndoNumbers.j1 kj8 x5_8 t201 true a0_0 l0_1)) else (commodatumlaw12_UndoNumbers.j1 kj8 x5_8 t201 true a0_0 l0_1))) = some r := H
    have A46 := aM A460
    clear A460
    replace H := Option.bind_eq_some_iff.mp H
    obtain ⟨⟨t209, t212⟩, A470, H⟩ := H
    replace H : (if t204 = x5_8 then (if t212 = x5_8 then ((commodatumlaw12_numbers.f kj8 t201 x3_8).bind fun t213 => (if t213 = true then ((commodatumref12_Equal.f kj8 t209 x4_8).bind fun t214 => (commodatumlaw12_UndoNumbers.j1 kj8 x5_8 t201 (!t214) a0_0 l0_1)) else (commodatumlaw12_UndoNumbers.j1 kj8 x5_8 t201 true a0_0 l0_1))) else (commodatumlaw12_UndoNumbers.j1 kj8 x5_8 t201 true a0_0 l0_1)) else (commodatumlaw12_UndoNumbers.j1 kj8 x5_8 t201 true a0_0 l0_1)) = some r := H
    have A47 := aM A470
    clear A470
    have HC48 := aM H
    clear H
    have hcz49_0 : wc.cell? ⟨gb184, 0, none⟩ = some (.int .i64 a0_0) := (bE B84.out 0).trans rfl
    have hcz49_1 : wc.cell? ⟨gb184, 1, none⟩ = some (.slice A0_1 l0_1.length c0_1) := (bE B84.out 1).trans rfl
    have hfz49_0 := bF B84.out 0
    have hfz49_1 := bF B84.out 1
    go_upto_region 15 with (first | ((with_reducible refine gate_callee (f := 24) rfl ?_); refine goesL_ (some 38) rfl rfl Tryd.func24 (by kernel_rfl) rfl #[.agg #[.int .i64 a0_0, .slice A0_1 l0_1.length c0_1]] rfl (by (try simp only [List.map_toArray, List.map_cons, List.map_nil]); first | done | rfl | (simp only [List.length_drop, List.length_take]; rfl)) ?_; (with_reducible refine (commodatumlaw12_Copy.calls a0_0 _ _ l0_1 t197 t198 _ ?side1 ?side2 A44.out).mono ?_); (case side1 => repeat (first | exact (cD HR0_1.out HB.out) | (with_reducible refine cA ?_ _) | (with_reducible refine cB ?_ _) | (with_reducible refine cC ?_))); (case side2 => exact HC0_1.out); rintro e w50 ⟨v199, rfl, ho0, hb⟩; refine ⟨_, rfl, ?_⟩; have n0_ := aM (rD (by with_reducible apply_rules [HO_3.out, rA, rB, rC]) hb); have n1_ := aM (rD (by with_reducible apply_rules [HO_4.out, rA, rB, rC]) hb); have n2_ := aM (Kd.R_lower ho0 (below_size (by (with_reducible apply_rules [HB.out, pA, pD, pE, sT, GE184.out])))); have n3_ := aM (bD (g := gb184) (o := .cells #[.int .i64 a0_0, .slice A0_1 l0_1.length c0_1] 25 (0, 0)) (by with_reducible apply_rules [B84.out, bA, bB, bC]) hb); have n4_ := aM (pS_ (by (with_reducible apply_rules [HB.out, pA, pD, pE, sT, GE184.out])) hb); clear HO_3; clear HO_4; clear B84; clear HB; have HO_3 := n0_; have HO_4 := n1_; have HO200 := n2_; have B84 := n3_; have HB := n4_; clear n0_ n1_ n2_ n3_ n4_; (try clear hb); (try clear hb2); (try clear hk); (try clear hi); (try clear ho0); obtain ⟨Ao51, co51, eo51⟩ := Kd.R_slice HO200.out; subst eo51) | ((with_reducible refine gate_callee (f := 34) rfl ?_); refine goesL_ (some 39) rfl rfl Tryd.func34 (by kernel_rfl) rfl #[.agg #[.int .i64 t197, .slice Ao51 t198.length co51]] rfl (by (try simp only [List.map_toArray, List.map_cons, List.map_nil]); first | done | rfl | (simp only [List.length_drop, List.length_take]; rfl)) ?_; (with_reducible refine (undo_Permutation.calls kj8 t197 _ _ t198 t201 t204 _ ?side1 ?side2 A45.out).mono ?_); (case side1 => repeat (first | exact (Kd.R_reads' HO200.out).2.2 | (with_reducible refine cA ?_ _) | (with_reducible refine cB ?_ _) | (with_reducible refine cC ?_))); (case side2 => exact (Kd.R_reads' HO200.out).2.1); rintro e w52 ⟨v202, rfl, ho0, hb⟩; refine ⟨_, rfl, ?_⟩; have n0_ := aM (Kd.R_elder' (by with_reducible apply_rules [HO_3.out, rA, rB, rC]) (Kd.R_base ho0) hb); have n1_ := aM (rD (by with_reducible apply_rules [HO_4.out, rA, rB, rC]) hb); have n2_ := aM (rD (by with_reducible apply_rules [HO200.out, rA, rB, rC]) hb); have n3_ := aM (Kd.R_lower (Kd.R_new' ho0 (Kd.R_lt (by with_reducible apply_rules [HO_3.out, rA, rB, rC]))) (below_size (by (with_reducible apply_rules [HB.out, pA, pD, pE, sT, GE184.out])))); have n4_ := aM (bD (g := gb184) (o := .cells #[.int .i64 a0_0, .slice A0_1 l0_1.length c0_1] 25 (0, 0)) (by with_reducible apply_rules [B84.out, bA, bB, bC]) hb); have n5_ := aM (pS_ (by (with_reducible apply_rules [HB.out, pA, pD, pE, sT, GE184.out])) hb); clear HO_3; clear HO_4; clear HO200; clear B84; clear HB; have HO_3 := n0_; have HO_4 := n1_; have HO200 := n2_; have HO203 := n3_; have B84 := n4_; have HB := n5_; clear n0_ n1_ n2_ n3_ n4_ n5_; (try clear hb); (try clear hb2); (try clear hk); (try clear hi); (try clear ho0); have hcz53_0 : w52.cell? ⟨gb184, 0, none⟩ = some (.int .i64 a0_0) := (bE B84.out 0).trans rfl; have hcz53_1 : w52.cell? ⟨gb184, 1, none⟩ = some (.slice A0_1 l0_1.length c0_1) := (bE B84.out 1).trans rfl; have hfz53_0 := bF B84.out 0; have hfz53_1 := bF B84.out 1) | ((with_reducible refine gate_callee (f := 24) rfl ?_); refine goesL_ (some 44) rfl rfl Tryd.func24 (by kernel_rfl) rfl #[.agg #[.int .i64 a0_0, .slice A0_1 l0_1.length c0_1]] rfl (by (try simp only [List.map_toArray, List.map_cons, List.map_nil]); first | done | rfl | (simp only [List.length_drop, List.length_take]; rfl)) ?_; (with_reducible refine (commodatumlaw12_Copy.calls a0_0 _ _ l0_1 t205 t206 _ ?side1 ?side2 A46.out).mono ?_); (case side1 => repeat (first | exact (cD HR0_1.out HB.out) | (with_reducible refine cA ?_ _) | (with_reducible refine cB ?_ _) | (with_reducible refine cC ?_))); (case side2 => exact HC0_1.out); rintro e w54 ⟨v207, rfl, ho0, hb⟩; refine ⟨_, rfl, ?_⟩; have n0_ := aM (rD (by with_reducible apply_rules [HO_3.out, rA, rB, rC]) hb); have n1_ := aM (rD (by with_reducible apply_rules [HO_4.out, rA, rB, rC]) hb); have n2_ := aM (Kd.R_elder' (by with_reducible apply_rules [HO200.out, rA, rB, rC]) (Kd.R_base ho0) hb); have n3_ := aM (rD (by with_reducible apply_rules [HO203.out, rA, rB, rC]) hb); have n4_ := aM (Kd.R_lower (Kd.R_new' ho0 (Kd.R_lt (by with_reducible apply_rules [HO200.out, rA, rB, rC]))) (below_size (by (with_reducible apply_rules [HB.out, pA, pD, pE, sT, GE184.out])))); have n5_ := aM (bD (g := gb184) (o := .cells #[.int .i64 a0_0, .slice A0_1 l0_1.length c0_1] 25 (0, 0)) (by with_reducible apply_rules [B84.out, bA, bB, bC]) hb); have n6_ := aM (pS_ (by (with_reducible apply_rules [HB.out, pA, pD, pE, sT, GE184.out])) hb); clear HO_3; clear HO_4; clear HO200; clear HO203; clear B84; clear HB; have HO_3 := n0_; have HO_4 := n1_; have HO200 := n2_; have HO203 := n3_; have HO208 := n4_; have B84 := n5_; have HB := n6_; clear n0_ n1_ n2_ n3_ n4_ n5_ n6_; (try clear hb); (try clear hb2); (try clear hk); (try clear hi); (try clear ho0); obtain ⟨Ao55, co55, eo55⟩ := Kd.R_slice HO208.out; subst eo55) | ((with_reducible refine gate_callee (f := 35) rfl ?_); refine goesL_ (some 45) rfl rfl Tryd.func35 (by kernel_rfl) rfl #[.agg #[.int .i64 t205, .slice Ao55 t206.length co55]] rfl (by (try simp only [List.map_toArray, List.map_cons, List.map_nil]); first | done | rfl | (simp only [List.length_drop, List.length_take]; rfl)) ?_; (with_reducible refine (undo_Restores.calls kj8 t205 _ _ t206 t209 t212 _ ?side1 ?side2 A47.out).mono ?_); (case side1 => repeat (first | exact (Kd.R_reads' HO208.out).2.2 | (with_reducible refine cA ?_ _) | (with_reducible refine cB ?_ _) | (with_reducible refine cC ?_))); (case side2 => exact (Kd.R_reads' HO208.out).2.1); rintro e w56 ⟨v210, rfl, ho0, hb⟩; refine ⟨_, rfl, ?_⟩; have n0_ := aM (rD (by with_reducible apply_rules [HO_3.out, rA, rB, rC]) hb); have n1_ := aM (Kd.R_elder' (by with_reducible apply_rules [HO_4.out, rA, rB, rC]) (Kd.R_base ho0) hb); have n2_ := aM (rD (by with_reducible apply_rules [HO200.out, rA, rB, rC]) hb); have n3_ := aM (rD (by with_reducible apply_rules [HO203.out, rA, rB, rC]) hb); have n4_ := aM (rD (by with_reducible apply_rules [HO208.out, rA, rB, rC]) hb); have n5_ := aM (Kd.R_lower (Kd.R_new' ho0 (Kd.R_lt (by with_reducible apply_rules [HO_4.out, rA, rB, rC]))) (below_size (by (with_reducible apply_rules [HB.out, pA, pD, pE, sT, GE184.out])))); have n6_ := aM (bD (g := gb184) (o := .cells #[.int .i64 a0_0, .slice A0_1 l0_1.length c0_1] 25 (0, 0)) (by with_reducible apply_rules [B84.out, bA, bB, bC]) hb); have n7_ := aM (pS_ (by (with_reducible apply_rules [HB.out, pA, pD, pE, sT, GE184.out])) hb); clear HO_3; clear HO_4; clear HO200; clear HO203; clear HO208; clear B84; clear HB; have HO_3 := n0_; have HO_4 := n1_; have HO200 := n2_; have HO203 := n3_; have HO208 := n4_; have HO211 := n5_; have B84 := n6_; have HB := n7_; clear n0_ n1_ n2_ n3_ n4_ n5_ n6_ n7_; (try clear hb); (try clear hb2); (try clear hk); (try clear hi); (try clear ho0)))
    (try simp only [Act.put, List.setIfInBounds_toArray, List.set_cons_zero, List.set_cons_succ])
    go_cut [67] (fun v67 wc => ∃ (kq : Nat) (x67_47 : Bool), v67 = .bool x67_47 ∧ Aside0 (commodatumlaw12_UndoNumbers.j1 kq x5_8 t201 x67_47 a0_0 l0_1 = some r) ∧ Aside0 (kq ≤ kj8) ∧ Aside0 (Kd.R (Kd.int .i64) 3 wc w.heap.size (fun _ => True) v202 t201) ∧ Aside0 (wc.heap[gb184]? = some (.cells #[.int .i64 a0_0, (.slice A0_1 l0_1.length c0_1)] 25 (0, 0))) ∧ Aside0 (Below w.heap.size w wc))
    case first =>
     have H := HC48.out
     clear HC48
     by_cases c57 : t204 = x5_8
     ·rw [if_pos c57] at H
      have c57b0 : (t204 == x5_8) = true := beq_iff_eq.mpr c57
      have c57b1 : (t204 != x5_8) = false := bne_eq_false_iff_eq.mpr c57
      clear c57
      (first | rw [c57b0] | (simp only [i64_w, i32_w]; rw [c57b0]) | skip)
      by_cases c58 : t212 = x5_8
      ·rw [if_pos c58] at H
       have c58b0 : (t212 == x5_8) = true := beq_iff_eq.mpr c58
       have c58b1 : (t212 != x5_8) = false := bne_eq_false_iff_eq.mpr c58
       clear c58
       replace H := Option.bind_eq_some_iff.mp H
       obtain ⟨t213, A590, H⟩ := H
       replace H : (if t213 = true then ((commodatumref12_Equal.f kj8 t209 x4_8).bind fun t214 => (commodatumlaw12_UndoNumbers.j1 kj8 x5_8 t201 (!t214) a0_0 l0_1)) else (commodatumlaw12_UndoNumbers.j1 kj8 x5_8 t201 true a0_0 l0_1)) = some r := H
       have A59 := aM A590
       clear A590
       by_cases c60 : t213 = true
       ·subst c60
        have H1 : ((commodatumref12_Equal.f kj8 t209 x4_8).bind fun t214 => (commodatumlaw12_UndoNumbers.j1 kj8 x5_8 t201 (!t214) a0_0 l0_1)) = some r := by rw [if_pos rfl] at H; exact H
        clear H
        have H := H1
        clear H1
        replace H := Option.bind_eq_some_iff.mp H
        obtain ⟨t214, A610, H⟩ := H
        replace H : (commodatumlaw12_UndoNumbers.j1 kj8 x5_8 t201 (!t214) a0_0 l0_1) = some r := H
        have A61 := aM A610
        clear A610
        have H' := aM H
        clear H
        obtain ⟨Ao62, co62, eo62⟩ := Kd.R_slice HO203.out
        subst eo62
        obtain ⟨Ao63, co63, eo63⟩ := Kd.R_slice HO_3.out
        subst eo63
        go_wp2_with (first | (go_at_call 36; (with_reducible refine (commodatumlaw12_numbers.calls kj8 _ _ t201 _ _ x3_8 true _ ?side1 ?side2 ?side3 ?side4 A59.out).mono ?_); (case side1 => repeat (first | exact (Kd.R_reads' HO203.out).2.2 | (with_reducible refine cA ?_ _) | (with_reducible refine cB ?_ _) | (with_reducible refine cC ?_))); (case side2 => exact (Kd.R_reads' HO203.out).2.1); (case side3 => repeat (first | exact (Kd.R_reads' HO_3.out).2.2 | (with_reducible refine cA ?_ _) | (with_reducible refine cB ?_ _) | (with_reducible refine cC ?_))); (case side4 => exact (Kd.R_reads' HO_3.out).2.1); rintro e w' ⟨rfl, ⟨nd, rfl⟩⟩; obtain ⟨Ao64, co64, eo64⟩ := Kd.R_slice HO211.out; subst eo64; obtain ⟨Ao65, co65, eo65⟩ := Kd.R_slice HO_4.out; subst eo65) | (go_at_call 26; (with_reducible refine (commodatumref12_Equal.calls kj8 _ _ t209 _ _ x4_8 t214 _ ?side1 ?side2 ?side3 ?side4 A61.out).mono ?_); (case side1 => repeat (first | exact (Kd.R_reads' HO211.out).2.2 | (with_reducible refine cA ?_ _) | (with_reducible refine cB ?_ _) | (with_reducible refine cC ?_))); (case side2 => exact (Kd.R_reads' HO211.out).2.1); (case side3 => repeat (first | exact (Kd.R_reads' HO_4.out).2.2 | (with_reducible refine cA ?_ _) | (with_reducible refine cB ?_ _) | (with_reducible refine cC ?_))); (case side4 => exact (Kd.R_reads' HO_4.out).2.1); rintro e w' ⟨rfl, ⟨nd, rfl⟩⟩))
        go_meet
        case rel => exact ⟨_, (!t214), (by first | rfl | (simp; done) | (simp [*]; done)), H', ⟨by have := HJ8.out; first | omega | exact Nat.le_refl _⟩, ⟨by (with_reducible repeat (first | apply rA | apply rB | apply rC)); exact rE HO203.out (fun _ hk => trivial)⟩, ⟨by with_reducible apply_rules [B84.out, bA, bB, bC]⟩, ⟨by (with_reducible apply_rules [HB.out, pA, pD, pE, sT, GE184.out])⟩⟩
       ·replace c60 := Bool.eq_false_iff.mpr c60
        subst c60
        have H1 : (commodatumlaw12_UndoNumbers.j1 kj8 x5_8 t201 true a0_0 l0_1) = some r := by rw [if_neg (show ¬ (false = true) by decide)] at H; exact H
        clear H
        have H := H1
        clear H1
        have H' := aM H
        clear H
        obtain ⟨Ao66, co66, eo66⟩ := Kd.R_slice HO203.out
        subst eo66
        obtain ⟨Ao67, co67, eo67⟩ := Kd.R_slice HO_3.out
        subst eo67
        go_wp2_with (first | (go_at_call 36; (with_reducible refine (commodatumlaw12_numbers.calls kj8 _ _ t201 _ _ x3_8 false _ ?side1 ?side2 ?side3 ?side4 A59.out).mono ?_); (case side1 => repeat (first | exact (Kd.R_reads' HO203.out).2.2 | (with_reducible refine cA ?_ _) | (with_reducible refine cB ?_ _) | (with_reducible refine cC ?_))); (case side2 => exact (Kd.R_reads' HO203.out).2.1); (case side3 => repeat (first | exact (Kd.R_reads' HO_3.out).2.2 | (with_reducible refine cA ?_ _) | (with_reducible refine cB ?_ _) | (with_reducible refine cC ?_))); (case side4 => exact (Kd.R_reads' HO_3.out).2.1); rintro e w' ⟨rfl, ⟨nd, rfl⟩⟩))
        go_meet
        case rel => exact ⟨_, (true), (by first | rfl | (simp; done) | (simp [*]; done)), H', ⟨by have := HJ8.out; first | omega | exact Nat.le_refl _⟩, ⟨by (with_reducible repeat (first | apply rA | apply rB | apply rC)); exact rE HO203.out (fun _ hk => trivial)⟩, ⟨by with_reducible apply_rules [B84.out, bA, bB, bC]⟩, ⟨by (with_reducible apply_rules [HB.out, pA, pD, pE, sT, GE184.out])⟩⟩
      ·rw [if_neg c58] at H
       have c58b0 : (t212 == x5_8) = false := beq_eq_false_iff_ne.mpr c58
       have c58b1 : (t212 != x5_8) = true := bne_iff_ne.mpr c58
       have H' := aM H
       clear H
       go_wp2
       go_meet
       case rel => exact ⟨_, (true), (by first | rfl | (simp; done) | (simp [*]; done)), H', ⟨by have := HJ8.out; first | omega | exact Nat.le_refl _⟩, ⟨by (with_reducible repeat (first | apply rA | apply rB | apply rC)); exact rE HO203.out (fun _ hk => trivial)⟩, ⟨by with_reducible apply_rules [B84.out, bA, bB, bC]⟩, ⟨by (with_reducible apply_rules [HB.out, pA, pD, pE, sT, GE184.out])⟩⟩
     ·rw [if_neg c57] at H
      have c57b0 : (t204 == x5_8) = false := beq_eq_false_iff_ne.mpr c57
      have c57b1 : (t204 != x5_8) = true := bne_iff_ne.mpr c57
      (first | rw [c57b0] | (simp only [i64_w, i32_w]; rw [c57b0]) | skip)
      have H' := aM H
      clear H
      go_wp2
      go_meet
      case rel => exact ⟨_, (true), (by first | rfl | (simp; done) | (simp [*]; done)), H', ⟨by have := HJ8.out; first | omega | exact Nat.le_refl _⟩, ⟨by (with_reducible repeat (first | apply rA | apply rB | apply rC)); exact rE HO203.out (fun _ hk => trivial)⟩, ⟨by with_reducible apply_rules [B84.out, bA, bB, bC]⟩, ⟨by (with_reducible apply_rules [HB.out, pA, pD, pE, sT, GE184.out])⟩⟩
    case rest =>
     clear HC48
     try clear c1
     try clear c2
     try clear p2
     try clear c3
     try clear c5
     try clear c6
     try clear c8
     try clear c12
     try clear c14
     try clear c16
     try clear c17
     try clear c18
     try clear c19
     try clear c21
     try clear c22
     try clear c22b0
     try clear c24
     try clear c32
     try clear c33
     try clear c34
     try clear c35
     try clear c57
     try clear c57b0
     try clear c57b1
     try clear c58
     try clear c58b0
     try clear c58b1
     try clear c60
     try clear hcz11_0
     try clear hcz11_1
     try clear hcz17_0
     try clear hcz17_1
     try clear hcz19_0
     try clear hcz19_1
     try clear hcz24_0
     try clear hcz24_1
     try clear hcz26_0
     try clear hcz26_1
     try clear hcz28_0
     try clear hcz28_1
     try clear hcz33_0
     try clear hcz33_1
     try clear hcz35_0
     try clear hcz35_1
     try clear hcz37_0
     try clear hcz37_1
     try clear hcz42_0
     try clear hcz42_1
     try clear hcz49_0
     try clear hcz49_1
     try clear hcz53_0
     try clear hcz53_1
     try clear hcz6_0
     try clear hcz6_1
     try clear hfz11_0
     try clear hfz11_1
     try clear hfz17_0
     try clear hfz17_1
     try clear hfz19_0
     try clear hfz19_1
     try clear hfz24_0
     try clear hfz24_1
     try clear hfz26_0
     try clear hfz26_1
     try clear hfz28_0
     try clear hfz28_1
     try clear hfz33_0
     try clear hfz33_1
     try clear hfz35_0
     try clear hfz35_1
     try clear hfz37_0
     try clear hfz37_1
     try clear hfz42_0
     try clear hfz42_1
     try clear hfz49_0
     try clear hfz49_1
     try clear hfz53_0
     try clear hfz53_1
     try clear hfz6_0
     try clear hfz6_1
     try clear p2
     obtain ⟨kq, x67_47, rfl, HA, HJ47, HO_6, B84, HB⟩ := hcut
     cases kq with
     | zero => exact absurd HA.out (by simp [commodatumlaw12_UndoNumbers.j1])
     | succ kj47 =>
      have H := HA.out
      clear HA
      simp only [commodatumlaw12_UndoNumbers.j1] at H
      by_cases c68 : x67_47 = true
      ·subst c68
       have H1 : (some false) = some r := by rw [if_pos rfl] at H; exact H
       clear H
       have H := H1
       clear H1
       obtain rfl := Option.some.inj H
       go_wp2
       go_ret
       exact ⟨by first | rfl | (simp [errW_none, errW_some] <;> rfl) | (simp [*, errW_none, errW_some] <;> rfl), by (with_reducible apply_rules [HB.out, pA, pD, pE, sT, GE184.out])⟩
      ·replace c68 := Bool.eq_false_iff.mpr c68
       subst c68
       have H1 : (if x5_8 = 0 then ((commodatumlaw12_Copy.f a0_0 l0_1).bind fun bt216 => ((undo_Inverse.f kj47 bt216.1 bt216.2).bind fun bt220 => ((undo_Permutation.f kj47 bt220.1 bt220.2.1).bind fun bt226 => (if bt220.2.2 = 0 then (if bt226.2 = 0 then (commodatumlaw12_UndoNumbers.j2 kj47 t201 bt226.1 ((bt226.1.length : Int) != (t201.length : Int))) else (commodatumlaw12_UndoNumbers.j2 kj47 t201 bt226.1 true)) else (commodatumlaw12_UndoNumbers.j2 kj47 t201 bt226.1 true))))) else ((commodatumlaw12_Awake.f kj47).bind fun t215 => (some t215))) = some r := by rw [if_neg (show ¬ (false = true) by decide)] at H; exact H
       clear H
       have H := H1
       clear H1
       by_cases c69 : x5_8 = 0
       ·rw [if_pos c69] at H
        have c69b0 : (x5_8 == 0) = true := beq_iff_eq.mpr c69
        have c69b1 : (x5_8 != 0) = false := bne_eq_false_iff_eq.mpr c69
        clear c69
        replace H := Option.bind_eq_some_iff.mp H
        obtain ⟨⟨t216, t217⟩, A700, H⟩ := H
        replace H : ((undo_Inverse.f kj47 t216 t217).bind fun bt220 => ((undo_Permutation.f kj47 bt220.1 bt220.2.1).bind fun bt226 => (if bt220.2.2 = 0 then (if bt226.2 = 0 then (commodatumlaw12_UndoNumbers.j2 kj47 t201 bt226.1 ((bt226.1.length : Int) != (t201.length : Int))) else (commodatumlaw12_UndoNumbers.j2 kj47 t201 bt226.1 true)) else (commodatumlaw12_UndoNumbers.j2 kj47 t201 bt226.1 true)))) = some r := H
        have A70 := aM A700
        clear A700
        replace H := Option.bind_eq_some_iff.mp H
        obtain ⟨⟨t220, t221, t224⟩, A710, H⟩ := H
        replace H : ((undo_Permutation.f kj47 t220 t221).bind fun bt226 => (if t224 = 0 then (if bt226.2 = 0 then (commodatumlaw12_UndoNumbers.j2 kj47 t201 bt226.1 ((bt226.1.length : Int) != (t201.length : Int))) else (commodatumlaw12_UndoNumbers.j2 kj47 t201 bt226.1 true)) else (commodatumlaw12_UndoNumbers.j2 kj47 t201 bt226.1 true))) = some r := H
        have A71 := aM A710
        clear A710
        replace H := Option.bind_eq_some_iff.mp H
        obtain ⟨⟨t226, t229⟩, A720, H⟩ := H
        replace H : (if t224 = 0 then (if t229 = 0 then (commodatumlaw12_UndoNumbers.j2 kj47 t201 t226 ((t226.length : Int) != (t201.length : Int))) else (commodatumlaw12_UndoNumbers.j2 kj47 t201 t226 true)) else (commodatumlaw12_UndoNumbers.j2 kj47 t201 t226 true)) = some r := H
        have A72 := aM A720
        clear A720
        have HC73 := aM H
        clear H
        have hcz74_0 : wc.cell? ⟨gb184, 0, none⟩ = some (.int .i64 a0_0) := (bE B84.out 0).trans rfl
        have hcz74_1 : wc.cell? ⟨gb184, 1, none⟩ = some (.slice A0_1 l0_1.length c0_1) := (bE B84.out 1).trans rfl
        have hfz74_0 := bF B84.out 0
        have hfz74_1 := bF B84.out 1
        go_upto_region 21 with (first | ((with_reducible refine gate_callee (f := 24) rfl ?_); refine goesL_ (some 73) rfl rfl Tryd.func24 (by kernel_rfl) rfl #[.agg #[.int .i64 a0_0, .slice A0_1 l0_1.length c0_1]] rfl (by (try simp only [List.map_toArray, List.map_cons, List.map_nil]); first | done | rfl | (simp only [List.length_drop, List.length_take]; rfl)) ?_; (with_reducible refine (commodatumlaw12_Copy.calls a0_0 _ _ l0_1 t216 t217 _ ?side1 ?side2 A70.out).mono ?_); (case side1 => repeat (first | exact (cD HR0_1.out HB.out) | (with_reducible refine cA ?_ _) | (with_reducible refine cB ?_ _) | (with_reducible refine cC ?_))); (case side2 => exact HC0_1.out); rintro e w75 ⟨v218, rfl, ho0, hb⟩; refine ⟨_, rfl, ?_⟩; have n0_ := aM (rD (by with_reducible apply_rules [HO_6.out, rA, rB, rC]) hb); have n1_ := aM (Kd.R_lower ho0 (below_size (by (with_reducible apply_rules [HB.out, pA, pD, pE, sT, GE184.out])))); have n2_ := aM (bD (g := gb184) (o := .cells #[.int .i64 a0_0, .slice A0_1 l0_1.length c0_1] 25 (0, 0)) (by with_reducible apply_rules [B84.out, bA, bB, bC]) hb); have n3_ := aM (pS_ (by (with_reducible apply_rules [HB.out, pA, pD, pE, sT, GE184.out])) hb); clear HO_6; clear B84; clear HB; have HO_6 := n0_; have HO219 := n1_; have B84 := n2_; have HB := n3_; clear n0_ n1_ n2_ n3_; (try clear hb); (try clear hb2); (try clear hk); (try clear hi); (try clear ho0); obtain ⟨Ao76, co76, eo76⟩ := Kd.R_slice HO219.out; subst eo76) | ((with_reducible refine gate_callee (f := 31) rfl ?_); refine goesL_ (some 74) rfl rfl Tryd.func31 (by kernel_rfl) rfl #[.agg #[.int .i64 t216, .slice Ao76 t217.length co76]] rfl (by (try simp only [List.map_toArray, List.map_cons, List.map_nil]); first | done | rfl | (simp only [List.length_drop, List.length_take]; rfl)) ?_; (with_reducible refine (undo_Inverse.calls kj47 t216 _ _ t217 t220 t221 t224 _ ?side1 ?side2 A71.out).mono ?_); (case side1 => repeat (first | exact (Kd.R_reads' HO219.out).2.2 | (with_reducible refine cA ?_ _) | (with_reducible refine cB ?_ _) | (with_reducible refine cC ?_))); (case side2 => exact (Kd.R_reads' HO219.out).2.1); rintro e w77 ⟨v222, rfl, ho0, hb⟩; refine ⟨_, rfl, ?_⟩; have n0_ := aM (rD (by with_reducible apply_rules [HO_6.out, rA, rB, rC]) hb); have n1_ := aM (Kd.R_elder' (by with_reducible apply_rules [HO219.out, rA, rB, rC]) (Kd.R_base ho0) hb); have n2_ := aM (Kd.R_lower (Kd.R_new' ho0 (Kd.R_lt (by with_reducible apply_rules [HO219.out, rA, rB, rC]))) (below_size (by (with_reducible apply_rules [HB.out, pA, pD, pE, sT, GE184.out])))); have n3_ := aM (bD (g := gb184) (o := .cells #[.int .i64 a0_0, .slice A0_1 l0_1.length c0_1] 25 (0, 0)) (by with_reducible apply_rules [B84.out, bA, bB, bC]) hb); have n4_ := aM (pS_ (by (with_reducible apply_rules [HB.out, pA, pD, pE, sT, GE184.out])) hb); clear HO_6; clear HO219; clear B84; clear HB; have HO_6 := n0_; have HO219 := n1_; have HO223 := n2_; have B84 := n3_; have HB := n4_; clear n0_ n1_ n2_ n3_ n4_; (try clear hb); (try clear hb2); (try clear hk); (try clear hi); (try clear ho0)) | ((with_reducible refine gate_dst (N := 10) rfl ?_); (try (refine gate_guard (by rfl) ?_; dsimp only)); refine box_event ?hg (N := 10) ?hd (cs := #[.int .i64 0, .slice none 0 0]) (t := 25) ?hr ?_; (case hd => rfl); (case hg => rfl); (case hr => first | (go_simp; done) | (go_simp; rfl)); intro gb225 hg w78 hbox hb; have n0_ := aM (rD (by with_reducible apply_rules [HO_6.out, rA, rB, rC]) hb); have n1_ := aM (rD (by with_reducible apply_rules [HO219.out, rA, rB, rC]) hb); have n2_ := aM (rD (by with_reducible apply_rules [HO223.out, rA, rB, rC]) hb); have n3_ := aM (bD (g := gb184) (o := .cells #[.int .i64 a0_0, .slice A0_1 l0_1.length c0_1] 25 (0, 0)) (by with_reducible apply_rules [B84.out, bA, bB, bC]) hb); have n4_ := aM (pS_ (by (with_reducible apply_rules [HB.out, pA, pD, pE, sT, GE184.out])) hb); have n5_ := aM (hbox); have n6_ := aM ((by rw [hg]; exact (below_size (by (with_reducible apply_rules [HB.out, pA, pD, pE, sT, GE184.out]))) : w.heap.size ≤ gb225)); have n7_ := aM ((by rw [hg]; exact (below_size (by (with_reducible apply_rules [HB.out, pA, pD, pE, sT, GE184.out]))) : w.heap.size ≤ gb225)); have n8_ := aM ((by rw [hg]; exact Nat.ne_of_lt (blk_lt (g := gb184) (o := .cells #[.int .i64 a0_0, .slice A0_1 l0_1.length c0_1] 25 (0, 0)) (by with_reducible apply_rules [B84.out, bA, bB, bC])) : gb184 ≠ gb225)); have n9_ := aM ((by rw [hg]; exact Nat.ne_of_gt (blk_lt (g := gb184) (o := .cells #[.int .i64 a0_0, .slice A0_1 l0_1.length c0_1] 25 (0, 0)) (by with_reducible apply_rules [B84.out, bA, bB, bC])) : gb225 ≠ gb184)); clear HO_6; clear HO219; clear HO223; clear B84; clear HB; have HO_6 := n0_; have HO219 := n1_; have HO223 := n2_; have B84 := n3_; have HB := n4_; have B25 := n5_; have GW225 := n6_; have GE225 := n7_; have NB184_225 := n8_; have NB225_184 := n9_; clear n0_ n1_ n2_ n3_ n4_ n5_ n6_ n7_ n8_ n9_; clear hb hbox hg; have hnb79 := NB225_184.out; have hnc79 := NB184_225.out; have hcz80_0 : w78.cell? ⟨gb225, 0, none⟩ = some (.int .i64 0) := (bE B25.out 0).trans rfl; have hcz80_1 : w78.cell? ⟨gb225, 1, none⟩ = some (.slice none 0 0) := (bE B25.out 1).trans rfl; have hfz80_0 := bF B25.out 0; have hfz80_1 := bF B25.out 1; obtain ⟨Ao81, co81, eo81⟩ := Kd.R_slice HO223.out; subst eo81) | ((with_reducible refine gate_callee (f := 34) rfl ?_); refine goesL_ (some 79) rfl rfl Tryd.func34 (by kernel_rfl) rfl #[.agg #[.int .i64 t220, .slice Ao81 t221.length co81]] rfl (by (try simp only [List.map_toArray, List.map_cons, List.map_nil]); first | done | rfl | (simp only [List.length_drop, List.length_take]; rfl)) ?_; (with_reducible refine (undo_Permutation.calls kj47 t220 _ _ t221 t226 t229 _ ?side1 ?side2 A72.out).mono ?_); (case side1 => refine (Kd.R_reads' (e := 67) (base := w.heap.size) (ok := fun k_ => (True ∧ some k_ ≠ (.slice Ao76 t217.length co76 : Value).ownBlock)) (n := t221.length) (c := co81) ?_).2.2; exact (by (with_reducible repeat (first | apply rA | apply rB | apply rC)); exact (rE (Kd.R_far (p := ⟨gb225, 1, none⟩) (Kd.R_far (p := ⟨gb225, 0, none⟩) (Kd.R_types HO223.out B25.out (by decide)) (fun _ hk => hk.2) (.int .i64 t220)) (fun _ hk => hk.2) (.slice Ao81 t221.length co81)) (fun _ h_ => h_.1)))); (case side2 => exact (Kd.R_reads' HO223.out).2.1); rintro e w82 ⟨v227, rfl, ho0, hb⟩; refine ⟨_, rfl, ?_⟩; have n0_ := aM (Kd.R_elder' (by (with_reducible repeat (first | apply rA | apply rB | apply rC)); exact (rE (Kd.R_far (p := ⟨gb225, 1, none⟩) (Kd.R_far (p := ⟨gb225, 0, none⟩) (Kd.R_types HO_6.out B25.out (by decide)) (fun _ hk => hk.2) (.int .i64 t220)) (fun _ hk => hk.2) (.slice Ao81 t221.length co81)) (fun _ h_ => h_.1))) (Kd.R_base ho0) hb); have n1_ := aM (rD (by (with_reducible repeat (first | apply rA | apply rB | apply rC)); exact (rE (Kd.R_far (p := ⟨gb225, 1, none⟩) (Kd.R_far (p := ⟨gb225, 0, none⟩) (Kd.R_types HO219.out B25.out (by decide)) (fun _ hk => hk.2) (.int .i64 t220)) (fun _ hk => hk.2) (.slice Ao81 t221.length co81)) (fun _ h_ => h_.1))) hb); have n2_ := aM (rD (by (with_reducible repeat (first | apply rA | apply rB | apply rC)); exact (rE (Kd.R_far (p := ⟨gb225, 1, none⟩) (Kd.R_far (p := ⟨gb225, 0, none⟩) (Kd.R_types HO223.out B25.out (by decide)) (fun _ hk => hk.2) (.int .i64 t220)) (fun _ hk => hk.2) (.slice Ao81 t221.length co81)) (fun _ h_ => h_.1))) hb); have n3_ := aM (Kd.R_lower (Kd.R_new' ho0 (Kd.R_lt (by (with_reducible repeat (first | apply rA | apply rB | apply rC)); exact (rE (Kd.R_far (p := ⟨gb225, 1, none⟩) (Kd.R_far (p := ⟨gb225, 0, none⟩) (Kd.R_types HO_6.out B25.out (by decide)) (fun _ hk => hk.2) (.int .i64 t220)) (fun _ hk => hk.2) (.slice Ao81 t221.length co81)) (fun _ h_ => h_.1))))) (below_size (by (with_reducible apply_rules [HB.out, pA, pD, pE, sT, GE184.out, GE225.out])))); have n4_ := aM (bD (g := gb184) (o := .cells #[.int .i64 a0_0, .slice A0_1 l0_1.length c0_1] 25 (0, 0)) (by (with_reducible repeat (first | refine bA ?_ _ | refine bB ?_ | refine bC ?_ _)); refine blk_far ?_ NB184_225.out _; (with_reducible repeat (first | refine bA ?_ _ | refine bB ?_ | refine bC ?_ _)); refine blk_far ?_ NB184_225.out _; with_reducible apply_rules [B84.out, bA, bB, bC]) hb); have n5_ := aM (bD (g := gb225) (o := .cells #[.int .i64 t220, .slice Ao81 t221.length co81] 25 (0, 0)) (by (with_reducible repeat (first | refine bA ?_ _ | refine bB ?_ | refine bC ?_ _)); refine blk_put (cs := #[.int .i64 t220, .slice none 0 0]) ?_ 1 _ rfl; (with_reducible repeat (first | refine bA ?_ _ | refine bB ?_ | refine bC ?_ _)); refine blk_put (cs := #[.int .i64 0, .slice none 0 0]) ?_ 0 _ rfl; with_reducible apply_rules [B25.out, bA, bB, bC]) hb); have n6_ := aM (pS_ (by (with_reducible apply_rules [HB.out, pA, pD, pE, sT, GE184.out, GE225.out])) hb); clear HO_6; clear HO219; clear HO223; clear B84; clear B25; clear HB; have HO_6 := n0_; have HO219 := n1_; have HO223 := n2_; have HO228 := n3_; have B84 := n4_; have B25 := n5_; have HB := n6_; clear n0_ n1_ n2_ n3_ n4_ n5_ n6_; (try clear hb); (try clear hb2); (try clear hk); (try clear hi); (try clear ho0)))
        (try simp only [Act.put, List.setIfInBounds_toArray, List.set_cons_zero, List.set_cons_succ])
        go_cut [94] (fun v94 wc => ∃ (kq : Nat) (x94_72 : Bool), v94 = .bool x94_72 ∧ Aside0 (commodatumlaw12_UndoNumbers.j2 kq t201 t226 x94_72 = some r) ∧ Aside0 (kq ≤ kj47) ∧ Aside0 (Kd.R (Kd.int .i64) 3 wc w.heap.size (fun k_ => some k_ ≠ (v227 : Value).ownBlock) v202 t201) ∧ Aside0 (Kd.R (Kd.int .i64) 3 wc w.heap.size (fun k_ => some k_ ≠ (v202 : Value).ownBlock) v227 t226) ∧ Aside0 (Kd.R k67 67 wc w.heap.size (fun _ => True) (.slice Ao81 t221.length co81) t221) ∧ Aside0 (wc.heap[gb184]? = some (.cells #[.int .i64 a0_0, (.slice A0_1 l0_1.length c0_1)] 25 (0, 0))) ∧ Aside0 (wc.heap[gb225]? = some (.cells #[.int .i64 t220, (.slice Ao81 t221.length co81)] 25 (0, 0))) ∧ Aside0 (Below w.heap.size w wc))
        case first =>
         have H := HC73.out
         clear HC73
         by_cases c83 : t224 = 0
         ·rw [if_pos c83] at H
          have c83b0 : (t224 == 0) = true := beq_iff_eq.mpr c83
          have c83b1 : (t224 != 0) = false := bne_eq_false_iff_eq.mpr c83
          clear c83
          (first | rw [c83b0] | (simp only [i64_w, i32_w]; rw [c83b0]) | skip)
          by_cases c84 : t229 = 0
          ·rw [if_pos c84] at H
           have c84b0 : (t229 == 0) = true := beq_iff_eq.mpr c84
           have c84b1 : (t229 != 0) = false := bne_eq_false_iff_eq.mpr c84
           clear c84
           have H' := aM H
           clear H
           obtain ⟨Ao85, co85, eo85⟩ := Kd.R_slice HO228.out
           subst eo85
           obtain ⟨Ao86, co86, eo86⟩ := Kd.R_slice HO_6.out
           subst eo86
           go_wp2
           go_meet
           case rel => exact ⟨_, (((t226.length : Int) != (t201.length : Int))), (by first | rfl | (simp; done) | (simp [*]; done)), H', ⟨by have := HJ8.out; have := HJ47.out; first | omega | exact Nat.le_refl _⟩, ⟨by (with_reducible repeat (first | apply rA | apply rB | apply rC)); exact rE HO_6.out (fun _ hk => hk.2)⟩, ⟨by (with_reducible repeat (first | apply rA | apply rB | apply rC)); exact rE HO228.out (fun _ hk => hk.2)⟩, ⟨by (with_reducible repeat (first | apply rA | apply rB | apply rC)); exact rE HO223.out (fun _ hk => trivial)⟩, ⟨by with_reducible apply_rules [B84.out, bA, bB, bC]⟩, ⟨by with_reducible apply_rules [B25.out, bA, bB, bC]⟩, ⟨by (with_reducible apply_rules [HB.out, pA, pD, pE, sT, GE184.out, GE225.out])⟩⟩
          ·rw [if_neg c84] at H
           have c84b0 : (t229 == 0) = false := beq_eq_false_iff_ne.mpr c84
           have c84b1 : (t229 != 0) = true := bne_iff_ne.mpr c84
           have H' := aM H
           clear H
           go_wp2
           go_meet
           case rel => exact ⟨_, (true), (by first | rfl | (simp; done) | (simp [*]; done)), H', ⟨by have := HJ8.out; have := HJ47.out; first | omega | exact Nat.le_refl _⟩, ⟨by (with_reducible repeat (first | apply rA | apply rB | apply rC)); exact rE HO_6.out (fun _ hk => hk.2)⟩, ⟨by (with_reducible repeat (first | apply rA | apply rB | apply rC)); exact rE HO228.out (fun _ hk => hk.2)⟩, ⟨by (with_reducible repeat (first | apply rA | apply rB | apply rC)); exact rE HO223.out (fun _ hk => trivial)⟩, ⟨by with_reducible apply_rules [B84.out, bA, bB, bC]⟩, ⟨by with_reducible apply_rules [B25.out, bA, bB, bC]⟩, ⟨by (with_reducible apply_rules [HB.out, pA, pD, pE, sT, GE184.out, GE225.out])⟩⟩
         ·rw [if_neg c83] at H
          have c83b0 : (t224 == 0) = false := beq_eq_false_iff_ne.mpr c83
          have c83b1 : (t224 != 0) = true := bne_iff_ne.mpr c83
          (first | rw [c83b0] | (simp only [i64_w, i32_w]; rw [c83b0]) | skip)
          have H' := aM H
          clear H
          go_wp2
          go_meet
          case rel => exact ⟨_, (true), (by first | rfl | (simp; done) | (simp [*]; done)), H', ⟨by have := HJ8.out; have := HJ47.out; first | omega | exact Nat.le_refl _⟩, ⟨by (with_reducible repeat (first | apply rA | apply rB | apply rC)); exact rE HO_6.out (fun _ hk => hk.2)⟩, ⟨by (with_reducible repeat (first | apply rA | apply rB | apply rC)); exact rE HO228.out (fun _ hk => hk.2)⟩, ⟨by (with_reducible repeat (first | apply rA | apply rB | apply rC)); exact rE HO223.out (fun _ hk => trivial)⟩, ⟨by with_reducible apply_rules [B84.out, bA, bB, bC]⟩, ⟨by with_reducible apply_rules [B25.out, bA, bB, bC]⟩, ⟨by (with_reducible apply_rules [HB.out, pA, pD, pE, sT, GE184.out, GE225.out])⟩⟩
        case rest =>
         clear HC73
         try clear c1
         try clear c2
         try clear p2
         try clear c3
         try clear c5
         try clear c6
         try clear c7
         try clear c8
         try clear c12
         try clear c14
         try clear c16
         try clear c17
         try clear c18
         try clear c19
         try clear c21
         try clear c22
         try clear c22b0
         try clear c24
         try clear c31
         try clear c32
         try clear c33
         try clear c34
         try clear c35
         try clear c57
         try clear c57b0
         try clear c57b1
         try clear c58
         try clear c58b0
         try clear c58b1
         try clear c60
         try clear c68
         try clear c69
         try clear c69b0
         try clear c69b1
         try clear c79
         try clear c83
         try clear c83b0
         try clear c83b1
         try clear c84
         try clear c84b0
         try clear c84b1
         try clear hcz11_0
         try clear hcz11_1
         try clear hcz17_0
         try clear hcz17_1
         try clear hcz19_0
         try clear hcz19_1
         try clear hcz24_0
         try clear hcz24_1
         try clear hcz26_0
         try clear hcz26_1
         try clear hcz28_0
         try clear hcz28_1
         try clear hcz33_0
         try clear hcz33_1
         try clear hcz35_0
         try clear hcz35_1
         try clear hcz37_0
         try clear hcz37_1
         try clear hcz42_0
         try clear hcz42_1
         try clear hcz49_0
         try clear hcz49_1
         try clear hcz53_0
         try clear hcz53_1
         try clear hcz6_0
         try clear hcz6_1
         try clear hcz74_0
         try clear hcz74_1
         try clear hcz80_0
         try clear hcz80_1
         try clear hfz11_0
         try clear hfz11_1
         try clear hfz17_0
         try clear hfz17_1
         try clear hfz19_0
         try clear hfz19_1
         try clear hfz24_0
         try clear hfz24_1
         try clear hfz26_0
         try clear hfz26_1
         try clear hfz28_0
         try clear hfz28_1
         try clear hfz33_0
         try clear hfz33_1
         try clear hfz35_0
         try clear hfz35_1
         try clear hfz37_0
         try clear hfz37_1
         try clear hfz42_0
         try clear hfz42_1
         try clear hfz49_0
         try clear hfz49_1
         try clear hfz53_0
         try clear hfz53_1
         try clear hfz6_0
         try clear hfz6_1
         try clear hfz74_0
         try clear hfz74_1
         try clear hfz80_0
         try clear hfz80_1
         try clear p2
         obtain ⟨kq, x94_72, rfl, HA, HJ72, HO_6, HO_12, HO_226001, B84, B25, HB⟩ := hcut
         cases kq with
         | zero => exact absurd HA.out (by simp [commodatumlaw12_UndoNumbers.j2])
         | succ kj72 =>
          have H := HA.out
          clear HA
          simp only [commodatumlaw12_UndoNumbers.j2] at H
          by_cases c87 : x94_72 = true
          ·subst c87
           have H1 : (some false) = some r := by rw [if_pos rfl] at H; exact H
           clear H
           have H := H1
           clear H1
           obtain rfl := Option.some.inj H
           go_wp2
           go_ret
           exact ⟨by first | rfl | (simp [errW_none, errW_some] <;> rfl) | (simp [*, errW_none, errW_some] <;> rfl), by (with_reducible apply_rules [HB.out, pA, pD, pE, sT, GE184.out, GE225.out])⟩
          ·replace c87 := Bool.eq_false_iff.mpr c87
           subst c87
           have H1 : (commodatumlaw12_UndoNumbers.l0 kj72 t201 t226 0) = some r := by rw [if_neg (show ¬ (false = true) by decide)] at H; exact H
           clear H
           have H := H1
           clear H1
           have H' := aM H
           clear H
           go_wp2
           go_loopg [14] kj72 (fun kq v14 w' => ∃ (x14_4 : Int), v14 = .int .i64 x14_4 ∧ Aside0 (commodatumlaw12_UndoNumbers.l0 kq t201 t226 x14_4 = some r) ∧ Aside0 (kq ≤ kj72) ∧ Aside0 (Kd.R (Kd.int .i64) 3 w' w.heap.size (fun k_ => some k_ ≠ (v227 : Value).ownBlock) v202 t201) ∧ Aside0 (Kd.R (Kd.int .i64) 3 w' w.heap.size (fun k_ => some k_ ≠ (v202 : Value).ownBlock) v227 t226) ∧ Aside0 (Kd.R k67 67 w' w.heap.size (fun _ => True) (.slice Ao81 t221.length co81) t221) ∧ Aside0 (w'.heap[gb184]? = some (.cells #[.int .i64 a0_0, (.slice A0_1 l0_1.length c0_1)] 25 (0, 0))) ∧ Aside0 (w'.heap[gb225]? = some (.cells #[.int .i64 t220, (.slice Ao81 t221.length co81)] 25 (0, 0))) ∧ Aside0 (Below w.heap.size w w'))
           case atStart => exact ⟨(0), (by first | rfl | (simp; done) | (simp [*]; done)), H', ⟨Nat.le_refl _⟩, ⟨by with_reducible apply_rules [HO_6.out, rA, rB, rC]⟩, ⟨by with_reducible apply_rules [HO_12.out, rA, rB, rC]⟩, ⟨by with_reducible apply_rules [HO_226001.out, rA, rB, rC]⟩, ⟨by with_reducible apply_rules [B84.out, bA, bB, bC]⟩, ⟨by with_reducible apply_rules [B25.out, bA, bB, bC]⟩, ⟨by (with_reducible apply_rules [HB.out, pA, pD, pE, sT, GE184.out, GE225.out])⟩⟩
           case round =>
            clear H'
            try clear c1
            try clear c2
            try clear p2
            try clear c3
            try clear c5
            try clear c6
            try clear c7
            try clear c8
            try clear c12
            try clear c14
            try clear c16
            try clear c17
            try clear c18
            try clear c19
            try clear c21
            try clear c22
            try clear c22b0
            try clear c24
            try clear c31
            try clear c32
            try clear c33
            try clear c34
            try clear c35
            try clear c57
            try clear c57b0
            try clear c57b1
            try clear c58
            try clear c58b0
            try clear c58b1
            try clear c60
            try clear c68
            try clear c69
            try clear c69b0
            try clear c69b1
            try clear c79
            try clear c83
            try clear c83b0
            try clear c83b1
            try clear c84
            try clear c84b0
            try clear c84b1
            try clear c87
            try clear hcz11_0
            try clear hcz11_1
            try clear hcz17_0
            try clear hcz17_1
            try clear hcz19_0
            try clear hcz19_1
            try clear hcz24_0
            try clear hcz24_1
            try clear hcz26_0
            try clear hcz26_1
            try clear hcz28_0
            try clear hcz28_1
            try clear hcz33_0
            try clear hcz33_1
            try clear hcz35_0
            try clear hcz35_1
            try clear hcz37_0
            try clear hcz37_1
            try clear hcz42_0
            try clear hcz42_1
            try clear hcz49_0
            try clear hcz49_1
            try clear hcz53_0
            try clear hcz53_1
            try clear hcz6_0
            try clear hcz6_1
            try clear hcz74_0
            try clear hcz74_1
            try clear hcz80_0
            try clear hcz80_1
            try clear hfz11_0
            try clear hfz11_1
            try clear hfz17_0
            try clear hfz17_1
            try clear hfz19_0
            try clear hfz19_1
            try clear hfz24_0
            try clear hfz24_1
            try clear hfz26_0
            try clear hfz26_1
            try clear hfz28_0
            try clear hfz28_1
            try clear hfz33_0
            try clear hfz33_1
            try clear hfz35_0
            try clear hfz35_1
            try clear hfz37_0
            try clear hfz37_1
            try clear hfz42_0
            try clear hfz42_1
            try clear hfz49_0
            try clear hfz49_1
            try clear hfz53_0
            try clear hfz53_1
            try clear hfz6_0
            try clear hfz6_1
            try clear hfz74_0
            try clear hfz74_1
            try clear hfz80_0
            try clear hfz80_1
            try clear p2
            obtain ⟨x14_4, rfl, HA, HK4, HO_6, HO_12, HO_226001, B84, B25, HB⟩ := hrel
            cases gk with
            | zero => exact absurd HA.out (by simp [commodatumlaw12_UndoNumbers.l0])
            | succ k4 =>
             have H := HA.out
             clear HA
             simp only [commodatumlaw12_UndoNumbers.l0] at H
             by_cases c88 : x14_4 < (t201.length : Int)
             ·rw [if_pos c88] at H
              have c88b0 : decide (x14_4 < (t201.length : Int)) = true := decide_eq_true c88
              clear c88
              by_cases c89 : 0 ≤ x14_4
              ·rw [if_pos c89] at H
               have c89b0 : decide (0 ≤ x14_4) = true := decide_eq_true c89
               clear c89
               by_cases c90 : 0 ≤ (rd t201 x14_4)
               ·rw [if_pos c90] at H
                have c90b0 : decide (0 ≤ (rd t201 x14_4)) = true := decide_eq_true c90
                clear c90
                by_cases c91 : (rd t201 x14_4) < (t226.length : Int)
                ·rw [if_pos c91] at H
                 have c91b0 : decide ((rd t201 x14_4) < (t226.length : Int)) = true := decide_eq_true c91
                 clear c91
                 by_cases c92 : (rd t226 (rd t201 x14_4)) = x14_4
                 ·rw [if_pos c92] at H
                  have c92b0 : ((rd t226 (rd t201 x14_4)) == x14_4) = true := beq_iff_eq.mpr c92
                  have c92b1 : ((rd t226 (rd t201 x14_4)) != x14_4) = false := bne_eq_false_iff_eq.mpr c92
                  clear c92
                  have H' := aM H
                  clear H
                  obtain ⟨Ao93, co93, eo93⟩ := Kd.R_slice HO_6.out
                  subst eo93
                  have p230 : 0 ≤ (x14_4 : Int) := of_decide_eq_true (by assumption)
                  have q230 : x14_4 < (t201.length : Int) := of_decide_eq_true (by assumption)
                  obtain ⟨ad230, e230, hx230_0⟩ := Kd.at_int (Kd.R_reads' HO_6.out).2.2 x14_4 p230 q230
                  cases e230
                  replace p230 := eq_true p230
                  replace q230 := eq_true q230
                  obtain ⟨Ao94, co94, eo94⟩ := Kd.R_slice HO_12.out
                  subst eo94
                  have p231 : 0 ≤ ((rd t201 x14_4) : Int) := of_decide_eq_true (by assumption)
                  have q231 : (rd t201 x14_4) < (t226.length : Int) := of_decide_eq_true (by assumption)
                  obtain ⟨ad231, e231, hx231_0⟩ := Kd.at_int (Kd.R_reads' HO_12.out).2.2 (rd t201 x14_4) p231 q231
                  cases e231
                  replace p231 := eq_true p231
                  replace q231 := eq_true q231
                  go_wp2
                  go_roundg k4
                  case measure => have := HJ8.out; have := HJ47.out; have := HJ72.out; have := HK4.out; omega
                  case rel => exact ⟨(wrap64 (x14_4 + 1)), (by first | rfl | (simp; done) | (simp [*]; done)), H', ⟨by have := HJ8.out; have := HJ47.out; have := HJ72.out; have := HK4.out; omega⟩, ⟨by with_reducible apply_rules [HO_6.out, rA, rB, rC]⟩, ⟨by with_reducible apply_rules [HO_12.out, rA, rB, rC]⟩, ⟨by with_reducible apply_rules [HO_226001.out, rA, rB, rC]⟩, ⟨by with_reducible apply_rules [B84.out, bA, bB, bC]⟩, ⟨by with_reducible apply_rules [B25.out, bA, bB, bC]⟩, ⟨by (with_reducible apply_rules [HB.out, pA, pD, pE, sT, GE184.out, GE225.out])⟩⟩
                 ·rw [if_neg c92] at H
                  have c92b0 : ((rd t226 (rd t201 x14_4)) == x14_4) = false := beq_eq_false_iff_ne.mpr c92
                  have c92b1 : ((rd t226 (rd t201 x14_4)) != x14_4) = true := bne_iff_ne.mpr c92
                  obtain rfl := Option.some.inj H
                  obtain ⟨Ao95, co95, eo95⟩ := Kd.R_slice HO_6.out
                  subst eo95
                  have p230 : 0 ≤ (x14_4 : Int) := of_decide_eq_true (by assumption)
                  have q230 : x14_4 < (t201.length : Int) := of_decide_eq_true (by assumption)
                  obtain ⟨ad230, e230, hx230_0⟩ := Kd.at_int (Kd.R_reads' HO_6.out).2.2 x14_4 p230 q230
                  cases e230
                  replace p230 := eq_true p230
                  replace q230 := eq_true q230
                  obtain ⟨Ao96, co96, eo96⟩ := Kd.R_slice HO_12.out
                  subst eo96
                  have p231 : 0 ≤ ((rd t201 x14_4) : Int) := of_decide_eq_true (by assumption)
                  have q231 : (rd t201 x14_4) < (t226.length : Int) := of_decide_eq_true (by assumption)
                  obtain ⟨ad231, e231, hx231_0⟩ := Kd.at_int (Kd.R_reads' HO_12.out).2.2 (rd t201 x14_4) p231 q231
                  cases e231
                  replace p231 := eq_true p231
                  replace q231 := eq_true q231
                  go_wp2
                  go_ret
                  exact ⟨by first | rfl | (simp [errW_none, errW_some] <;> rfl) | (simp [*, errW_none, errW_some] <;> rfl), by (with_reducible apply_rules [HB.out, pA, pD, pE, sT, GE184.out, GE225.out])⟩
                ·rw [if_neg c91] at H
                 exact absurd H (by simp)
               ·rw [if_neg c90] at H
                exact absurd H (by simp)
              ·rw [if_neg c89] at H
               exact absurd H (by simp)
             ·rw [if_neg c88] at H
              have c88b0 : decide (x14_4 < (t201.length : Int)) = false := decide_eq_false c88
              clear c88
              replace H := Option.bind_eq_some_iff.mp H
              obtain ⟨t232, A970, H⟩ := H
              replace H : (some t232) = some r := H
              have A97 := aM A970
              clear A970
              obtain rfl := Option.some.inj H
              obtain ⟨Ao98, co98, eo98⟩ := Kd.R_slice HO_6.out
              subst eo98
              go_wp2_with (first | ((with_reducible refine gate_callee (f := 12) rfl ?_); refine goesL_ (some 110) rfl rfl Tryd.func12 (by kernel_rfl) rfl #[] rfl (by (try simp only [List.map_toArray, List.map_cons, List.map_nil]); first | done | rfl | (simp only [List.length_drop, List.length_take]; rfl)) ?_; (with_reducible refine (commodatumlaw12_Awake.calls k4  t232 _ ?side1 A97.out).mono ?_); (case side1 => exact Laid.below HLAY.out (by (with_reducible apply_rules [HB.out, pA, pD, pE, sT, GE184.out, GE225.out]))); rintro e w99 ⟨rfl, hb⟩; refine ⟨_, rfl, ?_⟩; have n0_ := aM (rD (by with_reducible apply_rules [HO_6.out, rA, rB, rC]) hb); have n1_ := aM (rD (by with_reducible apply_rules [HO_12.out, rA, rB, rC]) hb); have n2_ := aM (rD (by with_reducible apply_rules [HO_226001.out, rA, rB, rC]) hb); have n3_ := aM (bD (g := gb184) (o := .cells #[.int .i64 a0_0, .slice A0_1 l0_1.length c0_1] 25 (0, 0)) (by with_reducible apply_rules [B84.out, bA, bB, bC]) hb); have n4_ := aM (bD (g := gb225) (o := .cells #[.int .i64 t220, .slice Ao81 t221.length co81] 25 (0, 0)) (by with_reducible apply_rules [B25.out, bA, bB, bC]) hb); have n5_ := aM (pS_ (by (with_reducible apply_rules [HB.out, pA, pD, pE, sT, GE184.out, GE225.out])) hb); clear HO_6; clear HO_12; clear HO_226001; clear B84; clear B25; clear HB; have HO_6 := n0_; have HO_12 := n1_; have HO_226001 := n2_; have B84 := n3_; have B25 := n4_; have HB := n5_; clear n0_ n1_ n2_ n3_ n4_ n5_; (try clear hb); (try clear hb2); (try clear hk); (try clear hi)))
              go_ret
              exact ⟨by first | rfl | (simp [errW_none, errW_some] <;> rfl) | (simp [*, errW_none, errW_some] <;> rfl), by (with_reducible apply_rules [HB.out, pA, pD, pE, sT, GE184.out, GE225.out])⟩
       ·rw [if_neg c69] at H
        have c69b0 : (x5_8 == 0) = false := beq_eq_false_iff_ne.mpr c69
        have c69b1 : (x5_8 != 0) = true := bne_iff_ne.mpr c69
        replace H := Option.bind_eq_some_iff.mp H
        obtain ⟨t215, A1000, H⟩ := H
        replace H : (some t215) = some r := H
        have A100 := aM A1000
        clear A1000
        obtain rfl := Option.some.inj H
        go_wp2_with (first | ((with_reducible refine gate_callee (f := 12) rfl ?_); refine goesL_ (some 70) rfl rfl Tryd.func12 (by kernel_rfl) rfl #[] rfl (by (try simp only [List.map_toArray, List.map_cons, List.map_nil]); first | done | rfl | (simp only [List.length_drop, List.length_take]; rfl)) ?_; (with_reducible refine (commodatumlaw12_Awake.calls kj47  t215 _ ?side1 A100.out).mono ?_); (case side1 => exact Laid.below HLAY.out (by (with_reducible apply_rules [HB.out, pA, pD, pE, sT, GE184.out]))); rintro e w101 ⟨rfl, hb⟩; refine ⟨_, rfl, ?_⟩; have n0_ := aM (rD (by with_reducible apply_rules [HO_6.out, rA, rB, rC]) hb); have n1_ := aM (bD (g := gb184) (o := .cells #[.int .i64 a0_0, .slice A0_1 l0_1.length c0_1] 25 (0, 0)) (by with_reducible apply_rules [B84.out, bA, bB, bC]) hb); have n2_ := aM (pS_ (by (with_reducible apply_rules [HB.out, pA, pD, pE, sT, GE184.out])) hb); clear HO_6; clear B84; clear HB; have HO_6 := n0_; have B84 := n1_; have HB := n2_; clear n0_ n1_ n2_; (try clear hb); (try clear hb2); (try clear hk); (try clear hi)))
        go_ret
        exact ⟨by first | rfl | (simp [errW_none, errW_some] <;> rfl) | (simp [*, errW_none, errW_some] <;> rfl), by (with_reducible apply_rules [HB.out, pA, pD, pE, sT, GE184.out])⟩

end Go.Proofs.YthfhnkpipdbekaaDoor.Tb
