-- CUT by a program of this session: what the claim does not use is left out
import Derived.Test.YthfhnkpipdbekaaDoorUax0
import Derived.Test.YthfhnkpipdbekaaDoorProg
import Derived.Below
import Derived.Deep.Draws
import Derived.Deep.AppendLies
import Derived.Maps.AppendAt
import Derived.OwnWalk
import Derived.Laws.BytesArg
import Derived.Laws.MakeOwn
import Derived.Laws.OwnMore
import Derived.Deep.OwnRows
import Derived.Tactics
import Derived.Lib.ConvBytes
import Derived.Laws.Slices
import Derived.WalkKit
import Derived.KernelRfl
import Derived.RowKit3
import Derived.Deep.LoopGhost
import Derived.Deep.QuietTactic
import Derived.BigQuiet
import Derived.WideLaws
import Derived.Deep.DeepCutAuto
import Derived.Deep.CutBlock
import Derived.Deep.RegionHeld3
import Derived.Laws.Rows
import Derived.Lib.AppendStr
import Derived.ArgAppend
import Derived.Laws.IdiomCopy
import Derived.OrdersHeld
import Derived.Laws.BitsLemmas
import Derived.RowKit
import Derived.Test.YthfhnkpipdbekaaDoorN6
import Derived.Test.YthfhnkpipdbekaaDoorWAll
import Derived.Test.YthfhnkpipdbekaaDoorTax2
namespace Go.Proofs.YthfhnkpipdbekaaDoor.Ta
open Go.Proofs.YthfhnkpipdbekaaDoor.Ua
open Go.Proofs.YthfhnkpipdbekaaDoor.Giv
open Go.RowKit Go.Proofs.YthfhnkpipdbekaaDoorW.PrintWords Go.Proofs.YthfhnkpipdbekaaDoorW.PrintLast Go.Proofs.YthfhnkpipdbekaaDoorW.PrintMore
attribute [local go_sem] max2_int min2_int max_two min_two max_three min_three max_four min_four   -- for this text's walks alone
set_option linter.unusedVariables false
set_option linter.unusedSimpArgs false

def undo_Permutation.l0 : Nat → List Int → Int → Int → Int → List (S67) → Option (List Int × Int)
 | 0, _, _, _, _, _ => none
 | k + 1, x5, x17, x18, x115000, x115001 => if x18 < x17 then ((undo_final.f k x115001 x18).bind fun t119 => (if 0 ≤ x18 then (if x18 < (x5.length : Int) then (undo_Permutation.l0 k (x5.set (x18 : Int).toNat t119) x17 (wrap64 (x18 + 1)) x115000 x115001) else (none)) else (none))) else (some (x5, 0))
def undo_Permutation.f (k : Nat) (a0_0 : Int) (l0_1 : List (S67)) : Option (List Int × Int) := (undo_enumerable.f a0_0 l0_1).bind fun t115 => (if t115 = 0 then (if 0 ≤ a0_0 then (if 0 ≤ (shl .i64 1 a0_0) then (if (shl .i64 1 a0_0 : Int).toNat ≤ 35184372088832 then ((some (List.replicate (shl .i64 1 a0_0 : Int).toNat 0 : List Int)).bind fun y116 => (undo_Permutation.l0 k y116 (y116.length : Int) 0 a0_0 l0_1)) else (none)) else (none)) else (none)) else (some (([] : List Int), t115)))
theorem undo_Permutation.mono_l : ∀ k, (∀ y0 y1 y2 y3 y4, LeO (undo_Permutation.l0 k y0 y1 y2 y3 y4) (undo_Permutation.l0 (k + 1) y0 y1 y2 y3 y4))
 | 0 => fun _ _ _ _ _ r h => by simp [undo_Permutation.l0] at h
 | k + 1 => by
  have ih0 := undo_Permutation.mono_l k
  ·intro y0 y1 y2 y3 y4
   unfold undo_Permutation.l0
   repeat' first
   | (with_reducible exact ih0 _ _ _ _ _)
   | (with_reducible exact undo_final.mono _ _ _)
   | (with_reducible exact LeO.refl _)
   | (with_reducible exact LeO.none _)
   | (with_reducible refine LeO.ite ?_ ?_)
   | (with_reducible refine LeO.bind ?_ (fun _ => ?_))
   | exact ih0 _ _ _ _ _
   | exact undo_final.mono _ _ _
   | exact LeO.none _
   | refine LeO.ite ?_ ?_
   | refine LeO.bind ?_ (fun _ => ?_)
theorem undo_Permutation.mono : ∀ a0 a1 k, LeO (undo_Permutation.f k a0 a1) (undo_Permutation.f (k + 1) a0 a1) := by
 intro a0 a1 k
 have ih0 := undo_Permutation.mono_l k
 unfold undo_Permutation.f
 repeat' first
   | (with_reducible exact ih0 _ _ _ _ _)
   | (with_reducible exact undo_final.mono _ _ _)
   | (with_reducible exact LeO.refl _)
   | (with_reducible exact LeO.none _)
   | (with_reducible refine LeO.ite ?_ ?_)
   | (with_reducible refine LeO.bind ?_ (fun _ => ?_))
   | exact ih0 _ _ _ _ _
   | exact undo_final.mono _ _ _
   | exact LeO.none _
   | refine LeO.ite ?_ ?_
   | refine LeO.bind ?_ (fun _ => ?_)
open Bool renaming true → T, false → F
open Go.Proofs.YthfhnkpipdbekaaDoorW.PrintWords renaming Kd.R_alloc → rA, Kd.R_drewN → rB, Kd.R_drew → rC, blk_drewN → bA, blk_drew → bB, blk_alloc → bC, below_set → sT, Aside0.mk → aM, pw_below_drewN → pD, below_drew1 → pE, below_alloc → pA, blk_below → bD, blk_cell → bE, blk_frozen → bF, below_step → pS_
set_option maxHeartbeats 8000000 in
set_option maxRecDepth 100000 in
theorem undo_Permutation.calls (k : Nat) (a0_0 : Int) (A0_1 : Option Addr) (c0_1 : Nat) (l0_1 : List (S67)) (r1 : List Int) (r2 : Int) (w : World) (hr0_1 : Kd.C k67 w A0_1 l0_1.length l0_1) (hc0_1 : l0_1.length ≤ c0_1) (h : undo_Permutation.f k a0_0 l0_1 = some (r1, r2)) :
  Calls Tryd.prog 34 #[.agg #[.int .i64 a0_0, .slice A0_1 l0_1.length c0_1]] w fun e w' => ∃ v0_ : Value, e = .returned (.tuple #[v0_, .int .i64 r2]) ∧ Kd.R (Kd.int .i64) 3 w' w.heap.size (fun _ => True) v0_ r1 ∧ Below w.heap.size w w' := by
 have hu25 := Tryd.underlying25
 have HR0_1 := aM hr0_1
 have HC0_1 := aM hc0_1
 clear hr0_1 hc0_1
 have HB := aM (Below.refl w.heap.size w)
 have H : ((undo_enumerable.f a0_0 l0_1).bind fun t115 => (if t115 = 0 then (if 0 ≤ a0_0 then (if 0 ≤ (shl .i64 1 a0_0) then (if (shl .i64 1 a0_0 : Int).toNat ≤ 35184372088832 then ((some (List.replicate (shl .i64 1 a0_0 : Int).toNat 0 : List Int)).bind fun y116 => (undo_Permutation.l0 k y116 (y116.length : Int) 0 a0_0 l0_1)) else (none)) else (none)) else (none)) else (some (([] : List Int), t115)))) = some (r1, r2) := h
 clear h
 replace H := Option.bind_eq_some_iff.mp H
 obtain ⟨t115, A20, H⟩ := H
 replace H : (if t115 = 0 then (if 0 ≤ a0_0 then (if 0 ≤ (shl .i64 1 a0_0) then (if (shl .i64 1 a0_0 : Int).toNat ≤ 35184372088832 then ((some (List.replicate (shl .i64 1 a0_0 : Int).toNat 0 : List Int)).bind fun y116 => (undo_Permutation.l0 k y116 (y116.length : Int) 0 a0_0 l0_1)) else (none)) else (none)) else (none)) else (some (([] : List Int), t115))) = some (r1, r2) := H
 have A2 := aM A20
 clear A20
 by_cases c3 : t115 = 0
 ·rw [if_pos c3] at H
  have c3b0 : (t115 == 0) = true := beq_iff_eq.mpr c3
  have c3b1 : (t115 != 0) = false := bne_eq_false_iff_eq.mpr c3
  clear c3
  by_cases c4 : 0 ≤ a0_0
  ·rw [if_pos c4] at H
   have c4b0 := eq_true c4
   have c4b1 : decide (0 ≤ a0_0) = true := decide_eq_true c4
   clear c4
   obtain ⟨ji5, hji5⟩ : ∃ j_ : Int, (shl .i64 1 a0_0) = j_ := ⟨_, rfl⟩
   replace H : (if 0 ≤ (ji5) then (if (ji5 : Int).toNat ≤ 35184372088832 then ((some (List.replicate (ji5 : Int).toNat 0 : List Int)).bind fun y116 => (undo_Permutation.l0 k y116 (y116.length : Int) 0 a0_0 l0_1)) else (none)) else (none)) = some (r1, r2) := by first | (rw [hji5] at H; exact H) | (simp only [hji5] at H ⊢; exact H)
   (try rw [hji5] at A2)
   have hji5_ : (IntKind.i64.wrap (1 * 2 ^ min a0_0.toNat 64)) = ji5 := hji5
   have hji5z : a0_0 ≤ 64 → (IntKind.i64.wrap (1 * 2 ^ a0_0.toNat)) = ji5 := shl_small hji5
   have hji5u : (IntKind.i64.wrap (2 ^ min a0_0.toNat 64)) = ji5 := by have h_ := hji5_; rw [Int.one_mul] at h_; exact h_
   have hji5v : a0_0 ≤ 64 → (IntKind.i64.wrap (2 ^ a0_0.toNat)) = ji5 := fun hle_ => by have h_ := hji5z hle_; rw [Int.one_mul] at h_; exact h_
   have hji5y : (wrap64 (1 * 2 ^ min a0_0.toNat 64)) = ji5 := (i64_w _).symm.trans hji5_
   have hji5x : a0_0 ≤ 64 → (wrap64 (1 * 2 ^ a0_0.toNat)) = ji5 := fun h_ => (i64_w _).symm.trans (hji5z h_)
   by_cases c6 : 0 ≤ (ji5)
   ·rw [if_pos c6] at H
    have c6b0 := eq_true c6
    have c6b1 : decide (0 ≤ (ji5)) = true := decide_eq_true c6
    clear c6
    by_cases c7 : (ji5 : Int).toNat ≤ 35184372088832
    ·rw [if_pos c7] at H
     have c7b0 := eq_true c7
     have c7b1 : decide ((ji5 : Int).toNat ≤ 35184372088832) = true := decide_eq_true c7
     clear c7
     obtain ⟨y116, hy116⟩ : ∃ y_ : List Int, y_ = (List.replicate (ji5 : Int).toNat 0) := ⟨_, rfl⟩
     replace H : (undo_Permutation.l0 k y116 (y116.length : Int) 0 a0_0 l0_1) = some (r1, r2) := by first | (rw [hy116]; with_reducible exact H) | (have H2_ := (Option.bind_some _ _).symm.trans H; rw [hy116]; with_reducible exact H2_) | (have H2_ := (Option.bind_some _ _).symm.trans H; with_reducible exact H2_) | with_reducible exact H | (rw [hy116]; exact H) | exact H
     have Ny116 := aM hy116
     clear hy116
     have H' := aM H
     clear H
     go_enter Tryd.func34, Tryd.ntmps34
     go_wp2_with (first | ((with_reducible refine gate_dst (N := 1) rfl ?_); refine box_event ?hg (N := 1) ?hd (cs := #[.int .i64 a0_0, .slice A0_1 l0_1.length c0_1]) (t := 25) ?hr ?_; (case hd => rfl); (case hg => rfl); (case hr => first | (go_simp; done) | (go_simp; rfl)); intro gb114 hg w8 hbox hb; have B14 := aM (hbox); have GW114 := aM ((by rw [hg]; exact (below_size (by repeat (first | (with_reducible first | exact HB.out | apply pA | apply pD | apply pE) | exact HB.out))) : w.heap.size ≤ gb114)); have GE114 := aM ((by rw [hg]; exact (below_size (by repeat (first | (with_reducible first | exact HB.out | apply pA | apply pD | apply pE) | exact HB.out))) : w.heap.size ≤ gb114)); replace HB := aM (pS_ (by repeat (first | (with_reducible first | exact HB.out | apply pA | apply pD | apply pE) | exact HB.out)) hb); clear hb hbox hg; have hcz9_0 : w8.cell? ⟨gb114, 0, none⟩ = some (.int .i64 a0_0) := (bE B14.out 0).trans rfl; have hcz9_1 : w8.cell? ⟨gb114, 1, none⟩ = some (.slice A0_1 l0_1.length c0_1) := (bE B14.out 1).trans rfl; have hfz9_0 := bF B14.out 0; have hfz9_1 := bF B14.out 1) | ((with_reducible refine gate_callee (f := 58) rfl ?_); refine goesL_ (some 8) rfl rfl Tryd.func58 (by kernel_rfl) rfl #[.agg #[.int .i64 a0_0, .slice A0_1 l0_1.length c0_1]] rfl (by (try simp only [List.map_toArray, List.map_cons, List.map_nil]); first | done | rfl | (simp only [List.length_drop, List.length_take]; rfl)) ?_; (with_reducible refine (undo_enumerable.calls a0_0 _ _ l0_1 t115 _ ?side1 ?side2 A2.out).mono ?_); (case side1 => with_reducible apply_rules [(Kd.C_below HR0_1.out HB.out), Kd.C_alloc, Kd.C_drewN, Kd.C_drew]); (case side2 => exact HC0_1.out); rintro e w10 ⟨rfl, hb⟩; refine ⟨_, rfl, ?_⟩; replace B14 := aM (bD (g := gb114) (o := .cells #[.int .i64 a0_0, .slice A0_1 l0_1.length c0_1] 25 (0, 0)) (by (with_reducible repeat (first | refine bA ?_ _ | refine bB ?_ | refine bC ?_ _)); exact B14.out) hb); replace HB := aM (pS_ (by repeat (first | (with_reducible first | exact HB.out | apply pA | apply pD | apply pE | refine sT ?_ GE114.out) | exact HB.out)) hb); (try clear hb); (try clear hb2); (try clear hk); (try clear hi); have hcz11_0 : w10.cell? ⟨gb114, 0, none⟩ = some (.int .i64 a0_0) := (bE B14.out 0).trans rfl; have hcz11_1 : w10.cell? ⟨gb114, 1, none⟩ = some (.slice A0_1 l0_1.length c0_1) := (bE B14.out 1).trans rfl; have hfz11_0 := bF B14.out 0; have hfz11_1 := bF B14.out 1) | ((with_reducible refine gate_dst (N := 15) rfl ?_); refine Kd.R_make (Kd.int .i64) _ 3 rfl (N := 15) rfl 49 _ _ rfl ji5 rfl rfl Tryd.underlying49 (.int .i64 0) 8 info3 rfl (by decide) (by omega) 0 (ok := fun _ => True) (okp := fun _ => True) rfl (fun _ hk => hk) trivial (of_decide_eq_true (by assumption)) (Nat.le_trans (Nat.mul_le_mul_right _ (of_decide_eq_true (by assumption) : ji5.toNat ≤ 35184372088832)) (by omega)) (Below.refl _ _) (Nat.le_refl _) ?_; intro v117 w12 ho13 hb hg_ hnew_; clear hg_ hnew_; (first | rw [← Ny116.out] at ho13 | (simp only [Int.reduceToNat] at ho13; rw [← Ny116.out] at ho13)); have HO118 := aM (Kd.R_lower ho13 (below_size (by repeat (first | (with_reducible first | exact HB.out | apply pA | apply pD | apply pE | refine sT ?_ GE114.out) | exact HB.out)))); replace B14 := aM (bD (g := gb114) (o := .cells #[.int .i64 a0_0, .slice A0_1 l0_1.length c0_1] 25 (0, 0)) (by (with_reducible repeat (first | refine bA ?_ _ | refine bB ?_ | refine bC ?_ _)); exact B14.out) hb); replace HB := aM (pS_ (by repeat (first | (with_reducible first | exact HB.out | apply pA | apply pD | apply pE | refine sT ?_ GE114.out) | exact HB.out)) hb); clear hb ho13; obtain ⟨Ao14, co14, eo14⟩ := Kd.R_slice HO118.out; subst eo14))
     go_loopg [18] k (fun kq v18 w' => ∃ (x5_1 : List Int) (x18_1 : Int), v18 = .int .i64 x18_1 ∧ Aside0 (undo_Permutation.l0 kq x5_1 (y116.length : Int) x18_1 a0_0 l0_1 = some (r1, r2)) ∧ Aside0 (kq ≤ k) ∧ Aside0 (Kd.R (Kd.int .i64) 3 w' w.heap.size (fun _ => True) (.slice Ao14 y116.length co14) x5_1) ∧ Aside0 (w'.heap[gb114]? = some (.cells #[.int .i64 a0_0, (.slice A0_1 l0_1.length c0_1)] 25 (0, 0))) ∧ Aside0 (Below w.heap.size w w'))
     case atStart => exact ⟨(y116), (0), (by first | rfl | (simp; done) | (simp [*]; done)), H', ⟨Nat.le_refl _⟩, ⟨by (with_reducible repeat (first | apply rA | apply rB | apply rC)); exact HO118.out⟩, ⟨by (with_reducible repeat (first | refine bA ?_ _ | refine bB ?_ | refine bC ?_ _)); exact B14.out⟩, ⟨by repeat (first | (with_reducible first | exact HB.out | apply pA | apply pD | apply pE | refine sT ?_ GE114.out) | exact HB.out)⟩⟩
     case round =>
      clear H'
      try clear p2
      try clear c3
      try clear c3b0
      try clear c3b1
      try clear c4
      try clear c4b0
      try clear c4b1
      try clear c5
      try clear c6
      try clear c6b0
      try clear c6b1
      try clear p6
      try clear c7
      try clear c7b0
      try clear c7b1
      try clear hcz11_0
      try clear hcz11_1
      try clear hcz9_0
      try clear hcz9_1
      try clear hfz11_0
      try clear hfz11_1
      try clear hfz9_0
      try clear hfz9_1
      obtain ⟨x5_1, x18_1, rfl, HA, HK1, HO_5, B14, HB⟩ := hrel
      have hl5_1 := (Kd.R_reads' HO_5.out).1
      rw [hl5_1] at HO_5
      (try simp only [hl5_1])
      (try simp only [hl5_1] at B14)
      cases gk with
      | zero => exact absurd HA.out (by simp [undo_Permutation.l0])
      | succ k1 =>
       have H := HA.out
       clear HA
       simp only [undo_Permutation.l0] at H
       by_cases c15 : x18_1 < (y116.length : Int)
       ·rw [if_pos c15] at H
        have c15b0 : decide (x18_1 < (y116.length : Int)) = true := decide_eq_true c15
        clear c15
        (try (have c15b0h := c15b0; simp only [hl5_1] at c15b0h))
        replace H := Option.bind_eq_some_iff.mp H
        obtain ⟨t119, A160, H⟩ := H
        replace H : (if 0 ≤ x18_1 then (if x18_1 < (x5_1.length : Int) then (undo_Permutation.l0 k1 (x5_1.set (x18_1 : Int).toNat t119) (y116.length : Int) (wrap64 (x18_1 + 1)) a0_0 l0_1) else (none)) else (none)) = some (r1, r2) := H
        have A16 := aM A160
        clear A160
        by_cases c17 : 0 ≤ x18_1
        ·rw [if_pos c17] at H
         have c17b0 : decide (0 ≤ x18_1) = true := decide_eq_true c17
         clear c17
         (try (have c17b0h := c17b0; simp only [hl5_1] at c17b0h))
         by_cases c18 : x18_1 < (x5_1.length : Int)
         ·rw [if_pos c18] at H
          have c18b0 : decide (x18_1 < (x5_1.length : Int)) = true := decide_eq_true c18
          clear c18
          (try (have c18b0h := c18b0; simp only [hl5_1] at c18b0h))
          obtain ⟨y120, hy120⟩ : ∃ y_ : List Int, y_ = (x5_1.set (x18_1 : Int).toNat t119) := ⟨_, rfl⟩
          replace H : (undo_Permutation.l0 k1 y120 (y116.length : Int) (wrap64 (x18_1 + 1)) a0_0 l0_1) = some (r1, r2) := by first | (rw [hy120]; with_reducible exact H) | (have H2_ := (Option.bind_some _ _).symm.trans H; rw [hy120]; with_reducible exact H2_) | (have H2_ := (Option.bind_some _ _).symm.trans H; with_reducible exact H2_) | with_reducible exact H | (rw [hy120]; exact H) | exact H
          have Ny120 := aM hy120
          clear hy120
          have H' := aM H
          clear H
          have hcz20_0 : wr.cell? ⟨gb114, 0, none⟩ = some (.int .i64 a0_0) := (bE B14.out 0).trans rfl
          have hcz20_1 : wr.cell? ⟨gb114, 1, none⟩ = some (.slice A0_1 l0_1.length c0_1) := (bE B14.out 1).trans rfl
          have hfz20_0 := bF B14.out 0
          have hfz20_1 := bF B14.out 1
          go_wp2_with (first | ((with_reducible refine gate_callee (f := 59) rfl ?_); refine goesL_ (some 26) rfl rfl Tryd.func59 (by kernel_rfl) rfl #[.slice A0_1 l0_1.length c0_1, .int .i64 x18_1] rfl (by (try simp only [List.map_toArray, List.map_cons, List.map_nil]); first | done | rfl | (simp only [List.length_drop, List.length_take]; rfl)) ?_; (with_reducible refine (undo_final.calls k1 _ _ l0_1 x18_1 t119 _ ?side1 ?side2 A16.out).mono ?_); (case side1 => with_reducible apply_rules [(Kd.C_below HR0_1.out HB.out), Kd.C_alloc, Kd.C_drewN, Kd.C_drew]); (case side2 => exact HC0_1.out); rintro e w21 ⟨rfl, hb⟩; refine ⟨_, rfl, ?_⟩; replace HO_5 := aM (Kd.R_below (by (with_reducible repeat (first | apply rA | apply rB | apply rC)); exact HO_5.out) hb); replace B14 := aM (bD (g := gb114) (o := .cells #[.int .i64 a0_0, .slice A0_1 l0_1.length c0_1] 25 (0, 0)) (by (with_reducible repeat (first | refine bA ?_ _ | refine bB ?_ | refine bC ?_ _)); exact B14.out) hb); replace HB := aM (pS_ (by repeat (first | (with_reducible first | exact HB.out | apply pA | apply pD | apply pE | refine sT ?_ GE114.out) | exact HB.out)) hb); (try clear hb); (try clear hb2); (try clear hk); (try clear hi); have p19 : 0 ≤ (x18_1 : Int) := of_decide_eq_true (by assumption); have q19 : (x18_1 : Int) < ((x5_1.length : Int) : Int) := of_decide_eq_true (by assumption); obtain ⟨go19, co19, eo19, gb19, gl19, cl19, HG19⟩ := Kd.R_form HO_5.out (by omega); (first | cases eo19 | (injection eo19 with ea_ en_ ec_; (first | subst ea_ | (injection ea_ with ea_; subst ea_)); subst ec_; clear en_)); have GB19 := aM gb19; have GG19 := aM HG19; clear gb19 gl19 HG19; obtain ⟨hx19_0, hf19_0⟩ := Kd.R_celln 0 HO_5.out (x18_1 : Int) p19 q19; replace p19 := eq_true p19; replace q19 := eq_true q19; obtain ⟨hy22_, hz22_⟩ := Kd.R_celln 0 HO_5.out (x18_1 : Int) (of_decide_eq_true (by assumption)) (of_decide_eq_true (by assumption)); have HP22 := Kd.R_putg HO_5.out (x18_1 : Int) t119) | ((with_reducible refine gate_store (t := 3) (p := 27) rfl ?_); refine store_event (t := 3) (p := 27) (v := ?vo_w23) (w1 := (w21.setCell ⟨go19, (x18_1 : Int).toNat, none⟩ (.int .i64 t119))) ?hg ?ho ?hn ?hr ?_; (case ho => rfl); (case hg => rfl); (case hn => rfl); (case hr => first | (go_simp; done) | (go_simp; rfl)); intro w23 hw; have hg : w21.grownBy w23 (some go19) := (by rw [hw]; exact HP22.2); have hp_ : Kd.R (Kd.int .i64) 3 w23 w.heap.size (fun _ => True) (.slice (some ⟨go19, 0, none⟩) x5_1.length co14) y120 := (by rw [hw, Ny120.out]; exact HP22.1); clear HP22; replace B14 := aM (blk_grown (g := gb114) (o := .cells #[.int .i64 a0_0, .slice A0_1 l0_1.length c0_1] 25 (0, 0)) (by (with_reducible repeat (first | refine bA ?_ _ | refine bB ?_ | refine bC ?_ _)); exact B14.out) hg (Kd.R_ne HO_5.out B14.out (by decide))); replace HO_5 := aM (hp_); replace HB := aM ((by rw [hw]; exact sT (HB.out) GB19.out : Below w.heap.size w w23)); clear hg hw hp_))
          (try simp only [← hl5_1])
          go_roundg k1
          case measure => have := HK1.out; omega
          case rel => exact ⟨(y120), (wrap64 (x18_1 + 1)), (by first | rfl | (simp; done) | (simp [*]; done)), H', ⟨by have := HK1.out; omega⟩, ⟨by (try simp only [hl5_1]); (with_reducible repeat (first | apply rA | apply rB | apply rC)); exact HO_5.out⟩, ⟨by (try simp only [hl5_1]); (with_reducible repeat (first | refine bA ?_ _ | refine bB ?_ | refine bC ?_ _)); exact B14.out⟩, ⟨by repeat (first | (with_reducible first | exact HB.out | apply pA | apply pD | apply pE | refine sT ?_ GE114.out) | exact HB.out)⟩⟩
         ·rw [if_neg c18] at H
          exact absurd H (by simp)
        ·rw [if_neg c17] at H
         exact absurd H (by simp)
       ·rw [if_neg c15] at H
        have c15b0 : decide (x18_1 < (y116.length : Int)) = false := decide_eq_false c15
        clear c15
        (try (have c15b0h := c15b0; simp only [hl5_1] at c15b0h))
        simp only [Option.some.injEq, Prod.mk.injEq] at H
        obtain ⟨rfl, rfl⟩ := H
        go_wp2
        go_ret2
        exact ⟨_, by first | rfl | (simp [errW_none, errW_some] <;> rfl) | (simp only [← hji5]; first | rfl | (simp [errW_none, errW_some] <;> rfl)) | (simp [*, errW_none, errW_some] <;> rfl), by (with_reducible repeat (first | apply rA | apply rB | apply rC)); exact HO_5.out, by repeat (first | (with_reducible first | exact HB.out | apply pA | apply pD | apply pE | refine sT ?_ GE114.out) | exact HB.out)⟩
    ·rw [if_neg c7] at H
     exact absurd H (by simp)
   ·rw [if_neg c6] at H
    exact absurd H (by simp)
  ·rw [if_neg c4] at H
   exact absurd H (by simp)
 ·rw [if_neg c3] at H
  have c3b0 : (t115 == 0) = false := beq_eq_false_iff_ne.mpr c3
  have c3b1 : (t115 != 0) = true := bne_iff_ne.mpr c3
  simp only [Option.some.injEq, Prod.mk.injEq] at H
  obtain ⟨rfl, rfl⟩ := H
  go_enter Tryd.func34, Tryd.ntmps34
  go_wp2_with (first | ((with_reducible refine gate_dst (N := 1) rfl ?_); refine box_event ?hg (N := 1) ?hd (cs := #[.int .i64 a0_0, .slice A0_1 l0_1.length c0_1]) (t := 25) ?hr ?_; (case hd => rfl); (case hg => rfl); (case hr => first | (go_simp; done) | (go_simp; rfl)); intro gb114 hg w24 hbox hb; have B14 := aM (hbox); have GW114 := aM ((by rw [hg]; exact (below_size (by repeat (first | (with_reducible first | exact HB.out | apply pA | apply pD | apply pE) | exact HB.out))) : w.heap.size ≤ gb114)); have GE114 := aM ((by rw [hg]; exact (below_size (by repeat (first | (with_reducible first | exact HB.out | apply pA | apply pD | apply pE) | exact HB.out))) : w.heap.size ≤ gb114)); replace HB := aM (pS_ (by repeat (first | (with_reducible first | exact HB.out | apply pA | apply pD | apply pE) | exact HB.out)) hb); clear hb hbox hg; have hcz25_0 : w24.cell? ⟨gb114, 0, none⟩ = some (.int .i64 a0_0) := (bE B14.out 0).trans rfl; have hcz25_1 : w24.cell? ⟨gb114, 1, none⟩ = some (.slice A0_1 l0_1.length c0_1) := (bE B14.out 1).trans rfl; have hfz25_0 := bF B14.out 0; have hfz25_1 := bF B14.out 1) | ((with_reducible refine gate_callee (f := 58) rfl ?_); refine goesL_ (some 8) rfl rfl Tryd.func58 (by kernel_rfl) rfl #[.agg #[.int .i64 a0_0, .slice A0_1 l0_1.length c0_1]] rfl (by (try simp only [List.map_toArray, List.map_cons, List.map_nil]); first | done | rfl | (simp only [List.length_drop, List.length_take]; rfl)) ?_; (with_reducible refine (undo_enumerable.calls a0_0 _ _ l0_1 t115 _ ?side1 ?side2 A2.out).mono ?_); (case side1 => with_reducible apply_rules [(Kd.C_below HR0_1.out HB.out), Kd.C_alloc, Kd.C_drewN, Kd.C_drew]); (case side2 => exact HC0_1.out); rintro e w26 ⟨rfl, hb⟩; refine ⟨_, rfl, ?_⟩; replace B14 := aM (bD (g := gb114) (o := .cells #[.int .i64 a0_0, .slice A0_1 l0_1.length c0_1] 25 (0, 0)) (by (with_reducible repeat (first | refine bA ?_ _ | refine bB ?_ | refine bC ?_ _)); exact B14.out) hb); replace HB := aM (pS_ (by repeat (first | (with_reducible first | exact HB.out | apply pA | apply pD | apply pE | refine sT ?_ GE114.out) | exact HB.out)) hb); (try clear hb); (try clear hb2); (try clear hk); (try clear hi)))
  go_ret2
  exact ⟨_, by first | rfl | (simp [errW_none, errW_some] <;> rfl) | (simp [*, errW_none, errW_some] <;> rfl), by first | exact Kd.R_nil _ _ _ _ _ | exact Kd.N_nil _ _ _ _ _ | exact Kd.V_nil _ _ _ _ _ | exact Kd.Q_nil _ _ _ _ _ | exact Kd.S_nil _ _ _ _ _, by repeat (first | (with_reducible first | exact HB.out | apply pA | apply pD | apply pE | refine sT ?_ GE114.out) | exact HB.out)⟩

mutual
def undo_Restores.l0 : Nat → Int → List Int → Int → Int → Int → List (S67) → Option (List Bool × Int)
 | 0, _, _, _, _, _, _ => none
 | k + 1, x6, x19, x20, x21, x122000, x122001 => if x21 < x20 then (if 0 ≤ x21 then (if x21 < (x19.length : Int) then (undo_Restores.l0 k (Go.bits .or .i64 x6 (Go.bits .xor .i64 x21 (rd x19 x21))) x19 x20 (wrap64 (x21 + 1)) x122000 x122001) else (none)) else (none)) else (if 0 ≤ x122000 then (if (x122000 : Int).toNat ≤ 281474976710656 then ((some (List.replicate (x122000 : Int).toNat false : List Bool)).bind fun y127 => (undo_Restores.l1 k x6 y127 (y127.length : Int) 0)) else (none)) else (none))
def undo_Restores.l1 : Nat → Int → List Bool → Int → Int → Option (List Bool × Int)
 | 0, _, _, _, _ => none
 | k + 1, x6, x9, x36, x37 => if x37 < x36 then (if 0 ≤ x37 then (if x37 < (x9.length : Int) then (undo_Restores.l1 k x6 (x9.set (x37 : Int).toNat ((Go.bits .and .i64 (shr .i64 x6 x37) 1) == 0)) x36 (wrap64 (x37 + 1))) else (none)) else (none)) else (some (x9, 0))
end
def undo_Restores.f (k : Nat) (a0_0 : Int) (l0_1 : List (S67)) : Option (List Bool × Int) := (undo_Permutation.f k a0_0 l0_1).bind fun bt122 => (if bt122.2 = 0 then (undo_Restores.l0 k 0 bt122.1 (bt122.1.length : Int) 0 a0_0 l0_1) else (some (([] : List Bool), bt122.2)))
theorem undo_Restores.mono_l : ∀ k, (∀ y0 y1 y2 y3 y4 y5, LeO (undo_Restores.l0 k y0 y1 y2 y3 y4 y5) (undo_Restores.l0 (k + 1) y0 y1 y2 y3 y4 y5)) ∧ (∀ y0 y1 y2 y3, LeO (undo_Restores.l1 k y0 y1 y2 y3) (undo_Restores.l1 (k + 1) y0 y1 y2 y3))
 | 0 => ⟨fun _ _ _ _ _ _ r h => by simp [undo_Restores.l0] at h, fun _ _ _ _ r h => by simp [undo_Restores.l1] at h⟩
 | k + 1 => by
  obtain ⟨ih0, ih1⟩ := undo_Restores.mono_l k
  refine ⟨?_, ?_⟩
  ·intro y0 y1 y2 y3 y4 y5
   unfold undo_Restores.l0
   repeat' first
   | (with_reducible exact ih0 _ _ _ _ _ _)
   | (with_reducible exact ih1 _ _ _ _)
   | (with_reducible exact undo_Permutation.mono _ _ _)
   | (with_reducible exact LeO.refl _)
   | (with_reducible exact LeO.none _)
   | (with_reducible refine LeO.ite ?_ ?_)
   | (with_reducible refine LeO.bind ?_ (fun _ => ?_))
   | exact ih0 _ _ _ _ _ _
   | exact ih1 _ _ _ _
   | exact undo_Permutation.mono _ _ _
   | exact LeO.none _
   | refine LeO.ite ?_ ?_
   | refine LeO.bind ?_ (fun _ => ?_)
  ·intro y0 y1 y2 y3
   unfold undo_Restores.l1
   repeat' first
   | (with_reducible exact ih0 _ _ _ _ _ _)
   | (with_reducible exact ih1 _ _ _ _)
   | (with_reducible exact undo_Permutation.mono _ _ _)
   | (with_reducible exact LeO.refl _)
   | (with_reducible exact LeO.none _)
   | (with_reducible refine LeO.ite ?_ ?_)
   | (with_reducible refine LeO.bind ?_ (fun _ => ?_))
   | exact ih0 _ _ _ _ _ _
   | exact ih1 _ _ _ _
   | exact undo_Permutation.mono _ _ _
   | exact LeO.none _
   | refine LeO.ite ?_ ?_
   | refine LeO.bind ?_ (fun _ => ?_)
theorem undo_Restores.mono : ∀ a0 a1 k, LeO (undo_Restores.f k a0 a1) (undo_Restores.f (k + 1) a0 a1) := by
 intro a0 a1 k
 obtain ⟨ih0, ih1⟩ := undo_Restores.mono_l k
 unfold undo_Restores.f
 repeat' first
   | (with_reducible exact ih0 _ _ _ _ _ _)
   | (with_reducible exact ih1 _ _ _ _)
   | (with_reducible exact undo_Permutation.mono _ _ _)
   | (with_reducible exact LeO.refl _)
   | (with_reducible exact LeO.none _)
   | (with_reducible refine LeO.ite ?_ ?_)
   | (with_reducible refine LeO.bind ?_ (fun _ => ?_))
   | exact ih0 _ _ _ _ _ _
   | exact ih1 _ _ _ _
   | exact undo_Permutation.mono _ _ _
   | exact LeO.none _
   | refine LeO.ite ?_ ?_
   | refine LeO.bind ?_ (fun _ => ?_)

def api_RevOp_68.l0 : Nat → List (S67) → Int → Int → Option ((List (S67)))
 | 0, _, _, _ => none
 | k + 1, x0, x2, x3 => if x2 < x3 then (if 0 ≤ x3 then (if x3 < (x0.length : Int) then (if 0 ≤ x2 then (if x2 < (x0.length : Int) then (api_RevOp_68.l0 k ((x0.set (x2 : Int).toNat (⟨(rd_T67 x0 x3).f0, (rd_T67 x0 x3).f1, (rd_T67 x0 x3).f2, (rd_T67 x0 x3).f3⟩ : S67)).set (x3 : Int).toNat (⟨(rd_T67 x0 x2).f0, (rd_T67 x0 x2).f1, (rd_T67 x0 x2).f2, (rd_T67 x0 x2).f3⟩ : S67)) (wrap64 (x2 + 1)) (wrap64 (x3 - 1))) else (none)) else (none)) else (none)) else (none)) else (some x0)
def api_RevOp_68.f (k : Nat) (l0 : List (S67)) : Option ((List (S67))) := api_RevOp_68.l0 k l0 0 (wrap64 ((l0.length : Int) - 1))
theorem api_RevOp_68.mono_l : ∀ k, (∀ y0 y1 y2, LeO (api_RevOp_68.l0 k y0 y1 y2) (api_RevOp_68.l0 (k + 1) y0 y1 y2))
 | 0 => fun _ _ _ r h => by simp [api_RevOp_68.l0] at h
 | k + 1 => by
  have ih0 := api_RevOp_68.mono_l k
  ·intro y0 y1 y2
   unfold api_RevOp_68.l0
   repeat' first
   | (with_reducible exact ih0 _ _ _)
   | (with_reducible exact LeO.refl _)
   | (with_reducible exact LeO.none _)
   | (with_reducible refine LeO.ite ?_ ?_)
   | (with_reducible refine LeO.bind ?_ (fun _ => ?_))
   | exact ih0 _ _ _
   | exact LeO.none _
   | refine LeO.ite ?_ ?_
   | refine LeO.bind ?_ (fun _ => ?_)
theorem api_RevOp_68.mono : ∀ a0 k, LeO (api_RevOp_68.f k a0) (api_RevOp_68.f (k + 1) a0) := by
 intro a0 k
 have ih0 := api_RevOp_68.mono_l k
 unfold api_RevOp_68.f
 repeat' first
   | (with_reducible exact ih0 _ _ _)
   | (with_reducible exact LeO.refl _)
   | (with_reducible exact LeO.none _)
   | (with_reducible refine LeO.ite ?_ ?_)
   | (with_reducible refine LeO.bind ?_ (fun _ => ?_))
   | exact ih0 _ _ _
   | exact LeO.none _
   | refine LeO.ite ?_ ?_
   | refine LeO.bind ?_ (fun _ => ?_)
def undo_Inverse.f (k : Nat) (a0_0 : Int) (l0_1 : List (S67)) : Option (Int × (List (S67)) × Int) := (undo_Valid.f a0_0 l0_1).bind fun t137 => (if t137 = true then ((slices_Clone_ops.f l0_1).bind fun t138 => ((api_RevOp_68.f k t138).bind fun t141 => (some (a0_0, t141, 0)))) else (some (0, ([] : List (S67)), 1)))
theorem undo_Inverse.mono : ∀ a0 a1 k, LeO (undo_Inverse.f k a0 a1) (undo_Inverse.f (k + 1) a0 a1) := by
 intro a0 a1 k
 unfold undo_Inverse.f
 repeat' first
   | (with_reducible exact api_RevOp_68.mono _ _)
   | (with_reducible exact LeO.refl _)
   | (with_reducible exact LeO.none _)
   | (with_reducible refine LeO.ite ?_ ?_)
   | (with_reducible refine LeO.bind ?_ (fun _ => ?_))
   | exact api_RevOp_68.mono _ _
   | exact LeO.none _
   | refine LeO.ite ?_ ?_
   | refine LeO.bind ?_ (fun _ => ?_)
end Go.Proofs.YthfhnkpipdbekaaDoor.Ta
