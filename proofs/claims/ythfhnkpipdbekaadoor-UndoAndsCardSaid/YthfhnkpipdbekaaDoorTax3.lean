-- CUT by a program of this session: what the claim does not use is left out
import Derived.Test.YthfhnkpipdbekaaDoorUax0
import Derived.Test.YthfhnkpipdbekaaDoorProg
import Derived.Below
import Derived.Deep.Draws
import Derived.Deep.AppendLies
import Derived.Maps.AppendAt
import Derived.OwnWalk
import Derived.Laws.BytesArg
import Derived.Laws.MakeOwn
import Derived.Laws.OwnMore
import Derived.Deep.OwnRows
import Derived.Tactics
import Derived.Lib.ConvBytes
import Derived.Laws.Slices
import Derived.WalkKit
import Derived.KernelRfl
import Derived.RowKit3
import Derived.Deep.LoopGhost
import Derived.Deep.QuietTactic
import Derived.BigQuiet
import Derived.WideLaws
import Derived.Deep.DeepCutAuto
import Derived.Deep.CutBlock
import Derived.Deep.RegionHeld3
import Derived.Laws.Rows
import Derived.Lib.AppendStr
import Derived.ArgAppend
import Derived.Laws.IdiomCopy
import Derived.OrdersHeld
import Derived.Laws.BitsLemmas
import Derived.RowKit
import Derived.Test.YthfhnkpipdbekaaDoorN6
import Derived.Test.YthfhnkpipdbekaaDoorWAll
import Derived.Test.YthfhnkpipdbekaaDoorTax2
namespace Go.Proofs.YthfhnkpipdbekaaDoor.Ta
open Go.Proofs.YthfhnkpipdbekaaDoor.Ua
open Go.Proofs.YthfhnkpipdbekaaDoor.Giv
open Go.RowKit Go.Proofs.YthfhnkpipdbekaaDoorW.PrintWords Go.Proofs.YthfhnkpipdbekaaDoorW.PrintLast Go.Proofs.YthfhnkpipdbekaaDoorW.PrintMore
attribute [local go_sem] max2_int min2_int max_two min_two max_three min_three max_four min_four   -- for this text's walks alone
set_option linter.unusedVariables false
set_option linter.unusedSimpArgs false

def undo_Permutation.l0 : Nat → List Int → Int → Int → Int → List (S67) → Option (List Int × Int)
 | 0, _, _, _, _, _ => none
 | k + 1, x5, x17, x18, x115000, x115001 => if x18 < x17 then ((undo_final.f k x115001 x18).bind fun t119 => (if 0 ≤ x18 then (if x18 < (x5.length : Int) then (undo_Permutation.l0 k (x5.set (x18 : Int).toNat t119) x17 (wrap64 (x18 + 1)) x115000 x115001) else (none)) else (none))) else (some (x5, 0))
def undo_Permutation.f (k : Nat) (a0_0 : Int) (l0_1 : List (S67)) : Option (List Int × Int) := (undo_enumerable.f a0_0 l0_1).bind fun t115 => (if t115 = 0 then (if 0 ≤ a0_0 then (if 0 ≤ (shl .i64 1 a0_0) then (if (shl .i64 1 a0_0 : Int).toNat ≤ 35184372088832 then ((some (List.replicate (shl .i64 1 a0_0 : Int).toNat 0 : List Int)).bind fun y116 => (undo_Permutation.l0 k y116 (y116.length : Int) 0 a0_0 l0_1)) else (none)) else (none)) else (none)) else (some (([] : List Int), t115)))
theorem pSa3 {α : Type} : (∀ (l : List α) (i : Nat) (a : α), l.toArray.setIfInBounds i a = (l.set i a).toArray) ∧ (∀ (l : List α) (x y : α), (x :: l).set 0 y = y :: l) ∧ (∀ (l : List α) (x y : α) (n : Nat), (x :: l).set (n + 1) y = x :: l.set n y) :=
 ⟨fun _ _ _ => List.setIfInBounds_toArray .., fun _ _ _ => rfl, fun _ _ _ _ => rfl⟩
open Bool renaming true → T, false → F
open Go.Proofs.YthfhnkpipdbekaaDoorW.PrintWords renaming Kd.R_alloc → rA, Kd.R_drewN → rB, Kd.R_drew → rC, blk_drewN → bA, blk_drew → bB, blk_alloc → bC, below_set → sT, Aside0.mk → aM, pw_below_drewN → pD, below_drew1 → pE, below_alloc → pA, blk_below → bD, blk_cell → bE, blk_frozen → bF, below_step → pS_
abbrev z0a3 : Array Bool := #[F,F,F,F,F,F,F,F,F,F,F,F,F,F,F,F]
abbrev z1a3 : Array Bool := #[T,F,F,F,F,F,F,F,F,F,F,F,F,F,F,F]
abbrev z2a3 : Array Bool := #[T,T,F,F,F,F,F,F,F,F,F,F,F,F,F,F]
abbrev z3a3 : Array Bool := #[T,T,T,F,F,F,F,F,F,F,F,F,F,F,F,F]
abbrev z4a3 : Array Bool := #[T,T,T,T,F,F,F,F,F,F,F,F,F,F,F,F]
abbrev z5a3 : Array Bool := #[T,T,T,T,T,F,F,F,F,F,F,F,F,F,F,F]
abbrev z6a3 : Array Bool := #[T,T,T,T,T,T,F,F,F,F,F,F,F,F,F,F]
abbrev z7a3 : Array Bool := #[T,T,T,T,T,T,T,F,F,F,F,F,F,F,F,F]
abbrev z8a3 : Array Bool := #[T,T,T,T,T,T,T,F,T,F,F,F,F,F,F,F]
abbrev z9a3 : Array Bool := #[T,T,T,T,T,T,T,F,T,T,F,F,F,F,F,F]
abbrev z10a3 : Array Bool := #[T,T,T,T,T,T,T,F,T,T,T,F,F,F,F,F]
abbrev z11a3 : Array Bool := #[T,T,T,T,T,T,T,T,T,T,T,F,F,F,F,F]
abbrev z12a3 : Array Bool := #[T,T,T,T,T,T,T,T,T,T,T,T,F,F,F,F]
abbrev z13a3 : Array Bool := #[T,T,T,T,T,T,T,T,T,T,T,T,T,F,F,F]
abbrev z14a3 : Array Bool := #[T,T,T,T,T,T,T,T,T,T,T,T,T,T,F,F]
abbrev z15a3 : Array Bool := #[T,T,T,T,T,T,T,T,T,T,T,T,T,T,T,F]
abbrev z16a3 : Array Bool := #[T,T,T,T,T,T,T,T,T,T,T,T,T,T,T,T]
mutual
def undo_Restores.l0 : Nat → Int → List Int → Int → Int → Int → List (S67) → Option (List Bool × Int)
 | 0, _, _, _, _, _, _ => none
 | k + 1, x6, x19, x20, x21, x122000, x122001 => if x21 < x20 then (if 0 ≤ x21 then (if x21 < (x19.length : Int) then (undo_Restores.l0 k (Go.bits .or .i64 x6 (Go.bits .xor .i64 x21 (rd x19 x21))) x19 x20 (wrap64 (x21 + 1)) x122000 x122001) else (none)) else (none)) else (if 0 ≤ x122000 then (if (x122000 : Int).toNat ≤ 281474976710656 then ((some (List.replicate (x122000 : Int).toNat false : List Bool)).bind fun y127 => (undo_Restores.l1 k x6 y127 (y127.length : Int) 0)) else (none)) else (none))
def undo_Restores.l1 : Nat → Int → List Bool → Int → Int → Option (List Bool × Int)
 | 0, _, _, _, _ => none
 | k + 1, x6, x9, x36, x37 => if x37 < x36 then (if 0 ≤ x37 then (if x37 < (x9.length : Int) then (undo_Restores.l1 k x6 (x9.set (x37 : Int).toNat ((Go.bits .and .i64 (shr .i64 x6 x37) 1) == 0)) x36 (wrap64 (x37 + 1))) else (none)) else (none)) else (some (x9, 0))
end
def undo_Restores.f (k : Nat) (a0_0 : Int) (l0_1 : List (S67)) : Option (List Bool × Int) := (undo_Permutation.f k a0_0 l0_1).bind fun bt122 => (if bt122.2 = 0 then (undo_Restores.l0 k 0 bt122.1 (bt122.1.length : Int) 0 a0_0 l0_1) else (some (([] : List Bool), bt122.2)))

def api_RevOp_68.l0 : Nat → List (S67) → Int → Int → Option ((List (S67)))
 | 0, _, _, _ => none
 | k + 1, x0, x2, x3 => if x2 < x3 then (if 0 ≤ x3 then (if x3 < (x0.length : Int) then (if 0 ≤ x2 then (if x2 < (x0.length : Int) then (api_RevOp_68.l0 k ((x0.set (x2 : Int).toNat (⟨(rd_T67 x0 x3).f0, (rd_T67 x0 x3).f1, (rd_T67 x0 x3).f2, (rd_T67 x0 x3).f3⟩ : S67)).set (x3 : Int).toNat (⟨(rd_T67 x0 x2).f0, (rd_T67 x0 x2).f1, (rd_T67 x0 x2).f2, (rd_T67 x0 x2).f3⟩ : S67)) (wrap64 (x2 + 1)) (wrap64 (x3 - 1))) else (none)) else (none)) else (none)) else (none)) else (some x0)
def api_RevOp_68.f (k : Nat) (l0 : List (S67)) : Option ((List (S67))) := api_RevOp_68.l0 k l0 0 (wrap64 ((l0.length : Int) - 1))
def api_RevOp_68.T3 : Bool × List (List Nat × List Nat) := (true, [([], []), ([], []), ([], []), ([], []), ([], []), ([], []), ([4, 5], [4, 5]), ([6], [6]), ([], []), ([], []), ([8, 9], [8, 9]), ([10], [10]), ([0, 1, 0, 1, 4, 5, 6, 7, 11], [0, 1]), ([12, 7, 0, 1, 4, 5, 6, 7, 11], [7, 12]), ([2, 3, 0, 1, 2, 3, 4, 5, 6, 7, 8, 9, 10, 11, 12, 13], [2, 3]), ([14, 11, 13, 0, 1, 2, 3, 4, 5, 6, 7, 8, 9, 10, 11, 12, 13], [11, 14])])
def api_RevOp_68.B3 : List Nat := [0, 0, 0, 0, 0, 0, 48, 112, 0, 0, 768, 1792, 4083, 8179, 16383, 32767]
theorem api_RevOp_68.tab3 : rtab .any (opsOf Tryd.f68 3) = api_RevOp_68.T3 := by kernel_rfl
theorem api_RevOp_68.bits3 : waitsOk api_RevOp_68.T3.2 api_RevOp_68.B3 = true := by kernel_rfl
set_option maxHeartbeats 8000000 in
set_option maxRecDepth 100000 in
theorem api_RevOp_68.calls (k : Nat) (P0_ : Nat → Prop) (u9000_ : Value) (l0 : List (S67)) (r : List (S67)) (w0 w : World) (hB : Below w0.heap.size w0 w) (ho0 : Kd.R k67 67 w w0.heap.size P0_ u9000_ l0) (h : api_RevOp_68.f k l0 = some r) :
  Calls Tryd.prog 68 #[u9000_] w fun e w' => e = .returned (.tuple #[]) ∧ Kd.R k67 67 w' w0.heap.size (fun k_ => (P0_ k_ ∨ w.heap.size ≤ k_)) u9000_ r ∧ Below w0.heap.size w0 w' ∧ Kept w w' (fun k_ => P0_ k_) := by
 have hu67 := Tryd.underlying67
 have HO0 := aM (show Kd.R k67 67 w w0.heap.size (fun k_ => (P0_ k_ ∨ w.heap.size ≤ k_)) u9000_ l0 from Kd.R_mono ho0 (fun k_ hk => (.inl hk)))
 have HK := aM (Kept.refl w (fun k_ => P0_ k_))
 have HW0 := aM hB.size
 have HB := aM hB
 clear hB
 have H : (api_RevOp_68.l0 k l0 0 (wrap64 ((l0.length : Int) - 1))) = some r := h
 clear h
 have H' := aM H
 clear H
 obtain ⟨Ao2, co2, eo2⟩ := Kd.R_slice HO0.out
 subst eo2
 go_enter Tryd.func68, Tryd.ntmps68
 go_wp2
 go_loopg [2, 3] k (fun kq v2 v3 w' => ∃ (x0_1 : List (S67)) (x2_1 : Int) (x3_1 : Int), v2 = .int .i64 x2_1 ∧ v3 = .int .i64 x3_1 ∧ Aside0 (api_RevOp_68.l0 kq x0_1 x2_1 x3_1 = some r) ∧ Aside0 (kq ≤ k) ∧ Aside0 (Kd.R k67 67 w' w0.heap.size (fun k_ => (P0_ k_ ∨ w.heap.size ≤ k_)) (.slice Ao2 l0.length co2) x0_1) ∧ Aside0 (Kept w w' (fun k_ => P0_ k_)) ∧ Aside0 (Below w0.heap.size w0 w'))
 case atStart => exact ⟨(l0), (0), (wrap64 ((l0.length : Int) - 1)), (by first | rfl | (simp; done) | (simp [*]; done)), (by first | rfl | (simp; done) | (simp [*]; done)), H', ⟨Nat.le_refl _⟩, ⟨by (with_reducible repeat (first | apply rA | apply rB | apply rC)); exact HO0.out⟩, ⟨by repeat (first | (with_reducible first | exact HK.out | apply Kept.alloc | apply Kept.drewN | apply Kept.drew) | exact HK.out)⟩, ⟨by repeat (first | (with_reducible first | exact HB.out | apply pA | apply pD | apply pE) | exact HB.out)⟩⟩
 case round =>
  clear H'
  try clear p2
  obtain ⟨x0_1, x2_1, x3_1, rfl, rfl, HA, HK1, HO_0, HK, HB⟩ := hrel
  have hl0_1 := (Kd.R_reads' HO_0.out).1
  rw [hl0_1] at HO_0
  (try simp only [hl0_1])
  cases gk with
  | zero => exact absurd HA.out (by simp [api_RevOp_68.l0])
  | succ k1 =>
   have H := HA.out
   clear HA
   simp only [api_RevOp_68.l0] at H
   by_cases c3 : x2_1 < x3_1
   ·rw [if_pos c3] at H
    have c3b0 : decide (x2_1 < x3_1) = true := decide_eq_true c3
    clear c3
    (try (have c3b0h := c3b0; simp only [hl0_1] at c3b0h))
    by_cases c4 : 0 ≤ x3_1
    ·rw [if_pos c4] at H
     have c4b0 : decide (0 ≤ x3_1) = true := decide_eq_true c4
     clear c4
     (try (have c4b0h := c4b0; simp only [hl0_1] at c4b0h))
     by_cases c5 : x3_1 < (x0_1.length : Int)
     ·rw [if_pos c5] at H
      have c5b0 : decide (x3_1 < (x0_1.length : Int)) = true := decide_eq_true c5
      clear c5
      (try (have c5b0h := c5b0; simp only [hl0_1] at c5b0h))
      by_cases c6 : 0 ≤ x2_1
      ·rw [if_pos c6] at H
       have c6b0 : decide (0 ≤ x2_1) = true := decide_eq_true c6
       clear c6
       (try (have c6b0h := c6b0; simp only [hl0_1] at c6b0h))
       by_cases c7 : x2_1 < (x0_1.length : Int)
       ·rw [if_pos c7] at H
        have c7b0 : decide (x2_1 < (x0_1.length : Int)) = true := decide_eq_true c7
        clear c7
        (try (have c7b0h := c7b0; simp only [hl0_1] at c7b0h))
        obtain ⟨y133, hy133⟩ : ∃ y_ : List (S67), y_ = (x0_1.set (x2_1 : Int).toNat (⟨(rd_T67 x0_1 x3_1).f0, (rd_T67 x0_1 x3_1).f1, (rd_T67 x0_1 x3_1).f2, (rd_T67 x0_1 x3_1).f3⟩ : S67)) := ⟨_, rfl⟩
        replace H : (api_RevOp_68.l0 k1 (y133.set (x3_1 : Int).toNat (⟨(rd_T67 x0_1 x2_1).f0, (rd_T67 x0_1 x2_1).f1, (rd_T67 x0_1 x2_1).f2, (rd_T67 x0_1 x2_1).f3⟩ : S67)) (wrap64 (x2_1 + 1)) (wrap64 (x3_1 - 1))) = some r := by first | (rw [hy133]; with_reducible exact H) | (have H2_ := (Option.bind_some _ _).symm.trans H; rw [hy133]; with_reducible exact H2_) | (have H2_ := (Option.bind_some _ _).symm.trans H; with_reducible exact H2_) | with_reducible exact H | (rw [hy133]; exact H) | exact H
        have Ny133 := aM hy133
        clear hy133
        obtain ⟨y134, hy134⟩ : ∃ y_ : List (S67), y_ = (y133.set (x3_1 : Int).toNat (⟨(rd_T67 x0_1 x2_1).f0, (rd_T67 x0_1 x2_1).f1, (rd_T67 x0_1 x2_1).f2, (rd_T67 x0_1 x2_1).f3⟩ : S67)) := ⟨_, rfl⟩
        replace H : (api_RevOp_68.l0 k1 y134 (wrap64 (x2_1 + 1)) (wrap64 (x3_1 - 1))) = some r := by first | (rw [hy134]; with_reducible exact H) | (have H2_ := (Option.bind_some _ _).symm.trans H; rw [hy134]; with_reducible exact H2_) | (have H2_ := (Option.bind_some _ _).symm.trans H; with_reducible exact H2_) | with_reducible exact H | (rw [hy134]; exact H) | exact H
        have Ny134 := aM hy134
        clear hy134
        have H' := aM H
        clear H
        try go_wp2
        replace HO_0 := aM (rC HO_0.out)
        replace HK := aM (Kept.drew HK.out)
        replace HB := aM (pE HB.out)
        have p131 : 0 ≤ (x3_1 : Int) := of_decide_eq_true (by assumption)
        have q131 : x3_1 < (x0_1.length : Int) := of_decide_eq_true (by assumption)
        obtain ⟨ad131, e131, hx131_0, hx131_1, hx131_2, hx131_3⟩ := at_T67 (Kd.R_reads' HO_0.out).2.2 x3_1 p131 q131
        cases e131
        replace p131 := eq_true p131
        replace q131 := eq_true q131
        have p132 : 0 ≤ (x2_1 : Int) := of_decide_eq_true (by assumption)
        have q132 : x2_1 < (x0_1.length : Int) := of_decide_eq_true (by assumption)
        obtain ⟨ad132, e132, hx132_0, hx132_1, hx132_2, hx132_3⟩ := at_T67 (Kd.R_reads' HO_0.out).2.2 x2_1 p132 q132
        obtain rfl : ad131 = ad132 := (by injection e132)
        replace p132 := eq_true p132
        replace q132 := eq_true q132
        have p8 : 0 ≤ (x2_1 : Int) := of_decide_eq_true (by assumption)
        have q8 : (x2_1 : Int) < ((x0_1.length : Int) : Int) := of_decide_eq_true (by assumption)
        obtain ⟨go8, co8, eo8, gb8, gl8, cl8, HG8⟩ := Kd.R_form HO_0.out (by omega)
        (first | cases eo8 | (injection eo8 with ea_ en_ ec_; (first | subst ea_ | (injection ea_ with ea_; subst ea_)); subst ec_; clear en_))
        have GB8 := aM gb8
        have GG8 := aM HG8
        clear gb8 gl8 HG8
        have HMgo8 := aM (show (P0_ go8 ∨ w.heap.size ≤ go8) from (HO_0.out.1 _ rfl))
        (first | simp only [add_plain] at hx131_0 | skip)
        (first | simp only [add_plain] at hx131_1 | skip)
        (first | simp only [add_plain] at hx131_2 | skip)
        (first | simp only [add_plain] at hx131_3 | skip)
        (first | simp only [add_plain] at hx132_0 | skip)
        (first | simp only [add_plain] at hx132_1 | skip)
        (first | simp only [add_plain] at hx132_2 | skip)
        (first | simp only [add_plain] at hx132_3 | skip)
        obtain ⟨ce8, hcl8, hM8, hcc8, hfr8⟩ := Kd.R_elem HO_0.out z67 (x2_1 : Int) p8 q8
        obtain rfl := k67_openM hM8
        have hx8_0 : World.cell? _ ⟨go8, (x2_1 : Int).toNat * 4, none⟩ = some (.int .i64 ((rd_T67 x0_1 x2_1).f0)) := hcc8 0 _ rfl
        have hx8_1 : World.cell? _ ⟨go8, (x2_1 : Int).toNat * 4 + 1, none⟩ = some (.int .i64 ((rd_T67 x0_1 x2_1).f1)) := hcc8 1 _ rfl
        have hx8_2 : World.cell? _ ⟨go8, (x2_1 : Int).toNat * 4 + 2, none⟩ = some (.int .i64 ((rd_T67 x0_1 x2_1).f2)) := hcc8 2 _ rfl
        have hx8_3 : World.cell? _ ⟨go8, (x2_1 : Int).toNat * 4 + 3, none⟩ = some (.int .i64 ((rd_T67 x0_1 x2_1).f3)) := hcc8 3 _ rfl
        have hf8_0 : World.frozen? _ ⟨go8, (x2_1 : Int).toNat * 4, none⟩ = false := hfr8 0
        have hf8_1 : World.frozen? _ ⟨go8, (x2_1 : Int).toNat * 4 + 1, none⟩ = false := hfr8 1
        have hf8_2 : World.frozen? _ ⟨go8, (x2_1 : Int).toNat * 4 + 2, none⟩ = false := hfr8 2
        have hf8_3 : World.frozen? _ ⟨go8, (x2_1 : Int).toNat * 4 + 3, none⟩ = false := hfr8 3
        clear hcl8 hcc8 hfr8 hM8
        replace p8 := eq_true p8
        replace q8 := eq_true q8
        obtain ⟨ce11, hcl11, hM11, hcc11, hfr11⟩ := Kd.R_elem HO_0.out z67 (x2_1 : Int) (of_decide_eq_true (by assumption)) (by have h_ : (x2_1 : Int) < ((x0_1.length : Int) : Int) := of_decide_eq_true (by assumption); first | exact h_ | (have e_ := (Kd.R_reads' HO_0.out).1; omega) | simpa using h_)
        obtain rfl := k67_openM hM11
        have HP11 := (Kd.R_seg HO_0.out (x2_1 : Int) (of_decide_eq_true (by assumption)) (by have h_ : (x2_1 : Int) < ((x0_1.length : Int) : Int) := of_decide_eq_true (by assumption); first | exact h_ | (have e_ := (Kd.R_reads' HO_0.out).1; omega) | simpa using h_) (seg := [.int .i64 ((rd_T67 x0_1 x3_1).f0), .int .i64 ((rd_T67 x0_1 x3_1).f1), .int .i64 ((rd_T67 x0_1 x3_1).f2), .int .i64 ((rd_T67 x0_1 x3_1).f3)]) (j := 0) hcl11 hcc11 (show 4 ≤ 4 from by decide) (x' := (⟨(rd_T67 x0_1 x3_1).f0, (rd_T67 x0_1 x3_1).f1, (rd_T67 x0_1 x3_1).f2, (rd_T67 x0_1 x3_1).f3⟩ : S67)) (k67_mkM _ _ _ (⟨(rd_T67 x0_1 x3_1).f0, (rd_T67 x0_1 x3_1).f1, (rd_T67 x0_1 x3_1).f2, (rd_T67 x0_1 x3_1).f3⟩ : S67) ) (fun _ hk => hk)).1
        rw [← Ny133.out] at HP11
        have HQ11 := aM HP11
        clear hcl11 hcc11 hfr11 hM11 HP11
        have p9 : 0 ≤ (x3_1 : Int) := of_decide_eq_true (by assumption)
        have q9 : (x3_1 : Int) < ((x0_1.length : Int) : Int) := of_decide_eq_true (by assumption)
        obtain ⟨ce9, hcl9, hM9, hcc9, hfr9⟩ := Kd.R_elem HQ11.out z67 (x3_1 : Int) p9 q9
        obtain rfl := k67_openM hM9
        have hx9_0 : World.cell? _ ⟨go8, (x3_1 : Int).toNat * 4, none⟩ = some (.int .i64 ((rd_T67 y133 x3_1).f0)) := hcc9 0 _ rfl
        have hx9_1 : World.cell? _ ⟨go8, (x3_1 : Int).toNat * 4 + 1, none⟩ = some (.int .i64 ((rd_T67 y133 x3_1).f1)) := hcc9 1 _ rfl
        have hx9_2 : World.cell? _ ⟨go8, (x3_1 : Int).toNat * 4 + 2, none⟩ = some (.int .i64 ((rd_T67 y133 x3_1).f2)) := hcc9 2 _ rfl
        have hx9_3 : World.cell? _ ⟨go8, (x3_1 : Int).toNat * 4 + 3, none⟩ = some (.int .i64 ((rd_T67 y133 x3_1).f3)) := hcc9 3 _ rfl
        have hf9_0 : World.frozen? _ ⟨go8, (x3_1 : Int).toNat * 4, none⟩ = false := hfr9 0
        have hf9_1 : World.frozen? _ ⟨go8, (x3_1 : Int).toNat * 4 + 1, none⟩ = false := hfr9 1
        have hf9_2 : World.frozen? _ ⟨go8, (x3_1 : Int).toNat * 4 + 2, none⟩ = false := hfr9 2
        have hf9_3 : World.frozen? _ ⟨go8, (x3_1 : Int).toNat * 4 + 3, none⟩ = false := hfr9 3
        clear hcl9 hcc9 hfr9 hM9
        replace p9 := eq_true p9
        replace q9 := eq_true q9
        obtain ⟨ce12, hcl12, hM12, hcc12, hfr12⟩ := Kd.R_elem HQ11.out z67 (x3_1 : Int) (of_decide_eq_true (by assumption)) (by have h_ : (x3_1 : Int) < ((x0_1.length : Int) : Int) := of_decide_eq_true (by assumption); first | exact h_ | (have e_ := (Kd.R_reads' HO_0.out).1; omega) | simpa using h_)
        obtain rfl := k67_openM hM12
        have HP12 := (Kd.R_seg HQ11.out (x3_1 : Int) (of_decide_eq_true (by assumption)) (by have h_ : (x3_1 : Int) < ((x0_1.length : Int) : Int) := of_decide_eq_true (by assumption); first | exact h_ | (have e_ := (Kd.R_reads' HO_0.out).1; omega) | simpa using h_) (seg := [.int .i64 ((rd_T67 x0_1 x2_1).f0), .int .i64 ((rd_T67 x0_1 x2_1).f1), .int .i64 ((rd_T67 x0_1 x2_1).f2), .int .i64 ((rd_T67 x0_1 x2_1).f3)]) (j := 0) hcl12 hcc12 (show 4 ≤ 4 from by decide) (x' := (⟨(rd_T67 x0_1 x2_1).f0, (rd_T67 x0_1 x2_1).f1, (rd_T67 x0_1 x2_1).f2, (rd_T67 x0_1 x2_1).f3⟩ : S67)) (k67_mkM _ _ _ (⟨(rd_T67 x0_1 x2_1).f0, (rd_T67 x0_1 x2_1).f1, (rd_T67 x0_1 x2_1).f2, (rd_T67 x0_1 x2_1).f3⟩ : S67) ) (fun _ hk => hk)).1
        rw [← Ny134.out] at HP12
        have HQ12 := aM HP12
        clear hcl12 hcc12 hfr12 hM12 HP12
        refine start_ (n := 16) (S := fun w' => w'.cell? ⟨go8, ((x3_1).toNat * 4), none⟩ = some (.int .i64 ((rd_T67 x0_1 x3_1).f0)) ∧ w'.cell? ⟨go8, ((x3_1).toNat * 4) + 1, none⟩ = some (.int .i64 ((rd_T67 x0_1 x3_1).f1)) ∧ w'.cell? ⟨go8, ((x3_1).toNat * 4) + 2, none⟩ = some (.int .i64 ((rd_T67 x0_1 x3_1).f2)) ∧ w'.cell? ⟨go8, ((x3_1).toNat * 4) + 3, none⟩ = some (.int .i64 ((rd_T67 x0_1 x3_1).f3)) ∧ w'.cell? ⟨go8, ((x2_1).toNat * 4), none⟩ = some (.int .i64 ((rd_T67 x0_1 x2_1).f0)) ∧ w'.cell? ⟨go8, ((x2_1).toNat * 4) + 1, none⟩ = some (.int .i64 ((rd_T67 x0_1 x2_1).f1)) ∧ w'.cell? ⟨go8, ((x2_1).toNat * 4) + 2, none⟩ = some (.int .i64 ((rd_T67 x0_1 x2_1).f2)) ∧ w'.cell? ⟨go8, ((x2_1).toNat * 4) + 3, none⟩ = some (.int .i64 ((rd_T67 x0_1 x2_1).f3))) (ds := [13, 15]) z0a3 (by kernel_rfl) rfl rfl ⟨hx131_0, hx131_1, hx131_2, hx131_3, hx132_0, hx132_1, hx132_2, hx132_3⟩ (fun hHeld => ?_); refine with_tabW api_RevOp_68.tab3 api_RevOp_68.bits3 (fun HT_ HW_ => ?_)
        generalize wr.drew = w10 at HO_0 HK HB GG8 HQ11 HQ12 hf8_0 hf8_1 hf8_2 hf8_3 hf9_0 hf9_1 hf9_2 hf9_3 hx131_0 hx131_1 hx131_2 hx131_3 hx132_0 hx132_1 hx132_2 hx132_3 hx8_0 hx8_1 hx8_2 hx8_3 hx9_0 hx9_1 hx9_2 hx9_3 hHeld ⊢
        refine pure_ (i := 0) (N := some 14) (v := ?_) (a' := ?_) z1a3 rfl rfl (any_of HT_.out (by kernel_rfl)) (fun _ _ _ h => h) (Or.inl ⟨by rfl, ?_⟩) ?_ ?_; rotate_left; (intro w'; go_simp; with_reducible rfl); rotate_left; (simp only [Act.put, pSa3, i64_w]; rfl)
        refine pure_ (i := 1) (N := some 15) (v := ?_) (a' := ?_) z2a3 rfl rfl (any_of HT_.out (by kernel_rfl)) (fun _ _ _ h => h) (Or.inl ⟨by rfl, ?_⟩) ?_ ?_; rotate_left; (intro w'; go_simp; with_reducible rfl); rotate_left; (simp only [Act.put, pSa3, i64_w]; rfl)
        refine pure_ (i := 2) (N := some 16) (v := ?_) (a' := ?_) z3a3 rfl rfl (any_of HT_.out (by kernel_rfl)) (fun _ _ _ h => h) (Or.inl ⟨by rfl, ?_⟩) ?_ ?_; rotate_left; (intro w'; go_simp; with_reducible rfl); rotate_left; (simp only [Act.put, pSa3, i64_w]; rfl)
        refine pure_ (i := 3) (N := some 17) (v := ?_) (a' := ?_) z4a3 rfl rfl (any_of HT_.out (by kernel_rfl)) (fun _ _ _ h => h) (Or.inl ⟨by rfl, ?_⟩) ?_ ?_; rotate_left; (intro w'; go_simp; with_reducible rfl); rotate_left; (simp only [Act.put, pSa3, i64_w]; rfl)
        refine pure_ (i := 4) (N := some 18) (v := ?_) (a' := ?_) z5a3 rfl rfl (any_of HT_.out (by kernel_rfl)) (fun _ _ _ h => h) (Or.inl ⟨by rfl, ?_⟩) ?_ ?_; rotate_left; (intro w'; go_simp; with_reducible rfl); rotate_left; (simp only [Act.put, pSa3, i64_w]; rfl)
        refine pure_ (i := 5) (N := some 19) (v := ?_) (a' := ?_) z6a3 rfl rfl (any_of HT_.out (by kernel_rfl)) (fun _ _ _ h => h) (Or.inl ⟨by rfl, ?_⟩) ?_ ?_; rotate_left; (intro w'; go_simp; with_reducible rfl); rotate_left; (simp only [Act.put, pSa3, i64_w]; rfl)
        refine pure_ (i := 6) (N := some 20) (v := ?_) (a' := ?_) z7a3 rfl rfl (any_of HT_.out (by kernel_rfl)) (fun _ _ _ h => h) (Or.inl ⟨by rfl, ?_⟩) ?_ ?_; rotate_left; (intro w'; go_simp; with_reducible rfl); rotate_left; (simp only [Act.put, pSa3, i64_w]; rfl)
        refine pure_ (i := 8) (N := some 22) (v := ?_) (a' := ?_) z8a3 rfl rfl (any_of HT_.out (by kernel_rfl)) (fun _ _ _ h => h) (Or.inl ⟨by rfl, ?_⟩) ?_ ?_; rotate_left; (intro w'; go_simp; with_reducible rfl); rotate_left; (simp only [Act.put, pSa3, i64_w]; rfl)
        refine pure_ (i := 9) (N := some 23) (v := ?_) (a' := ?_) z9a3 rfl rfl (any_of HT_.out (by kernel_rfl)) (fun _ _ _ h => h) (Or.inl ⟨by rfl, ?_⟩) ?_ ?_; rotate_left; (intro w'; go_simp; with_reducible rfl); rotate_left; (simp only [Act.put, pSa3, i64_w]; rfl)
        refine pure_ (i := 10) (N := some 24) (v := ?_) (a' := ?_) z10a3 rfl rfl (any_of HT_.out (by kernel_rfl)) (fun _ _ _ h => h) (Or.inl ⟨by rfl, ?_⟩) ?_ ?_; rotate_left; (intro w'; go_simp; with_reducible rfl); rotate_left; (simp only [Act.put, pSa3, i64_w]; rfl)
        refine take_ (i := 7) (N := some 21) (v := ?_) (a' := ?_) z11a3 rfl rfl (take_ofW HT_.out HW_.out (by kernel_rfl)) (fun _ _ _ h => h) (Or.inl ⟨by rfl, ?_⟩) hHeld ?_ ?_; rotate_left; (rintro w' ⟨s0, s1, s2, s3, s4, s5, s6, s7⟩; go_simp; with_reducible rfl); rotate_left; (simp only [Act.put, pSa3, i64_w]; rfl)
        refine take_ (i := 11) (N := some 25) (v := ?_) (a' := ?_) z12a3 rfl rfl (take_ofW HT_.out HW_.out (by kernel_rfl)) (fun _ _ _ h => h) (Or.inl ⟨by rfl, ?_⟩) hHeld ?_ ?_; rotate_left; (rintro w' ⟨s0, s1, s2, s3, s4, s5, s6, s7⟩; go_simp; with_reducible rfl); rotate_left; (simp only [Act.put, pSa3, i64_w]; rfl)
        refine pure_ (i := 12) (N := some 26) (v := ?_) (a' := ?_) z13a3 rfl rfl (any_of HT_.out (by kernel_rfl)) (fun _ _ _ h => h) (Or.inl ⟨by rfl, ?_⟩) ?_ ?_; rotate_left; (intro w'; go_simp; with_reducible rfl); rotate_left; (simp only [Act.put, pSa3, i64_w]; rfl)
        refine last_ (i := 13) (N := none) z14a3 rfl rfl (one_of HT_.out (by kernel_rfl)) (by decide) (fun K hK => ?_)
        refine skip_ (w1 := ?_) (by rfl) rfl ?_ ?_
        rotate_left
        ·go_simp
         rfl
        refine hK.out _ _ ?_
        clear hK K
        obtain ⟨W1, hW1⟩ : ∃ W1, W1 = ((((w10.setCell ⟨go8, x2_1.toNat * 4, none⟩ (.int .i64 (rd_T67 x0_1 x3_1).f0)).setCell ⟨go8, x2_1.toNat * 4 + 1, none⟩ (.int .i64 (rd_T67 x0_1 x3_1).f1)).setCell ⟨go8, x2_1.toNat * 4 + 2, none⟩ (.int .i64 (rd_T67 x0_1 x3_1).f2)).setCell ⟨go8, x2_1.toNat * 4 + 3, none⟩ (.int .i64 (rd_T67 x0_1 x3_1).f3)) := ⟨_, rfl⟩
        have gx0 : W1.cell? ⟨go8, x3_1.toNat * 4, none⟩ = some (.int .i64 (rd_T67 y133 x3_1).f0) := by rw [hW1]; exact hx9_0
        have gf0 : W1.frozen? ⟨go8, x3_1.toNat * 4, none⟩ = false := by rw [hW1]; exact hf9_0
        have gx1 : W1.cell? ⟨go8, x3_1.toNat * 4 + 1, none⟩ = some (.int .i64 (rd_T67 y133 x3_1).f1) := by rw [hW1]; exact hx9_1
        have gf1 : W1.frozen? ⟨go8, x3_1.toNat * 4 + 1, none⟩ = false := by rw [hW1]; exact hf9_1
        have gx2 : W1.cell? ⟨go8, x3_1.toNat * 4 + 2, none⟩ = some (.int .i64 (rd_T67 y133 x3_1).f2) := by rw [hW1]; exact hx9_2
        have gf2 : W1.frozen? ⟨go8, x3_1.toNat * 4 + 2, none⟩ = false := by rw [hW1]; exact hf9_2
        have gx3 : W1.cell? ⟨go8, x3_1.toNat * 4 + 3, none⟩ = some (.int .i64 (rd_T67 y133 x3_1).f3) := by rw [hW1]; exact hx9_3
        have gf3 : W1.frozen? ⟨go8, x3_1.toNat * 4 + 3, none⟩ = false := by rw [hW1]; exact hf9_3
        clear hx9_0 hf9_0 hx9_1 hf9_1 hx9_2 hf9_2 hx9_3 hf9_3
        rw [← hW1]
        (try rw [← hW1] at HQ12)
        have HW1 := aM hW1
        clear hW1
        refine pure_ (i := 14) (N := some 27) (v := ?_) (a' := ?_) z15a3 rfl rfl (any_of HT_.out (by kernel_rfl)) (fun _ _ _ h => h) (Or.inl ⟨by rfl, ?_⟩) ?_ ?_; rotate_left; (intro w'; go_simp; with_reducible rfl); rotate_left; (simp only [Act.put, pSa3, i64_w]; rfl)
        refine last_ (i := 15) (N := none) z16a3 rfl rfl (one_of HT_.out (by kernel_rfl)) (by decide) (fun K hK => ?_)
        refine skip_ (w1 := ?_) (by rfl) rfl ?_ ?_
        rotate_left
        ·go_simp
         rfl
        refine hK.out _ _ ?_
        clear hK K
        refine done_ (done_of HT_.out (by kernel_rfl)) ?_
        try go_wp2
        (try simp only [← hl0_1])
        have hW1 := HW1.out
        subst hW1
        go_roundg k1
        case measure => have := HK1.out; omega
        case rel => exact ⟨(y134), (wrap64 (x2_1 + 1)), (wrap64 (x3_1 - 1)), (by first | rfl | (simp; done) | (simp [*]; done)), (by first | rfl | (simp; done) | (simp [*]; done)), H', ⟨by have := HK1.out; omega⟩, ⟨by (try simp only [hl0_1]); (with_reducible repeat (first | apply rA | apply rB | apply rC)); exact HQ12.out⟩, ⟨by repeat (first | (with_reducible first | exact HK.out | apply Kept.alloc | apply Kept.drewN | apply Kept.drew | refine Kept.setCell ?_ HMgo8.out _ | refine Kept.setCell ?_ HMgo8.out _ | refine Kept.setCell ?_ HMgo8.out _ | refine Kept.setCell ?_ HMgo8.out _ | refine Kept.setCell ?_ HMgo8.out _ | refine Kept.setCell ?_ HMgo8.out _ | refine Kept.setCell ?_ HMgo8.out _ | refine Kept.setCell ?_ HMgo8.out _) | exact HK.out)⟩, ⟨by repeat (first | (with_reducible first | exact HB.out | apply pA | apply pD | apply pE | refine sT ?_ GB8.out | refine sT ?_ GB8.out | refine sT ?_ GB8.out | refine sT ?_ GB8.out | refine sT ?_ GB8.out | refine sT ?_ GB8.out | refine sT ?_ GB8.out | refine sT ?_ GB8.out) | exact HB.out)⟩⟩
       ·rw [if_neg c7] at H
        exact absurd H (by simp)
      ·rw [if_neg c6] at H
       exact absurd H (by simp)
     ·rw [if_neg c5] at H
      exact absurd H (by simp)
    ·rw [if_neg c4] at H
     exact absurd H (by simp)
   ·rw [if_neg c3] at H
    have c3b0 : decide (x2_1 < x3_1) = false := decide_eq_false c3
    clear c3
    (try (have c3b0h := c3b0; simp only [hl0_1] at c3b0h))
    obtain rfl := Option.some.inj H
    go_wp2
    first | go_end0 | ((try simp only [Exit.inBlock, Exit.then]); refine bodyPost_ret (results_none rfl _ _ _) rfl ?_)
    exact ⟨by first | rfl | (simp [errW_none, errW_some] <;> rfl) | (simp [*, errW_none, errW_some] <;> rfl), (by first | exact (by (with_reducible repeat (first | apply rA | apply rB | apply rC)); exact HO_0.out) | (simp only [hl0_1]; exact (by (with_reducible repeat (first | apply rA | apply rB | apply rC)); exact HO_0.out))), by repeat (first | (with_reducible first | exact HB.out | apply pA | apply pD | apply pE) | exact HB.out), by repeat (first | (with_reducible first | exact HK.out | apply Kept.alloc | apply Kept.drewN | apply Kept.drew) | exact HK.out)⟩

def undo_Inverse.f (k : Nat) (a0_0 : Int) (l0_1 : List (S67)) : Option (Int × (List (S67)) × Int) := (undo_Valid.f a0_0 l0_1).bind fun t137 => (if t137 = true then ((slices_Clone_ops.f l0_1).bind fun t138 => ((api_RevOp_68.f k t138).bind fun t141 => (some (a0_0, t141, 0)))) else (some (0, ([] : List (S67)), 1)))
end Go.Proofs.YthfhnkpipdbekaaDoor.Ta
