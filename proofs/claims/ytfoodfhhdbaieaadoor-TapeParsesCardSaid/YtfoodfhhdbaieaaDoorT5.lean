-- CUT by a program of this session: what the claim does not use is left out
import Derived.Test.YtfoodfhhdbaieaaDoorT1
import Derived.Shelf.Abstract
import Derived.Lib.SliceRun
import Derived.Lib.Walk
namespace Go.Proofs.YtfoodfhhdbaieaaDoor.Giv
set_option maxRecDepth 100000
set_option linter.unusedVariables false
set_option linter.unusedSimpArgs false
open Go.RowKit Go.Shelf Go.Proofs.YtfoodfhhdbaieaaDoorW.PrintWords Go.Proofs.YtfoodfhhdbaieaaDoorW.PrintLast Go.Proofs.YtfoodfhhdbaieaaDoorW.PrintMore
open Go.Proofs.YtfoodfhhdbaieaaDoor.Ka (S40 k40 z40 rd_T40 at_T40 k40_open k40_mk rd_L1 at_L1 info3 info38 info40)

set_option maxHeartbeats 2000000 in
theorem clone_calls (A : Option Addr) (c : Nat) (l : List Int) (w : World) (hC : Kd.C (Kd.int .i64) w A l.length l) (hb : l.length ≤ 1000000) :
  Calls Tryd.prog 49 #[.slice A l.length c] w fun e w' => ∃ v', e = .returned v' ∧ w'.ownsRow w.heap.size 3 1 v' l.length (l.map (Value.int .i64)) ∧ Below w.heap.size w w' := by
 have HC := Aside0.mk hC
 have HB := Aside0.mk hb
 clear hC hb
 obtain ⟨i0, hi, hz0, hz1, hz2⟩ := info_parts info3
 have q25 : ∀ (w : World) (a : Option Addr) (n c n' c' : Nat), (binOp .eql 38 (.slice a n c) (.slice none n' c')).run Tryd.prog w = .ok (.bool a.isNone) w := fun w a n c n' c' => Lib.run_eql_slice_nil w _ _ a n c n' c' Tryd.underlying38
 cases A with
 | none =>
  have hl : l = [] := by
   cases l with
   | nil => rfl
   | cons x t => obtain ⟨ad, e, _⟩ := HC.out.2.2 (by simp); cases e
  subst hl
  clear HC HB hi hz0 hz1 hz2
  go_enter Tryd.func49, Tryd.ntmps49
  go_wp2
  go_ret
  exact ⟨_, rfl, World.ownsRow_nil _ _ _ _, Below.refl _ _⟩
 | some ad =>
  go_enter Tryd.func49, Tryd.ntmps49
  go_wp2_with ((with_reducible refine gate_dst (N := 7) rfl ?_); go_must (refine wpList_append_own _ rfl (.tmp 5) (.tmp 6) 38 rfl w.heap.size 3 i0 (.int .i64 0) 1 8 Tryd.underlying38 hi hz0 hz1 hz2 rfl (by decide) _ 0 [] rfl (World.ownsRow_made w #[] 0 (Nat.le_refl _) (Nat.zero_le _) rfl) ad l.length c (l.map (Value.int .i64)) rfl ?qc1 ?qc2 ?qc3 ?qc4 ?qc5 ?qc6 ?_))
  case qc1 => simp
  case qc2 =>
   intro j u hj
   rcases Nat.eq_zero_or_pos l.length with h0 | h0
   ·have : l = [] := List.eq_nil_of_length_eq_zero h0
    subst this; simp at hj
   ·have hb : Below w.heap.size w (w.alloc (Obj.cells #[] 3)) := (Below.refl _ _).alloc (Nat.le_refl _) _
    obtain ⟨ad', e, hc⟩ := (C_cells (Kd.C_below HC.out hb)).2 h0
    cases e
    exact hc j u hj
  case qc3 => intro u hu; obtain ⟨x, _, rfl⟩ := List.mem_map.1 hu; rfl
  case qc4 => have := HB.out; unfold maxLen; omega
  case qc5 => have := HB.out; omega
  case qc6 => simp
  intro v' w1 hown hgrow hnil
  go_wp2
  go_ret
  refine ⟨v', rfl, by simpa using hown, ?_⟩
  exact ((Below.refl _ w).alloc (Nat.le_refl _) _).grown hgrow (by simp) (by intro k hk; simp [Value.ownBlock] at hk; omega)

def PredIs {α : Type} (g : Nat) (lb : Array Value) (enc : α → Value) (p : α → Bool) (w : World) (x : α) : Prop := Calls Tryd.prog g (#[enc x] ++ lb) w fun e w' => e = .returned (.bool (p x)) ∧ w' = w
theorem any_take_next {l : List Int} {p : Int → Bool} {i : Int} (hi : 0 ≤ i) (hl : i < l.length) : (l.take (i + 1).toNat).any p = ((l.take i.toNat).any p || p (rd l i)) := by
 rw [show (i + 1).toNat = i.toNat + 1 by omega, List.take_succ_eq_append_getElem (by omega), List.any_append]
 simp [rd, List.getD_eq_getElem?_getD, List.getElem?_eq_getElem (show i.toNat < l.length by omega)]
def IdxOf (b : Bool) (w : World) (e : Ending) (w' : World) : Prop := ∃ i : Int, (decide (0 ≤ i)) = b ∧ e = .returned (.int .i64 i) ∧ w = w'
set_option maxHeartbeats 2000000 in
theorem index_int (p : Int → Bool) (g : Nat) (lb : Array Value) (eg : ∀ args w, (callFunc g args).run Tryd.prog w = .ok (.enter g args) w) (A : Option Addr) (c : Nat) (l : List Int) (w : World) (hC : Kd.C (Kd.int .i64) w A l.length l) (hp : ∀ x, PredIs g lb (Value.int .i64) p w x) :
  Calls Tryd.prog 70 #[.slice A l.length c, .func (.func g) #[] lb] w (IdxOf (l.any p) w) := by
 have HC := Aside0.mk hC
 have HP := Aside0.mk hp
 clear hC hp
 have hpAt : ∀ (x : Int) , Calls Tryd.prog g (#[.int .i64 x] ++ lb) w fun e w' => e = .returned (.bool (p x)) ∧ w' = w := fun x => HP.out x
 have HPA := Aside0.mk hpAt
 clear hpAt
 go_enter Tryd.func70, Tryd.ntmps70
 go_wp2
 go_loopg [5, 8] l.length (fun gg _ s8 wr => ∃ i : Int, s8 = .int .i64 i ∧ Aside0 (0 ≤ i) ∧ Aside0 ((l.length : Int) - i = gg) ∧ wr = w ∧ Aside0 ((l.take i.toNat).any p = false))
 case atStart => exact ⟨0, rfl, ⟨by omega⟩, ⟨by omega⟩, rfl, ⟨by simp⟩⟩
 case round =>
  obtain ⟨i, rfl, HI, HG, rfl, HA⟩ := hrel
  have hi := HI.out
  by_cases cl : i < (l.length : Int)
  ·have clb : decide (i < (l.length : Int)) = true := decide_eq_true cl
   obtain ⟨ad, e1, hx⟩ := Kd.at_int HC.out i hi cl
   subst e1
   have p1 := eq_true hi
   have q1 := eq_true cl
   have HN := Aside0.mk (any_take_next (p := p) hi cl)
   clear hi cl
   have hcall := HPA.out (rd l i)
   cases hq : p (rd l i) with
   | true =>
    rw [hq] at hcall
    have HF : Aside0 (l.any p = true) := ⟨by
     have := HN.out
     rw [hq, Bool.or_true, List.any_eq_true] at this
     obtain ⟨x, hx, hpx⟩ := this
     exact List.any_eq_true.2 ⟨x, List.mem_of_mem_take hx, hpx⟩⟩
    have b0 : 0 ≤ i := HI.out
    go_wp2_with (go_at_fn g; refine hcall.mono ?_; rintro e w' ⟨rfl, rfl⟩)
    go_ret
    exact ⟨i, by rw [HF.out]; exact decide_eq_true b0, rfl, rfl⟩
   | false =>
    rw [hq] at hcall
    go_wp2_with (go_at_fn g; refine hcall.mono ?_; rintro e w' ⟨rfl, rfl⟩)
    go_roundg ((l.length : Int) - (i + 1)).toNat
    case measure => have := HG.out; have := of_eq_true q1; omega
    case rel =>
     have i0 := HI.out
     have i1 := of_eq_true q1
     refine ⟨i + 1, ?_, ⟨by omega⟩, ⟨by omega⟩, rfl, ⟨by rw [HN.out, HA.out, hq]; rfl⟩⟩
     rw [show wrap64 (i + 1) = i + 1 by have := HC.out.2.1; unfold wrap64; omega]
  ·have clb : decide (i < (l.length : Int)) = false := decide_eq_false cl
   go_wp2
   go_ret
   refine ⟨-1, ?_, rfl, rfl⟩
   have := HA.out
   rw [List.take_of_length_le (by omega)] at this
   rw [this]; rfl
end Go.Proofs.YtfoodfhhdbaieaaDoor.Giv
-- CUT by a program of this session: what the claim does not use is left out
namespace Go.Proofs.YtfoodfhhdbaieaaDoor.Giv
set_option maxRecDepth 100000
set_option linter.unusedVariables false
set_option linter.unusedSimpArgs false
open Go.RowKit Go.Shelf Go.Proofs.YtfoodfhhdbaieaaDoorW.PrintWords Go.Proofs.YtfoodfhhdbaieaaDoorW.PrintLast Go.Proofs.YtfoodfhhdbaieaaDoorW.PrintMore
open Go.Proofs.YtfoodfhhdbaieaaDoor.Ka (S40 k40 z40 rd_T40 at_T40 k40_open k40_mk rd_L1 at_L1 info3 info38 info40)

theorem contains_int (p : Int → Bool) (g : Nat) (lb : Array Value) (eg : ∀ args w, (callFunc g args).run Tryd.prog w = .ok (.enter g args) w) (A : Option Addr) (c : Nat) (l : List Int) (w : World) (hC : Kd.C (Kd.int .i64) w A l.length l) (hp : ∀ x, PredIs g lb (Value.int .i64) p w x) :
  Calls Tryd.prog 59 #[.slice A l.length c, .func (.func g) #[] lb] w fun e w' => e = .returned (.bool (l.any p)) ∧ w = w' := by
 have HX := Aside0.mk (index_int p g lb eg A c l w hC hp)
 clear hC hp eg
 go_enter Tryd.func59, Tryd.ntmps59
 go_wp2_with (go_at_call 70; refine HX.out.mono ?_; rintro e w' ⟨i, hi, rfl, rfl⟩)
 go_ret
 exact ⟨by rw [← hi]; rfl, rfl⟩
def outB (a1 x : Int) : Bool := decide (x < 0) || decide (a1 ≤ x)
theorem eg41 : ∀ args w, (callFunc 60 args).run Tryd.prog w = .ok (.enter 60 args) w := enters_of Tryd.func60 (by kernel_rfl) rfl
theorem pred41 (a1 : Int) (B : Nat) (w : World) (hc : w.cell? ⟨B, 1, none⟩ = some (.int .i64 a1)) (x : Int) : PredIs 60 #[.pointer (some ⟨B, 0, none⟩)] (Value.int .i64) (outB a1) w x := by
 show Calls Tryd.prog 60 #[.int .i64 x, .pointer (some ⟨B, 0, none⟩)] w _
 by_cases h : x < 0
 ·have HO : Aside0 (outB a1 x = true) := ⟨by simp [outB, h]⟩
  go_enter Tryd.func60, Tryd.ntmps60
  go_wp2
  go_ret
  exact ⟨by rw [HO.out]; rfl, rfl⟩
 ·by_cases h2 : a1 ≤ x
  ·have HO : Aside0 (outB a1 x = true) := ⟨by simp [outB, h2]⟩
   go_enter Tryd.func60, Tryd.ntmps60
   go_wp2
   go_ret
   exact ⟨by rw [HO.out]; rfl, rfl⟩
  ·have HO : Aside0 (outB a1 x = false) := ⟨by simp [outB, h, h2]⟩
   go_enter Tryd.func60, Tryd.ntmps60
   go_wp2
   go_ret
   exact ⟨by rw [HO.out]; rfl, rfl⟩
end Go.Proofs.YtfoodfhhdbaieaaDoor.Giv
