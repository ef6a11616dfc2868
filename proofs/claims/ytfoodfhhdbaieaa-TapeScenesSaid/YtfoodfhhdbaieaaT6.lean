-- CUT by a program of this session: what the claim does not use is left out
import Derived.Test.YtfoodfhhdbaieaaT5
namespace Go.Proofs.Ytfoodfhhdbaieaa.Giv
set_option linter.unusedVariables false
set_option linter.unusedSimpArgs false
open Go.RowKit Go.Shelf Go.Proofs.YtfoodfhhdbaieaaW.PrintWords Go.Proofs.YtfoodfhhdbaieaaW.PrintLast Go.Proofs.YtfoodfhhdbaieaaW.PrintMore
open Go.Proofs.Ytfoodfhhdbaieaa.Ka (S54 k54 z54 rd_T54 at_T54 k54_open k54_mk rd_L1 at_L1 info3 info25 info54)

theorem contains_int (p : Int → Bool) (g : Nat) (lb : Array Value) (eg : ∀ args w, (callFunc g args).run Try.prog w = .ok (.enter g args) w) (A : Option Addr) (c : Nat) (l : List Int) (w : World) (hC : Kd.C (Kd.int .i64) w A l.length l) (hp : ∀ x, PredIs g lb (Value.int .i64) p w x) :
    Calls Try.prog 40 #[.slice A l.length c, .func (.func g) #[] lb] w fun e w' => e = .returned (.bool (l.any p)) ∧ w = w' := by
  have HX := Aside0.mk (index_int p g lb eg A c l w hC hp)
  clear hC hp eg
  go_enter Try.func40, Try.ntmps40
  go_wp2_with (go_at_call 57; refine HX.out.mono ?_; rintro e w' ⟨i, hi, rfl, rfl⟩)
  go_ret
  exact ⟨by rw [← hi]; rfl, rfl⟩
def PredRow (g : Nat) (lb : Array Value) (p : List Int → Bool) (w : World) (x : List Int) : Prop := ∀ A c, Kd.C (Kd.int .i64) w A x.length x → x.length ≤ c → Calls Try.prog g (#[.slice A x.length c] ++ lb) w fun e w' => e = .returned (.bool (p x)) ∧ w' = w
theorem any_take_next1 {l : List (List Int)} {p : List Int → Bool} {i : Int} (hi : 0 ≤ i) (hl : i < l.length) : (l.take (i + 1).toNat).any p = ((l.take i.toNat).any p || p (rd_L1 l i)) := by
  rw [show (i + 1).toNat = i.toNat + 1 by omega, List.take_succ_eq_append_getElem (by omega), List.any_append]
  simp [rd_L1, List.getD_eq_getElem?_getD, List.getElem?_eq_getElem (show i.toNat < l.length by omega)]
set_option maxHeartbeats 2000000 in
theorem index_rows (p : List Int → Bool) (g : Nat) (lb : Array Value) (eg : ∀ args w, (callFunc g args).run Try.prog w = .ok (.enter g args) w) (A : Option Addr) (c : Nat) (l : List (List Int)) (w : World) (hC : Kd.C (Kd.slice 3 (Kd.int .i64)) w A l.length l) (hp : ∀ x, PredRow g lb p w x) :
    Calls Try.prog 59 #[.slice A l.length c, .func (.func g) #[] lb] w (IdxOf (l.any p) w) := by
  have HC := Aside0.mk hC
  have HP := Aside0.mk hp
  clear hC hp
  go_enter Try.func59, Try.ntmps59
  go_wp2
  go_loopg [5, 8] l.length (fun gg _ s8 wr => ∃ i : Int, s8 = .int .i64 i ∧ Aside0 (0 ≤ i) ∧ Aside0 ((l.length : Int) - i = gg) ∧ wr = w ∧ Aside0 ((l.take i.toNat).any p = false))
  case atStart => exact ⟨0, rfl, ⟨by omega⟩, ⟨by omega⟩, rfl, ⟨by simp⟩⟩
  case round =>
    obtain ⟨i, rfl, HI, HG, rfl, HA⟩ := hrel
    have hi := HI.out
    by_cases cl : i < (l.length : Int)
    · have clb : decide (i < (l.length : Int)) = true := decide_eq_true cl
      obtain ⟨ad, A1, c1, e1, hx, hlc, hC1⟩ := at_L1 HC.out i hi cl
      subst e1
      have p1 := eq_true hi
      have q1 := eq_true cl
      have HN := Aside0.mk (any_take_next1 (p := p) hi cl)
      clear hi cl
      have hcall := HP.out (rd_L1 l i) A1 c1 hC1 hlc
      clear hlc hC1
      cases hq : p (rd_L1 l i) with
      | true =>
        rw [hq] at hcall
        have HF : Aside0 (l.any p = true) := ⟨by
          have := HN.out
          rw [hq, Bool.or_true, List.any_eq_true] at this
          obtain ⟨x, hx, hpx⟩ := this
          exact List.any_eq_true.2 ⟨x, List.mem_of_mem_take hx, hpx⟩⟩
        have b0 : 0 ≤ i := HI.out
        go_wp2_with (go_at_fn g; refine hcall.mono ?_; rintro e w' ⟨rfl, rfl⟩)
        go_ret
        exact ⟨i, by rw [HF.out]; exact decide_eq_true b0, rfl, rfl⟩
      | false =>
        rw [hq] at hcall
        go_wp2_with (go_at_fn g; refine hcall.mono ?_; rintro e w' ⟨rfl, rfl⟩)
        go_roundg ((l.length : Int) - (i + 1)).toNat
        case measure => have := HG.out; have := of_eq_true q1; omega
        case rel =>
          have i0 := HI.out
          have i1 := of_eq_true q1
          refine ⟨i + 1, ?_, ⟨by omega⟩, ⟨by omega⟩, rfl, ⟨by rw [HN.out, HA.out, hq]; rfl⟩⟩
          rw [show wrap64 (i + 1) = i + 1 by have := HC.out.2.1; unfold wrap64; omega]
    · have clb : decide (i < (l.length : Int)) = false := decide_eq_false cl
      go_wp2
      go_ret
      refine ⟨-1, ?_, rfl, rfl⟩
      have := HA.out
      rw [List.take_of_length_le (by omega)] at this
      rw [this]; rfl
theorem contains_rows (p : List Int → Bool) (g : Nat) (lb : Array Value) (eg : ∀ args w, (callFunc g args).run Try.prog w = .ok (.enter g args) w) (A : Option Addr) (c : Nat) (l : List (List Int)) (w : World) (hC : Kd.C (Kd.slice 3 (Kd.int .i64)) w A l.length l) (hp : ∀ x, PredRow g lb p w x) :
    Calls Try.prog 50 #[.slice A l.length c, .func (.func g) #[] lb] w fun e w' => e = .returned (.bool (l.any p)) ∧ w = w' := by
  have HX := Aside0.mk (index_rows p g lb eg A c l w hC hp)
  clear hC hp eg
  go_enter Try.func50, Try.ntmps50
  go_wp2_with (go_at_call 59; refine HX.out.mono ?_; rintro e w' ⟨i, hi, rfl, rfl⟩)
  go_ret
  exact ⟨by rw [← hi]; rfl, rfl⟩

def outB (a1 x : Int) : Bool := decide (x < 0) || decide (a1 ≤ x)
def outP (x : Int) : Bool := decide (x < 0) || decide (20000 < x)
theorem eg41 : ∀ args w, (callFunc 41 args).run Try.prog w = .ok (.enter 41 args) w := enters_of Try.func41 (by kernel_rfl) rfl
theorem eg49 : ∀ args w, (callFunc 49 args).run Try.prog w = .ok (.enter 49 args) w := enters_of Try.func49 (by kernel_rfl) rfl
theorem eg51 : ∀ args w, (callFunc 51 args).run Try.prog w = .ok (.enter 51 args) w := enters_of Try.func51 (by kernel_rfl) rfl
theorem eg52 : ∀ args w, (callFunc 52 args).run Try.prog w = .ok (.enter 52 args) w := enters_of Try.func52 (by kernel_rfl) rfl
theorem pred41 (a1 : Int) (B : Nat) (w : World) (hc : w.cell? ⟨B, 1, none⟩ = some (.int .i64 a1)) (x : Int) : PredIs 41 #[.pointer (some ⟨B, 0, none⟩)] (Value.int .i64) (outB a1) w x := by
  show Calls Try.prog 41 #[.int .i64 x, .pointer (some ⟨B, 0, none⟩)] w _
  by_cases h : x < 0
  · have HO : Aside0 (outB a1 x = true) := ⟨by simp [outB, h]⟩
    go_enter Try.func41, Try.ntmps41
    go_wp2
    go_ret
    exact ⟨by rw [HO.out]; rfl, rfl⟩
  · by_cases h2 : a1 ≤ x
    · have HO : Aside0 (outB a1 x = true) := ⟨by simp [outB, h2]⟩
      go_enter Try.func41, Try.ntmps41
      go_wp2
      go_ret
      exact ⟨by rw [HO.out]; rfl, rfl⟩
    · have HO : Aside0 (outB a1 x = false) := ⟨by simp [outB, h, h2]⟩
      go_enter Try.func41, Try.ntmps41
      go_wp2
      go_ret
      exact ⟨by rw [HO.out]; rfl, rfl⟩
theorem pred52 (a1 : Int) (B : Nat) (w : World) (hc : w.cell? ⟨B, 1, none⟩ = some (.int .i64 a1)) (x : Int) : PredIs 52 #[.pointer (some ⟨B, 0, none⟩)] (Value.int .i64) (outB a1) w x := by
  show Calls Try.prog 52 #[.int .i64 x, .pointer (some ⟨B, 0, none⟩)] w _
  by_cases h : x < 0
  · have HO : Aside0 (outB a1 x = true) := ⟨by simp [outB, h]⟩
    go_enter Try.func52, Try.ntmps52
    go_wp2
    go_ret
    exact ⟨by rw [HO.out]; rfl, rfl⟩
  · by_cases h2 : a1 ≤ x
    · have HO : Aside0 (outB a1 x = true) := ⟨by simp [outB, h2]⟩
      go_enter Try.func52, Try.ntmps52
      go_wp2
      go_ret
      exact ⟨by rw [HO.out]; rfl, rfl⟩
    · have HO : Aside0 (outB a1 x = false) := ⟨by simp [outB, h, h2]⟩
      go_enter Try.func52, Try.ntmps52
      go_wp2
      go_ret
      exact ⟨by rw [HO.out]; rfl, rfl⟩
theorem pred49 (w : World) (x : Int) : PredIs 49 #[] (Value.int .i64) outP w x := by
  show Calls Try.prog 49 #[.int .i64 x] w _
  by_cases h : x < 0
  · have HO : Aside0 (outP x = true) := ⟨by simp [outP, h]⟩
    go_enter Try.func49, Try.ntmps49
    go_wp2
    go_ret
    exact ⟨by rw [HO.out]; rfl, rfl⟩
  · by_cases h2 : 20000 < x
    · have HO : Aside0 (outP x = true) := ⟨by simp [outP, h2]⟩
      go_enter Try.func49, Try.ntmps49
      go_wp2
      go_ret
      exact ⟨by rw [HO.out]; rfl, rfl⟩
    · have HO : Aside0 (outP x = false) := ⟨by simp [outP, h, h2]⟩
      go_enter Try.func49, Try.ntmps49
      go_wp2
      go_ret
      exact ⟨by rw [HO.out]; rfl, rfl⟩
end Go.Proofs.Ytfoodfhhdbaieaa.Giv
