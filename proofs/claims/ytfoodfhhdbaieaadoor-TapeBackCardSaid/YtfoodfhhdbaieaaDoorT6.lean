-- CUT by a program of this session: what the claim does not use is left out
import Derived.Test.YtfoodfhhdbaieaaDoorT5
namespace Go.Proofs.YtfoodfhhdbaieaaDoor.Giv
set_option maxRecDepth 100000
set_option linter.unusedVariables false
set_option linter.unusedSimpArgs false
open Go.RowKit Go.Shelf Go.Proofs.YtfoodfhhdbaieaaDoorW.PrintWords Go.Proofs.YtfoodfhhdbaieaaDoorW.PrintLast Go.Proofs.YtfoodfhhdbaieaaDoorW.PrintMore
open Go.Proofs.YtfoodfhhdbaieaaDoor.Ka (S40 k40 z40 rd_T40 at_T40 k40_open k40_mk rd_L1 at_L1 info3 info38 info40)

theorem contains_int (p : Int → Bool) (g : Nat) (lb : Array Value) (eg : ∀ args w, (callFunc g args).run Tryd.prog w = .ok (.enter g args) w) (A : Option Addr) (c : Nat) (l : List Int) (w : World) (hC : Kd.C (Kd.int .i64) w A l.length l) (hp : ∀ x, PredIs g lb (Value.int .i64) p w x) :
  Calls Tryd.prog 59 #[.slice A l.length c, .func (.func g) #[] lb] w fun e w' => e = .returned (.bool (l.any p)) ∧ w = w' := by
 have HX := Aside0.mk (index_int p g lb eg A c l w hC hp)
 clear hC hp eg
 go_enter Tryd.func59, Tryd.ntmps59
 go_wp2_with (go_at_call 70; refine HX.out.mono ?_; rintro e w' ⟨i, hi, rfl, rfl⟩)
 go_ret
 exact ⟨by rw [← hi]; rfl, rfl⟩
def outB (a1 x : Int) : Bool := decide (x < 0) || decide (a1 ≤ x)
theorem eg41 : ∀ args w, (callFunc 60 args).run Tryd.prog w = .ok (.enter 60 args) w := enters_of Tryd.func60 (by kernel_rfl) rfl
theorem pred41 (a1 : Int) (B : Nat) (w : World) (hc : w.cell? ⟨B, 1, none⟩ = some (.int .i64 a1)) (x : Int) : PredIs 60 #[.pointer (some ⟨B, 0, none⟩)] (Value.int .i64) (outB a1) w x := by
 show Calls Tryd.prog 60 #[.int .i64 x, .pointer (some ⟨B, 0, none⟩)] w _
 by_cases h : x < 0
 ·have HO : Aside0 (outB a1 x = true) := ⟨by simp [outB, h]⟩
  go_enter Tryd.func60, Tryd.ntmps60
  go_wp2
  go_ret
  exact ⟨by rw [HO.out]; rfl, rfl⟩
 ·by_cases h2 : a1 ≤ x
  ·have HO : Aside0 (outB a1 x = true) := ⟨by simp [outB, h2]⟩
   go_enter Tryd.func60, Tryd.ntmps60
   go_wp2
   go_ret
   exact ⟨by rw [HO.out]; rfl, rfl⟩
  ·have HO : Aside0 (outB a1 x = false) := ⟨by simp [outB, h, h2]⟩
   go_enter Tryd.func60, Tryd.ntmps60
   go_wp2
   go_ret
   exact ⟨by rw [HO.out]; rfl, rfl⟩
end Go.Proofs.YtfoodfhhdbaieaaDoor.Giv
