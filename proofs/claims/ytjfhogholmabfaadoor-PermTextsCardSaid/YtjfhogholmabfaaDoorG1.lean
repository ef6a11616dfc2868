-- CUT by a program of this session: what the claim does not use is left out
import Derived.Test.YtjfhogholmabfaaDoorGA
namespace Go.Proofs.YtjfhogholmabfaaDoor.Pure
set_option linter.unusedVariables false
set_option linter.unusedSimpArgs false
open Go.RowKit Go.Proofs.YtjfhogholmabfaaDoorW.PrintWords Go.Proofs.YtjfhogholmabfaaDoorW.PrintLast Go.Proofs.YtjfhogholmabfaaDoorW.PrintMore
open Pa Giv
def cycK : List Int → List UInt8
  | [] => [41]
  | [x] => [UInt8.ofNat (48 + x.toNat), 41]
  | x :: r => UInt8.ofNat (48 + x.toNat) :: 32 :: cycK r
def textK (p : List Int) : List UInt8 := ((cycL p).map fun c => 40 :: cycK c).flatten
def textKR (p : List Int) : List UInt8 := if textK p = [] then [40, 41] else textK p
def stepQ (n : Nat) (st : List Int × List Int) (b : Nat) : List Int × List Int :=
  let c := if b = 40 then [] else st.2
  let c := if 48 ≤ b ∧ b ≤ 57 then c ++ [((b - 48 : Nat) : Int)] else c
  (if b = 41 then putN c c.length st.1 else st.1, c)
def badQ (n b : Nat) : Bool := decide (48 ≤ b ∧ b ≤ 57 ∧ n ≤ b - 48)
def chkT (p : List Int) (t : List Nat) : Bool :=
  decide ((t.foldl (stepP p.length) (idn p.length, [])).1 = p) && decide ((t.foldl (stepQ p.length) (idn p.length, [])).1 = p) && !(t.any (badQ p.length)) && decide (t.length ≤ 28)
def chkR (p : List Int) : Bool :=
  (commodatumref01_Text.f 60 p).map (fun s => s.data.toList) == some (textKR p)
def chkK (p : List Int) : Bool := match commodatumref01_Rank.f 60 p, perm_Rank.f 60 p with
  | some a, some (b, e) => a == b && e == 0
  | _, _ => false
def chk (p : List Int) : Bool := chkT p ((textKR p).map UInt8.toNat) && chkR p && chkK p
theorem allExt_of {n : Nat} {f : List Int → Bool} {d : Nat} {acc : List Int} (h : ∀ i, i < n → (i : Int) ∈ acc ∨ allExt n f d (acc ++ [(i : Int)]) = true) : allExt n f (d + 1) acc = true := by
  simp only [allExt, List.all_eq_true, List.mem_range, Bool.or_eq_true, decide_eq_true_eq]
  exact h
theorem to6 {P : Nat → Prop} (h0 : P 0) (h1 : P 1) (h2 : P 2) (h3 : P 3) (h4 : P 4) (h5 : P 5) (h6 : P 6) : ∀ i, i < 7 → P i := fun i hi => by
  have : i = 0 ∨ i = 1 ∨ i = 2 ∨ i = 3 ∨ i = 4 ∨ i = 5 ∨ i = 6 := by omega
  rcases this with rfl | rfl | rfl | rfl | rfl | rfl | rfl <;> assumption
set_option maxRecDepth 100000
theorem ch1 : allExt 1 chk 1 [] = true := by decide +kernel
theorem ch2 : allExt 2 chk 2 [] = true := by decide +kernel
theorem ch3 : allExt 3 chk 3 [] = true := by decide +kernel
theorem ch4 : allExt 4 chk 4 [] = true := by decide +kernel
theorem ch5 : allExt 5 chk 5 [] = true := by decide +kernel
end Go.Proofs.YtjfhogholmabfaaDoor.Pure
