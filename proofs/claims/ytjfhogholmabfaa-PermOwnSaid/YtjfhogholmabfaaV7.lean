-- CUT by a program of this session: what the claim does not use is left out
import Derived.Test.YtjfhogholmabfaaV6
import Derived.Shelf.Abstract
namespace Go.Proofs.Ytjfhogholmabfaa.Giv
set_option linter.unusedVariables false
set_option linter.unusedSimpArgs false
open Go.RowKit Go.Shelf Go.Proofs.YtjfhogholmabfaaW.PrintWords Go.Proofs.YtjfhogholmabfaaW.PrintLast Go.Proofs.YtjfhogholmabfaaW.PrintMore
attribute [local go_sem] Oper.semAt_some

def sumW (l : List (List Int)) : Int := l.foldl (fun a c => wrap64 (a + ((c.length : Int) - 1))) 0
def perm_Parity.f (l0 : List Int) : Option Int := some (if validB l0 = true then Int.tmod (sumW (cycL l0)) 2 else -1)
theorem orb_len (p : List Int) : ∀ f x vis, (orbL p f x vis).length ≤ f
  | 0, _, _ => Nat.le_refl _
  | f + 1, x, vis => by
    unfold orbL
    split
    · simp
    · have := orb_len p f (p.getD x.toNat 0) (vis ++ [x]); simp only [List.length_cons]; omega
theorem cyc_len (p : List Int) : ∀ d i vis c, c ∈ cycS p d i vis → c.length ≤ 8
  | 0, _, _, c, h => by simp [cycS] at h
  | d + 1, i, vis, c, h => by
    unfold cycS at h
    rcases List.mem_append.1 h with h | h
    · split at h
      · rw [List.mem_singleton.1 h]; exact orb_len _ _ _ _
      · cases h
    · exact cyc_len p d (i + 1) _ c h
def At (w : World) (b : Nat) (v : Value) (t : Nat) : Prop := w.heap[b]? = some (.cells #[v] t (0, 0))
theorem At.cell {w : World} {b : Nat} {v : Value} {t : Nat} (h : At w b v t) : w.cell? ⟨b, 0, none⟩ = some v := by simp [World.cell?, show w.heap[b]? = _ from h]
theorem At.frozen {w : World} {b : Nat} {v : Value} {t : Nat} (h : At w b v t) : w.frozen? ⟨b, 0, none⟩ = false := by simp [World.frozen?, show w.heap[b]? = _ from h]
theorem At.lt {w : World} {b : Nat} {v : Value} {t : Nat} (h : At w b v t) : b < w.heap.size := (Array.getElem?_eq_some_iff.1 h).1
theorem At.off {S : Nat → Prop} {A B : World} {b : Nat} {v : Value} {t : Nat} (h : At A b v t) (ho : Off S A B) (hb : ¬ S b) : At B b v t := (ho.same b h.lt hb).trans h
theorem At.set {w : World} {b : Nat} {v u : Value} {t : Nat} (h : At w b v t) : At (w.setCell ⟨b, 0, none⟩ u) b u t := by
  unfold At at h ⊢
  simp [World.setCell, Array.getElem?_modify, h]
theorem below_off {S : Nat → Prop} {w A B : World} (hS : ∀ k, S k → w.heap.size ≤ k) (h : Below w.heap.size w A) (ho : Off S A B) : Below w.heap.size w B :=
  ⟨ho.os.trans h.os, ho.tape.trans h.tape, ho.output.trans h.output, Nat.le_trans h.size ho.size, fun k hk => (ho.same k (Nat.lt_of_lt_of_le hk h.size) (fun hs => by have := hS k hs; omega)).trans (h.block k hk)⟩

theorem cycles_calls (A0 : Option Addr) (n0 c0 : Nat) (w : World) : Calls Try.prog 57 #[.slice A0 n0 c0] w fun e w' => e = .returned (.func (.func 61) #[] #[.pointer (some ⟨w.heap.size, 0, none⟩)]) ∧ w' = w.alloc (.cells #[.slice A0 n0 c0] 23) := by
  go_enter Try.func57, Try.ntmps57
  go_wp2
  go_ret
  exact ⟨rfl, rfl⟩

end Go.Proofs.Ytjfhogholmabfaa.Giv
