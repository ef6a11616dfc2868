-- CUT by a program of this session: what the claim does not use is left out
import Derived.Test.YtjfhogholmabfaaDoorV5
namespace Go.Proofs.YtjfhogholmabfaaDoor.Giv
set_option linter.unusedVariables false
set_option linter.unusedSimpArgs false
open Go.RowKit Go.Proofs.YtjfhogholmabfaaDoorW.PrintWords Go.Proofs.YtjfhogholmabfaaDoorW.PrintLast Go.Proofs.YtjfhogholmabfaaDoorW.PrintMore

structure Off (S : Nat → Prop) (A B : World) : Prop where
  size : A.heap.size ≤ B.heap.size
  same : ∀ k, k < A.heap.size → ¬ S k → B.heap[k]? = A.heap[k]?
  os : B.os = A.os
  tape : B.tape = A.tape
  output : B.output = A.output
theorem Off.trans {S : Nat → Prop} {A B C : World} (h : Off S A B) (k : Off S B C) : Off S A C :=
  ⟨Nat.le_trans h.size k.size, fun i hi hm => (k.same i (Nat.lt_of_lt_of_le hi h.size) hm).trans (h.same i hi hm), k.os.trans h.os, k.tape.trans h.tape, k.output.trans h.output⟩
theorem Off.of_same {M : Nat} {S : Nat → Prop} (hS : S M) {A B : World} (h : Same M A B) : Off S A B :=
  ⟨h.size, fun k hk hm => h.same k hk (by rintro rfl; exact hm hS), h.os, h.tape, h.output⟩
theorem Off.put {S : Nat → Prop} {l : Nat} (hS : S l) (A : World) (o : Obj) : Off S A (A.putObj l o) :=
  ⟨by simp, fun k hk hm => World.putObj_heap_other (by rintro rfl; exact hm hS), rfl, rfl, rfl⟩
theorem Off.of_below {S : Nat → Prop} {A B : World} (h : Below A.heap.size A B) : Off S A B := ⟨h.size, fun k hk _ => h.block k hk, h.os, h.tape, h.output⟩
def roundEnd (b : Nat) (I : List (List Int) → World → Prop) (xs : List (List Int)) (W : World) : Exit → Act → World → Prop
  | .normal, _, W' => (W.heap.size ≤ W'.heap.size ∧ ∀ k, b ≤ k → k < b + 3 → W'.heap[k]? = W.heap[k]?) ∧ I xs W'
  | _, _, _ => False

theorem wpIn_cycles {n : Nat} {g : Operand} {ps : Array Tmp} {assign body : Code} {Q : Exit → Act → World → Prop} {a : Act} {w : World} (Bp cp : Nat) (Ap : Option Addr) (p : List Int)
    (hv : validB p = true) (hg : a.eval g = .func (.func 35) #[] #[.pointer (some ⟨Bp, 0, none⟩)]) (eg : ∀ args w, (callFunc 35 args).run Tryd.prog w = .ok (.enter 35 args) w) (hps : ps.size = 1) (hbp : Bp < w.heap.size)
    (I : List (List Int) → World → Prop)
    (hIp : ∀ pre A, I pre A → A.cell? ⟨Bp, 0, none⟩ = some (.slice Ap p.length cp) ∧ Kd.C (Kd.int .i64) A Ap p.length p)
    (hIs : ∀ pre A B, I pre A → Off (fun k => k = w.heap.size + 1 ∨ k = w.heap.size + 2) A B → I pre B) (h0 : I [] w) (a₁ : Value → Act)
    (hassign : ∀ (l : Nat) (v : Value) (W : World) (K : Act → World → Prop), K (a₁ v) W →
      assign.wpIn (Fence.wide.inRound l) (n - 1 - 1) Tryd.prog (Exit.then K (fun _ _ _ => False)) { tmps := (ps.zip #[v]).foldl (fun t (p, v) => t.setIfInBounds p v) a.tmps, defers := [] } W)
    (hbody : ∀ (l : Nat) (pre : List (List Int)) (x : List Int) (v : Value) (W0 W : World) (rest : List (List Int)), cycL p = pre ++ x :: rest → I pre W0 → Off (fun k => k = w.heap.size + 1 ∨ k = w.heap.size + 2) W0 W → w.heap.size + 2 < W0.heap.size → Kd.R (Kd.int .i64) 3 W W0.heap.size (fun _ => True) v x →
      body.wpIn (Fence.wide.inRound l) (n - 1 - 1) Tryd.prog (roundEnd w.heap.size I (pre ++ [x]) W) (a₁ v) W)
    (hdone : ∀ (W : World), I (cycL p) W → W.heap[w.heap.size]? = some (.deferred (some [])) → Q .normal { a with defers := { target := .collected w.heap.size, args := #[] } :: a.defers } W) :
    (Code.rangeFunc g ps assign body).wpIn Fence.wide n Tryd.prog Q a w := by
  refine wpIn_rangeFunc ?_
  intro fn hfn
  show ∃ (l : Nat) (mark : List Deferred) (w₁ : World) (d : Deferred) (w₁' : World) (f : FuncId) (args : Array Value) (w₂ : World),
      (Instr.enterLoop fn a.tmps ps assign body none).run Tryd.prog w = .ok (l, mark) w₁ ∧ _
  obtain ⟨rec, hrec⟩ : ∃ rec : LoopState → Option Code → Loop, rec = fun st pe => { state := st, pending := pe, fn, tmps := a.tmps, params := ps, assign, body, defers := w.heap.size } := ⟨_, rfl⟩
  obtain ⟨W1, hW1⟩ : ∃ W1, (w.alloc (.deferred (some []))).alloc (.loop (rec .ready none)) = W1 := ⟨_, rfl⟩
  have hL1 : W1.heap[w.heap.size + 1]? = some (.loop (rec .ready none)) := by
    rw [← hW1]; have := World.alloc_heap_new (w.alloc (.deferred (some []))) (.loop (rec .ready none)); rwa [World.size_alloc] at this
  have hK1 : W1.heap[w.heap.size]? = some (.deferred (some [])) := by
    rw [← hW1]; exact (Below.heap_alloc _ _ _ (by simp)).trans (World.alloc_heap_new w _)
  have hsz1 : W1.heap.size = w.heap.size + 2 := by rw [← hW1]; simp
  have hb1 : Below w.heap.size w W1 := by
    rw [← hW1]; exact ((Below.refl _ w).alloc (Nat.le_refl _) _).alloc (by simp) _
  have hI1 : I [] W1 := hIs [] w W1 h0 (Off.of_below hb1)
  refine ⟨w.heap.size + 1, [{ target := .collected w.heap.size, args := #[] }], W1, { target := .fn (.func 35) #[.pointer (some ⟨Bp, 0, none⟩)], args := #[.func (.yield (w.heap.size + 1)) #[] #[]] }, W1, 35,
    #[.func (.yield (w.heap.size + 1)) #[] #[]] ++ #[.pointer (some ⟨Bp, 0, none⟩)], W1, ?_, ?_, ?_, ?_, fun h => (by cases h), ?_⟩
  · rw [← hW1, hrec]; exact run_enterLoop_outer _ _ _ _ _
  · simp only [resolve, hg]
    simp [go_sem]
  · intro f' hf'; trivial
  · simp [invoke, go_sem, eg]
  · refine (cyc_iter (n - 1) (w.heap.size + 1) Bp cp Ap p
      (fun pre W => I pre W ∧ W.heap[w.heap.size + 1]? = some (.loop (rec .ready none)) ∧ W.heap[w.heap.size]? = some (.deferred (some [])))
      W1 ⟨hv⟩ ⟨fun pre A h => hIp pre A h.1⟩ (by omega) ⟨fun pre A B h hs => ?_⟩ ⟨fun pre x v A0 A rest hc hj hS hz hr => ?_⟩ ⟨⟨hI1, hL1, hK1⟩⟩).mono ?_
    · rw [hsz1] at hs
      obtain ⟨hi, hl, hk⟩ := h
      have h1 := (Array.getElem?_eq_some_iff.1 hl).1
      exact ⟨hIs pre A B hi (Off.of_same (.inr rfl) hs), (hs.same _ h1 (by omega)).trans hl, (hs.same _ (by omega) (by omega)).trans hk⟩
    · rw [hsz1] at hz hS
      obtain ⟨hi, hl, hk⟩ := hj
      have hlt0 : w.heap.size + 1 < A0.heap.size := (Array.getElem?_eq_some_iff.1 hl).1
      have hl := (hS.same _ hlt0 (by omega)).trans hl
      have hk := (hS.same w.heap.size (by omega) (by omega)).trans hk
      have hlt : w.heap.size + 1 < A.heap.size := (Array.getElem?_eq_some_iff.1 hl).1
      have hy := run_yield (P := Tryd.prog) (args := #[v]) hl (by rw [hrec]; simpa using hps.symm)
      rw [hrec] at hy
      refine ⟨fn, _, assign, body, hy, roundIn_of_wpIn hfn (hassign _ v A _ ⟨_, run_beginRound hl (by rw [hrec]), ?_⟩)⟩
      obtain ⟨A2, hA2⟩ : ∃ A2, A2 = A.putObj (w.heap.size + 1) (.loop { rec .ready none with state := .busy }) := ⟨_, rfl⟩
      have hl2 : A2.heap[w.heap.size + 1]? = some (.loop { rec .ready none with state := .busy }) := by rw [hA2]; exact World.putObj_heap_same hlt
      have hk2 : A2.heap[w.heap.size]? = some (.deferred (some [])) := by rw [hA2]; exact (World.putObj_heap_other (by omega)).trans hk
      have hm2 : A2.heap[w.heap.size + 2]? = A.heap[w.heap.size + 2]? := by rw [hA2]; exact World.putObj_heap_other (by omega)
      have ho2 : Off (fun k => k = w.heap.size + 1 ∨ k = w.heap.size + 2) A A2 := by rw [hA2]; exact Off.put (.inl rfl) _ _
      have hr2 : Kd.R (Kd.int .i64) 3 A2 A0.heap.size (fun _ => True) v x := Kd.R_mono (Kd.R_step (Kd.R_bound hr) (fun k hk _ => by rw [hA2]; exact World.putObj_heap_other (by have := hk.2.1; omega))) (fun _ _ => trivial)
      have hsz2 : A2.heap.size = A.heap.size := by rw [hA2]; simp
      rw [← hA2]
      refine wpIn_mono (hbody _ pre x v A0 A2 rest hc hi ((Off.of_same (.inr rfl) hS).trans ho2) hz hr2) ?_
      · rintro e a3 W3 hp
        cases e with
        | normal =>
          obtain ⟨⟨hsz3, hk3⟩, hi3⟩ := hp
          have hl3 := (hk3 (w.heap.size + 1) (by omega) (by omega)).trans hl2
          have hd3 := (hk3 w.heap.size (by omega) (by omega)).trans hk2
          have hm3 := (hk3 (w.heap.size + 2) (by omega) (by omega)).trans hm2
          have hrun := run_endRound (P := Tryd.prog) none hl3
          rw [hrec] at hrun
          refine ⟨_, _, hrun, rfl, ⟨hIs _ _ _ hi3 (Off.put (.inl rfl) _ _), ?_, (World.putObj_heap_other (by omega)).trans hd3⟩, ?_, ?_⟩
          · rw [hrec]; exact World.putObj_heap_same (Array.getElem?_eq_some_iff.1 hl3).1
          · rw [hsz1]; exact (World.putObj_heap_other (by omega)).trans hm3
          · simp; omega
        | ret => exact hp.elim
        | exit id => exact hp.elim
        | goto t => exact hp.elim
        | panic ch => exact hp.elim
        | outgrown => exact hp.elim
    · rintro e W2 ⟨⟨v, rfl⟩, hi, hl, hk⟩
      exact ⟨none, _, by have := run_endLoop (P := Tryd.prog) hl (by rw [hrec]; simp); rw [hrec] at this; exact this, hdone _ (hIs _ _ _ hi (Off.put (.inl rfl) _ _)) ((World.putObj_heap_other (by omega)).trans hk)⟩
end Go.Proofs.YtjfhogholmabfaaDoor.Giv
