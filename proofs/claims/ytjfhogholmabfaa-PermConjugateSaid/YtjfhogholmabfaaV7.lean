/- perm.Parity: minus one for what is no permutation, else the sum of the cycles' lengths, each less one, modulo two. Any slice; no condition. -/
import Derived.Test.YtjfhogholmabfaaV6
import Derived.Shelf.Abstract
namespace Go.Proofs.Ytjfhogholmabfaa.Giv
set_option linter.unusedVariables false
set_option linter.unusedSimpArgs false
open Go.RowKit Go.Shelf Go.Proofs.YtjfhogholmabfaaW.PrintWords Go.Proofs.YtjfhogholmabfaaW.PrintLast Go.Proofs.YtjfhogholmabfaaW.PrintMore
attribute [local go_sem] Oper.semAt_some

def sumW (l : List (List Int)) : Int := l.foldl (fun a c => wrap64 (a + ((c.length : Int) - 1))) 0
def perm_Parity.f (l0 : List Int) : Option Int := some (if validB l0 = true then Int.tmod (sumW (cycL l0)) 2 else -1)
theorem orb_len (p : List Int) : ∀ f x vis, (orbL p f x vis).length ≤ f
  | 0, _, _ => Nat.le_refl _
  | f + 1, x, vis => by
    unfold orbL
    split
    · simp
    · have := orb_len p f (p.getD x.toNat 0) (vis ++ [x]); simp only [List.length_cons]; omega
theorem cyc_len (p : List Int) : ∀ d i vis c, c ∈ cycS p d i vis → c.length ≤ 8
  | 0, _, _, c, h => by simp [cycS] at h
  | d + 1, i, vis, c, h => by
    unfold cycS at h
    rcases List.mem_append.1 h with h | h
    · split at h
      · rw [List.mem_singleton.1 h]; exact orb_len _ _ _ _
      · cases h
    · exact cyc_len p d (i + 1) _ c h
theorem sumW_snoc (l : List (List Int)) (c : List Int) : sumW (l ++ [c]) = wrap64 (sumW l + ((c.length : Int) - 1)) := by simp [sumW, List.foldl_append]
/-- What lies at block b. -/
def At (w : World) (b : Nat) (v : Value) (t : Nat) : Prop := w.heap[b]? = some (.cells #[v] t (0, 0))
theorem At.cell {w : World} {b : Nat} {v : Value} {t : Nat} (h : At w b v t) : w.cell? ⟨b, 0, none⟩ = some v := by simp [World.cell?, show w.heap[b]? = _ from h]
theorem At.frozen {w : World} {b : Nat} {v : Value} {t : Nat} (h : At w b v t) : w.frozen? ⟨b, 0, none⟩ = false := by simp [World.frozen?, show w.heap[b]? = _ from h]
theorem At.lt {w : World} {b : Nat} {v : Value} {t : Nat} (h : At w b v t) : b < w.heap.size := (Array.getElem?_eq_some_iff.1 h).1
theorem At.off {S : Nat → Prop} {A B : World} {b : Nat} {v : Value} {t : Nat} (h : At A b v t) (ho : Off S A B) (hb : ¬ S b) : At B b v t := (ho.same b h.lt hb).trans h
theorem At.set {w : World} {b : Nat} {v u : Value} {t : Nat} (h : At w b v t) : At (w.setCell ⟨b, 0, none⟩ u) b u t := by
  unfold At at h ⊢
  simp [World.setCell, Array.getElem?_modify, h]
theorem below_off {S : Nat → Prop} {w A B : World} (hS : ∀ k, S k → w.heap.size ≤ k) (h : Below w.heap.size w A) (ho : Off S A B) : Below w.heap.size w B :=
  ⟨ho.os.trans h.os, ho.tape.trans h.tape, ho.output.trans h.output, Nat.le_trans h.size ho.size, fun k hk => (ho.same k (Nat.lt_of_lt_of_le hk h.size) (fun hs => by have := hS k hs; omega)).trans (h.block k hk)⟩

theorem cycles_calls (A0 : Option Addr) (n0 c0 : Nat) (w : World) : Calls Try.prog 57 #[.slice A0 n0 c0] w fun e w' => e = .returned (.func (.func 61) #[] #[.pointer (some ⟨w.heap.size, 0, none⟩)]) ∧ w' = w.alloc (.cells #[.slice A0 n0 c0] 23) := by
  go_enter Try.func57, Try.ntmps57
  go_wp2
  go_ret
  exact ⟨rfl, rfl⟩

set_option maxHeartbeats 1000000 in
set_option maxRecDepth 100000 in
theorem parity_walk (A0 : Option Addr) (c0 : Nat) (p : List Int) (w : World) (hr0 : Kd.C (Kd.int .i64) w A0 p.length p) (hc0 : p.length ≤ c0) (hv : Aside0 (validB p = true)) :
    Calls Try.prog 39 #[.slice A0 p.length c0] w fun e w' => e = .returned (.int .i64 (Int.tmod (sumW (cycL p)) 2)) ∧ Below w.heap.size w w' := by
  have HR0 := Aside0.mk hr0
  have HC0 := Aside0.mk hc0
  have HV := Aside0.mk (perm_Valid.calls A0 c0 p true w hr0 hc0 (by unfold perm_Valid.f; rw [hv.out]))
  clear hr0 hc0
  refine (callsIn_wide (n := 5)).1 ?_
  refine callsIn_of_wp_marks Try.func39 rfl trivial ?_ rfl
  simp only [Try.ntmps39, List.size_toArray, List.length_cons, List.length_nil, Nat.reduceAdd, Nat.reduceSub, Array.replicate_succ, Array.replicate_zero, List.push_toArray, List.append_toArray, List.nil_append, List.cons_append]
  gi_wp2_with (
    first
    | (refine ⟨trivial, ?_⟩; gi_at_call 37; refine (callsIn_wide.2 HV.out).mono ?_; rintro e w1 ⟨rfl, hB1⟩; have HB1 := Aside0.mk hB1; clear hB1)
    | (refine ⟨trivial, ?_⟩; gi_at_call 57; refine (callsIn_wide.2 (cycles_calls _ _ _ _)).mono ?_; rintro e w2 ⟨rfl, rfl⟩))
  obtain ⟨ws, hws⟩ : ∃ ws, (w1.alloc (Obj.cells #[Value.int IntKind.i64 0] 3)).alloc (Obj.cells #[Value.slice A0 p.length c0] 23) = ws := ⟨_, rfl⟩
  have hsz : ws.heap.size = w1.heap.size + 2 := by rw [← hws]; simp
  have hle : w.heap.size ≤ w1.heap.size := HB1.out.size
  have hb : Below w.heap.size w ws := by rw [← hws]; exact (HB1.out.alloc hle _).alloc (by simp; omega) _
  have hn : At ws w1.heap.size (.int .i64 0) 3 := by
    rw [← hws]; exact (Below.heap_alloc _ _ _ (by simp)).trans (World.alloc_heap_new _ _)
  have hbx : At ws (w1.heap.size + 1) (.slice A0 p.length c0) 23 := by
    rw [← hws]; have := World.alloc_heap_new (w1.alloc (Obj.cells #[Value.int IntKind.i64 0] 3)) (Obj.cells #[Value.slice A0 p.length c0] 23); rwa [World.size_alloc] at this
  rw [hws]
  clear hws
  have HSZ := Aside0.mk hsz
  refine wpIn_cycles (w1.heap.size + 1) c0 A0 p hv.out rfl (enters_of Try.func61 (by kernel_rfl) rfl) rfl (by omega)
    (fun pre W => Below w.heap.size w W ∧ At W w1.heap.size (.int .i64 (sumW pre)) 3 ∧ At W (w1.heap.size + 1) (.slice A0 p.length c0) 23)
    (fun pre A h => ⟨h.2.2.cell, Kd.C_below HR0.out h.1⟩)
    (fun pre A B h ho => ⟨below_off (fun k hk => by omega) h.1 ho, h.2.1.off ho (by omega), h.2.2.off ho (by omega)⟩)
    ⟨hb, hn, hbx⟩
    (fun v => { tmps := #[.slice A0 p.length c0, undef, .int .i64 0, .pointer (some { block := w1.heap.size, off := 0 }), v, .slice A0 p.length c0, .bool true, .bool false, .slice A0 p.length c0, .func (Fn.func 61) #[] #[.pointer (some { block := w1.heap.size + 1, off := 0 })], v, undef, undef, undef, undef, undef, undef, undef], defers := [] }) ?assign ?body ?done
  case assign =>
    intro l v W K hK
    gi_wp2
    exact hK
  case body =>
    rintro l pre x v W0 W rest hc ⟨h1, h2, h3⟩ ho hz hR
    replace h1 := below_off (fun k hk => by omega) h1 ho
    replace h2 := h2.off ho (by omega)
    replace h3 := h3.off ho (by omega)
    clear ho hz
    obtain ⟨A5, c5, rfl, hl5, _⟩ := Kd.R_reads hR
    have hx8 : (x.length : Int) ≤ 8 := by
      have := cyc_len p p.length 0 [] x (by show x ∈ cycL p; rw [hc]; simp)
      omega
    have hc1 := h2.cell
    have hf1 := h2.frozen
    have H1 := Aside0.mk h1
    have H2 := Aside0.mk h2
    have H3 := Aside0.mk h3
    clear h1 h2 h3
    gi_wp2
    refine ⟨⟨by simp [World.setCell], fun k hk1 hk2 => Below.heap_setCell _ _ _ _ (by have := HSZ.out; simp; omega)⟩, ?_, ?_, ?_⟩
    · exact H1.out.setCell hle _
    · have := H2.out.set (u := .int .i64 (wrap64 (sumW pre + ((x.length : Int) - 1))))
      rw [sumW_snoc]
      exact this
    · exact (Below.heap_setCell _ _ _ _ (by simp)).trans H3.out
  case done =>
    rintro W ⟨h1, h2, h3⟩ hK
    have hc1 := h2.cell
    gi_wp2
    refine ⟨by simp, .inl ⟨_, _, rfl, run_takeDeferred hK, ?_⟩⟩
    refine ⟨_, results_tmp rfl _ _ _, rfl, ?_⟩
    exact below_off (S := fun k => k = ws.heap.size) (fun k hk => by omega) h1 (Off.put (S := fun k => k = ws.heap.size) (l := ws.heap.size) rfl _ _)

set_option maxHeartbeats 1000000 in
theorem perm_Parity.calls (A0 : Option Addr) (c0 : Nat) (l0 : List Int) (r : Int) (w : World) (hr0 : Kd.C (Kd.int .i64) w A0 l0.length l0) (hc0 : l0.length ≤ c0) (h : perm_Parity.f l0 = some r) :
    Calls Try.prog 39 #[.slice A0 l0.length c0] w fun e w' => e = .returned (.int .i64 r) ∧ Below w.heap.size w w' := by
  have h := Option.some.inj h
  by_cases hv : validB l0 = true
  · rw [if_pos hv] at h
    rw [← h]
    exact parity_walk A0 c0 l0 w hr0 hc0 ⟨hv⟩
  · rw [if_neg hv] at h
    subst h
    have HV := Aside0.mk (perm_Valid.calls A0 c0 l0 false w hr0 hc0 (by unfold perm_Valid.f; simp only [Bool.not_eq_true] at hv; rw [hv]))
    clear hr0 hc0 hv
    go_enter Try.func39, Try.ntmps39
    go_wp2_with (go_at_call 37; refine HV.out.mono ?_; rintro e w1 ⟨rfl, hB1⟩)
    go_ret
    exact ⟨rfl, hB1⟩
end Go.Proofs.Ytjfhogholmabfaa.Giv
