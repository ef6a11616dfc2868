-- CUT by a program of this session: what the claim does not use is left out
import Derived.Test.YtjfhogholmabfaaO1
import Derived.Test.YtjfhogholmabfaaPax6
import Derived.Test.YtjfhogholmabfaaPax9
namespace Go.Proofs.Ytjfhogholmabfaa.Giv
set_option linter.unusedVariables false
set_option linter.unusedSimpArgs false
open Go.RowKit Go.Proofs.YtjfhogholmabfaaW.PrintWords Go.Proofs.YtjfhogholmabfaaW.PrintLast Go.Proofs.YtjfhogholmabfaaW.PrintMore
open Go.Proofs.Ytjfhogholmabfaa.Pure (Ev1 EvC EvS w64)
open Go.Proofs.Ytjfhogholmabfaa.Pa

theorem C_two {w : World} {b t : Nat} {cs : Array Value} {fr : Nat × Nat} {v0 v1 : Value} {x0 x1 : List Int} (hb : w.heap[b]? = some (.cells cs t fr)) (hcs : cs = #[v0, v1])
    (h0 : (Kd.slice 3 (Kd.int .i64)).K w x0 [v0]) (h1 : (Kd.slice 3 (Kd.int .i64)).K w x1 [v1]) : Kd.C (Kd.slice 3 (Kd.int .i64)) w (some ⟨b, 0, none⟩) 2 [x0, x1] := by
  subst hcs
  refine ⟨rfl, by decide, fun _ => ⟨⟨b, 0, none⟩, rfl, fun j p hj => ?_⟩⟩
  rcases j with _ | _ | j
  · simp at hj; subst hj
    refine ⟨[v0], rfl, h0, fun i u hu => ?_⟩
    rcases i with _ | i
    · simp at hu; subst hu
      simp [World.cell?, Addr.add, hb, Kd.slice]
    · simp at hu
  · simp at hj; subst hj
    refine ⟨[v1], rfl, h1, fun i u hu => ?_⟩
    rcases i with _ | i
    · simp at hu; subst hu
      simp [World.cell?, Addr.add, hb, Kd.slice]
    · simp at hu
  · simp at hj

def Arr5 (w : World) (b : Nat) (c : Nat → Value) : Prop := ∃ cs : Array Value, w.heap[b]? = some (.cells cs 58 (0, 0)) ∧ cs.size = 5 ∧ ∀ j, j < 5 → cs[j]? = some (c j)
theorem Arr5.cell {w : World} {b : Nat} {c : Nat → Value} (h : Arr5 w b c) (j : Nat) (hj : j < 5) : w.cell? ⟨b, j, none⟩ = some (c j) ∧ w.frozen? ⟨b, j, none⟩ = false := by
  obtain ⟨cs, h1, h2, h3⟩ := h
  exact ⟨by simp [World.cell?, h1, h3 j hj], by simp [World.frozen?, h1]⟩
theorem Arr5.lt {w : World} {b : Nat} {c : Nat → Value} (h : Arr5 w b c) : b < w.heap.size := by
  obtain ⟨cs, h1, _⟩ := h
  exact (Array.getElem?_eq_some_iff.1 h1).1
theorem Arr5.move {w w1 : World} {b : Nat} {c : Nat → Value} (h : Arr5 w b c) (hm : w1.heap[b]? = w.heap[b]?) : Arr5 w1 b c := by
  obtain ⟨cs, h1, h2⟩ := h
  exact ⟨cs, hm.trans h1, h2⟩
theorem Arr5.set {w : World} {b : Nat} {c : Nat → Value} (h : Arr5 w b c) (i : Nat) (u : Value) : Arr5 (w.setCell ⟨b, i, none⟩ u) b (fun j => if j = i then u else c j) := by
  obtain ⟨cs, h1, h2, h3⟩ := h
  refine ⟨cs.setIfInBounds i u, ?_, by simp [h2], fun j hj => ?_⟩
  · obtain ⟨hlt, he⟩ := Array.getElem?_eq_some_iff.1 h1
    rw [World.setCell, Array.getElem?_eq_getElem (by simpa using hlt)]
    simp [Array.getElem_modify, he]
  · by_cases e : i = j
    · subst e
      rw [Array.getElem?_setIfInBounds_self_of_lt (by omega)]
      simp
    · rw [Array.getElem?_setIfInBounds_ne e, h3 j hj]
      simp [show ¬ j = i from fun h => e h.symm]
theorem Arr5.same {w : World} {b : Nat} {c c' : Nat → Value} (h : Arr5 w b c) (he : ∀ j, j < 5 → c j = c' j) : Arr5 w b c' := by
  obtain ⟨cs, h1, h2, h3⟩ := h
  exact ⟨cs, h1, h2, fun j hj => by rw [← he j hj]; exact h3 j hj⟩

structure Res (K : Nat) (l0 l1 : List Int) (a2 : Int) (r : Nat → List Int) (em ec ei ep ej : Int) (cy : List (List Int)) : Prop where
  mul : perm_Mul.f K l0 l1 = some (r 0, em)
  com : perm_Commutator.f K l0 l1 = some (r 1, ec)
  inv : perm_Inverse.f K l0 = some (r 2, ei)
  pow : perm_Power.f K l0 a2 = some (r 3, ep)
  con : perm_Conjugator.f K l0 l1 = some (r 4, ej)
  cyc : perm_Cycles.f l0 = some cy
  len : ∀ j, j < 5 → (r j).length ≤ 1000000
  l0len : l0.length ≤ 1000000
  l1len : l1.length ≤ 1000000
  cylen : cy.length ≤ 1000000
  same : ∀ j, j < 5 → commodatumref01_Same.f K (r j) (r j) = some true
  same0 : commodatumref01_Same.f K l0 l0 = some true
  same1 : commodatumref01_Same.f K l1 l1 = some true
  spoil : ∀ j, j < 5 → commodatumlaw01_Spoil.f K (r j) = some ()
  spoilL : ∀ x ∈ cy, commodatumlaw01_SpoilInts.f K x = some ()
  alive : commodatumlaw01_alive.f K = some true

theorem permOwn_long (K : Nat) (A0 : Option Addr) (c0 : Nat) (l0 : List Int) (A1 : Option Addr) (c1 : Nat) (l1 : List Int) (a2 : Int) (w : World) (hr0 : Kd.C (Kd.int .i64) w A0 l0.length l0) (hc0 : l0.length ≤ c0) (hr1 : Kd.C (Kd.int .i64) w A1 l1.length l1) (hc1 : l1.length ≤ c1)
    (hs : commodatumlaw01_short.f K [l0, l1] = some false) (ha : commodatumlaw01_alive.f K = some true) :
    Calls Try.prog 12 #[.slice A0 l0.length c0, .slice A1 l1.length c1, .int .i64 a2] w fun e w' => e = .returned (.bool true) ∧ Below w.heap.size w w' := by
  have H0 := Aside0.mk hr0
  have H1 := Aside0.mk hr1
  have HC0 := Aside0.mk hc0
  have HC1 := Aside0.mk hc1
  have HS := Aside0.mk hs
  have HA := Aside0.mk ha
  clear hr0 hr1 hc0 hc1 hs ha
  go_enter Try.func12, Try.ntmps12
  go_wp2_with (first | (go_at_call 13; refine (commodatumlaw01_short.calls K _ _ [l0, l1] false _ (C_two (heap_alloc_new _ _) rfl ⟨_, _, rfl, HC0.out, Kd.C_alloc H0.out _⟩ ⟨_, _, rfl, HC1.out, Kd.C_alloc H1.out _⟩) (Nat.le_refl 2) HS.out).mono ?_; rintro e w1 ⟨rfl, hd⟩; obtain ⟨nq, rfl⟩ := hd.out) | (go_at_call 14; refine (commodatumlaw01_alive.calls K true _ HA.out).mono ?_; rintro e w2 ⟨rfl, hb⟩; have HB := Aside0.mk hb; clear hb))
  go_ret
  exact ⟨rfl, below_step (pw_below_drewN (below_alloc (Below.refl _ _) _) nq) HB.out⟩

theorem Mine.wide {w : World} {lo hi lo' hi' : Nat} {v : Value} {xs : List Int} (h : Mine w lo hi v xs) (h1 : lo' ≤ lo) (h2 : hi ≤ hi') : Mine w lo' hi' v xs :=
  Kd.R_mono (Kd.R_lower h h1) (fun k hk => ⟨by omega, by omega⟩)
theorem Mine.below {w w1 : World} {lo hi B : Nat} {v : Value} {xs : List Int} (h : Mine w lo hi v xs) (hb : Below B w w1) (hh : hi ≤ B) (hB : B ≤ w.heap.size) : Mine w1 lo hi v xs :=
  h.move (fun k h1 h2 => hb.block k (by omega))
theorem Mine.kept {w w1 : World} {lo hi : Nat} {S : Nat → Prop} {v : Value} {xs : List Int} (h : Mine w lo hi v xs) (hk : Kept w w1 S) (hS : ∀ k, lo ≤ k → k < hi → ¬ S k) : Mine w1 lo hi v xs :=
  Kd.R_kept h hk (fun k hk => hS k hk.1 hk.2)
theorem Mine.far {w : World} {lo hi b i : Nat} {v : Value} {xs : List Int} (h : Mine w lo hi v xs) (hb : b < lo ∨ hi ≤ b) (u : Value) : Mine (w.setCell ⟨b, i, none⟩ u) lo hi v xs :=
  h.move (fun k h1 h2 => Below.heap_setCell w ⟨b, i, none⟩ u k (by show k ≠ b; omega))
theorem Arr5.kept {w w1 : World} {b : Nat} {c : Nat → Value} {S : Nat → Prop} (h : Arr5 w b c) (hk : Kept w w1 S) (hb : ¬ S b) : Arr5 w1 b c := h.move (hk.2 b h.lt hb)
theorem Arr5.far {w : World} {b b' i : Nat} {c : Nat → Value} (h : Arr5 w b c) (hb : b ≠ b') (u : Value) : Arr5 (w.setCell ⟨b', i, none⟩ u) b c := h.move (Below.heap_setCell w ⟨b', i, none⟩ u b hb)
theorem own_build0 (W : World) {base : Nat} (h : base ≤ W.heap.size) : (W.alloc (.cells #[] 3)).ownsRow base 3 1 (.slice (some ⟨W.heap.size, 0, none⟩) 0 0) 0 [] :=
  ⟨rfl, .inr ⟨W.heap.size, 0, #[], rfl, h, heap_alloc_new _ _, Nat.le_refl _, by decide, rfl, rfl⟩⟩
theorem copy_event {ops : Array Oper} {rest : List Oper} {o : Oper} {a : Act} {Q : Exit → Act → World → Prop} {W : World} {A : Option Addr} {c : Nat} {l : List Int} (hgd : o.guard = none) (s x : Operand)
    (hop : o.op = Op.call { callee := Callee.builtin Builtin.append, args := #[s, x], argTypes := #[23, 23] }) (hs : a.eval s = .slice (some ⟨W.heap.size, 0, none⟩) 0 0) (hx : a.eval x = .slice A l.length c)
    (hC : Kd.C (Kd.int .i64) W A l.length l) (hl : l.length ≤ 1000000)
    (h : ∀ B cb w1, Mine w1 W.heap.size w1.heap.size (.slice B l.length cb) l → Below W.heap.size W w1 → wpList Try.prog ops Q rest (a.put o.dst (.slice B l.length cb)) w1) : wpList Try.prog ops Q (o :: rest) a (W.alloc (.cells #[] 3)) := by
  have hb1 : Below W.heap.size W (W.alloc (.cells #[] 3)) := below_alloc (Below.refl _ _) _
  refine Kd.R_append_row (Value.int .i64) (0 : Int) (h1 := fun _ => rfl) (w0 := W) W.heap.size hgd s x 23 3 (.int .i64 0) 8 hop Try.underlying23 info3 rfl (by decide) _ [] l A l.length c (fun _ => True) hs hx (fun _ _ => trivial)
    (Kd.R_of_own (own_build0 W (Nat.le_refl _)) (fun _ _ => trivial)) (Kd.C_below hC hb1) hb1 hb1.size (by simp; omega) ?_
  intro v1 w1 hR hb hg hat
  obtain ⟨B, cb, rfl⟩ := Kd.R_slice hR
  rw [List.nil_append] at hR ⊢
  exact h B cb w1 (Mine.of hR) hb

structure Stage (W0 : World) (bK : Nat) (r : Nat → List Int) (i : Nat) (A : Nat → Option Addr) (c lo : Nat → Nat) (W : World) : Prop where
  below : Below W0.heap.size W0 W
  arrL : Arr5 W W0.heap.size (fun j => if j < i then .slice (A j) (r j).length (c j) else .slice none 0 0)
  arrK : Arr5 W bK (fun _ => .slice none 0 0)
  mono : ∀ j, j < i → lo j ≤ lo (j + 1)
  lo0 : bK < lo 0
  rows : ∀ j, j < i → Mine W (lo j) (lo (j + 1)) (.slice (A j) (r j).length (c j)) (r j)
  top : lo i ≤ W.heap.size
  bks : W0.heap.size < bK
theorem Stage.lo_le {W0 : World} {bK : Nat} {r : Nat → List Int} {i : Nat} {A : Nat → Option Addr} {c lo : Nat → Nat} {W : World} (h : Stage W0 bK r i A c lo W) : ∀ j k, j ≤ k → k ≤ i → lo j ≤ lo k := by
  intro j k hjk
  induction k with
  | zero => intro _; have : j = 0 := by omega
            subst this; exact Nat.le_refl _
  | succ k ih =>
    intro hk
    by_cases e : j = k + 1
    · subst e; exact Nat.le_refl _
    · have := ih (by omega) (by omega)
      have := h.mono k (by omega)
      omega
theorem Stage.step {W0 : World} {bK : Nat} {r : Nat → List Int} {i : Nat} {A : Nat → Option Addr} {c lo : Nat → Nat} {W w1 : World} (h : Stage W0 bK r i A c lo W) {B : Option Addr} {cb : Nat} (hi : i < 5)
    (hM : Mine w1 W.heap.size w1.heap.size (.slice B (r i).length cb) (r i)) (hb : Below W.heap.size W w1) : ∃ A c lo, Stage W0 bK r (i + 1) A c lo (w1.setCell ⟨W0.heap.size, i, none⟩ (.slice B (r i).length cb)) := by
  have hL := h.arrL.lt
  have hKl := h.arrK.lt
  refine ⟨fun j => if j = i then B else A j, fun j => if j = i then cb else c j, fun j => if j ≤ i then lo j else w1.heap.size, ?_⟩
  have hlo : ∀ j, j ≤ i → lo 0 ≤ lo j ∧ lo j ≤ lo i := fun j hj => ⟨h.lo_le 0 j (by omega) hj, h.lo_le j i hj (Nat.le_refl _)⟩
  have hs := hb.size
  have h0 := h.lo0
  have hbk := h.bks
  have ht := h.top
  refine ⟨(h.below.trans (hb.mono h.below.size)).setCell (p := ⟨W0.heap.size, i, none⟩) (Nat.le_refl _) _, ?_, (h.arrK.move (hb.block bK hKl)).far (by omega) _, ?_, ?_, ?_, ?_, h.bks⟩
  · refine ((h.arrL.move (hb.block _ hL)).set i _).same (fun j hj => ?_)
    by_cases e : j = i
    · subst e; simp
    · have : (j < i + 1) = (j < i) := by simp; omega
      simp only [e, if_false, this]
  · intro j hj
    by_cases e : j = i
    · subst e; simp only [Nat.le_refl, if_true, show ¬ j + 1 ≤ j by omega, if_false]; omega
    · simp only [show j ≤ i by omega, show j + 1 ≤ i by omega, if_true]; exact h.mono j (by omega)
  · simp; exact h.lo0
  · intro j hj
    by_cases e : j = i
    · subst e
      simp only [Nat.le_refl, if_true, show ¬ j + 1 ≤ j by omega, if_false]
      exact ((hM.wide (lo' := lo j) (hi' := w1.heap.size) ht (Nat.le_refl _)).far (.inl (by have := hlo j (Nat.le_refl _); omega)) _)
    · simp only [e, if_false, show j ≤ i by omega, show j + 1 ≤ i by omega, if_true]
      have h2 := hlo (j + 1) (by omega)
      have h3 := hlo j (by omega)
      exact ((h.rows j (by omega)).below hb (by omega) (Nat.le_refl _)).far (.inl (by omega)) _
  · show (if i + 1 ≤ i then lo (i + 1) else w1.heap.size) ≤ _
    rw [if_neg (by omega)]; simp
theorem Stage.start {W0 : World} (r : Nat → List Int) {W : World} (hW : (W0.alloc (.cells #[.slice none 0 0, .slice none 0 0, .slice none 0 0, .slice none 0 0, .slice none 0 0] 58)).alloc (.cells #[.slice none 0 0, .slice none 0 0, .slice none 0 0, .slice none 0 0, .slice none 0 0] 58) = W) :
    ∃ A c lo, Stage W0 (W0.heap.size + 1) r 0 A c lo W := by
  refine ⟨fun _ => none, fun _ => 0, fun _ => W.heap.size, ?_⟩
  subst hW
  refine ⟨below_alloc (below_alloc (Below.refl _ _) _) _, ⟨_, by rw [heap_alloc_old (h := by simp)]; exact heap_alloc_new _ _, rfl, fun j hj => ?_⟩, ⟨_, by have := heap_alloc_new (W0.alloc (.cells #[.slice none 0 0, .slice none 0 0, .slice none 0 0, .slice none 0 0, .slice none 0 0] 58)) (.cells #[.slice none 0 0, .slice none 0 0, .slice none 0 0, .slice none 0 0, .slice none 0 0] 58); simpa using this, rfl, fun j hj => ?_⟩, fun j h => absurd h (by omega), by simp, fun j h => absurd h (by omega), Nat.le_refl _, by omega⟩
  · rcases j with _ | _ | _ | _ | _ | j <;> first | rfl | omega
  · rcases j with _ | _ | _ | _ | _ | j <;> first | rfl | omega

end Go.Proofs.Ytjfhogholmabfaa.Giv
