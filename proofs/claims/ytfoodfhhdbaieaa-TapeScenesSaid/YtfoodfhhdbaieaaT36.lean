-- CUT by a program of this session: what the claim does not use is left out
import Derived.Test.YtfoodfhhdbaieaaT18
namespace Go.Proofs.Ytfoodfhhdbaieaa.Giv
set_option linter.unusedSimpArgs false
set_option linter.unusedVariables false
open Go.RowKit Go.Shelf Go.Proofs.YtfoodfhhdbaieaaW.PrintWords Go.Proofs.YtfoodfhhdbaieaaW.PrintLast Go.Proofs.YtfoodfhhdbaieaaW.PrintMore
open Go.Proofs.Ytfoodfhhdbaieaa.Ka (S54 k54 z54 rd_T54 at_T54 k54_open k54_mk rd_L1 at_L1 info3 info25 info54)

theorem rd_mem {l : List Int} {i : Nat} (h : i < l.length) : rd l i ∈ l := by
  unfold rd
  rw [Int.toNat_natCast, List.getD_eq_getElem?_getD, List.getElem?_eq_getElem h]
  exact List.getElem_mem _
theorem rd_out {l : List Int} {i : Nat} (h : ¬ i < l.length) : rd l i = 0 := by
  unfold rd
  rw [Int.toNat_natCast, List.getD_eq_getElem?_getD, List.getElem?_eq_none (by omega)]
  rfl
theorem rdL_mem {l : List (List Int)} {i : Nat} (h : i < l.length) : rd_L1 l i ∈ l := by
  unfold rd_L1
  rw [Int.toNat_natCast, List.getD_eq_getElem?_getD, List.getElem?_eq_getElem h]
  exact List.getElem_mem _
theorem rdL_out {l : List (List Int)} {i : Nat} (h : ¬ i < l.length) : rd_L1 l i = [] := by
  unfold rd_L1
  rw [Int.toNat_natCast, List.getD_eq_getElem?_getD, List.getElem?_eq_none (by omega)]
  rfl
theorem any_not {α : Type} {p : α → Bool} {l : List α} (h : l.any p = false) : ∀ x ∈ l, p x = false := fun x hx => by
  cases hp : p x with
  | false => rfl
  | true => rw [List.any_eq_true.2 ⟨x, hx, hp⟩] at h; cases h
theorem scene_good {a0 a1 a2 : Int} {l : List S54} {s : Int} {at_ : List Int} {tp : List (List Int)} (h : sceneB a0 a1 a2 l s at_ tp = true) : validM a0 a1 a2 l = true ∧ Good a0 a1 a2.toNat 20000 20001 ⟨s, at_, tp⟩ := by
  unfold sceneB at h
  simp only [Bool.and_eq_true, Bool.not_eq_true', decide_eq_false_iff_not, beq_iff_eq] at h
  obtain ⟨⟨⟨⟨⟨⟨hv, h1⟩, h2⟩, h3⟩, h4⟩, h5⟩, h6⟩ := h
  obtain ⟨g0, g1, g2⟩ := valid_a2 hv
  refine ⟨hv, by show 0 ≤ s ∧ s < a0; omega, by show at_.length = _; omega, by show tp.length = _; omega, fun i => ?_, fun i => ?_, fun i j => ?_⟩
  · show 0 ≤ rd at_ i ∧ rd at_ i ≤ (20000 : Nat)
    by_cases hi : i < at_.length
    · have := any_not h5 _ (rd_mem hi)
      unfold outP at this
      simp only [Bool.or_eq_false_iff, decide_eq_false_iff_not] at this
      omega
    · rw [rd_out hi]; omega
  · show (rd_L1 tp i).length ≤ 20001
    by_cases hi : i < tp.length
    · have := any_not h6 _ (rdL_mem hi)
      unfold rowB at this
      simp only [Bool.or_eq_false_iff, decide_eq_false_iff_not] at this
      omega
    · rw [rdL_out hi]; simp
  · show 0 ≤ rd (rd_L1 tp i) j ∧ rd (rd_L1 tp i) j < a1
    by_cases hi : i < tp.length
    · by_cases hj : j < (rd_L1 tp i).length
      · have := any_not h6 _ (rdL_mem hi)
        unfold rowB at this
        rw [Bool.or_eq_false_iff] at this
        have := any_not this.2 _ (rd_mem hj)
        unfold outB at this
        simp only [Bool.or_eq_false_iff, decide_eq_false_iff_not] at this
        omega
      · rw [rd_out hj]; omega
    · rw [rdL_out hi, rd_out (by simp)]; omega
theorem scene_foot {w4 w5 u : World} {v : Value} {s : Int} {at_ : List Int} {tp : List (List Int)} (hv : ∀ w'' : World, (∀ k, w4.heap.size ≤ k → w''.heap[k]? = w5.heap[k]?) → SceneV w'' v s at_ tp) (hE : ∀ k, w4.heap.size ≤ k → k < w5.heap.size → u.heap[k]? = w5.heap[k]?) (hs : w5.heap.size ≤ u.heap.size) : SceneV u v s at_ tp := by
  refine SceneV_below (hv (trunc u w5.heap.size) (fun k hk => ?_)) (trunc_below hs)
  by_cases hk2 : k < w5.heap.size
  · rw [← trunc_block hs (Below.refl _ _) k hk2 |>.symm, hE k hk hk2]
  · rw [Array.getElem?_eq_none (by rw [trunc_size hs]; omega), Array.getElem?_eq_none (by omega)]
def stepQ (a0 a1 a2 : Int) (l : List S54) (s : Int) (at_ : List Int) (tp : List (List Int)) : Sc × Int :=
  if validM a0 a1 a2 l = false then (⟨0, [], []⟩, 1)
  else if sceneB a0 a1 a2 l s at_ tp = false then (⟨0, [], []⟩, 2)
  else match stepS l ⟨s, at_, tp⟩ with
    | none => (⟨0, [], []⟩, 6)
    | some d => if sceneB a0 a1 a2 l d.s d.at_ (d.tp.map trimL) = true then (⟨d.s, d.at_, d.tp.map trimL⟩, 0) else (⟨0, [], []⟩, 5)
def StepAns (w : World) (q : Sc × Int) (e : Ending) (w' : World) : Prop := ∃ v, e = .returned (.tuple #[v, .int .i64 q.2]) ∧ (∀ u : World, w'.heap.size ≤ u.heap.size → (∀ k, w.heap.size ≤ k → k < w'.heap.size → u.heap[k]? = w'.heap[k]?) → SceneV u v q.1.s q.1.at_ q.1.tp) ∧ Below w.heap.size w w'
theorem step_zero {w w1 W : World} {x : Int} (hBW : Below w.heap.size w W) (hb : Below W.heap.size W w1) {q : Sc × Int} (hq : q = (⟨0, [], []⟩, x)) : StepAns w q (.returned (.tuple #[.agg #[.int .i64 0, .slice none 0 0, .slice none 0 0], .int .i64 x])) (((w1.setCell ⟨w.heap.size + 2, 0, none⟩ (.int .i64 0)).setCell ⟨w.heap.size + 2, 1, none⟩ (.slice none 0 0)).setCell ⟨w.heap.size + 2, 2, none⟩ (.slice none 0 0)) := by
  subst hq
  refine ⟨_, rfl, fun _ _ _ => scene_zero _, ?_⟩
  have h1 : Below w.heap.size w w1 := below_step hBW hb
  exact ((h1.setCell (p := ⟨w.heap.size + 2, 0, none⟩) (by simp) _).setCell (p := ⟨w.heap.size + 2, 1, none⟩) (by simp) _).setCell (p := ⟨w.heap.size + 2, 2, none⟩) (by simp) _
set_option maxHeartbeats 2000000 in
set_option maxRecDepth 100000 in
theorem Step_walk (a0 a1 a2 : Int) (A : Option Addr) (c : Nat) (l : List S54) (s : Int) (A1 : Option Addr) (c1 : Nat) (at_ : List Int) (A2 : Option Addr) (c2 : Nat) (tp : List (List Int)) (w : World) (hr : Kd.C k54 w A l.length l) (h1 : Kd.C (Kd.int .i64) w A1 at_.length at_) (h2 : Kd.C (Kd.slice 3 (Kd.int .i64)) w A2 tp.length tp) :
    Calls Try.prog 29 #[.agg #[.int .i64 a0, .int .i64 a1, .int .i64 a2, .slice A l.length c], .agg #[.int .i64 s, .slice A1 at_.length c1, .slice A2 tp.length c2]] w (StepAns w (stepQ a0 a1 a2 l s at_ tp)) := by
  obtain ⟨W, hW⟩ : ∃ W, ((w.alloc (Obj.cells #[.int .i64 a0, .int .i64 a1, .int .i64 a2, .slice A l.length c] 24)).alloc (Obj.cells #[.int .i64 s, .slice A1 at_.length c1, .slice A2 tp.length c2] 32)).alloc (Obj.cells #[.int .i64 0, .slice none 0 0, .slice none 0 0] 32) = W := ⟨_, rfl⟩
  have hBW : Below w.heap.size w W := by rw [← hW]; exact (((Below.refl _ _).alloc (Nat.le_refl _) _).alloc (by simp) _).alloc (by simp; omega) _
  have z2 : w.heap.size + 2 < W.heap.size := by rw [← hW]; simp
  have z1 : w.heap.size + 1 < W.heap.size := by omega
  have z0 : w.heap.size < W.heap.size := by omega
  have m0 : W.cell? ⟨w.heap.size, 0, none⟩ = some (.int .i64 a0) := by subst hW; go_simp
  have m1 : W.cell? ⟨w.heap.size, 1, none⟩ = some (.int .i64 a1) := by subst hW; go_simp
  have m2 : W.cell? ⟨w.heap.size, 2, none⟩ = some (.int .i64 a2) := by subst hW; go_simp
  have m3 : W.cell? ⟨w.heap.size, 3, none⟩ = some (.slice A l.length c) := by subst hW; go_simp
  have n0 : W.cell? ⟨w.heap.size + 1, 0, none⟩ = some (.int .i64 s) := by subst hW; go_simp
  have n1 : W.cell? ⟨w.heap.size + 1, 1, none⟩ = some (.slice A1 at_.length c1) := by subst hW; go_simp
  have n2 : W.cell? ⟨w.heap.size + 1, 2, none⟩ = some (.slice A2 tp.length c2) := by subst hW; go_simp
  have x0 : W.cell? ⟨w.heap.size + 2, 0, none⟩ = some (.int .i64 0) := by subst hW; go_simp
  have x1 : W.cell? ⟨w.heap.size + 2, 1, none⟩ = some (.slice none 0 0) := by subst hW; go_simp
  have x2 : W.cell? ⟨w.heap.size + 2, 2, none⟩ = some (.slice none 0 0) := by subst hW; go_simp
  have y0 : W.frozen? ⟨w.heap.size + 2, 0, none⟩ = false := by subst hW; go_simp
  have y1 : W.frozen? ⟨w.heap.size + 2, 1, none⟩ = false := by subst hW; go_simp
  have y2 : W.frozen? ⟨w.heap.size + 2, 2, none⟩ = false := by subst hW; go_simp
  have HW := Aside0.mk hW
  have HBW := Aside0.mk hBW
  have HR := Aside0.mk (Kd.C_below hr hBW)
  have H1 := Aside0.mk (Kd.C_below h1 hBW)
  have H2 := Aside0.mk (Kd.C_below h2 hBW)
  clear hr h1 h2 hW hBW
  have HV := Aside0.mk (valid_calls a0 a1 a2 A c l W HR.out)
  have HSC : Aside0 (∀ w1, Below W.heap.size W w1 → Calls Try.prog 27 #[.agg #[.int .i64 a0, .int .i64 a1, .int .i64 a2, .slice A l.length c], .agg #[.int .i64 s, .slice A1 at_.length c1, .slice A2 tp.length c2]] w1 fun e w' => e = .returned (.bool (sceneB a0 a1 a2 l s at_ tp)) ∧ Below w1.heap.size w1 w') := ⟨fun w1 hb => scene_calls a0 a1 a2 A c l s A1 c1 at_ A2 c2 tp w1 (Kd.C_below HR.out hb) (Kd.C_below H1.out hb) (Kd.C_below H2.out hb)⟩
  by_cases hv : validM a0 a1 a2 l = false
  · have HQ : Aside0 (stepQ a0 a1 a2 l s at_ tp = (⟨0, [], []⟩, 1)) := ⟨by unfold stepQ; rw [if_pos hv]⟩
    rw [hv] at HV
    clear hv HSC
    go_enter Try.func29, Try.ntmps29
    go_wp2_with (go_at_call 39; rw [HW.out]; refine HV.out.mono ?_; rintro e w1 ⟨rfl, hb⟩; obtain ⟨hcc, hff⟩ := bcell hb; have HB := Aside0.mk hb; have zz := Nat.lt_of_lt_of_le z2 hb.size; clear hb)
    refine bodyPost_ret (v := .tuple #[.agg #[.int .i64 0, .slice none 0 0, .slice none 0 0], .int .i64 1]) (by simp [results, Try.results29, go_sem, hcc, hff, x0, x1, x2, y0, y1, y2, zz, z2]) rfl ?_
    exact step_zero HBW.out HB.out HQ.out
  · have hv' : validM a0 a1 a2 l = true := by simpa using hv
    by_cases hs : sceneB a0 a1 a2 l s at_ tp = false
    · have HQ : Aside0 (stepQ a0 a1 a2 l s at_ tp = (⟨0, [], []⟩, 2)) := ⟨by unfold stepQ; rw [if_neg hv, if_pos hs]⟩
      rw [hv'] at HV
      rw [hs] at HSC
      clear hv hv' hs
      go_enter Try.func29, Try.ntmps29
      go_wp2_with (first
        | (go_at_call 39; rw [HW.out]; refine HV.out.mono ?_; rintro e w1 ⟨rfl, hb⟩; obtain ⟨hcc1, hff1⟩ := bcell hb; have HB1 := Aside0.mk hb; clear hb)
        | (go_at_call 27; refine (HSC.out _ HB1.out).mono ?_; rintro e w2 ⟨rfl, hb0⟩; have hb := below_step HB1.out hb0; obtain ⟨hcc, hff⟩ := bcell hb; have HB := Aside0.mk hb; have zz := Nat.lt_of_lt_of_le z2 hb.size; clear hb hb0 hcc1 hff1))
      refine bodyPost_ret (v := .tuple #[.agg #[.int .i64 0, .slice none 0 0, .slice none 0 0], .int .i64 2]) (by simp [results, Try.results29, go_sem, hcc, hff, x0, x1, x2, y0, y1, y2, zz, z2]) rfl ?_
      exact step_zero HBW.out HB.out HQ.out
    · have hs' : sceneB a0 a1 a2 l s at_ tp = true := by simpa using hs
      obtain ⟨_, hG⟩ := scene_good hs'
      obtain ⟨hrs, hnd⟩ := valid_ok hv'
      obtain ⟨g0, g1, g2⟩ := valid_a2 hv'
      have HNEW : Aside0 (∀ w2, Below W.heap.size W w2 → Calls Try.prog 53 #[.agg #[.int .i64 a0, .int .i64 a1, .int .i64 a2, .slice A l.length c], .agg #[.int .i64 s, .slice A1 at_.length c1, .slice A2 tp.length c2]] w2 (NewOut W w2 s at_ tp l)) := ⟨fun w2 hb => new_walk a0 a1 a2 A c l s A1 c1 at_ A2 c2 tp W w2 hb HR.out (Kd.C_below H1.out hb) (Kd.C_below H2.out hb) (by have := hG.la; simp only at this; omega) (by have := hG.lt; simp only at this; omega) (fun i => by have := hG.len i; simp only at this; omega) (fun r hr => ruleOk_small g1.2 (by omega) (hrs r hr)) hnd⟩
      obtain ⟨D, hD⟩ : ∃ D, stepS l ⟨s, at_, tp⟩ = D := ⟨_, rfl⟩
      have HSTEP : Aside0 (∀ w2 w3 br bm v1 v2 vs L, Below W.heap.size W w2 → Below w2.heap.size w2 w3 → RunAt w3 w2.heap.size br bm s v1 at_ v2 vs vs tp L → AreKeys L → RulesAt W l L → Calls Try.prog 54 #[.pointer (some ⟨br, 0, none⟩)] w3 (StepRun l ⟨s, at_, tp⟩ w3 w2.heap.size br bm v1 v2 L D)) := ⟨fun w2 w3 br bm v1 v2 vs L hb2 hb3 hRA hK hRU => step_run (M := 20001) (b := 20000) (below_step hb2 hb3) hb2.size hRA hK hRU hnd hG (by omega) (by omega) g0.2 (by omega) (by omega) hrs D hD⟩
      have HG := Aside0.mk hG
      have HA2 := Aside0.mk g2
      rw [hv'] at HV
      rw [hs'] at HSC
      cases D with
      | none =>
        have HQ : Aside0 (stepQ a0 a1 a2 l s at_ tp = (⟨0, [], []⟩, 6)) := ⟨by unfold stepQ; rw [if_neg hv, if_neg hs, hD]⟩
        clear hv hv' hs hs' hG hrs hnd g0 g1 g2 hD
        go_enter Try.func29, Try.ntmps29
        go_wp2_with (first
          | (go_at_call 39; rw [HW.out]; refine HV.out.mono ?_; rintro e w1 ⟨rfl, hb⟩; obtain ⟨hcc1, hff1⟩ := bcell hb; have HB1 := Aside0.mk hb; clear hb)
          | (go_at_call 27; refine (HSC.out _ HB1.out).mono ?_; rintro e w2 ⟨rfl, hb0⟩; have hb := below_step HB1.out hb0; clear hcc1 hff1; obtain ⟨hcc2, hff2⟩ := bcell hb; have HB2 := Aside0.mk hb; clear hb hb0)
          | (go_at_call 53; refine (HNEW.out _ HB2.out).mono ?_; rintro e w3 ⟨br, bm, v1, v2, us, L, rfl, hRA, hK, hRU, hb⟩; have HB3 := Aside0.mk hb; have HRA := Aside0.mk hRA; have HK := Aside0.mk hK; have HRU := Aside0.mk hRU; clear hRA hK hRU hb hcc2 hff2)
          | (go_at_call 54; refine (HSTEP.out _ _ _ _ _ _ _ _ HB2.out HB3.out HRA.out HK.out HRU.out).mono ?_; rintro e w4 ⟨rfl, hb0⟩; have hb := below_step (below_step HB2.out HB3.out) hb0; obtain ⟨hcc, hff⟩ := bcell hb; have HB := Aside0.mk hb; have zz := Nat.lt_of_lt_of_le z2 hb.size; clear hb hb0))
        refine bodyPost_ret (v := .tuple #[.agg #[.int .i64 0, .slice none 0 0, .slice none 0 0], .int .i64 6]) (by simp [results, Try.results29, go_sem, hcc, hff, x0, x1, x2, y0, y1, y2, zz, z2]) rfl ?_
        exact step_zero HBW.out HB.out HQ.out
      | some d =>
        obtain ⟨tq, htq⟩ : ∃ tq, d.tp.map trimL = tq := ⟨_, rfl⟩
        obtain ⟨b3, hb3⟩ : ∃ b, sceneB a0 a1 a2 l d.s d.at_ tq = b := ⟨_, rfl⟩
        have HQ : Aside0 (stepQ a0 a1 a2 l s at_ tp = if b3 = true then (⟨d.s, d.at_, tq⟩, 0) else (⟨0, [], []⟩, 5)) := ⟨by unfold stepQ; rw [if_neg hv, if_neg hs, hD]; simp only [htq, hb3]⟩
        have hG' := good_step hG hrs hD
        have HG' := Aside0.mk hG'
        have HRES : Aside0 (∀ w4 B br bm v1 v2 vs L, RunAt w4 B br bm d.s v1 d.at_ v2 vs vs d.tp L → Calls Try.prog 45 #[.pointer (some ⟨br, 0, none⟩)] w4 (SceneOut w4 d.s d.at_ tq)) := ⟨fun w4 B br bm v1 v2 vs L hR => by
          obtain ⟨A1', c1', e1, hlc1, hC1⟩ := own_C hR.row1
          obtain ⟨A2', c2', e2, hlc2, hC2⟩ := own_C2 hR.row2 (hR.len2.trans hR.len1) hR.inner
          subst e1
          subst e2
          rw [← htq]
          exact result_walk w4 br bm d.s A1' c1' d.at_ A2' c2' d.tp hR.cells hC1 hC2 (by have := HG'.out.la; have := HA2.out; omega) (by have := HG'.out.lt; have := HA2.out; omega) (fun i => by have := HG'.out.len i; omega)⟩
        have HSC3 : Aside0 (∀ w6 X1 y1' X2 y2', Below W.heap.size W w6 → SceneV w6 (.agg #[.int .i64 d.s, .slice X1 d.at_.length y1', .slice X2 tq.length y2']) d.s d.at_ tq → Calls Try.prog 27 #[.agg #[.int .i64 a0, .int .i64 a1, .int .i64 a2, .slice A l.length c], .agg #[.int .i64 d.s, .slice X1 d.at_.length y1', .slice X2 tq.length y2']] w6 fun e w' => e = .returned (.bool b3) ∧ Below w6.heap.size w6 w') := ⟨fun w6 X1 y1' X2 y2' hb h => by
          obtain ⟨_, _, _, _, e, _, q1, _, q2⟩ := h
          simp only [Value.agg.injEq, Array.mk.injEq, List.cons.injEq, Value.slice.injEq] at e
          obtain ⟨_, ⟨e1, _, e2⟩, ⟨e3, _, e4⟩, _⟩ := e
          subst e1; subst e3
          rw [← hb3]
          exact scene_calls a0 a1 a2 A c l d.s _ _ d.at_ _ _ tq w6 (Kd.C_below HR.out hb) q1 q2⟩
        clear hv hv' hs hs' hG hrs hnd g0 g1 g2 hD htq hb3 hG' HG HG'
        cases b3
        all_goals (
            go_enter Try.func29, Try.ntmps29
            go_wp2_with (first
              | (go_at_call 27; obtain ⟨W6, hW6⟩ : ∃ W6, w5.alloc (Obj.cells #[.int .i64 d.s, .slice X1 d.at_.length y1', .slice X2 tq.length y2'] 32) = W6 := ⟨_, rfl⟩; rw [hW6]; have hb56 : Below w5.heap.size w5 W6 := (by rw [← hW6]; exact (Below.refl _ _).alloc (Nat.le_refl _) _); have hg6 : W6.heap[w5.heap.size]? = some (.cells #[.int .i64 d.s, .slice X1 d.at_.length y1', .slice X2 tq.length y2'] 32 (0, 0)) := (by rw [← hW6]; exact heap_alloc_new _ _); have zo := (Array.getElem?_eq_some_iff.1 hg6).1; refine (HSC3.out W6 _ _ _ _ (below_step HB5.out hb56) (SceneV_below (HVV.out w5 (fun _ _ => rfl)) hb56)).mono ?_; rintro e w7 ⟨rfl, hb7⟩; have hb := below_step (below_step HB5.out hb56) hb7; clear hcc5 hff5; obtain ⟨hcc, hff⟩ := bcell hb; obtain ⟨o0, o1, o2⟩ := trio_cells ((hb7.block _ zo).trans hg6); have HB57 := Aside0.mk (below_step hb56 hb7); have HB := Aside0.mk hb; have zz := Nat.lt_of_lt_of_le z2 hb.size; clear hW6 hb56 hg6 zo hb7 hb zz5 zz51 zz50)
              | (go_at_call 39; rw [HW.out]; refine HV.out.mono ?_; rintro e w1 ⟨rfl, hb⟩; obtain ⟨hcc1, hff1⟩ := bcell hb; have HB1 := Aside0.mk hb; clear hb)
              | (go_at_call 27; refine (HSC.out _ HB1.out).mono ?_; rintro e w2 ⟨rfl, hb0⟩; have hb := below_step HB1.out hb0; clear hcc1 hff1; obtain ⟨hcc2, hff2⟩ := bcell hb; have HB2 := Aside0.mk hb; clear hb hb0)
              | (go_at_call 53; refine (HNEW.out _ HB2.out).mono ?_; rintro e w3 ⟨br, bm, v1, v2, us, L, rfl, hRA, hK, hRU, hb⟩; have HB3 := Aside0.mk hb; have HRA := Aside0.mk hRA; have HK := Aside0.mk hK; have HRU := Aside0.mk hRU; clear hRA hK hRU hb hcc2 hff2)
              | (go_at_call 54; refine (HSTEP.out _ _ _ _ _ _ _ _ HB2.out HB3.out HRA.out HK.out HRU.out).mono ?_; rintro e w4 ⟨rfl, hKp, vs', hRA4⟩; have hb := hKp.below (below_step HB2.out HB3.out) HB2.out.size (fun k h => by cases h); have HB4 := Aside0.mk hb; have HRA4 := Aside0.mk hRA4; clear hb hKp hRA4)
              | (go_at_call 45; refine (HRES.out _ _ _ _ _ _ _ _ HRA4.out).mono ?_; rintro e w5 ⟨v, rfl, hv, hb0⟩; obtain ⟨X1, y1', X2, y2', rfl, _, _, _, _⟩ := hv w5 (fun _ _ => rfl); have HVV := Aside0.mk hv; have HB45 := Aside0.mk hb0; have hb := below_step HB4.out hb0; obtain ⟨hcc5, hff5⟩ := bcell hb; have HB5 := Aside0.mk hb; have zz5 := Nat.lt_of_lt_of_le z2 hb.size; have zz51 := Nat.lt_of_lt_of_le z1 hb.size; have zz50 := Nat.lt_of_lt_of_le z0 hb.size; clear hv hb hb0)))
        · refine bodyPost_ret (v := .tuple #[.agg #[.int .i64 0, .slice none 0 0, .slice none 0 0], .int .i64 5]) (by simp [results, Try.results29, go_sem, hcc, hff, x0, x1, x2, y0, y1, y2, zz, z2]) rfl ?_
          exact step_zero HBW.out HB.out (HQ.out.trans (if_neg (by decide)))
        · refine bodyPost_ret (v := .tuple #[.agg #[.int .i64 d.s, .slice X1 d.at_.length y1', .slice X2 tq.length y2'], .int .i64 0]) (by simp [results, Try.results29, go_sem, hcc, hff, x0, x1, x2, y0, y1, y2, zz, z2]) rfl ?_
          rw [HQ.out.trans (if_pos (by trivial))]
          have hsz : (((w7.setCell ⟨w.heap.size + 2, 0, none⟩ (.int .i64 d.s)).setCell ⟨w.heap.size + 2, 1, none⟩ (.slice X1 d.at_.length y1')).setCell ⟨w.heap.size + 2, 2, none⟩ (.slice X2 tq.length y2')).heap.size = w7.heap.size := by simp
          refine ⟨_, rfl, fun u hu hag => ?_, ?_⟩
          · show SceneV u _ d.s d.at_ tq
            have hu' : w7.heap.size ≤ u.heap.size := Nat.le_trans (Nat.le_of_eq hsz.symm) hu
            refine scene_foot HVV.out (fun k h1 h2 => ?_) (Nat.le_trans HB57.out.size hu')
            have hk4 : W.heap.size ≤ k := Nat.le_trans HB4.out.size h1
            have hk7 : k < w7.heap.size := Nat.lt_of_lt_of_le h2 HB57.out.size
            refine (hag k (by omega) (Nat.lt_of_lt_of_eq hk7 hsz.symm)).trans ?_
            have hne : (⟨w.heap.size + 2, 0, none⟩ : Addr).block ≠ k := by show w.heap.size + 2 ≠ k; omega
            refine ((heap_setCell_other _ ⟨w.heap.size + 2, 2, none⟩ k _ hne.symm).trans ((heap_setCell_other _ ⟨w.heap.size + 2, 1, none⟩ k _ hne.symm).trans (heap_setCell_other _ ⟨w.heap.size + 2, 0, none⟩ k _ hne.symm))).trans ?_
            exact HB57.out.block k h2
          · have h1 : Below w.heap.size w w7 := below_step HBW.out HB.out
            exact ((h1.setCell (p := ⟨w.heap.size + 2, 0, none⟩) (by simp) _).setCell (p := ⟨w.heap.size + 2, 1, none⟩) (by simp) _).setCell (p := ⟨w.heap.size + 2, 2, none⟩) (by simp) _
end Go.Proofs.Ytfoodfhhdbaieaa.Giv
