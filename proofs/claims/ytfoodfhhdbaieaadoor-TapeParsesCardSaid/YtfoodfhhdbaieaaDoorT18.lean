-- CUT by a program of this session: what the claim does not use is left out
import Derived.Test.YtfoodfhhdbaieaaDoorT17
namespace Go.Proofs.YtfoodfhhdbaieaaDoor.Giv
set_option maxRecDepth 100000
set_option linter.unusedSimpArgs false
set_option linter.unusedVariables false
open Go.RowKit Go.Shelf Go.Proofs.YtfoodfhhdbaieaaDoorW.PrintWords Go.Proofs.YtfoodfhhdbaieaaDoorW.PrintLast Go.Proofs.YtfoodfhhdbaieaaDoorW.PrintMore
open Go.Proofs.YtfoodfhhdbaieaaDoor.Ka (S40 k40 z40 rd_T40 at_T40 k40_open k40_mk rd_L1 at_L1 info3 info38 info40)

def startSc (a2 : Int) (inp : List Int) : Sc := ⟨0, List.replicate a2.toNat 0, trimL inp :: List.replicate (a2.toNat - 1) []⟩
def errF (a0 a1 a2 : Int) (l : List S40) (inp : List Int) (most : Int) : Int :=
 if validM a0 a1 a2 l = false then 1 else if startBad a1 inp = true then 2 else if most < 0 ∨ 20000 < most then 2 else 0
theorem rd_take {l : List Int} {k j : Nat} : rd (l.take k) j = if j < k then rd l j else 0 := by
 simp only [rd, List.getD_eq_getElem?_getD, Int.toNat_natCast, List.getElem?_take]
 split <;> rfl
theorem rd_rep (m : Nat) (j : Nat) : rd (List.replicate m 0) j = 0 := by
 simp only [rd, List.getD_eq_getElem?_getD, Int.toNat_natCast, List.getElem?_replicate]
 split <;> rfl
theorem rdL_start (l : List Int) (m j : Nat) : rd_L1 (l :: List.replicate m []) j = if j = 0 then l else [] := by
 cases j with
 | zero => rfl
 | succ j =>
  rw [if_neg (by omega)]
  have e : ((j + 1 : Nat) : Int).toNat = j + 1 := by omega
  simp only [rd_L1, List.getD_eq_getElem?_getD, e, List.getElem?_cons_succ, List.getElem?_replicate]
  split <;> rfl
theorem start_good {a0 a1 a2 : Int} {l : List S40} {inp : List Int} (hv : validM a0 a1 a2 l = true) (hs : startBad a1 inp = false) : Good a0 a1 a2.toNat 0 20001 (startSc a2 inp) := by
 obtain ⟨h0, h1, h2⟩ := valid_a2 hv
 unfold startBad at hs
 rw [Bool.or_eq_false_iff] at hs
 have hlen : ¬ (20000 < (inp.length : Int)) := of_decide_eq_false hs.1
 have hin : ∀ j : Nat, 0 ≤ rd inp j ∧ rd inp j < a1 := fun j => by
  by_cases hj : j < inp.length
  ·have e : rd inp j = inp[j] := by simp [rd, List.getD_eq_getElem?_getD, hj]
   have := List.any_eq_false.1 hs.2 (inp[j]) (List.getElem_mem hj)
   simp only [outB, Bool.or_eq_true, decide_eq_true_eq] at this
   rw [e]; omega
  ·rw [rd_over (by omega)]; omega
 refine ⟨by simp only [startSc]; omega, by simp [startSc], by simp [startSc]; omega, fun i => by simp only [startSc]; rw [rd_rep]; omega, fun i => ?_, fun i j => ?_⟩
 ·simp only [startSc]
  rw [rdL_start]
  split
  ·unfold trimL; simp; omega
  ·simp
 ·simp only [startSc]
  rw [rdL_start]
  split
  ·unfold trimL
   rw [rd_take]
   split
   ·exact hin j
   ·omega
  ·rw [rd_over (by simp)]; omega
theorem ruleOk_small {a0 a1 : Int} {n : Nat} {r : S40} (h1 : a1 ≤ 8) (hn : n ≤ 3) (h : RuleOk a0 a1 n r) : Small (keyL r.f0 r.f1) ∧ r.f1.length ≤ 3 := by
 refine ⟨fun x hx => ?_, by rw [h.l1]; exact hn⟩
 simp only [keyL, List.mem_cons, List.not_mem_nil, or_false] at hx
 have := h.from_
 have u0 := h.read 0
 have u1 := h.read 1
 have u2 := h.read 2
 rcases hx with rfl | rfl | rfl | rfl
 ·omega
 ·simp at u0; omega
 ·simp at u1; omega
 ·simp at u2; omega
theorem run_bad (a0 a1 a2 : Int) (A : Option Addr) (c : Nat) (l : List S40) (A5 : Option Addr) (c5 : Nat) (inp : List Int) (most : Int) (g : Nat) (lb : Array Value) (w : World) (hr : Kd.C k40 w A l.length l) (h5 : Kd.C (Kd.int .i64) w A5 inp.length inp) (hlc : inp.length ≤ c5) (er : Int) (he : errF a0 a1 a2 l inp most = er) (h0 : er ≠ 0) :
  Calls Tryd.prog 30 #[.agg #[.int .i64 a0, .int .i64 a1, .int .i64 a2, .slice A l.length c], .slice A5 inp.length c5, .int .i64 most, .func (.func g) #[] lb] w (RunBad w er) := by
 unfold errF at he
 by_cases hv : validM a0 a1 a2 l = false
 ·rw [if_pos hv] at he
  exact run_start_err a0 a1 a2 A c l A5 c5 inp most g lb w hr h5 hlc er (by unfold startF; rw [if_pos hv]; exact he) h0
 ·rw [if_neg hv] at he
  by_cases hs : startBad a1 inp = true
  ·rw [if_pos hs] at he
   exact run_start_err a0 a1 a2 A c l A5 c5 inp most g lb w hr h5 hlc er (by unfold startF; rw [if_neg hv, if_pos hs]; exact he) h0
  ·rw [if_neg hs] at he
   by_cases hm : most < 0 ∨ 20000 < most
   ·rw [if_pos hm] at he
    subst he
    exact run_many_err a0 a1 a2 A c l A5 c5 inp most g lb w hr h5 hlc (by unfold startF; rw [if_neg hv, if_neg hs]) hm
   ·rw [if_neg hm] at he
    exact absurd he.symm h0
theorem errF_ok {a0 a1 a2 : Int} {l : List S40} {inp : List Int} {most : Int} (he : errF a0 a1 a2 l inp most = 0) : validM a0 a1 a2 l = true ∧ startBad a1 inp = false ∧ 0 ≤ most ∧ most ≤ 20000 := by
 unfold errF at he
 by_cases hv : validM a0 a1 a2 l = false
 ·rw [if_pos hv] at he; omega
 ·rw [if_neg hv] at he
  by_cases hs : startBad a1 inp = true
  ·rw [if_pos hs] at he; omega
  ·rw [if_neg hs] at he
   by_cases hm : most < 0 ∨ 20000 < most
   ·rw [if_pos hm] at he; omega
   ·exact ⟨by simpa using hv, by simpa using hs, by omega, by omega⟩
theorem run_good {σ : Type} (a0 a1 a2 : Int) (A : Option Addr) (c : Nat) (l : List S40) (A5 : Option Addr) (c5 : Nat) (inp : List Int) (most : Int) (g : Nat) (lb : Array Value) (J : World → σ → Prop) (f : σ → List Int → σ) (gf : Option Nat) (E : Nat) (HO : SeeOk g lb J f gf a2.toNat E) (wM w : World) (hM : Below wM.heap.size wM w) (hE : E ≤ w.heap.size) (hME : wM.heap.size ≤ E) (hgf : ∀ k, gf = some k → wM.heap.size ≤ k ∧ k < E)
  (hr : Kd.C k40 wM A l.length l) (h5 : Kd.C (Kd.int .i64) w A5 inp.length inp) (hlc : inp.length ≤ c5) (he : errF a0 a1 a2 l inp most = 0) (st0 : σ) (hJ : J w st0) :
  Calls Tryd.prog 30 #[.agg #[.int .i64 a0, .int .i64 a1, .int .i64 a2, .slice A l.length c], .slice A5 inp.length c5, .int .i64 most, .func (.func g) #[] lb] w (RunOut l a0 a1 a2.toNat J gf wM w (runS l most.toNat (startSc a2 inp)).1 (runS l most.toNat (startSc a2 inp)).2 (farS f l most.toNat (startSc a2 inp) (f st0 (startSc a2 inp).at_))) := by
 obtain ⟨hv, hs, m0, m1⟩ := errF_ok he
 obtain ⟨h0, h1, h2⟩ := valid_a2 hv
 obtain ⟨hrs, hnd⟩ := valid_ok hv
 exact run_ok a0 a1 a2 A c l A5 c5 inp most g lb J f gf a2.toNat E HO wM w hM hE hME hgf hr h5 hlc (startSc a2 inp) (by unfold startF; rw [if_neg (by rw [hv]; simp), if_neg (by rw [hs]; simp)]; rfl) (start_good hv hs) h0.2 (by omega) (by omega) hrs hnd (fun r hr' => ruleOk_small h1.2 (by omega) (hrs r hr')) m0 m1 st0 hJ
def runQ (a0 a1 a2 : Int) (l : List S40) (inp : List Int) (most : Int) : Sc × Nat × Int :=
 if errF a0 a1 a2 l inp most = 0 then (⟨(runS l most.toNat (startSc a2 inp)).1.s, (runS l most.toNat (startSc a2 inp)).1.at_, (runS l most.toNat (startSc a2 inp)).1.tp.map trimL⟩, (runS l most.toNat (startSc a2 inp)).2, 0) else (⟨0, [], []⟩, 0, errF a0 a1 a2 l inp most)
def RunAns (w : World) (q : Sc × Nat × Int) (e : Ending) (w' : World) : Prop := ∃ v, e = .returned (.tuple #[v, .int .i64 q.2.1, .int .i64 q.2.2]) ∧ SceneV w' v q.1.s q.1.at_ q.1.tp ∧ Below w.heap.size w w'
def RunAnsF (w : World) (q : Sc × Nat × Int) (e : Ending) (w' : World) : Prop := ∃ v, e = .returned (.tuple #[v, .int .i64 q.2.1, .int .i64 q.2.2]) ∧ (∀ u : World, w'.heap.size ≤ u.heap.size → (∀ k, w.heap.size ≤ k → k < w'.heap.size → u.heap[k]? = w'.heap[k]?) → SceneV u v q.1.s q.1.at_ q.1.tp) ∧ Below w.heap.size w w'
theorem SceneV_below {w w' : World} {v : Value} {s : Int} {at_ : List Int} {tp : List (List Int)} (h : SceneV w v s at_ tp) (hb : Below w.heap.size w w') : SceneV w' v s at_ tp := by
 obtain ⟨A1, c1, A2, c2, rfl, h1, h2, h3, h4⟩ := h
 exact ⟨A1, c1, A2, c2, rfl, h1, Kd.C_below h2 hb, h3, Kd.C_below h4 hb⟩
set_option maxHeartbeats 1000000 in
set_option maxRecDepth 100000 in
theorem Run_walkF (a0 a1 a2 : Int) (A : Option Addr) (c : Nat) (l : List S40) (A5 : Option Addr) (c5 : Nat) (inp : List Int) (most : Int) (w : World) (hr : Kd.C k40 w A l.length l) (h5 : Kd.C (Kd.int .i64) w A5 inp.length inp) (hlc : inp.length ≤ c5) :
    Calls Tryd.prog 16 #[.agg #[.int .i64 a0, .int .i64 a1, .int .i64 a2, .slice A l.length c], .slice A5 inp.length c5, .int .i64 most] w (RunAnsF w (runQ a0 a1 a2 l inp most)) := by
  obtain ⟨W, hW⟩ : ∃ W, (w.alloc (Obj.cells #[.int .i64 a0, .int .i64 a1, .int .i64 a2, .slice A l.length c] 24)).alloc (Obj.cells #[.int .i64 0, .slice none 0 0, .slice none 0 0] 43) = W := ⟨_, rfl⟩
  have hBW : Below w.heap.size w W := by rw [← hW]; exact ((Below.refl _ _).alloc (Nat.le_refl _) _).alloc (by simp) _
  have HBW := Aside0.mk hBW
  have z1 : w.heap.size + 1 < W.heap.size := by rw [← hW]; simp
  have z0 : w.heap.size < W.heap.size := by omega
  have m0 : W.cell? ⟨w.heap.size, 0, none⟩ = some (.int .i64 a0) := by subst hW; go_simp
  have m1 : W.cell? ⟨w.heap.size, 1, none⟩ = some (.int .i64 a1) := by subst hW; go_simp
  have m2 : W.cell? ⟨w.heap.size, 2, none⟩ = some (.int .i64 a2) := by subst hW; go_simp
  have m3 : W.cell? ⟨w.heap.size, 3, none⟩ = some (.slice A l.length c) := by subst hW; go_simp
  have hXR : W.heap[w.heap.size + 1]? = some (.cells #[.int .i64 0, .slice none 0 0, .slice none 0 0] 43 (0, 0)) := by rw [← hW]; exact alloc2_new _ _ _
  obtain ⟨x0, x1, x2⟩ := trio_cells hXR
  have y0 := run_frozen hXR 0
  have y1 := run_frozen hXR 1
  have y2 := run_frozen hXR 2
  have HW := Aside0.mk hW
  cases he : decide (errF a0 a1 a2 l inp most = 0) with
  | false =>
    have hne : errF a0 a1 a2 l inp most ≠ 0 := of_decide_eq_false he
    have HQ : Aside0 (runQ a0 a1 a2 l inp most = (⟨0, [], []⟩, 0, errF a0 a1 a2 l inp most)) := ⟨by unfold runQ; rw [if_neg hne]⟩
    obtain ⟨er, her⟩ : ∃ er, errF a0 a1 a2 l inp most = er := ⟨_, rfl⟩
    have HS := Aside0.mk (run_bad a0 a1 a2 A c l A5 c5 inp most 31 #[] W (Kd.C_below hr hBW) (Kd.C_below h5 hBW) hlc er her (by rw [← her]; exact hne))
    rw [her] at HQ hne
    have d0 : (er != 0) = true := by simpa using hne
    clear hr h5 hlc hW hBW hXR he hne her
    go_enter Tryd.func16, Tryd.ntmps16
    go_wp2_with fail
    rw [HW.out]
    go_wp2_with (go_at_call 30; refine HS.out.mono ?_; rintro e w1 ⟨rfl, hb⟩; obtain ⟨hcc, hff⟩ := bcell hb; have HB := Aside0.mk hb; have zz := Nat.lt_of_lt_of_le z1 hb.size; clear hb)
    refine bodyPost_ret (v := .tuple #[.agg #[.int .i64 0, .slice none 0 0, .slice none 0 0], .int .i64 0, .int .i64 er]) (by simp [results, Tryd.results16, go_sem, hcc, hff, x0, x1, x2, y0, y1, y2, zz, z1]) rfl ?_
    rw [HQ.out]
    refine ⟨_, rfl, fun _ _ _ => scene_zero _, ?_⟩
    have h1 : Below w.heap.size w w1 := HBW.out.trans (HB.out.mono (by omega))
    exact ((h1.setCell (p := ⟨w.heap.size + 1, 0, none⟩) (by simp) _).setCell (p := ⟨w.heap.size + 1, 1, none⟩) (by simp) _).setCell (p := ⟨w.heap.size + 1, 2, none⟩) (by simp) _
  | true =>
    have he' : errF a0 a1 a2 l inp most = 0 := of_decide_eq_true he
    have HQ : Aside0 (runQ a0 a1 a2 l inp most = (⟨(runS l most.toNat (startSc a2 inp)).1.s, (runS l most.toNat (startSc a2 inp)).1.at_, (runS l most.toNat (startSc a2 inp)).1.tp.map trimL⟩, (runS l most.toNat (startSc a2 inp)).2, 0)) := ⟨by unfold runQ; rw [if_pos he']⟩
    have h2 := (valid_a2 (errF_ok he').1).2.2
    have HS := Aside0.mk (run_good a0 a1 a2 A c l A5 c5 inp most 31 #[] (fun _ _ => True) (fun (_ : Unit) _ => ()) none W.heap.size (see44 a2.toNat _) W W (Below.refl _ _) (Nat.le_refl _) (Nat.le_refl _) (fun k hk => by cases hk) (Kd.C_below hr hBW) (Kd.C_below h5 hBW) hlc he' () trivial)
    generalize (runS l most.toNat (startSc a2 inp)).1 = C at HS HQ
    generalize (runS l most.toNat (startSc a2 inp)).2 = N at HS HQ
    have H2 := Aside0.mk h2
    clear hr h5 hlc hW hBW hXR he he' h2
    go_enter Tryd.func16, Tryd.ntmps16
    go_wp2_with fail
    rw [HW.out]
    go_wp2_with (first
      | (go_at_call 30
         refine HS.out.mono ?_
         rintro e w1 ⟨B, br, bm, v1, v2, vs, L, M, rfl, hB, hR, hK, hRA, hKp, _, hM, hN, hG⟩
         obtain ⟨A1', c1', e1, hlc1, hC1⟩ := own_C hR.row1
         obtain ⟨A2', c2', e2, hlc2, hC2⟩ := own_C2 hR.row2 (hR.len2.trans hR.len1) hR.inner
         subst e1
         subst e2
         have HRES := Aside0.mk (result_walk w1 br bm C.s A1' c1' C.at_ A2' c2' C.tp hR.cells hC1 hC2 (by have := hG.la; have := H2.out; omega) (by have := hG.lt; have := H2.out; omega) (fun i => by have := hG.len i; omega))
         have hb1 : Below W.heap.size W w1 := ⟨hKp.os, hKp.tape, hKp.output, hKp.size, fun k hk => hKp.block k hk (by simp)⟩
         obtain ⟨hcc, hff⟩ := bcell hb1
         have zz := Nat.lt_of_lt_of_le z1 hb1.size
         have HB := Aside0.mk hb1
         clear hR hK hRA hKp hC1 hC2 hG hb1 hB)
      | (go_at_call 32
         refine HRES.out.mono ?_
         rintro e w2 ⟨v, rfl, hv, hb⟩
         obtain ⟨X1, y1', X2, y2', rfl, _, _, _, _⟩ := hv w2 (fun _ _ => rfl)
         obtain ⟨hcc2, hff2⟩ := bcell hb
         have zz2 := Nat.lt_of_lt_of_le zz hb.size
         have HB2 := Aside0.mk hb
         have HV := Aside0.mk hv
         clear hb hv))
    refine bodyPost_ret (v := .tuple #[.agg #[.int .i64 C.s, .slice X1 C.at_.length y1', .slice X2 C.tp.length y2'], .int .i64 N, .int .i64 0]) (by simp [results, Tryd.results16, go_sem, hcc2, hff2, hcc, hff, x0, x1, x2, y0, y1, y2, zz2, zz, z1]) rfl ?_
    rw [HQ.out]
    refine ⟨_, rfl, ?_, ?_⟩
    · intro u hu hag
      have hsz : (((w2.setCell ⟨w.heap.size + 1, 0, none⟩ (.int .i64 C.s)).setCell ⟨w.heap.size + 1, 1, none⟩ (.slice X1 C.at_.length y1')).setCell ⟨w.heap.size + 1, 2, none⟩ (.slice X2 C.tp.length y2')).heap.size = w2.heap.size := by simp
      rw [hsz] at hu hag
      have hv0 := HV.out (trunc u w2.heap.size) (fun k hk => by
        by_cases hk2 : k < w2.heap.size
        · have hw1 : W.heap.size ≤ k := Nat.le_trans HB.out.size hk
          rw [← trunc_block hu (Below.refl _ _) k hk2 |>.symm, hag k (by omega) hk2]
          have : (⟨w.heap.size + 1, 0, none⟩ : Addr).block ≠ k := by show w.heap.size + 1 ≠ k; omega
          rw [heap_setCell_other _ ⟨w.heap.size + 1, 2, none⟩ k _ this.symm, heap_setCell_other _ ⟨w.heap.size + 1, 1, none⟩ k _ this.symm, heap_setCell_other _ ⟨w.heap.size + 1, 0, none⟩ k _ this.symm]
        · rw [Array.getElem?_eq_none (by rw [trunc_size hu]; omega), Array.getElem?_eq_none (by omega)])
      have hv := SceneV_below hv0 (trunc_below hu)
      rw [List.length_map] at hv
      exact hv
    · have h1 : Below w.heap.size w w2 := (HBW.out.trans (HB.out.mono (by omega))).trans (HB2.out.mono (by omega))
      exact ((h1.setCell (p := ⟨w.heap.size + 1, 0, none⟩) (by simp) _).setCell (p := ⟨w.heap.size + 1, 1, none⟩) (by simp) _).setCell (p := ⟨w.heap.size + 1, 2, none⟩) (by simp) _
theorem Run_walk (a0 a1 a2 : Int) (A : Option Addr) (c : Nat) (l : List S40) (A5 : Option Addr) (c5 : Nat) (inp : List Int) (most : Int) (w : World) (hr : Kd.C k40 w A l.length l) (h5 : Kd.C (Kd.int .i64) w A5 inp.length inp) (hlc : inp.length ≤ c5) :
  Calls Tryd.prog 16 #[.agg #[.int .i64 a0, .int .i64 a1, .int .i64 a2, .slice A l.length c], .slice A5 inp.length c5, .int .i64 most] w (RunAns w (runQ a0 a1 a2 l inp most)) :=
 (Run_walkF a0 a1 a2 A c l A5 c5 inp most w hr h5 hlc).mono (by
  rintro e w' ⟨v, rfl, h, hb⟩
  exact ⟨v, rfl, h w' (Nat.le_refl _) (fun _ _ _ => rfl), hb⟩)
end Go.Proofs.YtfoodfhhdbaieaaDoor.Giv
