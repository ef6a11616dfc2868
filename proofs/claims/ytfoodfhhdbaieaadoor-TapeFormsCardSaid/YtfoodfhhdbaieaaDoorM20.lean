-- CUT by a program of this session: what the claim does not use is left out
import Derived.Test.YtfoodfhhdbaieaaDoorM16
import Derived.Test.YtfoodfhhdbaieaaDoorM11
import Derived.Test.YtfoodfhhdbaieaaDoorM18
import Derived.Test.YtfoodfhhdbaieaaDoorT43
import Derived.Test.YtfoodfhhdbaieaaDoorT25
namespace Go.Proofs.YtfoodfhhdbaieaaDoor.Giv
set_option maxRecDepth 100000
set_option linter.unusedVariables false
set_option linter.unusedSimpArgs false
open Go.RowKit Go.Shelf Go.Proofs.YtfoodfhhdbaieaaDoorW.PrintWords Go.Proofs.YtfoodfhhdbaieaaDoorW.PrintLast Go.Proofs.YtfoodfhhdbaieaaDoorW.PrintMore
open Go.Proofs.YtfoodfhhdbaieaaDoor.Ka (S40 k40 z40 rd_T40 at_T40 k40_open k40_mk rd_L1 at_L1 info3 info38 info40)
theorem ruleB_from {a0 a1 a2 : Int} {r : S40} (h : ruleB a0 a1 a2 r = true) : 0 ≤ r.f0 := by
 unfold ruleB at h
 simp only [Bool.and_eq_true] at h
 exact (inR_bd' h.1.1.1.1.1.1.1).1
theorem valid_from {a0 a1 a2 : Int} {l : List S40} (h : validM a0 a1 a2 l = true) : ∀ r ∈ l, 0 ≤ r.f0 := by
 unfold validM at h
 rw [Bool.and_eq_true] at h
 exact fun r hr => ruleB_from (rulesB_all _ _ h.2 r hr)
set_option maxHeartbeats 16000000 in
theorem tapeForms_walk (a0 a1 a2 : Int) (A : Option Addr) (c : Nat) (l : List S40) (w : World) (hr : Kd.C k40 w A l.length l) (hlc : l.length ≤ c) (hlay : Laid w) (hf : ∀ r ∈ l, Fits r) :
  Calls Tryd.prog 3 #[.agg #[.int .i64 a0, .int .i64 a1, .int .i64 a2, .slice A l.length c]] w fun e w' => e = .returned (.bool true) ∧ Below w.heap.size w w' := by
 have HC := Aside0.mk hr
 have HCL := Aside0.mk hlc
 have HLAY := Aside0.mk hlay
 obtain ⟨kw, bw, hwd, hsm⟩ := wideF_total a0 a1 a2 hf
 have HWD := Aside0.mk hwd
 clear hr hlc hlay hf hwd
 obtain ⟨W1, hW1⟩ : ∃ W1, w.alloc (.cells #[.int .i64 a0, .int .i64 a1, .int .i64 a2, .slice A l.length c] 24) = W1 := ⟨_, rfl⟩
 have HB1 : Aside0 (Below w.heap.size w W1) := ⟨by rw [← hW1]; exact below_alloc (Below.refl _ _) _⟩
 have hbx0 : W1.heap[w.heap.size]? = some (.cells #[.int .i64 a0, .int .i64 a1, .int .i64 a2, .slice A l.length c] 24 (0, 0)) := by rw [← hW1]; exact box_at _ _
 have box0 : ∀ {W}, Below W1.heap.size W1 W → W.heap[w.heap.size]? = some (.cells #[.int .i64 a0, .int .i64 a1, .int .i64 a2, .slice A l.length c] 24 (0, 0)) := fun hb => (hb.block _ (Array.getElem?_eq_some_iff.1 hbx0).1).trans hbx0
 have HBL := Aside0.mk (Below.refl W1.heap.size W1)
 have HW1 := Aside0.mk hW1
 clear hW1 hbx0
 cases bw with
 | true =>
  clear hsm
  go_enter Tryd.func3, Tryd.ntmps3
  go_wp2_with (first | (go_at_call 6; go_loud (rw [HW1.out]; refine (Ka.commodatumlaw20_Wide.calls kw a0 a1 a2 A c l true _ (Kd.C_below HC.out (below_step HB1.out HBL.out)) HCL.out HWD.out).mono ?_; rintro e w2 ⟨rfl, hb⟩; have HBL := Aside0.mk (below_step HBL.out hb); have hbx := box0 HBL.out; have z0 : w2.cell? ⟨w.heap.size, 0, none⟩ = some (.int .i64 a0) := (blk_cell hbx 0).trans rfl; have z1 : w2.cell? ⟨w.heap.size, 1, none⟩ = some (.int .i64 a1) := (blk_cell hbx 1).trans rfl; have z2 : w2.cell? ⟨w.heap.size, 2, none⟩ = some (.int .i64 a2) := (blk_cell hbx 2).trans rfl; have z3 : w2.cell? ⟨w.heap.size, 3, none⟩ = some (.slice A l.length c) := (blk_cell hbx 3).trans rfl; clear hbx; clear hb)) | (go_at_call 7; go_loud (refine (awake_walk _).mono ?_; rintro e w8 ⟨rfl, hb⟩; have HBL := Aside0.mk (below_step HBL.out hb); clear hb)))
  refine bodyPost_ret (v := .bool true) (by simp [results, Tryd.results3, go_sem]) rfl ?_
  exact ⟨rfl, below_step HB1.out HBL.out⟩
 | false =>
  have HSM := Aside0.mk (hsm rfl)
  clear hsm
  obtain ⟨kv, hvd⟩ := refValid_total (a0 := a0) (a1 := a1) (a2 := a2) HSM.out.1 HSM.out.2
  have HVD := Aside0.mk hvd
  clear hvd
  cases hv : validM a0 a1 a2 l with
  | false =>
   rw [hv] at HVD
   have HT : Aside0 (textR a0 a1 a2 l = (⟨#[]⟩, 1)) := ⟨by unfold textR; rw [hv, if_neg (by simp)]⟩
   have HV := Aside0.mk hv
   clear hv
   go_enter Tryd.func3, Tryd.ntmps3
   go_wp2_with (first | (go_at_call 6; go_loud (rw [HW1.out]; refine (Ka.commodatumlaw20_Wide.calls kw a0 a1 a2 A c l false _ (Kd.C_below HC.out (below_step HB1.out HBL.out)) HCL.out HWD.out).mono ?_; rintro e w2 ⟨rfl, hb⟩; have HBL := Aside0.mk (below_step HBL.out hb); have hbx := box0 HBL.out; have z0 : w2.cell? ⟨w.heap.size, 0, none⟩ = some (.int .i64 a0) := (blk_cell hbx 0).trans rfl; have z1 : w2.cell? ⟨w.heap.size, 1, none⟩ = some (.int .i64 a1) := (blk_cell hbx 1).trans rfl; have z2 : w2.cell? ⟨w.heap.size, 2, none⟩ = some (.int .i64 a2) := (blk_cell hbx 2).trans rfl; have z3 : w2.cell? ⟨w.heap.size, 3, none⟩ = some (.slice A l.length c) := (blk_cell hbx 3).trans rfl; clear hbx; clear hb)) | (go_at_call 8; go_loud (refine (Ka.commodatumref20_Valid.calls kv a0 a1 a2 A c l false _ (Kd.C_below HC.out (below_step HB1.out HBL.out)) HCL.out HVD.out).mono ?_; rintro e w3 ⟨rfl, hb⟩; have HBL := Aside0.mk (below_step HBL.out hb); have hbx := box0 HBL.out; have z0 : w3.cell? ⟨w.heap.size, 0, none⟩ = some (.int .i64 a0) := (blk_cell hbx 0).trans rfl; have z1 : w3.cell? ⟨w.heap.size, 1, none⟩ = some (.int .i64 a1) := (blk_cell hbx 1).trans rfl; have z2 : w3.cell? ⟨w.heap.size, 2, none⟩ = some (.int .i64 a2) := (blk_cell hbx 2).trans rfl; have z3 : w3.cell? ⟨w.heap.size, 3, none⟩ = some (.slice A l.length c) := (blk_cell hbx 3).trans rfl; clear hbx; clear hb)) | (go_at_call 11; go_loud (refine (copy_walk a0 a1 a2 A c l _ (Kd.C_below HC.out (below_step HB1.out HBL.out)) (by have := HSM.out.1; omega) (fun r hr => by have := HSM.out.2 r hr; omega)).mono ?_; rintro e w5 ⟨B, cb, rfl, hcb, hkc, hb⟩; have HBL := Aside0.mk (below_step HBL.out hb); have HCB := Aside0.mk hkc; clear hcb hkc; have hbx := box0 HBL.out; have z0 : w5.cell? ⟨w.heap.size, 0, none⟩ = some (.int .i64 a0) := (blk_cell hbx 0).trans rfl; have z1 : w5.cell? ⟨w.heap.size, 1, none⟩ = some (.int .i64 a1) := (blk_cell hbx 1).trans rfl; have z2 : w5.cell? ⟨w.heap.size, 2, none⟩ = some (.int .i64 a2) := (blk_cell hbx 2).trans rfl; have z3 : w5.cell? ⟨w.heap.size, 3, none⟩ = some (.slice A l.length c) := (blk_cell hbx 3).trans rfl; clear hbx; clear hb)) | (go_at_call 10; go_loud (refine (valid_calls a0 a1 a2 B cb l _ HCB.out).mono ?_; rw [HV.out]; rintro e w6 ⟨rfl, hb⟩; have HBL := Aside0.mk (below_step HBL.out hb); have hbx := box0 HBL.out; have z0 : w6.cell? ⟨w.heap.size, 0, none⟩ = some (.int .i64 a0) := (blk_cell hbx 0).trans rfl; have z1 : w6.cell? ⟨w.heap.size, 1, none⟩ = some (.int .i64 a1) := (blk_cell hbx 1).trans rfl; have z2 : w6.cell? ⟨w.heap.size, 2, none⟩ = some (.int .i64 a2) := (blk_cell hbx 2).trans rfl; have z3 : w6.cell? ⟨w.heap.size, 3, none⟩ = some (.slice A l.length c) := (blk_cell hbx 3).trans rfl; clear hbx; clear hb)) | (go_at_call 12; go_loud (refine (text_calls a0 a1 a2 B cb l _ HCB.out (HLAY.out.below (below_step HB1.out HBL.out)) (by have := HSM.out.1; omega)).mono ?_; rw [HT.out]; rintro e w7 ⟨rfl, hb⟩; have HBL := Aside0.mk (below_step HBL.out hb); have hbx := box0 HBL.out; have z0 : w7.cell? ⟨w.heap.size, 0, none⟩ = some (.int .i64 a0) := (blk_cell hbx 0).trans rfl; have z1 : w7.cell? ⟨w.heap.size, 1, none⟩ = some (.int .i64 a1) := (blk_cell hbx 1).trans rfl; have z2 : w7.cell? ⟨w.heap.size, 2, none⟩ = some (.int .i64 a2) := (blk_cell hbx 2).trans rfl; have z3 : w7.cell? ⟨w.heap.size, 3, none⟩ = some (.slice A l.length c) := (blk_cell hbx 3).trans rfl; clear hbx; clear hb)) | (go_at_call 7; go_loud (refine (awake_walk _).mono ?_; rintro e w8 ⟨rfl, hb⟩; have HBL := Aside0.mk (below_step HBL.out hb); clear hb)))
   refine bodyPost_ret (v := .bool true) (by simp [results, Tryd.results3, go_sem]) rfl ?_
   exact ⟨rfl, below_step HB1.out HBL.out⟩
  | true =>
   rw [hv] at HVD
   have HS : Aside0 (numLen [a0, a1, a2] ∧ 0 ≤ a0 ∧ ∀ r ∈ l, Neat r ∧ 0 ≤ r.f0) := ⟨⟨(valid_neat hv).2.1, by have := (valid_neat hv).1; omega, fun r hr => ⟨(valid_neat hv).2.2 r hr, valid_from hv r hr⟩⟩⟩
   have HV := Aside0.mk hv
   have htl : textR a0 a1 a2 l = if (writeT a0 a1 a2 l).length ≤ 40000 then (⟨(writeT a0 a1 a2 l).toArray⟩, 0) else (⟨#[]⟩, 5) := by unfold textR; rw [hv, if_pos rfl]
   clear hv
   obtain ⟨s, hs⟩ : ∃ s : ByteArray, (⟨(writeT a0 a1 a2 l).toArray⟩ : ByteArray) = s := ⟨_, rfl⟩
   have hsz : s.size = (writeT a0 a1 a2 l).length := by rw [← hs, size_toArray]
   rw [hs] at htl
   have HSE := Aside0.mk hs
   clear hs
   by_cases c0 : (writeT a0 a1 a2 l).length ≤ 40000
   ·rw [if_pos c0] at htl
    have HT := Aside0.mk htl
    have d1 : decide ((40000 : Int) < (s.size : Int)) = false := decide_eq_false (by omega)
    have d2 : decide (40000 < s.size) = false := decide_eq_false (by omega)
    have d3 : (40000 < s.size) = False := eq_false (by omega)
    clear htl hsz c0
    go_enter Tryd.func3, Tryd.ntmps3
    go_wp2_with (first | (go_at_call 6; go_loud (rw [HW1.out]; refine (Ka.commodatumlaw20_Wide.calls kw a0 a1 a2 A c l false _ (Kd.C_below HC.out (below_step HB1.out HBL.out)) HCL.out HWD.out).mono ?_; rintro e w2 ⟨rfl, hb⟩; have HBL := Aside0.mk (below_step HBL.out hb); have hbx := box0 HBL.out; have z0 : w2.cell? ⟨w.heap.size, 0, none⟩ = some (.int .i64 a0) := (blk_cell hbx 0).trans rfl; have z1 : w2.cell? ⟨w.heap.size, 1, none⟩ = some (.int .i64 a1) := (blk_cell hbx 1).trans rfl; have z2 : w2.cell? ⟨w.heap.size, 2, none⟩ = some (.int .i64 a2) := (blk_cell hbx 2).trans rfl; have z3 : w2.cell? ⟨w.heap.size, 3, none⟩ = some (.slice A l.length c) := (blk_cell hbx 3).trans rfl; clear hbx; clear hb)) | (go_at_call 8; go_loud (refine (Ka.commodatumref20_Valid.calls kv a0 a1 a2 A c l true _ (Kd.C_below HC.out (below_step HB1.out HBL.out)) HCL.out HVD.out).mono ?_; rintro e w3 ⟨rfl, hb⟩; have HBL := Aside0.mk (below_step HBL.out hb); have hbx := box0 HBL.out; have z0 : w3.cell? ⟨w.heap.size, 0, none⟩ = some (.int .i64 a0) := (blk_cell hbx 0).trans rfl; have z1 : w3.cell? ⟨w.heap.size, 1, none⟩ = some (.int .i64 a1) := (blk_cell hbx 1).trans rfl; have z2 : w3.cell? ⟨w.heap.size, 2, none⟩ = some (.int .i64 a2) := (blk_cell hbx 2).trans rfl; have z3 : w3.cell? ⟨w.heap.size, 3, none⟩ = some (.slice A l.length c) := (blk_cell hbx 3).trans rfl; clear hbx; clear hb)) | (go_at_call 9; go_loud (refine (refText_calls a0 a1 a2 A c l _ (Kd.C_below HC.out (below_step HB1.out HBL.out)) HS.out.1 HS.out.2.1 HS.out.2.2 (by have := HSM.out.1; omega)).mono ?_; rw [HSE.out]; rintro e w4 ⟨rfl, hb⟩; have HBL := Aside0.mk (below_step HBL.out hb); have hbx := box0 HBL.out; have z0 : w4.cell? ⟨w.heap.size, 0, none⟩ = some (.int .i64 a0) := (blk_cell hbx 0).trans rfl; have z1 : w4.cell? ⟨w.heap.size, 1, none⟩ = some (.int .i64 a1) := (blk_cell hbx 1).trans rfl; have z2 : w4.cell? ⟨w.heap.size, 2, none⟩ = some (.int .i64 a2) := (blk_cell hbx 2).trans rfl; have z3 : w4.cell? ⟨w.heap.size, 3, none⟩ = some (.slice A l.length c) := (blk_cell hbx 3).trans rfl; clear hbx; clear hb)) | (go_at_call 11; go_loud (refine (copy_walk a0 a1 a2 A c l _ (Kd.C_below HC.out (below_step HB1.out HBL.out)) (by have := HSM.out.1; omega) (fun r hr => by have := HSM.out.2 r hr; omega)).mono ?_; rintro e w5 ⟨B, cb, rfl, hcb, hkc, hb⟩; have HBL := Aside0.mk (below_step HBL.out hb); have HCB := Aside0.mk hkc; clear hcb hkc; have hbx := box0 HBL.out; have z0 : w5.cell? ⟨w.heap.size, 0, none⟩ = some (.int .i64 a0) := (blk_cell hbx 0).trans rfl; have z1 : w5.cell? ⟨w.heap.size, 1, none⟩ = some (.int .i64 a1) := (blk_cell hbx 1).trans rfl; have z2 : w5.cell? ⟨w.heap.size, 2, none⟩ = some (.int .i64 a2) := (blk_cell hbx 2).trans rfl; have z3 : w5.cell? ⟨w.heap.size, 3, none⟩ = some (.slice A l.length c) := (blk_cell hbx 3).trans rfl; clear hbx; clear hb)) | (go_at_call 10; go_loud (refine (valid_calls a0 a1 a2 B cb l _ HCB.out).mono ?_; rw [HV.out]; rintro e w6 ⟨rfl, hb⟩; have HBL := Aside0.mk (below_step HBL.out hb); have hbx := box0 HBL.out; have z0 : w6.cell? ⟨w.heap.size, 0, none⟩ = some (.int .i64 a0) := (blk_cell hbx 0).trans rfl; have z1 : w6.cell? ⟨w.heap.size, 1, none⟩ = some (.int .i64 a1) := (blk_cell hbx 1).trans rfl; have z2 : w6.cell? ⟨w.heap.size, 2, none⟩ = some (.int .i64 a2) := (blk_cell hbx 2).trans rfl; have z3 : w6.cell? ⟨w.heap.size, 3, none⟩ = some (.slice A l.length c) := (blk_cell hbx 3).trans rfl; clear hbx; clear hb)) | (go_at_call 12; go_loud (refine (text_calls a0 a1 a2 B cb l _ HCB.out (HLAY.out.below (below_step HB1.out HBL.out)) (by have := HSM.out.1; omega)).mono ?_; rw [HT.out]; rintro e w7 ⟨rfl, hb⟩; have HBL := Aside0.mk (below_step HBL.out hb); have hbx := box0 HBL.out; have z0 : w7.cell? ⟨w.heap.size, 0, none⟩ = some (.int .i64 a0) := (blk_cell hbx 0).trans rfl; have z1 : w7.cell? ⟨w.heap.size, 1, none⟩ = some (.int .i64 a1) := (blk_cell hbx 1).trans rfl; have z2 : w7.cell? ⟨w.heap.size, 2, none⟩ = some (.int .i64 a2) := (blk_cell hbx 2).trans rfl; have z3 : w7.cell? ⟨w.heap.size, 3, none⟩ = some (.slice A l.length c) := (blk_cell hbx 3).trans rfl; clear hbx; clear hb)) | (go_at_call 7; go_loud (refine (awake_walk _).mono ?_; rintro e w8 ⟨rfl, hb⟩; have HBL := Aside0.mk (below_step HBL.out hb); clear hb)))
    refine bodyPost_ret (v := .bool true) (by simp [results, Tryd.results3, go_sem]) rfl ?_
    exact ⟨rfl, below_step HB1.out HBL.out⟩
   ·rw [if_neg c0] at htl
    have HT := Aside0.mk htl
    have d1 : decide ((40000 : Int) < (s.size : Int)) = true := decide_eq_true (by omega)
    have d2 : decide (40000 < s.size) = true := decide_eq_true (by omega)
    have d3 : (40000 < s.size) = True := eq_true (by omega)
    clear htl hsz c0
    go_enter Tryd.func3, Tryd.ntmps3
    go_wp2_with (first | (go_at_call 6; go_loud (rw [HW1.out]; refine (Ka.commodatumlaw20_Wide.calls kw a0 a1 a2 A c l false _ (Kd.C_below HC.out (below_step HB1.out HBL.out)) HCL.out HWD.out).mono ?_; rintro e w2 ⟨rfl, hb⟩; have HBL := Aside0.mk (below_step HBL.out hb); have hbx := box0 HBL.out; have z0 : w2.cell? ⟨w.heap.size, 0, none⟩ = some (.int .i64 a0) := (blk_cell hbx 0).trans rfl; have z1 : w2.cell? ⟨w.heap.size, 1, none⟩ = some (.int .i64 a1) := (blk_cell hbx 1).trans rfl; have z2 : w2.cell? ⟨w.heap.size, 2, none⟩ = some (.int .i64 a2) := (blk_cell hbx 2).trans rfl; have z3 : w2.cell? ⟨w.heap.size, 3, none⟩ = some (.slice A l.length c) := (blk_cell hbx 3).trans rfl; clear hbx; clear hb)) | (go_at_call 8; go_loud (refine (Ka.commodatumref20_Valid.calls kv a0 a1 a2 A c l true _ (Kd.C_below HC.out (below_step HB1.out HBL.out)) HCL.out HVD.out).mono ?_; rintro e w3 ⟨rfl, hb⟩; have HBL := Aside0.mk (below_step HBL.out hb); have hbx := box0 HBL.out; have z0 : w3.cell? ⟨w.heap.size, 0, none⟩ = some (.int .i64 a0) := (blk_cell hbx 0).trans rfl; have z1 : w3.cell? ⟨w.heap.size, 1, none⟩ = some (.int .i64 a1) := (blk_cell hbx 1).trans rfl; have z2 : w3.cell? ⟨w.heap.size, 2, none⟩ = some (.int .i64 a2) := (blk_cell hbx 2).trans rfl; have z3 : w3.cell? ⟨w.heap.size, 3, none⟩ = some (.slice A l.length c) := (blk_cell hbx 3).trans rfl; clear hbx; clear hb)) | (go_at_call 9; go_loud (refine (refText_calls a0 a1 a2 A c l _ (Kd.C_below HC.out (below_step HB1.out HBL.out)) HS.out.1 HS.out.2.1 HS.out.2.2 (by have := HSM.out.1; omega)).mono ?_; rw [HSE.out]; rintro e w4 ⟨rfl, hb⟩; have HBL := Aside0.mk (below_step HBL.out hb); have hbx := box0 HBL.out; have z0 : w4.cell? ⟨w.heap.size, 0, none⟩ = some (.int .i64 a0) := (blk_cell hbx 0).trans rfl; have z1 : w4.cell? ⟨w.heap.size, 1, none⟩ = some (.int .i64 a1) := (blk_cell hbx 1).trans rfl; have z2 : w4.cell? ⟨w.heap.size, 2, none⟩ = some (.int .i64 a2) := (blk_cell hbx 2).trans rfl; have z3 : w4.cell? ⟨w.heap.size, 3, none⟩ = some (.slice A l.length c) := (blk_cell hbx 3).trans rfl; clear hbx; clear hb)) | (go_at_call 11; go_loud (refine (copy_walk a0 a1 a2 A c l _ (Kd.C_below HC.out (below_step HB1.out HBL.out)) (by have := HSM.out.1; omega) (fun r hr => by have := HSM.out.2 r hr; omega)).mono ?_; rintro e w5 ⟨B, cb, rfl, hcb, hkc, hb⟩; have HBL := Aside0.mk (below_step HBL.out hb); have HCB := Aside0.mk hkc; clear hcb hkc; have hbx := box0 HBL.out; have z0 : w5.cell? ⟨w.heap.size, 0, none⟩ = some (.int .i64 a0) := (blk_cell hbx 0).trans rfl; have z1 : w5.cell? ⟨w.heap.size, 1, none⟩ = some (.int .i64 a1) := (blk_cell hbx 1).trans rfl; have z2 : w5.cell? ⟨w.heap.size, 2, none⟩ = some (.int .i64 a2) := (blk_cell hbx 2).trans rfl; have z3 : w5.cell? ⟨w.heap.size, 3, none⟩ = some (.slice A l.length c) := (blk_cell hbx 3).trans rfl; clear hbx; clear hb)) | (go_at_call 10; go_loud (refine (valid_calls a0 a1 a2 B cb l _ HCB.out).mono ?_; rw [HV.out]; rintro e w6 ⟨rfl, hb⟩; have HBL := Aside0.mk (below_step HBL.out hb); have hbx := box0 HBL.out; have z0 : w6.cell? ⟨w.heap.size, 0, none⟩ = some (.int .i64 a0) := (blk_cell hbx 0).trans rfl; have z1 : w6.cell? ⟨w.heap.size, 1, none⟩ = some (.int .i64 a1) := (blk_cell hbx 1).trans rfl; have z2 : w6.cell? ⟨w.heap.size, 2, none⟩ = some (.int .i64 a2) := (blk_cell hbx 2).trans rfl; have z3 : w6.cell? ⟨w.heap.size, 3, none⟩ = some (.slice A l.length c) := (blk_cell hbx 3).trans rfl; clear hbx; clear hb)) | (go_at_call 12; go_loud (refine (text_calls a0 a1 a2 B cb l _ HCB.out (HLAY.out.below (below_step HB1.out HBL.out)) (by have := HSM.out.1; omega)).mono ?_; rw [HT.out]; rintro e w7 ⟨rfl, hb⟩; have HBL := Aside0.mk (below_step HBL.out hb); have hbx := box0 HBL.out; have z0 : w7.cell? ⟨w.heap.size, 0, none⟩ = some (.int .i64 a0) := (blk_cell hbx 0).trans rfl; have z1 : w7.cell? ⟨w.heap.size, 1, none⟩ = some (.int .i64 a1) := (blk_cell hbx 1).trans rfl; have z2 : w7.cell? ⟨w.heap.size, 2, none⟩ = some (.int .i64 a2) := (blk_cell hbx 2).trans rfl; have z3 : w7.cell? ⟨w.heap.size, 3, none⟩ = some (.slice A l.length c) := (blk_cell hbx 3).trans rfl; clear hbx; clear hb)) | (go_at_call 7; go_loud (refine (awake_walk _).mono ?_; rintro e w8 ⟨rfl, hb⟩; have HBL := Aside0.mk (below_step HBL.out hb); clear hb)))
    refine bodyPost_ret (v := .bool true) (by simp [results, Tryd.results3, go_sem]) rfl ?_
    exact ⟨rfl, below_step HB1.out HBL.out⟩
end Go.Proofs.YtfoodfhhdbaieaaDoor.Giv
