-- CUT by a program of this session: what the claim does not use is left out
import Derived.Test.YtfoodfhhdbaieaaDoorM39
namespace Go.Proofs.YtfoodfhhdbaieaaDoor.Giv
set_option maxRecDepth 100000
set_option linter.unusedVariables false
set_option linter.unusedSimpArgs false
open Go.RowKit Go.Shelf Go.Proofs.YtfoodfhhdbaieaaDoorW.PrintWords Go.Proofs.YtfoodfhhdbaieaaDoorW.PrintLast Go.Proofs.YtfoodfhhdbaieaaDoorW.PrintMore
open Go.Proofs.YtfoodfhhdbaieaaDoor.Ka (S40 k40 z40 rd_T40 at_T40 k40_open k40_mk rd_L1 at_L1 info3 info38 info40)
set_option maxHeartbeats 16000000 in
theorem tapeBack_walk (a0 a1 a2 : Int) (A : Option Addr) (c : Nat) (l : List S40) (w : World) (hr : Kd.C k40 w A l.length l) (hlc : l.length ≤ c) (hlay : LaidP w) (hf : ∀ r ∈ l, Fits r) :
  Calls Tryd.prog 5 #[.agg #[.int .i64 a0, .int .i64 a1, .int .i64 a2, .slice A l.length c]] w fun e w' => e = .returned (.bool true) ∧ Below w.heap.size w w' := by
 have HC := Aside0.mk hr
 have HCL := Aside0.mk hlc
 have HLAY := Aside0.mk hlay
 obtain ⟨kw, bw, hwd, hsm⟩ := wideF_total a0 a1 a2 hf
 have HWD := Aside0.mk hwd
 clear hr hlc hlay hf hwd
 obtain ⟨W1, hW1⟩ : ∃ W1, w.alloc (.cells #[.int .i64 a0, .int .i64 a1, .int .i64 a2, .slice A l.length c] 24) = W1 := ⟨_, rfl⟩
 have HB1 : Aside0 (Below w.heap.size w W1) := ⟨by rw [← hW1]; exact below_alloc (Below.refl _ _) _⟩
 have hbx0 : W1.heap[w.heap.size]? = some (.cells #[.int .i64 a0, .int .i64 a1, .int .i64 a2, .slice A l.length c] 24 (0, 0)) := by rw [← hW1]; exact box_at _ _
 have box0 : ∀ {W}, Below W1.heap.size W1 W → W.heap[w.heap.size]? = some (.cells #[.int .i64 a0, .int .i64 a1, .int .i64 a2, .slice A l.length c] 24 (0, 0)) := fun hb => (hb.block _ (Array.getElem?_eq_some_iff.1 hbx0).1).trans hbx0
 have HBL := Aside0.mk (Below.refl W1.heap.size W1)
 have HW1 := Aside0.mk hW1
 clear hW1 hbx0
 cases bw with
 | true =>
  clear hsm
  go_enter Tryd.func5, Tryd.ntmps5
  go_wp2_with (first | (go_at_call 6; (rw [HW1.out]; refine (Ka.commodatumlaw20_Wide.calls kw a0 a1 a2 A c l true _ (Kd.C_below HC.out (below_step HB1.out HBL.out)) HCL.out HWD.out).mono ?_; rintro e w2 ⟨rfl, hb⟩; have HBL := Aside0.mk (below_step HBL.out hb); have hbx := box0 HBL.out; have z0 : w2.cell? ⟨w.heap.size, 0, none⟩ = some (.int .i64 a0) := (blk_cell hbx 0).trans rfl; have z1 : w2.cell? ⟨w.heap.size, 1, none⟩ = some (.int .i64 a1) := (blk_cell hbx 1).trans rfl; have z2 : w2.cell? ⟨w.heap.size, 2, none⟩ = some (.int .i64 a2) := (blk_cell hbx 2).trans rfl; have z3 : w2.cell? ⟨w.heap.size, 3, none⟩ = some (.slice A l.length c) := (blk_cell hbx 3).trans rfl; clear hbx; clear hb)) | (go_at_call 7; (refine (awake_walk _).mono ?_; rintro e w8 ⟨rfl, hb⟩; have HBL := Aside0.mk (below_step HBL.out hb); clear hb)))
  refine bodyPost_ret (v := .bool true) (by simp [results, Tryd.results5, go_sem]) rfl ?_
  exact ⟨rfl, below_step HB1.out HBL.out⟩
 | false =>
  have HSM := Aside0.mk (hsm rfl)
  clear hsm
  obtain ⟨kv, hvd⟩ := refValid_total (a0 := a0) (a1 := a1) (a2 := a2) HSM.out.1 HSM.out.2
  have HVD := Aside0.mk hvd
  clear hvd
  cases hv : validM a0 a1 a2 l with
  | false =>
   rw [hv] at HVD
   clear hv
   go_enter Tryd.func5, Tryd.ntmps5
   go_wp2_with (first | (go_at_call 6; (rw [HW1.out]; refine (Ka.commodatumlaw20_Wide.calls kw a0 a1 a2 A c l false _ (Kd.C_below HC.out (below_step HB1.out HBL.out)) HCL.out HWD.out).mono ?_; rintro e w2 ⟨rfl, hb⟩; have HBL := Aside0.mk (below_step HBL.out hb); have hbx := box0 HBL.out; have z0 : w2.cell? ⟨w.heap.size, 0, none⟩ = some (.int .i64 a0) := (blk_cell hbx 0).trans rfl; have z1 : w2.cell? ⟨w.heap.size, 1, none⟩ = some (.int .i64 a1) := (blk_cell hbx 1).trans rfl; have z2 : w2.cell? ⟨w.heap.size, 2, none⟩ = some (.int .i64 a2) := (blk_cell hbx 2).trans rfl; have z3 : w2.cell? ⟨w.heap.size, 3, none⟩ = some (.slice A l.length c) := (blk_cell hbx 3).trans rfl; clear hbx; clear hb)) | (go_at_call 8; (refine (Ka.commodatumref20_Valid.calls kv a0 a1 a2 A c l false _ (Kd.C_below HC.out (below_step HB1.out HBL.out)) HCL.out HVD.out).mono ?_; rintro e w3 ⟨rfl, hb⟩; have HBL := Aside0.mk (below_step HBL.out hb); have hbx := box0 HBL.out; have z0 : w3.cell? ⟨w.heap.size, 0, none⟩ = some (.int .i64 a0) := (blk_cell hbx 0).trans rfl; have z1 : w3.cell? ⟨w.heap.size, 1, none⟩ = some (.int .i64 a1) := (blk_cell hbx 1).trans rfl; have z2 : w3.cell? ⟨w.heap.size, 2, none⟩ = some (.int .i64 a2) := (blk_cell hbx 2).trans rfl; have z3 : w3.cell? ⟨w.heap.size, 3, none⟩ = some (.slice A l.length c) := (blk_cell hbx 3).trans rfl; clear hbx; clear hb)) | (go_at_call 7; (refine (awake_walk _).mono ?_; rintro e w8 ⟨rfl, hb⟩; have HBL := Aside0.mk (below_step HBL.out hb); clear hb)))
   refine bodyPost_ret (v := .bool true) (by simp [results, Tryd.results5, go_sem]) rfl ?_
   exact ⟨rfl, below_step HB1.out HBL.out⟩
  | true =>
   rw [hv] at HVD
   have htl : textR a0 a1 a2 l = if (writeT a0 a1 a2 l).length ≤ 40000 then (⟨(writeT a0 a1 a2 l).toArray⟩, 0) else (⟨#[]⟩, 5) := by unfold textR; rw [hv, if_pos rfl]
   obtain ⟨s, hs⟩ : ∃ s : ByteArray, (⟨(writeT a0 a1 a2 l).toArray⟩ : ByteArray) = s := ⟨_, rfl⟩
   have hsz : s.size = (writeT a0 a1 a2 l).length := by rw [← hs, size_toArray]
   rw [hs] at htl
   by_cases c0 : (writeT a0 a1 a2 l).length ≤ 40000
   ·rw [if_pos c0] at htl
    have HT := Aside0.mk htl
    have HSZ : Aside0 (s.size ≤ 140737488351232) := ⟨by omega⟩
    have HPF : Aside0 (parseF s = some (a0, a1, a2, l)) := ⟨by
     have h := parseP_write intsR_reads hv
     rw [← cut_write, show bytesOf (writeT a0 a1 a2 l) = s from hs] at h
     unfold parseF
     rw [if_pos (by omega)]
     exact h⟩
    clear htl hsz c0 hs hv
    go_enter Tryd.func5, Tryd.ntmps5
    go_upto_region 7 with (first | (go_at_call 6; (rw [HW1.out]; refine (Ka.commodatumlaw20_Wide.calls kw a0 a1 a2 A c l false _ (Kd.C_below HC.out (below_step HB1.out HBL.out)) HCL.out HWD.out).mono ?_; rintro e w2 ⟨rfl, hb⟩; have HBL := Aside0.mk (below_step HBL.out hb); have hbx := box0 HBL.out; have z0 : w2.cell? ⟨w.heap.size, 0, none⟩ = some (.int .i64 a0) := (blk_cell hbx 0).trans rfl; have z1 : w2.cell? ⟨w.heap.size, 1, none⟩ = some (.int .i64 a1) := (blk_cell hbx 1).trans rfl; have z2 : w2.cell? ⟨w.heap.size, 2, none⟩ = some (.int .i64 a2) := (blk_cell hbx 2).trans rfl; have z3 : w2.cell? ⟨w.heap.size, 3, none⟩ = some (.slice A l.length c) := (blk_cell hbx 3).trans rfl; clear hbx; clear hb)) | (go_at_call 8; (refine (Ka.commodatumref20_Valid.calls kv a0 a1 a2 A c l true _ (Kd.C_below HC.out (below_step HB1.out HBL.out)) HCL.out HVD.out).mono ?_; rintro e w3 ⟨rfl, hb⟩; have HBL := Aside0.mk (below_step HBL.out hb); have hbx := box0 HBL.out; have z0 : w3.cell? ⟨w.heap.size, 0, none⟩ = some (.int .i64 a0) := (blk_cell hbx 0).trans rfl; have z1 : w3.cell? ⟨w.heap.size, 1, none⟩ = some (.int .i64 a1) := (blk_cell hbx 1).trans rfl; have z2 : w3.cell? ⟨w.heap.size, 2, none⟩ = some (.int .i64 a2) := (blk_cell hbx 2).trans rfl; have z3 : w3.cell? ⟨w.heap.size, 3, none⟩ = some (.slice A l.length c) := (blk_cell hbx 3).trans rfl; clear hbx; clear hb)) | (go_at_call 11; (refine (copy_walk a0 a1 a2 A c l _ (Kd.C_below HC.out (below_step HB1.out HBL.out)) (by have := HSM.out.1; omega) (fun r hr => by have := HSM.out.2 r hr; omega)).mono ?_; rintro e w5 ⟨B, cb, rfl, hcb, hkc, hb⟩; have HBL := Aside0.mk (below_step HBL.out hb); have HCB := Aside0.mk hkc; clear hcb hkc; have hbx := box0 HBL.out; have z0 : w5.cell? ⟨w.heap.size, 0, none⟩ = some (.int .i64 a0) := (blk_cell hbx 0).trans rfl; have z1 : w5.cell? ⟨w.heap.size, 1, none⟩ = some (.int .i64 a1) := (blk_cell hbx 1).trans rfl; have z2 : w5.cell? ⟨w.heap.size, 2, none⟩ = some (.int .i64 a2) := (blk_cell hbx 2).trans rfl; have z3 : w5.cell? ⟨w.heap.size, 3, none⟩ = some (.slice A l.length c) := (blk_cell hbx 3).trans rfl; clear hbx; clear hb)) | (go_at_call 12; (refine (text_calls a0 a1 a2 B cb l _ HCB.out (HLAY.out.below (below_step HB1.out HBL.out)).lay (by have := HSM.out.1; omega)).mono ?_; rw [HT.out]; rintro e w7 ⟨rfl, hb⟩; have HBL := Aside0.mk (below_step HBL.out hb); have hbx := box0 HBL.out; have z0 : w7.cell? ⟨w.heap.size, 0, none⟩ = some (.int .i64 a0) := (blk_cell hbx 0).trans rfl; have z1 : w7.cell? ⟨w.heap.size, 1, none⟩ = some (.int .i64 a1) := (blk_cell hbx 1).trans rfl; have z2 : w7.cell? ⟨w.heap.size, 2, none⟩ = some (.int .i64 a2) := (blk_cell hbx 2).trans rfl; have z3 : w7.cell? ⟨w.heap.size, 3, none⟩ = some (.slice A l.length c) := (blk_cell hbx 3).trans rfl; clear hbx; clear hb)) | (go_at_call 14; (refine (parse_calls s _ (HLAY.out.below (below_step HB1.out HBL.out)) HSZ.out).mono ?_; rw [HPF.out]; rintro e w9 ⟨hb, B, d, rfl, hnd, bb, hR⟩; have HBL := Aside0.mk (below_step HBL.out hb); have HND := Aside0.mk hnd; have HS4 := Aside0.mk hR; clear hnd hR; have hbx := box0 HBL.out; have z0 : w9.cell? ⟨w.heap.size, 0, none⟩ = some (.int .i64 a0) := (blk_cell hbx 0).trans rfl; have z1 : w9.cell? ⟨w.heap.size, 1, none⟩ = some (.int .i64 a1) := (blk_cell hbx 1).trans rfl; have z2 : w9.cell? ⟨w.heap.size, 2, none⟩ = some (.int .i64 a2) := (blk_cell hbx 2).trans rfl; have z3 : w9.cell? ⟨w.heap.size, 3, none⟩ = some (.slice A l.length c) := (blk_cell hbx 3).trans rfl; clear hbx; clear hb)) | ((with_reducible refine gate_dst (N := 5) rfl ?_); refine box_event ?hg (N := 5) ?hd (cs := #[.int .i64 0, .int .i64 0, .int .i64 0, .slice none 0 0]) (t := 24) ?hr ?_; (case hd => rfl); (case hg => rfl); (case hr => first | (go_simp; done) | (go_simp; rfl)); intro gc hgc wa hbox hb; have HC5 := Aside0.mk hbox; have HNE : Aside0 (w.heap.size < gc) := ⟨by rw [hgc]; exact (Array.getElem?_eq_some_iff.1 (box0 HBL.out)).1⟩; have HS5 := Aside0.mk (HS4.out.below hb); have HBL := Aside0.mk (below_step HBL.out hb); have HA5 := Aside0.mk (box0 HBL.out); obtain ⟨y0, y1, y2, y3, g0, g1, g2, g3⟩ := zero_cells hbox; clear hgc hbox hb))
    have HBS := Aside0.mk (below_step HB1.out HBL.out)
    obtain ⟨W6, hW6⟩ : ∃ W, ((((wa.setCell ⟨gc, 0, none⟩ (.int .i64 a0)).setCell ⟨gc, 1, none⟩ (.int .i64 a1)).setCell ⟨gc, 2, none⟩ (.int .i64 a2)).setCell ⟨gc, 3, none⟩ (.slice B l.length d)) = W := ⟨_, rfl⟩
    have HB6 : Aside0 (Below w.heap.size w W6) := ⟨by rw [← hW6]; exact set4_below HBS.out (Nat.le_of_lt HNE.out) _ _ _ _⟩
    have HC6 : Aside0 (W6.heap[gc]? = some (.cells #[.int .i64 a0, .int .i64 a1, .int .i64 a2, .slice B l.length d] 24 (0, 0))) := ⟨by rw [← hW6]; exact set4_get HC5.out _ _ _ _⟩
    have HA6 : Aside0 (W6.heap[w.heap.size]? = some (.cells #[.int .i64 a0, .int .i64 a1, .int .i64 a2, .slice A l.length c] 24 (0, 0))) := ⟨by rw [← hW6]; exact (set4_other (Nat.ne_of_lt HNE.out) _ _ _ _).trans HA5.out⟩
    have HS6 : Aside0 (RowsAt W6 bb (.slice B l.length d) l) := ⟨by rw [← hW6]; exact set4_rows HS5.out HC5.out _ _ _ _⟩
    rw [hW6]
    clear hW6 y0 y1 y2 y3 g0 g1 g2 g3 z0 z1 z2 z3
    obtain ⟨m0, m1, m2, m3⟩ := box_cells HC6.out
    obtain ⟨n0, n1, n2, n3⟩ := box_cells HA6.out
    go_wp2_with (first | (go_at_call 15; (refine (same_calls a0 a1 a2 B A d c l W6 HS6.out.C.2.2 (Kd.C_below HC.out HB6.out) HND.out HCL.out (by have := HSM.out.1; omega) (fun r hr => by have := HSM.out.2 r hr; omega)).mono ?_; rintro e w8 ⟨rfl, hb⟩; have HB8 := Aside0.mk (below_step HB6.out hb); clear hb)) | (go_at_call 7; refine (awake_walk _).mono ?_; rintro e w9 ⟨rfl, hb⟩; have HB9 := Aside0.mk (below_step HB8.out hb); clear hb))
    refine bodyPost_ret (v := .bool true) (by simp [results, Tryd.results5, go_sem]) rfl ?_
    exact ⟨rfl, HB9.out⟩
   ·rw [if_neg c0] at htl
    have HT := Aside0.mk htl
    clear htl hsz c0 hs hv
    go_enter Tryd.func5, Tryd.ntmps5
    go_wp2_with (first | (go_at_call 6; (rw [HW1.out]; refine (Ka.commodatumlaw20_Wide.calls kw a0 a1 a2 A c l false _ (Kd.C_below HC.out (below_step HB1.out HBL.out)) HCL.out HWD.out).mono ?_; rintro e w2 ⟨rfl, hb⟩; have HBL := Aside0.mk (below_step HBL.out hb); have hbx := box0 HBL.out; have z0 : w2.cell? ⟨w.heap.size, 0, none⟩ = some (.int .i64 a0) := (blk_cell hbx 0).trans rfl; have z1 : w2.cell? ⟨w.heap.size, 1, none⟩ = some (.int .i64 a1) := (blk_cell hbx 1).trans rfl; have z2 : w2.cell? ⟨w.heap.size, 2, none⟩ = some (.int .i64 a2) := (blk_cell hbx 2).trans rfl; have z3 : w2.cell? ⟨w.heap.size, 3, none⟩ = some (.slice A l.length c) := (blk_cell hbx 3).trans rfl; clear hbx; clear hb)) | (go_at_call 8; (refine (Ka.commodatumref20_Valid.calls kv a0 a1 a2 A c l true _ (Kd.C_below HC.out (below_step HB1.out HBL.out)) HCL.out HVD.out).mono ?_; rintro e w3 ⟨rfl, hb⟩; have HBL := Aside0.mk (below_step HBL.out hb); have hbx := box0 HBL.out; have z0 : w3.cell? ⟨w.heap.size, 0, none⟩ = some (.int .i64 a0) := (blk_cell hbx 0).trans rfl; have z1 : w3.cell? ⟨w.heap.size, 1, none⟩ = some (.int .i64 a1) := (blk_cell hbx 1).trans rfl; have z2 : w3.cell? ⟨w.heap.size, 2, none⟩ = some (.int .i64 a2) := (blk_cell hbx 2).trans rfl; have z3 : w3.cell? ⟨w.heap.size, 3, none⟩ = some (.slice A l.length c) := (blk_cell hbx 3).trans rfl; clear hbx; clear hb)) | (go_at_call 11; (refine (copy_walk a0 a1 a2 A c l _ (Kd.C_below HC.out (below_step HB1.out HBL.out)) (by have := HSM.out.1; omega) (fun r hr => by have := HSM.out.2 r hr; omega)).mono ?_; rintro e w5 ⟨B, cb, rfl, hcb, hkc, hb⟩; have HBL := Aside0.mk (below_step HBL.out hb); have HCB := Aside0.mk hkc; clear hcb hkc; have hbx := box0 HBL.out; have z0 : w5.cell? ⟨w.heap.size, 0, none⟩ = some (.int .i64 a0) := (blk_cell hbx 0).trans rfl; have z1 : w5.cell? ⟨w.heap.size, 1, none⟩ = some (.int .i64 a1) := (blk_cell hbx 1).trans rfl; have z2 : w5.cell? ⟨w.heap.size, 2, none⟩ = some (.int .i64 a2) := (blk_cell hbx 2).trans rfl; have z3 : w5.cell? ⟨w.heap.size, 3, none⟩ = some (.slice A l.length c) := (blk_cell hbx 3).trans rfl; clear hbx; clear hb)) | (go_at_call 12; (refine (text_calls a0 a1 a2 B cb l _ HCB.out (HLAY.out.below (below_step HB1.out HBL.out)).lay (by have := HSM.out.1; omega)).mono ?_; rw [HT.out]; rintro e w7 ⟨rfl, hb⟩; have HBL := Aside0.mk (below_step HBL.out hb); have hbx := box0 HBL.out; have z0 : w7.cell? ⟨w.heap.size, 0, none⟩ = some (.int .i64 a0) := (blk_cell hbx 0).trans rfl; have z1 : w7.cell? ⟨w.heap.size, 1, none⟩ = some (.int .i64 a1) := (blk_cell hbx 1).trans rfl; have z2 : w7.cell? ⟨w.heap.size, 2, none⟩ = some (.int .i64 a2) := (blk_cell hbx 2).trans rfl; have z3 : w7.cell? ⟨w.heap.size, 3, none⟩ = some (.slice A l.length c) := (blk_cell hbx 3).trans rfl; clear hbx; clear hb)) | (go_at_call 7; (refine (awake_walk _).mono ?_; rintro e w8 ⟨rfl, hb⟩; have HBL := Aside0.mk (below_step HBL.out hb); clear hb)))
    refine bodyPost_ret (v := .bool true) (by simp [results, Tryd.results5, go_sem]) rfl ?_
    exact ⟨rfl, below_step HB1.out HBL.out⟩
end Go.Proofs.YtfoodfhhdbaieaaDoor.Giv
