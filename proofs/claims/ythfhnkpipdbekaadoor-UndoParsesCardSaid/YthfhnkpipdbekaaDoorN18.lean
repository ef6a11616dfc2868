-- CUT by a program of this session: what the claim does not use is left out
import Derived.Test.YthfhnkpipdbekaaDoorN17
namespace Go.Proofs.YthfhnkpipdbekaaDoor.Giv
set_option linter.unusedVariables false
set_option linter.unusedSimpArgs false
open Go.RowKit Go.Shelf Go.Proofs.YthfhnkpipdbekaaDoorW.PrintWords Go.Proofs.YthfhnkpipdbekaaDoorW.PrintLast Go.Proofs.YthfhnkpipdbekaaDoorW.PrintMore
open Go.Proofs.YthfhnkpipdbekaaDoor.Ua (S67 k67 z67 rd_T67 at_T67 k67_open k67_mkM)
def commodatumref12_Text.f (a0_0 : Int) (l0_1 : List S67) : Option ByteArray := if validB a0_0 l0_1 = true then some ⟨(writeB a0_0 l0_1).toArray⟩ else none
theorem dec_calls (y : Int) (w : World) (h0 : 0 ≤ y) (h1 : y < 10000) : Calls Tryd.prog 61 #[.int .i64 y] w fun e w' => e = .returned (.string (itoaS y)) ∧ Below w.heap.size w w' := by
 obtain ⟨k, hk⟩ := Pure.decimal_ev h0 h1
 exact Tx.commodatumref12_Decimal.calls k y _ w (hk k (Nat.le_refl _))
theorem word_calls (k : Int) (w : World) (hk : k = 0 ∨ k = 1 ∨ k = 2 ∨ k = 3) : Calls Tryd.prog 62 #[.int .i64 k] w fun e w' => e = .returned (.string (wordS k)) ∧ Below w.heap.size w w' :=
 Tx.commodatumref12_word.calls k _ w (Pure.word_f hk)
theorem nums_pos (o : S67) : 1 ≤ (numsOf o).length ∧ (numsOf o).length ≤ 3 := by
 unfold numsOf; split
 ·simp
 ·split <;> simp
structure NumsAt (w : World) (b : Nat) (xs : List Int) : Prop where
 row : ∃ cells, w.heap[b]? = some (.cells cells 3 (0, 0)) ∧ ∀ j : Nat, j < xs.length → cells[j]? = some (.int .i64 (rd xs (j : Int)))
theorem NumsAt.cell {w : World} {b : Nat} {xs : List Int} (h : NumsAt w b xs) {j : Nat} (hj : j < xs.length) : w.cell? ⟨b, j, none⟩ = some (.int .i64 (rd xs (j : Int))) := by
 obtain ⟨cells, h1, h2⟩ := h.row
 simp only [World.cell?, h1]
 simpa using h2 j hj
theorem NumsAt.keep {w w' : World} {b : Nat} {xs : List Int} (h : NumsAt w b xs) (e : w'.heap[b]? = w.heap[b]?) : NumsAt w' b xs := by
 obtain ⟨cells, h1, h2⟩ := h.row
 exact ⟨cells, e.trans h1, h2⟩
theorem NumsAt.lt {w : World} {b : Nat} {xs : List Int} (h : NumsAt w b xs) : b < w.heap.size := by
 obtain ⟨cells, h1, _⟩ := h.row
 exact (Array.getElem?_eq_some_iff.1 h1).1
theorem used_calls (o : S67) (m : Nat) (hm : m = (numsOf o).length) (w : World) (hk : o.f0 = 0 ∨ o.f0 = 1 ∨ o.f0 = 2 ∨ o.f0 = 3) : Calls Tryd.prog 63 #[.agg #[.int .i64 o.f0, .int .i64 o.f1, .int .i64 o.f2, .int .i64 o.f3]] w fun e w' => ∃ b c, e = .returned (.slice (some ⟨b, 0, none⟩) m c) ∧ w.heap.size ≤ b ∧ NumsAt w' b (numsOf o) ∧ Below w.heap.size w w' := by
 subst hm
 obtain ⟨k, hk⟩ := Pure.used_ev hk
 refine (Tx.commodatumref12_used.calls k _ _ _ _ _ w (hk k (Nat.le_refl _))).mono ?_
 rintro e w' ⟨v, rfl, hr, hb⟩
 have hp := nums_pos o
 obtain ⟨g, cap, rfl, hg1, hg2, cells, hcells⟩ := Kd.R_form hr (by omega)
 refine ⟨g, cap, rfl, hg1, ⟨cells, hcells, fun j hj => ?_⟩, hb⟩
 have := (Kd.R_cell (0 : Int) hr (j : Int) (by omega) (by omega)).1
 simp only [World.cell?, hcells, Int.toNat_natCast] at this
 simpa [rd, rdOf] using this
theorem box_later {w wr : World} {cs : Array Value} {t : TypeId} (h : Below (w.alloc (.cells cs t)).heap.size (w.alloc (.cells cs t)) wr) : wr.heap[w.heap.size]? = some (.cells cs t (0, 0)) := by
 have e := box_at w (.cells cs t)
 exact (h.block _ (Array.getElem?_eq_some_iff.1 e).1).trans e
theorem nums_small2 {n : Int} {o : S67} (hn : n ≤ 1024) (h : rightB n o = true) : ∀ j : Nat, j < (numsOf o).length → 0 ≤ rd (numsOf o) (j : Int) ∧ rd (numsOf o) (j : Int) < 10000 := fun j hj => by
 have : rd (numsOf o) (j : Int) = (numsOf o)[j] := by simp [rd, List.getD_eq_getElem?_getD, List.getElem?_eq_getElem hj]
 rw [this]
 exact nums_small hn h _ (List.getElem_mem hj)
def partB (o : S67) (j : Nat) : List UInt8 := [59, 32] ++ wordB o.f0 ++ (((numsOf o).take j).map fun y => [32] ++ Lib.itoa y).flatten
theorem partB_next {o : S67} {j : Nat} (hj : j < (numsOf o).length) : partB o (j + 1) = partB o j ++ ([32] ++ Lib.itoa (rd (numsOf o) (j : Int))) := by
 have : rd (numsOf o) (j : Int) = (numsOf o)[j] := by simp [rd, List.getD_eq_getElem?_getD, List.getElem?_eq_getElem hj]
 unfold partB
 rw [this, List.take_succ_eq_append_getElem hj, List.map_append, List.flatten_append]
 simp
theorem partB_end (o : S67) : partB o (numsOf o).length = opB o := by
 rw [opB_body]; unfold partB bodyB
 rw [List.take_length]; simp
theorem partB_len {n : Int} {o : S67} (hn : n ≤ 1024) (h : rightB n o = true) (j : Nat) : (partB o j).length ≤ 30 := by
 have hk := (rightB_in h).2.2.2
 have hw := wordB_len hk
 have hp := nums_pos o
 have key : ∀ l : List Int, (∀ y ∈ l, 0 ≤ y ∧ y < 10000) → ((l.map fun y => [32] ++ Lib.itoa y).flatten).length ≤ 5 * l.length := by
  intro l
  induction l with
  | nil => intro _; simp
  | cons y l ih =>
   intro hl
   have h1 := itoa_len (hl y List.mem_cons_self).1 (hl y List.mem_cons_self).2
   have h2 := ih (fun z hz => hl z (List.mem_cons_of_mem _ hz))
   simp only [List.map_cons, List.flatten_cons, List.length_append, List.length_cons] at h2 ⊢
   simp at h2 ⊢
   omega
 have h3 := key ((numsOf o).take j) (fun y hy => nums_small hn h y (List.mem_of_mem_take hy))
 have h4 := List.length_take_le' j (numsOf o)
 unfold partB
 rw [List.length_append, List.length_append]
 simp only [List.length_cons, List.length_nil]
 omega
set_option maxHeartbeats 8000000 in
set_option maxRecDepth 100000 in
theorem commodatumref12_Text.calls (a0_0 : Int) (A0_1 : Option Addr) (c0_1 : Nat) (l0_1 : List S67) (r : ByteArray) (w : World) (hr0_1 : Kd.C k67 w A0_1 l0_1.length l0_1) (hc0_1 : l0_1.length ≤ c0_1) (h : commodatumref12_Text.f a0_0 l0_1 = some r) :
  Calls Tryd.prog 27 #[.agg #[.int .i64 a0_0, .slice A0_1 l0_1.length c0_1]] w fun e w' => e = .returned (.string r) ∧ Below w.heap.size w w' := by
 have HB := Aside0.mk (Below.refl w.heap.size w)
 have HC := Aside0.mk hr0_1
 unfold commodatumref12_Text.f at h
 cases hv : validB a0_0 l0_1 with
 | false => rw [hv, if_neg (by simp)] at h; cases h
 | true =>
 rw [hv, if_pos rfl] at h
 obtain rfl := Option.some.inj h
 obtain ⟨⟨hv1, hv2, hv3⟩, hv4⟩ := validB_all hv
 have HRT := Aside0.mk hv4
 have HV := Aside0.mk (And.intro hv1 (And.intro hv2 hv3))
 have HWL : Aside0 (∀ i, (writeB a0_0 (l0_1.take i)).length ≤ 6000004) := ⟨fun i => by
  have := write_len (n := a0_0) (by omega) hv2 (l0_1.take i) (fun o ho => hv4 o (List.mem_of_mem_take ho))
  have h2 := List.length_take_le' i l0_1
  omega⟩
 clear hr0_1 hc0_1 h hv hv1 hv2 hv3 hv4
 have HL3 : Aside0 (l0_1.length ≤ 200000) := ⟨HV.out.2.2⟩
 have HIS : Aside0 ((itoaS a0_0).size ≤ 4) := ⟨by rw [itoaS, size_toArray]; exact itoa_len (by have := HV.out; omega) (by have := HV.out; omega)⟩
 go_enter Tryd.func27, Tryd.ntmps27
 go_wp2_with (first
  | (go_at_call 61; refine (dec_calls a0_0 _ (by have := HV.out; omega) (by have := HV.out; omega)).mono ?_; rintro e w2 ⟨rfl, hb⟩; have HB2 := Aside0.mk hb; clear hb)
  | ((with_reducible refine gate_dst (N := 10) rfl ?_); refine convM_event (s := itoaS a0_0) (w0 := w.alloc (.cells #[.int .i64 a0_0, .slice A0_1 l0_1.length c0_1] 25)) ?hg (.tmp 9) ?ho ?hx HB2.out (by have := HIS.out; omega) ?_; (case hg => rfl); (case ho => rfl); (case hx => rfl); intro v3 w3 hO; have HO3 := Aside0.mk hO; clear hO))
 have HST : Aside0 (OwnM (w.alloc (.cells #[.int .i64 a0_0, .slice A0_1 l0_1.length c0_1] 25)) w3 v3 (writeB a0_0 (l0_1.take 0))) := ⟨by have := HO3.out; simpa [writeB, itoaS] using this⟩
 clear HO3 HB2 HIS
 go_loopg [3, 4, 5, 6] l0_1.length (fun gg s3 s4 _ _ wr => ∃ i : Nat, s4 = .int .i64 (i : Int) ∧ Aside0 (i ≤ l0_1.length) ∧ Aside0 (l0_1.length - i = gg) ∧ Aside0 (OwnM (w.alloc (.cells #[.int .i64 a0_0, .slice A0_1 l0_1.length c0_1] 25)) wr s3 (writeB a0_0 (l0_1.take i))))
 case atStart => exact ⟨0, rfl, ⟨by omega⟩, ⟨by omega⟩, HST⟩
 case round =>
  clear HST
  obtain ⟨i, rfl, HI, HG2, HAT⟩ := hrel
  have HBX := Aside0.mk (box_later HAT.out.below)
  have hz1 : wr.cell? ⟨w.heap.size, 1, none⟩ = some (.slice A0_1 l0_1.length c0_1) := (blk_cell HBX.out 1).trans rfl
  by_cases cl : i < l0_1.length
  ·have clb : decide ((i : Int) < (l0_1.length : Int)) = true := decide_eq_true (by omega)
   have HBW : Aside0 (Below w.heap.size w wr) := ⟨below_step (below_alloc (Below.refl w.heap.size w) _) HAT.out.below⟩
   obtain ⟨ad, e1, h0, h1, h2, h3⟩ := at_T67 HC.out (i : Int) (by omega) (by omega)
   rw [rd_T67_at l0_1 i cl] at h0 h1 h2 h3
   subst e1
   have p1 : (0 ≤ (i : Int)) = True := eq_true (by omega)
   have q1 : ((i : Int) < (l0_1.length : Int)) = True := eq_true (by omega)
   rw [Int.toNat_natCast] at h0 h1 h2 h3
   have HM := Aside0.mk (List.getElem_mem cl)
   have HN := Aside0.mk (writeB_next (n := a0_0) cl)
   obtain ⟨o, ho⟩ : ∃ o, o = l0_1[i] := ⟨_, rfl⟩
   rw [← ho] at h0 h1 h2 h3 HN HM
   clear ho
   have HO := Aside0.mk (HRT.out o HM.out)
   have CL := Aside0.mk cl
   clear cl
   have HPL : Aside0 (∀ j, (partB o j).length ≤ 30) := ⟨partB_len HV.out.2.1 HO.out⟩
   have HNS : Aside0 (∀ j : Nat, j < (numsOf o).length → 0 ≤ rd (numsOf o) (j : Int) ∧ rd (numsOf o) (j : Int) < 10000) := ⟨nums_small2 HV.out.2.1 HO.out⟩
   have HRI0 := Aside0.mk (rightB_in HO.out)
   obtain ⟨k, a, b, cc⟩ := o
   have HK : Aside0 (k = 0 ∨ k = 1 ∨ k = 2 ∨ k = 3) := ⟨HRI0.out.2.2.2⟩
   clear HRI0
   dsimp only at h0 h1 h2 h3
   have H0 := Aside0.mk h0
   have H1 := Aside0.mk h1
   have H2 := Aside0.mk h2
   have H3 := Aside0.mk h3
   clear h0 h1 h2 h3
   have h0 := pw_cell_below HBW.out H0.out
   obtain ⟨X, hX⟩ : ∃ X, X = writeB a0_0 (l0_1.take i) := ⟨_, rfl⟩
   have HXL : Aside0 (X.length ≤ 6000004) := ⟨by rw [hX]; exact HWL.out i⟩
   rw [← hX] at HAT HN
   clear hX
   have HWK : Aside0 ((wordS k).size ≤ 7) := ⟨by rw [wordS, size_toArray]; exact wordB_len HK.out⟩
   have z1 : (9223372036854775807 < 2 + (wordS k).size) = False := eq_false (by have := HWK.out; omega)
   have HP0 : Aside0 (((⟨#[59, 32]⟩ : ByteArray) ++ wordS k).data.toList = partB ⟨k, a, b, cc⟩ 0) := ⟨by simp [partB, wordS, ByteArray.data_append]⟩
   have HS0 : Aside0 (((⟨#[59, 32]⟩ : ByteArray) ++ wordS k).size ≤ 30) := ⟨by rw [size_list, HP0.out]; exact HPL.out 0⟩
   obtain ⟨m, hm⟩ : ∃ m, m = (numsOf ⟨k, a, b, cc⟩).length := ⟨_, rfl⟩
   have HMM := Aside0.mk hm
   clear hm
   go_wp2_with (first
    | (go_at_call 62; refine (word_calls k _ HK.out).mono ?_; rintro e w4 ⟨rfl, hb⟩; have HAT4 := Aside0.mk (HAT.out.later hb); clear hb)
    | ((with_reducible refine gate_dst (N := 27) rfl ?_); refine appM_event (s := (⟨#[59, 32]⟩ : ByteArray) ++ wordS k) (w0 := (w.alloc (.cells #[.int .i64 a0_0, .slice (some ad) l0_1.length c0_1] 25))) ?hg (.tmp 18) (.tmp 26) ?ho ?hx ?hy HAT4.out (by have := HS0.out; have := HXL.out; omega) ?_; (case hg => rfl); (case ho => rfl); (case hx => rfl); (case hy => rfl); intro v5 w5 hO hMv; have HAT5 : Aside0 (OwnM (w.alloc (.cells #[.int .i64 a0_0, .slice (some ad) l0_1.length c0_1] 25)) w5 v5 (X ++ partB ⟨k, a, b, cc⟩ 0)) := ⟨by rw [← HP0.out]; exact hO⟩; have HBW5 : Aside0 (Below w.heap.size w w5) := ⟨below_step (below_alloc (Below.refl w.heap.size w) _) hO.below⟩; have HBX5 := Aside0.mk (box_later hO.below); have hz5 : w5.cell? ⟨w.heap.size, 1, none⟩ = some (.slice (some ad) l0_1.length c0_1) := (blk_cell HBX5.out 1).trans rfl; have g0 := pw_cell_below HBW5.out H0.out; have g1 := pw_cell_below HBW5.out H1.out; have g2 := pw_cell_below HBW5.out H2.out; have g3 := pw_cell_below HBW5.out H3.out; clear hO hMv)
    | (go_at_call 63; refine (used_calls ⟨k, a, b, cc⟩ m HMM.out _ HK.out).mono ?_; rintro e w6 ⟨b6, c6, rfl, hb6, hn6, hb⟩; have HAT6 := Aside0.mk (HAT5.out.later hb); have HQ6 := Aside0.mk hn6; have HAP6 : Aside0 (some b6 ≠ v5.ownBlock) := ⟨fun e => by have := HAT5.out.lt b6 e; omega⟩; clear hb hb6 hn6))
   obtain ⟨wo, rfl⟩ : ∃ wo, wo = wr := ⟨_, rfl⟩
   go_loopg [3, 6] m (fun g2 s3 s6 wr => ∃ j : Nat, s6 = .int .i64 (j : Int) ∧ Aside0 (j ≤ m) ∧ Aside0 (m - j = g2) ∧ Aside0 (OwnM (w.alloc (.cells #[.int .i64 a0_0, .slice (some ad) l0_1.length c0_1] 25)) wr s3 (X ++ partB ⟨k, a, b, cc⟩ j)) ∧ Aside0 (NumsAt wr b6 (numsOf ⟨k, a, b, cc⟩)) ∧ Aside0 (some b6 ≠ s3.ownBlock))
   case atStart => exact ⟨0, rfl, ⟨by omega⟩, ⟨by omega⟩, HAT6, HQ6, HAP6⟩
   case round =>
    clear HAT6 HQ6 HAP6
    obtain ⟨j, rfl, HJ, HJ2, HAJ, HQJ, HAPJ⟩ := hrel
    by_cases cj : j < m
    ·have cjb : decide ((j : Int) < (m : Int)) = true := decide_eq_true (by omega)
     have cjc : decide (j < m) = true := decide_eq_true cj
     have p2 : (0 ≤ (j : Int)) = True := eq_true (by omega)
     have q2 : ((j : Int) < (m : Int)) = True := eq_true (by omega)
     have hq := HQJ.out.cell (j := j) (by rw [← HMM.out]; exact cj)
     have HY := Aside0.mk (HNS.out j (by rw [← HMM.out]; exact cj))
     have HPN := Aside0.mk (partB_next (o := ⟨k, a, b, cc⟩) (j := j) (by rw [← HMM.out]; exact cj))
     have CJ := Aside0.mk cj
     clear cj
     obtain ⟨y, hy⟩ : ∃ y, y = rd (numsOf ⟨k, a, b, cc⟩) (j : Int) := ⟨_, rfl⟩
     rw [← hy] at hq HY HPN
     clear hy
     have HLY : Aside0 (((⟨#[32]⟩ : ByteArray) ++ itoaS y).data.toList = [32] ++ Lib.itoa y) := ⟨by simp [itoaS, ByteArray.data_append]⟩
     have HIY : Aside0 ((itoaS y).size ≤ 4) := ⟨by rw [itoaS, size_toArray]; exact itoa_len HY.out.1 HY.out.2⟩
     have HSY : Aside0 (((⟨#[32]⟩ : ByteArray) ++ itoaS y).size ≤ 5) := ⟨by rw [size_list, HLY.out, List.length_append]; have := itoa_len HY.out.1 HY.out.2; simp; omega⟩
     have y1 : (9223372036854775807 < 1 + (itoaS y).size) = False := eq_false (by have := HIY.out; omega)
     go_wp2_with (first
      | (go_at_call 61; refine (dec_calls y _ HY.out.1 HY.out.2).mono ?_; rintro e w7 ⟨rfl, hb⟩; have HAT7 := Aside0.mk (HAJ.out.later hb); have HQ7 := Aside0.mk (HQJ.out.keep (hb.block _ HQJ.out.lt)); clear hb)
      | ((with_reducible refine gate_dst (N := 47) rfl ?_); refine appM_event (s := (⟨#[32]⟩ : ByteArray) ++ itoaS y) (w0 := (w.alloc (.cells #[.int .i64 a0_0, .slice (some ad) l0_1.length c0_1] 25))) ?hg (.tmp 40) (.tmp 46) ?ho ?hx ?hy HAT7.out (by have := HSY.out; have := HXL.out; have := HPL.out j; rw [List.length_append]; omega) ?_; (case hg => rfl); (case ho => rfl); (case hx => rfl); (case hy => rfl); intro v8 w8 hO hMv; have HAT8 : Aside0 (OwnM (w.alloc (.cells #[.int .i64 a0_0, .slice (some ad) l0_1.length c0_1] 25)) w8 v8 (X ++ partB ⟨k, a, b, cc⟩ (j + 1))) := ⟨by rw [HPN.out, ← HLY.out, ← List.append_assoc]; exact hO⟩; have HQ8 := Aside0.mk (HQ7.out.keep (hMv.keep _ HQ7.out.lt HAPJ.out)); have HAP8 := Aside0.mk (hMv.own _ HQ7.out.lt HAPJ.out); clear hO hMv))
     go_roundg (m - (j + 1))
     case measure => have := HJ2.out; have := CJ.out; omega
     case rel =>
      have := CJ.out
      refine ⟨j + 1, ?_, ⟨by omega⟩, ⟨by omega⟩, HAT8, HQ8, HAP8⟩
      rw [show wrap64 ((j : Int) + 1) = ((j + 1 : Nat) : Int) by have := nums_pos ⟨k, a, b, cc⟩; have := HMM.out; have := CJ.out; unfold wrap64; omega]
    ·have cjb : decide ((j : Int) < (m : Int)) = false := decide_eq_false (by omega)
     have cjc : decide (j < m) = false := decide_eq_false cj
     have HJE : Aside0 (j = m) := ⟨by have := HJ.out; omega⟩
     clear cj
     go_wp2
     go_roundg (l0_1.length - (i + 1))
     case measure => have := HG2.out; have := CL.out; omega
     case rel =>
      have := CL.out
      refine ⟨i + 1, ?_, ⟨by omega⟩, ⟨by omega⟩, ⟨by rw [HN.out, ← partB_end, ← HMM.out, ← HJE.out]; exact HAJ.out⟩⟩
      rw [show wrap64 ((i : Int) + 1) = ((i + 1 : Nat) : Int) by have := HL3.out; unfold wrap64; omega]
  ·have clb : decide ((i : Int) < (l0_1.length : Int)) = false := decide_eq_false (by omega)
   have clc : decide (i < l0_1.length) = false := decide_eq_false cl
   have HFIN : Aside0 (writeB a0_0 (l0_1.take i) = writeB a0_0 l0_1) := ⟨by rw [List.take_of_length_le (by omega)]⟩
   clear cl
   have hcv := HAT.out.text
   go_wp2
   go_ret
   refine ⟨by rw [← HFIN.out]; simp [results, Tryd.results27, go_sem], ?_⟩
   exact below_step (below_alloc (Below.refl w.heap.size w) _) HAT.out.below
end Go.Proofs.YthfhnkpipdbekaaDoor.Giv
