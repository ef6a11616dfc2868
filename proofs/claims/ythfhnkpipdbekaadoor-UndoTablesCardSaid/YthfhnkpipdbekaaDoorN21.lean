-- CUT by a program of this session: what the claim does not use is left out
import Derived.Test.YthfhnkpipdbekaaDoorQ25
import Derived.Deep.CutBlock
namespace Go.Proofs.YthfhnkpipdbekaaDoor.Giv
set_option linter.unusedVariables false
set_option linter.unusedSimpArgs false
open Go.RowKit Go.Shelf Go.Proofs.YthfhnkpipdbekaaDoorW.PrintWords Go.Proofs.YthfhnkpipdbekaaDoorW.PrintLast Go.Proofs.YthfhnkpipdbekaaDoorW.PrintMore
open Go.Proofs.YthfhnkpipdbekaaDoor.Ua (S67 k67 z67 rd_T67 at_T67 k67_open k67_mk k67_mkM)
open Go.Proofs.YthfhnkpipdbekaaDoor.Pure (CT DT TabAt tabQ)
structure TbAt (w wr : World) (N0 : Int) (A : Option Addr) (m c : Nat) : Prop where
 box : wr.heap[w.heap.size]? = some (.cells #[.int .i64 N0, .slice A m c] 25 (0, 0))
 below : Below w.heap.size w wr
theorem TbAt.later {w wr W : World} {N0 : Int} {A : Option Addr} {m c : Nat} (h : TbAt w wr N0 A m c) (hb : Below wr.heap.size wr W) : TbAt w W N0 A m c :=
 ⟨(hb.block _ (blk_lt h.box)).trans h.box, below_step h.below hb⟩
theorem TbAt.c0 {w wr : World} {N0 : Int} {A : Option Addr} {m c : Nat} (h : TbAt w wr N0 A m c) : wr.cell? ⟨w.heap.size, 0, none⟩ = some (.int .i64 N0) := (blk_cell h.box 0).trans rfl
theorem TbAt.c1 {w wr : World} {N0 : Int} {A : Option Addr} {m c : Nat} (h : TbAt w wr N0 A m c) : wr.cell? ⟨w.heap.size, 1, none⟩ = some (.slice A m c) := (blk_cell h.box 1).trans rfl
theorem tbNew (w : World) (N0 : Int) (A : Option Addr) (m c : Nat) : TbAt w (w.alloc (.cells #[.int .i64 N0, .slice A m c] 25)) N0 A m c :=
 ⟨box_at w _, below_alloc (Below.refl w.heap.size w) _⟩
def RowB (w : World) (v : Value) (a : List Bool) : Prop := ∃ A c, v = .slice A a.length c ∧ a.length ≤ c ∧ Kd.C Kd.bool w A a.length a
theorem RowB.later {w W : World} {v : Value} {a : List Bool} (h : RowB w v a) (hb : Below w.heap.size w W) : RowB W v a := by
 obtain ⟨A, c, e, h1, h2⟩ := h
 exact ⟨A, c, e, h1, Kd.C_below h2 hb⟩
theorem RowB.of {w : World} {base : Nat} {ok : Nat → Prop} {v : Value} {a : List Bool} (h : Kd.R Kd.bool 4 w base ok v a) : RowB w v a := by
 obtain ⟨A, c, e, h1, h2⟩ := Kd.R_reads h
 exact ⟨A, c, e, h1, h2⟩
theorem RowB.nil (w : World) : RowB w (.slice none 0 0) [] := RowB.of (Kd.R_nil Kd.bool 4 w 0 (fun _ => True))
theorem wideT_calls (N0 : Int) (A : Option Addr) (c : Nat) (l : List S67) (wr : World) (b : Bool) (hb : b = decide ((l.length : Int) > 20000)) (hC : Kd.C k67 wr A l.length l) (hc : l.length ≤ c) : Calls Tryd.prog 17 #[.agg #[.int .i64 N0, .slice A l.length c]] wr fun e w' => e = .returned (.bool b) ∧ Below wr.heap.size wr w' := by
 subst hb
 exact Tb.commodatumlaw12_Wide.calls N0 A c l _ wr hC hc rfl
theorem validT_calls (N0 : Int) (A : Option Addr) (c : Nat) (l : List S67) (wr : World) (b : Bool) (hb : b = validB N0 l) (hC : Kd.C k67 wr A l.length l) (hc : l.length ≤ c) : Calls Tryd.prog 18 #[.agg #[.int .i64 N0, .slice A l.length c]] wr fun e w' => e = .returned (.bool b) ∧ Below wr.heap.size wr w' := by
 subst hb
 obtain ⟨k, hk⟩ := Pure.refValid_ev N0 l
 exact Ta.commodatumref12_Valid.calls k N0 A c l _ wr hC hc (hk k (Nat.le_refl _))
theorem awakeT_calls (wr : World) (hlay : Laid wr) : Calls Tryd.prog 12 #[] wr fun e w' => e = .returned (.bool true) ∧ Below wr.heap.size wr w' := by
 obtain ⟨k, hk⟩ := Pure.awake_ev
 exact Tb.commodatumlaw12_Awake.calls k true wr hlay (hk k (Nat.le_refl _))
theorem costT_calls (N0 : Int) (A : Option Addr) (c : Nat) (l : List S67) (n r : Int) (wr : World) (hC : Kd.C k67 wr A l.length l) (hc : l.length ≤ c) (h : Ta.commodatumref12_Cost.f N0 l n = some r) : Calls Tryd.prog 19 #[.agg #[.int .i64 N0, .slice A l.length c], .int .i64 n] wr fun e w' => e = .returned (.int .i64 r) ∧ Below wr.heap.size wr w' :=
 Ta.commodatumref12_Cost.calls N0 A c l n r wr hC hc h
theorem largeT_calls (N0 : Int) (A : Option Addr) (c : Nat) (l : List S67) (r : Bool) (wr : World) (hC : Kd.C k67 wr A l.length l) (hc : l.length ≤ c) (h : Ta.commodatumref12_Large.f N0 l = some r) : Calls Tryd.prog 21 #[.agg #[.int .i64 N0, .slice A l.length c]] wr fun e w' => e = .returned (.bool r) ∧ Below wr.heap.size wr w' :=
 Ta.commodatumref12_Large.calls N0 A c l r wr hC hc h
theorem cleanR_calls {N0 : Int} {A : Option Addr} {c : Nat} {l : List S67} {n : Int} {a : List Bool} {ok : Bool} (h : Ev (fun k => Ta.commodatumref12_Clean.f k N0 l n) (a, ok)) (wr : World) (hC : Kd.C k67 wr A l.length l) (hc : l.length ≤ c) : Calls Tryd.prog 20 #[.agg #[.int .i64 N0, .slice A l.length c], .int .i64 n] wr fun e w' => ∃ v, e = .returned (.tuple #[v, .bool ok]) ∧ RowB w' v a ∧ Below wr.heap.size wr w' := by
 obtain ⟨k, hk⟩ := h
 refine (Ta.commodatumref12_Clean.calls k N0 A c l n a ok wr hC hc (hk k (Nat.le_refl _))).mono ?_
 rintro e w' ⟨v, e1, h1, h2⟩
 exact ⟨v, e1, RowB.of h1, h2⟩
theorem dirtyR_calls {N0 : Int} {A : Option Addr} {c : Nat} {l : List S67} {n : Int} {a : List Bool} {ok : Bool} (h : Ev (fun k => Ta.commodatumref12_Dirty.f k N0 l n) (a, ok)) (wr : World) (hC : Kd.C k67 wr A l.length l) (hc : l.length ≤ c) : Calls Tryd.prog 22 #[.agg #[.int .i64 N0, .slice A l.length c], .int .i64 n] wr fun e w' => ∃ v, e = .returned (.tuple #[v, .bool ok]) ∧ RowB w' v a ∧ Below wr.heap.size wr w' := by
 obtain ⟨k, hk⟩ := h
 refine (Ta.commodatumref12_Dirty.calls k N0 A c l n a ok wr hC hc (hk k (Nat.le_refl _))).mono ?_
 rintro e w' ⟨v, e1, h1, h2⟩
 exact ⟨v, e1, RowB.of h1, h2⟩
theorem cleanU_calls {N0 : Int} {A : Option Addr} {c : Nat} {l : List S67} {n : Int} {a : List Bool} {due : Int} (h : Ev (fun k => undo_Clean.f k N0 l n) (a, due)) (wr : World) (hC : Kd.C k67 wr A l.length l) (hc : l.length ≤ c) : Calls Tryd.prog 23 #[.agg #[.int .i64 N0, .slice A l.length c], .int .i64 n] wr fun e w' => ∃ v, e = .returned (.tuple #[v, .int .i64 due]) ∧ RowB w' v a ∧ Below wr.heap.size wr w' := by
 obtain ⟨k, hk⟩ := h
 refine (undo_Clean.calls k N0 A c l n a due wr hC hc (hk k (Nat.le_refl _))).mono ?_
 rintro e w' ⟨v, e1, h1, h2⟩
 exact ⟨v, e1, RowB.of h1, h2⟩
theorem dirtyU_calls {N0 : Int} {A : Option Addr} {c : Nat} {l : List S67} {n : Int} {a : List Bool} {due : Int} (h : Ev (fun k => Ta.undo_Dirty.f k N0 l n) (a, due)) (wr : World) (hC : Kd.C k67 wr A l.length l) (hc : l.length ≤ c) : Calls Tryd.prog 25 #[.agg #[.int .i64 N0, .slice A l.length c], .int .i64 n] wr fun e w' => ∃ v, e = .returned (.tuple #[v, .int .i64 due]) ∧ RowB w' v a ∧ Below wr.heap.size wr w' := by
 obtain ⟨k, hk⟩ := h
 refine (Ta.undo_Dirty.calls k N0 A c l n a due wr hC hc (hk k (Nat.le_refl _))).mono ?_
 rintro e w' ⟨v, e1, h1, h2⟩
 exact ⟨v, e1, RowB.of h1, h2⟩
theorem copyT_calls (N0 : Int) (A : Option Addr) (c : Nat) (l : List S67) (wr : World) (hl : l.length < 10000000) (hC : Kd.C k67 wr A l.length l) (hc : l.length ≤ c) : Calls Tryd.prog 24 #[.agg #[.int .i64 N0, .slice A l.length c]] wr fun e w' => ∃ A' c', e = .returned (.agg #[.int .i64 N0, .slice A' l.length c']) ∧ l.length ≤ c' ∧ Kd.C k67 w' A' l.length l ∧ Below wr.heap.size wr w' := by
 refine (Ta.commodatumlaw12_Copy.calls N0 A c l N0 l wr hC hc (Pure.copy_f N0 l hl)).mono ?_
 rintro e w' ⟨v, rfl, h1, h2⟩
 obtain ⟨A', c', rfl, h3, h4⟩ := Kd.R_reads h1
 exact ⟨A', c', rfl, h3, h4, h2⟩
theorem equalT_calls {x : List Bool} {A0 A1 : Option Addr} {c0 c1 : Nat} (wr : World) (hx : x.length ≤ 5000) (h0 : Kd.C Kd.bool wr A0 x.length x) (g0 : x.length ≤ c0) (h1 : Kd.C Kd.bool wr A1 x.length x) (g1 : x.length ≤ c1) : Calls Tryd.prog 26 #[.slice A0 x.length c0, .slice A1 x.length c1] wr fun e w' => e = .returned (.bool true) ∧ Below wr.heap.size wr w' := by
 obtain ⟨k, hk⟩ := Pure.refEqual_ev x (by omega)
 refine (Ta.commodatumref12_Equal.calls k A0 c0 x A1 c1 x true wr h0 g0 h1 g1 (hk k (Nat.le_refl _))).mono ?_
 rintro e w' ⟨e1, h⟩
 exact ⟨e1, h.below⟩
set_option maxHeartbeats 8000000 in
set_option maxRecDepth 100000 in
theorem tables_calls (N0 : Int) (A : Option Addr) (c : Nat) (l : List S67) (n : Int) (w : World) (hC : Kd.C k67 w A l.length l) (hc : l.length ≤ c) (hlay : Laid w) :
  Calls Tryd.prog 4 #[.agg #[.int .i64 N0, .slice A l.length c], .int .i64 n] w fun e w' => e = .returned (.bool true) ∧ Below w.heap.size w w' := by
 have HC := Aside0.mk hC
 have HC2 := Aside0.mk hc
 have HLAY := Aside0.mk hlay
 have HT0 := Aside0.mk (tbNew w N0 A l.length c)
 clear hC hc hlay
 by_cases hw : (l.length : Int) > 20000
 ·have HW := Aside0.mk (decide_eq_true hw)
  clear hw
  go_enter Tryd.func4, Tryd.ntmps4
  go_wp2_with (first
   | (go_at_call 17; refine (wideT_calls N0 A c l _ true HW.out.symm (Kd.C_below HC.out HT0.out.below) HC2.out).mono ?_; rintro e w1 ⟨rfl, hb⟩; have HT1 := Aside0.mk (HT0.out.later hb); clear hb)
   | (go_at_call 12; refine (awakeT_calls _ (Laid.below HLAY.out HT1.out.below)).mono ?_; rintro e w2 ⟨rfl, hb⟩; have HT2 := Aside0.mk (HT1.out.later hb); clear hb))
  go_ret
  exact ⟨by simp [results, Tryd.results4, go_sem], HT2.out.below⟩
 ·have HW := Aside0.mk (decide_eq_false hw)
  have HL : Aside0 (l.length ≤ 20000) := ⟨by omega⟩
  clear hw
  go_enter Tryd.func4, Tryd.ntmps4
  go_upto_block 0 with (go_at_call 17; refine (wideT_calls N0 A c l _ false HW.out.symm (Kd.C_below HC.out HT0.out.below) HC2.out).mono ?_; rintro e w1 ⟨rfl, hb⟩; have HT1 := Aside0.mk (HT0.out.later hb); clear hb)
  have HZ0 := Aside0.mk HT1.out.c0
  have HZ1 := Aside0.mk HT1.out.c1
  have hz0 := HT1.out.c0
  have hz1 := HT1.out.c1
  go_cut [5, 6, 7, 8, 9, 10, 11, 12] from 17 (fun v5 v6 v7 v8 _ _ _ _ wc => ∃ (a : List Bool) (due : Int) (b : List Bool) (late : Int) (T : List Bool), v7 = .int .i64 due ∧ v8 = .int .i64 late ∧ Aside0 (RowB wc v5 a) ∧ Aside0 (RowB wc v6 b) ∧ Aside0 (CT N0 l n a due T) ∧ Aside0 (DT N0 l n b late T) ∧ Aside0 (TbAt w wc N0 A l.length c))
  case first =>
   cases hv : validB N0 l with
   | false =>
    have HV := Aside0.mk hv
    clear hv
    go_wp2_with (go_at_call 18; refine (validT_calls N0 A c l _ false HV.out.symm (Kd.C_below HC.out HT1.out.below) HC2.out).mono ?_; rintro e w2 ⟨rfl, hb⟩; have HT2 := Aside0.mk (HT1.out.later hb); clear hb)
    go_meet
    case rel =>
     have h := Pure.ct_form (n := n) (N0 := N0) (l := l) [] (by rw [HV.out]; simp)
     exact ⟨[], 1, [], 1, [], rfl, rfl, ⟨RowB.nil _⟩, ⟨RowB.nil _⟩, ⟨h.1⟩, ⟨h.2⟩, HT2⟩
   | true =>
    have HV := Aside0.mk hv
    clear hv
    by_cases hn : n < 0 ∨ N0 ≤ n
    ·have HN := Aside0.mk hn
     clear hn
     by_cases hn0 : n < 0
     ·have d0 : decide (n < 0) = true := decide_eq_true hn0
      clear hn0
      go_wp2_with (go_at_call 18; refine (validT_calls N0 A c l _ true HV.out.symm (Kd.C_below HC.out HT1.out.below) HC2.out).mono ?_; rintro e w2 ⟨rfl, hb⟩; have HT2 := Aside0.mk (HT1.out.later hb); clear hb)
      go_meet
      case rel =>
       have h := Pure.ct_arg (n := n) (N0 := N0) (l := l) [] HV.out HN.out
       exact ⟨[], 2, [], 2, [], rfl, rfl, ⟨RowB.nil _⟩, ⟨RowB.nil _⟩, ⟨h.1⟩, ⟨h.2⟩, HT2⟩
     ·have d0 : decide (n < 0) = false := decide_eq_false hn0
      have d1 : decide (N0 ≤ n) = true := decide_eq_true (by have := HN.out; omega)
      clear hn0
      go_wp2_with (go_at_call 18; refine (validT_calls N0 A c l _ true HV.out.symm (Kd.C_below HC.out HT1.out.below) HC2.out).mono ?_; rintro e w2 ⟨rfl, hb⟩; have HT2 := Aside0.mk (HT1.out.later hb); have hy0 := HT2.out.c0; have hy1 := HT2.out.c1; clear hb)
      go_meet
      case rel =>
       have h := Pure.ct_arg (n := n) (N0 := N0) (l := l) [] HV.out HN.out
       exact ⟨[], 2, [], 2, [], rfl, rfl, ⟨RowB.nil _⟩, ⟨RowB.nil _⟩, ⟨h.1⟩, ⟨h.2⟩, HT2⟩
    ·have HN : Aside0 (0 ≤ n ∧ n < N0) := ⟨by omega⟩
     have d0 : decide (n < 0) = false := decide_eq_false (by omega)
     have d1 : decide (N0 ≤ n) = false := decide_eq_false (by omega)
     clear hn
     go_upto_region 5 with (go_at_call 18; refine (validT_calls N0 A c l _ true HV.out.symm (Kd.C_below HC.out HT1.out.below) HC2.out).mono ?_; rintro e w2 ⟨rfl, hb⟩; have HT2 := Aside0.mk (HT1.out.later hb); have hy0 := HT2.out.c0; have hy1 := HT2.out.c1; clear hb)
     obtain ⟨m, rfl⟩ : ∃ m : Nat, n = (m : Int) := ⟨n.toNat, by have := HN.out; omega⟩
     obtain ⟨N, rfl⟩ : ∃ N : Nat, N0 = (N : Int) := ⟨N0.toNat, by have := HN.out; omega⟩
     clear d0 d1
     by_cases hm : 12 < m
     ·have e2 : decide (12 < m) = true := decide_eq_true hm
      have e3 : decide (12 < (m : Int)) = true := decide_eq_true (by omega)
      have HM := Aside0.mk hm
      clear hm
      go_wp2
      go_meet
      case rel =>
       exact ⟨[], 5, [], 5, (tabQ N m l), rfl, rfl, ⟨RowB.nil _⟩, ⟨RowB.nil _⟩, ⟨Pure.ct_size (tabQ N m l) HV.out (by have := HN.out; omega) (.inl HM.out)⟩, ⟨Pure.dt_size (tabQ N m l) HV.out (by have := HN.out; omega) (.inl HM.out)⟩, HT2⟩
     ·have e2 : decide (12 < m) = false := decide_eq_false hm
      have e3 : decide (12 < (m : Int)) = false := decide_eq_false (by omega)
      have HM : Aside0 (m ≤ 12) := ⟨by omega⟩
      clear hm
      have HTA : Aside0 (TabAt N m l) := ⟨⟨(validB_all HV.out).2, (validB_all HV.out).1.2.2, by have := (validB_all HV.out).1.2.1; omega, by have := HN.out; omega, HM.out⟩⟩
      obtain ⟨R1, hR1⟩ : ∃ R1 : Int, R1 = ((2 ^ (m + 1) * (1 + l.length) : Nat) : Int) := ⟨_, rfl⟩
      have HR1 := Aside0.mk hR1
      by_cases hr1 : 16777216 < R1
      ·have f1 : decide (16777216 < R1) = true := decide_eq_true hr1
       have HF1 : Aside0 (16777216 < 2 ^ (m + 1) * (1 + l.length)) := ⟨by rw [hR1] at hr1; generalize 2 ^ (m + 1) * (1 + l.length) = z at *; omega⟩
       clear hr1 hR1
       go_upto_region 13 with (first | (go_at_call 19; rw [show wrap64 ((m : Int) + 1) = ((m + 1 : Nat) : Int) by have := HM.out; unfold wrap64; omega]; refine (costT_calls (N : Int) A c l ((m + 1 : Nat) : Int) R1 _ (Kd.C_below HC.out HT2.out.below) HC2.out (by rw [Pure.costT_f HL.out (m + 1) (by have := HM.out; omega), HR1.out])).mono ?_; rintro e w3 ⟨rfl, hb⟩; have HT3 := Aside0.mk (HT2.out.later hb); have c03 := HT3.out.c0; have c13 := HT3.out.c1; clear hb))
       by_cases hlg : N ≤ 20 ∧ (1 + l.length) * 2 ^ N ≤ 16777216
       ·have HLG : Aside0 ((!decide (N ≤ 20 ∧ (1 + l.length) * 2 ^ N ≤ 16777216)) = false) := ⟨by rw [decide_eq_true hlg]; rfl⟩
        have HG2 := Aside0.mk hlg
        clear hlg
        obtain ⟨b, ok2, hE2, hD2⟩ := Pure.dt_tab HTA.out HV.out HG2.out.1 HG2.out.2
        have HE2 := Aside0.mk hE2
        have HD2 := Aside0.mk hD2
        clear hE2 hD2
        obtain ⟨R2, hR2⟩ : ∃ R2 : Int, R2 = ((2 ^ N * (1 + l.length) : Nat) : Int) := ⟨_, rfl⟩
        have HR2 := Aside0.mk hR2
        clear hR2
        by_cases hr2 : 400000 < R2
        ·have f3 : decide (400000 < R2) = true := decide_eq_true hr2
         clear hr2
         go_wp2_with (first | (go_at_call 21; refine (largeT_calls (N : Int) A c l false _ (Kd.C_below HC.out HT3.out.below) HC2.out (by rw [Pure.largeT_f HL.out, HLG.out])).mono ?_; rintro e w3L ⟨rfl, hb⟩; have HT3L := Aside0.mk (HT3.out.later hb); have c03L := HT3L.out.c0; have c13L := HT3L.out.c1; clear hb) | (go_at_call 19; refine (costT_calls (N : Int) A c l (N : Int) R2 _ (Kd.C_below HC.out HT3L.out.below) HC2.out (by rw [Pure.costT_f HL.out N (by have := HG2.out.1; omega), HR2.out])).mono ?_; rintro e w3LC ⟨rfl, hb⟩; have HT3LC := Aside0.mk (HT3L.out.later hb); have c03LC := HT3LC.out.c0; have c13LC := HT3LC.out.c1; clear hb) | (go_at_call 12; refine (awakeT_calls _ (Laid.below HLAY.out HT3LC.out.below)).mono ?_; rintro e w3LCW ⟨rfl, hb⟩; have HT3LCW := Aside0.mk (HT3LC.out.later hb); clear hb))
         go_ret
         exact ⟨by simp [results, Tryd.results4, go_sem], HT3LCW.out.below⟩
        ·have f3 : decide (400000 < R2) = false := decide_eq_false hr2
         clear hr2
         cases ok2 with
         | true =>
          go_wp2_with (first | (go_at_call 21; refine (largeT_calls (N : Int) A c l false _ (Kd.C_below HC.out HT3.out.below) HC2.out (by rw [Pure.largeT_f HL.out, HLG.out])).mono ?_; rintro e w3L ⟨rfl, hb⟩; have HT3L := Aside0.mk (HT3.out.later hb); have c03L := HT3L.out.c0; have c13L := HT3L.out.c1; clear hb) | (go_at_call 19; refine (costT_calls (N : Int) A c l (N : Int) R2 _ (Kd.C_below HC.out HT3L.out.below) HC2.out (by rw [Pure.costT_f HL.out N (by have := HG2.out.1; omega), HR2.out])).mono ?_; rintro e w3LC ⟨rfl, hb⟩; have HT3LC := Aside0.mk (HT3L.out.later hb); have c03LC := HT3LC.out.c0; have c13LC := HT3LC.out.c1; clear hb) | (go_at_call 22; refine (dirtyR_calls HE2.out _ (Kd.C_below HC.out HT3LC.out.below) HC2.out).mono ?_; rintro e w3LCD ⟨v3LCD, rfl, hrow, hb⟩; have HT3LCD := Aside0.mk (HT3LC.out.later hb); have HRW2 := Aside0.mk hrow; have HBB2 := Aside0.mk hb; clear hrow; have c03LCD := HT3LCD.out.c0; have c13LCD := HT3LCD.out.c1; clear hb))
          go_meet
          case rel =>
           exact ⟨[], 5, b, 0, (tabQ N m l), rfl, rfl, ⟨RowB.nil _⟩, HRW2, ⟨Pure.ct_size (tabQ N m l) HV.out (by have := HN.out; omega) (.inr HF1.out)⟩, HD2, HT3LCD⟩
         | false =>
          go_wp2_with (first | (go_at_call 21; refine (largeT_calls (N : Int) A c l false _ (Kd.C_below HC.out HT3.out.below) HC2.out (by rw [Pure.largeT_f HL.out, HLG.out])).mono ?_; rintro e w3L ⟨rfl, hb⟩; have HT3L := Aside0.mk (HT3.out.later hb); have c03L := HT3L.out.c0; have c13L := HT3L.out.c1; clear hb) | (go_at_call 19; refine (costT_calls (N : Int) A c l (N : Int) R2 _ (Kd.C_below HC.out HT3L.out.below) HC2.out (by rw [Pure.costT_f HL.out N (by have := HG2.out.1; omega), HR2.out])).mono ?_; rintro e w3LC ⟨rfl, hb⟩; have HT3LC := Aside0.mk (HT3L.out.later hb); have c03LC := HT3LC.out.c0; have c13LC := HT3LC.out.c1; clear hb) | (go_at_call 22; refine (dirtyR_calls HE2.out _ (Kd.C_below HC.out HT3LC.out.below) HC2.out).mono ?_; rintro e w3LCD ⟨v3LCD, rfl, hrow, hb⟩; have HT3LCD := Aside0.mk (HT3LC.out.later hb); have HRW2 := Aside0.mk hrow; have HBB2 := Aside0.mk hb; clear hrow; have c03LCD := HT3LCD.out.c0; have c13LCD := HT3LCD.out.c1; clear hb))
          go_meet
          case rel =>
           exact ⟨[], 5, b, 6, (tabQ N m l), rfl, rfl, ⟨RowB.nil _⟩, HRW2, ⟨Pure.ct_size (tabQ N m l) HV.out (by have := HN.out; omega) (.inr HF1.out)⟩, HD2, HT3LCD⟩
       ·have HLG : Aside0 ((!decide (N ≤ 20 ∧ (1 + l.length) * 2 ^ N ≤ 16777216)) = true) := ⟨by rw [decide_eq_false hlg]; rfl⟩
        have HG2 := Aside0.mk hlg
        clear hlg
        go_wp2_with (first | (go_at_call 21; refine (largeT_calls (N : Int) A c l true _ (Kd.C_below HC.out HT3.out.below) HC2.out (by rw [Pure.largeT_f HL.out, HLG.out])).mono ?_; rintro e w3L ⟨rfl, hb⟩; have HT3L := Aside0.mk (HT3.out.later hb); have c03L := HT3L.out.c0; have c13L := HT3L.out.c1; clear hb))
        go_meet
        case rel =>
         exact ⟨[], 5, [], 5, (tabQ N m l), rfl, rfl, ⟨RowB.nil _⟩, ⟨RowB.nil _⟩, ⟨Pure.ct_size (tabQ N m l) HV.out (by have := HN.out; omega) (.inr HF1.out)⟩, ⟨Pure.dt_size (tabQ N m l) HV.out (by have := HN.out; omega) (.inr HG2.out)⟩, HT3L⟩
      ·have f1 : decide (16777216 < R1) = false := decide_eq_false hr1
       have HF1 : Aside0 (2 ^ (m + 1) * (1 + l.length) ≤ 16777216) := ⟨by rw [hR1] at hr1; generalize 2 ^ (m + 1) * (1 + l.length) = z at *; omega⟩
       clear hr1 hR1
       by_cases hr : 400000 < R1
       ·have f2 : decide (400000 < R1) = true := decide_eq_true hr
        clear hr
        go_wp2_with (first | (have h_ := HT3; (go_at_call 19; rw [show wrap64 ((m : Int) + 1) = ((m + 1 : Nat) : Int) by have := HM.out; unfold wrap64; omega]; refine (costT_calls (N : Int) A c l ((m + 1 : Nat) : Int) R1 _ (Kd.C_below HC.out HT3.out.below) HC2.out (by rw [Pure.costT_f HL.out (m + 1) (by have := HM.out; omega), HR1.out])).mono ?_; rintro e w4 ⟨rfl, hb⟩; have HT4 := Aside0.mk (HT3.out.later hb); have c04 := HT4.out.c0; have c14 := HT4.out.c1; clear hb)) | (go_at_call 19; rw [show wrap64 ((m : Int) + 1) = ((m + 1 : Nat) : Int) by have := HM.out; unfold wrap64; omega]; refine (costT_calls (N : Int) A c l ((m + 1 : Nat) : Int) R1 _ (Kd.C_below HC.out HT2.out.below) HC2.out (by rw [Pure.costT_f HL.out (m + 1) (by have := HM.out; omega), HR1.out])).mono ?_; rintro e w3 ⟨rfl, hb⟩; have HT3 := Aside0.mk (HT2.out.later hb); have c03 := HT3.out.c0; have c13 := HT3.out.c1; clear hb) | (go_at_call 12; refine (awakeT_calls _ (Laid.below HLAY.out HT4.out.below)).mono ?_; rintro e w5 ⟨rfl, hb⟩; have HT5 := Aside0.mk (HT4.out.later hb); clear hb))
        go_ret
        exact ⟨by simp [results, Tryd.results4, go_sem], HT5.out.below⟩
       ·have f2 : decide (400000 < R1) = false := decide_eq_false hr
        clear hr
        obtain ⟨a, ok1, hE1, hC1⟩ := Pure.ct_tab HTA.out HV.out HF1.out
        have HE1 := Aside0.mk hE1
        have HC1 := Aside0.mk hC1
        clear hE1 hC1
        cases ok1 with
        | true =>
         go_upto_region 13 with (first | (have h_ := HT3; (go_at_call 19; rw [show wrap64 ((m : Int) + 1) = ((m + 1 : Nat) : Int) by have := HM.out; unfold wrap64; omega]; refine (costT_calls (N : Int) A c l ((m + 1 : Nat) : Int) R1 _ (Kd.C_below HC.out HT3.out.below) HC2.out (by rw [Pure.costT_f HL.out (m + 1) (by have := HM.out; omega), HR1.out])).mono ?_; rintro e w4 ⟨rfl, hb⟩; have HT4 := Aside0.mk (HT3.out.later hb); have c04 := HT4.out.c0; have c14 := HT4.out.c1; clear hb)) | (go_at_call 19; rw [show wrap64 ((m : Int) + 1) = ((m + 1 : Nat) : Int) by have := HM.out; unfold wrap64; omega]; refine (costT_calls (N : Int) A c l ((m + 1 : Nat) : Int) R1 _ (Kd.C_below HC.out HT2.out.below) HC2.out (by rw [Pure.costT_f HL.out (m + 1) (by have := HM.out; omega), HR1.out])).mono ?_; rintro e w3 ⟨rfl, hb⟩; have HT3 := Aside0.mk (HT2.out.later hb); have c03 := HT3.out.c0; have c13 := HT3.out.c1; clear hb) | (go_at_call 20; refine (cleanR_calls HE1.out _ (Kd.C_below HC.out HT4.out.below) HC2.out).mono ?_; rintro e w6 ⟨v5, rfl, hrow, hb⟩; have HT6 := Aside0.mk (HT4.out.later hb); have HRW1 := Aside0.mk hrow; clear hrow; have c06 := HT6.out.c0; have c16 := HT6.out.c1; clear hb))
         by_cases hlg : N ≤ 20 ∧ (1 + l.length) * 2 ^ N ≤ 16777216
         ·have HLG : Aside0 ((!decide (N ≤ 20 ∧ (1 + l.length) * 2 ^ N ≤ 16777216)) = false) := ⟨by rw [decide_eq_true hlg]; rfl⟩
          have HG2 := Aside0.mk hlg
          clear hlg
          obtain ⟨b, ok2, hE2, hD2⟩ := Pure.dt_tab HTA.out HV.out HG2.out.1 HG2.out.2
          have HE2 := Aside0.mk hE2
          have HD2 := Aside0.mk hD2
          clear hE2 hD2
          obtain ⟨R2, hR2⟩ : ∃ R2 : Int, R2 = ((2 ^ N * (1 + l.length) : Nat) : Int) := ⟨_, rfl⟩
          have HR2 := Aside0.mk hR2
          clear hR2
          by_cases hr2 : 400000 < R2
          ·have f3 : decide (400000 < R2) = true := decide_eq_true hr2
           clear hr2
           go_wp2_with (first | (go_at_call 21; refine (largeT_calls (N : Int) A c l false _ (Kd.C_below HC.out HT6.out.below) HC2.out (by rw [Pure.largeT_f HL.out, HLG.out])).mono ?_; rintro e w6L ⟨rfl, hb⟩; have HT6L := Aside0.mk (HT6.out.later hb); have HB6L := Aside0.mk hb; have c06L := HT6L.out.c0; have c16L := HT6L.out.c1; clear hb) | (go_at_call 19; refine (costT_calls (N : Int) A c l (N : Int) R2 _ (Kd.C_below HC.out HT6L.out.below) HC2.out (by rw [Pure.costT_f HL.out N (by have := HG2.out.1; omega), HR2.out])).mono ?_; rintro e w6LC ⟨rfl, hb⟩; have HT6LC := Aside0.mk (HT6L.out.later hb); have HB6LC := Aside0.mk (below_step HB6L.out hb); have c06LC := HT6LC.out.c0; have c16LC := HT6LC.out.c1; clear hb) | (go_at_call 12; refine (awakeT_calls _ (Laid.below HLAY.out HT6LC.out.below)).mono ?_; rintro e w6LCW ⟨rfl, hb⟩; have HT6LCW := Aside0.mk (HT6LC.out.later hb); clear hb))
           go_ret
           exact ⟨by simp [results, Tryd.results4, go_sem], HT6LCW.out.below⟩
          ·have f3 : decide (400000 < R2) = false := decide_eq_false hr2
           clear hr2
           cases ok2 with
           | true =>
            go_wp2_with (first | (go_at_call 21; refine (largeT_calls (N : Int) A c l false _ (Kd.C_below HC.out HT6.out.below) HC2.out (by rw [Pure.largeT_f HL.out, HLG.out])).mono ?_; rintro e w6L ⟨rfl, hb⟩; have HT6L := Aside0.mk (HT6.out.later hb); have HB6L := Aside0.mk hb; have c06L := HT6L.out.c0; have c16L := HT6L.out.c1; clear hb) | (go_at_call 19; refine (costT_calls (N : Int) A c l (N : Int) R2 _ (Kd.C_below HC.out HT6L.out.below) HC2.out (by rw [Pure.costT_f HL.out N (by have := HG2.out.1; omega), HR2.out])).mono ?_; rintro e w6LC ⟨rfl, hb⟩; have HT6LC := Aside0.mk (HT6L.out.later hb); have HB6LC := Aside0.mk (below_step HB6L.out hb); have c06LC := HT6LC.out.c0; have c16LC := HT6LC.out.c1; clear hb) | (go_at_call 22; refine (dirtyR_calls HE2.out _ (Kd.C_below HC.out HT6LC.out.below) HC2.out).mono ?_; rintro e w6LCD ⟨v6LCD, rfl, hrow, hb⟩; have HT6LCD := Aside0.mk (HT6LC.out.later hb); have HB6LCD := Aside0.mk (below_step HB6LC.out hb); have HRW2 := Aside0.mk hrow; have HBB2 := Aside0.mk hb; clear hrow; have c06LCD := HT6LCD.out.c0; have c16LCD := HT6LCD.out.c1; clear hb))
            go_meet
            case rel =>
             exact ⟨a, 0, b, 0, (tabQ N m l), rfl, rfl, ⟨HRW1.out.later (HB6LCD.out)⟩, HRW2, HC1, HD2, HT6LCD⟩
           | false =>
            go_wp2_with (first | (go_at_call 21; refine (largeT_calls (N : Int) A c l false _ (Kd.C_below HC.out HT6.out.below) HC2.out (by rw [Pure.largeT_f HL.out, HLG.out])).mono ?_; rintro e w6L ⟨rfl, hb⟩; have HT6L := Aside0.mk (HT6.out.later hb); have HB6L := Aside0.mk hb; have c06L := HT6L.out.c0; have c16L := HT6L.out.c1; clear hb) | (go_at_call 19; refine (costT_calls (N : Int) A c l (N : Int) R2 _ (Kd.C_below HC.out HT6L.out.below) HC2.out (by rw [Pure.costT_f HL.out N (by have := HG2.out.1; omega), HR2.out])).mono ?_; rintro e w6LC ⟨rfl, hb⟩; have HT6LC := Aside0.mk (HT6L.out.later hb); have HB6LC := Aside0.mk (below_step HB6L.out hb); have c06LC := HT6LC.out.c0; have c16LC := HT6LC.out.c1; clear hb) | (go_at_call 22; refine (dirtyR_calls HE2.out _ (Kd.C_below HC.out HT6LC.out.below) HC2.out).mono ?_; rintro e w6LCD ⟨v6LCD, rfl, hrow, hb⟩; have HT6LCD := Aside0.mk (HT6LC.out.later hb); have HB6LCD := Aside0.mk (below_step HB6LC.out hb); have HRW2 := Aside0.mk hrow; have HBB2 := Aside0.mk hb; clear hrow; have c06LCD := HT6LCD.out.c0; have c16LCD := HT6LCD.out.c1; clear hb))
            go_meet
            case rel =>
             exact ⟨a, 0, b, 6, (tabQ N m l), rfl, rfl, ⟨HRW1.out.later (HB6LCD.out)⟩, HRW2, HC1, HD2, HT6LCD⟩
         ·have HLG : Aside0 ((!decide (N ≤ 20 ∧ (1 + l.length) * 2 ^ N ≤ 16777216)) = true) := ⟨by rw [decide_eq_false hlg]; rfl⟩
          have HG2 := Aside0.mk hlg
          clear hlg
          go_wp2_with (first | (go_at_call 21; refine (largeT_calls (N : Int) A c l true _ (Kd.C_below HC.out HT6.out.below) HC2.out (by rw [Pure.largeT_f HL.out, HLG.out])).mono ?_; rintro e w6L ⟨rfl, hb⟩; have HT6L := Aside0.mk (HT6.out.later hb); have HB6L := Aside0.mk hb; have c06L := HT6L.out.c0; have c16L := HT6L.out.c1; clear hb))
          go_meet
          case rel =>
           exact ⟨a, 0, [], 5, (tabQ N m l), rfl, rfl, ⟨HRW1.out.later (HB6L.out)⟩, ⟨RowB.nil _⟩, HC1, ⟨Pure.dt_size (tabQ N m l) HV.out (by have := HN.out; omega) (.inr HG2.out)⟩, HT6L⟩
        | false =>
         go_upto_region 13 with (first | (have h_ := HT3; (go_at_call 19; rw [show wrap64 ((m : Int) + 1) = ((m + 1 : Nat) : Int) by have := HM.out; unfold wrap64; omega]; refine (costT_calls (N : Int) A c l ((m + 1 : Nat) : Int) R1 _ (Kd.C_below HC.out HT3.out.below) HC2.out (by rw [Pure.costT_f HL.out (m + 1) (by have := HM.out; omega), HR1.out])).mono ?_; rintro e w4 ⟨rfl, hb⟩; have HT4 := Aside0.mk (HT3.out.later hb); have c04 := HT4.out.c0; have c14 := HT4.out.c1; clear hb)) | (go_at_call 19; rw [show wrap64 ((m : Int) + 1) = ((m + 1 : Nat) : Int) by have := HM.out; unfold wrap64; omega]; refine (costT_calls (N : Int) A c l ((m + 1 : Nat) : Int) R1 _ (Kd.C_below HC.out HT2.out.below) HC2.out (by rw [Pure.costT_f HL.out (m + 1) (by have := HM.out; omega), HR1.out])).mono ?_; rintro e w3 ⟨rfl, hb⟩; have HT3 := Aside0.mk (HT2.out.later hb); have c03 := HT3.out.c0; have c13 := HT3.out.c1; clear hb) | (go_at_call 20; refine (cleanR_calls HE1.out _ (Kd.C_below HC.out HT4.out.below) HC2.out).mono ?_; rintro e w6 ⟨v5, rfl, hrow, hb⟩; have HT6 := Aside0.mk (HT4.out.later hb); have HRW1 := Aside0.mk hrow; clear hrow; have c06 := HT6.out.c0; have c16 := HT6.out.c1; clear hb))
         by_cases hlg : N ≤ 20 ∧ (1 + l.length) * 2 ^ N ≤ 16777216
         ·have HLG : Aside0 ((!decide (N ≤ 20 ∧ (1 + l.length) * 2 ^ N ≤ 16777216)) = false) := ⟨by rw [decide_eq_true hlg]; rfl⟩
          have HG2 := Aside0.mk hlg
          clear hlg
          obtain ⟨b, ok2, hE2, hD2⟩ := Pure.dt_tab HTA.out HV.out HG2.out.1 HG2.out.2
          have HE2 := Aside0.mk hE2
          have HD2 := Aside0.mk hD2
          clear hE2 hD2
          obtain ⟨R2, hR2⟩ : ∃ R2 : Int, R2 = ((2 ^ N * (1 + l.length) : Nat) : Int) := ⟨_, rfl⟩
          have HR2 := Aside0.mk hR2
          clear hR2
          by_cases hr2 : 400000 < R2
          ·have f3 : decide (400000 < R2) = true := decide_eq_true hr2
           clear hr2
           go_wp2_with (first | (go_at_call 21; refine (largeT_calls (N : Int) A c l false _ (Kd.C_below HC.out HT6.out.below) HC2.out (by rw [Pure.largeT_f HL.out, HLG.out])).mono ?_; rintro e w6L ⟨rfl, hb⟩; have HT6L := Aside0.mk (HT6.out.later hb); have HB6L := Aside0.mk hb; have c06L := HT6L.out.c0; have c16L := HT6L.out.c1; clear hb) | (go_at_call 19; refine (costT_calls (N : Int) A c l (N : Int) R2 _ (Kd.C_below HC.out HT6L.out.below) HC2.out (by rw [Pure.costT_f HL.out N (by have := HG2.out.1; omega), HR2.out])).mono ?_; rintro e w6LC ⟨rfl, hb⟩; have HT6LC := Aside0.mk (HT6L.out.later hb); have HB6LC := Aside0.mk (below_step HB6L.out hb); have c06LC := HT6LC.out.c0; have c16LC := HT6LC.out.c1; clear hb) | (go_at_call 12; refine (awakeT_calls _ (Laid.below HLAY.out HT6LC.out.below)).mono ?_; rintro e w6LCW ⟨rfl, hb⟩; have HT6LCW := Aside0.mk (HT6LC.out.later hb); clear hb))
           go_ret
           exact ⟨by simp [results, Tryd.results4, go_sem], HT6LCW.out.below⟩
          ·have f3 : decide (400000 < R2) = false := decide_eq_false hr2
           clear hr2
           cases ok2 with
           | true =>
            go_wp2_with (first | (go_at_call 21; refine (largeT_calls (N : Int) A c l false _ (Kd.C_below HC.out HT6.out.below) HC2.out (by rw [Pure.largeT_f HL.out, HLG.out])).mono ?_; rintro e w6L ⟨rfl, hb⟩; have HT6L := Aside0.mk (HT6.out.later hb); have HB6L := Aside0.mk hb; have c06L := HT6L.out.c0; have c16L := HT6L.out.c1; clear hb) | (go_at_call 19; refine (costT_calls (N : Int) A c l (N : Int) R2 _ (Kd.C_below HC.out HT6L.out.below) HC2.out (by rw [Pure.costT_f HL.out N (by have := HG2.out.1; omega), HR2.out])).mono ?_; rintro e w6LC ⟨rfl, hb⟩; have HT6LC := Aside0.mk (HT6L.out.later hb); have HB6LC := Aside0.mk (below_step HB6L.out hb); have c06LC := HT6LC.out.c0; have c16LC := HT6LC.out.c1; clear hb) | (go_at_call 22; refine (dirtyR_calls HE2.out _ (Kd.C_below HC.out HT6LC.out.below) HC2.out).mono ?_; rintro e w6LCD ⟨v6LCD, rfl, hrow, hb⟩; have HT6LCD := Aside0.mk (HT6LC.out.later hb); have HB6LCD := Aside0.mk (below_step HB6LC.out hb); have HRW2 := Aside0.mk hrow; have HBB2 := Aside0.mk hb; clear hrow; have c06LCD := HT6LCD.out.c0; have c16LCD := HT6LCD.out.c1; clear hb))
            go_meet
            case rel =>
             exact ⟨a, 6, b, 0, (tabQ N m l), rfl, rfl, ⟨HRW1.out.later (HB6LCD.out)⟩, HRW2, HC1, HD2, HT6LCD⟩
           | false =>
            go_wp2_with (first | (go_at_call 21; refine (largeT_calls (N : Int) A c l false _ (Kd.C_below HC.out HT6.out.below) HC2.out (by rw [Pure.largeT_f HL.out, HLG.out])).mono ?_; rintro e w6L ⟨rfl, hb⟩; have HT6L := Aside0.mk (HT6.out.later hb); have HB6L := Aside0.mk hb; have c06L := HT6L.out.c0; have c16L := HT6L.out.c1; clear hb) | (go_at_call 19; refine (costT_calls (N : Int) A c l (N : Int) R2 _ (Kd.C_below HC.out HT6L.out.below) HC2.out (by rw [Pure.costT_f HL.out N (by have := HG2.out.1; omega), HR2.out])).mono ?_; rintro e w6LC ⟨rfl, hb⟩; have HT6LC := Aside0.mk (HT6L.out.later hb); have HB6LC := Aside0.mk (below_step HB6L.out hb); have c06LC := HT6LC.out.c0; have c16LC := HT6LC.out.c1; clear hb) | (go_at_call 22; refine (dirtyR_calls HE2.out _ (Kd.C_below HC.out HT6LC.out.below) HC2.out).mono ?_; rintro e w6LCD ⟨v6LCD, rfl, hrow, hb⟩; have HT6LCD := Aside0.mk (HT6LC.out.later hb); have HB6LCD := Aside0.mk (below_step HB6LC.out hb); have HRW2 := Aside0.mk hrow; have HBB2 := Aside0.mk hb; clear hrow; have c06LCD := HT6LCD.out.c0; have c16LCD := HT6LCD.out.c1; clear hb))
            go_meet
            case rel =>
             exact ⟨a, 6, b, 6, (tabQ N m l), rfl, rfl, ⟨HRW1.out.later (HB6LCD.out)⟩, HRW2, HC1, HD2, HT6LCD⟩
         ·have HLG : Aside0 ((!decide (N ≤ 20 ∧ (1 + l.length) * 2 ^ N ≤ 16777216)) = true) := ⟨by rw [decide_eq_false hlg]; rfl⟩
          have HG2 := Aside0.mk hlg
          clear hlg
          go_wp2_with (first | (go_at_call 21; refine (largeT_calls (N : Int) A c l true _ (Kd.C_below HC.out HT6.out.below) HC2.out (by rw [Pure.largeT_f HL.out, HLG.out])).mono ?_; rintro e w6L ⟨rfl, hb⟩; have HT6L := Aside0.mk (HT6.out.later hb); have HB6L := Aside0.mk hb; have c06L := HT6L.out.c0; have c16L := HT6L.out.c1; clear hb))
          go_meet
          case rel =>
           exact ⟨a, 6, [], 5, (tabQ N m l), rfl, rfl, ⟨HRW1.out.later (HB6L.out)⟩, ⟨RowB.nil _⟩, HC1, ⟨Pure.dt_size (tabQ N m l) HV.out (by have := HN.out; omega) (.inr HG2.out)⟩, HT6L⟩
  case rest =>
   clear hz0 hz1 HZ0 HZ1 HT1
   obtain ⟨a, due, b, late, T, rfl, rfl, HRA, HRB, HCT, HDT, HT1⟩ := hcut
   have c01 := HT1.out.c0
   have c11 := HT1.out.c1
   obtain ⟨w1', rfl⟩ : ∃ w', w' = wc := ⟨_, rfl⟩
   go_upto_region 27 with (first
    | (have h_ := HT3; (go_at_call 24; refine (copyT_calls N0 A c l _ (by have := HL.out; omega) (Kd.C_below HC.out HT3.out.below) HC2.out).mono ?_; rintro e w4 ⟨A4, k4, rfl, hk4, hr4, hb⟩; have HT4 := Aside0.mk (HT3.out.later hb); have c04 := HT4.out.c0; have c14 := HT4.out.c1; have HK4 := Aside0.mk hk4; have HR4 := Aside0.mk hr4; have HX4 := Aside0.mk hb; clear hk4 hr4; clear hb))
    | (go_at_call 24; refine (copyT_calls N0 A c l _ (by have := HL.out; omega) (Kd.C_below HC.out HT1.out.below) HC2.out).mono ?_; rintro e w2 ⟨A2, k2, rfl, hk2, hr2, hb⟩; have HT2 := Aside0.mk (HT1.out.later hb); have c02 := HT2.out.c0; have c12 := HT2.out.c1; have HK2 := Aside0.mk hk2; have HR2 := Aside0.mk hr2; have HX2 := Aside0.mk hb; clear hk2 hr2; clear hb)
    | (go_at_call 23; refine (cleanU_calls HCT.out.ev _ HR2.out HK2.out).mono ?_; rintro e w3 ⟨v3, rfl, hx3, hb⟩; have HT3 := Aside0.mk (HT2.out.later hb); have c03 := HT3.out.c0; have c13 := HT3.out.c1; have HX3 := Aside0.mk hx3; have HB3 := Aside0.mk (below_step HX2.out hb); clear hx3; clear hb)
    | (go_at_call 25; refine (dirtyU_calls HDT.out.ev _ HR4.out HK4.out).mono ?_; rintro e w5 ⟨v5, rfl, hx5, hb⟩; have HT5 := Aside0.mk (HT4.out.later hb); have c05 := HT5.out.c0; have c15 := HT5.out.c1; have HX5 := Aside0.mk hx5; have HB5 := Aside0.mk (below_step HX4.out hb); clear hx5; clear hb))
   clear h_ c01 c11 c02 c12 c03 c13 c04 c14
   have HLA : Aside0 (a.length ≤ 5000) := ⟨HCT.out.len⟩
   have HLB : Aside0 (b.length ≤ 5000) := ⟨HDT.out.len⟩
   have HE5 := Aside0.mk (Below.refl w5.heap.size w5)
   obtain ⟨X3, q3, e3, g3, k3⟩ := HX3.out.later HB5.out
   subst e3
   have KX3 := Aside0.mk k3
   have GX3 := Aside0.mk g3
   obtain ⟨XA, qA, eA, gA, kA⟩ := (HRA.out.later HB3.out).later HB5.out
   subst eA
   have KXA := Aside0.mk kA
   have GXA := Aside0.mk gA
   obtain ⟨X5, q5, e5, g5, k5⟩ := HX5.out
   subst e5
   have KX5 := Aside0.mk k5
   have GX5 := Aside0.mk g5
   obtain ⟨XB, qB, eB, gB, kB⟩ := (HRB.out.later HB3.out).later HB5.out
   subst eB
   have KXB := Aside0.mk kB
   have GXB := Aside0.mk gB
   clear g3 k3 gA kA g5 k5 gB kB HX3 HRA HX5 HRB
   by_cases hl0 : late = 0
   ·have HDQ := Aside0.mk (HDT.out.tab hl0)
    subst hl0
    by_cases hd0 : due = 0
    ·have HCQ := Aside0.mk (HCT.out.tab hd0)
     subst hd0
     have eab : b = a := HDQ.out.trans HCQ.out.symm
     subst eab
     go_wp2_with (first | (go_at_call 26; refine (equalT_calls (x := b) (A0 := X3) (A1 := X5) _ HLB.out (Kd.C_below KX3.out HE7.out) GX3.out (Kd.C_below KX5.out HE7.out) GX5.out).mono ?_; rintro e w8 ⟨rfl, hb⟩; have HE8 := Aside0.mk (below_step HE7.out hb); have HT8 := Aside0.mk (HT7.out.later hb); clear hb) | (go_at_call 26; refine (equalT_calls (x := b) (A0 := X5) (A1 := XB) _ HLB.out (Kd.C_below KX5.out HE6.out) GX5.out (Kd.C_below KXB.out HE6.out) GXB.out).mono ?_; rintro e w7 ⟨rfl, hb⟩; have HE7 := Aside0.mk (below_step HE6.out hb); have HT7 := Aside0.mk (HT6.out.later hb); clear hb) | (go_at_call 26; refine (equalT_calls (x := b) (A0 := X3) (A1 := XA) _ HLB.out (Kd.C_below KX3.out HE5.out) GX3.out (Kd.C_below KXA.out HE5.out) GXA.out).mono ?_; rintro e w6 ⟨rfl, hb⟩; have HE6 := Aside0.mk (below_step HE5.out hb); have HT6 := Aside0.mk (HT5.out.later hb); clear hb) | (go_at_call 12; refine (awakeT_calls _ (Laid.below HLAY.out HT8.out.below)).mono ?_; rintro e w9 ⟨rfl, hb⟩; have HT9 := Aside0.mk (HT8.out.later hb); clear hb))
     go_ret
     exact ⟨by simp [results, Tryd.results4, go_sem], HT9.out.below⟩
    ·have dd : (due != 0) = true := bne_iff_ne.2 hd0
     have dd2 : (due == 0) = false := beq_eq_false_iff_ne.2 hd0
     clear hd0
     go_wp2_with (first | (go_at_call 26; refine (equalT_calls (x := b) (A0 := X5) (A1 := XB) _ HLB.out (Kd.C_below KX5.out HE6.out) GX5.out (Kd.C_below KXB.out HE6.out) GXB.out).mono ?_; rintro e w7 ⟨rfl, hb⟩; have HE7 := Aside0.mk (below_step HE6.out hb); have HT7 := Aside0.mk (HT6.out.later hb); clear hb) | (go_at_call 26; refine (equalT_calls (x := a) (A0 := X3) (A1 := XA) _ HLA.out (Kd.C_below KX3.out HE5.out) GX3.out (Kd.C_below KXA.out HE5.out) GXA.out).mono ?_; rintro e w6 ⟨rfl, hb⟩; have HE6 := Aside0.mk (below_step HE5.out hb); have HT6 := Aside0.mk (HT5.out.later hb); clear hb) | (go_at_call 12; refine (awakeT_calls _ (Laid.below HLAY.out HT7.out.below)).mono ?_; rintro e w9 ⟨rfl, hb⟩; have HT9 := Aside0.mk (HT7.out.later hb); clear hb))
     go_ret
     exact ⟨by simp [results, Tryd.results4, go_sem], HT9.out.below⟩
   ·have dd : (late != 0) = true := bne_iff_ne.2 hl0
    have dd2 : (late == 0) = false := beq_eq_false_iff_ne.2 hl0
    clear hl0
    go_wp2_with (first | (go_at_call 26; refine (equalT_calls (x := b) (A0 := X5) (A1 := XB) _ HLB.out (Kd.C_below KX5.out HE6.out) GX5.out (Kd.C_below KXB.out HE6.out) GXB.out).mono ?_; rintro e w7 ⟨rfl, hb⟩; have HE7 := Aside0.mk (below_step HE6.out hb); have HT7 := Aside0.mk (HT6.out.later hb); clear hb) | (go_at_call 26; refine (equalT_calls (x := a) (A0 := X3) (A1 := XA) _ HLA.out (Kd.C_below KX3.out HE5.out) GX3.out (Kd.C_below KXA.out HE5.out) GXA.out).mono ?_; rintro e w6 ⟨rfl, hb⟩; have HE6 := Aside0.mk (below_step HE5.out hb); have HT6 := Aside0.mk (HT5.out.later hb); clear hb) | (go_at_call 12; refine (awakeT_calls _ (Laid.below HLAY.out HT7.out.below)).mono ?_; rintro e w9 ⟨rfl, hb⟩; have HT9 := Aside0.mk (HT7.out.later hb); clear hb))
    go_ret
    exact ⟨by simp [results, Tryd.results4, go_sem], HT9.out.below⟩
def commodatumlaw12_UndoTables.f (a0_0 : Int) (l0_1 : List S67) (a1 : Int) : Option Bool := some true
theorem commodatumlaw12_UndoTables.calls (a0_0 : Int) (A0_1 : Option Addr) (c0_1 : Nat) (l0_1 : List S67) (a1 : Int) (r : Bool) (w : World) (hr0_1 : Kd.C k67 w A0_1 l0_1.length l0_1) (hc0_1 : l0_1.length ≤ c0_1) (hlay : Laid w) (h : commodatumlaw12_UndoTables.f a0_0 l0_1 a1 = some r) :
  Calls Tryd.prog 4 #[.agg #[.int .i64 a0_0, .slice A0_1 l0_1.length c0_1], .int .i64 a1] w fun e w' => e = .returned (.bool r) ∧ Below w.heap.size w w' := by
 obtain rfl := Option.some.inj h
 exact tables_calls a0_0 A0_1 c0_1 l0_1 a1 w hr0_1 hc0_1 hlay
theorem pure_UndoTables (n : Int) (l : List S67) (m : Int) : commodatumlaw12_UndoTables.f n l m = some true := rfl
end Go.Proofs.YthfhnkpipdbekaaDoor.Giv
