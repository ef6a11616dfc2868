-- CUT by a program of this session: what the claim does not use is left out
import Derived.Test.YtfoodfhhdbaieaaDoorT3
namespace Go.Proofs.YtfoodfhhdbaieaaDoor.Giv
set_option maxRecDepth 100000
set_option linter.unusedVariables false
set_option linter.unusedSimpArgs false
open Go.RowKit Go.Proofs.YtfoodfhhdbaieaaDoorW.PrintWords Go.Proofs.YtfoodfhhdbaieaaDoorW.PrintLast Go.Proofs.YtfoodfhhdbaieaaDoorW.PrintMore
open Go.Proofs.YtfoodfhhdbaieaaDoor.Ka (S40 k40 z40 rd_T40 at_T40 k40_open k40_mk rd_L1 at_L1 info3 info38 info40)
set_option maxHeartbeats 4000000 in
set_option maxRecDepth 100000 in
theorem valid_walk (a0 a1 a2 : Int) (A : Option Addr) (c : Nat) (l : List S40) (w : World) (hr : Kd.C k40 w A l.length l) (H : headB a0 a1 a2 = true) (r : Bool) (HV : Aside0 (rulesB a0 a1 a2 [] l = r)) :
  Calls Tryd.prog 10 #[.agg #[.int .i64 a0, .int .i64 a1, .int .i64 a2, .slice A l.length c]] w fun e w' => e = .returned (.bool r) ∧ Below w.heap.size w w' := by
 have HR := Aside0.mk hr
 have c1 : inR a0 3 64 = true := by simp [headB] at H; exact H.1.1
 have c2 : inR a1 2 8 = true := by simp [headB] at H; exact H.1.2
 have c3 : inR a2 1 3 = true := by simp [headB] at H; exact H.2
 have HH := Aside0.mk (headB_bd H)
 clear hr H
 have hmk : ∀ w, (Instr.makeMap 55 none).run Tryd.prog w = .ok (.map (some w.heap.size)) (w.alloc (.map #[] 0)) := fun w => run_makeMap_plain w 84
 go_enter Tryd.func10, Tryd.ntmps10
 go_wp2_with (go_at_call 23; refine (within_calls _ _ _ _).mono ?_; rintro e w' ⟨rfl, rfl⟩)
 clear c1 c2 c3
 go_loopg [32] l.length (fun kq v32 wr => ∃ i : Int, v32 = .int .i64 i ∧ Aside0 (0 ≤ i) ∧ Aside0 ((l.length : Int) - i = kq) ∧ Aside0 (Below w.heap.size w wr) ∧ Aside0 (wr.heap[w.heap.size]? = some (.cells #[.int .i64 a0, .int .i64 a1, .int .i64 a2, .slice A l.length c] 24)) ∧ Aside0 (MapAt wr (w.heap.size + 1) (seenL (l.take i.toNat))) ∧ Aside0 (AreKeys (seenL (l.take i.toNat))) ∧ Aside0 (rulesB a0 a1 a2 (keysL (l.take i.toNat)) (l.drop i.toNat) = r))
 case atStart =>
  refine ⟨0, rfl, ⟨by omega⟩, ⟨by omega⟩, ⟨((Below.refl _ _).alloc (Nat.le_refl _) _).alloc (by simp) _⟩, ⟨?_⟩, ⟨?_⟩, ⟨?_⟩, ⟨by simpa [keysL] using HV.out⟩⟩
  ·rw [heap_alloc_old]; (rotate_left; simp); exact heap_alloc_new _ _
  ·have := MapAt.made (w.alloc (Obj.cells #[Value.int IntKind.i64 a0, Value.int IntKind.i64 a1, Value.int IntKind.i64 a2, Value.slice A l.length c] 24))
   simpa [seenL] using this
  ·intro p hp; simp [seenL] at hp
 case round =>
  obtain ⟨i, rfl, HI, HK, HB, HM, HP, HQ, HS⟩ := hrel
  have hi := HI.out
  obtain ⟨⟨b0, b1⟩, ⟨b2, b3⟩, b4, b5⟩ := HH.out
  have hm := HM.out
  have hz : w.heap.size + 1 < wr.heap.size := HP.out.lt
  have hz0 : w.heap.size < wr.heap.size := by omega
  have hm0 : wr.cell? ⟨w.heap.size, 0, none⟩ = some (.int .i64 a0) := by simp [World.cell?, hm]
  have hm1 : wr.cell? ⟨w.heap.size, 1, none⟩ = some (.int .i64 a1) := by simp [World.cell?, hm]
  have hm2 : wr.cell? ⟨w.heap.size, 2, none⟩ = some (.int .i64 a2) := by simp [World.cell?, hm]
  have hm3 : wr.cell? ⟨w.heap.size, 3, none⟩ = some (.slice A l.length c) := by simp [World.cell?, hm]
  clear hm
  by_cases cl : i < (l.length : Int)
  ·have clb : decide (i < (l.length : Int)) = true := decide_eq_true cl
   obtain ⟨ad, A1, c1, A3, c3, A4, c4, e101, x0, x1, x2, x3, x4, l1, g1, l3, g3, l4, g4⟩ := at_T40 (Kd.C_below HR.out HB.out) i hi cl
   cases e101
   have p1 := eq_true hi
   have q1 := eq_true cl
   have hstop : ruleB a0 a1 a2 (rd_T40 l i) = false → r = false := fun h => rulesB_stop HS.out (by omega) (by rw [show (((i.toNat : Nat)) : Int) = i by omega]; exact h)
   have HST := Aside0.mk hstop
   have HL := Aside0.mk l1
   have HG1 := Aside0.mk g1
   have HG3 := Aside0.mk g3
   have HG4 := Aside0.mk g4
   clear hi cl hstop l1 l3 l4 g1 g3 g4
   generalize hx : rd_T40 l i = x at *
   have HX := Aside0.mk hx
   clear hx
   cases hc : (inR x.f0 0 (a0 - 1) && !(x.f0 == 1) && !(x.f0 == 2) && inR x.f2 0 (a0 - 1) && ((x.f1.length : Int) == a2) && ((x.f3.length : Int) == a2) && ((x.f4.length : Int) == a2)) with
   | false =>
    obtain rfl := HST.out (ruleB_false hc)
    clear HST
    refine six hc ?_ ?_ ?_ ?_ ?_ ?_ ?_ <;> clear hc <;> intros
    all_goals (go_wp2_with (go_at_call 23; refine (within_calls _ _ _ _).mono ?_; rintro e w' ⟨rfl, rfl⟩))
    all_goals go_ret
    all_goals exact ⟨rfl, HB.out.alloc HB.out.size _⟩
   | true =>
    obtain ⟨d1, d2, d3, d4, d5, d6, d7⟩ := seven hc
    have HC := Aside0.mk hc
    have e5 : ((x.f1.length : Int) != a2) = false := by simp only [bne, d5, Bool.not_true]
    have e6 : ((x.f3.length : Int) != a2) = false := by simp only [bne, d6, Bool.not_true]
    have e7 : ((x.f4.length : Int) != a2) = false := by simp only [bne, d7, Bool.not_true]
    have HF0 := Aside0.mk (inR_bd d1)
    have D5 := Aside0.mk (eq_of_beq d5)
    have D6 := Aside0.mk (eq_of_beq d6)
    have D7 := Aside0.mk (eq_of_beq d7)
    clear hc d5 d6 d7
    go_wp2_with (go_at_call 23; refine (within_calls _ _ _ _).mono ?_; rintro e w' ⟨rfl, rfl⟩)
    clear d1 d2 d3 d4
    rename World => wo
    go_loopg [90] a2.toNat (fun kq v90 w2 => ∃ j : Int, v90 = .int .i64 j ∧ Aside0 (0 ≤ j) ∧ Aside0 (a2 - j = kq) ∧ Aside0 (∀ n : Nat, (n : Int) < j → cellB a1 x n = true) ∧ Aside0 (∃ q, w2 = (wo.alloc (Obj.cells #[.int .i64 x.f0, .slice A1 x.f1.length c1, .int .i64 x.f2, .slice A3 x.f3.length c3, .slice A4 x.f4.length c4] 40)).drewN q))
    case atStart => exact ⟨0, rfl, ⟨by omega⟩, ⟨by omega⟩, ⟨fun n hn => by omega⟩, ⟨0, rfl⟩⟩
    case round =>
     obtain ⟨j, rfl, HJ, HN, HA, HW⟩ := hrel
     rename World => w2
     have hB2 : Below wo.heap.size wo w2 := by obtain ⟨q, rfl⟩ := HW.out; exact pw_below_drewN ((Below.refl _ _).alloc (Nat.le_refl _) _) q
     have y1 : w2.cell? ⟨wo.heap.size, 1, none⟩ = some (.slice A1 x.f1.length c1) := by obtain ⟨q, rfl⟩ := HW.out; go_simp
     have y3 : w2.cell? ⟨wo.heap.size, 3, none⟩ = some (.slice A3 x.f3.length c3) := by obtain ⟨q, rfl⟩ := HW.out; go_simp
     have y4 : w2.cell? ⟨wo.heap.size, 4, none⟩ = some (.slice A4 x.f4.length c4) := by obtain ⟨q, rfl⟩ := HW.out; go_simp
     have n1 : w2.cell? ⟨w.heap.size, 1, none⟩ = some (.int .i64 a1) := (hB2.cell (p := ⟨w.heap.size, 1, none⟩) hz0).trans hm1
     have hj := HJ.out
     by_cases cj : j < a2
     ·have cjb : decide (j < a2) = true := decide_eq_true cj
      obtain ⟨ad1, f1, hx1⟩ := Kd.at_int (Kd.C_below HG1.out hB2) j hj (by rw [D5.out]; exact cj)
      obtain ⟨ad3, f3, hx3⟩ := Kd.at_int (Kd.C_below HG3.out hB2) j hj (by rw [D6.out]; exact cj)
      obtain ⟨ad4, f4, hx4⟩ := Kd.at_int (Kd.C_below HG4.out hB2) j hj (by rw [D7.out]; exact cj)
      subst f1; subst f3; subst f4
      have pj := eq_true hj
      have qj1 : (j < (x.f1.length : Int)) = True := eq_true (by rw [D5.out]; exact cj)
      have qj3 : (j < (x.f3.length : Int)) = True := eq_true (by rw [D6.out]; exact cj)
      have qj4 : (j < (x.f4.length : Int)) = True := eq_true (by rw [D7.out]; exact cj)
      clear hj
      have CJ := Aside0.mk cj
      clear cj
      have HB2 := Aside0.mk hB2
      clear hB2
      have HBW : Aside0 (Below w.heap.size w w2) := ⟨HB.out.trans (HB2.out.mono (by omega))⟩
      have HCF : Aside0 ((inR (rd x.f1 j) 0 (a1 - 1) && inR (rd x.f3 j) 0 (a1 - 1) && inR (rd x.f4 j) (-1) 1) = false → r = false) := ⟨fun h => HST.out (ruleB_cell (j := j.toNat) (by have := CJ.out; have := HJ.out; omega) (cellB_false HJ.out h))⟩
      have b6 : 0 ≤ j := HJ.out
      have b7 : j ≤ 2 := by have := CJ.out; omega
      cases k1 : inR (rd x.f1 j) 0 (a1 - 1) with
      | false =>
       obtain rfl := HCF.out (by rw [k1]; rfl)
       go_wp2
       go_quiet ((go_at_call 23; exact Calls.quiet_of_same (within_same _ _ _ _)))
       go_wp2
       go_ret
       exact ⟨rfl, pw_below_drewN HBW.out _⟩
      | true =>
       cases k2 : inR (rd x.f3 j) 0 (a1 - 1) with
       | false =>
        obtain rfl := HCF.out (by rw [k1, k2]; rfl)
        go_wp2
        go_quiet ((go_at_call 23; exact Calls.quiet_of_same (within_same _ _ _ _)))
        go_wp2
        go_ret
        exact ⟨rfl, pw_below_drewN HBW.out _⟩
       | true =>
        cases k3 : inR (rd x.f4 j) (-1) 1 with
        | false =>
         obtain rfl := HCF.out (by rw [k1, k2, k3]; rfl)
         go_wp2
         go_quiet ((go_at_call 23; exact Calls.quiet_of_same (within_same _ _ _ _)))
         go_wp2
         go_ret
         exact ⟨rfl, pw_below_drewN HBW.out _⟩
        | true =>
         have HNX := Aside0.mk (cellB_next HJ.out (by rw [k1, k2, k3]; rfl) HA.out)
         go_wp2
         go_quiet ((go_at_call 23; exact Calls.quiet_of_same (within_same _ _ _ _)))
         go_wp2
         go_roundg (a2 - (j + 1)).toNat
         case measure => have := CJ.out; have := HN.out; omega
         case rel =>
          refine ⟨j + 1, rfl, ⟨by omega⟩, ⟨by have := CJ.out; omega⟩, HNX, ⟨?_⟩⟩
          obtain ⟨q, rfl⟩ := HW.out
          exact ⟨_, World.drewN_drewN ..⟩
     ·have cjb : decide (j < a2) = false := decide_eq_false cj
      have HAL : Aside0 (∀ n : Nat, (n : Int) < a2 → cellB a1 x n = true) := ⟨fun n hn => HA.out n (by omega)⟩
      have HRT : Aside0 (ruleB a0 a1 a2 x = true) := ⟨ruleB_true HC.out HAL.out⟩
      have y0 : w2.cell? ⟨wo.heap.size, 0, none⟩ = some (.int .i64 x.f0) := by obtain ⟨q, rfl⟩ := HW.out; go_simp
      have HSM : Aside0 (Small (keyL x.f0 x.f1)) := ⟨small_key b3 (by have := HF0.out; omega) b2 D5.out HAL.out⟩
      have HP2 : Aside0 (MapAt w2 (w.heap.size + 1) (seenL (l.take i.toNat))) := ⟨HP.out.same (hB2.block _ hz)⟩
      have HM2 : Aside0 (w2.heap[w.heap.size]? = some (.cells #[.int .i64 a0, .int .i64 a1, .int .i64 a2, .slice (some ad) l.length c] 24)) := ⟨(hB2.block _ hz0).trans HM.out⟩
      have HBW : Aside0 (Below w.heap.size w w2) := ⟨HB.out.trans (hB2.mono (by omega))⟩
      have HG := Aside0.mk (Kd.C_below HG1.out hB2)
      have HZ2 : Aside0 (w.heap.size + 1 < w2.heap.size) := ⟨HP2.out.lt⟩
      have HL3 : Aside0 (x.f1.length ≤ 3) := ⟨by have := D5.out; omega⟩
      clear hB2 hj cj HW
      cases hc : (keysL (l.take i.toNat)).contains (keyL x.f0 x.f1) with
      | true =>
       obtain rfl := rulesB_seen HS.out (by have := of_eq_true q1; have := HI.out; omega) (by rw [show ((i.toNat : Nat) : Int) = i by have := HI.out; omega]; exact HX.out) hc
       have HCC := Aside0.mk hc
       clear hc
       go_wp2_with (go_at_call 24; refine (keyOf_agg x.f0 A1 c1 x.f1 _ HL3.out HG.out).mono ?_; rintro e w3 ⟨rfl, hB3⟩; have hlk := look_seen (w := w3.alloc (Obj.cells #[.int .i64 x.f0, .int .i64 (rd x.f1 0), .int .i64 (rd x.f1 1), .int .i64 (rd x.f1 2)] 58)) ((HP2.out.same (hB3.block _ HZ2.out)).kept (World.grownBy_alloc _ _ none) (by simp)) HQ.out HSM.out; rw [HCC.out] at hlk; simp only [keyV] at hlk; have HB3 := Aside0.mk hB3; clear hB3)
       go_ret
       exact ⟨rfl, (HBW.out.trans (HB3.out.mono (by have := HZ2.out; omega))).alloc (by have := HZ2.out; have := HB3.out.size; omega) _⟩
      | false =>
       have HCC := Aside0.mk hc
       clear hc
       go_wp2_with (go_at_call 24; refine (keyOf_agg x.f0 A1 c1 x.f1 _ HL3.out HG.out).mono ?_; rintro e w3 ⟨rfl, hB3⟩; have HP3 := Aside0.mk ((HP2.out.same (hB3.block _ HZ2.out)).kept (World.grownBy_alloc w3 (Obj.cells #[.int .i64 x.f0, .int .i64 (rd x.f1 0), .int .i64 (rd x.f1 1), .int .i64 (rd x.f1 2)] 58) none) (by simp)); have hlk := look_seen HP3.out HQ.out HSM.out; rw [HCC.out] at hlk; obtain ⟨w4, hst, hP4, hQ4, hg4⟩ := store_seen HP3.out HQ.out HSM.out HCC.out; simp only [keyV] at hlk hst; have HB3 := Aside0.mk hB3; clear hB3; have HP4 := Aside0.mk hP4; have HQ4 := Aside0.mk hQ4; have HG4' := Aside0.mk hg4; clear hP4 hQ4 hg4)
       have i0 : 0 ≤ i := HI.out
       have i1 : i < l.length := of_eq_true q1
       have eN : (i + 1).toNat = i.toNat + 1 := by omega
       go_roundg (l.length - (i + 1)).toNat
       case measure => have := HK.out; omega
       case rel =>
        have hB4 : Below w.heap.size w w4 := ((HBW.out.trans (HB3.out.mono (by have := HZ2.out; omega))).alloc (by have := HZ2.out; have := HB3.out.size; omega) _).grown HG4'.out (by have := HZ2.out; have := HB3.out.size; simp; omega) (by intro k hk; injection hk with hk; omega)
        have ex : rd_T40 l ((i.toNat : Nat) : Int) = x := by rw [show ((i.toNat : Nat) : Int) = i by omega]; exact HX.out
        refine ⟨i + 1, ?_, ⟨by omega⟩, ⟨by omega⟩, ⟨hB4⟩, ⟨?_⟩, ⟨?_⟩, ⟨?_⟩, ⟨?_⟩⟩
        ·rw [show wrap64 (i + 1) = i + 1 by have := HR.out.2.1; unfold wrap64; omega]
        ·rw [HG4'.out.block _ (by have := HZ2.out; have := HB3.out.size; simp; omega) (by intro h; injection h with h; omega), heap_alloc_old _ _ (h := by have := HZ2.out; have := HB3.out.size; omega), HB3.out.block _ (by have := HZ2.out; omega)]
         exact HM2.out
        ·rw [eN, take_next (by omega) ex]; exact HP4.out
        ·rw [eN, take_next (by omega) ex]; exact HQ4.out
        ·rw [eN]; exact rulesB_next HS.out (by omega) ex HRT.out HCC.out
  ·have clb : decide (i < (l.length : Int)) = false := decide_eq_false cl
   obtain rfl := rulesB_done HS.out (by omega)
   go_wp2
   go_ret
   exact ⟨rfl, HB.out⟩
end Go.Proofs.YtfoodfhhdbaieaaDoor.Giv
