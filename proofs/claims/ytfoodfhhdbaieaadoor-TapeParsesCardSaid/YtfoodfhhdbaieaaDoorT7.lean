-- CUT by a program of this session: what the claim does not use is left out
import Derived.Test.YtfoodfhhdbaieaaDoorT5
namespace Go.Proofs.YtfoodfhhdbaieaaDoor.Giv
set_option maxRecDepth 100000
set_option linter.unusedVariables false
set_option linter.unusedSimpArgs false
open Go.RowKit Go.Shelf Go.Proofs.YtfoodfhhdbaieaaDoorW.PrintWords Go.Proofs.YtfoodfhhdbaieaaDoorW.PrintLast Go.Proofs.YtfoodfhhdbaieaaDoorW.PrintMore
open Go.Proofs.YtfoodfhhdbaieaaDoor.Ka (S40 k40 z40 rd_T40 at_T40 k40_open k40_mk rd_L1 at_L1 info3 info38 info40)

def trimN (l : List Int) : Nat → Nat
 | 0 => 0
 | n + 1 => if rd l n = 0 then trimN l n else n + 1
def trimL (l : List Int) : List Int := l.take (trimN l l.length)
theorem C_take {w : World} {A : Option Addr} {l : List Int} (h : Kd.C (Kd.int .i64) w A l.length l) {n : Nat} (hn : n ≤ l.length) : Kd.C (Kd.int .i64) w A (l.take n).length (l.take n) := by
 refine ⟨rfl, by have := h.2.1; simp; omega, fun h0 => ?_⟩
 simp at h0
 obtain ⟨ad, e, hc⟩ := h.2.2 (by omega)
 refine ⟨ad, e, fun j p hj => hc j p ?_⟩
 rw [List.getElem?_take] at hj
 split at hj
 ·exact hj
 ·cases hj
theorem clone_take (A : Option Addr) (c : Nat) (l : List Int) (w : World) (hC : Kd.C (Kd.int .i64) w A l.length l) (hb : l.length ≤ 1000000) (n m : Nat) (hn : n ≤ l.length) (hm : m = n) :
  Calls Tryd.prog 49 #[.slice A m c] w fun e w' => ∃ v', e = .returned v' ∧ w'.ownsRow w.heap.size 3 1 v' (l.take n).length ((l.take n).map (Value.int .i64)) ∧ Below w.heap.size w w' := by
 have := clone_calls A c (l.take n) w (C_take hC hn) (by simp; omega)
 have e : (l.take n).length = n := by simp; omega
 rw [e] at this ⊢
 rw [hm]
 exact this
theorem trimmed_calls (A : Option Addr) (c : Nat) (l : List Int) (w : World) (hC : Kd.C (Kd.int .i64) w A l.length l) (hlc : l.length ≤ c) (hb : l.length ≤ 1000000) :
  Calls Tryd.prog 50 #[.slice A l.length c] w fun e w' => ∃ v', e = .returned v' ∧ w'.ownsRow w.heap.size 3 1 v' (trimL l).length ((trimL l).map (Value.int .i64)) ∧ Below w.heap.size w w' := by
 have HC := Aside0.mk hC
 have HL := Aside0.mk hlc
 have HB := Aside0.mk hb
 have hm : (l.length : Int) ≤ 1000000 := by omega
 clear hC hlc hb
 go_enter Tryd.func50, Tryd.ntmps50
 go_wp2
 go_loopg [3] l.length (fun gg s3 wr => ∃ i : Int, s3 = .int .i64 i ∧ Aside0 (0 ≤ i) ∧ Aside0 (i ≤ l.length) ∧ Aside0 (i = gg) ∧ wr = w ∧ Aside0 (trimN l i.toNat = trimN l l.length))
 case atStart => exact ⟨l.length, rfl, ⟨by omega⟩, ⟨by omega⟩, ⟨by omega⟩, rfl, ⟨by simp⟩⟩
 case round =>
  obtain ⟨i, rfl, HI, HJ, HG, rfl, HA⟩ := hrel
  have hi := HI.out
  by_cases cl : 0 < i
  ·have clb : decide (0 < i) = true := decide_eq_true cl
   have p0 : 0 ≤ i - 1 := by omega
   have p2 : 1 ≤ i := by omega
   have p1 : i - 1 < (l.length : Int) := by have := HJ.out; omega
   have p3 : i ≤ (l.length : Int) := HJ.out
   obtain ⟨ad, e1, hx⟩ := Kd.at_int HC.out (i - 1) p0 p1
   subst e1
   rw [show (i - 1).toNat = i.toNat - 1 by omega] at hx
   have HT : Aside0 (trimN l i.toNat = if rd l (i - 1) = 0 then trimN l (i - 1).toNat else i.toNat) := ⟨by
    obtain ⟨n, hn⟩ : ∃ n : Nat, i.toNat = n + 1 := ⟨i.toNat - 1, by omega⟩
    rw [hn, trimN, show ((n : Nat) : Int) = i - 1 by omega, show (i - 1).toNat = n by omega]⟩
   by_cases h3 : rd l (i - 1) = 0
   ·rw [h3] at hx
    have H3 := Aside0.mk h3
    clear h3
    go_wp2
    go_roundg (i - 1).toNat
    case measure => have := HG.out; omega
    case rel =>
     refine ⟨i - 1, rfl, ⟨by omega⟩, ⟨by omega⟩, ⟨by omega⟩, rfl, ⟨?_⟩⟩
     have := HT.out
     rw [if_pos H3.out] at this
     rw [← this]; exact HA.out
   ·have t5 : (rd l (i - 1) == 0) = false := by simpa using h3
    have H3 := Aside0.mk h3
    clear h3
    have q0 : i ≤ (c : Int) := by have := HL.out; omega
    have HE : Aside0 (trimN l l.length = i.toNat) := ⟨by have := HT.out; rw [if_neg H3.out] at this; rw [← HA.out, this]⟩
    go_wp2_with (go_at_call 49; refine (clone_take _ c l _ HC.out HB.out i.toNat _ (by have := HJ.out; omega) (by first | rfl | simp)).mono ?_; rintro e w' ⟨v', rfl, hO, hB⟩)
    go_ret
    refine ⟨v', rfl, ?_, hB⟩
    unfold trimL; rw [HE.out]; exact hO
  ·have clb : decide (0 < i) = false := decide_eq_false cl
   have h0 : i = 0 := by omega
   subst h0
   have HE : Aside0 (trimN l l.length = 0) := ⟨by rw [← HA.out]; rfl⟩
   go_wp2_with (go_at_call 49; refine (clone_take _ c l _ HC.out HB.out 0 _ (by omega) (by first | rfl | simp)).mono ?_; rintro e w' ⟨v', rfl, hO, hB⟩)
   go_ret
   refine ⟨v', rfl, ?_, hB⟩
   unfold trimL; rw [HE.out]; exact hO
end Go.Proofs.YtfoodfhhdbaieaaDoor.Giv
