-- CUT by a program of this session: what the claim does not use is left out
import Derived.Test.YthfhnkpipdbekaaDoorQ23
namespace Go.Proofs.YthfhnkpipdbekaaDoor.Pure
set_option linter.unusedVariables false
set_option linter.unusedSimpArgs false
open Go.RowKit Go.Proofs.YthfhnkpipdbekaaDoorW.PrintWords Go.Proofs.YthfhnkpipdbekaaDoorW.PrintLast Go.Proofs.YthfhnkpipdbekaaDoorW.PrintMore
open Ua Ta Giv Tb
theorem andNot_zero {d n : Nat} (hd : d < 2 ^ 20) (hn : n ≤ 20) : Go.bits .andNot .i64 (d : Int) ((2 ^ n : Nat) : Int) = 0 ↔ ∀ k : Nat, k < 20 → k ≠ n → d.testBit k = false := by
 have hd62 := lt62 hd (Nat.le_refl _)
 have hn62 : 2 ^ n < 2 ^ 62 := Nat.pow_lt_pow_right (by decide) (by omega)
 have hb : IntKind.i64.bits = 64 := rfl
 have hda : d % 2 ^ 64 = d := Nat.mod_eq_of_lt (Nat.lt_of_lt_of_le hd62 (by decide))
 have hna : 2 ^ n % 2 ^ 64 = 2 ^ n := Nat.mod_eq_of_lt (Nat.lt_of_lt_of_le hn62 (by decide))
 obtain ⟨r, hr⟩ : ∃ r : Nat, r = d &&& (2 ^ 64 - 1 - 2 ^ n) := ⟨_, rfl⟩
 have hr62 : r < 2 ^ 62 := by rw [hr]; exact Nat.lt_of_le_of_lt Nat.and_le_left hd62
 have e : Go.bits .andNot .i64 (d : Int) ((2 ^ n : Nat) : Int) = (r : Int) := by
  show IntKind.i64.wrap ((BitVec.ofInt 64 (d : Int) &&& ~~~BitVec.ofInt 64 ((2 ^ n : Nat) : Int)).toNat : Int) = _
  rw [BitVec.toNat_and, BitVec.toNat_not, BitVec.ofInt_natCast, BitVec.ofInt_natCast, BitVec.toNat_ofNat, BitVec.toNat_ofNat, hda, hna, ← hr]
  exact wrap62 _ (Int.natCast_nonneg _) (by exact_mod_cast hr62)
 have tb : ∀ k, r.testBit k = (d.testBit k && (decide (k < 64) && !(decide (n = k)))) := fun k => by
  rw [hr, Nat.testBit_and]
  congr 1
  rw [show 2 ^ 64 - 1 - 2 ^ n = 2 ^ 64 - (2 ^ n + 1) by omega, Nat.testBit_two_pow_sub_succ (Nat.lt_of_lt_of_le hn62 (by decide)), Nat.testBit_two_pow]
 rw [e]
 constructor
 ·intro h k hk hkn
  have h0 : r = 0 := by omega
  have := tb k
  rw [h0, Nat.zero_testBit, decide_eq_true (show k < 64 by omega), decide_eq_false (fun e => hkn e.symm)] at this
  simpa using this.symm
 ·intro h
  have h0 : r = 0 := by
   apply Nat.eq_of_testBit_eq
   intro k
   rw [tb k, Nat.zero_testBit]
   by_cases hk : k < 20
   ·by_cases hkn : k = n
    ·rw [decide_eq_true hkn.symm]; simp
    ·rw [h k hk hkn]; rfl
   ·rw [Nat.testBit_lt_two_pow (Nat.lt_of_lt_of_le hd (Nat.pow_le_pow_right (by decide) (by omega)))]; rfl
  rw [h0]; rfl
theorem flip_num {N n : Nat} {l : List S67} (h : TabAt N n l) {i : Nat} (hi : i < 2 ^ N) : (i ^^^ Giv.runN i l).testBit n = flipB N n l i := by
 obtain ⟨e1, e2⟩ := runL_bits l h.right hi
 unfold flipB
 rw [e1, rd_bits (by rw [Int.toNat_natCast]; exact h.lt), rd_bits (by rw [Int.toNat_natCast]; exact h.lt), Int.toNat_natCast, Nat.testBit_xor]
theorem fine_num {N n : Nat} {l : List S67} (h : TabAt N n l) (hN : N ≤ 20) {i : Nat} (hi : i < 2 ^ N) : Go.bits .andNot .i64 ((i ^^^ Giv.runN i l : Nat) : Int) ((2 ^ n : Nat) : Int) = 0 ↔ fineB N n l i = true := by
 obtain ⟨e1, e2⟩ := runL_bits l h.right hi
 have hp : (2 : Nat) ^ N ≤ 2 ^ 20 := Nat.pow_le_pow_right (by decide) hN
 have hx : (bitsL N i).length = N := bitsL_len N i
 have hy : (runL (bitsL N i) l).length = N := by rw [runL_len, hx]
 rw [andNot_zero (Nat.lt_of_lt_of_le (Nat.xor_lt_two_pow hi e2) hp) (by have := h.le; omega)]
 unfold fineB
 rw [decide_eq_true_eq, fine_iff hx hy]
 constructor
 ·intro hh k hk hkn
  have := hh k (by omega) hkn
  rw [Nat.testBit_xor] at this
  rw [e1, rd_bits (by rw [Int.toNat_natCast]; exact hk), rd_bits (by rw [Int.toNat_natCast]; exact hk), Int.toNat_natCast]
  cases h1 : i.testBit k <;> cases h2 : (Giv.runN i l).testBit k <;> simp_all
 ·intro hh k hk hkn
  rw [Nat.testBit_xor]
  by_cases c : k < N
  ·have := hh k c hkn
   rw [e1, rd_bits (by rw [Int.toNat_natCast]; exact c), rd_bits (by rw [Int.toNat_natCast]; exact c), Int.toNat_natCast] at this
   rw [this]; simp
  ·rw [Nat.testBit_lt_two_pow (Nat.lt_of_lt_of_le hi (Nat.pow_le_pow_right (by decide) (by omega))), Nat.testBit_lt_two_pow (Nat.lt_of_lt_of_le e2 (Nat.pow_le_pow_right (by decide) (by omega)))]; rfl
theorem dirty_l0 {N n : Nat} {l : List S67} (h : TabAt N n l) (hN : N ≤ 20) : ∀ (d i : Nat), i + d = 2 ^ N → Ev (fun k => undo_Dirty.l0 k (n : Int) (tabTo (flipB N n l) n i) ((2 ^ N : Nat) : Int) (i : Int) (N : Int) l) (if okGo (flipB N n l) (fineB N n l) n d i = true then (tabTo (flipB N n l) n (2 ^ N), 0) else ([], 6))
 | 0, i, hi => by
  obtain rfl : i = 2 ^ N := by omega
  refine EvS fun k => ?_
  simp only [undo_Dirty.l0]
  rw [if_neg (by omega)]; rfl
 | d + 1, i, hi => by
  have hle := h.le
  have hlt := h.lt
  have hpf := pow_le N hN
  have hpn := pow_le n (by omega)
  have hp : 0 < 2 ^ n := Nat.two_pow_pos n
  have hm : i % 2 ^ n < 2 ^ n := Nat.mod_lt _ hp
  have hiN : i < 2 ^ N := by omega
  have hp20 : (2 : Nat) ^ N ≤ 2 ^ 20 := Nat.pow_le_pow_right (by decide) hN
  have hi20 : i < 2 ^ 20 := by omega
  have ih := dirty_l0 h hN d (i + 1) (by omega)
  have fn := flip_num h hiN
  have gn := fine_num h hN hiN
  have hr := (runL_bits l h.right hiN).2
  have fe := final_ev h.right hN h.len hiN
  obtain ⟨F, hF⟩ : ∃ F, F = flipB N n l := ⟨_, rfl⟩
  obtain ⟨G, hG⟩ : ∃ G, G = fineB N n l := ⟨_, rfl⟩
  rw [← hF] at fn
  rw [← hG] at gn
  rw [← hF, ← hG] at ih ⊢
  have hlen := tab_len F n i
  obtain ⟨r, hrr⟩ : ∃ r, r = Giv.runN i l := ⟨_, rfl⟩
  rw [← hrr] at fn gn hr fe
  have hx20 : i ^^^ r < 2 ^ 20 := Nat.lt_of_lt_of_le (Nat.xor_lt_two_pow hiN hr) hp20
  have ex : Go.bits .xor .i64 (i : Int) (r : Int) = ((i ^^^ r : Nat) : Int) := b_xor _ _ (lt62 hi20 (Nat.le_refl _)) (lt62 (Nat.lt_of_lt_of_le hr hp20) (Nat.le_refl _))
  have eb : (Go.bits .and .i64 (shr .i64 ((i ^^^ r : Nat) : Int) (n : Int)) 1 == 1) = F i := by rw [bit_eqN hx20 n, fn]
  have em : Go.bits .and .i64 (i : Int) (wrap64 (((2 ^ n : Nat) : Int) - 1)) = ((i % 2 ^ n : Nat) : Int) := by
   rw [show wrap64 (((2 ^ n : Nat) : Int) - 1) = ((2 ^ n : Nat) : Int) - 1 by generalize 2 ^ n = z at *; unfold wrap64; omega]
   exact mask_pow hle hi20
  have es : shl .i64 1 (n : Int) = ((2 ^ n : Nat) : Int) := pow_int n (by omega)
  have bad : ∀ c : Bool, c = false → (if c = true then (tabTo F n (2 ^ N), (0 : Int)) else ([], 6)) = ([], 6) := fun c hc => by rw [hc]; rfl
  by_cases ci : i < 2 ^ n
  ·have key : Ev (fun k => (undo_final.f k l (i : Int)).bind fun t110 => (if (Go.bits .andNot .i64 (Go.bits .xor .i64 (i : Int) t110) ((2 ^ n : Nat) : Int)) = 0 then (if ((rdOf false ((tabTo F n i).set (i % 2 ^ n) ((Go.bits .and .i64 (shr .i64 (Go.bits .xor .i64 (i : Int) t110) (n : Int)) 1) == 1)) ((i % 2 ^ n : Nat) : Int)) != ((Go.bits .and .i64 (shr .i64 (Go.bits .xor .i64 (i : Int) t110) (n : Int)) 1) == 1)) = true then (some (([] : List Bool), 6)) else (undo_Dirty.l0 k (n : Int) ((tabTo F n i).set (i % 2 ^ n) ((Go.bits .and .i64 (shr .i64 (Go.bits .xor .i64 (i : Int) t110) (n : Int)) 1) == 1)) ((2 ^ N : Nat) : Int) ((i + 1 : Nat) : Int) (N : Int) l)) else (some (([] : List Bool), 6)))) (if okGo F G n (d + 1) i = true then (tabTo F n (2 ^ N), 0) else ([], 6)) := by
    refine Ev.bind fe ?_
    rw [ex, eb]
    cases hg : G i with
    | false =>
     rw [bad _ (show okGo F G n (d + 1) i = false by rw [okGo, condB, hg]; rfl)]
     exact EvSome fun k => if_neg (fun e => by have := gn.1 e; rw [hg] at this; cases this)
    | true =>
     have c : condB F G n i = true := by unfold condB; rw [hg, decide_eq_true ci]; rfl
     rw [show okGo F G n (d + 1) i = okGo F G n d (i + 1) by rw [okGo, c, Bool.true_and], tab_set F G n i c]
     refine EvC ih fun k => ?_
     rw [if_pos (gn.2 hg), tab_get F n (i + 1) _ hm]
     rw [show (if i % 2 ^ n < i + 1 then F (i % 2 ^ n) else false) = F i by rw [Nat.mod_eq_of_lt ci, if_pos (by omega)], if_neg (by simp)]
   refine Ev1 key fun k => ?_
   simp only [undo_Dirty.l0]
   rw [if_pos (by omega), hlen, em, es, Int.toNat_natCast, w64 _ (by omega)]
   congr 1; funext t110
   rw [if_pos (by omega), if_pos (by omega), if_pos (by omega), if_pos (by omega)]
   simp only [Option.bind_some]
  ·have key : Ev (fun k => (undo_final.f k l (i : Int)).bind fun t110 => (if (Go.bits .andNot .i64 (Go.bits .xor .i64 (i : Int) t110) ((2 ^ n : Nat) : Int)) = 0 then (if ((rdOf false (tabTo F n i) ((i % 2 ^ n : Nat) : Int)) != ((Go.bits .and .i64 (shr .i64 (Go.bits .xor .i64 (i : Int) t110) (n : Int)) 1) == 1)) = true then (some (([] : List Bool), 6)) else (undo_Dirty.l0 k (n : Int) (tabTo F n i) ((2 ^ N : Nat) : Int) ((i + 1 : Nat) : Int) (N : Int) l)) else (some (([] : List Bool), 6)))) (if okGo F G n (d + 1) i = true then (tabTo F n (2 ^ N), 0) else ([], 6)) := by
    refine Ev.bind fe ?_
    rw [ex, eb, tab_get2 F n i _ hm ci]
    cases hg : G i with
    | false =>
     rw [bad _ (show okGo F G n (d + 1) i = false by rw [okGo, condB, hg]; rfl)]
     exact EvSome fun k => if_neg (fun e => by have := gn.1 e; rw [hg] at this; cases this)
    | true =>
     by_cases cf : F i = F (i % 2 ^ n)
     ·have c : condB F G n i = true := by unfold condB; rw [hg, cf]; simp
      rw [show okGo F G n (d + 1) i = okGo F G n d (i + 1) by rw [okGo, c, Bool.true_and]]
      refine EvC ih fun k => ?_
      rw [if_pos (gn.2 hg), cf, if_neg (by simp), tab_full F n i (by omega), tab_full F n (i + 1) (by omega)]
     ·have c : condB F G n i = false := by
       unfold condB
       rw [show decide (i < 2 ^ n) = false from decide_eq_false ci, show (F i == F (i % 2 ^ n)) = false from beq_eq_false_iff_ne.2 cf]; simp
      rw [bad _ (show okGo F G n (d + 1) i = false by rw [okGo, c]; rfl)]
      exact EvSome fun k => by rw [if_pos (gn.2 hg), if_pos (bne_iff_ne.2 (fun e => cf e.symm))]
   refine Ev1 key fun k => ?_
   simp only [undo_Dirty.l0]
   rw [if_pos (by omega), hlen, em, es, w64 _ (by omega)]
   congr 1; funext t110
   have q1 : ((0 : Int) ≤ ((i % 2 ^ n : Nat) : Int)) = True := eq_true (by omega)
   have q2 : (((i % 2 ^ n : Nat) : Int) < ((2 ^ n : Nat) : Int)) = True := eq_true (by omega)
   rw [if_neg (by omega), if_pos (by omega)]
   simp only [q1, q2, if_true]
theorem enum_ev {N : Nat} {l : List S67} (hv : validB (N : Int) l = true) (hl : l.length ≤ 200000) : undo_enumerable.f (N : Int) l = some (if N ≤ 20 ∧ (1 + l.length) * 2 ^ N ≤ 16777216 then 0 else 5) := by
 by_cases hN : N ≤ 20
 ·by_cases hc : (1 + l.length) * 2 ^ N ≤ 16777216
  ·rw [if_pos ⟨hN, hc⟩]; exact enum_f hv hN hc
  ·rw [if_neg (fun h => hc h.2)]
   unfold undo_enumerable.f undo_Valid.f
   simp only [Option.bind_some]
   rw [if_pos hv, if_neg (by omega), if_pos (by omega), (cost_mul hN hl).1, if_pos (by omega)]
 ·rw [if_neg (fun h => hN h.1)]
  unfold undo_enumerable.f undo_Valid.f
  simp only [Option.bind_some]
  rw [if_pos hv, if_pos (by omega)]
theorem dirty_ev {N n : Nat} {l : List S67} (h : TabAt N n l) (hv : validB (N : Int) l = true) (hN : N ≤ 20) (hc : (1 + l.length) * 2 ^ N ≤ 16777216) : Ev (fun k => undo_Dirty.f k (N : Int) l (n : Int)) (if okAll N n l N = true then (tabQ N n l, 0) else ([], 6)) := by
 have hle := h.le
 have hlt := h.lt
 have hpn := pow_le n (by omega)
 have i := dirty_l0 h hN (2 ^ N) 0 (by omega)
 rw [tab_full _ _ _ (Nat.pow_le_pow_right (by decide) (by omega)), tab_zero] at i
 have j0 : Ev (fun k => undo_Dirty.j0 k (n : Int) 0 false (N : Int) l) (if okAll N n l N = true then (tabQ N n l, 0) else ([], 6)) := by
  refine Ev1 i fun k => ?_
  simp only [undo_Dirty.j0]
  rw [if_neg (by simp), if_neg (by omega), if_pos trivial, if_pos (by omega), pow_int n (by omega), if_pos (Int.natCast_nonneg _), if_pos (by rw [Int.toNat_natCast]; omega), if_pos (by omega), Int.toNat_natCast, pow_int N hN]
  rfl
 refine EvC j0 fun k => ?_
 unfold undo_Dirty.f
 rw [enum_f hv hN hc]
 simp only [Option.bind_some]
 rw [if_neg (by omega), if_neg (by omega), show decide ((n : Int) ≥ (N : Int)) = false from decide_eq_false (by omega)]
end Go.Proofs.YthfhnkpipdbekaaDoor.Pure
