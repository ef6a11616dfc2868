-- CUT by a program of this session: what the claim does not use is left out
import Derived.Test.YthfhnkpipdbekaaDoorQ10
import Derived.Test.YthfhnkpipdbekaaDoorN12
import Derived.Test.YthfhnkpipdbekaaDoorTax9
namespace Go.Proofs.YthfhnkpipdbekaaDoor.Pure
set_option linter.unusedVariables false
set_option linter.unusedSimpArgs false
open Go.RowKit Go.Proofs.YthfhnkpipdbekaaDoorW.PrintWords Go.Proofs.YthfhnkpipdbekaaDoorW.PrintLast Go.Proofs.YthfhnkpipdbekaaDoorW.PrintMore
open Ua Ta Giv Tb
theorem shr_nat (a j : Nat) (ha : a < 2 ^ 20) : shr .i64 (a : Int) (j : Int) = ((a >>> j : Nat) : Int) := by
 unfold shr
 have hb : IntKind.i64.bits = 64 := rfl
 rw [hb, Int.toNat_natCast]
 by_cases h : j ≤ 64
 ·rw [Nat.min_eq_left h, Nat.shiftRight_eq_div_pow]
  push_cast; rfl
 ·rw [Nat.min_eq_right (by omega)]
  have h1 : a >>> j = 0 := by
   rw [Nat.shiftRight_eq_div_pow]
   exact Nat.div_eq_of_lt (Nat.lt_of_lt_of_le ha (Nat.pow_le_pow_right (by decide) (by omega)))
  rw [h1]
  omega
theorem bit_eqN {i : Nat} (hi : i < 2 ^ 20) (j : Nat) : (Go.bits .and .i64 (shr .i64 (i : Int) (j : Int)) 1 == 1) = i.testBit j := by
 rw [shr_nat i j hi, show (1 : Int) = ((1 : Nat) : Int) from rfl, b_and _ _ (lt62 (shr_lt hi j) (Nat.le_refl _)) (by decide), Nat.and_one_is_mod, Nat.shiftRight_eq_div_pow, Nat.testBit_eq_decide_div_mod_eq]
 rw [Bool.eq_iff_iff, beq_iff_eq, decide_eq_true_eq]
 omega
theorem refBitsN_l0 {i n : Nat} (hn : n ≤ 2000) (hi : i < 2 ^ 20) : ∀ (d j : Nat), j + d = n → Ev (fun k => commodatumref09_Bits.l0 k (i : Int) (n : Int) ((List.range j).map (fun t => i.testBit t) ++ List.replicate (n - j) false) (j : Int)) (bitsL n i)
 | 0, j, h => by
  obtain rfl : j = n := by omega
  refine EvS fun k => ?_
  simp only [commodatumref09_Bits.l0]
  rw [if_neg (by omega), fill_end]; rfl
 | d + 1, j, h => by
  refine Ev1 (refBitsN_l0 hn hi d (j + 1) (by omega)) fun k => ?_
  simp only [commodatumref09_Bits.l0]
  rw [if_pos (by omega), if_pos (by omega), if_pos (by simp; omega), w64 _ (by omega), bit_eqN hi j, Int.toNat_natCast, fill_set (fun t => i.testBit t) false n j (by omega)]
theorem refBitsN_ev {i n : Nat} (hn : n ≤ 2000) (hi : i < 2 ^ 20) : Ev (fun k => commodatumref12_Bits.f k (i : Int) (n : Int)) (bitsL n i) := by
 unfold commodatumref12_Bits.f commodatumref09_Bits.f
 refine Ev.bind (a := bitsL n i) ?_ (Ev.now _)
 refine EvC (refBitsN_l0 hn hi n 0 (by omega)) fun k => ?_
 rw [if_pos (by omega), Int.toNat_natCast, if_pos (by omega)]
 simp
theorem input_l0 {i n : Nat} (hn : n ≤ 2000) (hi : i < 2 ^ 20) : ∀ (d j : Nat), j + d = n → Ev (fun k => Ui.bits_Input.l0 k (i : Int) ((List.range j).map (fun t => i.testBit t) ++ List.replicate (n - j) false) (n : Int) (j : Int)) (bitsL n i)
 | 0, j, h => by
  obtain rfl : j = n := by omega
  refine EvS fun k => ?_
  simp only [Ui.bits_Input.l0]
  rw [if_neg (by omega), fill_end]; rfl
 | d + 1, j, h => by
  refine Ev1 (input_l0 hn hi d (j + 1) (by omega)) fun k => ?_
  simp only [Ui.bits_Input.l0]
  rw [if_pos (by omega), if_pos (by omega), if_pos (by simp; omega), w64 _ (by omega), bit_eqN hi j, Int.toNat_natCast, fill_set (fun t => i.testBit t) false n j (by omega)]
theorem input_ev {i n : Nat} (hn : n ≤ 2000) (hi : i < 2 ^ 20) : Ev (fun k => Ui.bits_Input.f k (i : Int) (n : Int)) (bitsL n i) := by
 refine EvC (input_l0 hn hi n 0 (by omega)) fun k => ?_
 unfold Ui.bits_Input.f
 rw [if_pos (by omega), Int.toNat_natCast, if_pos (by omega)]
 simp
theorem eqB_l0 {x y : List Bool} {N : Nat} (hx : x.length = N) (hy : y.length = N) (hN : N ≤ 10000) : ∀ (d j : Nat), j + d = N → Ev (fun k => Ui.slices_Equal_bool_bool.l0 k x y (N : Int) (j : Int)) (decide (x.drop j = y.drop j))
 | 0, j, h => by
  rw [List.drop_eq_nil_of_le (by omega), List.drop_eq_nil_of_le (by omega)]
  refine EvS fun k => ?_
  simp only [Ui.slices_Equal_bool_bool.l0]
  rw [if_neg (by omega)]; rfl
 | d + 1, j, h => by
  have h1 : j < x.length := by omega
  have h2 : j < y.length := by omega
  rw [List.drop_eq_getElem_cons h1, List.drop_eq_getElem_cons h2]
  by_cases c : x[j] = y[j]
  ·have ih := eqB_l0 hx hy hN d (j + 1) (by omega)
   have e : decide (x[j] :: x.drop (j + 1) = y[j] :: y.drop (j + 1)) = decide (x.drop (j + 1) = y.drop (j + 1)) := by rw [c]; simp only [List.cons.injEq, true_and]
   rw [e]
   refine Ev1 ih fun k => ?_
   simp only [Ui.slices_Equal_bool_bool.l0]
   rw [if_pos (by omega), if_pos (by omega), if_pos (by omega), if_pos (by omega), rdb_at x j h1, rdb_at y j h2, c, if_neg (by simp), w64 _ (by omega)]
  ·have e : decide (x[j] :: x.drop (j + 1) = y[j] :: y.drop (j + 1)) = false := decide_eq_false (fun hh => c (by injection hh))
   rw [e]
   refine EvS fun k => ?_
   simp only [Ui.slices_Equal_bool_bool.l0]
   rw [if_pos (by omega), if_pos (by omega), if_pos (by omega), if_pos (by omega), rdb_at x j h1, rdb_at y j h2, if_pos (bne_iff_ne.2 c)]
theorem eqB_ev {x y : List Bool} {N : Nat} (hx : x.length = N) (hy : y.length = N) (hN : N ≤ 10000) : Ev (fun k => Ui.slices_Equal_bool_bool.f k x y) (decide (x = y)) := by
 have h := eqB_l0 hx hy hN N 0 (by omega)
 rw [List.drop_zero, List.drop_zero] at h
 refine EvC h fun k => ?_
 unfold Ui.slices_Equal_bool_bool.f
 rw [if_pos (by omega), hx]; rfl
def flipB (N n : Nat) (l : List S67) (i : Nat) : Bool := rdOf false (bitsL N i) (n : Int) != rdOf false (runL (bitsL N i) l) (n : Int)
def fineB (N n : Nat) (l : List S67) (i : Nat) : Bool := decide (bitsL N i = (runL (bitsL N i) l).set n (rdOf false (bitsL N i) (n : Int)))
theorem fine_iff {x y : List Bool} {N n : Nat} (hx : x.length = N) (hy : y.length = N) : x = y.set n (rdOf false x (n : Int)) ↔ ∀ k : Nat, k < N → k ≠ n → rdOf false x (k : Int) = rdOf false y (k : Int) := by
 have e : y.set n (rdOf false x (n : Int)) = y.set ((n : Int)).toNat (rdOf false x (n : Int)) := rfl
 rw [e]
 refine ⟨fun h k hk hn => ?_, fun h => row_ext2 (by rw [List.length_set, hx, hy]) fun k hk => ?_⟩
 ·have h2 : rdOf false x (k : Int) = rdOf false (y.set ((n : Int)).toNat (rdOf false x (n : Int))) (k : Int) := congrArg (fun z => rdOf false z (k : Int)) h
  rw [rd_set_other (by omega) (by omega) (by omega)] at h2
  exact h2
 ·by_cases c : k = n
  ·subst c; rw [rd_set_same (by rw [Int.toNat_natCast]; omega)]
  ·rw [rd_set_other (by omega) (by omega) (by omega)]; exact h k (by omega) c
where
 row_ext2 {x y : List Bool} (hl : x.length = y.length) (h : ∀ i : Nat, i < x.length → rdOf false x (i : Int) = rdOf false y (i : Int)) : x = y := by
  apply List.ext_getElem hl
  intro i h1 h2
  have := h i h1
  simpa [rdOf, List.getD_eq_getElem?_getD, List.getElem?_eq_getElem h1, List.getElem?_eq_getElem h2] using this
theorem flipsT_l0 {N n : Nat} {x y : List Bool} (hx : x.length = N) (hy : y.length = N) (hn : n < N) (hN : N ≤ 2000) (l : List S67) (same : ∀ i : Nat, i < N → i ≠ n → rdOf false x (i : Int) = rdOf false y (i : Int)) : ∀ d i, i + d = N → Ev (fun k => commodatumref12_Flips.l0 k (n : Int) x y (i : Int) (N : Int) l) ((rdOf false x (n : Int) != rdOf false y (n : Int)), true)
 | 0, i, h => by
  refine EvS fun k => ?_
  simp only [commodatumref12_Flips.l0]
  rw [if_neg (by omega), if_pos (by omega), if_pos (by omega), if_pos (by omega)]
 | d + 1, i, h => by
  have ih := flipsT_l0 hx hy hn hN l same d (i + 1) (by omega)
  refine Ev1 ih fun k => ?_
  simp only [commodatumref12_Flips.l0]
  rw [if_pos (by omega), w64 _ (by omega)]
  by_cases e : (i : Int) = (n : Int)
  ·rw [if_pos e]
  ·rw [if_neg e, if_pos (by omega), if_pos (by omega), if_pos (by omega), same i (by omega) (by omega), if_neg (by simp)]
theorem flipsF_l0 {N n : Nat} {x y : List Bool} (hx : x.length = N) (hy : y.length = N) (hN : N ≤ 2000) (l : List S67) {m : Nat} (hm : m < N) (hmn : m ≠ n) (hd : rdOf false x (m : Int) ≠ rdOf false y (m : Int)) : ∀ d i, i + d = m → Ev (fun k => commodatumref12_Flips.l0 k (n : Int) x y (i : Int) (N : Int) l) (false, false)
 | 0, i, h => by
  obtain rfl : i = m := by omega
  refine EvS fun k => ?_
  simp only [commodatumref12_Flips.l0]
  rw [if_pos (by omega), if_neg (by omega), if_pos (by omega), if_pos (by omega), if_pos (by omega), if_pos (bne_iff_ne.2 hd)]
 | d + 1, i, h => by
  have ih := flipsF_l0 hx hy hN l hm hmn hd d (i + 1) (by omega)
  by_cases e : (i : Int) = (n : Int)
  ·refine Ev1 ih fun k => ?_
   simp only [commodatumref12_Flips.l0]
   rw [if_pos (by omega), w64 _ (by omega), if_pos e]
  ·by_cases c : rdOf false x (i : Int) = rdOf false y (i : Int)
   ·refine Ev1 ih fun k => ?_
    simp only [commodatumref12_Flips.l0]
    rw [if_pos (by omega), w64 _ (by omega), if_neg e, if_pos (by omega), if_pos (by omega), if_pos (by omega), c, if_neg (by simp)]
   ·refine EvS fun k => ?_
    simp only [commodatumref12_Flips.l0]
    rw [if_pos (by omega), if_neg e, if_pos (by omega), if_pos (by omega), if_pos (by omega), if_pos (bne_iff_ne.2 c)]
structure TabAt (N n : Nat) (l : List S67) : Prop where
 right : ∀ o ∈ l, rightB (N : Int) o = true
 len : l.length ≤ 200000
 bits : N ≤ 1024
 lt : n < N
 le : n ≤ 12
theorem flips_ev {N n : Nat} {l : List S67} (h : TabAt N n l) (i : Nat) : Ev (fun k => commodatumref12_Flips.f k (N : Int) l (n : Int) (bitsL N i)) (if fineB N n l i = true then (flipB N n l i, true) else (false, false)) := by
 have hx : (bitsL N i).length = N := bitsL_len N i
 have hy : (runL (bitsL N i) l).length = N := by rw [runL_len, hx]
 have hb := h.bits
 refine Ev.bind (refRun_ev (N : Int) h.len (by omega) (fun o ho => by rw [hx]; exact h.right o ho)) ?_
 by_cases c : fineB N n l i = true
 ·rw [if_pos c]
  have same := (fine_iff (n := n) hx hy).1 (of_decide_eq_true c)
  exact flipsT_l0 hx hy h.lt (by omega) l same N 0 (by omega)
 ·rw [if_neg c]
  have hne : ¬ ∀ k : Nat, k < N → k ≠ n → rdOf false (bitsL N i) (k : Int) = rdOf false (runL (bitsL N i) l) (k : Int) := fun hh => c (decide_eq_true ((fine_iff (n := n) hx hy).2 hh))
  obtain ⟨m, hm⟩ := Classical.not_forall.1 hne
  obtain ⟨hm1, hm⟩ := Classical.not_imp.1 hm
  obtain ⟨hm2, hm⟩ := Classical.not_imp.1 hm
  exact flipsF_l0 hx hy (by omega) l hm1 hm2 hm m 0 (by omega)
def tabTo (F : Nat → Bool) (n i : Nat) : List Bool := (List.range (2 ^ n)).map fun j => if j < i then F j else false
def tabL (F : Nat → Bool) (n : Nat) : List Bool := (List.range (2 ^ n)).map F
def condB (F G : Nat → Bool) (n i : Nat) : Bool := G i && (decide (i < 2 ^ n) || F i == F (i % 2 ^ n))
def okGo (F G : Nat → Bool) (n : Nat) : Nat → Nat → Bool
 | 0, _ => true
 | d + 1, i => condB F G n i && okGo F G n d (i + 1)
theorem tab_len (F : Nat → Bool) (n i : Nat) : (tabTo F n i).length = 2 ^ n := by simp [tabTo]
theorem tab_zero (F : Nat → Bool) (n : Nat) : tabTo F n 0 = List.replicate (2 ^ n) false := by
 unfold tabTo
 apply List.ext_getElem (by simp)
 intro i h1 h2
 simp
theorem tab_full (F : Nat → Bool) (n i : Nat) (h : 2 ^ n ≤ i) : tabTo F n i = tabL F n := by
 unfold tabTo tabL
 apply List.map_congr_left
 intro j hj
 rw [if_pos (by have := List.mem_range.1 hj; omega)]
theorem tab_get (F : Nat → Bool) (n i j : Nat) (hj : j < 2 ^ n) : rdOf false (tabTo F n i) (j : Int) = if j < i then F j else false := by
 simp [tabTo, rdOf, List.getD_eq_getElem?_getD, hj]
theorem tab_get2 (F : Nat → Bool) (n i j : Nat) (hj : j < 2 ^ n) (hi : ¬ i < 2 ^ n) : rdOf false (tabTo F n i) (j : Int) = F j := by
 rw [tab_get F n i j hj, if_pos (by omega)]
theorem tab_set (F G : Nat → Bool) (n i : Nat) (h : condB F G n i = true) : (tabTo F n i).set (i % 2 ^ n) (F i) = tabTo F n (i + 1) := by
 have hp : 0 < 2 ^ n := Nat.two_pow_pos n
 unfold condB at h
 simp only [Bool.and_eq_true, Bool.or_eq_true, decide_eq_true_eq, beq_iff_eq] at h
 apply List.ext_getElem (by simp [tabTo])
 intro j h1 h2
 have hj : j < 2 ^ n := by simpa [tabTo] using h2
 rw [List.getElem_set]
 by_cases c : i % 2 ^ n = j
 ·rw [if_pos c]
  simp only [tabTo, List.getElem_map, List.getElem_range]
  rcases h.2 with h3 | h3
  ·rw [Nat.mod_eq_of_lt h3] at c; subst c; rw [if_pos (by omega)]
  ·by_cases ci : i < 2 ^ n
   ·rw [Nat.mod_eq_of_lt ci] at c; subst c; rw [if_pos (by omega)]
   ·rw [if_pos (by omega), h3, c]
 ·rw [if_neg c]
  simp only [tabTo, List.getElem_map, List.getElem_range]
  by_cases cj : j < i
  ·rw [if_pos cj, if_pos (by omega)]
  ·rw [if_neg cj, if_neg]
   intro h5
   have : j = i := by omega
   subst this
   exact c (Nat.mod_eq_of_lt hj)
theorem tmod_pow (i n : Nat) : Int.tmod (i : Int) ((2 ^ n : Nat) : Int) = ((i % 2 ^ n : Nat) : Int) := by
 rw [Int.tmod_eq_emod_of_nonneg (by omega)]; rfl
theorem computed_l0 {N n free : Nat} {l : List S67} (h : TabAt N n l) (hf : free ≤ 20) : ∀ (d i : Nat), i + d = 2 ^ free → Ev (fun k => commodatumref12_computed.l0 k (n : Int) (free : Int) (tabTo (flipB N n l) n i) (i : Int) (N : Int) l) (if okGo (flipB N n l) (fineB N n l) n d i = true then (tabTo (flipB N n l) n (2 ^ free), true) else ([], false))
 | 0, i, hi => by
  obtain rfl : i = 2 ^ free := by omega
  refine EvS fun k => ?_
  simp only [commodatumref12_computed.l0]
  rw [if_pos (by omega), pow_int free hf, if_neg (by omega)]; rfl
 | d + 1, i, hi => by
  have hpf := pow_le free hf
  have hpn := pow_le n (by have := h.le; omega)
  have hp : 0 < 2 ^ n := Nat.two_pow_pos n
  have hm : i % 2 ^ n < 2 ^ n := Nat.mod_lt _ hp
  have hi20 : i < 2 ^ 20 := by
   have : (2 : Nat) ^ free ≤ 2 ^ 20 := Nat.pow_le_pow_right (by decide) hf
   omega
  have ih := computed_l0 h hf d (i + 1) (by omega)
  obtain ⟨F, hF⟩ : ∃ F, F = flipB N n l := ⟨_, rfl⟩
  obtain ⟨G, hG⟩ : ∃ G, G = fineB N n l := ⟨_, rfl⟩
  have hfl := flips_ev h i
  rw [← hF, ← hG] at ih hfl ⊢
  have hlen := tab_len F n i
  have key : Ev (fun k => (commodatumref12_Bits.f k (i : Int) (N : Int)).bind fun t202 => ((commodatumref12_Flips.f k (N : Int) l (n : Int) t202).bind fun bt205 => (if bt205.2 = true then (if (i : Int) ≥ ((2 ^ n : Nat) : Int) then (if (bt205.1 != (rdOf false (tabTo F n i) ((i % 2 ^ n : Nat) : Int))) = true then (some (([] : List Bool), false)) else (commodatumref12_computed.l0 k (n : Int) (free : Int) ((tabTo F n i).set (i % 2 ^ n) bt205.1) ((i + 1 : Nat) : Int) (N : Int) l)) else (commodatumref12_computed.l0 k (n : Int) (free : Int) ((tabTo F n i).set (i % 2 ^ n) bt205.1) ((i + 1 : Nat) : Int) (N : Int) l)) else (some (([] : List Bool), false))))) (if okGo F G n (d + 1) i = true then (tabTo F n (2 ^ free), true) else ([], false)) := by
   refine Ev.bind (refBitsN_ev (by have := h.bits; omega) hi20) (Ev.bind hfl ?_)
   cases hg : G i with
   | false =>
    have e : okGo F G n (d + 1) i = false := by rw [okGo, condB, hg]; rfl
    rw [e]
    exact EvSome fun k => by rw [if_neg (by simp), if_neg (by simp)]
   | true =>
    by_cases c : condB F G n i = true
    ·have e : okGo F G n (d + 1) i = okGo F G n d (i + 1) := by rw [okGo, c, Bool.true_and]
     have hs := tab_set F G n i c
     rw [e]
     refine EvC ih fun k => ?_
     rw [if_pos rfl, if_pos rfl, hs]
     by_cases ci : i < 2 ^ n
     ·rw [if_neg (by omega)]
     ·rw [if_pos (by omega), tab_get2 F n i _ hm ci, if_neg]
      unfold condB at c
      simp only [Bool.and_eq_true, Bool.or_eq_true, decide_eq_true_eq, beq_iff_eq] at c
      rcases c.2 with h3 | h3
      ·exact absurd h3 ci
      ·rw [h3]; simp
    ·have e : okGo F G n (d + 1) i = false := by rw [okGo, Bool.eq_false_iff.2 c]; rfl
     rw [e]
     unfold condB at c
     rw [hg, Bool.true_and, Bool.or_eq_true, decide_eq_true_eq, beq_iff_eq, not_or] at c
     refine EvSome fun k => ?_
     rw [if_pos rfl, if_pos rfl, if_pos (by have := c.1; omega), tab_get2 F n i _ hm c.1, if_pos (bne_iff_ne.2 c.2)]; rfl
  refine Ev1 key fun k => ?_
  simp only [commodatumref12_computed.l0]
  rw [if_pos (by omega), pow_int free hf, pow_int n (by have := h.le; omega), if_pos (by omega), w64 _ (by omega), tmod_pow, Int.toNat_natCast]
  congr 1; funext t202
  congr 1; funext bt205
  have q1 : ((0 : Int) ≤ ((i % 2 ^ n : Nat) : Int)) = True := eq_true (by omega)
  have q2 : (((i % 2 ^ n : Nat) : Int) < ((tabTo F n i).length : Int)) = True := eq_true (by omega)
  rw [if_pos (by omega), if_neg (by omega)]
  simp only [q1, q2, if_true]
def okAll (N n : Nat) (l : List S67) (free : Nat) : Bool := okGo (flipB N n l) (fineB N n l) n (2 ^ free) 0
def tabQ (N n : Nat) (l : List S67) : List Bool := tabL (flipB N n l) n
theorem computed_ev {N n free : Nat} {l : List S67} (h : TabAt N n l) (hf : free ≤ 20) (hnf : n ≤ free) : Ev (fun k => commodatumref12_computed.f k (N : Int) l (n : Int) (free : Int)) (if okAll N n l free = true then (tabQ N n l, true) else ([], false)) := by
 have hpn := pow_le n (by have := h.le; omega)
 have i := computed_l0 h hf (2 ^ free) 0 (by omega)
 rw [tab_full _ _ _ (Nat.pow_le_pow_right (by decide) hnf), tab_zero] at i
 refine EvC i fun k => ?_
 unfold commodatumref12_computed.f
 rw [if_pos (by omega), pow_int n (by have := h.le; omega), if_pos (Int.natCast_nonneg _), if_pos (by rw [Int.toNat_natCast]; omega), Int.toNat_natCast]
 rfl
theorem refClean_ev {N n : Nat} {l : List S67} (h : TabAt N n l) : Ev (fun k => commodatumref12_Clean.f k (N : Int) l (n : Int)) (if okAll N n l (n + 1) = true then (tabQ N n l, true) else ([], false)) := by
 unfold commodatumref12_Clean.f
 rw [w64 n (by have := h.le; omega)]
 exact Ev.bind (computed_ev h (by have := h.le; omega) (by omega)) (Ev.now _)
theorem refDirty_ev {N n : Nat} {l : List S67} (h : TabAt N n l) (hN : N ≤ 20) : Ev (fun k => commodatumref12_Dirty.f k (N : Int) l (n : Int)) (if okAll N n l N = true then (tabQ N n l, true) else ([], false)) := by
 unfold commodatumref12_Dirty.f
 exact Ev.bind (computed_ev h hN (by have := h.lt; omega)) (Ev.now _)
theorem mask_pow {i n : Nat} (hn : n ≤ 12) (hi : i < 2 ^ 20) : Go.bits .and .i64 (i : Int) (((2 ^ n : Nat) : Int) - 1) = ((i % 2 ^ n : Nat) : Int) := by
 have h1 : (i : Int) < 2 ^ 62 := by
  have h : i < 2 ^ 62 := Nat.lt_of_lt_of_le hi (Nat.pow_le_pow_right (by decide) (by decide))
  exact_mod_cast h
 have h := bits_mask .i64 62 (by decide) wrap62 n (by omega) (i : Int) (by omega) h1
 have e : ((2 ^ n : Nat) : Int) = (2 : Int) ^ n := Int.natCast_pow 2 n
 rw [e, h, ← e]; rfl
theorem shr_zero {i n : Nat} (hi : i < 2 ^ 20) : shr .i64 (i : Int) (n : Int) = 0 ↔ i < 2 ^ n := by
 rw [shr_nat i n hi, Nat.shiftRight_eq_div_pow]
 have hp : 0 < 2 ^ n := Nat.two_pow_pos n
 constructor
 ·intro h
  have : i / 2 ^ n = 0 := by omega
  exact Nat.lt_of_div_eq_zero hp this
 ·intro h; rw [Nat.div_eq_of_lt h]; rfl
theorem clean_l0 {N n : Nat} {l : List S67} (h : TabAt N n l) : ∀ (d i : Nat), i + d = 2 ^ (n + 1) → Ev (fun k => undo_Clean.l0 k (N : Int) l (n : Int) (tabTo (flipB N n l) n i) ((2 ^ (n + 1) : Nat) : Int) (i : Int)) (if okGo (flipB N n l) (fineB N n l) n d i = true then (tabTo (flipB N n l) n (2 ^ (n + 1)), 0) else ([], 6))
 | 0, i, hi => by
  obtain rfl : i = 2 ^ (n + 1) := by omega
  refine EvS fun k => ?_
  simp only [undo_Clean.l0]
  rw [if_neg (by omega)]; rfl
 | d + 1, i, hi => by
  have hle := h.le
  have hpf := pow_le (n + 1) (by omega)
  have hpn := pow_le n (by omega)
  have hp : 0 < 2 ^ n := Nat.two_pow_pos n
  have hm : i % 2 ^ n < 2 ^ n := Nat.mod_lt _ hp
  have hi20 : i < 2 ^ 20 := by
   have : (2 : Nat) ^ (n + 1) ≤ 2 ^ 20 := Nat.pow_le_pow_right (by decide) (by omega)
   omega
  have ih := clean_l0 h d (i + 1) (by omega)
  have hx : (bitsL N i).length = N := bitsL_len N i
  have hy : (runL (bitsL N i) l).length = N := by rw [runL_len, hx]
  have hb := h.bits
  obtain ⟨F, hF⟩ : ∃ F, F = flipB N n l := ⟨_, rfl⟩
  obtain ⟨G, hG⟩ : ∃ G, G = fineB N n l := ⟨_, rfl⟩
  have eF : (!(rdOf false (bitsL N i) (n : Int) == rdOf false (runL (bitsL N i) l) (n : Int))) = F i := by rw [hF]; rfl
  have eq := eqB_ev hx (y := (runL (bitsL N i) l).set n (rdOf false (bitsL N i) (n : Int))) (by rw [List.length_set, hy]) (by omega)
  rw [show decide (bitsL N i = (runL (bitsL N i) l).set n (rdOf false (bitsL N i) (n : Int))) = G i by rw [hG]; rfl] at eq
  rw [← hF, ← hG] at ih ⊢
  have hlen := tab_len F n i
  have key : Ev (fun k => (Ui.bits_Input.f k (i : Int) (N : Int)).bind fun x => if (x.length : Int) = (N : Int) then
    (if i < 2 ^ n then
     ((Ui.slices_Equal_bool_bool.f k x ((runL x l).set n (rdOf false x (n : Int)))).bind fun q => if q = true then undo_Clean.l0 k (N : Int) l (n : Int) ((tabTo F n i).set (i % 2 ^ n) (!(rdOf false x (n : Int) == rdOf false (runL x l) (n : Int)))) ((2 ^ (n + 1) : Nat) : Int) ((i + 1 : Nat) : Int) else some ([], 6))
    else if (rdOf false (tabTo F n i) ((i % 2 ^ n : Nat) : Int) != (!(rdOf false x (n : Int) == rdOf false (runL x l) (n : Int)))) = true then some ([], 6)
     else ((Ui.slices_Equal_bool_bool.f k x ((runL x l).set n (rdOf false x (n : Int)))).bind fun q => if q = true then undo_Clean.l0 k (N : Int) l (n : Int) (tabTo F n i) ((2 ^ (n + 1) : Nat) : Int) ((i + 1 : Nat) : Int) else some ([], 6)))
    else none) (if okGo F G n (d + 1) i = true then (tabTo F n (2 ^ (n + 1)), 0) else ([], 6)) := by
   refine Ev.bind (input_ev (by omega) hi20) ?_
   refine EvC (f := fun k => if i < 2 ^ n then
     ((Ui.slices_Equal_bool_bool.f k (bitsL N i) ((runL (bitsL N i) l).set n (rdOf false (bitsL N i) (n : Int)))).bind fun q => if q = true then undo_Clean.l0 k (N : Int) l (n : Int) ((tabTo F n i).set (i % 2 ^ n) (F i)) ((2 ^ (n + 1) : Nat) : Int) ((i + 1 : Nat) : Int) else some ([], 6))
    else if (rdOf false (tabTo F n i) ((i % 2 ^ n : Nat) : Int) != F i) = true then some ([], 6)
     else ((Ui.slices_Equal_bool_bool.f k (bitsL N i) ((runL (bitsL N i) l).set n (rdOf false (bitsL N i) (n : Int)))).bind fun q => if q = true then undo_Clean.l0 k (N : Int) l (n : Int) (tabTo F n i) ((2 ^ (n + 1) : Nat) : Int) ((i + 1 : Nat) : Int) else some ([], 6))) ?_ fun k => by rw [if_pos (by omega), eF]
   have bad : ∀ c : Bool, c = false → (if c = true then (tabTo F n (2 ^ (n + 1)), (0 : Int)) else ([], 6)) = ([], 6) := fun c hc => by rw [hc]; rfl
   by_cases ci : i < 2 ^ n
   ·refine EvC (f := fun k => (Ui.slices_Equal_bool_bool.f k (bitsL N i) ((runL (bitsL N i) l).set n (rdOf false (bitsL N i) (n : Int)))).bind fun q => if q = true then undo_Clean.l0 k (N : Int) l (n : Int) ((tabTo F n i).set (i % 2 ^ n) (F i)) ((2 ^ (n + 1) : Nat) : Int) ((i + 1 : Nat) : Int) else some ([], 6)) ?_ fun k => if_pos ci
    refine Ev.bind eq ?_
    cases hg : G i with
    | false =>
     rw [bad _ (show okGo F G n (d + 1) i = false by rw [okGo, condB, hg]; rfl)]
     exact EvSome fun k => if_neg (by simp)
    | true =>
     have c : condB F G n i = true := by unfold condB; rw [hg, decide_eq_true ci]; rfl
     rw [show okGo F G n (d + 1) i = okGo F G n d (i + 1) by rw [okGo, c, Bool.true_and], tab_set F G n i c]
     exact EvC ih fun k => if_pos rfl
   ·by_cases cf : F i = F (i % 2 ^ n)
    ·refine EvC (f := fun k => (Ui.slices_Equal_bool_bool.f k (bitsL N i) ((runL (bitsL N i) l).set n (rdOf false (bitsL N i) (n : Int)))).bind fun q => if q = true then undo_Clean.l0 k (N : Int) l (n : Int) (tabTo F n i) ((2 ^ (n + 1) : Nat) : Int) ((i + 1 : Nat) : Int) else some ([], 6)) ?_ fun k => by rw [if_neg ci, tab_get2 F n i _ hm ci, cf, if_neg (by simp)]
     refine Ev.bind eq ?_
     cases hg : G i with
     | false =>
      rw [bad _ (show okGo F G n (d + 1) i = false by rw [okGo, condB, hg]; rfl)]
      exact EvSome fun k => if_neg (by simp)
     | true =>
      have c : condB F G n i = true := by unfold condB; rw [hg, cf]; simp
      rw [show okGo F G n (d + 1) i = okGo F G n d (i + 1) by rw [okGo, c, Bool.true_and]]
      refine EvC ih fun k => ?_
      rw [if_pos rfl, tab_full F n i (by omega), tab_full F n (i + 1) (by omega)]
    ·have c : condB F G n i = false := by
      unfold condB
      rw [show decide (i < 2 ^ n) = false from decide_eq_false ci, show (F i == F (i % 2 ^ n)) = false from beq_eq_false_iff_ne.2 cf]; simp
     rw [bad _ (show okGo F G n (d + 1) i = false by rw [okGo, c]; rfl)]
     exact EvSome fun k => by rw [if_neg ci, tab_get2 F n i _ hm ci, if_pos (bne_iff_ne.2 (fun e => cf e.symm))]
  refine Ev1 key fun k => ?_
  simp only [undo_Clean.l0]
  rw [if_pos (by omega), hlen, mask_pow hle hi20]
  congr 1; funext x
  by_cases cx : (x.length : Int) = (N : Int)
  ·rw [if_pos cx, if_pos cx, if_pos ⟨by omega, by omega⟩, Int.toNat_natCast, Int.toNat_natCast]
   by_cases ci : i < 2 ^ n
   ·rw [if_pos ((shr_zero hi20).2 ci), if_pos ci]; rfl
   ·rw [if_neg (fun e => ci ((shr_zero hi20).1 e)), if_neg ci]; rfl
  ·rw [if_neg cx, if_neg cx]
theorem clean_ev {N n : Nat} {l : List S67} (h : TabAt N n l) (hv : validB (N : Int) l = true) (hc : (1 + l.length) * 2 ^ (n + 1) ≤ 16777216) : Ev (fun k => undo_Clean.f k (N : Int) l (n : Int)) (if okAll N n l (n + 1) = true then (tabQ N n l, 0) else ([], 6)) := by
 have hle := h.le
 have i := clean_l0 h (2 ^ (n + 1)) 0 (by omega)
 rw [tab_full _ _ _ (Nat.pow_le_pow_right (by decide) (by omega)), tab_zero] at i
 refine EvC i fun k => ?_
 unfold undo_Clean.f
 have e1 : ((n : Int) + 1).toNat = n + 1 := by omega
 have e2 : ((2 : Int) ^ (n + 1)) = ((2 ^ (n + 1) : Nat) : Int) := (Int.natCast_pow 2 (n + 1)).symm
 have hci : (1 + (l.length : Int)) * ((2 ^ (n + 1) : Nat) : Int) ≤ 16777216 := by
  have t := Int.ofNat_le.2 hc
  rw [Int.natCast_mul, show ((1 + l.length : Nat) : Int) = 1 + (l.length : Int) by omega] at t
  exact t
 rw [if_pos hv, if_pos ⟨by omega, by have := h.lt; omega⟩, e1, e2, if_pos ⟨by omega, hci⟩, Int.toNat_natCast]
 rfl
end Go.Proofs.YthfhnkpipdbekaaDoor.Pure
