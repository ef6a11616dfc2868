-- CUT by a program of this session: what the claim does not use is left out
import Derived.Test.YthfhnkpipdbekaaDoorQ9
namespace Go.Proofs.YthfhnkpipdbekaaDoor.Pure
set_option linter.unusedVariables false
set_option linter.unusedSimpArgs false
open Go.RowKit Go.Proofs.YthfhnkpipdbekaaDoorW.PrintWords Go.Proofs.YthfhnkpipdbekaaDoorW.PrintLast Go.Proofs.YthfhnkpipdbekaaDoorW.PrintMore
open Ua Ta Giv Tb
theorem refRun_l0 {l : List S67} (hl : l.length ≤ 200000) (m : Int) : ∀ (d j : Nat) (x : List Bool), (∀ o ∈ l, rightB x.length o = true) → j + d = l.length → Ev (fun k => commodatumref12_Run.l0 k x (j : Int) m l) (runL x (l.drop j))
 | 0, j, x, hr, h => by
  rw [List.drop_eq_nil_of_le (by omega)]
  refine EvS fun k => ?_
  simp only [commodatumref12_Run.l0]
  rw [if_neg (by omega)]; rfl
 | d + 1, j, x, hr, h => by
  have hj : j < l.length := by omega
  have ho := hr _ (List.getElem_mem hj)
  have ih := refRun_l0 hl m d (j + 1) (runOp x l[j]) (fun o h => by rw [runOp_len]; exact hr o h) (by omega)
  have er : runL x (l.drop j) = runL (runOp x l[j]) (l.drop (j + 1)) := by rw [List.drop_eq_getElem_cons hj]; rfl
  rw [er]
  refine Ev1 ih fun k => ?_
  obtain ⟨⟨a0, a1⟩, hb, hc, hk⟩ := rightB_in ho
  simp only [commodatumref12_Run.l0]
  rw [if_pos (by omega), if_pos (by omega), rdT_at _ _ hj, w64 _ (by omega)]
  generalize l[j] = o at *
  obtain ⟨k0, a, b, c⟩ := o
  dsimp only at *
  unfold runOp
  dsimp only
  by_cases e0 : k0 = 0
  ·rw [if_pos e0, if_pos a0, if_pos a1, if_pos e0]
  ·obtain ⟨b0, b1⟩ := hb e0
   rw [if_neg e0, if_neg e0]
   by_cases e1 : k0 = 1
   ·rw [if_pos e1, if_pos a0, if_pos a1, if_pos b0, if_pos b1, if_pos e1]
   ·rw [if_neg e1, if_neg e1]
    by_cases e2 : k0 = 2
    ·obtain ⟨c0, c1⟩ := hc e2
     rw [if_pos e2, if_pos a0, if_pos a1, if_pos b0, if_pos b1, if_pos e2]
     cases hB : rdOf false x b with
     | true => rw [if_pos rfl, if_pos c0, if_pos c1, Bool.true_and]
     | false => rw [if_neg (by simp), Bool.false_and]
    ·rw [if_neg e2, if_pos (show k0 = 3 by omega), if_pos a0, if_pos a1, if_pos b0, if_pos b1, if_neg e2]
theorem refRun_ev {l : List S67} {x : List Bool} (m : Int) (hl : l.length ≤ 200000) (hx : x.length < 10000000) (hr : ∀ o ∈ l, rightB x.length o = true) : Ev (fun k => commodatumref12_Run.f k m l x) (runL x l) := by
 have h := refRun_l0 hl m l.length 0 x hr (by omega)
 rw [List.drop_zero] at h
 refine EvC h fun k => ?_
 unfold commodatumref12_Run.f
 simp only [Option.bind_some, List.nil_append, List.length_nil]
 rw [if_pos (by omega)]; rfl
theorem bit_eq {i n : Nat} (hn : n ≤ 20) (hi : i < 2 ^ n) (j : Nat) (hj : j ≤ 40) : (Go.bits .and .i64 (shr .i64 (i : Int) (j : Int)) 1 == 1) = i.testBit j := by
 have s := b_shr i (j : Int) (by omega) (by omega)
 rw [s, Int.toNat_natCast, show (1 : Int) = ((1 : Nat) : Int) from rfl, b_and _ _ (lt62 (shr_lt hi j) hn) (by decide), Nat.and_one_is_mod, Nat.shiftRight_eq_div_pow]
 rw [Nat.testBit_eq_decide_div_mod_eq]
 rw [Bool.eq_iff_iff, beq_iff_eq, decide_eq_true_eq]
 omega
theorem refBits_l0 {i n : Nat} (hn : n ≤ 20) (hi : i < 2 ^ n) : ∀ (d j : Nat), j + d = n → Ev (fun k => commodatumref09_Bits.l0 k (i : Int) (n : Int) ((List.range j).map (fun t => i.testBit t) ++ List.replicate (n - j) false) (j : Int)) (bitsL n i)
 | 0, j, h => by
  obtain rfl : j = n := by omega
  refine EvS fun k => ?_
  simp only [commodatumref09_Bits.l0]
  rw [if_neg (by omega), fill_end]; rfl
 | d + 1, j, h => by
  refine Ev1 (refBits_l0 hn hi d (j + 1) (by omega)) fun k => ?_
  simp only [commodatumref09_Bits.l0]
  rw [if_pos (by omega), if_pos (by omega), if_pos (by simp; omega), w64 _ (by omega), bit_eq hn hi j (by omega), Int.toNat_natCast, fill_set (fun t => i.testBit t) false n j (by omega)]
theorem refBits_ev {i n : Nat} (hn : n ≤ 20) (hi : i < 2 ^ n) : Ev (fun k => commodatumref12_Bits.f k (i : Int) (n : Int)) (bitsL n i) := by
 unfold commodatumref12_Bits.f commodatumref09_Bits.f
 refine Ev.bind (a := bitsL n i) ?_ (Ev.now _)
 refine EvC (refBits_l0 hn hi n 0 (by omega)) fun k => ?_
 rw [if_pos (by omega), Int.toNat_natCast, if_pos (by omega)]
 simp
end Go.Proofs.YthfhnkpipdbekaaDoor.Pure
