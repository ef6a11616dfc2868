-- CUT by a program of this session: what the claim does not use is left out
import Derived.Test.YthfhnkpipdbekaaDoorQ6
import Derived.Test.YthfhnkpipdbekaaDoorTax3
import Derived.Test.YthfhnkpipdbekaaDoorUax0
import Derived.Test.YthfhnkpipdbekaaDoorProg
import Derived.Below
import Derived.Deep.Draws
import Derived.Deep.AppendLies
import Derived.Maps.AppendAt
import Derived.OwnWalk
import Derived.Laws.BytesArg
import Derived.Laws.MakeOwn
import Derived.Laws.OwnMore
import Derived.Deep.OwnRows
import Derived.Tactics
import Derived.Lib.ConvBytes
import Derived.Laws.Slices
import Derived.WalkKit
import Derived.KernelRfl
import Derived.RowKit3
import Derived.Deep.LoopGhost
import Derived.Deep.QuietTactic
import Derived.BigQuiet
import Derived.WideLaws
import Derived.Deep.DeepCutAuto
import Derived.Deep.CutBlock
import Derived.Deep.RegionHeld3
import Derived.Laws.Rows
import Derived.Lib.AppendStr
import Derived.ArgAppend
import Derived.Laws.IdiomCopy
import Derived.OrdersHeld
import Derived.Laws.BitsLemmas
import Derived.RowKit
import Derived.Test.YthfhnkpipdbekaaDoorN12
import Derived.Test.YthfhnkpipdbekaaDoorN6
import Derived.Test.YthfhnkpipdbekaaDoorWAll
import Derived.Test.YthfhnkpipdbekaaDoorTax5
import Derived.Test.YthfhnkpipdbekaaDoorTax6
import Derived.Test.YthfhnkpipdbekaaDoorTax12
import Derived.Test.YthfhnkpipdbekaaDoorTax13
import Derived.Test.YthfhnkpipdbekaaDoorTax2
import Derived.Test.YthfhnkpipdbekaaDoorTax4
import Derived.Test.YthfhnkpipdbekaaDoorTax7
import Derived.Test.YthfhnkpipdbekaaDoorTax8
import Derived.Test.YthfhnkpipdbekaaDoorTax9
import Derived.Test.YthfhnkpipdbekaaDoorTxx1
import Derived.Test.YthfhnkpipdbekaaDoorTxx2
import Derived.Test.YthfhnkpipdbekaaDoorTbx1
namespace Go.Proofs.YthfhnkpipdbekaaDoor.Pure
set_option linter.unusedVariables false
set_option linter.unusedSimpArgs false
open Go.RowKit Go.Proofs.YthfhnkpipdbekaaDoorW.PrintWords Go.Proofs.YthfhnkpipdbekaaDoorW.PrintLast Go.Proofs.YthfhnkpipdbekaaDoorW.PrintMore
open Ua Ta Giv Tb
theorem wrap62 (n : Int) (h0 : 0 ≤ n) (h1 : n < 2 ^ 62) : IntKind.i64.wrap n = n := by rw [IntKind.wrap_i64]; omega
theorem b_and (a b : Nat) (ha : a < 2 ^ 62) (hb : b < 2 ^ 62) : Go.bits .and .i64 (a : Int) (b : Int) = ((a &&& b : Nat) : Int) := (bits_nat .i64 62 (by decide) wrap62 a b ha hb).1
theorem b_or (a b : Nat) (ha : a < 2 ^ 62) (hb : b < 2 ^ 62) : Go.bits .or .i64 (a : Int) (b : Int) = ((a ||| b : Nat) : Int) := (bits_nat .i64 62 (by decide) wrap62 a b ha hb).2
theorem b_xor (a b : Nat) (ha : a < 2 ^ 62) (hb : b < 2 ^ 62) : Go.bits .xor .i64 (a : Int) (b : Int) = ((a ^^^ b : Nat) : Int) := by
 have hp : 2 ^ 62 ≤ 2 ^ IntKind.i64.bits := by decide
 have ha' : a % 2 ^ IntKind.i64.bits = a := Nat.mod_eq_of_lt (Nat.lt_of_lt_of_le ha hp)
 have hb' : b % 2 ^ IntKind.i64.bits = b := Nat.mod_eq_of_lt (Nat.lt_of_lt_of_le hb hp)
 simp only [Go.bits, BitVec.ofInt_natCast, BitVec.toNat_xor, BitVec.toNat_ofNat, ha', hb']
 exact wrap62 _ (Int.natCast_nonneg _) (by have := Nat.xor_lt_two_pow ha hb; exact_mod_cast this)
theorem b_shl (a : Nat) (s : Int) (h0 : 0 ≤ s) (h1 : s ≤ 40) (ha : a < 2 ^ 20) : shl .i64 (a : Int) s = ((a <<< s.toNat : Nat) : Int) ∧ a <<< s.toNat < 2 ^ 62 := by
 have hlt : a <<< s.toNat < 2 ^ 62 := by
  rw [Nat.shiftLeft_eq]
  calc a * 2 ^ s.toNat < 2 ^ 20 * 2 ^ s.toNat := (Nat.mul_lt_mul_right (Nat.two_pow_pos _)).2 ha
   _ ≤ 2 ^ 20 * 2 ^ 40 := Nat.mul_le_mul_left _ (Nat.pow_le_pow_right (by decide) (by omega))
   _ < 2 ^ 62 := by decide
 refine ⟨?_, hlt⟩
 unfold shl
 rw [show min s.toNat IntKind.i64.bits = s.toNat by have : IntKind.i64.bits = 64 := rfl; omega]
 have e : (a : Int) * 2 ^ s.toNat = ((a <<< s.toNat : Nat) : Int) := by rw [Nat.shiftLeft_eq]; push_cast; rfl
 rw [e]
 exact wrap62 _ (Int.natCast_nonneg _) (by exact_mod_cast hlt)
theorem b_shr (a : Nat) (s : Int) (h0 : 0 ≤ s) (h1 : s ≤ 40) : shr .i64 (a : Int) s = ((a >>> s.toNat : Nat) : Int) := by
 unfold shr
 rw [show min s.toNat IntKind.i64.bits = s.toNat by have : IntKind.i64.bits = 64 := rfl; omega, Nat.shiftRight_eq_div_pow]
 push_cast; rfl
theorem lt62 {a n : Nat} (h : a < 2 ^ n) (hn : n ≤ 20) : a < 2 ^ 62 := Nat.lt_of_lt_of_le h (Nat.pow_le_pow_right (by decide) (by omega))
theorem and1_lt (x : Nat) : x &&& 1 < 2 ^ 20 := Nat.lt_of_le_of_lt Nat.and_le_right (by decide)
theorem shr_lt {i n : Nat} (h : i < 2 ^ n) (s : Nat) : i >>> s < 2 ^ n := Nat.lt_of_le_of_lt (by rw [Nat.shiftRight_eq_div_pow]; exact Nat.div_le_self _ _) h
theorem final_l0 {n : Nat} {l : List S67} (hr : ∀ o ∈ l, rightB (n : Int) o = true) (hn : n ≤ 20) (hl : l.length ≤ 200000) : ∀ (d j i : Nat), j + d = l.length → i < 2 ^ n → Ev (fun k => undo_final.l0 k (i : Int) l (l.length : Int) (j : Int)) ((Giv.runN i (l.drop j) : Nat) : Int)
 | 0, j, i, h, hi => by
  rw [List.drop_eq_nil_of_le (by omega)]
  refine EvS fun k => ?_
  simp only [undo_final.l0]
  rw [if_neg (by omega)]; rfl
 | d + 1, j, i, h, hi => by
  have hj : j < l.length := by omega
  have ho := hr _ (List.getElem_mem hj)
  have hlt := fopO_lt ho hi
  have ih := final_l0 hr hn hl d (j + 1) (fopO i l[j]) (by omega) hlt
  have er : Giv.runN i (l.drop j) = Giv.runN (fopO i l[j]) (l.drop (j + 1)) := by rw [List.drop_eq_getElem_cons hj]; rfl
  rw [er]
  refine Ev1 ih fun k => ?_
  obtain ⟨⟨a0, a1⟩, hb, hc, hk⟩ := rightB_in ho
  have i62 := lt62 hi hn
  simp only [undo_final.l0]
  rw [if_pos (by omega), if_pos (by omega), if_pos (by omega), rdT_at _ _ hj, w64 _ (by omega)]
  generalize l[j] = o at *
  obtain ⟨k0, a, b, c⟩ := o
  dsimp only at *
  have sa := b_shl 1 a a0 (by omega) (by decide)
  by_cases e0 : k0 = 0
  ·subst e0
   rw [if_pos rfl, if_pos a0, show (1 : Int) = ((1 : Nat) : Int) from rfl, sa.1, b_xor _ _ i62 sa.2]; rfl
  ·obtain ⟨b0, b1⟩ := hb e0
   have sb := b_shr i b b0 (by omega)
   have sbl := shr_lt hi b.toNat
   have sb62 := lt62 sbl hn
   rw [if_neg e0]
   by_cases e1 : k0 = 1
   ·subst e1
    have s1 := b_shl ((i >>> b.toNat) &&& 1) a a0 (by omega) (and1_lt _)
    rw [if_pos rfl, if_pos b0, if_pos a0, sb, show (1 : Int) = ((1 : Nat) : Int) from rfl, b_and _ _ sb62 (by decide), s1.1, b_xor _ _ i62 s1.2]; rfl
   ·rw [if_neg e1]
    by_cases e2 : k0 = 2
    ·subst e2
     obtain ⟨c0, c1⟩ := hc rfl
     have sc := b_shr i c c0 (by omega)
     have sc62 := lt62 (shr_lt hi c.toNat) hn
     have sbc62 : (i >>> b.toNat) &&& (i >>> c.toNat) < 2 ^ 62 := Nat.and_lt_two_pow _ sc62
     have s1 := b_shl (((i >>> b.toNat) &&& (i >>> c.toNat)) &&& 1) a a0 (by omega) (and1_lt _)
     rw [if_pos rfl, if_pos b0, if_pos c0, if_pos a0, sb, sc, b_and _ _ sb62 sc62, show (1 : Int) = ((1 : Nat) : Int) from rfl, b_and _ _ sbc62 (by decide), s1.1, b_xor _ _ i62 s1.2]; rfl
    ·have e3 : k0 = 3 := by omega
     subst e3
     have sA := b_shr i a a0 (by omega)
     have sA62 := lt62 (shr_lt hi a.toNat) hn
     have sx62 : (i >>> a.toNat) ^^^ (i >>> b.toNat) < 2 ^ 62 := Nat.xor_lt_two_pow sA62 sb62
     have s1 := b_shl (((i >>> a.toNat) ^^^ (i >>> b.toNat)) &&& 1) a a0 (by omega) (and1_lt _)
     have s2 := b_shl (((i >>> a.toNat) ^^^ (i >>> b.toNat)) &&& 1) b b0 (by omega) (and1_lt _)
     rw [if_neg e2, if_pos a0, if_pos b0, sA, sb, b_xor _ _ sA62 sb62, show (1 : Int) = ((1 : Nat) : Int) from rfl, b_and _ _ sx62 (by decide), s1.1, s2.1, b_or _ _ s1.2 s2.2, b_xor _ _ i62 (Nat.or_lt_two_pow s1.2 s2.2)]; rfl
theorem final_ev {n : Nat} {l : List S67} (hr : ∀ o ∈ l, rightB (n : Int) o = true) (hn : n ≤ 20) (hl : l.length ≤ 200000) {i : Nat} (hi : i < 2 ^ n) : Ev (fun k => undo_final.f k l (i : Int)) ((Giv.runN i l : Nat) : Int) := by
 have := final_l0 hr hn hl l.length 0 i (by omega) hi
 rw [List.drop_zero] at this
 exact this
theorem fill_end {α : Type} (g : Nat → α) (z : α) (N : Nat) : ((List.range N).map g ++ List.replicate (N - N) z) = (List.range N).map g := by simp
theorem fill_set {α : Type} (g : Nat → α) (z : α) (N i : Nat) (hi : i < N) : (((List.range i).map g ++ List.replicate (N - i) z).set i (g i)) = (List.range (i + 1)).map g ++ List.replicate (N - (i + 1)) z := by
 rw [List.set_append_right _ _ (by simp), List.length_map, List.length_range, Nat.sub_self, show N - i = (N - (i + 1)) + 1 by omega, List.replicate_succ, List.set_cons_zero, List.range_succ, List.map_append, List.append_assoc]
 rfl
theorem pow_int (n : Nat) (hn : n ≤ 20) : shl .i64 1 (n : Int) = ((2 ^ n : Nat) : Int) := by
 have h := (b_shl 1 (n : Int) (by omega) (by omega) (by decide)).1
 rw [Int.toNat_natCast, Nat.one_shiftLeft] at h
 exact h
theorem pow_le (n : Nat) (hn : n ≤ 20) : 2 ^ n ≤ 1048576 := Nat.pow_le_pow_right (by decide) hn
theorem cost_mul {n : Nat} {l : List S67} (hn : n ≤ 20) (hl : l.length ≤ 200000) : shl .i64 (wrap64 (1 + (l.length : Int))) (n : Int) = (((1 + l.length) * 2 ^ n : Nat) : Int) ∧ (1 + l.length) * 2 ^ n < 2 ^ 62 := by
 have e : wrap64 (1 + (l.length : Int)) = ((1 + l.length : Nat) : Int) := by unfold wrap64; omega
 rw [e]
 have h := b_shl (1 + l.length) (n : Int) (by omega) (by omega) (by omega)
 rw [Int.toNat_natCast, Nat.shiftLeft_eq] at h
 exact h
theorem enum_f {n : Nat} {l : List S67} (hv : validB n l = true) (hn : n ≤ 20) (hc : (1 + l.length) * 2 ^ n ≤ 16777216) : undo_enumerable.f n l = some 0 := by
 unfold undo_enumerable.f undo_Valid.f
 rw [hv]
 simp only [Option.bind_some, if_true]
 rw [if_neg (by omega), if_pos (by omega), (cost_mul hn (validB_all hv).1.2.2).1, if_neg (by omega)]
end Go.Proofs.YthfhnkpipdbekaaDoor.Pure
