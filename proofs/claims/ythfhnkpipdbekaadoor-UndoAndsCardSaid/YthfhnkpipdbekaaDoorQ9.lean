-- CUT by a program of this session: what the claim does not use is left out
import Derived.Test.YthfhnkpipdbekaaDoorQ8
import Derived.Test.YthfhnkpipdbekaaDoorUax0
import Derived.Test.YthfhnkpipdbekaaDoorProg
import Derived.Below
import Derived.Deep.Draws
import Derived.Deep.AppendLies
import Derived.Maps.AppendAt
import Derived.OwnWalk
import Derived.Laws.BytesArg
import Derived.Laws.MakeOwn
import Derived.Laws.OwnMore
import Derived.Deep.OwnRows
import Derived.Tactics
import Derived.Lib.ConvBytes
import Derived.Laws.Slices
import Derived.WalkKit
import Derived.KernelRfl
import Derived.RowKit3
import Derived.Deep.LoopGhost
import Derived.Deep.QuietTactic
import Derived.BigQuiet
import Derived.WideLaws
import Derived.Deep.DeepCutAuto
import Derived.Deep.CutBlock
import Derived.Deep.RegionHeld3
import Derived.Laws.Rows
import Derived.Lib.AppendStr
import Derived.ArgAppend
import Derived.Laws.IdiomCopy
import Derived.OrdersHeld
import Derived.Laws.BitsLemmas
import Derived.RowKit
import Derived.Test.YthfhnkpipdbekaaDoorN6
import Derived.Test.YthfhnkpipdbekaaDoorWAll
import Derived.Test.YthfhnkpipdbekaaDoorTax5
import Derived.Test.YthfhnkpipdbekaaDoorTax6
namespace Go.Proofs.YthfhnkpipdbekaaDoor.Pure
set_option linter.unusedVariables false
set_option linter.unusedSimpArgs false
open Go.RowKit Go.Proofs.YthfhnkpipdbekaaDoorW.PrintWords Go.Proofs.YthfhnkpipdbekaaDoorW.PrintLast Go.Proofs.YthfhnkpipdbekaaDoorW.PrintMore
open Ua Ta Giv Tb
theorem wrap62 (n : Int) (h0 : 0 ≤ n) (h1 : n < 2 ^ 62) : IntKind.i64.wrap n = n := by rw [IntKind.wrap_i64]; omega
theorem b_and (a b : Nat) (ha : a < 2 ^ 62) (hb : b < 2 ^ 62) : Go.bits .and .i64 (a : Int) (b : Int) = ((a &&& b : Nat) : Int) := (bits_nat .i64 62 (by decide) wrap62 a b ha hb).1
theorem b_shl (a : Nat) (s : Int) (h0 : 0 ≤ s) (h1 : s ≤ 40) (ha : a < 2 ^ 20) : shl .i64 (a : Int) s = ((a <<< s.toNat : Nat) : Int) ∧ a <<< s.toNat < 2 ^ 62 := by
 have hlt : a <<< s.toNat < 2 ^ 62 := by
  rw [Nat.shiftLeft_eq]
  calc a * 2 ^ s.toNat < 2 ^ 20 * 2 ^ s.toNat := (Nat.mul_lt_mul_right (Nat.two_pow_pos _)).2 ha
   _ ≤ 2 ^ 20 * 2 ^ 40 := Nat.mul_le_mul_left _ (Nat.pow_le_pow_right (by decide) (by omega))
   _ < 2 ^ 62 := by decide
 refine ⟨?_, hlt⟩
 unfold shl
 rw [show min s.toNat IntKind.i64.bits = s.toNat by have : IntKind.i64.bits = 64 := rfl; omega]
 have e : (a : Int) * 2 ^ s.toNat = ((a <<< s.toNat : Nat) : Int) := by rw [Nat.shiftLeft_eq]; push_cast; rfl
 rw [e]
 exact wrap62 _ (Int.natCast_nonneg _) (by exact_mod_cast hlt)
theorem b_shr (a : Nat) (s : Int) (h0 : 0 ≤ s) (h1 : s ≤ 40) : shr .i64 (a : Int) s = ((a >>> s.toNat : Nat) : Int) := by
 unfold shr
 rw [show min s.toNat IntKind.i64.bits = s.toNat by have : IntKind.i64.bits = 64 := rfl; omega, Nat.shiftRight_eq_div_pow]
 push_cast; rfl
theorem lt62 {a n : Nat} (h : a < 2 ^ n) (hn : n ≤ 20) : a < 2 ^ 62 := Nat.lt_of_lt_of_le h (Nat.pow_le_pow_right (by decide) (by omega))
theorem shr_lt {i n : Nat} (h : i < 2 ^ n) (s : Nat) : i >>> s < 2 ^ n := Nat.lt_of_le_of_lt (by rw [Nat.shiftRight_eq_div_pow]; exact Nat.div_le_self _ _) h
theorem fill_end {α : Type} (g : Nat → α) (z : α) (N : Nat) : ((List.range N).map g ++ List.replicate (N - N) z) = (List.range N).map g := by simp
theorem fill_set {α : Type} (g : Nat → α) (z : α) (N i : Nat) (hi : i < N) : (((List.range i).map g ++ List.replicate (N - i) z).set i (g i)) = (List.range (i + 1)).map g ++ List.replicate (N - (i + 1)) z := by
 rw [List.set_append_right _ _ (by simp), List.length_map, List.length_range, Nat.sub_self, show N - i = (N - (i + 1)) + 1 by omega, List.replicate_succ, List.set_cons_zero, List.range_succ, List.map_append, List.append_assoc]
 rfl
theorem pow_int (n : Nat) (hn : n ≤ 20) : shl .i64 1 (n : Int) = ((2 ^ n : Nat) : Int) := by
 have h := (b_shl 1 (n : Int) (by omega) (by omega) (by decide)).1
 rw [Int.toNat_natCast, Nat.one_shiftLeft] at h
 exact h
theorem pow_le (n : Nat) (hn : n ≤ 20) : 2 ^ n ≤ 1048576 := Nat.pow_le_pow_right (by decide) hn
end Go.Proofs.YthfhnkpipdbekaaDoor.Pure
