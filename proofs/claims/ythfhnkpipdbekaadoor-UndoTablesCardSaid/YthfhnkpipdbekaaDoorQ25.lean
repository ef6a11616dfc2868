-- CUT by a program of this session: what the claim does not use is left out
import Derived.Test.YthfhnkpipdbekaaDoorQ24
import Derived.Test.YthfhnkpipdbekaaDoorQ6
namespace Go.Proofs.YthfhnkpipdbekaaDoor.Pure
set_option linter.unusedVariables false
set_option linter.unusedSimpArgs false
open Go.RowKit Go.Proofs.YthfhnkpipdbekaaDoorW.PrintWords Go.Proofs.YthfhnkpipdbekaaDoorW.PrintLast Go.Proofs.YthfhnkpipdbekaaDoorW.PrintMore
open Ua Ta Giv Tb
theorem costT_f {N : Int} {l : List S67} (hl : l.length ≤ 20000) (m : Nat) (hm : m ≤ 24) : commodatumref12_Cost.f N l (m : Int) = some (((2 ^ m * (1 + l.length) : Nat)) : Int) := by
 unfold commodatumref12_Cost.f
 have sh := (b_shl 1 (m : Int) (by omega) (by omega) (by decide)).1
 rw [Int.toNat_natCast, Nat.one_shiftLeft] at sh
 have hp : 2 ^ m ≤ 16777216 := Nat.le_trans (Nat.pow_le_pow_right (by decide) hm) (show 2 ^ 24 ≤ 16777216 by decide)
 have hb : 2 ^ m * (1 + l.length) ≤ 16777216 * 20001 := Nat.mul_le_mul hp (by omega)
 rw [if_neg (by omega), if_pos (by omega), show (1 : Int) = ((1 : Nat) : Int) from rfl, sh]
 rw [show wrap64 (((1 : Nat) : Int) + (l.length : Int)) = ((1 + l.length : Nat) : Int) by unfold wrap64; omega, ← Int.natCast_mul]
 generalize 2 ^ m * (1 + l.length) = z at *
 congr 1
 unfold wrap64; omega
structure CT (N0 : Int) (l : List S67) (n : Int) (a : List Bool) (due : Int) (T : List Bool) : Prop where
 ev : Ev (fun k => undo_Clean.f k N0 l n) (a, due)
 tab : due = 0 → a = T
 len : a.length ≤ 5000
structure DT (N0 : Int) (l : List S67) (n : Int) (b : List Bool) (late : Int) (T : List Bool) : Prop where
 ev : Ev (fun k => undo_Dirty.f k N0 l n) (b, late)
 tab : late = 0 → b = T
 len : b.length ≤ 5000
theorem ct_form {N0 : Int} {l : List S67} {n : Int} (T : List Bool) (h : ¬ validB N0 l = true) : CT N0 l n [] 1 T ∧ DT N0 l n [] 1 T := by
 refine ⟨⟨EvSome fun k => ?_, (fun e => by cases e), by simp⟩, ⟨EvSome fun k => ?_, (fun e => by cases e), by simp⟩⟩
 ·unfold undo_Clean.f; rw [if_neg h]
 ·unfold undo_Dirty.f undo_enumerable.f undo_Valid.f
  simp only [Option.bind_some]
  rw [if_neg h]
  simp only [Option.bind_some]
  rw [if_pos trivial]
theorem enum_ne {N0 : Int} {l : List S67} (h : validB N0 l = true) : ∃ e, undo_enumerable.f N0 l = some e ∧ (e = 0 ∨ e = 5) := by
 obtain ⟨⟨h1, h2, h3⟩, h4⟩ := validB_all h
 obtain ⟨N, rfl⟩ : ∃ N : Nat, N0 = (N : Int) := ⟨N0.toNat, by omega⟩
 exact ⟨_, enum_ev h h3, by split <;> simp⟩
theorem ct_arg {N0 : Int} {l : List S67} {n : Int} (T : List Bool) (h : validB N0 l = true) (hn : n < 0 ∨ N0 ≤ n) : CT N0 l n [] 2 T ∧ DT N0 l n [] 2 T := by
 refine ⟨⟨EvSome fun k => ?_, (fun e => by cases e), by simp⟩, ⟨?_, (fun e => by cases e), by simp⟩⟩
 ·unfold undo_Clean.f; rw [if_pos h, if_neg (by omega)]
 ·obtain ⟨e, he, he2⟩ := enum_ne h
  have j0 : Ev (fun k => undo_Dirty.j0 k n e true N0 l) ([], 2) := EvS fun k => by simp only [undo_Dirty.j0]; rw [if_pos trivial]
  refine EvC j0 fun k => ?_
  unfold undo_Dirty.f
  rw [he]
  simp only [Option.bind_some]
  rw [if_neg (by omega)]
  by_cases c : n < 0
  ·rw [if_pos c]
  ·rw [if_neg c, show decide (n ≥ N0) = true from decide_eq_true (by omega)]
theorem ct_size {N n : Nat} {l : List S67} (T : List Bool) (h : validB (N : Int) l = true) (hn : n < N) (hc : 12 < n ∨ 16777216 < 2 ^ (n + 1) * (1 + l.length)) : CT (N : Int) l (n : Int) [] 5 T := by
 refine ⟨EvSome fun k => ?_, (fun e => by cases e), by simp⟩
 unfold undo_Clean.f
 rw [if_pos h, if_pos ⟨by omega, by omega⟩, if_neg]
 rintro ⟨h1, h2⟩
 rcases hc with hc | hc
 ·omega
 ·have e2 : ((2 : Int) ^ ((n : Int) + 1).toNat) = ((2 ^ (n + 1) : Nat) : Int) := by
   rw [show ((n : Int) + 1).toNat = n + 1 by omega]; exact (Int.natCast_pow 2 (n + 1)).symm
  rw [e2, show 1 + (l.length : Int) = ((1 + l.length : Nat) : Int) by omega, ← Int.natCast_mul, Nat.mul_comm] at h2
  generalize 2 ^ (n + 1) * (1 + l.length) = z at *
  omega
theorem dt_size {N n : Nat} {l : List S67} (T : List Bool) (h : validB (N : Int) l = true) (hn : n < N) (hc : 12 < n ∨ ¬ (N ≤ 20 ∧ (1 + l.length) * 2 ^ N ≤ 16777216)) : DT (N : Int) l (n : Int) [] 5 T := by
 have hl := (validB_all h).1.2.2
 refine ⟨?_, (fun e => by cases e), by simp⟩
 obtain ⟨e, he, he2⟩ : ∃ e, undo_enumerable.f (N : Int) l = some e ∧ (e = 0 ∧ 12 < n ∨ e = 5) := by
  refine ⟨_, enum_ev h hl, ?_⟩
  rcases hc with hc | hc
  ·split
   ·exact .inl ⟨rfl, hc⟩
   ·exact .inr rfl
  ·rw [if_neg hc]; exact .inr rfl
 have j0 : Ev (fun k => undo_Dirty.j0 k (n : Int) e false (N : Int) l) ([], 5) := EvS fun k => by
  simp only [undo_Dirty.j0]
  rw [if_neg (by simp)]
  by_cases c : (n : Int) > 12
  ·rw [if_pos c]
  ·rw [if_neg c, if_neg (by omega)]
 refine EvC j0 fun k => ?_
 unfold undo_Dirty.f
 rw [he]
 simp only [Option.bind_some]
 rw [if_neg (by omega), if_neg (by omega), show decide ((n : Int) ≥ (N : Int)) = false from decide_eq_false (by omega)]
theorem tabQ_len (N n : Nat) (l : List S67) (hn : n ≤ 12) : (tabQ N n l).length ≤ 5000 := by
 unfold tabQ tabL
 rw [List.length_map, List.length_range]
 have : (2 : Nat) ^ n ≤ 2 ^ 12 := Nat.pow_le_pow_right (by decide) hn
 omega
theorem ct_tab {N n : Nat} {l : List S67} (h : TabAt N n l) (hv : validB (N : Int) l = true) (hc : 2 ^ (n + 1) * (1 + l.length) ≤ 16777216) :
  ∃ a ok, Ev (fun k => commodatumref12_Clean.f k (N : Int) l (n : Int)) (a, ok) ∧ CT (N : Int) l (n : Int) a (if ok = true then 0 else 6) (tabQ N n l) := by
 have h1 := refClean_ev h
 have h2 := clean_ev h hv (by rw [Nat.mul_comm]; exact hc)
 cases hk : okAll N n l (n + 1) with
 | true =>
  rw [hk, if_pos rfl] at h1 h2
  exact ⟨_, _, h1, h2, fun _ => rfl, tabQ_len N n l h.le⟩
 | false =>
  rw [hk, if_neg (by simp)] at h1 h2
  exact ⟨_, _, h1, h2, (fun e => by cases e), by simp⟩
theorem dt_tab {N n : Nat} {l : List S67} (h : TabAt N n l) (hv : validB (N : Int) l = true) (hN : N ≤ 20) (hc : (1 + l.length) * 2 ^ N ≤ 16777216) :
  ∃ b ok, Ev (fun k => commodatumref12_Dirty.f k (N : Int) l (n : Int)) (b, ok) ∧ DT (N : Int) l (n : Int) b (if ok = true then 0 else 6) (tabQ N n l) := by
 have h1 := refDirty_ev h hN
 have h2 := dirty_ev h hv hN hc
 cases hk : okAll N n l N with
 | true =>
  rw [hk, if_pos rfl] at h1 h2
  exact ⟨_, _, h1, h2, fun _ => rfl, tabQ_len N n l h.le⟩
 | false =>
  rw [hk, if_neg (by simp)] at h1 h2
  exact ⟨_, _, h1, h2, (fun e => by cases e), by simp⟩
theorem largeT_f {N : Nat} {l : List S67} (hl : l.length ≤ 20000) : commodatumref12_Large.f (N : Int) l = some (!decide (N ≤ 20 ∧ (1 + l.length) * 2 ^ N ≤ 16777216)) := by
 unfold commodatumref12_Large.f
 by_cases h : N ≤ 20
 ·rw [if_neg (by omega), costT_f hl N (by omega)]
  simp only [Option.bind_some]
  congr 1
  rw [Nat.mul_comm]
  generalize (1 + l.length) * 2 ^ N = z
  by_cases c : z ≤ 16777216
  ·rw [decide_eq_true (⟨h, c⟩ : N ≤ 20 ∧ z ≤ 16777216), decide_eq_false (show ¬ ((z : Int) > 16777216) by omega)]; rfl
  ·rw [decide_eq_false (fun hh => c hh.2 : ¬ (N ≤ 20 ∧ z ≤ 16777216)), decide_eq_true (show (z : Int) > 16777216 by omega)]; rfl
 ·rw [if_pos (by omega), decide_eq_false (fun hh => h hh.1)]; rfl
end Go.Proofs.YthfhnkpipdbekaaDoor.Pure
