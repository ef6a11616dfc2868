-- CUT by a program of this session: what the claim does not use is left out
import Derived.Test.YthfhnkpipdbekaaDoorN11
namespace Go.Proofs.YthfhnkpipdbekaaDoor.Giv
set_option linter.unusedVariables false
set_option linter.unusedSimpArgs false
open Go.RowKit Go.Shelf Go.Proofs.YthfhnkpipdbekaaDoorW.PrintWords Go.Proofs.YthfhnkpipdbekaaDoorW.PrintLast Go.Proofs.YthfhnkpipdbekaaDoorW.PrintMore
open Go.Proofs.YthfhnkpipdbekaaDoor.Ua (S67)
def bytesOf (l : List UInt8) : ByteArray := ⟨l.toArray⟩
theorem bytes_back {xs : List ByteArray} {ys : List (List UInt8)} (h : xs.map (fun s => s.data.toList) = ys) : xs = ys.map bytesOf := by
 subst h
 rw [List.map_map]
 refine (List.map_id xs).symm.trans (List.map_congr_left fun s _ => ?_)
 simp [bytesOf]
theorem cutB_eq (s sep : ByteArray) : cutB s sep = (Lib.split s.data.toList sep.data.toList).map bytesOf :=
 bytes_back (Lib.splitB_data sep 0 _ s)
theorem itoa_digits {y : Int} (h : 0 ≤ y) : ∀ b ∈ Lib.itoa y, 48 ≤ b.toNat ∧ b.toNat ≤ 57 := by
 rw [itoa_nn h]; exact dec_digits
theorem digits_no {l : List UInt8} (h : ∀ b ∈ l, 48 ≤ b.toNat ∧ b.toNat ≤ 57) (c : UInt8) (hc : c.toNat < 48 ∨ 57 < c.toNat) : ∀ b ∈ l, b ≠ c := fun b hb e => by
 have := h b hb; subst e; omega
theorem numS_itoa {y : Int} (h0 : 0 ≤ y) (h1 : y < 10000) : numS (bytesOf (Lib.itoa y)) = some y := by
 show numB (Lib.itoa y) = some y
 unfold numB
 have hl : (Lib.decDigits y.toNat).length ≤ 18 := by have := itoa_len h0 h1; rw [itoa_nn h0] at this; omega
 have e : Lib.atoiAll (Lib.itoa y) = .ok y := by rw [itoa_nn h0, atoi_dec hl, Int.toNat_of_nonneg h0]
 rw [e]
 exact if_pos ⟨h0, rfl⟩
def numsOf (o : S67) : List Int := if o.f0 = 0 then [o.f1] else if o.f0 = 2 then [o.f1, o.f2, o.f3] else [o.f1, o.f2]
def bodyB (o : S67) : List UInt8 := wordB o.f0 ++ ((numsOf o).map fun y => [32] ++ Lib.itoa y).flatten
theorem opB_body (o : S67) : opB o = [59, 32] ++ bodyB o := by
 unfold opB opA opX opY bodyB numsOf
 by_cases h0 : o.f0 = 0
 ·simp [h0]
 ·by_cases h2 : o.f0 = 2
  ·simp [h2]
  ·simp [h0, h2]
theorem nums_small {n : Int} {o : S67} (hn : n ≤ 1024) (h : rightB n o = true) : ∀ y ∈ numsOf o, 0 ≤ y ∧ y < 10000 := by
 obtain ⟨⟨a0, a1⟩, hb, hc, hk⟩ := rightB_in h
 intro y hy
 unfold numsOf at hy
 split at hy
 ·simp at hy; subst hy; omega
 ·rename_i h0
  have := hb h0
  split at hy
  ·rename_i h2
   have := hc h2
   simp at hy; rcases hy with rfl | rfl | rfl <;> omega
  ·simp at hy; rcases hy with rfl | rfl <;> omega
theorem word_no {k : Int} (h : k = 0 ∨ k = 1 ∨ k = 2 ∨ k = 3) : (∀ b ∈ wordB k, b ≠ 32) ∧ (∀ b ∈ wordB k, b ≠ 59) := by
 rcases h with rfl | rfl | rfl | rfl <;> decide
theorem mapM_all {α β : Type} {f : α → Option β} {g : β → α} : ∀ (l : List β), (∀ x ∈ l, f (g x) = some x) → (l.map g).mapM f = some l
 | [], _ => rfl
 | x :: l, h => by
  rw [List.map_cons, List.mapM_cons, h x List.mem_cons_self, mapM_all l (fun y hy => h y (List.mem_cons_of_mem _ hy))]; rfl
theorem idx_word {k : Int} (h : k = 0 ∨ k = 1 ∨ k = 2 ∨ k = 3) : idxB (bytesOf (wordB k)) = k := by
 have e : bytesOf (wordB k) = wordS k := rfl
 rw [e]
 unfold idxB
 have ne : ∀ a b : Int, wordB a ≠ wordB b → ¬ (wordS a).toList = (wordS b).toList := fun a b hn e => hn (by
  have := (toList_iff _ _).1 e
  simpa [wordS] using this)
 rcases h with rfl | rfl | rfl | rfl
 ·rw [if_pos rfl]
 ·rw [if_neg (ne 1 0 (by decide)), if_pos rfl]
 ·rw [if_neg (ne 2 0 (by decide)), if_neg (ne 2 1 (by decide)), if_pos rfl]
 ·rw [if_neg (ne 3 0 (by decide)), if_neg (ne 3 1 (by decide)), if_neg (ne 3 2 (by decide)), if_pos rfl]
theorem opR_body {n : Int} {o : S67} (hn : n ≤ 1024) (h : rightB n o = true) : opR (bytesOf (bodyB o)) = some o := by
 have hs := nums_small hn h
 have hr := rightB_in h
 have hcut : cutB (bytesOf (bodyB o)) blank = bytesOf (wordB o.f0) :: ((numsOf o).map fun y => bytesOf (Lib.itoa y)) := by
  rw [cutB_eq]
  have e : (bytesOf (bodyB o)).data.toList = wordB o.f0 ++ (((numsOf o).map Lib.itoa).map fun x => (32 :: []) ++ x).flatten := by
   simp only [bytesOf, bodyB, List.map_map]
   rfl
  rw [e, show blank.data.toList = 32 :: [] from rfl, split_join, List.map_cons, List.map_map]
  ·rfl
  ·intro x hx b hb
   rcases List.mem_cons.1 hx with rfl | hx
   ·exact (word_no hr.2.2.2).1 b hb
   ·obtain ⟨y, hy, rfl⟩ := List.mem_map.1 hx
    exact digits_no (itoa_digits (hs y hy).1) 32 (by decide) b hb
 unfold opR
 rw [hcut, List.tail_cons, List.headD_cons, mapM_all (numsOf o) (fun y hy => numS_itoa (hs y hy).1 (hs y hy).2), idx_word hr.2.2.2, if_neg]
 ·obtain ⟨k, a, b, c⟩ := o
  have hz : (k = 0 → b = 0) ∧ (k ≠ 2 → c = 0) := by
   unfold rightB at h
   dsimp only at h
   repeat' split at h
   all_goals (simp at h; try (constructor <;> (intro hk; first | omega | (exfalso; omega))))
  simp only [Option.map_some, numsOf]
  by_cases h0 : k = 0
  ·rw [if_pos h0]; simp [hz.1 h0, hz.2 (by omega)]
  ·rw [if_neg h0]
   by_cases h2 : k = 2
   ·rw [if_pos h2]; simp
   ·rw [if_neg h2]; simp [hz.2 h2]
 ·rw [List.length_map]; unfold numsOf; split
  ·simp
  ·split <;> simp
theorem parse_write {n : Int} {l : List S67} (hv : validB n l = true) (hsz : (writeB n l).length ≤ 40000) : parseF (bytesOf (writeB n l)) = some (n, l) := by
 obtain ⟨⟨h1, h2, h3⟩, hr⟩ := validB_all hv
 have hcut : cutB (bytesOf (writeB n l)) semi = bytesOf (Lib.itoa n) :: (l.map fun o => bytesOf (bodyB o)) := by
  rw [cutB_eq]
  have e : (bytesOf (writeB n l)).data.toList = Lib.itoa n ++ ((l.map bodyB).map fun x => (59 :: [32]) ++ x).flatten := by
   simp [bytesOf, writeB, List.map_map]
   congr 1
   apply List.map_congr_left
   intro o _
   exact opB_body o
  rw [e, show semi.data.toList = 59 :: [32] from rfl, split_join, List.map_cons, List.map_map]
  ·rfl
  ·intro x hx b hb
   rcases List.mem_cons.1 hx with rfl | hx
   ·exact digits_no (itoa_digits (by omega)) 59 (by decide) b hb
   ·obtain ⟨o, ho, rfl⟩ := List.mem_map.1 hx
    have hb' : b ∈ wordB o.f0 ∨ ∃ y ∈ numsOf o, b = 32 ∨ b ∈ Lib.itoa y := by
     unfold bodyB at hb
     simp only [List.mem_append, List.mem_flatten, List.mem_map] at hb
     rcases hb with hb | ⟨z, ⟨y, hy, rfl⟩, hb⟩
     ·exact .inl hb
     ·refine .inr ⟨y, hy, ?_⟩
      simpa using hb
    rcases hb' with hb | ⟨y, hy, rfl | hb⟩
    ·exact (word_no (rightB_in (hr o ho)).2.2.2).2 b hb
    ·decide
    ·exact digits_no (itoa_digits (nums_small h2 (hr o ho) y hy).1) 59 (by decide) b hb
 unfold parseF
 have hs : (bytesOf (writeB n l)).size = (writeB n l).length := size_toArray _
 rw [if_neg (by rw [hs]; omega), hcut, List.headD_cons, List.tail_cons, numS_itoa (by omega) (by omega), mapM_all l (fun o ho => opR_body h2 (hr o ho))]
 simp only [Option.bind_some]
 exact if_pos ⟨hv, by simp [bytesOf]⟩
end Go.Proofs.YthfhnkpipdbekaaDoor.Giv
