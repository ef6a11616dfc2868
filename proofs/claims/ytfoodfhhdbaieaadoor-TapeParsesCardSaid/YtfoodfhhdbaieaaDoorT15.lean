-- CUT by a program of this session: what the claim does not use is left out
import Derived.Test.YtfoodfhhdbaieaaDoorT14
namespace Go.Proofs.YtfoodfhhdbaieaaDoor.Giv
set_option maxRecDepth 100000
set_option linter.unusedSimpArgs false
set_option linter.unusedVariables false
open Go.RowKit Go.Proofs.YtfoodfhhdbaieaaDoorW.PrintWords Go.Proofs.YtfoodfhhdbaieaaDoorW.PrintLast Go.Proofs.YtfoodfhhdbaieaaDoorW.PrintMore
open Go.Proofs.YtfoodfhhdbaieaaDoor.Ka (S40 rd_T40 rd_L1)

structure Sc where
 s : Int
 at_ : List Int
 tp : List (List Int)
def stepS (rs : List S40) (c : Sc) : Option Sc := (findR rs c.s (readL c.at_ c.tp)).map fun r => ⟨r.f2, (stepTo r c.at_ c.tp c.at_.length).1, (stepTo r c.at_ c.tp c.at_.length).2⟩
def runS (rs : List S40) : Nat → Sc → Sc × Nat
 | 0, c => (c, 0)
 | m + 1, c => match stepS rs c with
  | none => (c, 0)
  | some d => ((runS rs m d).1, (runS rs m d).2 + 1)
def farS {σ : Type} (f : σ → List Int → σ) (rs : List S40) : Nat → Sc → σ → σ
 | 0, _, st => st
 | m + 1, c, st => match stepS rs c with
  | none => st
  | some d => farS f rs m d (f st d.at_)
structure RuleOk (a0 a1 : Int) (n : Nat) (r : S40) : Prop where
 from_ : 0 ≤ r.f0 ∧ r.f0 ≤ 64
 ne1 : r.f0 ≠ 1
 ne2 : r.f0 ≠ 2
 to_ : 0 ≤ r.f2 ∧ r.f2 < a0
 l1 : r.f1.length = n
 l3 : r.f3.length = n
 l4 : r.f4.length = n
 read : ∀ i : Nat, 0 ≤ rd r.f1 i ∧ rd r.f1 i < a1
 write : ∀ i : Nat, 0 ≤ rd r.f3 i ∧ rd r.f3 i < a1
 moves : ∀ i : Nat, -1 ≤ rd r.f4 i ∧ rd r.f4 i ≤ 1
theorem rd_over {l : List Int} {i : Nat} (h : l.length ≤ i) : rd l i = 0 := by
 simp [rd, List.getD_eq_getElem?_getD, List.getElem?_eq_none h]
theorem ruleOk_of {a0 a1 a2 : Int} {r : S40} (h0 : 3 ≤ a0 ∧ a0 ≤ 64) (h1 : 2 ≤ a1 ∧ a1 ≤ 8) (h2 : 1 ≤ a2 ∧ a2 ≤ 3) (h : ruleB a0 a1 a2 r = true) : RuleOk a0 a1 a2.toNat r := by
 unfold ruleB at h
 rw [Bool.and_eq_true] at h
 obtain ⟨hc, hA⟩ := h
 obtain ⟨d1, d2, d3, d4, d5, d6, d7⟩ := seven hc
 have e5 := eq_of_beq d5
 have e6 := eq_of_beq d6
 have e7 := eq_of_beq d7
 have hcell : ∀ i : Nat, i < a2.toNat → cellB a1 r i = true := fun i hi => List.all_eq_true.1 hA i (List.mem_range.2 hi)
 have b1 := inR_bd d1
 have b4 := inR_bd d4
 refine ⟨by omega, by simpa using d2, by simpa using d3, by omega, by omega, by omega, by omega, fun i => ?_, fun i => ?_, fun i => ?_⟩
 all_goals
  by_cases hi : i < a2.toNat
  ·have := cellB_bd (hcell i hi); omega
  ·rw [rd_over (by omega)]; omega
theorem rulesB_ok {a0 a1 a2 : Int} (h0 : 3 ≤ a0 ∧ a0 ≤ 64) (h1 : 2 ≤ a1 ∧ a1 ≤ 8) (h2 : 1 ≤ a2 ∧ a2 ≤ 3) : ∀ (rs : List S40) (seen : List (List Int)), rulesB a0 a1 a2 seen rs = true → seen.Nodup → (∀ r ∈ rs, RuleOk a0 a1 a2.toNat r) ∧ (seen ++ keysL rs).Nodup
 | [], seen, _, hn => ⟨(fun r hr => by cases hr), by simpa [keysL] using hn⟩
 | r :: rs, seen, h, hn => by
  unfold rulesB at h
  rw [Bool.and_eq_true, Bool.and_eq_true] at h
  obtain ⟨⟨hr, hc⟩, ht⟩ := h
  have hc' : keyL r.f0 r.f1 ∉ seen := by
   intro hm
   rw [List.contains_iff_mem.2 hm] at hc
   cases hc
  have hn' : (seen ++ [keyL r.f0 r.f1]).Nodup := List.nodup_append.2 ⟨hn, by simp, by intro a ha b hb; rw [List.mem_singleton.1 hb]; rintro rfl; exact hc' ha⟩
  obtain ⟨i1, i2⟩ := rulesB_ok h0 h1 h2 rs _ ht hn'
  refine ⟨fun x hx => ?_, ?_⟩
  ·rcases List.mem_cons.1 hx with rfl | hx
   ·exact ruleOk_of h0 h1 h2 hr
   ·exact i1 x hx
  ·simpa [keysL] using i2
theorem valid_ok {a0 a1 a2 : Int} {rs : List S40} (h : validM a0 a1 a2 rs = true) : (∀ r ∈ rs, RuleOk a0 a1 a2.toNat r) ∧ (keysL rs).Nodup := by
 obtain ⟨h0, h1, h2⟩ := valid_a2 h
 unfold validM at h
 rw [Bool.and_eq_true] at h
 have := rulesB_ok h0 h1 h2 rs [] h.2 (by simp)
 simpa using this
structure Good (a0 a1 : Int) (n : Nat) (B : Nat) (M : Nat) (c : Sc) : Prop where
 st : 0 ≤ c.s ∧ c.s < a0
 la : c.at_.length = n
 lt : c.tp.length = n
 pos : ∀ i : Nat, 0 ≤ rd c.at_ i ∧ rd c.at_ i ≤ B
 len : ∀ i : Nat, (rd_L1 c.tp i).length ≤ M
 sym : ∀ i j : Nat, 0 ≤ rd (rd_L1 c.tp i) j ∧ rd (rd_L1 c.tp i) j < a1
theorem rd_set {l : List Int} {n j : Nat} {x : Int} : rd (l.set n x) j = if n = j ∧ n < l.length then x else rd l j := by
 by_cases h : n = j
 ·subst h
  by_cases hl : n < l.length
  ·rw [if_pos ⟨rfl, hl⟩]; simp [rd, List.getD_eq_getElem?_getD, hl]
  ·rw [if_neg (by omega), List.set_eq_of_length_le (by omega)]
 ·rw [if_neg (by omega), rd_set_ne h]
theorem rdL_set {l : List (List Int)} {n j : Nat} {x : List Int} : rd_L1 (l.set n x) j = if n = j ∧ n < l.length then x else rd_L1 l j := by
 by_cases h : n = j
 ·subst h
  by_cases hl : n < l.length
  ·rw [if_pos ⟨rfl, hl⟩]; simp [rd_L1, List.getD_eq_getElem?_getD, hl]
  ·rw [if_neg (by omega), List.set_eq_of_length_le (by omega)]
 ·rw [if_neg (by omega), rdL_set_ne h]
theorem rd_pad (l : List Int) (k j : Nat) : rd (l ++ List.replicate k 0) j = rd l j := by
 by_cases h : j < l.length
 ·simp [rd, List.getD_eq_getElem?_getD, List.getElem?_append_left h]
 ·rw [rd_over (l := l) (by omega)]
  simp only [rd, List.getD_eq_getElem?_getD, Int.toNat_natCast]
  rw [List.getElem?_append_right (by omega), List.getElem?_replicate]
  split <;> rfl
theorem rd_setPad (l : List Int) {p x : Int} (j : Nat) : rd (setPad l p x) j = if p.toNat = j then x else rd l j := by
 unfold setPad
 rw [rd_set, rd_pad]
 by_cases h : p.toNat = j
 ·rw [if_pos ⟨h, by simp; omega⟩, if_pos h]
 ·rw [if_neg (by omega), if_neg h]
theorem len_setPad (l : List Int) (p x : Int) : (setPad l p x).length = max l.length (p.toNat + 1) := by
 unfold setPad; simp; omega
theorem stepP_bd {p m : Int} {B : Nat} (h : 0 ≤ p ∧ p ≤ B) (hm : -1 ≤ m ∧ m ≤ 1) : 0 ≤ stepP p m ∧ stepP p m ≤ (B + 1 : Nat) := by
 unfold stepP; split <;> omega
theorem good_stepTo {a0 a1 : Int} {n B M : Nat} {c : Sc} (h : Good a0 a1 n B M c) {r : S40} (hr : RuleOk a0 a1 n r) : ∀ k : Nat,
  (∀ i : Nat, 0 ≤ rd (stepTo r c.at_ c.tp k).1 i ∧ rd (stepTo r c.at_ c.tp k).1 i ≤ (B + 1 : Nat)) ∧ (∀ i : Nat, (rd_L1 (stepTo r c.at_ c.tp k).2 i).length ≤ max M (B + 1)) ∧ (∀ i j : Nat, 0 ≤ rd (rd_L1 (stepTo r c.at_ c.tp k).2 i) j ∧ rd (rd_L1 (stepTo r c.at_ c.tp k).2 i) j < a1)
 | 0 => ⟨fun i => by have := h.pos i; simp only [stepTo]; omega, fun i => by have := h.len i; simp only [stepTo]; omega, fun i j => h.sym i j⟩
 | k + 1 => by
  obtain ⟨h1, h2, h3⟩ := good_stepTo h hr k
  obtain ⟨k1, k2, k3⟩ := stepTo_keeps r c.at_ c.tp k
  obtain ⟨k4, k5⟩ := k3 k (Nat.le_refl _)
  have hp := h.pos k
  refine ⟨fun i => ?_, fun i => ?_, fun i j => ?_⟩
  ·simp only [stepTo]
   rw [rd_set]
   split
   ·rw [k4]; exact stepP_bd hp (hr.moves k)
   ·exact h1 i
  ·simp only [stepTo]
   rw [rdL_set]
   split
   ·rw [len_setPad, k4]
    have := h2 k
    omega
   ·exact h2 i
  ·simp only [stepTo]
   rw [rdL_set]
   split
   ·rw [rd_setPad]
    split
    ·exact hr.write k
    ·exact h3 k j
   ·exact h3 i j
theorem good_step {a0 a1 : Int} {n B M : Nat} {c d : Sc} {rs : List S40} (h : Good a0 a1 n B M c) (hrs : ∀ r ∈ rs, RuleOk a0 a1 n r) (hd : stepS rs c = some d) : Good a0 a1 n (B + 1) (max M (B + 1)) d := by
 obtain ⟨r, hf, rfl⟩ := Option.map_eq_some_iff.1 hd
 have hr := hrs r (List.mem_of_find?_eq_some hf)
 obtain ⟨h1, h2, h3⟩ := good_stepTo h hr c.at_.length
 obtain ⟨k1, k2, _⟩ := stepTo_keeps r c.at_ c.tp c.at_.length
 exact ⟨hr.to_, k1.trans h.la, k2.trans h.lt, h1, h2, h3⟩
theorem good_small {a0 a1 : Int} {n B M : Nat} {c : Sc} (h : Good a0 a1 n B M c) (h0 : a0 ≤ 64) (h1 : 1 ≤ a1 ∧ a1 ≤ 8) : Small (keyL c.s (readL c.at_ c.tp)) := by
 have hu : ∀ j : Nat, 0 ≤ rd (readL c.at_ c.tp) j ∧ rd (readL c.at_ c.tp) j ≤ 8 := fun j => by
  by_cases hj : j < c.at_.length
  ·have e : rd (readL c.at_ c.tp) j = under (rd_L1 c.tp j) (rd c.at_ j) := by
    simp [rd, readL, List.getD_eq_getElem?_getD, hj]
   rw [e]
   unfold under
   split
   ·have hp := h.pos j
    have := h.sym j (rd c.at_ j).toNat
    rw [show (((rd c.at_ j).toNat : Nat) : Int) = rd c.at_ j by omega] at this
    omega
   ·omega
  ·rw [rd_over (by rw [readL_length]; omega)]; omega
 intro x hx
 simp only [keyL, List.mem_cons, List.not_mem_nil, or_false] at hx
 have s := h.st
 have u0 := hu 0
 have u1 := hu 1
 have u2 := hu 2
 rcases hx with rfl | rfl | rfl | rfl
 ·omega
 ·simp at u0; omega
 ·simp at u1; omega
 ·simp at u2; omega
end Go.Proofs.YtfoodfhhdbaieaaDoor.Giv
