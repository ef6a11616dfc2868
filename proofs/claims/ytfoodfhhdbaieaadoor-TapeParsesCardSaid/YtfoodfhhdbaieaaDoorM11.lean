-- CUT by a program of this session: what the claim does not use is left out
import Derived.Test.YtfoodfhhdbaieaaDoorM10
import Derived.Test.YtfoodfhhdbaieaaDoorT8
namespace Go.Proofs.YtfoodfhhdbaieaaDoor.Giv
set_option maxRecDepth 100000
set_option linter.unusedVariables false
set_option linter.unusedSimpArgs false
open Go.RowKit Go.Shelf Go.Proofs.YtfoodfhhdbaieaaDoorW.PrintWords Go.Proofs.YtfoodfhhdbaieaaDoorW.PrintLast Go.Proofs.YtfoodfhhdbaieaaDoorW.PrintMore
open Go.Proofs.YtfoodfhhdbaieaaDoor.Ka (S40 k40 z40 rd_T40 at_T40 k40_open k40_mk rd_L1 at_L1 info3 info38 info40)
theorem mem_rd {l : List Int} {y : Int} (h : y ∈ l) : ∃ i : Nat, i < l.length ∧ y = rd l i := by
 obtain ⟨i, hi, rfl⟩ := List.getElem_of_mem h
 exact ⟨i, hi, by simp [rd, hi]⟩
theorem inR_bd' {n lo hi : Int} (h : inR n lo hi = true) : lo ≤ n ∧ n ≤ hi := by
 unfold inR at h; simpa using h
theorem ruleB_neat {a0 a1 a2 : Int} {r : S40} (h0 : 3 ≤ a0 ∧ a0 ≤ 64) (h1 : 2 ≤ a1 ∧ a1 ≤ 8) (h2 : 1 ≤ a2 ∧ a2 ≤ 3) (h : ruleB a0 a1 a2 r = true) : Neat r := by
 unfold ruleB at h
 simp only [Bool.and_eq_true, beq_iff_eq, List.all_eq_true, List.mem_range] at h
 obtain ⟨⟨⟨⟨⟨⟨⟨q1, _⟩, _⟩, q2⟩, q3⟩, q4⟩, q5⟩, q6⟩ := h
 have q1 := inR_bd' q1
 have q2 := inR_bd' q2
 have cell : ∀ i : Nat, i < a2.toNat → (0 ≤ rd r.f1 i ∧ rd r.f1 i ≤ a1 - 1) ∧ (0 ≤ rd r.f3 i ∧ rd r.f3 i ≤ a1 - 1) ∧ (-1 ≤ rd r.f4 i ∧ rd r.f4 i ≤ 1) := fun i hi => by
  have := q6 i hi
  unfold cellB at this
  simp only [Bool.and_eq_true] at this
  exact ⟨inR_bd' this.1.1, inR_bd' this.1.2, inR_bd' this.2⟩
 refine ⟨?_, ?_, ?_, ?_, ?_⟩
 ·intro y hy
  unfold ruleN at hy
  simp only [List.flatten_cons, List.flatten_nil, List.append_nil, List.mem_append, List.mem_singleton] at hy
  rcases hy with rfl | hy | rfl | hy | hy
  ·omega
  ·obtain ⟨i, hi, rfl⟩ := mem_rd hy; have := (cell i (by omega)).1; omega
  ·omega
  ·obtain ⟨i, hi, rfl⟩ := mem_rd hy; have := (cell i (by omega)).2.1; omega
  ·obtain ⟨i, hi, rfl⟩ := mem_rd hy; have := (cell i (by omega)).2.2; omega
 ·unfold ruleN; simp only [List.flatten_cons, List.flatten_nil, List.append_nil, List.length_append, List.length_singleton]; omega
 ·intro e; rw [e] at q3; simp at q3; omega
 ·intro e; rw [e] at q4; simp at q4; omega
 ·intro e; rw [e] at q5; simp at q5; omega
theorem rulesB_all {a0 a1 a2 : Int} : ∀ (l : List S40) (seen : List (List Int)), rulesB a0 a1 a2 seen l = true → ∀ r ∈ l, ruleB a0 a1 a2 r = true
 | [], _, _, r, hr => by cases hr
 | x :: l, seen, h, r, hr => by
  simp only [rulesB, Bool.and_eq_true] at h
  rcases List.mem_cons.1 hr with rfl | hr
  ·exact h.1.1
  ·exact rulesB_all l _ h.2 r hr
theorem valid_neat {a0 a1 a2 : Int} {l : List S40} (h : validM a0 a1 a2 l = true) : ((3 ≤ a0 ∧ a0 ≤ 64) ∧ (2 ≤ a1 ∧ a1 ≤ 8) ∧ (1 ≤ a2 ∧ a2 ≤ 3)) ∧ numLen [a0, a1, a2] ∧ ∀ r ∈ l, Neat r := by
 unfold validM at h
 rw [Bool.and_eq_true] at h
 have hb := headB_bd h.1
 refine ⟨hb, fun y hy => ?_, fun r hr => ruleB_neat hb.1 hb.2.1 hb.2.2 (rulesB_all _ _ h.2 r hr)⟩
 simp only [List.mem_cons, List.not_mem_nil, or_false] at hy
 rcases hy with rfl | rfl | rfl <;> omega
end Go.Proofs.YtfoodfhhdbaieaaDoor.Giv
