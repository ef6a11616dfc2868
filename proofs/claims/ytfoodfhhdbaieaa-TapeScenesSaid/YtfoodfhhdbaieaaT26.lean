-- CUT by a program of this session: what the claim does not use is left out
import Derived.Test.YtfoodfhhdbaieaaT24
namespace Go.Proofs.Ytfoodfhhdbaieaa.Giv
set_option linter.unusedSimpArgs false
set_option linter.unusedVariables false
set_option linter.unusedSectionVars false
open Go.RowKit Go.Shelf Go.Proofs.YtfoodfhhdbaieaaW.PrintWords Go.Proofs.YtfoodfhhdbaieaaW.PrintLast Go.Proofs.YtfoodfhhdbaieaaW.PrintMore
open Go.Proofs.Ytfoodfhhdbaieaa.Ka (S54 k54 z54 rd_T54 at_T54 k54_open k54_mk rd_L1 at_L1 info3 info25 info54)

def goodL (p b c d : Bool) : Bool := (!c || (p && b)) && (!d || c)
def cntL (p b c d e : Bool) : Nat := p.toNat + b.toNat + c.toNat + d.toNat + e.toNat
def LawStep (bits : Bool → Bool → Bool → Bool → Bool → Array Bool) (i8 i13 : Nat) (p b c d e : Bool) (i : Nat) : Prop :=
  (i = 2 ∧ p = false ∧ goodL true b c d = true ∧ cntL true b c d e = cntL p b c d e + 1 ∧ (bits p b c d e).setIfInBounds i true = bits true b c d e) ∨
  (i = 3 ∧ b = false ∧ goodL p true c d = true ∧ cntL p true c d e = cntL p b c d e + 1 ∧ (bits p b c d e).setIfInBounds i true = bits p true c d e) ∨
  (i = 6 ∧ p = true ∧ b = true ∧ c = false ∧ goodL p b true d = true ∧ cntL p b true d e = cntL p b c d e + 1 ∧ (bits p b c d e).setIfInBounds i true = bits p b true d e) ∨
  (i = i8 ∧ p = true ∧ b = true ∧ c = true ∧ d = false ∧ goodL p b c true = true ∧ cntL p b c true e = cntL p b c d e + 1 ∧ (bits p b c d e).setIfInBounds i true = bits p b c true e) ∨
  (i = i13 ∧ e = false ∧ goodL p b c d = true ∧ cntL p b c d true = cntL p b c d e + 1 ∧ (bits p b c d e).setIfInBounds i true = bits p b c d true)
instance (bits : Bool → Bool → Bool → Bool → Bool → Array Bool) (i8 i13 : Nat) (p b c d e : Bool) (i : Nat) : Decidable (LawStep bits i8 i13 p b c d e i) := by unfold LawStep; infer_instance
def put5 (s2 s3 s6 s8 s13 : Tmp) (a : Act) (x2 x3 x6 x8 x13 : Value) : Act := ((((a.put (some s2) x2).put (some s3) x3).put (some s6) x6).put (some s8) x8).put (some s13) x13
structure Slots (s2 s3 s6 s8 s13 n : Nat) : Prop where
  n23 : s2 ≠ s3
  n26 : s2 ≠ s6
  n28 : s2 ≠ s8
  n2e : s2 ≠ s13
  n36 : s3 ≠ s6
  n38 : s3 ≠ s8
  n3e : s3 ≠ s13
  n68 : s6 ≠ s8
  n6e : s6 ≠ s13
  n8e : s8 ≠ s13
  l2 : s2 < n
  l3 : s3 < n
  l6 : s6 < n
section
variable {s2 s3 s6 s8 s13 n : Nat} (h : Slots s2 s3 s6 s8 s13 n) (a : Act) (x2 x3 x6 x8 x13 x : Value)
include h
theorem put5_2 : (put5 s2 s3 s6 s8 s13 a x2 x3 x6 x8 x13).put (some s2) x = put5 s2 s3 s6 s8 s13 a x x3 x6 x8 x13 := by
  simp only [put5]
  rw [put_comm _ (Ne.symm h.n2e), put_comm _ (Ne.symm h.n28), put_comm _ (Ne.symm h.n26), put_comm _ (Ne.symm h.n23), put_same]
theorem put5_3 : (put5 s2 s3 s6 s8 s13 a x2 x3 x6 x8 x13).put (some s3) x = put5 s2 s3 s6 s8 s13 a x2 x x6 x8 x13 := by
  simp only [put5]
  rw [put_comm _ (Ne.symm h.n3e), put_comm _ (Ne.symm h.n38), put_comm _ (Ne.symm h.n36), put_same]
theorem put5_8 : (put5 s2 s3 s6 s8 s13 a x2 x3 x6 x8 x13).put (some s8) x = put5 s2 s3 s6 s8 s13 a x2 x3 x6 x x13 := by
  simp only [put5]
  rw [put_comm _ (Ne.symm h.n8e), put_same]
theorem put5_13 : (put5 s2 s3 s6 s8 s13 a x2 x3 x6 x8 x13).put (some s13) x = put5 s2 s3 s6 s8 s13 a x2 x3 x6 x8 x := by
  simp only [put5]
  rw [put_same]
theorem eval5 (hn : a.tmps.size = n) (t : Nat) (ht : t < n) : (put5 s2 s3 s6 s8 s13 a x2 x3 x6 x8 x13).eval (.tmp t) = if s13 = t then x13 else if s8 = t then x8 else if s6 = t then x6 else if s3 = t then x3 else if s2 = t then x2 else a.eval (.tmp t) := by
  simp only [put5]
  rw [eval_put, eval_put, eval_put, eval_put, eval_put]
  all_goals first | (simp only [size_put]; rw [hn]; exact ht) | (rw [hn]; exact ht)
theorem eval5_2 (hn : a.tmps.size = n) : (put5 s2 s3 s6 s8 s13 a x2 x3 x6 x8 x13).eval (.tmp s2) = x2 := by
  rw [eval5 h a x2 x3 x6 x8 x13 hn s2 h.l2, if_neg (Ne.symm h.n2e), if_neg (Ne.symm h.n28), if_neg (Ne.symm h.n26), if_neg (Ne.symm h.n23), if_pos rfl]
theorem eval5_3 (hn : a.tmps.size = n) : (put5 s2 s3 s6 s8 s13 a x2 x3 x6 x8 x13).eval (.tmp s3) = x3 := by
  rw [eval5 h a x2 x3 x6 x8 x13 hn s3 h.l3, if_neg (Ne.symm h.n3e), if_neg (Ne.symm h.n38), if_neg (Ne.symm h.n36), if_pos rfl]
theorem eval5_o (hn : a.tmps.size = n) (t : Nat) (ht : t < n) (h2 : s2 ≠ t) (h3 : s3 ≠ t) (h6 : s6 ≠ t) (h8 : s8 ≠ t) (h13 : s13 ≠ t) : (put5 s2 s3 s6 s8 s13 a x2 x3 x6 x8 x13).eval (.tmp t) = a.eval (.tmp t) := by
  rw [eval5 h a x2 x3 x6 x8 x13 hn t ht, if_neg h13, if_neg h8, if_neg h6, if_neg h3, if_neg h2]
end
section
variable {md : Region.Mode} {ops : Array Oper} {Q : Exit → Act → World → Prop} {S : World → Prop} {ds : List Nat}
theorem inv2_ (I : Nat → Array Bool → Act → World → Prop) {P : Program} (fuel0 : Nat) (hS : ∀ k l a w, I k l a w → S w) (hend : ∀ l a w, I 0 l a w → wpAnyLast P md ops Q S ds fuel0 l a w)
    (hstep : ∀ k l a w, I (k + 1) l a w → wpAnyLast P md ops Q S ds (fuel0 + (k + 1)) l a w ∨ (Region.ready md ops l ≠ [] ∧ ∀ i ∈ Region.ready md ops l, i ∉ ds ∧ ∃ oi, ops[i]? = some oi ∧ ∀ K : Act → World → Prop, (∀ a' w', I k (l.setIfInBounds i true) a' w' → K a' w') → if Region.wanted oi (yielded ops a.tmps) = true then Oper.wp P oi a w K Q else K (a.put oi.dst undef) w)) :
    ∀ k l a w, I k l a w → wpAnyLast P md ops Q S ds (fuel0 + k) l a w
  | 0, l, a, w, h => hend l a w h
  | k + 1, l, a, w, h => by
    rcases hstep k l a w h with h0 | ⟨h1, h2⟩
    · exact h0
    refine wpAnyLast_ready (fuel := fuel0 + k) rfl h1 (fun i hi => ?_)
    obtain ⟨hd, oi, ho, hK⟩ := h2 i hi
    exact AllReadyL.cons (rs := []) ho hd (fun K' hK' => hK K' (fun a' w' hI => hK'.out _ _ (hS _ _ _ _ hI) (fun _ => inv2_ I fuel0 hS hend hstep k _ _ _ hI))) AllReadyL.nil i (List.mem_singleton_self i)
end
theorem exec_alloc32 {o : Oper} {a : Act} {W : World} (hop : o.op = Op.alloc 32) : (execOp a.eval o).run Try.prog W = .ok (.value (.pointer (some ⟨W.heap.size, 0, none⟩))) (W.alloc (.cells #[.int .i64 0, .slice none 0 0, .slice none 0 0] 32)) := by
  unfold execOp
  simp only [hop]
  go_simp
end Go.Proofs.Ytfoodfhhdbaieaa.Giv
