/- TapeSpace's law, plain: how far the heads go, against the steps. -/
import Derived.Test.YtfoodfhhdbaieaaT20
namespace Go.Proofs.Ytfoodfhhdbaieaa.Giv
set_option linter.unusedSimpArgs false
set_option linter.unusedVariables false
open Go.RowKit Go.Proofs.YtfoodfhhdbaieaaW.PrintWords Go.Proofs.YtfoodfhhdbaieaaW.PrintLast Go.Proofs.YtfoodfhhdbaieaaW.PrintMore
open Go.Proofs.Ytfoodfhhdbaieaa.Ka (S54 rd_T54 rd_L1)

def farF (st at_ : List Int) : List Int := maxTo st at_ at_.length
theorem maxTo_rd (st at_ : List Int) : ∀ (k : Nat), k ≤ st.length → ∀ i : Nat, rd (maxTo st at_ k) i = if i < k then maxI (rd st i) (rd at_ i) else rd st i
  | 0, _, i => rfl
  | k + 1, hk, i => by
    have ih := maxTo_rd st at_ k (by omega)
    have hl := maxTo_len st at_ k
    simp only [maxTo]
    rw [rd_set, hl]
    by_cases h : k = i
    · subst h
      rw [if_pos ⟨rfl, by omega⟩, if_pos (by omega), ih k, if_neg (by omega)]
    · rw [if_neg (by omega), ih i]
      by_cases h2 : i < k
      · rw [if_pos h2, if_pos (by omega)]
      · rw [if_neg h2, if_neg (by omega)]
theorem farF_ge {st at_ : List Int} (h : at_.length ≤ st.length) (i : Nat) : rd st i ≤ rd (farF st at_) i := by
  unfold farF
  rw [maxTo_rd st at_ _ h i]
  split
  · unfold maxI; split <;> omega
  · omega
theorem farF_le {st at_ : List Int} {b : Int} (h : at_.length ≤ st.length) (i : Nat) (h1 : rd st i ≤ b) (h2 : rd at_ i ≤ b) : rd (farF st at_) i ≤ b := by
  unfold farF
  rw [maxTo_rd st at_ _ h i]
  split
  · unfold maxI; split <;> omega
  · omega
theorem farF_mono {st st' at_ : List Int} (h : at_.length ≤ st.length) (h' : at_.length ≤ st'.length) (i : Nat) (h1 : rd st i ≤ rd st' i) : rd (farF st at_) i ≤ rd (farF st' at_) i := by
  unfold farF
  rw [maxTo_rd st at_ _ h i, maxTo_rd st' at_ _ h' i]
  split
  · unfold maxI; split <;> split <;> omega
  · exact h1
theorem farF_len (st at_ : List Int) : (farF st at_).length = st.length := maxTo_len _ _ _
theorem stepS_la {rs : List S54} {c d : Sc} (h : stepS rs c = some d) : d.at_.length = c.at_.length := by
  obtain ⟨r, _, rfl⟩ := Option.map_eq_some_iff.1 h
  exact (stepTo_keeps r c.at_ c.tp c.at_.length).1
/-- A run goes no farther than it has steps. -/
theorem far_le {rs : List S54} {a0 a1 : Int} {n : Nat} (hrs : ∀ r ∈ rs, RuleOk a0 a1 n r) (hn : n ≤ 3) : ∀ (m : Nat) (c : Sc) (st : List Int) (b M : Nat), Good a0 a1 n b M c → st.length = 3 → (∀ i : Nat, rd st i ≤ b) → ∀ i : Nat, rd (farS farF rs m c st) i ≤ (b : Int) + (runS rs m c).2
  | 0, c, st, b, M, hG, hl, hb, i => by have := hb i; simp only [farS, runS]; omega
  | m + 1, c, st, b, M, hG, hl, hb, i => by
    cases h : stepS rs c with
    | none => have := hb i; simp only [farS, runS, h]; omega
    | some d =>
      have hG' := good_step hG hrs h
      have hla : d.at_.length = n := hG'.la
      have ih := far_le hrs hn m d (farF st d.at_) (b + 1) _ hG' (by rw [farF_len]; exact hl) (fun i => farF_le (by omega) i (by have := hb i; omega) (hG'.pos i).2) i
      simp only [farS, runS, h]
      push_cast at ih ⊢
      omega
theorem far_ge {rs : List S54} {a0 a1 : Int} {n : Nat} (hrs : ∀ r ∈ rs, RuleOk a0 a1 n r) (hn : n ≤ 3) : ∀ (m : Nat) (c : Sc) (st : List Int) (b M : Nat), Good a0 a1 n b M c → st.length = 3 → ∀ i : Nat, rd st i ≤ rd (farS farF rs m c st) i
  | 0, c, st, b, M, hG, hl, i => by simp only [farS]; omega
  | m + 1, c, st, b, M, hG, hl, i => by
    cases h : stepS rs c with
    | none => simp only [farS, h]; omega
    | some d =>
      have hG' := good_step hG hrs h
      have hla : d.at_.length = n := hG'.la
      have ih := far_ge hrs hn m d (farF st d.at_) (b + 1) _ hG' (by rw [farF_len]; exact hl) i
      have := farF_ge (st := st) (at_ := d.at_) (by omega) i
      simp only [farS, h]
      omega
/-- One step more: no less far. -/
theorem far_up {rs : List S54} {a0 a1 : Int} {n : Nat} (hrs : ∀ r ∈ rs, RuleOk a0 a1 n r) (hn : n ≤ 3) : ∀ (m : Nat) (c : Sc) (st : List Int) (b M : Nat), Good a0 a1 n b M c → st.length = 3 → ∀ i : Nat, rd (farS farF rs m c st) i ≤ rd (farS farF rs (m + 1) c st) i
  | 0, c, st, b, M, hG, hl, i => far_ge hrs hn 1 c st b M hG hl i
  | m + 1, c, st, b, M, hG, hl, i => by
    cases h : stepS rs c with
    | none => simp only [farS, h]; omega
    | some d =>
      have hG' := good_step hG hrs h
      have hla : d.at_.length = n := hG'.la
      have ih := far_up hrs hn m d (farF st d.at_) (b + 1) _ hG' (by rw [farF_len]; exact hl) i
      have e1 : farS farF rs (m + 1) c st = farS farF rs m d (farF st d.at_) := by simp only [farS, h]
      have e2 : farS farF rs (m + 1 + 1) c st = farS farF rs (m + 1) d (farF st d.at_) := by simp only [farS, h]
      rw [e1, e2]
      exact ih
theorem sumTo_le {st st' : List Int} (h : ∀ i : Nat, rd st i ≤ rd st' i) : ∀ k, sumTo st k ≤ sumTo st' k
  | 0 => Int.le_refl _
  | k + 1 => by have := sumTo_le h k; have := h k; simp only [sumTo]; omega
theorem sumTo_ge {st : List Int} (h : ∀ i : Nat, 0 ≤ rd st i) : ∀ k : Nat, (k : Int) ≤ sumTo st k
  | 0 => Int.le_refl _
  | k + 1 => by have := sumTo_ge h k; have := h k; simp only [sumTo]; omega
theorem sumTo_up {st : List Int} {b : Int} (h : ∀ i : Nat, rd st i ≤ b) : ∀ k : Nat, sumTo st k ≤ k * (1 + b)
  | 0 => by simp [sumTo]
  | k + 1 => by
    have h1 := sumTo_up h k
    have h2 := h k
    simp only [sumTo]
    push_cast
    rw [Int.add_mul]
    omega
theorem errF_down {a0 a1 a2 : Int} {l : List S54} {inp : List Int} {most : Int} (h1 : 1 ≤ most) (h2 : most ≤ 20000) : errF a0 a1 a2 l inp (most - 1) = errF a0 a1 a2 l inp most := by
  unfold errF
  rw [if_neg (show ¬ (most - 1 < 0 ∨ 20000 < most - 1) by omega), if_neg (show ¬ (most < 0 ∨ 20000 < most) by omega)]
/-- The law. -/
theorem space_law {a0 a1 a2 : Int} {l : List S54} {inp : List Int} {most : Int} (h1 : 1 ≤ most) (h2 : most ≤ 20000) (he : errF a0 a1 a2 l inp most = 0) :
    a2 ≤ (spaceQ a0 a1 a2 l inp most).1 ∧ (spaceQ a0 a1 a2 l inp most).1 ≤ a2 * (1 + ((runQ a0 a1 a2 l inp most).2.1 : Int)) ∧ (spaceQ a0 a1 a2 l inp (most - 1)).1 ≤ (spaceQ a0 a1 a2 l inp most).1 := by
  obtain ⟨hv, hs, m0, m1⟩ := errF_ok he
  obtain ⟨b0, b1, b2⟩ := valid_a2 hv
  obtain ⟨hrs, _⟩ := valid_ok hv
  have hG := start_good hv hs
  have hz : ∀ i : Nat, rd [0, 0, 0] i = 0 := fun i => rd_rep 3 i
  have hla : (startSc a2 inp).at_.length = a2.toNat := hG.la
  have e0 : farF [0, 0, 0] (startSc a2 inp).at_ = maxTo [0, 0, 0] (startSc a2 inp).at_ (startSc a2 inp).at_.length := rfl
  have hst : ∀ i : Nat, rd (farF [0, 0, 0] (startSc a2 inp).at_) i ≤ (0 : Nat) := fun i => farF_le (by rw [hla]; simp; omega) i (by rw [hz]; omega) (hG.pos i).2
  have hst0 : ∀ i : Nat, 0 ≤ rd (farF [0, 0, 0] (startSc a2 inp).at_) i := fun i => by
    have := farF_ge (st := [0, 0, 0]) (at_ := (startSc a2 inp).at_) (by rw [hla]; simp; omega) i
    rw [hz] at this; exact this
  have hlen : (farF [0, 0, 0] (startSc a2 inp).at_).length = 3 := farF_len _ _
  have q : ∀ most', farQ l a2 inp most' = farS farF l most'.toNat (startSc a2 inp) (farF [0, 0, 0] (startSc a2 inp).at_) := fun _ => rfl
  have s1 : (spaceQ a0 a1 a2 l inp most).1 = sumTo (farQ l a2 inp most) a2.toNat := by unfold spaceQ; rw [if_pos he]
  have s2 : (spaceQ a0 a1 a2 l inp (most - 1)).1 = sumTo (farQ l a2 inp (most - 1)) a2.toNat := by unfold spaceQ; rw [if_pos (by rw [errF_down h1 h2]; exact he)]
  have s3 : (runQ a0 a1 a2 l inp most).2.1 = (runS l most.toNat (startSc a2 inp)).2 := by unfold runQ; rw [if_pos he]
  rw [s1, s2, s3]
  have ha2 : ((a2.toNat : Nat) : Int) = a2 := by omega
  refine ⟨?_, ?_, ?_⟩
  · have := sumTo_ge (st := farQ l a2 inp most) (fun i => by
      rw [q]
      have := far_ge hrs (by omega) most.toNat _ _ 0 _ hG hlen i
      have := hst0 i
      omega) a2.toNat
    omega
  · have := sumTo_up (st := farQ l a2 inp most) (b := ((runS l most.toNat (startSc a2 inp)).2 : Int)) (fun i => by
      rw [q]
      have := far_le hrs (by omega) most.toNat _ _ 0 _ hG hlen hst i
      omega) a2.toNat
    rw [ha2] at this
    exact this
  · refine sumTo_le (fun i => ?_) _
    rw [q, q]
    have := far_up hrs (by omega) (most - 1).toNat _ _ 0 _ hG hlen i
    rw [show (most - 1).toNat + 1 = most.toNat by omega] at this
    exact this
theorem runS_le (rs : List S54) : ∀ (m : Nat) (c : Sc), (runS rs m c).2 ≤ m
  | 0, c => Nat.le_refl _
  | m + 1, c => by
    cases h : stepS rs c with
    | none => simp only [runS, h]; omega
    | some d => have := runS_le rs m d; simp only [runS, h]; omega
/-- The law's two ways. -/
theorem space_pack {a0 a1 a2 : Int} {l : List S54} {inp : List Int} {most : Int} (h1 : 1 ≤ most) (h2 : most ≤ 20000) :
    (∃ x y N : Int, spaceQ a0 a1 a2 l inp most = (x, 0) ∧ spaceQ a0 a1 a2 l inp (most - 1) = (y, 0) ∧ ((runQ a0 a1 a2 l inp most).2.1 : Int) = N ∧ (runQ a0 a1 a2 l inp most).2.2 = 0 ∧ a2 ≤ x ∧ x ≤ a2 * (1 + N) ∧ y ≤ x ∧ 0 ≤ N ∧ N ≤ 20000 ∧ 1 ≤ a2 ∧ a2 ≤ 3) ∨
    (∃ er : Int, er ≠ 0 ∧ (runQ a0 a1 a2 l inp most).2.2 = er ∧ (spaceQ a0 a1 a2 l inp most).2 = er ∧ (spaceQ a0 a1 a2 l inp (most - 1)).2 = er) := by
  by_cases he : errF a0 a1 a2 l inp most = 0
  · left
    obtain ⟨l1, l2, l3⟩ := space_law h1 h2 he
    have b2 := (valid_a2 (errF_ok he).1).2.2
    have hle := runS_le l most.toNat (startSc a2 inp)
    have s3 : (runQ a0 a1 a2 l inp most).2.1 = (runS l most.toNat (startSc a2 inp)).2 := by unfold runQ; rw [if_pos he]
    refine ⟨_, _, _, ?_, ?_, rfl, ?_, l1, l2, l3, by omega, by omega, b2.1, b2.2⟩
    · unfold spaceQ; rw [if_pos he]
    · unfold spaceQ; rw [if_pos (by rw [errF_down h1 h2]; exact he)]
    · unfold runQ; rw [if_pos he]
  · right
    refine ⟨_, he, ?_, ?_, ?_⟩
    · unfold runQ; rw [if_neg he]
    · unfold spaceQ; rw [if_neg he]
    · unfold spaceQ; rw [if_neg (by rw [errF_down h1 h2]; exact he), errF_down h1 h2]
end Go.Proofs.Ytfoodfhhdbaieaa.Giv
