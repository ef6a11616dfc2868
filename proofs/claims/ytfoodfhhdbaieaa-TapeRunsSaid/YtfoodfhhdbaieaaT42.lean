-- CUT by a program of this session: what the claim does not use is left out
import Derived.Test.YtfoodfhhdbaieaaT36
import Derived.Test.YtfoodfhhdbaieaaT32
namespace Go.Proofs.Ytfoodfhhdbaieaa.Giv
set_option linter.unusedSimpArgs false
set_option linter.unusedVariables false
open Go.RowKit Go.Proofs.YtfoodfhhdbaieaaW.PrintWords Go.Proofs.YtfoodfhhdbaieaaW.PrintLast Go.Proofs.YtfoodfhhdbaieaaW.PrintMore
open Go.Proofs.Ytfoodfhhdbaieaa.Ka (S54 rd_T54 rd_L1)

theorem w64_up {x : Int} (h0 : 0 ≤ x) (h1 : x ≤ 9223372036854775807) : wrap64 x = x := by unfold wrap64; omega
theorem under_rd {l : List Int} {i : Int} (h : 0 ≤ i) : under l i = rd l i := by
  unfold under
  split
  · rfl
  · have e : i = ((i.toNat : Nat) : Int) := by omega
    rw [e, rd_out (by omega)]
theorem stepTo_at (r : S54) (a : List Int) (t : List (List Int)) : ∀ n, n ≤ a.length → n ≤ t.length → ∀ j : Nat, j < n → rd (stepTo r a t n).1 j = stepP (rd a j) (rd r.f4 j) ∧ rd_L1 (stepTo r a t n).2 j = setPad (rd_L1 t j) (rd a j) (rd r.f3 j)
  | 0, _, _, j, hj => by omega
  | n + 1, ha, ht, j, hj => by
    obtain ⟨k1, k2, k3⟩ := stepTo_keeps r a t n
    have ih := stepTo_at r a t n (by omega) (by omega) j
    simp only [stepTo]
    by_cases hjn : j = n
    · subst hjn
      obtain ⟨e1, e2⟩ := k3 j (Nat.le_refl _)
      refine ⟨?_, ?_⟩
      · rw [rd_set, if_pos ⟨rfl, by omega⟩, e1]
      · unfold rd_L1
        rw [Int.toNat_natCast, List.getD_eq_getElem?_getD, List.getElem?_set_self (by omega)]
        have e2' : (stepTo r a t j).2.getD j [] = t.getD j [] := by simpa [rd_L1] using e2
        show setPad ((stepTo r a t j).2.getD j []) (rd (stepTo r a t j).1 j) (rd r.f3 j) = setPad (t.getD j []) (rd a j) (rd r.f3 j)
        rw [e2', e1]
    · rw [rd_set_ne (by omega), rdL_set_ne (by omega)]
      exact ih (by omega)
theorem trimN_zero (l : List Int) : ∀ n j : Nat, trimN l n ≤ j → j < n → rd l j = 0
  | 0, j, _, h => by omega
  | n + 1, j, h1, h2 => by
    unfold trimN at h1
    split at h1
    · next h0 =>
      by_cases hj : j = n
      · subst hj; exact h0
      · exact trimN_zero l n j h1 (by omega)
    · omega
theorem rd_trim (l : List Int) (j : Nat) : rd (trimL l) j = rd l j := by
  unfold trimL
  rw [rd_take]
  split
  · rfl
  · next h =>
    by_cases hj : j < l.length
    · exact (trimN_zero l l.length j (by omega) hj).symm
    · exact (rd_out hj).symm
theorem trimN_last (l : List Int) : ∀ n, 0 < trimN l n → rd l ((trimN l n - 1 : Nat) : Int) ≠ 0
  | 0, h => by simp [trimN] at h
  | n + 1, h => by
    unfold trimN at h ⊢
    split
    · next h0 => rw [if_pos h0] at h; exact trimN_last l n h
    · next h0 => simpa using h0
theorem trim_len (l : List Int) : (trimL l).length = trimN l l.length := by
  unfold trimL
  rw [List.length_take]
  have := trimN_le l l.length
  omega
theorem trimL_ext {x y : List Int} (h : ∀ j : Nat, rd x j = rd y j) : trimL x = trimL y := by
  have zero : ∀ (l : List Int) (j : Nat), trimN l l.length ≤ j → rd l j = 0 := fun l j hj => by
    by_cases hl : j < l.length
    · exact trimN_zero l l.length j hj hl
    · exact rd_out hl
  have half : ∀ {u v : List Int}, (∀ j : Nat, rd u j = rd v j) → trimN v v.length ≤ trimN u u.length := fun {u v} huv => by
    rcases Nat.lt_or_ge (trimN u u.length) (trimN v v.length) with hlt | hge
    · exact absurd ((huv _).symm.trans (zero u (trimN v v.length - 1) (by omega))) (trimN_last v v.length (by omega))
    · exact hge
  have hk : trimN x x.length = trimN y y.length := Nat.le_antisymm (half (fun j => (h j).symm)) (half h)
  apply List.ext_getElem (by rw [trim_len, trim_len, hk])
  intro j h1 h2
  have e : ∀ (l : List Int) (hj : j < (trimL l).length), (trimL l)[j] = rd l j := fun l hj => by
    rw [← rd_trim]
    unfold rd
    rw [Int.toNat_natCast, List.getD_eq_getElem?_getD, List.getElem?_eq_getElem hj]
    rfl
  rw [e x h1, e y h2, h j]
theorem rdL_map {t : List (List Int)} {j : Nat} (hj : j < t.length) : rd_L1 (t.map trimL) j = trimL (rd_L1 t j) := by
  unfold rd_L1
  rw [Int.toNat_natCast, List.getD_eq_getElem?_getD, List.getD_eq_getElem?_getD, List.getElem?_map, List.getElem?_eq_getElem hj]
  rfl
def trimSc (c : Sc) : Sc := ⟨c.s, c.at_, c.tp.map trimL⟩
theorem readL_trim {at_ : List Int} {tp : List (List Int)} (hl : at_.length = tp.length) (h0 : ∀ i : Nat, 0 ≤ rd at_ i) : readL at_ (tp.map trimL) = readL at_ tp := by
  unfold readL
  apply List.map_congr_left
  intro i hi
  have hi' := List.mem_range.1 hi
  rw [rdL_map (by omega), under_rd (h0 i), under_rd (h0 i)]
  obtain ⟨k, hk⟩ : ∃ k : Nat, rd at_ i = (k : Int) := ⟨(rd at_ i).toNat, by have := h0 i; omega⟩
  rw [hk, rd_trim]
theorem stepTo_trim {r : S54} {at_ : List Int} {tp : List (List Int)} : ∀ n, n ≤ at_.length → at_.length = tp.length → (stepTo r at_ (tp.map trimL) n).1 = (stepTo r at_ tp n).1
  | 0, _, _ => rfl
  | n + 1, h1, h2 => by
    simp only [stepTo]
    rw [stepTo_trim n (by omega) h2]
theorem step_trim {l : List S54} {c : Sc} (hl : c.at_.length = c.tp.length) (h0 : ∀ i : Nat, 0 ≤ rd c.at_ i) :
    (stepS l c = none → stepS l (trimSc c) = none) ∧ (∀ d, stepS l c = some d → ∃ d', stepS l (trimSc c) = some d' ∧ trimSc d' = trimSc d) := by
  have hr : readL (trimSc c).at_ (trimSc c).tp = readL c.at_ c.tp := readL_trim hl h0
  unfold stepS
  rw [hr]
  show (Option.map _ (findR l c.s _) = none → Option.map _ (findR l c.s _) = none) ∧ _
  cases hf : findR l c.s (readL c.at_ c.tp) with
  | none =>
    exact ⟨fun _ => rfl, fun d hd => by cases hd⟩
  | some r =>
    refine ⟨fun h => (by cases h), fun d hd => ?_⟩
    refine ⟨⟨r.f2, (stepTo r c.at_ (c.tp.map trimL) c.at_.length).1, (stepTo r c.at_ (c.tp.map trimL) c.at_.length).2⟩, ?_, ?_⟩
    · show Option.map _ (findR l c.s (readL c.at_ c.tp)) = _
      rw [hf]; rfl
    · injection hd with hd
      subst hd
      obtain ⟨k1, k2, _⟩ := stepTo_keeps r c.at_ c.tp c.at_.length
      obtain ⟨k3, k4, _⟩ := stepTo_keeps r c.at_ (c.tp.map trimL) c.at_.length
      rw [List.length_map] at k4
      have a1 := stepTo_at r c.at_ c.tp c.at_.length (Nat.le_refl _) (by omega)
      have a2 := stepTo_at r c.at_ (c.tp.map trimL) c.at_.length (Nat.le_refl _) (by rw [List.length_map]; omega)
      unfold trimSc
      simp only [Sc.mk.injEq, true_and]
      refine ⟨stepTo_trim _ (Nat.le_refl _) hl, ?_⟩
      apply List.ext_getElem (by rw [List.length_map, List.length_map, k2, k4])
      intro j h1 h2
      rw [List.length_map] at h1 h2
      have g : ∀ (t : List (List Int)) (hj : j < t.length), t[j] = rd_L1 t j := fun t hj => by
        unfold rd_L1
        rw [Int.toNat_natCast, List.getD_eq_getElem?_getD, List.getElem?_eq_getElem hj]; rfl
      rw [List.getElem_map, List.getElem_map, g _ h1, g _ h2, (a1 j (by omega)).2, (a2 j (by omega)).2, rdL_map (by omega)]
      apply trimL_ext
      intro i
      rw [rd_setPad, rd_setPad, rd_trim]
theorem good_scene {a0 a1 a2 : Int} {l : List S54} {b M : Nat} {c : Sc} (hv : validM a0 a1 a2 l = true) (h : Good a0 a1 a2.toNat b M c) (hb : b ≤ 20000) (hM : M ≤ 20001) : sceneB a0 a1 a2 l c.s c.at_ (c.tp.map trimL) = true := by
  obtain ⟨g0, g1, g2⟩ := valid_a2 hv
  have h1 := h.st
  have h2 := h.la
  have h3 := h.lt
  unfold sceneB
  simp only [Bool.and_eq_true, Bool.not_eq_true', decide_eq_false_iff_not, beq_iff_eq]
  refine ⟨⟨⟨⟨⟨⟨hv, by omega⟩, by omega⟩, by omega⟩, by rw [List.length_map]; omega⟩, ?_⟩, ?_⟩
  · rw [List.any_eq_false]
    intro x hx
    obtain ⟨j, hj, rfl⟩ := List.getElem_of_mem hx
    have := h.pos j
    have e : rd c.at_ j = c.at_[j] := by unfold rd; rw [Int.toNat_natCast, List.getD_eq_getElem?_getD, List.getElem?_eq_getElem hj]; rfl
    rw [e] at this
    unfold outP
    simp only [Bool.or_eq_true, decide_eq_true_eq]
    omega
  · rw [List.any_eq_false]
    intro x hx
    obtain ⟨y, hy, rfl⟩ := List.mem_map.1 hx
    obtain ⟨j, hj, rfl⟩ := List.getElem_of_mem hy
    have e : rd_L1 c.tp j = c.tp[j] := by unfold rd_L1; rw [Int.toNat_natCast, List.getD_eq_getElem?_getD, List.getElem?_eq_getElem hj]; rfl
    have h4 := h.len j
    have h5 := h.sym j
    rw [e] at h4 h5
    generalize c.tp[j] = y at h4 h5
    have h6 := trimN_le y y.length
    unfold rowB
    simp only [Bool.or_eq_true, Bool.and_eq_true, decide_eq_true_eq, beq_iff_eq, not_or, not_and, List.any_eq_true, not_exists]
    refine ⟨⟨by rw [trim_len]; omega, fun hp => ?_⟩, fun x hx => ?_⟩
    · rw [trim_len] at hp ⊢
      have := trimN_last y y.length (by omega)
      rw [show ((trimN y y.length : Nat) : Int) - 1 = ((trimN y y.length - 1 : Nat) : Int) by omega, rd_trim]
      exact this
    · obtain ⟨i, hi, rfl⟩ := List.getElem_of_mem hx
      have e2 : (trimL y)[i] = rd y i := by
        rw [← rd_trim]; unfold rd; rw [Int.toNat_natCast, List.getD_eq_getElem?_getD, List.getElem?_eq_getElem hi]; rfl
      have := h5 i
      rw [e2]
      unfold outB
      simp only [Bool.or_eq_true, decide_eq_true_eq]
      omega
theorem runS_good {a0 a1 : Int} {n : Nat} {rs : List S54} (hrs : ∀ r ∈ rs, RuleOk a0 a1 n r) : ∀ (m : Nat) (c : Sc) (b M : Nat), Good a0 a1 n b M c → Good a0 a1 n (b + m) (max M (b + m)) (runS rs m c).1
  | 0, c, b, M, h => ⟨h.st, h.la, h.lt, h.pos, fun i => by have := h.len i; simp only [runS]; omega, h.sym⟩
  | m + 1, c, b, M, h => by
    cases hs : stepS rs c with
    | none =>
      simp only [runS, hs]
      exact ⟨h.st, h.la, h.lt, fun i => by have := h.pos i; omega, fun i => by have := h.len i; omega, h.sym⟩
    | some d =>
      have h1 := runS_good hrs m d (b + 1) (max M (b + 1)) (good_step h hrs hs)
      simp only [runS, hs]
      exact ⟨h1.st, h1.la, h1.lt, fun i => by have := h1.pos i; omega, fun i => by have := h1.len i; omega, h1.sym⟩
end Go.Proofs.Ytfoodfhhdbaieaa.Giv
namespace Go.Proofs.Ytfoodfhhdbaieaa.Giv
set_option linter.unusedSimpArgs false
set_option linter.unusedVariables false
set_option linter.unusedSectionVars false
open Go.RowKit Go.Shelf Go.Proofs.YtfoodfhhdbaieaaW.PrintWords Go.Proofs.YtfoodfhhdbaieaaW.PrintLast Go.Proofs.YtfoodfhhdbaieaaW.PrintMore
open Go.Proofs.Ytfoodfhhdbaieaa.Ka (S54 k54 z54 rd_T54 at_T54 k54_open k54_mk rd_L1 at_L1 info3 info25 info54)

def scV (q : Sc) (x y : Option Addr × Nat) : Value := .agg #[.int .i64 q.s, .slice x.1 q.at_.length x.2, .slice y.1 q.tp.length y.2]
def Foot (b : Nat) (gf : Option Nat) (w : World) (v : Value) (q : Sc) : Prop := ∀ u : World, w.heap.size ≤ u.heap.size → (∀ k, b ≤ k → k < w.heap.size → some k ≠ gf → u.heap[k]? = w.heap[k]?) → SceneV u v q.s q.at_ q.tp
def AnsF (w : World) (q : Sc) (T : Value → Value) (e : Ending) (w' : World) : Prop := ∃ v, e = .returned (T v) ∧ Foot w.heap.size none w' v q ∧ Below w.heap.size w w'
theorem Foot.keep {b : Nat} {gf : Option Nat} {w w' : World} {v : Value} {q : Sc} (h : Foot b gf w v q) (hb : Below w.heap.size w w') : Foot b gf w' v q := fun u hu ha =>
  h u (Nat.le_trans hb.size hu) (fun k h1 h2 h3 => (ha k h1 (Nat.lt_of_lt_of_le h2 hb.size) h3).trans (hb.block k h2))
theorem Foot.now {b : Nat} {gf : Option Nat} {w : World} {v : Value} {q : Sc} (h : Foot b gf w v q) : SceneV w v q.s q.at_ q.tp := h w (Nat.le_refl _) (fun _ _ _ _ => rfl)
theorem Foot.set {b : Nat} {gf : Option Nat} {w w' : World} {v : Value} {q : Sc} {g : Nat} (h : Foot b gf w v q) (hg : w.grownBy w' (some g)) (hgb : g < b ∨ gf = some g) : Foot b gf w' v q := fun u hu ha =>
  h u (Nat.le_trans hg.size hu) (fun k h1 h2 h3 => (ha k h1 (Nat.lt_of_lt_of_le h2 hg.size) h3).trans (hg.block k h2 (fun e => by
    injection e with e
    rcases hgb with h4 | h4
    · omega
    · exact h3 (by rw [h4, e]))))
theorem Foot.alloc {b : Nat} {w : World} {v : Value} {q : Sc} (h : Foot b none w v q) (o : Obj) : Foot b (some w.heap.size) (w.alloc o) v q := fun u hu ha =>
  h u (by simp at hu; omega) (fun k k1 k2 _ => (ha k k1 (by simp; omega) (fun e => by injection e with e; omega)).trans (heap_alloc_old _ _ k2))
theorem ansF_run {w w' : World} {q : Sc × Nat × Int} {e : Ending} (h : RunAnsF w q e w') : AnsF w q.1 (fun v => .tuple #[v, .int .i64 q.2.1, .int .i64 q.2.2]) e w' := by
  obtain ⟨v, e1, h1, h2⟩ := h
  exact ⟨v, e1, fun u hu ha => h1 u hu (fun k k1 k2 => ha k k1 k2 (by simp)), h2⟩
theorem ansF_start {w w' : World} {q : Int × List Int × List (List Int) × Int} {e : Ending} (h : StartOutF w q e w') : AnsF w ⟨q.1, q.2.1, q.2.2.1⟩ (fun v => .tuple #[v, .int .i64 q.2.2.2]) e w' := by
  obtain ⟨v, e1, h1, h2⟩ := h
  exact ⟨v, e1, fun u hu ha => scene_foot h1 (fun k k1 k2 => ha k k1 k2 (by simp)) hu, h2⟩
theorem heap_keep {w w' : World} {g : Nat} {o : Obj} (h : w.heap[g]? = some o) (hb : Below w.heap.size w w') : w'.heap[g]? = some o := (hb.block g (Array.getElem?_eq_some_iff.1 h).1).trans h
theorem grown3 (w : World) (g : Nat) (a b c : Value) : w.grownBy (((w.setCell ⟨g, 0, none⟩ a).setCell ⟨g, 1, none⟩ b).setCell ⟨g, 2, none⟩ c) (some g) := grown_trans (grown_trans (set_grown w _ 0 _) (set_grown _ _ 1 _)) (set_grown _ _ 2 _)
theorem set3s {w : World} {g : Nat} {t : TypeId} {x y z : Value} (h : w.heap[g]? = some (.cells #[x, y, z] t (0, 0))) (a b c : Value) : (((w.setCell ⟨g, 0, none⟩ a).setCell ⟨g, 1, none⟩ b).setCell ⟨g, 2, none⟩ c).heap[g]? = some (.cells #[a, b, c] t (0, 0)) :=
  (heap_setCell_same _ g 2 _ t _ ((heap_setCell_same _ g 1 _ t _ ((heap_setCell_same _ g 0 _ t _ h).trans rfl)).trans rfl)).trans rfl
def goodS (p b d : Bool) : Bool := !d || (p && b)
def cntS (p b d e : Bool) : Nat := p.toNat + b.toNat + d.toNat + e.toNat
def LawStepS (bits : Bool → Bool → Bool → Bool → Array Bool) (i2 i3 i8 i13 : Nat) (p b d e : Bool) (i : Nat) : Prop :=
  (i = i2 ∧ p = false ∧ goodS true b d = true ∧ cntS true b d e = cntS p b d e + 1 ∧ (bits p b d e).setIfInBounds i true = bits true b d e) ∨
  (i = i3 ∧ b = false ∧ goodS p true d = true ∧ cntS p true d e = cntS p b d e + 1 ∧ (bits p b d e).setIfInBounds i true = bits p true d e) ∨
  (i = i8 ∧ p = true ∧ b = true ∧ d = false ∧ goodS p b true = true ∧ cntS p b true e = cntS p b d e + 1 ∧ (bits p b d e).setIfInBounds i true = bits p b true e) ∨
  (i = i13 ∧ e = false ∧ goodS p b d = true ∧ cntS p b d true = cntS p b d e + 1 ∧ (bits p b d e).setIfInBounds i true = bits p b d true)
instance (bits : Bool → Bool → Bool → Bool → Array Bool) (i2 i3 i8 i13 : Nat) (p b d e : Bool) (i : Nat) : Decidable (LawStepS bits i2 i3 i8 i13 p b d e i) := by unfold LawStepS; infer_instance
structure StepsAt (W wr : World) (b gc gd : Nat) (p r pd rr : Value) (cur dd : Sc) : Prop where
  below : Below W.heap.size W wr
  cells : wr.heap[gc]? = some (.cells #[.int .i64 cur.s, p, r] 32 (0, 0))
  cur : SceneV wr (.agg #[.int .i64 cur.s, p, r]) cur.s cur.at_ cur.tp
  dcells : wr.heap[gd]? = some (.cells #[.int .i64 dd.s, pd, rr] 32 (0, 0))
  foot : Foot b (some gd) wr (.agg #[.int .i64 dd.s, pd, rr]) dd
  hgc : W.heap.size ≤ gc
  hcb : gc < b
  hgd : b ≤ gd
theorem StepsAt.keep {W wr w' : World} {b gc gd : Nat} {p r pd rr : Value} {cur dd : Sc} (h : StepsAt W wr b gc gd p r pd rr cur dd) (hb : Below wr.heap.size wr w') : StepsAt W w' b gc gd p r pd rr cur dd :=
  ⟨below_step h.below (hb.mono (Nat.le_refl _)), heap_keep h.cells hb, SceneV_below h.cur hb, heap_keep h.dcells hb, h.foot.keep hb, h.hgc, h.hcb, h.hgd⟩
end Go.Proofs.Ytfoodfhhdbaieaa.Giv
