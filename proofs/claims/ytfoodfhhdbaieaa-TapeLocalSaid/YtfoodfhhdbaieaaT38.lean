/- A step changes little (plain); Wide, Long, CopyScene, Under answer; a law's region around tape.Step: Copy of the machine, CopyScene, the call, (the variable), in any order. -/
import Derived.Test.YtfoodfhhdbaieaaT28
import Derived.Test.YtfoodfhhdbaieaaT36
import Derived.Test.YtfoodfhhdbaieaaKax5
import Derived.Test.YtfoodfhhdbaieaaKax8
import Derived.Test.YtfoodfhhdbaieaaKax10
import Derived.Test.YtfoodfhhdbaieaaT26
namespace Go.Proofs.Ytfoodfhhdbaieaa.Giv
set_option linter.unusedSimpArgs false
set_option linter.unusedVariables false
open Go.RowKit Go.Proofs.YtfoodfhhdbaieaaW.PrintWords Go.Proofs.YtfoodfhhdbaieaaW.PrintLast Go.Proofs.YtfoodfhhdbaieaaW.PrintMore
open Go.Proofs.Ytfoodfhhdbaieaa.Ka (S54 k54 z54 rd_T54 rd_L1 commodatumlaw20_Wide.f commodatumlaw20_Wide.l0 commodatumlaw20_Long.f commodatumlaw20_Long.l0 commodatumlaw20_CopyScene.f commodatumlaw20_CopyScene.l0 commodatumref20_Under.f)

theorem w64_up {x : Int} (h0 : 0 ≤ x) (h1 : x ≤ 9223372036854775807) : wrap64 x = x := by unfold wrap64; omega
theorem wideF_total (a0 a1 a2 : Int) {l : List S54} (hf : ∀ r ∈ l, Fits r) : ∃ k b, commodatumlaw20_Wide.f k a0 a1 a2 l = some b ∧ (b = false → l.length ≤ 2000 ∧ ∀ r ∈ l, r.f1.length ≤ 100 ∧ r.f3.length ≤ 100 ∧ r.f4.length ≤ 100) := by
  by_cases hl : (l.length : Int) > 2000
  · refine ⟨0, true, ?_, fun h => by cases h⟩
    unfold commodatumlaw20_Wide.f
    rw [if_pos hl]
  · obtain ⟨b, e, hb⟩ := wide_total (a0 := a0) (a1 := a1) (a2 := a2) (by omega) hf l.length 0 (by omega) (by omega)
    refine ⟨l.length + 1, b, ?_, fun h => ⟨by omega, fun r hr => ?_⟩⟩
    · unfold commodatumlaw20_Wide.f
      rw [if_neg hl, e]
    · obtain ⟨j, hj, rfl⟩ := List.getElem_of_mem hr
      have := hb h j (by omega) hj
      have e2 : rd_T54 l (j : Int) = l[j] := by unfold rd_T54; rw [Int.toNat_natCast, List.getD_eq_getElem?_getD, List.getElem?_eq_getElem hj]; rfl
      rw [e2] at this
      omega
/-- A scene's rows are no wonder of length. -/
def FitsS (at_ : List Int) (tp : List (List Int)) : Prop := at_.length ≤ 18000000000000 ∧ ∀ x ∈ tp, x.length ≤ 18000000000000
theorem long_l0 {s : Int} {at_ : List Int} {tp : List (List Int)} (ht : tp.length ≤ 100) (hf : ∀ x ∈ tp, x.length ≤ 18000000000000) : ∀ (k : Nat) (n i : Int), 0 ≤ i → i ≤ tp.length → (tp.length : Int) - i < k → 0 ≤ n → n ≤ 18000000000000 + i * 18000000000000 → ∃ b, commodatumlaw20_Long.l0 k n i s at_ tp = some b ∧ (b = false → n ≤ 45000 ∧ ∀ j : Nat, i ≤ j → j < tp.length → (rd_L1 tp j).length ≤ 45000)
  | 0, n, i, h0, h1, h2, _, _ => by omega
  | k + 1, n, i, h0, h1, h2, h3, h4 => by
    unfold commodatumlaw20_Long.l0
    by_cases hi : i < (tp.length : Int)
    · have hm : (rd_L1 tp i).length ≤ 18000000000000 := by
        rw [show i = ((i.toNat : Nat) : Int) by omega]
        exact hf _ (rdL_mem (by omega))
      have hb : i * 18000000000000 ≤ 99 * 18000000000000 := Int.mul_le_mul_of_nonneg_right (by omega) (by decide)
      rw [if_pos hi, if_pos h0, w64_up (x := n + ((rd_L1 tp i).length : Int)) (by omega) (by omega), w64_up (x := i + 1) (by omega) (by omega)]
      obtain ⟨b, e, h5⟩ := long_l0 (s := s) (at_ := at_) ht hf k (n + (rd_L1 tp i).length) (i + 1) (by omega) (by omega) (by omega) (by omega) (by rw [Int.add_mul]; omega)
      refine ⟨b, e, fun hb => ?_⟩
      obtain ⟨h6, h7⟩ := h5 hb
      refine ⟨by omega, fun j hj hl => ?_⟩
      by_cases he : (j : Int) = i
      · rw [he]; omega
      · exact h7 j (by omega) hl
    · rw [if_neg hi]
      exact ⟨_, rfl, fun hb => ⟨by simpa using hb, fun j hj hl => by omega⟩⟩
theorem long_total (s : Int) {at_ : List Int} {tp : List (List Int)} (hf : FitsS at_ tp) : ∃ k b, commodatumlaw20_Long.f k s at_ tp = some b ∧ (b = false → at_.length ≤ 45000 ∧ tp.length ≤ 100 ∧ ∀ x ∈ tp, x.length ≤ 45000) := by
  unfold commodatumlaw20_Long.f
  by_cases ht : (tp.length : Int) > 100
  · exact ⟨0, true, by rw [if_pos ht], fun h => by cases h⟩
  · obtain ⟨b, e, h⟩ := long_l0 (s := s) (at_ := at_) (tp := tp) (by omega) hf.2 (tp.length + 1) at_.length 0 (by omega) (by omega) (by omega) (by omega) (by have := hf.1; omega)
    refine ⟨tp.length + 1, b, by rw [if_neg ht, e], fun hb => ?_⟩
    obtain ⟨h1, h2⟩ := h hb
    refine ⟨by omega, by omega, fun x hx => ?_⟩
    obtain ⟨j, hj, rfl⟩ := List.getElem_of_mem hx
    have := h2 j (by omega) hj
    have e2 : rd_L1 tp (j : Int) = tp[j] := by unfold rd_L1; rw [Int.toNat_natCast, List.getD_eq_getElem?_getD, List.getElem?_eq_getElem hj]; rfl
    rw [e2] at this
    exact this
theorem copyS_l0 {s : Int} {at_ : List Int} {tp : List (List Int)} (ht : tp.length ≤ 100) (hf : ∀ x ∈ tp, x.length ≤ 45000) {s2 : Int} {a2 : List Int} : ∀ (k : Nat) (i : Nat), i ≤ tp.length → tp.length - i < k → commodatumlaw20_CopyScene.l0 k i s at_ tp s2 a2 (tp.take i) = some (s2, a2, tp)
  | 0, i, h1, h2 => by omega
  | k + 1, i, h1, h2 => by
    unfold commodatumlaw20_CopyScene.l0
    by_cases hi : (i : Int) < (tp.length : Int)
    · have hm := hf _ (rdL_mem (l := tp) (i := i) (by omega))
      rw [if_pos hi, Option.bind_some, if_pos (show (0 : Int) ≤ i by omega), if_pos (by simp only [List.length_nil]; omega), if_pos (by rw [List.length_take]; omega), w64_up (by omega) (by omega), List.nil_append]
      have e : tp.take i ++ [rd_L1 tp (i : Int)] = tp.take (i + 1) := by
        rw [List.take_succ_eq_append_getElem (by omega)]
        congr 2
        unfold rd_L1
        rw [Int.toNat_natCast, List.getD_eq_getElem?_getD, List.getElem?_eq_getElem (by omega)]
        rfl
      rw [e]
      exact copyS_l0 ht hf k (i + 1) (by omega) (by omega)
    · rw [if_neg hi, List.take_of_length_le (by omega)]
theorem copyS_total (s : Int) {at_ : List Int} {tp : List (List Int)} (ha : at_.length ≤ 45000) (ht : tp.length ≤ 100) (hf : ∀ x ∈ tp, x.length ≤ 45000) : ∃ k, commodatumlaw20_CopyScene.f k s at_ tp = some (s, at_, tp) := by
  refine ⟨tp.length + 1, ?_⟩
  unfold commodatumlaw20_CopyScene.f
  rw [Option.bind_some, if_pos (by simp only [List.length_nil]; omega), List.nil_append]
  exact copyS_l0 (s := s) (at_ := at_) ht hf (tp.length + 1) 0 (by omega) (by omega)
theorem copyScene_C {w : World} {s : Int} {at_ : List Int} {tp : List (List Int)} {A1 A2 : Option Addr} {c1 c2 : Nat} (h1 : Kd.C (Kd.int .i64) w A1 at_.length at_) (l1 : at_.length ≤ c1) (h2 : Kd.C (Kd.slice 3 (Kd.int .i64)) w A2 tp.length tp) (l2 : tp.length ≤ c2) (ha : at_.length ≤ 45000) (ht : tp.length ≤ 100) (hf : ∀ x ∈ tp, x.length ≤ 45000) :
    Calls Try.prog 28 #[.agg #[.int .i64 s, .slice A1 at_.length c1, .slice A2 tp.length c2]] w fun e w' => ∃ v, e = .returned v ∧ SceneV w' v s at_ tp ∧ Below w.heap.size w w' := by
  obtain ⟨k, hk⟩ := copyS_total s ha ht hf
  refine (Ka.commodatumlaw20_CopyScene.calls k s A1 c1 at_ A2 c2 tp s at_ tp w h1 l1 h2 l2 hk).mono ?_
  rintro e w' ⟨v1, v2, rfl, r1, r2, hb⟩
  obtain ⟨B1, d1, rfl, q1, q2⟩ := Kd.R_reads r1
  obtain ⟨B2, d2, rfl, q3, q4⟩ := Kd.R_reads (Kd.S_R r2)
  exact ⟨_, rfl, ⟨B1, d1, B2, d2, rfl, q1, q2, q3, q4⟩, hb⟩
theorem under_rd {l : List Int} {i : Int} (h : 0 ≤ i) : under l i = rd l i := by
  unfold under
  split
  · rfl
  · have e : i = ((i.toNat : Nat) : Int) := by omega
    rw [e, rd_out (by omega)]
theorem under_C {w : World} {A : Option Addr} {c : Nat} {l : List Int} {i : Int} (h : Kd.C (Kd.int .i64) w A l.length l) (hl : l.length ≤ c) (h0 : 0 ≤ i) :
    Calls Try.prog 30 #[.slice A l.length c, .int .i64 i] w fun e w' => e = .returned (.int .i64 (rd l i)) ∧ Below w.heap.size w w' := by
  refine (Ka.commodatumref20_Under.calls A c l i (rd l i) w h hl ?_).mono ?_
  · unfold commodatumref20_Under.f
    split
    · first | rfl | rw [if_pos h0]
    · have e : i = ((i.toNat : Nat) : Int) := by omega
      rw [e, rd_out (by omega)]
  · rintro e w' ⟨rfl, ⟨n, rfl⟩⟩
    exact ⟨rfl, pw_below_drewN (Below.refl _ _) n⟩
theorem stepTo_at (r : S54) (a : List Int) (t : List (List Int)) : ∀ n, n ≤ a.length → n ≤ t.length → ∀ j : Nat, j < n → rd (stepTo r a t n).1 j = stepP (rd a j) (rd r.f4 j) ∧ rd_L1 (stepTo r a t n).2 j = setPad (rd_L1 t j) (rd a j) (rd r.f3 j)
  | 0, _, _, j, hj => by omega
  | n + 1, ha, ht, j, hj => by
    obtain ⟨k1, k2, k3⟩ := stepTo_keeps r a t n
    have ih := stepTo_at r a t n (by omega) (by omega) j
    simp only [stepTo]
    by_cases hjn : j = n
    · subst hjn
      obtain ⟨e1, e2⟩ := k3 j (Nat.le_refl _)
      refine ⟨?_, ?_⟩
      · rw [rd_set, if_pos ⟨rfl, by omega⟩, e1]
      · unfold rd_L1
        rw [Int.toNat_natCast, List.getD_eq_getElem?_getD, List.getElem?_set_self (by omega)]
        have e2' : (stepTo r a t j).2.getD j [] = t.getD j [] := by simpa [rd_L1] using e2
        show setPad ((stepTo r a t j).2.getD j []) (rd (stepTo r a t j).1 j) (rd r.f3 j) = setPad (t.getD j []) (rd a j) (rd r.f3 j)
        rw [e2', e1]
    · rw [rd_set_ne (by omega), rdL_set_ne (by omega)]
      exact ih (by omega)
theorem rd_setPad' {l : List Int} {p x : Int} {j : Nat} (hp : 0 ≤ p) (h : (j : Int) ≠ p) : rd (setPad l p x) j = rd l j := by
  unfold setPad
  rw [rd_set, if_neg (by omega), rd_pad]
theorem trimN_zero (l : List Int) : ∀ n j : Nat, trimN l n ≤ j → j < n → rd l j = 0
  | 0, j, _, h => by omega
  | n + 1, j, h1, h2 => by
    unfold trimN at h1
    split at h1
    · next h0 =>
      by_cases hj : j = n
      · subst hj; exact h0
      · exact trimN_zero l n j h1 (by omega)
    · omega
theorem rd_trim (l : List Int) (j : Nat) : rd (trimL l) j = rd l j := by
  unfold trimL
  rw [rd_take]
  split
  · rfl
  · next h =>
    by_cases hj : j < l.length
    · exact (trimN_zero l l.length j (by omega) hj).symm
    · exact (rd_out hj).symm
/-- What the law says of a step. -/
structure Local (at_ : List Int) (tp : List (List Int)) (q : Sc) : Prop where
  la : q.at_.length = at_.length
  lt : q.tp.length = tp.length
  le : at_.length = tp.length
  pos : ∀ i : Nat, 0 ≤ rd at_ i ∧ rd at_ i ≤ 20000 ∧ 0 ≤ rd q.at_ i ∧ rd q.at_ i ≤ 20001
  near : ∀ i : Nat, i < tp.length → rd q.at_ i ≤ rd at_ i + 1 ∧ rd at_ i - 1 ≤ rd q.at_ i
  same : ∀ t : Nat, t < tp.length → ∀ i : Nat, (i : Int) ≠ rd at_ t → rd (rd_L1 tp t) i = rd (rd_L1 q.tp t) i
  len : ∀ t : Nat, (rd_L1 tp t).length ≤ 20001 ∧ (rd_L1 q.tp t).length ≤ 20001
theorem local_law {a0 a1 a2 : Int} {l : List S54} {s : Int} {at_ : List Int} {tp : List (List Int)} (h : (stepQ a0 a1 a2 l s at_ tp).2 = 0) : Local at_ tp (stepQ a0 a1 a2 l s at_ tp).1 := by
  unfold stepQ at h ⊢
  by_cases hv : validM a0 a1 a2 l = false
  · rw [if_pos hv] at h; cases h
  rw [if_neg hv] at h ⊢
  by_cases hs : sceneB a0 a1 a2 l s at_ tp = false
  · rw [if_pos hs] at h; cases h
  rw [if_neg hs] at h ⊢
  cases hd : stepS l ⟨s, at_, tp⟩ with
  | none => simp only [hd] at h; cases h
  | some d =>
    simp only [hd] at h ⊢
    by_cases h2 : sceneB a0 a1 a2 l d.s d.at_ (d.tp.map trimL) = true
    · rw [if_pos h2]
      obtain ⟨_, hG⟩ := scene_good (by simpa using hs : sceneB a0 a1 a2 l s at_ tp = true)
      obtain ⟨_, hG2⟩ := scene_good h2
      have hla : at_.length = a2.toNat := hG.la
      have hlt : tp.length = a2.toNat := hG.lt
      obtain ⟨r, hf, rfl⟩ := Option.map_eq_some_iff.1 hd
      have hr := (valid_ok (by simpa using hv : validM a0 a1 a2 l = true)).1 r (List.mem_of_find?_eq_some hf)
      obtain ⟨k1, k2, _⟩ := stepTo_keeps r at_ tp at_.length
      have hat : ∀ j : Nat, j < at_.length → _ := stepTo_at r at_ tp at_.length (Nat.le_refl _) (by omega)
      have hmap : ∀ t : Nat, t < tp.length → rd_L1 (List.map trimL (stepTo r at_ tp at_.length).2) t = trimL (rd_L1 (stepTo r at_ tp at_.length).2 t) := fun t ht => by
        unfold rd_L1
        rw [Int.toNat_natCast, List.getD_eq_getElem?_getD, List.getD_eq_getElem?_getD, List.getElem?_map, List.getElem?_eq_getElem (by omega)]
        rfl
      refine ⟨k1, by simp only [List.length_map]; exact k2, by omega, fun i => ?_, fun i hi => ?_, fun t ht i hi => ?_, fun t => ⟨?_, ?_⟩⟩
      · have p1 := hG.pos i
        have p2 := hG2.pos i
        simp only at p1 p2 ⊢
        omega
      · obtain ⟨e1, _⟩ := hat i (by omega)
        have hm := hr.moves i
        have p1 := hG.pos i
        simp only at p1 ⊢
        rw [e1]
        unfold stepP
        split <;> omega
      · obtain ⟨_, e2⟩ := hat t (by omega)
        have p1 := hG.pos t
        simp only at p1 ⊢
        rw [hmap t ht, rd_trim, e2, rd_setPad' p1.1 hi]
      · exact hG.len t
      · exact hG2.len t
    · rw [if_neg h2] at h; cases h
end Go.Proofs.Ytfoodfhhdbaieaa.Giv
namespace Go.Proofs.Ytfoodfhhdbaieaa.Giv
set_option linter.unusedSimpArgs false
set_option linter.unusedVariables false
set_option linter.unusedSectionVars false
open Go.RowKit Go.Shelf Go.Proofs.YtfoodfhhdbaieaaW.PrintWords Go.Proofs.YtfoodfhhdbaieaaW.PrintLast Go.Proofs.YtfoodfhhdbaieaaW.PrintMore
open Go.Proofs.Ytfoodfhhdbaieaa.Ka (S54 k54 z54 rd_T54 at_T54 k54_open k54_mk k54_openM k54_mkM rd_L1 at_L1 info3 info25 info54)

def stepS5 (q : Sc × Int) (x y : Option Addr × Nat) : Value := .agg #[.int .i64 q.1.s, .slice x.1 q.1.at_.length x.2, .slice y.1 q.1.tp.length y.2]
def stepV5 (q : Sc × Int) (x y : Option Addr × Nat) : Value := .tuple #[stepS5 q x y, .int .i64 q.2]
theorem stepV5_inj {q : Sc × Int} {B1 B2 C1 C2 : Option Addr} {d1 d2 e1 e2 : Nat} (h : stepV5 q (B1, d1) (B2, d2) = stepV5 q (C1, e1) (C2, e2)) : C1 = B1 ∧ e1 = d1 ∧ C2 = B2 ∧ e2 = d2 := by
  simp [stepV5, stepS5] at h
  exact ⟨h.1.1.symm, h.1.2.symm, h.2.1.symm, h.2.2.symm⟩
/-- A scene that reads when block g has been written too. -/
def FarS (q : Sc × Int) (w : World) (g : Nat) (v : Value) : Prop := ∀ (u : World) (a b c : Value), Below w.heap.size w u → SceneV (((u.setCell ⟨g, 0, none⟩ a).setCell ⟨g, 1, none⟩ b).setCell ⟨g, 2, none⟩ c) v q.1.s q.1.at_ q.1.tp
/-- The call done, the variable made: what is known. -/
def StepR (X : World) (q : Sc × Int) : Bool → Bool → Value → Value → World → Prop
  | false, false, _, _, _ => True
  | true, false, x8, _, w => ∃ x y, x8 = stepV5 q x y ∧ SceneV w (stepS5 q x y) q.1.s q.1.at_ q.1.tp
  | false, true, _, x13, w => ∃ g, x13 = .pointer (some ⟨g, 0, none⟩) ∧ w.heap[g]? = some (.cells #[.int .i64 0, .slice none 0 0, .slice none 0 0] 32 (0, 0)) ∧ X.heap.size ≤ g
  | true, true, x8, x13, w => ∃ x y g, x8 = stepV5 q x y ∧ x13 = .pointer (some ⟨g, 0, none⟩) ∧ w.heap[g]? = some (.cells #[.int .i64 0, .slice none 0 0, .slice none 0 0] 32 (0, 0)) ∧ X.heap.size ≤ g ∧ FarS q w g (stepS5 q x y)
theorem heapS_below {w w' : World} {g : Nat} {o : Obj} (h : w.heap[g]? = some o) (hb : Below w.heap.size w w') : w'.heap[g]? = some o := (hb.block g (Array.getElem?_eq_some_iff.1 h).1).trans h
theorem StepR_keep {X : World} {q : Sc × Int} (d e : Bool) (x8 x13 : Value) (w w' : World) (h : StepR X q d e x8 x13 w) (hb : Below w.heap.size w w') : StepR X q d e x8 x13 w' := by
  cases d <;> cases e
  · trivial
  · obtain ⟨g, e1, e2, e3⟩ := h
    exact ⟨g, e1, heapS_below e2 hb, e3⟩
  · obtain ⟨x, y, e1, e2⟩ := h
    exact ⟨x, y, e1, SceneV_below e2 hb⟩
  · obtain ⟨x, y, g, e1, e2, e3, e4, e5⟩ := h
    exact ⟨x, y, g, e1, e2, heapS_below e3 hb, e4, fun u a b c hu => e5 u a b c (below_step hb hu)⟩
theorem sceneS_form {w : World} {v : Value} {q : Sc × Int} (h : SceneV w v q.1.s q.1.at_ q.1.tp) : ∃ x y, v = stepS5 q x y := by
  obtain ⟨A1, c1, A2, c2, rfl, _⟩ := h
  exact ⟨(A1, c1), (A2, c2), rfl⟩
theorem StepR_call {X w w' : World} {q : Sc × Int} {e : Bool} {x8 x13 : Value} {en : Ending} (h : StepR X q false e x8 x13 w) (h2 : StepAns w q en w') : ∃ v, en = .returned v ∧ StepR X q true e v x13 w' ∧ Below w.heap.size w w' := by
  obtain ⟨v, rfl, hv, hb⟩ := h2
  have h0 := hv w' (Nat.le_refl _) (fun _ _ _ => rfl)
  obtain ⟨x, y, rfl⟩ := sceneS_form h0
  refine ⟨_, rfl, ?_, hb⟩
  cases e
  · exact ⟨x, y, rfl, h0⟩
  · obtain ⟨g, e1, e2, e3⟩ := h
    have hg := (Array.getElem?_eq_some_iff.1 e2).1
    refine ⟨x, y, g, rfl, e1, heapS_below e2 hb, e3, fun u a b c hu => hv _ (by simpa using hu.size) (fun k h1 h3 => ?_)⟩
    have hne : (⟨g, 0, none⟩ : Addr).block ≠ k := by show g ≠ k; omega
    rw [heap_setCell_other _ ⟨g, 2, none⟩ k _ hne.symm, heap_setCell_other _ ⟨g, 1, none⟩ k _ hne.symm, heap_setCell_other _ ⟨g, 0, none⟩ k _ hne.symm]
    exact hu.block k h3
theorem StepR_alloc {X w : World} {q : Sc × Int} {d : Bool} {x8 x13 : Value} (h : StepR X q d false x8 x13 w) (hb : Below X.heap.size X w) : StepR X q d true x8 (.pointer (some ⟨w.heap.size, 0, none⟩)) (w.alloc (.cells #[.int .i64 0, .slice none 0 0, .slice none 0 0] 32)) := by
  cases d
  · exact ⟨_, rfl, heap_alloc_new _ _, hb.size⟩
  · obtain ⟨x, y, e1, e2⟩ := h
    refine ⟨x, y, _, e1, rfl, heap_alloc_new _ _, hb.size, fun u a b c hu => SceneV_below e2 ?_⟩
    have h1 : Below w.heap.size w u := ((Below.refl w.heap.size w).alloc (Nat.le_refl _) _).trans (hu.mono (by simp))
    exact ((h1.setCell (p := ⟨w.heap.size, 0, none⟩) (Nat.le_refl _) _).setCell (p := ⟨w.heap.size, 1, none⟩) (Nat.le_refl _) _).setCell (p := ⟨w.heap.size, 2, none⟩) (Nat.le_refl _) _
def SceneAtS (q : Sc × Int) (V : World) (g : Nat) (p r : Value) : Prop := V.heap[g]? = some (.cells #[.int .i64 q.1.s, p, r] 32 (0, 0)) ∧ SceneV V (.agg #[.int .i64 q.1.s, p, r]) q.1.s q.1.at_ q.1.tp
theorem sceneS_below {q : Sc × Int} {V V' : World} {g : Nat} {p r : Value} (h : SceneAtS q V g p r) (hb : Below V.heap.size V V') : SceneAtS q V' g p r := ⟨heapS_below h.1 hb, SceneV_below h.2 hb⟩
theorem sceneS_drew {q : Sc × Int} {V : World} {g : Nat} {p r : Value} (h : SceneAtS q V g p r) : SceneAtS q V.drew g p r := sceneS_below h (below_drew (Below.refl _ _))
theorem heapS_drew {V : World} {g : Nat} {o : Obj} (h : V.heap[g]? = some o) : V.drew.heap[g]? = some o := heapS_below h (below_drew (Below.refl _ _))
def goodS (p b d : Bool) : Bool := !d || (p && b)
def cntS (p b d e : Bool) : Nat := p.toNat + b.toNat + d.toNat + e.toNat
theorem lawS_all : ∀ p b d e : Bool, cntS p b d e = 4 → p = true ∧ b = true ∧ d = true ∧ e = true := by decide
theorem lawS_d : ∀ p b : Bool, goodS p b true = true → p = true ∧ b = true := by decide
def LawStepS (bits : Bool → Bool → Bool → Bool → Array Bool) (i2 i3 i8 i13 : Nat) (p b d e : Bool) (i : Nat) : Prop :=
  (i = i2 ∧ p = false ∧ goodS true b d = true ∧ cntS true b d e = cntS p b d e + 1 ∧ (bits p b d e).setIfInBounds i true = bits true b d e) ∨
  (i = i3 ∧ b = false ∧ goodS p true d = true ∧ cntS p true d e = cntS p b d e + 1 ∧ (bits p b d e).setIfInBounds i true = bits p true d e) ∨
  (i = i8 ∧ p = true ∧ b = true ∧ d = false ∧ goodS p b true = true ∧ cntS p b true e = cntS p b d e + 1 ∧ (bits p b d e).setIfInBounds i true = bits p b true e) ∨
  (i = i13 ∧ e = false ∧ goodS p b d = true ∧ cntS p b d true = cntS p b d e + 1 ∧ (bits p b d e).setIfInBounds i true = bits p b d true)
instance (bits : Bool → Bool → Bool → Bool → Array Bool) (i2 i3 i8 i13 : Nat) (p b d e : Bool) (i : Nat) : Decidable (LawStepS bits i2 i3 i8 i13 p b d e i) := by unfold LawStepS; infer_instance
section
variable {md : Region.Mode} {ops : Array Oper} {Q : Exit → Act → World → Prop} {S : World → Prop} {ds : List Nat}
def LawT (bits : Bool → Bool → Bool → Bool → Array Bool) (s2 s3 s6 s8 s13 : Tmp) (a0 a1 a2 : Int) (rs : List S54) (s : Int) (at_ : List Int) (tp : List (List Int)) (R : Bool → Bool → Value → Value → World → Prop) (y6 : Value) (b0 e0 : Bool) (a : Act) (W0 : World) (k : Nat) (l : Array Bool) (a' : Act) (w' : World) : Prop :=
  ∃ p b d e x2 x3 x8 x13, l = bits p b d e ∧ goodS p b d = true ∧ cntS p b d e + k = 4 ∧ (e = false → e0 = false) ∧ (b = false → b0 = false) ∧ a' = put5 s2 s3 s6 s8 s13 a x2 x3 y6 x8 x13 ∧ Below W0.heap.size W0 w' ∧
    (p = true → ∃ B cb, x2 = .agg #[.int .i64 a0, .int .i64 a1, .int .i64 a2, .slice B rs.length cb] ∧ rs.length ≤ cb ∧ Kd.C k54 w' B rs.length rs) ∧ (b = true → SceneV w' x3 s at_ tp) ∧ R d e x8 x13 w'
set_option maxHeartbeats 1000000 in
theorem law_invS {nt : Nat} {bits : Bool → Bool → Bool → Bool → Array Bool} {i2 i3 i8 i13 : Nat} {s2 s3 s6 s8 s13 : Nat} (sl : Slots s2 s3 s6 s8 s13 nt) {a0 a1 a2 : Int} {rs : List S54} {s : Int} {at_ : List Int} {tp : List (List Int)} {R : Bool → Bool → Value → Value → World → Prop} {b0 e0 : Bool} (W0 : World)
    (hready : ∀ p b d e, (e = false → e0 = false) → (b = false → b0 = false) → (d = true → e = true) → goodS p b d = true → cntS p b d e < 4 → Region.ready md ops (bits p b d e) ≠ [] ∧ ∀ i ∈ Region.ready md ops (bits p b d e), i ∉ ds ∧ LawStepS bits i2 i3 i8 i13 p b d e i)
    {o2 o3 o8 o13 : Oper} (h2 : ops[i2]? = some o2) (h8 : ops[i8]? = some o8) (h13 : e0 = false → ops[i13]? = some o13 ∧ o13.guard = none ∧ o13.dst = some s13 ∧ ∀ (a : Act) (w : World) (d : Bool) (x8 x13 : Value), Below W0.heap.size W0 w → R d false x8 x13 w → ∃ v w', (execOp a.eval o13).run Try.prog w = .ok (.value v) w' ∧ Below w.heap.size w w' ∧ R d true x8 v w')
    {sM sX F : Nat} (a : Act) (hsz : a.tmps.size = nt) {A : Option Addr} {c : Nat} (g2 : sM < nt ∧ s2 ≠ sM ∧ s3 ≠ sM ∧ s6 ≠ sM ∧ s8 ≠ sM ∧ s13 ≠ sM ∧ a.eval (.tmp sM) = .agg #[.int .i64 a0, .int .i64 a1, .int .i64 a2, .slice A rs.length c] ∧ Kd.C k54 W0 A rs.length rs ∧ o2.guard = none ∧ o2.dst = some s2 ∧ o2.op = Op.call { callee := .value (.func 18), args := #[.tmp sM], argTypes := #[24] })
    {vc : Value} (g3 : b0 = false → ops[i3]? = some o3 ∧ sX < nt ∧ s2 ≠ sX ∧ s3 ≠ sX ∧ s6 ≠ sX ∧ s8 ≠ sX ∧ s13 ≠ sX ∧ a.eval (.tmp sX) = vc ∧ (∀ w : World, Below W0.heap.size W0 w → Calls Try.prog 28 #[vc] w fun e w' => ∃ v, e = .returned v ∧ SceneV w' v s at_ tp ∧ Below w.heap.size w w') ∧ o3.guard = none ∧ o3.dst = some s3 ∧ o3.op = Op.call { callee := .value (.func 28), args := #[.tmp sX], argTypes := #[32] })
    (g8 : o8.guard = none ∧ o8.dst = some s8 ∧ o8.op = Op.call { callee := .value (.func F), args := #[.tmp s2, .tmp s3], argTypes := #[24, 32] }) {fnF : Func} (hF : Try.prog.funcs[F]? = some fnF) (hFn : (fnF.name == "runtime.NumGoroutine") = false) (hFb : fnF.body.isSome = true)
    (hl : rs.length ≤ 1000000) (hrow : ∀ r ∈ rs, r.f1.length ≤ 1000000 ∧ r.f3.length ≤ 1000000 ∧ r.f4.length ≤ 1000000)
    (hcall : ∀ (w : World) B cb v (e1 : Bool) (x8 x13 : Value), Below W0.heap.size W0 w → R false e1 x8 x13 w → Kd.C k54 w B rs.length rs → SceneV w v s at_ tp → Calls Try.prog F #[.agg #[.int .i64 a0, .int .i64 a1, .int .i64 a2, .slice B rs.length cb], v] w fun e w' => ∃ v, e = .returned v ∧ R true e1 v x13 w' ∧ Below w.heap.size w w')
    (hRk : ∀ d e x8 x13 w w', R d e x8 x13 w → Below w.heap.size w w' → R d e x8 x13 w')
    (hS : ∀ w', Below W0.heap.size W0 w' → S w') {y2 y3 y6 y8 y13 : Value} (ha : a = put5 s2 s3 s6 s8 s13 a y2 y3 y6 y8 y13) (he0 : R false e0 y8 y13 W0) (hb0 : b0 = true → SceneV W0 y3 s at_ tp) (fuel0 k0 : Nat) (hk0 : k0 + (b0.toNat + e0.toNat) = 4)
    (hend : ∀ x2 x3 v x13 w', Below W0.heap.size W0 w' → R true true v x13 w' → wpAnyLast Try.prog md ops Q S ds fuel0 (bits true true true true) (put5 s2 s3 s6 s8 s13 a x2 x3 y6 v x13) w')
    (hend2 : e0 = false → ∀ x2 x3 v x13 w', Below W0.heap.size W0 w' → R true false v x13 w' → wpAnyLast Try.prog md ops Q S ds (fuel0 + 1) (bits true true true false) (put5 s2 s3 s6 s8 s13 a x2 x3 y6 v x13) w') :
    wpAnyLast Try.prog md ops Q S ds (fuel0 + k0) (bits false b0 false e0) a W0 := by
  have wnt : ∀ (o : Oper) (y : Nat → Option Bool), o.guard = none → Region.wanted o y = true := fun o y h => by unfold Region.wanted; rw [h]
  refine inv2_ (LawT bits s2 s3 s6 s8 s13 a0 a1 a2 rs s at_ tp R y6 b0 e0 a W0) fuel0 ?_ ?_ ?_ k0 _ _ _ ?_
  · rintro k l a' w' ⟨_, _, _, _, _, _, _, _, _, _, _, _, _, _, hb, _⟩
    exact hS w' hb
  · rintro l a' w' ⟨p, b, d, e, x2, x3, x8, x13, rfl, _, hc, _, _, rfl, hb, k2, k3, k8⟩
    obtain ⟨rfl, rfl, rfl, rfl⟩ := lawS_all _ _ _ _ hc
    exact hend _ _ _ _ _ hb k8
  · rintro k l a' w' ⟨p, b, d, e, x2, x3, x8, x13, rfl, hg, hc, he, hbb, rfl, hb, k2, k3, k8⟩
    by_cases hde : d = true ∧ e = false
    · obtain ⟨rfl, rfl⟩ := hde
      obtain ⟨rfl, rfl⟩ : p = true ∧ b = true := lawS_d p b hg
      have hk : k = 0 := by simp only [cntS, Bool.toNat_true, Bool.toNat_false] at hc; omega
      subst hk
      exact .inl (hend2 (he rfl) _ _ _ _ _ hb k8)
    refine .inr ?_
    obtain ⟨hne, hi⟩ := hready p b d e he hbb (fun h => by cases e with
      | true => rfl
      | false => exact absurd ⟨h, rfl⟩ hde) hg (by omega)
    refine ⟨hne, fun i hm => ?_⟩
    obtain ⟨hds, hs⟩ := hi i hm
    refine ⟨hds, ?_⟩
    rcases hs with ⟨rfl, rfl, hg', hc', hbits⟩ | ⟨rfl, rfl, hg', hc', hbits⟩ | ⟨rfl, rfl, rfl, rfl, hg', hc', hbits⟩ | ⟨rfl, rfl, hg', hc', hbits⟩
    · obtain ⟨hM1, hM2, hM3, hM4, hM5, hM6, eM, hC, g21, g22, g23⟩ := g2
      refine ⟨o2, h2, fun K hK => ?_⟩
      rw [hbits] at hK
      refine goes_ (fn := Try.f18) (f := 18) Try.func18 (by kernel_rfl) rfl #[.agg #[.int .i64 a0, .int .i64 a1, .int .i64 a2, .slice A rs.length c]] (wnt _ _ g21) rfl g23 ?_ ?_
      · simp only [List.map_toArray, List.map_cons, List.map_nil]
        rw [eval5_o sl a _ _ _ _ _ hsz sM hM1 hM2 hM3 hM4 hM5 hM6, eM]
      · refine (copy_walk a0 a1 a2 A c rs w' (Kd.C_below hC hb) hl hrow).mono ?_
        rintro en w2 ⟨B, cb, rfl, q1, q2, q3⟩
        refine ⟨_, rfl, ?_⟩
        rw [g22, put5_2 sl]
        exact hK _ _ ⟨_, _, _, _, _, _, _, _, rfl, hg', by omega, he, hbb, rfl, hb.trans (q3.mono hb.size), fun _ => ⟨B, cb, rfl, q1, q2⟩, fun e1 => SceneV_below (k3 e1) q3, hRk _ _ _ _ _ _ k8 q3⟩
    · obtain ⟨h3, hX1, hX2, hX3, hX4, hX5, hX6, eX, hC, g31, g32, g33⟩ := g3 (hbb rfl)
      refine ⟨o3, h3, fun K hK => ?_⟩
      rw [hbits] at hK
      refine goes_ (fn := Try.f28) (f := 28) Try.func28 (by kernel_rfl) rfl #[vc] (wnt _ _ g31) rfl g33 ?_ ?_
      · simp only [List.map_toArray, List.map_cons, List.map_nil]
        rw [eval5_o sl a _ _ _ _ _ hsz sX hX1 hX2 hX3 hX4 hX5 hX6, eX]
      · refine (hC w' hb).mono ?_
        rintro en w2 ⟨v, rfl, q1, q3⟩
        refine ⟨_, rfl, ?_⟩
        rw [g32, put5_3 sl]
        exact hK _ _ ⟨_, _, _, _, _, _, _, _, rfl, hg', by omega, he, (fun h => by cases h), rfl, hb.trans (q3.mono hb.size), fun e1 => by obtain ⟨B, cb, q4, q5, q6⟩ := k2 e1; exact ⟨B, cb, q4, q5, Kd.C_below q6 q3⟩, fun _ => q1, hRk _ _ _ _ _ _ k8 q3⟩
    · obtain ⟨B, cb, rfl, q1, q2⟩ := k2 rfl
      refine ⟨o8, h8, fun K hK => ?_⟩
      rw [hbits] at hK
      refine goes_ (fn := fnF) (f := F) hF hFn hFb #[.agg #[.int .i64 a0, .int .i64 a1, .int .i64 a2, .slice B rs.length cb], x3] (wnt _ _ g8.1) rfl g8.2.2 ?_ ?_
      · simp only [List.map_toArray, List.map_cons, List.map_nil]
        rw [eval5_2 sl a _ _ _ _ _ hsz, eval5_3 sl a _ _ _ _ _ hsz]
      · refine (hcall w' B cb x3 _ _ _ hb k8 q2 (k3 rfl)).mono ?_
        rintro en w2 ⟨v, rfl, hR, q6⟩
        refine ⟨_, rfl, ?_⟩
        rw [g8.2.1, put5_8 sl]
        exact hK _ _ ⟨_, _, _, _, _, _, _, _, rfl, hg', by omega, he, hbb, rfl, hb.trans (q6.mono hb.size), fun _ => ⟨B, cb, rfl, q1, Kd.C_below q2 q6⟩, fun e1 => SceneV_below (k3 e1) q6, hR⟩
    · obtain ⟨r1, r2, r3, r4⟩ := h13 (he rfl)
      obtain ⟨v, w2, q1, q2, q3⟩ := r4 (put5 s2 s3 s6 s8 s13 a x2 x3 y6 x8 x13) w' _ _ _ hb k8
      refine ⟨o13, r1, fun K hK => ?_⟩
      rw [hbits] at hK
      refine event_step (wnt _ _ r2) q1 ?_
      rw [r3, put5_13 sl]
      exact hK _ _ ⟨_, _, _, _, _, _, _, _, rfl, hg', by omega, fun h => (by cases h), hbb, rfl, hb.trans (q2.mono hb.size), fun e1 => by obtain ⟨B, cb, q0, q1, q2'⟩ := k2 e1; exact ⟨B, cb, q0, q1, Kd.C_below q2' q2⟩, fun e1 => SceneV_below (k3 e1) q2, q3⟩
  · refine ⟨false, b0, false, e0, y2, y3, y8, y13, rfl, (by cases b0 <;> rfl), ?_, id, id, ha, Below.refl _ _, fun h => (by cases h), hb0, he0⟩
    simp only [cntS, Bool.toNat_false]
    omega
end
end Go.Proofs.Ytfoodfhhdbaieaa.Giv
