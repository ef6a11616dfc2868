-- CUT by a program of this session: what the claim does not use is left out
import Derived.Test.YtfoodfhhdbaieaaT30
import Derived.Test.YtfoodfhhdbaieaaT57
namespace Go.Proofs.Ytfoodfhhdbaieaa.Giv
set_option linter.unusedSimpArgs false
set_option linter.unusedVariables false
open Go.ChangeShapes Go.WideShapes Go.RowKit Go.Proofs.YtfoodfhhdbaieaaW.PrintWords Go.Proofs.YtfoodfhhdbaieaaW.PrintLast Go.Proofs.YtfoodfhhdbaieaaW.PrintMore
open Go.Proofs.Ytfoodfhhdbaieaa.Ka (S54 k54 k54_mk)

theorem open_lists {H : Type} {enc : TypeId × Value → H} {W : World} {base : Nat} {held : Bool} {fuel : Nat} {cs : List Value} {x : DataW H × List MemPlace} (h : DataW.trod enc Try.prog W base (fun _ => true) held fuel 30 cs = some x) :
    ∃ A l c, cs = [.slice A (l : List (List Int)).length c] ∧ l.length ≤ c ∧ Kd.C (Kd.slice 3 (Kd.int .i64)) W A l.length l ∧ ((∀ m ∈ x.1.weights Try.prog 30, m ≤ reachBytes) → ∀ r ∈ l, r.length ≤ 18000000000000) := by
  rcases Go.Deep.open_slice Try.underlying30 h with ⟨rfl, rfl⟩ | ⟨a, len, cap, m, n, D, Pl, rfl, hb, hl, hm, hmm, rfl, hel⟩
  · exact ⟨none, [], 0, rfl, Nat.le_refl _, ⟨rfl, by simp, fun h0 => absurd h0 (by simp)⟩, fun _ r hr => by cases hr⟩
  · simp only [if_true] at hmm
    rw [cellsO25] at hel
    obtain ⟨l, hln, hP⟩ := list_of (P := fun i r => ∃ cs', W.cells? base (a.add (i * 1)) 1 = some cs' ∧ (Kd.slice 3 (Kd.int .i64)).K W r cs' ∧ ((∀ m ∈ (D i).weights Try.prog 25, m ≤ reachBytes) → r.length ≤ 18000000000000)) len (fun i hi => by
      obtain ⟨cs', h1, h2⟩ := hel i (by omega)
      obtain ⟨A, r, c, e, k1, k2, k3⟩ := open_row h2
      exact ⟨r, cs', h1, ⟨A, c, e, k1, k2⟩, fun hw => fits_of (k3 hw)⟩)
    subst hln
    refine ⟨some a, l, cap, rfl, hl, ⟨rfl, by unfold maxLen at hm; omega, fun _ => ⟨a, rfl, fun j p hj => ?_⟩⟩, fun hw r hr => ?_⟩
    · obtain ⟨cs', h1, h2, _⟩ := hP j p hj
      obtain ⟨_, h3, h4⟩ := World.cells?_some h1
      refine ⟨cs', h3, h2, fun i u hu => ?_⟩
      have hi : i < 1 := by have := (List.getElem?_eq_some_iff.1 hu).1; omega
      have := h4 i hi
      rw [hu] at this
      rw [← this]
      show W.cell? (a.add (j * 1 + i)) = _
      rw [Go.Proofs.YtfoodfhhdbaieaaW.PrintWords.add_add]
    · obtain ⟨j, hj, rfl⟩ := List.getElem_of_mem hr
      obtain ⟨cs', _, _, h3⟩ := hP j _ (List.getElem?_eq_getElem hj)
      refine h3 (fun m hm' => hw m ?_)
      simp only [DataW.weights, Try.underlying30, List.mem_cons, List.mem_append]
      exact .inr (.inl (weightsAll_mem hm' (List.mem_map.2 ⟨j, List.mem_range.2 hj, rfl⟩)))
theorem cellsO30 : Try.prog.cellsOf 30 = 1 := by kernel_rfl
theorem cellsO32 : Try.prog.cellsOf 32 = 3 := by kernel_rfl
theorem list3 {α : Type} {l : List α} (h : l.length = 3) : ∃ a b c, l = [a, b, c] := by
  match l, h with
  | [a, b, c], _ => exact ⟨a, b, c, rfl⟩
theorem open_machine {H : Type} {enc : TypeId × Value → H} {W : World} {base : Nat} {held : Bool} {fuel : Nat} {cs : List Value} {x : DataW H × List MemPlace} (hM : DataW.trod enc Try.prog W base (fun _ => true) held fuel 24 cs = some x) :
    ∃ a0 a1 a2 A l c, cs = [.int .i64 a0, .int .i64 a1, .int .i64 a2, .slice A (l : List S54).length c] ∧ l.length ≤ c ∧ Kd.C k54 W A l.length l ∧ ((∀ m ∈ x.1.weights Try.prog 24, m ≤ reachBytes) → ∀ r ∈ l, Fits r) := by
  obtain ⟨_, _, _, _, hl, _, _⟩ := DataW.trod_struct Try.underlying24 hM
  rw [cellsO24] at hl
  match cs, hl with
  | [c0, c1, c2, c3], _ =>
    obtain ⟨z0, z1, z2, z3, n', rfl, _, m0, m1, m2, m3⟩ := Go.Joins.trod_struct4 Try.underlying24 hM
    simp only [cellsO3, cellsO22, List.drop_zero, List.drop_succ_cons, List.take_succ_cons, List.take_zero] at m0 m1 m2 m3
    obtain ⟨n0, e0, _⟩ := DataW.trod_int Try.underlying3 m0
    obtain ⟨n1, e1, _⟩ := DataW.trod_int Try.underlying3 m1
    obtain ⟨n2, e2, _⟩ := DataW.trod_int Try.underlying3 m2
    obtain ⟨A, l, d3, e3, k3, g3, w3⟩ := open_rules m3
    injection e0 with e0 _
    injection e1 with e1 _
    injection e2 with e2 _
    injection e3 with e3 _
    subst e0; subst e1; subst e2; subst e3
    refine ⟨n0, n1, n2, A, l, d3, rfl, k3, g3, fun hw => w3 (fun m hm => hw m ?_)⟩
    simp only [DataW.weights, Try.underlying24, List.map_cons, List.map_nil, DataW.weightsEach, List.mem_append]
    exact .inr (.inr (.inr (.inl hm)))
theorem open_scene {H : Type} {enc : TypeId × Value → H} {W : World} {base : Nat} {held : Bool} {fuel : Nat} {cs : List Value} {x : DataW H × List MemPlace} (h : DataW.trod enc Try.prog W base (fun _ => true) held fuel 32 cs = some x) :
    ∃ s A1 at_ c1 A2 tp c2, cs = [.int .i64 s, .slice A1 (at_ : List Int).length c1, .slice A2 (tp : List (List Int)).length c2] ∧ at_.length ≤ c1 ∧ Kd.C (Kd.int .i64) W A1 at_.length at_ ∧ tp.length ≤ c2 ∧ Kd.C (Kd.slice 3 (Kd.int .i64)) W A2 tp.length tp ∧ ((∀ m ∈ x.1.weights Try.prog 32, m ≤ reachBytes) → FitsS at_ tp) := by
  obtain ⟨xs, n, _, rfl, hl, hlen, hf⟩ := DataW.trod_struct Try.underlying32 h
  rw [cellsO32] at hl
  obtain ⟨c0, c1, c2, rfl⟩ := list3 hl
  obtain ⟨y0, y1, y2, rfl⟩ := list3 (hlen.trans rfl)
  have h0 := hf 0 _ rfl
  have h1 := hf 1 _ rfl
  have h2 := hf 2 _ rfl
  simp only [cellsO25, cellsO3, cellsO30, List.drop_zero, List.drop_succ_cons, List.take_succ_cons, List.take_zero, List.getElem?_cons_zero, List.getElem?_cons_succ] at h0 h1 h2
  obtain ⟨n0, e0, _⟩ := DataW.trod_int Try.underlying3 h0
  obtain ⟨A1, l1, d1, e1, k1, g1, w1⟩ := open_row h1
  obtain ⟨A2, l2, d2, e2, k2, g2, w2⟩ := open_lists h2
  injection e0 with e0 _
  injection e1 with e1 _
  injection e2 with e2 _
  subst e0; subst e1; subst e2
  refine ⟨n0, A1, l1, d1, A2, l2, d2, rfl, k1, g1, k2, g2, fun hw => ?_⟩
  simp only [DataW.weights, Try.underlying32, List.map_cons, List.map_nil, DataW.weightsEach, List.mem_append] at hw
  exact ⟨fits_of (w1 fun m hm => hw m (.inr (.inl hm))), w2 fun m hm => hw m (.inr (.inr (.inl hm)))⟩
theorem machine_value {v : Value} {a b c d : Value} (h : v.cells.toList = [a, b, c, d]) : v = .agg #[a, b, c, d] := by
  cases v
  case agg cs => simp [Value.cells] at h; exact congrArg Value.agg (Array.toList_inj.1 h)
  all_goals simp [Value.cells] at h
theorem scene_value {v : Value} {a b c : Value} (h : v.cells.toList = [a, b, c]) : v = .agg #[a, b, c] := by
  cases v
  case agg cs => simp [Value.cells] at h; exact congrArg Value.agg (Array.toList_inj.1 h)
  all_goals simp [Value.cells] at h
end Go.Proofs.Ytfoodfhhdbaieaa.Giv
