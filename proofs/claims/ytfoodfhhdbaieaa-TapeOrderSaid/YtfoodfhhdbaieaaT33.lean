/- The rules' order is nothing to a run; two rules exchanged in a row of one's own; SameScene of two scenes that read alike. -/
import Derived.Test.YtfoodfhhdbaieaaT20
import Derived.Test.YtfoodfhhdbaieaaT21
import Derived.Test.YtfoodfhhdbaieaaT3
import Derived.Test.YtfoodfhhdbaieaaWNEv
import Derived.Test.YtfoodfhhdbaieaaT13
import Derived.Test.YtfoodfhhdbaieaaKax8
namespace Go.Proofs.Ytfoodfhhdbaieaa.Giv
set_option linter.unusedSimpArgs false
set_option linter.unusedVariables false
open Go.RowKit
open Go.Proofs.Ytfoodfhhdbaieaa.Ka (S54 rd_T54 rd_L1)

theorem rulesB_iff (a0 a1 a2 : Int) : ∀ (l : List S54) (seen : List (List Int)), rulesB a0 a1 a2 seen l = true ↔ (∀ r ∈ l, ruleB a0 a1 a2 r = true) ∧ (keysL l).Nodup ∧ ∀ k ∈ keysL l, k ∉ seen
  | [], seen => by simp [rulesB, keysL]
  | r :: l, seen => by
    have ih := rulesB_iff a0 a1 a2 l (seen ++ [keyL r.f0 r.f1])
    unfold rulesB
    rw [Bool.and_eq_true, Bool.and_eq_true, ih]
    have e : keysL (r :: l) = keyL r.f0 r.f1 :: keysL l := rfl
    rw [e]
    constructor
    · rintro ⟨⟨h1, h2⟩, h3, h4, h5⟩
      have h2' : keyL r.f0 r.f1 ∉ seen := fun hm => by rw [List.contains_iff_mem.2 hm] at h2; cases h2
      refine ⟨fun x hx => ?_, List.nodup_cons.2 ⟨fun hm => h5 _ hm (by simp), h4⟩, fun k hk => ?_⟩
      · rcases List.mem_cons.1 hx with rfl | hx
        · exact h1
        · exact h3 x hx
      · rcases List.mem_cons.1 hk with rfl | hk
        · exact h2'
        · exact fun hm => h5 k hk (List.mem_append_left _ hm)
    · rintro ⟨h1, h2, h3⟩
      obtain ⟨h4, h5⟩ := List.nodup_cons.1 h2
      refine ⟨⟨h1 r (List.mem_cons_self), ?_⟩, fun x hx => h1 x (List.mem_cons_of_mem _ hx), h5, fun k hk hm => ?_⟩
      · cases hc : seen.contains (keyL r.f0 r.f1) with
        | false => rfl
        | true => exact absurd (List.contains_iff_mem.1 hc) (h3 _ (List.mem_cons_self))
      · rcases List.mem_append.1 hm with hm | hm
        · exact h3 k (List.mem_cons_of_mem _ hk) hm
        · rw [List.mem_singleton.1 hm] at hk
          exact h4 hk
theorem validM_perm {a0 a1 a2 : Int} {l l' : List S54} (h : l.Perm l') : validM a0 a1 a2 l = validM a0 a1 a2 l' := by
  have key : ∀ {x y : List S54}, x.Perm y → rulesB a0 a1 a2 [] x = true → rulesB a0 a1 a2 [] y = true := fun hp hx => by
    rw [rulesB_iff] at hx ⊢
    obtain ⟨h1, h2, _⟩ := hx
    refine ⟨fun r hr => h1 r (hp.mem_iff.2 hr), (hp.map _).nodup_iff.1 h2, fun _ _ => by simp⟩
  unfold validM
  congr 1
  rw [Bool.eq_iff_iff]
  exact ⟨key h, key h.symm⟩
theorem findR_perm {l l' : List S54} (h : l.Perm l') (hn : (keysL l).Nodup) (s : Int) (x : List Int) : findR l s x = findR l' s x := by
  have hn' : (keysL l').Nodup := (h.map _).nodup_iff.1 hn
  cases hf : findR l s x with
  | some r =>
    have hm : r ∈ l := List.mem_of_find?_eq_some hf
    have hk : keyL r.f0 r.f1 = keyL s x := by have := List.find?_some hf; simpa using this
    exact (find_mem hn' (h.mem_iff.1 hm) hk).symm
  | none =>
    cases hf' : findR l' s x with
    | none => rfl
    | some r =>
      have hm : r ∈ l' := List.mem_of_find?_eq_some hf'
      have hk : keyL r.f0 r.f1 = keyL s x := by have := List.find?_some hf'; simpa using this
      rw [find_mem hn (h.mem_iff.2 hm) hk] at hf
      cases hf
theorem stepS_perm {l l' : List S54} (h : l.Perm l') (hn : (keysL l).Nodup) (c : Sc) : stepS l c = stepS l' c := by
  unfold stepS
  rw [findR_perm h hn]
theorem runS_perm {l l' : List S54} (h : l.Perm l') (hn : (keysL l).Nodup) : ∀ (m : Nat) (c : Sc), runS l m c = runS l' m c
  | 0, c => rfl
  | m + 1, c => by
    simp only [runS, stepS_perm h hn c]
    cases stepS l' c with
    | none => rfl
    | some d => simp only [runS_perm h hn m d]
theorem farS_perm {σ : Type} {f : σ → List Int → σ} {l l' : List S54} (h : l.Perm l') (hn : (keysL l).Nodup) : ∀ (m : Nat) (c : Sc) (st : σ), farS f l m c st = farS f l' m c st
  | 0, c, st => rfl
  | m + 1, c, st => by
    simp only [farS, stepS_perm h hn c]
    cases stepS l' c with
    | none => rfl
    | some d => simp only [farS_perm h hn m d]
theorem errF_perm {a0 a1 a2 : Int} {l l' : List S54} (h : l.Perm l') (inp : List Int) (most : Int) : errF a0 a1 a2 l inp most = errF a0 a1 a2 l' inp most := by
  unfold errF
  rw [validM_perm h]
theorem runQ_perm {a0 a1 a2 : Int} {l l' : List S54} (h : l.Perm l') (inp : List Int) (most : Int) : runQ a0 a1 a2 l inp most = runQ a0 a1 a2 l' inp most := by
  unfold runQ
  rw [← errF_perm h]
  split
  · next he =>
    have hn := (valid_ok (errF_ok he).1).2
    rw [runS_perm h hn]
  · rfl
theorem spaceQ_perm {a0 a1 a2 : Int} {l l' : List S54} (h : l.Perm l') (inp : List Int) (most : Int) : spaceQ a0 a1 a2 l inp most = spaceQ a0 a1 a2 l' inp most := by
  unfold spaceQ
  rw [← errF_perm h]
  split
  · next he =>
    have hn := (valid_ok (errF_ok he).1).2
    unfold farQ
    rw [farS_perm h hn]
  · rfl
end Go.Proofs.Ytfoodfhhdbaieaa.Giv
namespace Go.Proofs.Ytfoodfhhdbaieaa.Giv
set_option linter.unusedSimpArgs false
set_option linter.unusedVariables false
open Go.RowKit Go.Proofs.YtfoodfhhdbaieaaW.PrintWords Go.Proofs.YtfoodfhhdbaieaaW.PrintLast Go.Proofs.YtfoodfhhdbaieaaW.PrintMore
open Go.Proofs.Ytfoodfhhdbaieaa.Ka (S54 k54 z54 rd_T54 at_T54 k54_open k54_mk k54_openM k54_mkM k54_mkF rd_L1 at_L1 info3 info25 info54)

theorem N_put {W : World} {base g n cap : Nat} {ok okp : Nat → Prop} {xs : List S54} (h : Kd.N k54 54 W base ok (.slice (some ⟨g, 0, none⟩) n cap) xs) (i : Int) (h0 : 0 ≤ i) (h1 : i < n) {x' : S54} {c' : List Value} (hM : Kd.FK k54 W okp x' c') (hokp : ∀ k, okp k → ok k ∧ k ≠ g) :
    Kd.N k54 54 (W.setCells g (i.toNat * 5) c') base ok (.slice (some ⟨g, 0, none⟩) n cap) (xs.set i.toNat x') ∧ W.grownBy (W.setCells g (i.toNat * 5) c') (some g) ∧ (Instr.storeAt 54 (.pointer (some ⟨g, i.toNat * 5, none⟩)) (.agg c'.toArray)).run Try.prog W = .ok () (W.setCells g (i.toNat * 5) c') := by
  have hl : c'.length = 5 := k54.K_len (Kd.FK_now hM)
  have ho : ∀ q ∈ c', q.oneCell' = true := k54.K_one (Kd.FK_now hM)
  obtain ⟨c, hcl, _, hcc, _⟩ := Kd.N_elem h z54 i h0 h1
  have hcl' : c.length = 5 := hcl
  obtain ⟨q1, q2⟩ := Kd.N_seg h i h0 h1 (c := c) (seg := c') (j := 0) hcl hcc (by rw [hl]; exact Nat.le_refl 5) (x' := x') (okp := okp) (by
    rw [Nat.zero_add, hl, List.take_zero, List.nil_append, List.drop_of_length_le (by rw [hcl']; exact Nat.le_refl 5), List.append_nil]; exact hM) hokp
  refine ⟨q1, q2, ?_⟩
  have hnx : n = xs.length := (Kd.N_reads' h).1
  obtain ⟨_, rows, hrl, hR, _⟩ := h
  have hrn := (Kd.R_reads' hR).1
  obtain ⟨_, inner, hown, hr⟩ := hR
  rcases hown.2 with ⟨hv, _⟩ | ⟨g', cap', cur, hv, hb, hh, hnc, hcm, hcs, _⟩
  · cases hv
  injection hv with ha _ hc
  injection ha with ha
  injection ha with hg'
  subst hg'; subst hc
  refine run_store_run 54 _ c' hh (by simp [Value.cells]) (by rw [hl]; kernel_rfl) ?_ ho
  have hcs' : cur.size = cap * 5 := hcs
  omega
/-- What an exchange leaves. -/
def swapL (l : List S54) (i j : Nat) : List S54 := (l.set i (l.getD j z54)).set j (l.getD i z54)
theorem swapL_perm {l : List S54} {i j : Nat} (hi : i < l.length) (hj : j < l.length) : (swapL l i j).Perm l := by
  have : ((l.set i l[j]).set j l[i]).Perm l := List.set_set_perm hi hj
  unfold swapL
  rw [List.getD_eq_getElem?_getD, List.getElem?_eq_getElem hj, List.getD_eq_getElem?_getD, List.getElem?_eq_getElem hi]
  exact this
theorem N_swap {W : World} {base g n cap : Nat} {ok : Nat → Prop} {xs : List S54} (h : Kd.N k54 54 W base ok (.slice (some ⟨g, 0, none⟩) n cap) xs) (i j : Int) (i0 : 0 ≤ i) (i1 : i < n) (j0 : 0 ≤ j) (j1 : j < n) {ci cj : List Value}
    (hci : ∀ t u, ci[t]? = some u → W.cell? ⟨g, i.toNat * 5 + t, none⟩ = some u) (lci : ci.length = 5) (hcj : ∀ t u, cj[t]? = some u → W.cell? ⟨g, j.toNat * 5 + t, none⟩ = some u) (lcj : cj.length = 5) :
    (Instr.storeAt 54 (.pointer (some ⟨g, i.toNat * 5, none⟩)) (.agg cj.toArray)).run Try.prog W = .ok () (W.setCells g (i.toNat * 5) cj) ∧ W.grownBy (W.setCells g (i.toNat * 5) cj) (some g) ∧ Kd.N k54 54 (W.setCells g (i.toNat * 5) cj) base ok (.slice (some ⟨g, 0, none⟩) n cap) (xs.set i.toNat (xs.getD j.toNat z54)) ∧
      (W.setCells g (i.toNat * 5) cj).grownBy ((W.setCells g (i.toNat * 5) cj).setCells g (j.toNat * 5) ci) (some g) ∧
      Kd.N k54 54 ((W.setCells g (i.toNat * 5) cj).setCells g (j.toNat * 5) ci) base ok (.slice (some ⟨g, 0, none⟩) n cap) (swapL xs i.toNat j.toNat) := by
  have same : ∀ {c c' : List Value} {o : Nat}, c.length = 5 → c'.length = 5 → (∀ t u, c[t]? = some u → W.cell? ⟨g, o + t, none⟩ = some u) → (∀ t u, c'[t]? = some u → W.cell? ⟨g, o + t, none⟩ = some u) → c = c' := fun {c c' o} h1 h2 h3 h4 => by
    apply List.ext_getElem (by omega)
    intro t t1 t2
    have a1 := h3 t _ (List.getElem?_eq_getElem t1)
    have a2 := h4 t _ (List.getElem?_eq_getElem t2)
    rw [a1] at a2
    injection a2
  obtain ⟨c, e1, fi, e2, _⟩ := Kd.N_elem h z54 i i0 i1
  obtain rfl : c = ci := same e1 lci e2 hci
  obtain ⟨c2, e3, fj, e4, _⟩ := Kd.N_elem h z54 j j0 j1
  obtain rfl : c2 = cj := same e3 lcj e4 hcj
  obtain ⟨n1, g1, r1⟩ := N_put h i i0 i1 fj (fun k hk => hk)
  have fi' : Kd.FK k54 (W.setCells g (i.toNat * 5) c2) (fun k => ok k ∧ k ≠ g) (xs.getD i.toNat z54) c := Kd.FK_step fi (fun k hk hlt => g1.block k hlt (fun he => hk.2 (by injection he)))
  obtain ⟨n2, g2, r2⟩ := N_put n1 j j0 j1 fi' (fun k hk => hk)
  exact ⟨r1, g1, n1, g2, n2⟩
theorem exec_store54 {o : Oper} {a : Act} {W W1 : World} {p x : Operand} {ad : Option Addr} {u : Value} (hop : o.op = .store 54 p x) (hp : a.eval p = .pointer ad) (hx : a.eval x = u) (hrun : (Instr.storeAt 54 (.pointer ad) u).run Try.prog W = .ok () W1) : (execOp a.eval o).run Try.prog W = .ok .skip W1 := by
  unfold execOp
  simp only [hop, hp, hx, Sem.run_bind, Sem.run_pure, Result.andThen_ok, hrun]
/-- An element's cells, by their offsets. -/
theorem N_cells {W : World} {base g n cap : Nat} {ok : Nat → Prop} {xs : List S54} (h : Kd.N k54 54 W base ok (.slice (some ⟨g, 0, none⟩) n cap) xs) (i : Int) (i0 : 0 ≤ i) (i1 : i < n) :
    ∃ B1 d1 B3 d3 B4 d4, ∀ t u, [Value.int .i64 (rd_T54 xs i).f0, .slice B1 (rd_T54 xs i).f1.length d1, .int .i64 (rd_T54 xs i).f2, .slice B3 (rd_T54 xs i).f3.length d3, .slice B4 (rd_T54 xs i).f4.length d4][t]? = some u → W.cell? ⟨g, i.toNat * 5 + t, none⟩ = some u := by
  obtain ⟨c, e1, fi, e2, _⟩ := Kd.N_elem h z54 i i0 i1
  obtain ⟨B1, d1, B3, d3, B4, d4, rfl, _⟩ := k54_open (Kd.FK_now fi)
  exact ⟨B1, d1, B3, d3, B4, d4, e2⟩
theorem set3 {w : World} {g : Nat} {t : TypeId} {x y z : Value} (h : w.heap[g]? = some (.cells #[x, y, z] t (0, 0))) (a b c : Value) : (((w.setCell ⟨g, 0, none⟩ a).setCell ⟨g, 1, none⟩ b).setCell ⟨g, 2, none⟩ c).heap[g]? = some (.cells #[a, b, c] t (0, 0)) :=
  (heap_setCell_same _ g 2 _ t _ ((heap_setCell_same _ g 1 _ t _ ((heap_setCell_same _ g 0 _ t _ h).trans rfl)).trans rfl)).trans rfl
theorem set4 {w : World} {g : Nat} {t : TypeId} {x y z u : Value} (h : w.heap[g]? = some (.cells #[x, y, z, u] t (0, 0))) (a b c d : Value) : ((((w.setCell ⟨g, 0, none⟩ a).setCell ⟨g, 1, none⟩ b).setCell ⟨g, 2, none⟩ c).setCell ⟨g, 3, none⟩ d).heap[g]? = some (.cells #[a, b, c, d] t (0, 0)) :=
  (heap_setCell_same _ g 3 _ t _ ((heap_setCell_same _ g 2 _ t _ ((heap_setCell_same _ g 1 _ t _ ((heap_setCell_same _ g 0 _ t _ h).trans rfl)).trans rfl)).trans rfl)).trans rfl
theorem set5 {w : World} {g : Nat} {t : TypeId} {x y z u v : Value} (h : w.heap[g]? = some (.cells #[x, y, z, u, v] t (0, 0))) (a b c d e : Value) : (((((w.setCell ⟨g, 0, none⟩ a).setCell ⟨g, 1, none⟩ b).setCell ⟨g, 2, none⟩ c).setCell ⟨g, 3, none⟩ d).setCell ⟨g, 4, none⟩ e).heap[g]? = some (.cells #[a, b, c, d, e] t (0, 0)) :=
  (heap_setCell_same _ g 4 _ t _ ((heap_setCell_same _ g 3 _ t _ ((heap_setCell_same _ g 2 _ t _ ((heap_setCell_same _ g 1 _ t _ ((heap_setCell_same _ g 0 _ t _ h).trans rfl)).trans rfl)).trans rfl)).trans rfl)).trans rfl
/-- An index brought into range. -/
theorem turn_bound (t : Int) {n : Nat} (h0 : n ≠ 0) (h : n ≤ 2000) : 0 ≤ (wrap64 (t.tmod n + n)).tmod n ∧ (wrap64 (t.tmod n + n)).tmod n < n := by
  have hp : (0 : Int) < n := by omega
  have h1 : t.tmod n < n := Int.tmod_lt_of_pos t hp
  have h2 : -(t.tmod n) < n := by rw [← Int.neg_tmod]; exact Int.tmod_lt_of_pos (-t) hp
  obtain ⟨x, hx⟩ : ∃ x, t.tmod n = x := ⟨_, rfl⟩
  rw [hx] at h1 h2 ⊢
  have e : wrap64 (x + n) = x + n := by clear hx; unfold wrap64; omega
  rw [e]
  exact ⟨Int.tmod_nonneg _ (by omega), Int.tmod_lt_of_pos _ hp⟩
end Go.Proofs.Ytfoodfhhdbaieaa.Giv
namespace Go.Proofs.Ytfoodfhhdbaieaa.Giv
set_option linter.unusedSimpArgs false
set_option linter.unusedVariables false
open Go.RowKit Go.Proofs.YtfoodfhhdbaieaaW.PrintWords Go.Proofs.YtfoodfhhdbaieaaW.PrintLast Go.Proofs.YtfoodfhhdbaieaaW.PrintMore
open Go.Proofs.Ytfoodfhhdbaieaa.Ka (rd_L1 commodatumref20_Equal.l0 commodatumref20_Equal.f commodatumref20_SameScene.l0 commodatumref20_SameScene.j0 commodatumref20_SameScene.f)

theorem wrap64_up {x : Int} (h0 : 0 ≤ x) (h1 : x ≤ 9223372036854775807) : wrap64 x = x := by unfold wrap64; omega
theorem equal_self {l : List Int} (hl : l.length ≤ 9223372036854775807) : ∀ (k : Nat) (i : Int), 0 ≤ i → i ≤ l.length → (l.length : Int) - i < k → commodatumref20_Equal.l0 k l l i = some true
  | 0, i, h0, h1, h => by omega
  | k + 1, i, h0, h1, h => by
    unfold commodatumref20_Equal.l0
    by_cases hi : i < (l.length : Int)
    · rw [if_pos hi, if_pos h0, if_pos hi, if_pos rfl, wrap64_up (by omega) (by omega)]
      exact equal_self hl k (i + 1) (by omega) (by omega) (by omega)
    · rw [if_neg hi]
theorem equalF_self {l : List Int} (hl : l.length ≤ 9223372036854775807) (k : Nat) (h : l.length < k) : commodatumref20_Equal.f k l l = some true := by
  unfold commodatumref20_Equal.f
  rw [if_pos rfl]
  exact equal_self hl k 0 (by omega) (by omega) (by omega)
theorem rd_L1_mem {tp : List (List Int)} {i : Int} (h0 : 0 ≤ i) (h1 : i < (tp.length : Int)) : rd_L1 tp i ∈ tp := by
  unfold rd_L1
  rw [List.getD_eq_getElem?_getD, List.getElem?_eq_getElem (by omega)]
  exact List.getElem_mem _
theorem scene_self {s : Int} {at_ : List Int} {tp : List (List Int)} {M : Nat} (hl : tp.length ≤ 9223372036854775807) (hM : ∀ x ∈ tp, x.length ≤ M ∧ x.length ≤ 9223372036854775807) : ∀ (k : Nat) (i : Int), 0 ≤ i → i ≤ tp.length → (tp.length : Int) - i + M + 1 < k → commodatumref20_SameScene.l0 k i s at_ tp s at_ tp = some true
  | 0, i, h0, h1, h => by omega
  | k + 1, i, h0, h1, h => by
    unfold commodatumref20_SameScene.l0
    by_cases hi : i < (tp.length : Int)
    · have hm := hM _ (rd_L1_mem h0 hi)
      rw [if_pos hi, if_pos h0, if_pos hi, equalF_self hm.2 k (by omega), wrap64_up (by omega) (by omega), Option.bind_some, if_pos rfl]
      exact scene_self hl hM k (i + 1) (by omega) (by omega) (by omega)
    · rw [if_neg hi]
theorem sameF_self {s : Int} {at_ : List Int} {tp : List (List Int)} {M : Nat} (ha : at_.length ≤ 9223372036854775807) (hl : tp.length ≤ 9223372036854775807) (hM : ∀ x ∈ tp, x.length ≤ M ∧ x.length ≤ 9223372036854775807) : ∃ k, commodatumref20_SameScene.f k s at_ tp s at_ tp = some true := by
  refine ⟨tp.length + M + at_.length + 4, ?_⟩
  unfold commodatumref20_SameScene.f
  rw [if_pos rfl, equalF_self ha _ (by omega), Option.bind_some, if_pos rfl, show (((tp.length : Int)) != (tp.length : Int)) = false by simp]
  show (if false = true then some false else commodatumref20_SameScene.l0 (tp.length + M + at_.length + 3) 0 s at_ tp s at_ tp) = _
  rw [if_neg (by decide)]
  exact scene_self hl hM _ 0 (by omega) (by omega) (by omega)
theorem max_len (tp : List (List Int)) : ∃ M, ∀ x ∈ tp, x.length ≤ M := by
  induction tp with
  | nil => exact ⟨0, fun x hx => by cases hx⟩
  | cons y l ih =>
    obtain ⟨M, h⟩ := ih
    refine ⟨max y.length M, fun x hx => ?_⟩
    rcases List.mem_cons.1 hx with rfl | hx
    · omega
    · have := h x hx; omega
theorem tapes_len {w : World} {A : Option Addr} {tp : List (List Int)} (h : Kd.C (Kd.slice 3 (Kd.int .i64)) w A tp.length tp) : tp.length ≤ 9223372036854775807 ∧ ∀ x ∈ tp, x.length ≤ 9223372036854775807 := by
  obtain ⟨_, h1, h2⟩ := h
  refine ⟨h1, fun x hx => ?_⟩
  obtain ⟨j, hj, rfl⟩ := List.getElem_of_mem hx
  obtain ⟨ad, _, h3⟩ := h2 (by omega)
  obtain ⟨c, _, ⟨_, _, _, _, h4⟩, _⟩ := h3 j _ (List.getElem?_eq_getElem hj)
  exact h4.2.1
theorem same_C {w : World} {v u : Value} {s : Int} {at_ : List Int} {tp : List (List Int)} (hv : SceneV w v s at_ tp) (hu : SceneV w u s at_ tp) : Calls Try.prog 22 #[v, u] w fun e w' => e = .returned (.bool true) ∧ Below w.heap.size w w' := by
  obtain ⟨A1, c1, A2, c2, rfl, l1, r1, l2, r2⟩ := hv
  obtain ⟨B1, d1, B2, d2, rfl, m1, s1, m2, s2⟩ := hu
  obtain ⟨t1, t2⟩ := tapes_len r2
  obtain ⟨M, hM⟩ := max_len tp
  obtain ⟨k, hk⟩ := sameF_self (s := s) (at_ := at_) (tp := tp) (M := M) r1.2.1 t1 (fun x hx => ⟨hM x hx, t2 x hx⟩)
  exact Ka.commodatumref20_SameScene.calls k s A1 c1 at_ A2 c2 tp s B1 d1 at_ B2 d2 tp true w r1 l1 r2 l2 s1 m1 s2 m2 hk
end Go.Proofs.Ytfoodfhhdbaieaa.Giv
