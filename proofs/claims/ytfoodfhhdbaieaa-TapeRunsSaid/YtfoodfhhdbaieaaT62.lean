-- CUT by a program of this session: what the claim does not use is left out
import Derived.Test.YtfoodfhhdbaieaaT20
import Derived.Test.YtfoodfhhdbaieaaT42
import Derived.Test.YtfoodfhhdbaieaaT61
import Derived.Test.YtfoodfhhdbaieaaT63
import Derived.Deep.CutBlock
namespace Go.Proofs.Ytfoodfhhdbaieaa.Giv
set_option linter.unusedSimpArgs false
set_option linter.unusedVariables false
open Go.RowKit Go.Shelf Go.Proofs.YtfoodfhhdbaieaaW.PrintWords Go.Proofs.YtfoodfhhdbaieaaW.PrintLast Go.Proofs.YtfoodfhhdbaieaaW.PrintMore
open Go.Proofs.Ytfoodfhhdbaieaa.Ka (S54 k54 z54 rd_T54 at_T54 k54_open rd_L1 at_L1 info3 info25 info54)

theorem SceneOwn.reads' {w u : World} {base : Nat} {s : Int} {v1 v2 : Value} {at_ : List Int} {us : List Value} {tp : List (List Int)} (h : SceneOwn w base v1 at_ v2 us tp) (ha : ∀ k, base ≤ k → u.heap[k]? = w.heap[k]?) : SceneV u (.agg #[.int .i64 s, v1, v2]) s at_ tp := by
  obtain ⟨X1, y1, e1, h1, c1⟩ := own_C (own_agree h.row1 ha)
  obtain ⟨X2, y2, e2, h2, c2⟩ := own_C2 (own_agree h.row2 ha) h.len1 (fun i u l hu hl => own_agree (h.inner i u l hu hl) ha)
  subst e1; subst e2
  exact ⟨X1, y1, X2, y2, rfl, h1, c1, h2, c2⟩
theorem own_same {w w' : World} {base : Nat} {e : TypeId} {n : Nat} {v : Value} {xs : List Value} (h : w.ownsRow base e 1 v n xs) (ha : ∀ k, v.ownBlock = some k → w'.heap[k]? = w.heap[k]?) : w'.ownsRow base e 1 v n xs := by
  refine ⟨h.1, ?_⟩
  rcases h.2 with hn | ⟨g, cap, cur, hv, hb, hg, rest⟩
  · exact .inl hn
  · exact .inr ⟨g, cap, cur, hv, hb, (ha g (by rw [hv]; rfl)).trans hg, rest⟩
theorem own_lt {w : World} {base : Nat} {e : TypeId} {n : Nat} {v : Value} {xs : List Value} (h : w.ownsRow base e 1 v n xs) : ∀ k, v.ownBlock = some k → k < w.heap.size := fun k hk => by
  obtain ⟨c, hc⟩ := own_typed h k hk
  exact (Array.getElem?_eq_some_iff.1 hc).1
theorem rd_maxTo (st a : List Int) : ∀ (k j : Nat), rd (maxTo st a k) j = if j < k ∧ j < st.length then maxI (rd st j) (rd a j) else rd st j
  | 0, j => by simp [maxTo]
  | k + 1, j => by
    simp only [maxTo]
    rw [rd_set, maxTo_len, rd_maxTo st a k j, rd_maxTo st a k k]
    by_cases h : k = j
    · subst h
      by_cases hl : k < st.length
      · rw [if_pos ⟨rfl, hl⟩, if_neg (by omega), if_pos ⟨by omega, hl⟩]
      · rw [if_neg (by omega), if_neg (by omega), if_neg (by omega)]
    · rw [if_neg (by omega)]
      by_cases hl : j < k ∧ j < st.length
      · rw [if_pos hl, if_pos ⟨by omega, hl.2⟩]
      · rw [if_neg hl, if_neg (by omega)]
theorem sumTo_congr {st fr : List Int} : ∀ {k : Nat}, (∀ j : Nat, j < k → rd fr j = rd st j) → sumTo fr k = sumTo st k
  | 0, _ => rfl
  | k + 1, h => by
    simp only [sumTo]
    rw [sumTo_congr (fun j hj => h j (by omega)), h k (by omega)]
structure RunNum (l : List S54) (a0 a1 : Int) (M : Nat) (R : Sc × Nat) (FQ : List Int) (n N : Nat) (c : Sc) (fr st : List Int) : Prop where
  good : Good a0 a1 n N 20001 c
  r1 : (runS l (M - N) c).1 = R.1
  r2 : (runS l (M - N) c).2 + N = R.2
  fq : farS (fun st at_ => maxTo st at_ at_.length) l (M - N) c st = FQ
  eq : ∀ j : Nat, j < n → rd fr j = rd st j
  bd : ∀ j : Nat, 0 ≤ rd fr j ∧ rd fr j ≤ 20000
  le : N ≤ M
  hM : M ≤ 20000
  lf : fr.length = n
  l3 : st.length = 3
theorem RunNum.next {l : List S54} {a0 a1 : Int} {M : Nat} {R : Sc × Nat} {FQ : List Int} {n N : Nat} {c d : Sc} {fr st : List Int} (h : RunNum l a0 a1 M R FQ n N c fr st) (hn : n ≤ 3) (hrs : ∀ r ∈ l, RuleOk a0 a1 n r) (hs : stepS l c = some d) (hN : N < M) : RunNum l a0 a1 M R FQ n (N + 1) d (maxTo fr d.at_ n) (maxTo st d.at_ n) := by
  have hg := good_step h.good hrs hs
  have hg' : Good a0 a1 n (N + 1) 20001 d := ⟨hg.st, hg.la, hg.lt, hg.pos, fun i => by have := hg.len i; have := h.hM; omega, hg.sym⟩
  have e : M - N = (M - (N + 1)) + 1 := by omega
  have r1 := h.r1
  have r2 := h.r2
  have fq := h.fq
  rw [e] at r1 r2 fq
  simp only [runS, farS, hs] at r1 r2 fq
  rw [hg'.la] at fq
  refine ⟨hg', r1, by omega, fq, fun j hj => ?_, fun j => ?_, by omega, h.hM, (maxTo_len _ _ _).trans h.lf, (maxTo_len _ _ _).trans h.l3⟩
  · rw [rd_maxTo, rd_maxTo, h.lf, h.l3, if_pos ⟨hj, hj⟩, if_pos ⟨hj, by omega⟩, h.eq j hj]
  · rw [rd_maxTo]
    have h1 := h.bd j
    have h2 := hg'.pos j
    have := h.hM
    split
    · unfold maxI; split <;> omega
    · exact h1
theorem RunNum.stop {l : List S54} {a0 a1 : Int} {M : Nat} {R : Sc × Nat} {FQ : List Int} {n N : Nat} {c : Sc} {fr st : List Int} (h : RunNum l a0 a1 M R FQ n N c fr st) (hs : stepS l c = none ∨ N = M) : R.1 = c ∧ R.2 = N ∧ FQ = st := by
  have r1 := h.r1
  have r2 := h.r2
  have fq := h.fq
  have key : runS l (M - N) c = (c, 0) ∧ farS (fun st at_ => maxTo st at_ at_.length) l (M - N) c st = st := by
    rcases hs with hs | hs
    · cases hm : M - N with
      | zero => exact ⟨rfl, rfl⟩
      | succ m => simp only [runS, farS, hs]; exact ⟨trivial, trivial⟩
    · subst hs
      rw [Nat.sub_self]
      exact ⟨rfl, rfl⟩
  rw [key.1] at r1 r2
  rw [key.2] at fq
  exact ⟨r1.symm, by simp only at r2; omega, fq.symm⟩
structure RunMem (W wr : World) (br gf : Nat) (v1 v2 : Value) (n : Nat) (c : Sc) (fr : List Int) : Prop where
  below : Below W.heap.size W wr
  sc : ∃ vs, ScAt wr W.heap.size br c.s v1 c.at_ v2 vs vs c.tp ∧ ∀ (i : Nat) (u : Value), vs[i]? = some u → u.ownBlock ≠ some gf
  far : wr.ownsRow W.heap.size 3 1 (.slice (some ⟨gf, 0, none⟩) n n) n (fr.map (Value.int .i64))
  ne : gf ≠ br ∧ v1.ownBlock ≠ some gf ∧ v2.ownBlock ≠ some gf
section
variable {W wr w' : World} {br gf n : Nat} {v1 v2 : Value} {c d : Sc} {fr : List Int}
theorem RunMem.keep (h : RunMem W wr br gf v1 v2 n c fr) (hb : Below wr.heap.size wr w') : RunMem W w' br gf v1 v2 n c fr := by
  obtain ⟨vs, h1, h2⟩ := h.sc
  exact ⟨below_step h.below (hb.mono (Nat.le_refl _)), ⟨vs, h1.below hb, h2⟩, pw_own_below h.far hb, h.ne⟩
theorem RunMem.adv (h : RunMem W wr br gf v1 v2 n c fr) (hb : Below W.heap.size W w') {vs' : List Value} (hs : ScAt w' W.heap.size br d.s v1 d.at_ v2 vs' vs' d.tp) (hf : ∀ k, k = gf → w'.heap[k]? = wr.heap[k]? ∧ ∀ (i : Nat) (u : Value), vs'[i]? = some u → u.ownBlock ≠ some k) : RunMem W w' br gf v1 v2 n d fr :=
  ⟨hb, ⟨vs', hs, (hf gf rfl).2⟩, own_same h.far (fun k hk => (hf k (Option.some.inj hk).symm).1), h.ne⟩
theorem RunMem.put (h : RunMem W wr br gf v1 v2 n c fr) (i : Nat) (x : Int) : RunMem W (wr.setCell ⟨gf, i, none⟩ (.int .i64 x)) br gf v1 v2 n c (fr.set i x) := by
  obtain ⟨vs, h1, h2⟩ := h.sc
  obtain ⟨h3, h4⟩ := h.far.stored i (.int .i64 x)
  refine ⟨h.below.setCell (p := ⟨gf, i, none⟩) (own_base h.far gf rfl) _, ⟨vs, h1.kept h4 (fun k hk => ?_), h2⟩, ?_, h.ne⟩
  · obtain rfl : gf = k := Option.some.inj hk
    exact ⟨h.ne.1, h.ne.2.1, h.ne.2.2, h2⟩
  · rw [List.map_set]; exact h3
end
def reg15a.T : Bool × List (List Nat × List Nat) := (true, [([], []), ([], []), ([], []), ([], []), ([2, 3], [2, 3]), ([4], [4]), ([], []), ([6], [6]), ([], []), ([7, 8], [7, 8]), ([9], [9]), ([5, 10], [5, 10]), ([0, 1, 0, 1, 2, 3, 4, 5, 6, 7, 8, 9, 10, 11], [0, 1]), ([12, 11, 0, 1, 2, 3, 4, 5, 6, 7, 8, 9, 10, 11], [11, 12])])
def reg15a.B : List Nat := [0, 0, 0, 0, 12, 28, 0, 64, 0, 448, 960, 2044, 4095, 8191]
theorem reg15a.tab : rtab .any (opsOf Try.f15 9) = reg15a.T := by kernel_rfl
theorem reg15a.bits : waitsOk reg15a.T.2 reg15a.B = true := by kernel_rfl
theorem at_rowN {w : World} {base g n c : Nat} {l : List Int} (h : w.ownsRow base 3 1 (.slice (some ⟨g, 0, none⟩) n c) n (l.map (Value.int .i64))) {i : Nat} (hi : i < n) : w.cell? ⟨g, i, none⟩ = some (.int .i64 (rd l i)) ∧ w.frozen? ⟨g, i, none⟩ = false := by
  have := at_row h (i := (i : Int)) (by omega) (by omega)
  simpa using this
theorem max_maxI (x y : Int) : max x y = maxI x y := by unfold maxI; split <;> omega
def AdvR (W wr : World) (br gf : Nat) (v1 v2 : Value) (n : Nat) (fr : List Int) (D : Option Sc) (e : Ending) (w' : World) : Prop :=
  match D with
  | none => e = .returned (.bool false) ∧ Below wr.heap.size wr w'
  | some d => e = .returned (.bool true) ∧ RunMem W w' br gf v1 v2 n d fr
theorem run_adv {l : List S54} {a0 a1 : Int} {M : Nat} {R : Sc × Nat} {FQ : List Int} {n N : Nat} {c : Sc} {fr st : List Int} {W wr : World} {br gf : Nat} {v1 v2 : Value} {A : Option Addr} {cl : Nat} (hr : Kd.C k54 W A l.length l) (hlc : l.length ≤ cl) (hlen : l.length ≤ 2000) (hn1 : 1 ≤ n) (hn3 : n ≤ 3) (hrs : ∀ r ∈ l, RuleOk a0 a1 n r) (h1 : RunNum l a0 a1 M R FQ n N c fr st) (h2 : RunMem W wr br gf v1 v2 n c fr) {D : Option Sc} (hD : stepS l c = D) :
    Calls Try.prog 35 #[.agg #[.int .i64 a0, .int .i64 a1, .int .i64 n, .slice A l.length cl], .pointer (some ⟨br, 0, none⟩)] wr (AdvR W wr br gf v1 v2 n fr D) := by
  obtain ⟨vs, h3, h4⟩ := h2.sc
  have hlt := own_lt h2.far gf rfl
  refine (advance_walk W wr br c.s v1 v2 c.at_ vs c.tp a0 a1 n A cl l h3 h2.below (Fo := fun k => k = gf) (fun k hk => by subst hk; exact ⟨hlt, h2.ne.1, h2.ne.2.1, h2.ne.2.2, h4⟩) hr hlc hlen h1.good ⟨hn1, hn3⟩ rfl (by have := h1.le; have := h1.hM; omega) (by omega) hrs D hD).mono ?_
  intro e w' h
  cases D with
  | none => exact h
  | some d =>
    obtain ⟨e1, hb, vs', hs, hf⟩ := h
    exact ⟨e1, h2.adv hb hs hf⟩
theorem run_trim {l : List S54} {a0 a1 : Int} {M : Nat} {R : Sc × Nat} {FQ : List Int} {n N : Nat} {c : Sc} {fr st : List Int} {W wr : World} {br gf : Nat} {v1 v2 : Value} (hn3 : n ≤ 3) (h1 : RunNum l a0 a1 M R FQ n N c fr st) (h2 : RunMem W wr br gf v1 v2 n c fr) :
    Calls Try.prog 36 #[.agg #[.int .i64 c.s, v1, v2]] wr (TrimOut wr c.s c.at_ (c.tp.map trimL)) := by
  obtain ⟨vs, hS, _⟩ := h2.sc
  obtain ⟨X1, q1, e1, _, hC1⟩ := own_C hS.row1
  obtain ⟨X2, q2, e2, _, hC2⟩ := own_C2 hS.row2 (hS.len2.trans hS.len1) hS.inner
  subst e1; subst e2
  have hG := h1.good
  exact trim_walk wr c.s X1 q1 c.at_ X2 q2 c.tp hC1 hC2 (by have := hG.la; omega) (by have := hG.lt; omega) (fun i => by have := hG.len i; omega)
set_option maxHeartbeats 4000000 in
set_option maxRecDepth 100000 in
theorem refRun_walk (a0 a1 : Int) (n : Nat) (A : Option Addr) (cl : Nat) (l : List S54) (A5 : Option Addr) (c5 : Nat) (inp : List Int) (M : Nat) (w : World) (hr : Kd.C k54 w A l.length l) (hlc : l.length ≤ cl) (hlen : l.length ≤ 2000) (h5 : Kd.C (Kd.int .i64) w A5 inp.length inp) (hlc5 : inp.length ≤ c5) (hv : validM a0 a1 n l = true) (hs : startBad a1 inp = false) (hM : M ≤ 20000) :
    Calls Try.prog 15 #[.agg #[.int .i64 a0, .int .i64 a1, .int .i64 n, .slice A l.length cl], .slice A5 inp.length c5, .int .i64 M] w (AnsF w (trimSc (runS l M (startSc n inp)).1) fun v => .tuple #[v, .int .i64 ((runS l M (startSc n inp)).2 : Nat), .int .i64 (sumTo (farQ l n inp M) n)]) := by
  obtain ⟨_, ⟨b2, b3⟩, b4, b5⟩ := valid_a2 hv
  have hn1 : 1 ≤ n := by omega
  have hn3 : n ≤ 3 := by omega
  obtain ⟨hrs, _⟩ := valid_ok hv
  have hG := start_good hv hs
  have hli : inp.length ≤ 1000000 := by
    unfold startBad at hs
    rw [Bool.or_eq_false_iff] at hs
    have := of_decide_eq_false hs.1
    omega
  rw [Int.toNat_natCast] at hrs hG
  obtain ⟨W, hW⟩ : ∃ W, (w.alloc (Obj.cells #[.int .i64 a0, .int .i64 a1, .int .i64 n, .slice A l.length cl] 24)).alloc (Obj.cells #[.int .i64 0, .slice none 0 0, .slice none 0 0] 32) = W := ⟨_, rfl⟩
  have hBW : Below w.heap.size w W := by rw [← hW]; exact ((Below.refl _ _).alloc (Nat.le_refl _) _).alloc (by simp) _
  have z1 : w.heap.size + 1 < W.heap.size := by rw [← hW]; simp
  have z0 : w.heap.size < W.heap.size := by omega
  have hbx : W.heap[w.heap.size]? = some (.cells #[.int .i64 a0, .int .i64 a1, .int .i64 n, .slice A l.length cl] 24 (0, 0)) := by rw [← hW]; rw [heap_alloc_old (h := by simp)]; exact heap_alloc_new _ _
  have hbt : W.heap[w.heap.size + 1]? = some (.cells #[.int .i64 0, .slice none 0 0, .slice none 0 0] 32 (0, 0)) := by rw [← hW]; exact alloc2_new _ _ _
  obtain ⟨m0, m1, m2, m3⟩ := run_cells4 hbx
  have hst : Calls Try.prog 13 #[.agg #[.int .i64 a0, .int .i64 a1, .int .i64 n, .slice A l.length cl], .slice A5 inp.length c5] W (TrimOut W (startSc n inp).s (startSc n inp).at_ (startSc n inp).tp) := refStart_walk a0 a1 n A cl l A5 c5 inp W (Kd.C_below h5 hBW) hlc5 hli hn1 hn3
  have hfq : farQ l n inp M = farS (fun st at_ => maxTo st at_ at_.length) l M (startSc n inp) (maxTo [0, 0, 0] (startSc n inp).at_ n) := by
    unfold farQ
    rw [hG.la, Int.toNat_natCast]
  have hz : ∀ j : Nat, rd (startSc n inp).at_ j = 0 := fun j => by
    have := hG.pos j
    omega
  generalize startSc n inp = S at hG hst hfq hz ⊢
  obtain ⟨R, hR⟩ : ∃ R, runS l M S = R := ⟨_, rfl⟩
  obtain ⟨FQ, hFQ⟩ : ∃ FQ, farQ l n inp M = FQ := ⟨_, rfl⟩
  rw [hFQ] at hfq
  rw [hR, hFQ]
  have hnum : RunNum l a0 a1 M R FQ n 0 S (List.replicate n 0) (maxTo [0, 0, 0] S.at_ n) := by
    refine ⟨hG, by rw [Nat.sub_zero, hR], by rw [Nat.sub_zero, hR]; rfl, by rw [Nat.sub_zero]; exact hfq.symm, fun j hj => ?_, fun j => ?_, Nat.zero_le _, hM, List.length_replicate, (maxTo_len _ _ _).trans rfl⟩
    · rw [rd_maxTo, hz j]
      have e1 : rd (List.replicate n 0) j = 0 := by unfold rd; rw [Int.toNat_natCast, List.getD_eq_getElem?_getD, List.getElem?_replicate]; split <;> rfl
      have e2 : rd [0, 0, 0] j = 0 := by
        match j with
        | 0 => rfl
        | 1 => rfl
        | 2 => rfl
        | j + 3 => exact rd_out (by simp)
      rw [e1, e2]
      split <;> rfl
    · have e1 : rd (List.replicate n 0) j = 0 := by unfold rd; rw [Int.toNat_natCast, List.getD_eq_getElem?_getD, List.getElem?_replicate]; split <;> rfl
      omega
  have HNUM := Aside0.mk hnum
  have HBW := Aside0.mk hBW
  have HW := Aside0.mk hW
  have HST := Aside0.mk hst
  have HLA : Aside0 (S.at_.length = n) := ⟨hG.la⟩
  have HLT : Aside0 (S.tp.length = n) := ⟨hG.lt⟩
  have HR := Aside0.mk (Kd.C_below hr hBW)
  have HLC := Aside0.mk hlc
  have HLEN := Aside0.mk hlen
  have HN1 := Aside0.mk hn1
  have HN3 := Aside0.mk hn3
  have HRS := Aside0.mk hrs
  have HMM := Aside0.mk hM
  have HBT := Aside0.mk hbt
  clear hr hlc hlen h5 hlc5 hv hs hM b2 b3 b4 b5 hn1 hn3 hrs hG hli hW hBW hbx hbt hst hfq hz hR hFQ hnum
  go_enter Try.func15, Try.ntmps15
  go_wp2_with (go_at_call 13; rw [HW.out]; refine HST.out.mono ?_; rintro e w1 ⟨v1, v2, us, rfl, hown, hb⟩; have hr1 := hown.row1; have hr2 := hown.row2; have hl2 := hown.len1.trans HLT.out; rw [HLA.out] at hr1; rw [hl2] at hr2; obtain ⟨X1, q1, rfl⟩ := own_slice hr1; obtain ⟨X2, q2, rfl⟩ := own_slice hr2; obtain ⟨g1, rfl, hg1⟩ := slice_form hr1 (by have := HN1.out; omega); have HOWN := Aside0.mk hown; have HL2 := Aside0.mk hl2; have HB1 := Aside0.mk hb; have c2 := ((bcell hb).1 _ 2 z0).trans m2; have zz := Nat.lt_of_lt_of_le z0 hb.size; clear hr1 hr2 hl2 hg1 hown hb)
  obtain ⟨W6, hW6⟩ : ∃ x, w1.alloc (Obj.cells #[.int .i64 S.s, .slice (some ⟨g1, 0, none⟩) n q1, .slice X2 n q2] 32) = x := ⟨_, rfl⟩
  rw [hW6]
  have hb6 : Below w1.heap.size w1 W6 := by rw [← hW6]; exact (Below.refl _ _).alloc (Nat.le_refl _) _
  have hsz6 : W6.heap.size = w1.heap.size + 1 := by rw [← hW6]; simp
  have hc6 : W6.heap[w1.heap.size]? = some (.cells #[.int .i64 S.s, .slice (some ⟨g1, 0, none⟩) n q1, .slice X2 n q2] 32 (0, 0)) := by rw [← hW6]; exact heap_alloc_new _ _
  obtain ⟨W7, hrun, ho, hgr⟩ := make_row W6 W.heap.size 25 3 (.int .i64 0) 8 Try.underlying25 info3 rfl (by decide) n HN3.out (by have := HB1.out.size; omega)
  rw [hrun]
  have hb7 : Below W6.heap.size W6 W7 := ⟨hgr.os, hgr.tape, hgr.output, hgr.size, fun k hk => hgr.block k hk (by simp)⟩
  obtain ⟨br, hbr⟩ : ∃ x, w1.heap.size = x := ⟨_, rfl⟩
  obtain ⟨gf, hgf⟩ : ∃ x, W6.heap.size = x := ⟨_, rfl⟩
  have HMEM : Aside0 (RunMem W W7 br gf (.slice (some ⟨g1, 0, none⟩) n q1) (.slice X2 n q2) n S (List.replicate n 0)) := ⟨by
    have hb16 : Below w1.heap.size w1 W7 := hb6.trans (hb7.mono hb6.size)
    have l1 : ∀ {v : Value} {m e : Nat} {xs : List Value}, w1.ownsRow W.heap.size e 1 v m xs → ∀ k, v.ownBlock = some k → k < gf := fun h k hk => by have := own_lt h k hk; omega
    refine ⟨below_step HB1.out (hb16.mono (Nat.le_refl _)), ⟨us, ⟨?_, ?_, ?_, ?_, HOWN.out.len1, rfl, fun i u l' hu hl' => pw_own_below (HOWN.out.inner i u l' hu hl') hb16, HOWN.out.apart⟩, fun i u hu e => ?_⟩, ?_, ?_, ?_, ?_⟩
    · rw [← hbr]; exact (hb7.block _ (by omega)).trans hc6
    · rw [← hbr]; exact HB1.out.size
    · exact pw_own_below HOWN.out.row1 hb16
    · exact pw_own_below HOWN.out.row2 hb16
    · obtain ⟨l', hl'⟩ : ∃ l', S.tp[i]? = some l' := by
        have := (List.getElem?_eq_some_iff.1 hu).1
        rw [HOWN.out.len1] at this
        exact ⟨_, List.getElem?_eq_getElem this⟩
      have := l1 (HOWN.out.inner i u l' hu hl') gf e
      omega
    · rw [List.map_replicate, ← hgf]; exact ho
    · omega
    · intro e; have := l1 HOWN.out.row1 gf e; omega
    · intro e; have := l1 HOWN.out.row2 gf e; omega⟩
  have HNB : Aside0 (gf ≠ br) := ⟨HMEM.out.ne.1⟩
  rw [hgf, hbr]
  clear hW6 hb6 hsz6 hc6 hrun ho hgr hb7 c2 zz HOWN HL2 HB1 hbr hgf
  go_upto_block 0 with fail
  go_cut [11] from 15 (fun v11 wc => ∃ (N : Nat) (c : Sc) (fr st : List Int), v11 = .int .i64 N ∧ Aside0 (RunNum l a0 a1 M R FQ n N c fr st) ∧ Aside0 (R.1 = c ∧ R.2 = N ∧ FQ = st) ∧ Aside0 (RunMem W wc br gf (.slice (some ⟨g1, 0, none⟩) n q1) (.slice X2 n q2) n c fr))
  case first =>
    go_wp2_with fail
    go_loopg [11] M (fun gg v11 wr => ∃ (N : Nat) (c : Sc) (fr st : List Int), v11 = .int .i64 N ∧ Aside0 (M - N = gg) ∧ Aside0 (RunNum l a0 a1 M R FQ n N c fr st) ∧ Aside0 (RunMem W wr br gf (.slice (some ⟨g1, 0, none⟩) n q1) (.slice X2 n q2) n c fr))
    case atStart => exact ⟨0, S, List.replicate n 0, _, rfl, ⟨rfl⟩, HNUM, HMEM⟩
    case round =>
      clear HNUM HMEM
      obtain ⟨N, c, fr, st, rfl, HG, HNUM, HMEM⟩ := hrel
      rename World => wr
      have c0 := ((bcell HMEM.out.below).1 _ 0 z0).trans m0
      have c1 := ((bcell HMEM.out.below).1 _ 1 z0).trans m1
      have c2 := ((bcell HMEM.out.below).1 _ 2 z0).trans m2
      have c3 := ((bcell HMEM.out.below).1 _ 3 z0).trans m3
      by_cases cn : N < M
      · have cnb : decide (N < M) = true := decide_eq_true cn
        have CN := Aside0.mk cn
        clear cn
        cases hd : stepS l c with
        | none =>
          have HSTOP := Aside0.mk (HNUM.out.stop (.inl hd))
          have HADV := Aside0.mk (run_adv HR.out HLC.out HLEN.out HN1.out HN3.out HRS.out HNUM.out HMEM.out hd)
          clear hd
          go_wp2_with (go_at_call 35; refine HADV.out.mono ?_; rintro e w3 ⟨rfl, hb⟩; have HM3 := Aside0.mk (HMEM.out.keep hb); clear HMEM hb)
          go_meet
          case rel => exact ⟨N, c, fr, st, rfl, HNUM, HSTOP, HM3⟩
        | some d =>
          have HNX := Aside0.mk (HNUM.out.next HN3.out HRS.out hd CN.out)
          have HADV := Aside0.mk (run_adv HR.out HLC.out HLEN.out HN1.out HN3.out HRS.out HNUM.out HMEM.out hd)
          clear hd
          go_wp2_with (go_at_call 35; refine HADV.out.mono ?_; rintro e w3 ⟨rfl, hb⟩; have HM3 := Aside0.mk hb; clear HMEM HADV hb c0 c1 c2 c3)
          go_loopg [12] n (fun gi v12 wq => ∃ i : Nat, v12 = .int .i64 i ∧ Aside0 (i ≤ n) ∧ Aside0 (n - i = gi) ∧ Aside0 (RunMem W wq br gf (.slice (some ⟨g1, 0, none⟩) n q1) (.slice X2 n q2) n d (maxTo fr d.at_ i)))
          case atStart => exact ⟨0, rfl, ⟨Nat.zero_le _⟩, ⟨rfl⟩, HM3⟩
          case round =>
            clear HM3
            obtain ⟨i, rfl, HI, HGI, HMI⟩ := hrel
            rename World => wq
            have c2 := ((bcell HMI.out.below).1 _ 2 z0).trans m2
            by_cases ci : i < n
            · have cib : decide (i < n) = true := decide_eq_true ci
              have CI := Aside0.mk ci
              have hin : (i < n) = True := eq_true ci
              obtain ⟨fi, hfi⟩ : ∃ x, maxTo fr d.at_ i = x := ⟨_, rfl⟩
              rw [hfi] at HMI
              have HFI := Aside0.mk hfi
              obtain ⟨vs, hS, _⟩ := HMI.out.sc
              have hla := HNX.out.good.la
              obtain ⟨_, y1, _⟩ := trio_cells hS.cells
              have hr1 := hS.row1
              rw [hla] at hr1
              obtain ⟨yb, _⟩ := at_rowN hr1 ci
              obtain ⟨ya, yf⟩ := at_rowN HMI.out.far ci
              clear hfi hS hla hr1 ci
              go_wp2_with fail
              clear c2
              refine start_ (n := 14) (S := fun w' => w'.cell? ⟨br, 1, none⟩ = some (.slice (some ⟨g1, 0, none⟩) n q1) ∧ w'.cell? ⟨gf, i, none⟩ = some (.int .i64 (rd fi i)) ∧ w'.cell? ⟨g1, i, none⟩ = some (.int .i64 (rd d.at_ i)) ∧ w'.frozen? ⟨gf, i, none⟩ = false) (ds := [13]) #[false, false, false, false, false, false, false, false, false, false, false, false, false, false] (by kernel_rfl) rfl rfl ⟨y1, ya, yb, yf⟩ (fun hHeld => ?_); refine with_tabW reg15a.tab reg15a.bits (fun HT_ HW_ => ?_)
              have HDW := Aside0.mk (below_drew (Below.refl wq.heap.size wq))
              generalize wq.drew = X9 at HDW hHeld ⊢
              refine pure_ (i := 0) (N := some 36) (v := ?_) (a' := ?_) #[true, false, false, false, false, false, false, false, false, false, false, false, false, false] rfl rfl (any_of HT_.out (by kernel_rfl)) (fun _ _ _ h => h) (Or.inl ⟨by rfl, ?_⟩) ?_ ?_
              rotate_left
              · intro w'
                go_simp
                with_reducible rfl
              rotate_left
              · simp only [Act.put, List.setIfInBounds_toArray, List.set_cons_zero, List.set_cons_succ, i64_w, i32_w]
                rfl
              refine pure_ (i := 1) (N := some 37) (v := ?_) (a' := ?_) #[true, true, false, false, false, false, false, false, false, false, false, false, false, false] rfl rfl (any_of HT_.out (by kernel_rfl)) (fun _ _ _ h => h) (Or.inl ⟨by rfl, ?_⟩) ?_ ?_
              rotate_left
              · intro w'
                go_simp
                with_reducible rfl
              rotate_left
              · simp only [Act.put, List.setIfInBounds_toArray, List.set_cons_zero, List.set_cons_succ, i64_w, i32_w]
                rfl
              refine pure_ (i := 2) (N := some 38) (v := ?_) (a' := ?_) #[true, true, true, false, false, false, false, false, false, false, false, false, false, false] rfl rfl (any_of HT_.out (by kernel_rfl)) (fun _ _ _ h => h) (Or.inl ⟨by rfl, ?_⟩) ?_ ?_
              rotate_left
              · intro w'
                go_simp
                with_reducible rfl
              rotate_left
              · simp only [Act.put, List.setIfInBounds_toArray, List.set_cons_zero, List.set_cons_succ, i64_w, i32_w]
                rfl
              refine pure_ (i := 3) (N := some 39) (v := ?_) (a' := ?_) #[true, true, true, true, false, false, false, false, false, false, false, false, false, false] rfl rfl (any_of HT_.out (by kernel_rfl)) (fun _ _ _ h => h) (Or.inl ⟨by rfl, ?_⟩) ?_ ?_
              rotate_left
              · intro w'
                go_simp
                with_reducible rfl
              rotate_left
              · simp only [Act.put, List.setIfInBounds_toArray, List.set_cons_zero, List.set_cons_succ, i64_w, i32_w]
                rfl
              refine pure_ (i := 6) (N := some 42) (v := ?_) (a' := ?_) #[true, true, true, true, false, false, true, false, false, false, false, false, false, false] rfl rfl (any_of HT_.out (by kernel_rfl)) (fun _ _ _ h => h) (Or.inl ⟨by rfl, ?_⟩) ?_ ?_
              rotate_left
              · intro w'
                go_simp
                with_reducible rfl
              rotate_left
              · simp only [Act.put, List.setIfInBounds_toArray, List.set_cons_zero, List.set_cons_succ, i64_w, i32_w]
                rfl
              refine pure_ (i := 8) (N := some 44) (v := ?_) (a' := ?_) #[true, true, true, true, false, false, true, false, true, false, false, false, false, false] rfl rfl (any_of HT_.out (by kernel_rfl)) (fun _ _ _ h => h) (Or.inl ⟨by rfl, ?_⟩) ?_ ?_
              rotate_left
              · intro w'
                go_simp
                with_reducible rfl
              rotate_left
              · simp only [Act.put, List.setIfInBounds_toArray, List.set_cons_zero, List.set_cons_succ, i64_w, i32_w]
                rfl
              refine pure_ (i := 4) (N := some 40) (v := ?_) (a' := ?_) #[true, true, true, true, true, false, true, false, true, false, false, false, false, false] rfl rfl (any_of HT_.out (by kernel_rfl)) (fun _ _ _ h => h) (Or.inl ⟨by rfl, ?_⟩) ?_ ?_
              rotate_left
              · intro w'
                go_simp
                with_reducible rfl
              rotate_left
              · simp only [Act.put, List.setIfInBounds_toArray, List.set_cons_zero, List.set_cons_succ, i64_w, i32_w]
                rfl
              refine take_ (i := 5) (N := some 41) (v := ?_) (a' := ?_) #[true, true, true, true, true, true, true, false, true, false, false, false, false, false] rfl rfl (take_ofW HT_.out HW_.out (by kernel_rfl)) (fun _ _ _ h => h) (Or.inl ⟨by rfl, ?_⟩) hHeld ?_ ?_
              rotate_left
              · rintro w' ⟨s0, s1, s2, s3⟩
                go_simp
                with_reducible rfl
              rotate_left
              · simp only [Act.put, List.setIfInBounds_toArray, List.set_cons_zero, List.set_cons_succ, i64_w, i32_w]
                rfl
              refine take_ (i := 7) (N := some 43) (v := ?_) (a' := ?_) #[true, true, true, true, true, true, true, true, true, false, false, false, false, false] rfl rfl (take_ofW HT_.out HW_.out (by kernel_rfl)) (fun _ _ _ h => h) (Or.inl ⟨by rfl, ?_⟩) hHeld ?_ ?_
              rotate_left
              · rintro w' ⟨s0, s1, s2, s3⟩
                go_simp
                with_reducible rfl
              rotate_left
              · simp only [Act.put, List.setIfInBounds_toArray, List.set_cons_zero, List.set_cons_succ, i64_w, i32_w]
                rfl
              refine pure_ (i := 9) (N := some 45) (v := ?_) (a' := ?_) #[true, true, true, true, true, true, true, true, true, true, false, false, false, false] rfl rfl (any_of HT_.out (by kernel_rfl)) (fun _ _ _ h => h) (Or.inl ⟨by rfl, ?_⟩) ?_ ?_
              rotate_left
              · intro w'
                go_simp
                with_reducible rfl
              rotate_left
              · simp only [Act.put, List.setIfInBounds_toArray, List.set_cons_zero, List.set_cons_succ, i64_w, i32_w]
                rfl
              refine take_ (i := 10) (N := some 46) (v := ?_) (a' := ?_) #[true, true, true, true, true, true, true, true, true, true, true, false, false, false] rfl rfl (take_ofW HT_.out HW_.out (by kernel_rfl)) (fun _ _ _ h => h) (Or.inl ⟨by rfl, ?_⟩) hHeld ?_ ?_
              rotate_left
              · rintro w' ⟨s0, s1, s2, s3⟩
                go_simp
                with_reducible rfl
              rotate_left
              · simp only [Act.put, List.setIfInBounds_toArray, List.set_cons_zero, List.set_cons_succ, i64_w, i32_w]
                rfl
              refine pure_ (i := 11) (N := some 47) (v := (.int .i64 (maxI (rd fi i) (rd d.at_ i)))) (a' := ?_) #[true, true, true, true, true, true, true, true, true, true, true, true, false, false] rfl rfl (any_of HT_.out (by kernel_rfl)) (fun _ _ _ h => h) (Or.inl ⟨by rfl, ?_⟩) ?_ ?_
              · intro w'
                go_simp
                try rw [max_maxI]
                try rfl
              rotate_left
              · simp only [Act.put, List.setIfInBounds_toArray, List.set_cons_zero, List.set_cons_succ, i64_w, i32_w]
                rfl
              refine pure_ (i := 12) (N := some 48) (v := ?_) (a' := ?_) #[true, true, true, true, true, true, true, true, true, true, true, true, true, false] rfl rfl (any_of HT_.out (by kernel_rfl)) (fun _ _ _ h => h) (Or.inl ⟨by rfl, ?_⟩) ?_ ?_
              rotate_left
              · intro w'
                go_simp
                with_reducible rfl
              rotate_left
              · simp only [Act.put, List.setIfInBounds_toArray, List.set_cons_zero, List.set_cons_succ, i64_w, i32_w]
                rfl
              refine last_ (i := 13) (N := none) #[true, true, true, true, true, true, true, true, true, true, true, true, true, true] rfl rfl (one_of HT_.out (by kernel_rfl)) (by decide) (fun K hK => ?_)
              obtain ⟨_, s5, _, xf⟩ := hHeld
              refine skip_ (w1 := ?_) (by rfl) rfl ?_ ?_
              rotate_left
              · go_simp
                rfl
              refine hK.out _ _ ?_
              clear hK K
              refine done_ (done_of HT_.out (by kernel_rfl)) ?_
              have HM9 := Aside0.mk ((HMI.out.keep HDW.out).put i (maxI (rd fi i) (rd d.at_ i)))
              clear HT_ HW_ s5 xf y1 ya yb yf HMI HDW
              have hi3 : i ≤ 3 := by have := CI.out; have := HN3.out; omega
              go_wp2_with fail
              go_roundg (n - (i + 1))
              case measure => have := HGI.out; have := CI.out; omega
              case rel =>
                refine ⟨i + 1, ?_, ⟨CI.out⟩, ⟨rfl⟩, ⟨?_⟩⟩
                · first | rfl | (rw [show wrap64 ((i : Int) + 1) = ((i + 1 : Nat) : Int) by rw [w64_up (by omega) (by omega)]; rfl]) | (simp; done)
                · simp only [maxTo]
                  rw [HFI.out]
                  exact HM9.out
            · have cib : decide (i < n) = false := decide_eq_false ci
              have hie : i = n := by have := HI.out; omega
              rw [hie] at HMI
              have hN : N ≤ 20000 := by have := CN.out; have := HMM.out; omega
              clear hie
              go_wp2_with fail
              go_roundg (M - (N + 1))
              case measure => have := HG.out; have := CN.out; omega
              case rel =>
                refine ⟨N + 1, d, _, _, ?_, ⟨rfl⟩, HNX, HMI⟩
                first | rfl | (rw [show wrap64 ((N : Int) + 1) = ((N + 1 : Nat) : Int) by rw [w64_up (by omega) (by omega)]; rfl]) | (simp; done)
      · have cnb : decide (N < M) = false := decide_eq_false cn
        have HSTOP := Aside0.mk (HNUM.out.stop (.inr (by have := HNUM.out.le; omega)))
        clear cn
        go_wp2_with fail
        go_meet
        case rel => exact ⟨N, c, fr, st, rfl, HNUM, HSTOP, HMEM⟩
  case rest =>
    clear HNUM HMEM
    obtain ⟨N, c, fr, st, rfl, HNUM, HSTOP, HMEM⟩ := hcut
    obtain ⟨w7, rfl⟩ : ∃ x, x = wc := ⟨_, rfl⟩
    have c2 := ((bcell HMEM.out.below).1 _ 2 z0).trans m2
    have HSUM : Aside0 (∀ k : Nat, k ≤ 3 → 0 ≤ sumTo fr k ∧ sumTo fr k ≤ 20001 * k) := ⟨fun k hk => by
      have h0 := HNUM.out.bd 0
      have h1 := HNUM.out.bd 1
      have h2 := HNUM.out.bd 2
      match k, hk with
      | 0, _ => simp [sumTo]
      | 1, _ => simp only [sumTo]; omega
      | 2, _ => simp only [sumTo]; omega
      | 3, _ => simp only [sumTo]; omega⟩
    go_wp2_with fail
    go_loopg [13, 14] n (fun gg v13 v14 wr => ∃ i : Nat, v13 = .int .i64 (sumTo fr i) ∧ v14 = .int .i64 i ∧ Aside0 (i ≤ n) ∧ Aside0 (n - i = gg) ∧ wr = w7)
    case atStart => exact ⟨0, rfl, rfl, ⟨Nat.zero_le _⟩, ⟨rfl⟩, rfl⟩
    case round =>
      obtain ⟨i, rfl, rfl, HI, HG, rfl⟩ := hrel
      by_cases ci : i < n
      · have cib : decide (i < n) = true := decide_eq_true ci
        have hin : (i < n) = True := eq_true ci
        have CI := Aside0.mk ci
        obtain ⟨ya, _⟩ := at_rowN HMEM.out.far ci
        have hi3 : i ≤ 3 := by have := HN3.out; omega
        have b1 := HSUM.out i hi3
        have b2 := HNUM.out.bd i
        have e9 : wrap64 (sumTo fr i + wrap64 (1 + rd fr i)) = sumTo fr (i + 1) := by
          rw [w64_up (x := 1 + rd fr i) (by omega) (by omega)]
          simp only [sumTo]
          exact w64_up (by omega) (by omega)
        clear ci b1 b2
        go_wp2_with fail
        go_roundg (n - (i + 1))
        case measure => have := HG.out; have := CI.out; omega
        case rel =>
          refine ⟨i + 1, ?_, ?_, ⟨CI.out⟩, ⟨rfl⟩, rfl⟩
          · first | rfl | (rw [e9])
          · first | rfl | (rw [show wrap64 ((i : Int) + 1) = ((i + 1 : Nat) : Int) by rw [w64_up (by omega) (by omega)]; rfl]) | (simp; done)
      · have cib : decide (i < n) = false := decide_eq_false ci
        have hie : i = n := by have := HI.out; omega
        subst hie
        clear ci
        have HS9 : Aside0 (sumTo FQ i = sumTo fr i) := ⟨by rw [HSTOP.out.2.2]; exact (sumTo_congr HNUM.out.eq).symm⟩
        have HB7 := Aside0.mk HMEM.out.below
        have HTR := Aside0.mk (run_trim HN3.out HNUM.out HMEM.out)
        obtain ⟨vs, hS, _⟩ := HMEM.out.sc
        obtain ⟨y0, y1, y2⟩ := trio_cells hS.cells
        have hlb := HB7.out.size
        clear hS
        have zw : w.heap.size + 1 < wr.heap.size := by omega
        have hxr : wr.heap[w.heap.size + 1]? = some (.cells #[.int .i64 0, .slice none 0 0, .slice none 0 0] 32 (0, 0)) := (HB7.out.block _ z1).trans HBT.out
        have HXR := Aside0.mk hxr
        clear hxr hlb HMEM
        go_wp2_with (go_at_call 36; refine HTR.out.mono ?_; rintro e w8 ⟨v3, v4, us', rfl, hown, hb⟩; obtain ⟨X3, q3, rfl⟩ := own_slice hown.row1; obtain ⟨X4, q4, rfl⟩ := own_slice hown.row2; have HOWN := Aside0.mk hown; have HB78 := Aside0.mk hb; have hx8 := heap_keep HXR.out hb; obtain ⟨x0, x1, x2⟩ := trio_cells hx8; have f0 := run_frozen hx8 0; have f1 := run_frozen hx8 1; have f2 := run_frozen hx8 2; have z8 := (Array.getElem?_eq_some_iff.1 hx8).1; clear hown hb hx8)
        refine bodyPost_ret (v := .tuple #[.agg #[.int .i64 c.s, .slice X3 c.at_.length q3, .slice X4 us'.length q4], .int .i64 N, .int .i64 (sumTo fr i)]) (by simp [results, Try.results15, go_sem, x0, x1, x2, f0, f1, f2, z8]) rfl ?_
        have hsz : (((w8.setCell ⟨w.heap.size + 1, 0, none⟩ (.int .i64 c.s)).setCell ⟨w.heap.size + 1, 1, none⟩ (.slice X3 c.at_.length q3)).setCell ⟨w.heap.size + 1, 2, none⟩ (.slice X4 us'.length q4)).heap.size = w8.heap.size := by simp
        refine ⟨.agg #[.int .i64 c.s, .slice X3 c.at_.length q3, .slice X4 us'.length q4], by rw [HSTOP.out.2.1, HS9.out], fun u hu hag => ?_, ?_⟩
        · rw [HSTOP.out.1]
          have hu' : w8.heap.size ≤ u.heap.size := Nat.le_trans (Nat.le_of_eq hsz.symm) hu
          refine scene_foot (w4 := wr) (w5 := w8) (fun w'' ha => HOWN.out.reads' ha) (fun k k1 k2 => ?_) hu'
          have hk4 : W.heap.size ≤ k := Nat.le_trans HB7.out.size k1
          refine (hag k (by omega) (Nat.lt_of_lt_of_eq k2 hsz.symm) (by simp)).trans ?_
          have hne : (⟨w.heap.size + 1, 0, none⟩ : Addr).block ≠ k := by show w.heap.size + 1 ≠ k; omega
          exact (heap_setCell_other _ ⟨w.heap.size + 1, 2, none⟩ k _ hne.symm).trans ((heap_setCell_other _ ⟨w.heap.size + 1, 1, none⟩ k _ hne.symm).trans (heap_setCell_other _ ⟨w.heap.size + 1, 0, none⟩ k _ hne.symm))
        · have h1 : Below w.heap.size w w8 := below_step HBW.out (below_step HB7.out HB78.out)
          exact ((h1.setCell (p := ⟨w.heap.size + 1, 0, none⟩) (by simp) _).setCell (p := ⟨w.heap.size + 1, 1, none⟩) (by simp) _).setCell (p := ⟨w.heap.size + 1, 2, none⟩) (by simp) _
end Go.Proofs.Ytfoodfhhdbaieaa.Giv
