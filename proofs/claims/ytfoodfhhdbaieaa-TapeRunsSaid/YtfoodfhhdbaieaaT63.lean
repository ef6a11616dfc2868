-- CUT by a program of this session: what the claim does not use is left out
import Derived.Test.YtfoodfhhdbaieaaT52
namespace Go.Proofs.Ytfoodfhhdbaieaa.Giv
set_option linter.unusedSimpArgs false
set_option linter.unusedVariables false
open Go.RowKit Go.Shelf Go.Proofs.YtfoodfhhdbaieaaW.PrintWords Go.Proofs.YtfoodfhhdbaieaaW.PrintLast Go.Proofs.YtfoodfhhdbaieaaW.PrintMore
open Go.Proofs.Ytfoodfhhdbaieaa.Ka (S54 k54 z54 rd_T54 at_T54 k54_open rd_L1 at_L1 info3 info25 info54)

def AdvOut (w0 w : World) (Fo : Nat → Prop) (br : Nat) (v1 v2 : Value) (D : Option Sc) (e : Ending) (w' : World) : Prop :=
  match D with
  | none => e = .returned (.bool false) ∧ Below w.heap.size w w'
  | some d => e = .returned (.bool true) ∧ Below w0.heap.size w0 w' ∧ ∃ vs', ScAt w' w0.heap.size br d.s v1 d.at_ v2 vs' vs' d.tp ∧ ∀ k, Fo k → w'.heap[k]? = w.heap[k]? ∧ ∀ (i : Nat) (u : Value), vs'[i]? = some u → u.ownBlock ≠ some k
structure AdvAt (wA : World) (Fo : Nat → Prop) (w0 wr : World) (br : Nat) (s : Int) (v1 : Value) (a : List Int) (v2 : Value) (vs us : List Value) (t : List (List Int)) (gx gm : Nat) (cx cm : Array Value) : Prop where
  below : Below w0.heap.size w0 wr
  sc : ScAt wr w0.heap.size br s v1 a v2 vs us t
  hx : wr.heap[gx]? = some (.cells cx 54 (0, 0))
  hm : wr.heap[gm]? = some (.cells cm 24 (0, 0))
  fo : ∀ k, Fo k → wr.heap[k]? = wA.heap[k]? ∧ k < wA.heap.size ∧ k ≠ br ∧ v1.ownBlock ≠ some k ∧ v2.ownBlock ≠ some k ∧ ∀ (i : Nat) (u : Value), us[i]? = some u → u.ownBlock ≠ some k
section
variable {wA w0 wr w' : World} {Fo : Nat → Prop} {br gx gm : Nat} {s : Int} {v1 v2 : Value} {a a' : List Int} {vs us vs' us' : List Value} {t t' : List (List Int)} {cx cm : Array Value}
theorem fo_lt {wA wr : World} {k : Nat} (h : wr.heap[k]? = wA.heap[k]?) (hk : k < wA.heap.size) : k < wr.heap.size := by
  rw [Array.getElem?_eq_getElem hk] at h
  exact (Array.getElem?_eq_some_iff.1 h).1
theorem AdvAt.keep (h : AdvAt wA Fo w0 wr br s v1 a v2 vs us t gx gm cx cm) (hb : Below wr.heap.size wr w') : AdvAt wA Fo w0 w' br s v1 a v2 vs us t gx gm cx cm :=
  ⟨h.below.trans (hb.mono h.below.size), h.sc.below hb, (hb.block _ (Array.getElem?_eq_some_iff.1 h.hx).1).trans h.hx, (hb.block _ (Array.getElem?_eq_some_iff.1 h.hm).1).trans h.hm, fun k hk => ⟨(hb.block _ (fo_lt (h.fo k hk).1 (h.fo k hk).2.1)).trans (h.fo k hk).1, (h.fo k hk).2⟩⟩
theorem AdvAt.write (h : AdvAt wA Fo w0 wr br s v1 a v2 vs us t gx gm cx cm) {row : Option Nat} (hg : wr.grownBy w' row) (hrow : ∀ k, row = some k → w0.heap.size ≤ k ∧ ∃ (cs : Array Value) (e : TypeId), wr.heap[k]? = some (.cells cs e (0, 0)) ∧ e ≠ 54 ∧ e ≠ 24) (hno : ∀ k, row = some k → ¬ Fo k) (hus : ∀ k, Fo k → ∀ (i : Nat) (u : Value), us'[i]? = some u → u.ownBlock ≠ some k) (hsc : ScAt w' w0.heap.size br s v1 a' v2 vs' us' t') : AdvAt wA Fo w0 w' br s v1 a' v2 vs' us' t' gx gm cx cm := by
  refine ⟨h.below.grown hg h.below.size (fun k hk => (hrow k hk).1), hsc, ?_, ?_, fun k hk => ⟨(hg.block _ (fo_lt (h.fo k hk).1 (h.fo k hk).2.1) (fun e => hno k e.symm hk)).trans (h.fo k hk).1, (h.fo k hk).2.1, (h.fo k hk).2.2.1, (h.fo k hk).2.2.2.1, (h.fo k hk).2.2.2.2.1, hus k hk⟩⟩
  · refine (hg.block gx (Array.getElem?_eq_some_iff.1 h.hx).1 (fun e => ?_)).trans h.hx
    obtain ⟨_, cs, e', hc, n1, _⟩ := hrow gx e.symm
    exact ne_of_typed h.hx hc (Ne.symm n1) rfl
  · refine (hg.block gm (Array.getElem?_eq_some_iff.1 h.hm).1 (fun e => ?_)).trans h.hm
    obtain ⟨_, cs, e', hc, _, n2⟩ := hrow gm e.symm
    exact ne_of_typed h.hm hc (Ne.symm n2) rfl
theorem own_row {w : World} {base : Nat} {e : TypeId} {n : Nat} {v : Value} {xs : List Value} (h : w.ownsRow base e 1 v n xs) (h1 : e ≠ 54) (h2 : e ≠ 24) : ∀ k, v.ownBlock = some k → base ≤ k ∧ ∃ (cs : Array Value) (e : TypeId), w.heap[k]? = some (.cells cs e (0, 0)) ∧ e ≠ 54 ∧ e ≠ 24 := fun k hk => by
  obtain ⟨c, hc⟩ := own_typed h k hk
  exact ⟨own_base h k hk, c, e, hc, h1, h2⟩
end
theorem max_stepP (p m : Int) : max 0 (p + m) = stepP p m := by unfold stepP; split <;> omega
def reg35a.T : Bool × List (List Nat × List Nat) := (true, [([], []), ([], []), ([1], [1]), ([2], [2]), ([3], [3]), ([], []), ([5], [5]), ([6], [6]), ([7], [7]), ([0, 4, 8, 8], [0, 4, 8]), ([9, 9, 0, 1, 2, 3, 4, 5, 6, 7, 8, 9], [9])])
def reg35a.B : List Nat := [0, 0, 2, 6, 14, 0, 32, 96, 224, 511, 1023]
theorem reg35a.tab : rtab .any (opsOf Try.f35 1) = reg35a.T := by kernel_rfl
theorem reg35a.bits : waitsOk reg35a.T.2 reg35a.B = true := by kernel_rfl
def reg35c.T : Bool × List (List Nat × List Nat) := (true, [([], []), ([0], [0]), ([1], [1]), ([2], [2]), ([], []), ([3, 4], [3, 4]), ([5], [5]), ([6], [6]), ([], []), ([8], [8]), ([9], [9]), ([10], [10]), ([], []), ([11, 12], [11, 12]), ([13], [13]), ([7, 14], [7, 14])])
def reg35c.B : List Nat := [0, 1, 3, 7, 0, 31, 63, 127, 0, 256, 768, 1792, 0, 7936, 16128, 32767]
theorem reg35c.tab : rtab .any (opsOf Try.f35 9) = reg35c.T := by kernel_rfl
theorem reg35c.bits : waitsOk reg35c.T.2 reg35c.B = true := by kernel_rfl
def reg35d.T : Bool × List (List Nat × List Nat) := (true, [([], []), ([0], [0]), ([1], [1]), ([2], [2]), ([], []), ([], []), ([5], [5]), ([6], [6]), ([7], [7]), ([], []), ([8, 9], [8, 9]), ([10], [10]), ([], []), ([11, 12], [11, 12]), ([3, 4, 0, 1, 2, 3, 4, 5, 6, 7, 8, 9, 10, 11, 12, 13], [3, 4]), ([14, 13, 13, 0, 1, 2, 3, 4, 5, 6, 7, 8, 9, 10, 11, 12, 13], [13, 14])])
def reg35d.B : List Nat := [0, 1, 3, 7, 0, 0, 32, 96, 224, 0, 992, 2016, 0, 8160, 16383, 32767]
theorem reg35d.tab : rtab .any (opsOf Try.f35 10) = reg35d.T := by kernel_rfl
theorem reg35d.bits : waitsOk reg35d.T.2 reg35d.B = true := by kernel_rfl
def reg35e.T : Bool × List (List Nat × List Nat) := (true, [([], []), ([0], [0]), ([1], [1]), ([2], [2]), ([], []), ([3, 4], [3, 4]), ([5], [5]), ([], []), ([7], [7]), ([8], [8]), ([9], [9]), ([], []), ([10, 11], [10, 11]), ([12], [12]), ([], []), ([14], [14]), ([], []), ([15, 16], [15, 16]), ([17], [17]), ([6, 13, 0, 1, 2, 3, 4, 5, 6, 7, 8, 9, 10, 11, 12, 13, 14, 15, 16, 17, 18], [6, 13]), ([19, 18, 0, 1, 2, 3, 4, 5, 6, 7, 8, 9, 10, 11, 12, 13, 14, 15, 16, 17, 18], [18, 19])])
def reg35e.B : List Nat := [0, 1, 3, 7, 0, 31, 63, 0, 128, 384, 896, 0, 3968, 8064, 0, 16384, 0, 114688, 245760, 524287, 1048575]
theorem reg35e.tab : rtab .any (opsOf Try.f35 11) = reg35e.T := by kernel_rfl
theorem reg35e.bits : waitsOk reg35e.T.2 reg35e.B = true := by kernel_rfl
def reg35f.T : Bool × List (List Nat × List Nat) := (true, [([], []), ([0], [0]), ([1], [1]), ([2], [2]), ([], []), ([], []), ([5], [5]), ([6], [6]), ([7], [7]), ([], []), ([8, 9], [8, 9]), ([10], [10]), ([], []), ([12], [12]), ([], []), ([13, 14], [13, 14]), ([15], [15]), ([11, 16], [11, 16]), ([17], [17]), ([3, 4, 0, 1, 2, 3, 4, 5, 6, 7, 8, 9, 10, 11, 12, 13, 14, 15, 16, 17, 18], [3, 4]), ([19, 18, 0, 1, 2, 3, 4, 5, 6, 7, 8, 9, 10, 11, 12, 13, 14, 15, 16, 17, 18], [18, 19])])
def reg35f.B : List Nat := [0, 1, 3, 7, 0, 0, 32, 96, 224, 0, 992, 2016, 0, 4096, 0, 28672, 61440, 131040, 262112, 524287, 1048575]
theorem reg35f.tab : rtab .any (opsOf Try.f35 12) = reg35f.T := by kernel_rfl
theorem reg35f.bits : waitsOk reg35f.T.2 reg35f.B = true := by kernel_rfl
set_option maxHeartbeats 2000000 in
set_option maxRecDepth 100000 in
theorem advance_walk (w0 w : World) (br : Nat) (s : Int) (v1 v2 : Value) (at_ : List Int) (vs : List Value) (tp : List (List Int)) (a0 a1 a2 : Int) (A : Option Addr) (c : Nat) (rs : List S54) (H : ScAt w w0.heap.size br s v1 at_ v2 vs vs tp) (hB : Below w0.heap.size w0 w) {Fo : Nat → Prop} (hFo : ∀ k, Fo k → k < w.heap.size ∧ k ≠ br ∧ v1.ownBlock ≠ some k ∧ v2.ownBlock ≠ some k ∧ ∀ (i : Nat) (u : Value), vs[i]? = some u → u.ownBlock ≠ some k)
    (hr : Kd.C k54 w0 A rs.length rs) (hlc : rs.length ≤ c) (hlen : rs.length ≤ 2000) {n b M : Nat} (hG : Good a0 a1 n b M ⟨s, at_, tp⟩) (hn : 1 ≤ n ∧ n ≤ 3) (ha2 : a2 = n) (hb : b ≤ 100000) (hM : M ≤ 200000) (hrs : ∀ r ∈ rs, RuleOk a0 a1 n r) (D : Option Sc) (hD : stepS rs ⟨s, at_, tp⟩ = D) :
    Calls Try.prog 35 #[.agg #[.int .i64 a0, .int .i64 a1, .int .i64 a2, .slice A rs.length c], .pointer (some ⟨br, 0, none⟩)] w (AdvOut w0 w Fo br v1 v2 D) := by
  have hla : at_.length = n := hG.la
  have hlt : tp.length = n := hG.lt
  obtain ⟨A1, c1, e1, hlc1, hC1⟩ := own_C H.row1
  obtain ⟨A2, c2, e2, hlc2, hC2⟩ := own_C2 H.row2 (H.len2.trans H.len1) H.inner
  subst e1; subst e2
  obtain ⟨g1, e1, hg1⟩ := slice_form H.row1 (by omega)
  obtain ⟨g2, e2, hg2⟩ := slice_form (n := vs.length) (by have := H.row2; rw [H.len2, H.len1] at this ⊢; exact this) (by rw [H.len2, H.len1]; omega)
  subst e1; subst e2
  obtain ⟨W, hW⟩ : ∃ W, w.alloc (Obj.cells #[.int .i64 a0, .int .i64 a1, .int .i64 a2, .slice A rs.length c] 24) = W := ⟨_, rfl⟩
  have hbW : Below w.heap.size w W := by rw [← hW]; exact (Below.refl _ _).alloc (Nat.le_refl _) _
  have hmW : W.heap[w.heap.size]? = some (.cells #[.int .i64 a0, .int .i64 a1, .int .i64 a2, .slice A rs.length c] 24 (0, 0)) := by rw [← hW]; exact heap_alloc_new _ _
  obtain ⟨gm, hgm⟩ : ∃ g, w.heap.size = g := ⟨_, rfl⟩
  rw [hgm] at hmW
  have HMB : Aside0 (w0.heap.size ≤ gm) := ⟨by rw [← hgm]; exact hB.size⟩
  have HH := Aside0.mk (H.below hbW)
  have HFO := Aside0.mk hFo
  have HBW := Aside0.mk hbW
  have HB := Aside0.mk (hB.trans (hbW.mono hB.size))
  have HR := Aside0.mk hr
  have HG1 := Aside0.mk hg1
  have HG2 := Aside0.mk hg2
  have HW := Aside0.mk hW
  have HMW := Aside0.mk hmW
  have HGD := Aside0.mk hG
  have HN := Aside0.mk hn
  have HA2 := Aside0.mk ha2
  have HLA := Aside0.mk hla
  have HLT := Aside0.mk hlt
  have HBM := Aside0.mk (And.intro hb hM)
  have HRS := Aside0.mk hrs
  have HD := Aside0.mk hD
  have HLEN := Aside0.mk hlen
  obtain ⟨kr, hkr⟩ := read_total s (at_ := at_) (tp := tp) (by omega) (by omega) (fun i => (hG.pos i).1)
  obtain ⟨kf, j, hkf, hj1, hj2⟩ := find_total (a0 := a0) (a1 := a1) (a2 := a2) (n := n) hn.2 (fun r hr => (hrs r hr).l1) hlen (s := s) (x := readL at_ tp) (by rw [readL_length]; exact hla)
  have HREAD : Aside0 (∀ w1, Below W.heap.size W w1 → Calls Try.prog 38 #[.agg #[.int .i64 s, .slice (some ⟨g1, 0, none⟩) at_.length c1, .slice (some ⟨g2, 0, none⟩) tp.length c2]] w1 fun e w' => ∃ Ar cr, e = .returned (.slice Ar (readL at_ tp).length cr) ∧ (readL at_ tp).length ≤ cr ∧ Kd.C (Kd.int .i64) w' Ar (readL at_ tp).length (readL at_ tp) ∧ Below w1.heap.size w1 w') := ⟨fun w1 hb1 => by
    have hbb := hbW.trans (hb1.mono hbW.size)
    refine (Ka.commodatumref20_read.calls kr s (some ⟨g1, 0, none⟩) c1 at_ (some ⟨g2, 0, none⟩) c2 tp (readL at_ tp) w1 (Kd.C_below hC1 hbb) hlc1 (Kd.C_below hC2 hbb) hlc2 hkr).mono ?_
    rintro e w' ⟨v, rfl, h1, h2⟩
    obtain ⟨Ar, cr, rfl, h3, h4⟩ := Kd.R_reads h1
    exact ⟨Ar, cr, rfl, h3, h4, h2⟩⟩
  have HFIND : Aside0 (∀ w1 Ar cr, Below W.heap.size W w1 → (readL at_ tp).length ≤ cr → Kd.C (Kd.int .i64) w1 Ar (readL at_ tp).length (readL at_ tp) → Calls Try.prog 37 #[.agg #[.int .i64 a0, .int .i64 a1, .int .i64 a2, .slice A rs.length c], .int .i64 s, .slice Ar (readL at_ tp).length cr] w1 fun e w' => e = .returned (.int .i64 j) ∧ Below w1.heap.size w1 w') := ⟨fun w1 Ar cr hb1 h1 h2 => Ka.commodatumref20_Find.calls kf a0 a1 a2 A c rs s Ar cr (readL at_ tp) j w1 (Kd.C_below hr (HB.out.trans (hb1.mono HB.out.size))) hlc h2 h1 hkf⟩
  have HRL : Aside0 ((readL at_ tp).length = n) := ⟨by rw [readL_length]; exact hla⟩
  have hsr : stepS rs ⟨s, at_, tp⟩ = (findR rs s (readL at_ tp)).map fun r => ⟨r.f2, (stepTo r at_ tp at_.length).1, (stepTo r at_ tp at_.length).2⟩ := rfl
  obtain ⟨n0, n1, n2⟩ := trio_cells HH.out.cells
  obtain ⟨m0, m1, m2, m3⟩ := run_cells4 hmW
  generalize readL at_ tp = rl at HREAD HFIND HRL hj1 hj2 hsr
  subst ha2
  clear H hB hFo hr hlc hlen hG hn hb hM hrs hla hlt hC1 hC2 hlc1 hlc2 hg1 hg2 hbW hmW hkr hkf HA2
  cases hfr : findR rs s rl with
  | none =>
    have hj := hj1 hfr
    subst hj
    obtain rfl : D = none := by rw [← hD, hsr, hfr]; rfl
    clear hj1 hj2 hfr hsr hD
    go_enter Try.func35, Try.ntmps35
    go_wp2_with fail
    try rw [HW.out]
    try rw [hgm]
    refine start_ (n := 11) (S := fun w' => w'.cell? ⟨gm, 0, none⟩ = some (.int .i64 a0) ∧ w'.cell? ⟨gm, 1, none⟩ = some (.int .i64 a1) ∧ w'.cell? ⟨gm, 2, none⟩ = some (.int .i64 (n : Int)) ∧ w'.cell? ⟨gm, 3, none⟩ = some (.slice A rs.length c) ∧ w'.cell? ⟨br, 0, none⟩ = some (.int .i64 s) ∧ w'.cell? ⟨br, 1, none⟩ = some (.slice (some ⟨g1, 0, none⟩) at_.length c1) ∧ w'.cell? ⟨br, 2, none⟩ = some (.slice (some ⟨g2, 0, none⟩) tp.length c2)) (ds := []) #[false, false, false, false, false, false, false, false, false, false, false] (by kernel_rfl) rfl rfl ⟨m0, m1, m2, m3, n0, n1, n2⟩ (fun hHeld => ?_); refine with_tabW reg35a.tab reg35a.bits (fun HT_ HW_ => ?_)
    have HBQ0 := Aside0.mk (below_drew (Below.refl W.heap.size W))
    generalize W.drew = X1 at HBQ0 hHeld ⊢
    refine take_ (i := 0) (N := some 8) (v := ?_) (a' := ?_) #[true, false, false, false, false, false, false, false, false, false, false] rfl rfl (take_ofW HT_.out HW_.out (by kernel_rfl)) (fun _ _ _ h => h) (Or.inl ⟨by rfl, ?_⟩) hHeld ?_ ?_
    rotate_left
    · rintro w' ⟨s0, s1, s2, s3, s4, s5, s6⟩
      go_simp
      with_reducible rfl
    rotate_left
    · simp only [Act.put, List.setIfInBounds_toArray, List.set_cons_zero, List.set_cons_succ, i64_w, i32_w]
      rfl
    refine pure_ (i := 1) (N := some 9) (v := ?_) (a' := ?_) #[true, true, false, false, false, false, false, false, false, false, false] rfl rfl (any_of HT_.out (by kernel_rfl)) (fun _ _ _ h => h) (Or.inl ⟨by rfl, ?_⟩) ?_ ?_
    rotate_left
    · intro w'
      go_simp
      with_reducible rfl
    rotate_left
    · simp only [Act.put, List.setIfInBounds_toArray, List.set_cons_zero, List.set_cons_succ, i64_w, i32_w]
      rfl
    refine pure_ (i := 2) (N := some 10) (v := ?_) (a' := ?_) #[true, true, true, false, false, false, false, false, false, false, false] rfl rfl (any_of HT_.out (by kernel_rfl)) (fun _ _ _ h => h) (Or.inl ⟨by rfl, ?_⟩) ?_ ?_
    rotate_left
    · intro w'
      go_simp
      with_reducible rfl
    rotate_left
    · simp only [Act.put, List.setIfInBounds_toArray, List.set_cons_zero, List.set_cons_succ, i64_w, i32_w]
      rfl
    refine pure_ (i := 3) (N := some 11) (v := ?_) (a' := ?_) #[true, true, true, true, false, false, false, false, false, false, false] rfl rfl (any_of HT_.out (by kernel_rfl)) (fun _ _ _ h => h) (Or.inl ⟨by rfl, ?_⟩) ?_ ?_
    rotate_left
    · intro w'
      go_simp
      with_reducible rfl
    rotate_left
    · simp only [Act.put, List.setIfInBounds_toArray, List.set_cons_zero, List.set_cons_succ, i64_w, i32_w]
      rfl
    refine take_ (i := 4) (N := some 12) (v := ?_) (a' := ?_) #[true, true, true, true, true, false, false, false, false, false, false] rfl rfl (take_ofW HT_.out HW_.out (by kernel_rfl)) (fun _ _ _ h => h) (Or.inl ⟨by rfl, ?_⟩) hHeld ?_ ?_
    rotate_left
    · rintro w' ⟨s0, s1, s2, s3, s4, s5, s6⟩
      go_simp
      with_reducible rfl
    rotate_left
    · simp only [Act.put, List.setIfInBounds_toArray, List.set_cons_zero, List.set_cons_succ, i64_w, i32_w]
      rfl
    refine pure_ (i := 5) (N := some 13) (v := ?_) (a' := ?_) #[true, true, true, true, true, true, false, false, false, false, false] rfl rfl (any_of HT_.out (by kernel_rfl)) (fun _ _ _ h => h) (Or.inl ⟨by rfl, ?_⟩) ?_ ?_
    rotate_left
    · intro w'
      go_simp
      with_reducible rfl
    rotate_left
    · simp only [Act.put, List.setIfInBounds_toArray, List.set_cons_zero, List.set_cons_succ, i64_w, i32_w]
      rfl
    refine pure_ (i := 6) (N := some 14) (v := ?_) (a' := ?_) #[true, true, true, true, true, true, true, false, false, false, false] rfl rfl (any_of HT_.out (by kernel_rfl)) (fun _ _ _ h => h) (Or.inl ⟨by rfl, ?_⟩) ?_ ?_
    rotate_left
    · intro w'
      go_simp
      with_reducible rfl
    rotate_left
    · simp only [Act.put, List.setIfInBounds_toArray, List.set_cons_zero, List.set_cons_succ, i64_w, i32_w]
      rfl
    refine take_ (i := 7) (N := some 15) (v := ?_) (a' := ?_) #[true, true, true, true, true, true, true, true, false, false, false] rfl rfl (take_ofW HT_.out HW_.out (by kernel_rfl)) (fun _ _ _ h => h) (Or.inl ⟨by rfl, ?_⟩) hHeld ?_ ?_
    rotate_left
    · rintro w' ⟨s0, s1, s2, s3, s4, s5, s6⟩
      go_simp
      with_reducible rfl
    rotate_left
    · simp only [Act.put, List.setIfInBounds_toArray, List.set_cons_zero, List.set_cons_succ, i64_w, i32_w]
      rfl
    refine one_ (i := 8) (N := some 16) #[true, true, true, true, true, true, true, true, true, false, false] rfl rfl (one_of HT_.out (by kernel_rfl)) (by decide) (fun K hK => ?_)
    refine goes_ Try.func38 (by kernel_rfl) rfl #[.agg #[.int .i64 s, .slice (some ⟨g1, 0, none⟩) at_.length c1, .slice (some ⟨g2, 0, none⟩) tp.length c2]] (by rfl) rfl rfl (by (try simp only [List.map_toArray, List.map_cons, List.map_nil]); first | done | rfl) ?_
    refine (HREAD.out _ HBQ0.out).mono ?_
    rintro e w1 ⟨Ar, cr, rfl, hrl, hrC, hb1⟩
    refine ⟨_, rfl, ?_⟩
    have HBQ1 := Aside0.mk (below_step HBQ0.out hb1)
    have HRL1 := Aside0.mk hrl
    have HRC1 := Aside0.mk hrC
    clear hrl hrC
    refine hK.out _ _ ⟨pw_cell_below hb1 hHeld.1, pw_cell_below hb1 hHeld.2.1, pw_cell_below hb1 hHeld.2.2.1, pw_cell_below hb1 hHeld.2.2.2.1, pw_cell_below hb1 hHeld.2.2.2.2.1, pw_cell_below hb1 hHeld.2.2.2.2.2.1, pw_cell_below hb1 hHeld.2.2.2.2.2.2⟩ (fun hHeld => ?_)
    clear hK K
    refine norm_ (a' := ?_) ?_ ?_
    rotate_left
    · show Act.put _ (some 16) _ = _
      simp only [Act.put, List.setIfInBounds_toArray, List.set_cons_zero, List.set_cons_succ, i64_w, i32_w]
      rfl
    clear hb1
    refine one_ (i := 9) (N := some 17) #[true, true, true, true, true, true, true, true, true, true, false] rfl rfl (one_of HT_.out (by kernel_rfl)) (by decide) (fun K hK => ?_)
    refine goes_ Try.func37 (by kernel_rfl) rfl #[.agg #[.int .i64 a0, .int .i64 a1, .int .i64 (n : Int), .slice A rs.length c], .int .i64 s, .slice Ar rl.length cr] (by rfl) rfl rfl (by (try simp only [List.map_toArray, List.map_cons, List.map_nil]); first | done | rfl) ?_
    refine (HFIND.out _ Ar cr HBQ1.out HRL1.out HRC1.out).mono ?_
    rintro e w2 ⟨rfl, hb1⟩
    refine ⟨_, rfl, ?_⟩
    have HBQ := Aside0.mk (below_step HBQ1.out hb1)
    refine hK.out _ _ ⟨pw_cell_below hb1 hHeld.1, pw_cell_below hb1 hHeld.2.1, pw_cell_below hb1 hHeld.2.2.1, pw_cell_below hb1 hHeld.2.2.2.1, pw_cell_below hb1 hHeld.2.2.2.2.1, pw_cell_below hb1 hHeld.2.2.2.2.2.1, pw_cell_below hb1 hHeld.2.2.2.2.2.2⟩ (fun hHeld => ?_)
    clear hK K
    refine norm_ (a' := ?_) ?_ ?_
    rotate_left
    · show Act.put _ (some 17) _ = _
      simp only [Act.put, List.setIfInBounds_toArray, List.set_cons_zero, List.set_cons_succ, i64_w, i32_w]
      rfl
    clear hb1
    refine pure_ (i := 10) (N := some 5) (v := ?_) (a' := ?_) #[true, true, true, true, true, true, true, true, true, true, true] rfl rfl (any_of HT_.out (by kernel_rfl)) (fun _ _ _ h => h) (Or.inl ⟨by rfl, ?_⟩) ?_ ?_
    rotate_left
    · intro w'
      go_simp
      with_reducible rfl
    rotate_left
    · simp only [Act.put, List.setIfInBounds_toArray, List.set_cons_zero, List.set_cons_succ, i64_w, i32_w]
      rfl
    refine done_ (done_of HT_.out (by kernel_rfl)) ?_
    clear hHeld HT_ HW_
    clear HBQ0 HBQ1 HRL1 HRC1
    have hcc := fun o => (bcell HBQ.out).1 br o (Array.getElem?_eq_some_iff.1 HH.out.cells).1
    have r0 : w2.cell? ⟨br, 0, none⟩ = some (.int .i64 s) := (hcc 0).trans n0
    clear hcc
    have hfin : (((s == 1) = true) ∨ ((s == 1) = false ∧ (s == 2) = true) ∨ ((s == 1) = false ∧ (s == 2) = false)) := by
      cases (s == 1) <;> cases (s == 2) <;> simp
    rcases hfin with h9 | ⟨h9, h10⟩ | ⟨h9, h10⟩
    all_goals (go_wp2_with fail)
    all_goals go_ret
    all_goals exact ⟨rfl, HBW.out.trans (HBQ.out.mono HBW.out.size)⟩
  | some r =>
    obtain ⟨hj0, hj1', hjr⟩ := hj2 r hfr
    have hrm : r ∈ rs := List.mem_of_find?_eq_some hfr
    have hro := HRS.out r hrm
    have hf0 : r.f0 = s := by
      have := List.find?_some hfr
      simp only [keyL, beq_iff_eq, List.cons.injEq] at this
      exact this.1
    have h9 : (s == 1) = false := by have := hro.ne1; rw [hf0] at this; simpa using this
    have h10 : (s == 2) = false := by have := hro.ne2; rw [hf0] at this; simpa using this
    have h11 : decide (j < 0) = false := decide_eq_false (by omega)
    have hDs : D = some ⟨r.f2, (stepTo r at_ tp at_.length).1, (stepTo r at_ tp at_.length).2⟩ := by rw [← hD, hsr, hfr]; rfl
    have HDS := Aside0.mk hDs
    have HRO := Aside0.mk hro
    clear hj1 hj2 hfr hsr hD hrm hf0 hro hDs
    go_enter Try.func35, Try.ntmps35
    go_wp2_with fail
    try rw [HW.out]
    try rw [hgm]
    refine start_ (n := 11) (S := fun w' => w'.cell? ⟨gm, 0, none⟩ = some (.int .i64 a0) ∧ w'.cell? ⟨gm, 1, none⟩ = some (.int .i64 a1) ∧ w'.cell? ⟨gm, 2, none⟩ = some (.int .i64 (n : Int)) ∧ w'.cell? ⟨gm, 3, none⟩ = some (.slice A rs.length c) ∧ w'.cell? ⟨br, 0, none⟩ = some (.int .i64 s) ∧ w'.cell? ⟨br, 1, none⟩ = some (.slice (some ⟨g1, 0, none⟩) at_.length c1) ∧ w'.cell? ⟨br, 2, none⟩ = some (.slice (some ⟨g2, 0, none⟩) tp.length c2)) (ds := []) #[false, false, false, false, false, false, false, false, false, false, false] (by kernel_rfl) rfl rfl ⟨m0, m1, m2, m3, n0, n1, n2⟩ (fun hHeld => ?_); refine with_tabW reg35a.tab reg35a.bits (fun HT_ HW_ => ?_)
    have HBQ0 := Aside0.mk (below_drew (Below.refl W.heap.size W))
    generalize W.drew = X1 at HBQ0 hHeld ⊢
    refine take_ (i := 0) (N := some 8) (v := ?_) (a' := ?_) #[true, false, false, false, false, false, false, false, false, false, false] rfl rfl (take_ofW HT_.out HW_.out (by kernel_rfl)) (fun _ _ _ h => h) (Or.inl ⟨by rfl, ?_⟩) hHeld ?_ ?_
    rotate_left
    · rintro w' ⟨s0, s1, s2, s3, s4, s5, s6⟩
      go_simp
      with_reducible rfl
    rotate_left
    · simp only [Act.put, List.setIfInBounds_toArray, List.set_cons_zero, List.set_cons_succ, i64_w, i32_w]
      rfl
    refine pure_ (i := 1) (N := some 9) (v := ?_) (a' := ?_) #[true, true, false, false, false, false, false, false, false, false, false] rfl rfl (any_of HT_.out (by kernel_rfl)) (fun _ _ _ h => h) (Or.inl ⟨by rfl, ?_⟩) ?_ ?_
    rotate_left
    · intro w'
      go_simp
      with_reducible rfl
    rotate_left
    · simp only [Act.put, List.setIfInBounds_toArray, List.set_cons_zero, List.set_cons_succ, i64_w, i32_w]
      rfl
    refine pure_ (i := 2) (N := some 10) (v := ?_) (a' := ?_) #[true, true, true, false, false, false, false, false, false, false, false] rfl rfl (any_of HT_.out (by kernel_rfl)) (fun _ _ _ h => h) (Or.inl ⟨by rfl, ?_⟩) ?_ ?_
    rotate_left
    · intro w'
      go_simp
      with_reducible rfl
    rotate_left
    · simp only [Act.put, List.setIfInBounds_toArray, List.set_cons_zero, List.set_cons_succ, i64_w, i32_w]
      rfl
    refine pure_ (i := 3) (N := some 11) (v := ?_) (a' := ?_) #[true, true, true, true, false, false, false, false, false, false, false] rfl rfl (any_of HT_.out (by kernel_rfl)) (fun _ _ _ h => h) (Or.inl ⟨by rfl, ?_⟩) ?_ ?_
    rotate_left
    · intro w'
      go_simp
      with_reducible rfl
    rotate_left
    · simp only [Act.put, List.setIfInBounds_toArray, List.set_cons_zero, List.set_cons_succ, i64_w, i32_w]
      rfl
    refine take_ (i := 4) (N := some 12) (v := ?_) (a' := ?_) #[true, true, true, true, true, false, false, false, false, false, false] rfl rfl (take_ofW HT_.out HW_.out (by kernel_rfl)) (fun _ _ _ h => h) (Or.inl ⟨by rfl, ?_⟩) hHeld ?_ ?_
    rotate_left
    · rintro w' ⟨s0, s1, s2, s3, s4, s5, s6⟩
      go_simp
      with_reducible rfl
    rotate_left
    · simp only [Act.put, List.setIfInBounds_toArray, List.set_cons_zero, List.set_cons_succ, i64_w, i32_w]
      rfl
    refine pure_ (i := 5) (N := some 13) (v := ?_) (a' := ?_) #[true, true, true, true, true, true, false, false, false, false, false] rfl rfl (any_of HT_.out (by kernel_rfl)) (fun _ _ _ h => h) (Or.inl ⟨by rfl, ?_⟩) ?_ ?_
    rotate_left
    · intro w'
      go_simp
      with_reducible rfl
    rotate_left
    · simp only [Act.put, List.setIfInBounds_toArray, List.set_cons_zero, List.set_cons_succ, i64_w, i32_w]
      rfl
    refine pure_ (i := 6) (N := some 14) (v := ?_) (a' := ?_) #[true, true, true, true, true, true, true, false, false, false, false] rfl rfl (any_of HT_.out (by kernel_rfl)) (fun _ _ _ h => h) (Or.inl ⟨by rfl, ?_⟩) ?_ ?_
    rotate_left
    · intro w'
      go_simp
      with_reducible rfl
    rotate_left
    · simp only [Act.put, List.setIfInBounds_toArray, List.set_cons_zero, List.set_cons_succ, i64_w, i32_w]
      rfl
    refine take_ (i := 7) (N := some 15) (v := ?_) (a' := ?_) #[true, true, true, true, true, true, true, true, false, false, false] rfl rfl (take_ofW HT_.out HW_.out (by kernel_rfl)) (fun _ _ _ h => h) (Or.inl ⟨by rfl, ?_⟩) hHeld ?_ ?_
    rotate_left
    · rintro w' ⟨s0, s1, s2, s3, s4, s5, s6⟩
      go_simp
      with_reducible rfl
    rotate_left
    · simp only [Act.put, List.setIfInBounds_toArray, List.set_cons_zero, List.set_cons_succ, i64_w, i32_w]
      rfl
    refine one_ (i := 8) (N := some 16) #[true, true, true, true, true, true, true, true, true, false, false] rfl rfl (one_of HT_.out (by kernel_rfl)) (by decide) (fun K hK => ?_)
    refine goes_ Try.func38 (by kernel_rfl) rfl #[.agg #[.int .i64 s, .slice (some ⟨g1, 0, none⟩) at_.length c1, .slice (some ⟨g2, 0, none⟩) tp.length c2]] (by rfl) rfl rfl (by (try simp only [List.map_toArray, List.map_cons, List.map_nil]); first | done | rfl) ?_
    refine (HREAD.out _ HBQ0.out).mono ?_
    rintro e w1 ⟨Ar, cr, rfl, hrl, hrC, hb1⟩
    refine ⟨_, rfl, ?_⟩
    have HBQ1 := Aside0.mk (below_step HBQ0.out hb1)
    have HRL1 := Aside0.mk hrl
    have HRC1 := Aside0.mk hrC
    clear hrl hrC
    refine hK.out _ _ ⟨pw_cell_below hb1 hHeld.1, pw_cell_below hb1 hHeld.2.1, pw_cell_below hb1 hHeld.2.2.1, pw_cell_below hb1 hHeld.2.2.2.1, pw_cell_below hb1 hHeld.2.2.2.2.1, pw_cell_below hb1 hHeld.2.2.2.2.2.1, pw_cell_below hb1 hHeld.2.2.2.2.2.2⟩ (fun hHeld => ?_)
    clear hK K
    refine norm_ (a' := ?_) ?_ ?_
    rotate_left
    · show Act.put _ (some 16) _ = _
      simp only [Act.put, List.setIfInBounds_toArray, List.set_cons_zero, List.set_cons_succ, i64_w, i32_w]
      rfl
    clear hb1
    refine one_ (i := 9) (N := some 17) #[true, true, true, true, true, true, true, true, true, true, false] rfl rfl (one_of HT_.out (by kernel_rfl)) (by decide) (fun K hK => ?_)
    refine goes_ Try.func37 (by kernel_rfl) rfl #[.agg #[.int .i64 a0, .int .i64 a1, .int .i64 (n : Int), .slice A rs.length c], .int .i64 s, .slice Ar rl.length cr] (by rfl) rfl rfl (by (try simp only [List.map_toArray, List.map_cons, List.map_nil]); first | done | rfl) ?_
    refine (HFIND.out _ Ar cr HBQ1.out HRL1.out HRC1.out).mono ?_
    rintro e w2 ⟨rfl, hb1⟩
    refine ⟨_, rfl, ?_⟩
    have HBQ := Aside0.mk (below_step HBQ1.out hb1)
    refine hK.out _ _ ⟨pw_cell_below hb1 hHeld.1, pw_cell_below hb1 hHeld.2.1, pw_cell_below hb1 hHeld.2.2.1, pw_cell_below hb1 hHeld.2.2.2.1, pw_cell_below hb1 hHeld.2.2.2.2.1, pw_cell_below hb1 hHeld.2.2.2.2.2.1, pw_cell_below hb1 hHeld.2.2.2.2.2.2⟩ (fun hHeld => ?_)
    clear hK K
    refine norm_ (a' := ?_) ?_ ?_
    rotate_left
    · show Act.put _ (some 17) _ = _
      simp only [Act.put, List.setIfInBounds_toArray, List.set_cons_zero, List.set_cons_succ, i64_w, i32_w]
      rfl
    clear hb1
    refine pure_ (i := 10) (N := some 5) (v := ?_) (a' := ?_) #[true, true, true, true, true, true, true, true, true, true, true] rfl rfl (any_of HT_.out (by kernel_rfl)) (fun _ _ _ h => h) (Or.inl ⟨by rfl, ?_⟩) ?_ ?_
    rotate_left
    · intro w'
      go_simp
      with_reducible rfl
    rotate_left
    · simp only [Act.put, List.setIfInBounds_toArray, List.set_cons_zero, List.set_cons_succ, i64_w, i32_w]
      rfl
    refine done_ (done_of HT_.out (by kernel_rfl)) ?_
    clear hHeld HT_ HW_
    clear HBQ0 HBQ1 HRL1 HRC1
    have HSC2 := Aside0.mk (HH.out.below HBQ.out)
    have HMW2 := Aside0.mk ((HBQ.out.block _ (Array.getElem?_eq_some_iff.1 HMW.out).1).trans HMW.out)
    have HB2 := Aside0.mk (HB.out.trans (HBQ.out.mono HB.out.size))
    obtain ⟨ad, B1, e1, B3, e3, B4, e4, eA, h0, h1, h2, h3, h4, l1, gg1, l3, gg3, l4, gg4⟩ := at_T54 HR.out j hj0 hj1'
    subst eA
    rw [hjr] at h0 h1 h2 h3 h4 gg1 gg3 gg4
    replace h0 := pw_cell_below HB2.out h0
    replace h1 := pw_cell_below HB2.out h1
    replace h2 := pw_cell_below HB2.out h2
    replace h3 := pw_cell_below HB2.out h3
    replace h4 := pw_cell_below HB2.out h4
    have HG3W : Aside0 (Kd.C (Kd.int .i64) w0 B3 r.f3.length r.f3) := ⟨gg3⟩
    have HG4W : Aside0 (Kd.C (Kd.int .i64) w0 B4 r.f4.length r.f4) := ⟨gg4⟩
    obtain ⟨n0', n1', n2'⟩ := trio_cells HSC2.out.cells
    have f0' := run_frozen HSC2.out.cells 0
    obtain ⟨m0', m1', m2', m3'⟩ := run_cells4 HMW2.out
    have zb := (Array.getElem?_eq_some_iff.1 HSC2.out.cells).1
    have zm := (Array.getElem?_eq_some_iff.1 HMW2.out).1
    clear n0 n1 n2 m0 m1 m2 m3 l1 l3 l4 gg1 gg3 gg4
    go_wp2_with fail
    obtain ⟨gx, hgx⟩ : ∃ g, w2.heap.size = g := ⟨_, rfl⟩
    obtain ⟨V, hV⟩ : ∃ V, (w2.setCell ⟨br, 0, none⟩ (.int .i64 r.f2)).alloc (Obj.cells #[.int .i64 r.f0, .slice B1 r.f1.length e1, .int .i64 r.f2, .slice B3 r.f3.length e3, .slice B4 r.f4.length e4] 54) = V := ⟨_, rfl⟩
    have HADV : Aside0 (AdvAt w Fo w0 V br r.f2 (.slice (some ⟨g1, 0, none⟩) at_.length c1) at_ (.slice (some ⟨g2, 0, none⟩) tp.length c2) vs vs tp gx gm #[.int .i64 r.f0, .slice B1 r.f1.length e1, .int .i64 r.f2, .slice B3 r.f3.length e3, .slice B4 r.f4.length e4] #[.int .i64 a0, .int .i64 a1, .int .i64 (n : Int), .slice (some ad) rs.length c]) := ⟨by
      have hsz : (w2.setCell ⟨br, 0, none⟩ (.int .i64 r.f2)).heap.size = w2.heap.size := by simp
      rw [← hV]
      refine ⟨(HB2.out.setCell (p := ⟨br, 0, none⟩) HSC2.out.hbr _).alloc (by rw [hsz]; exact HB2.out.size) _, (HSC2.out.setState r.f2).alloc _, ?_, ?_, fun k hk => ⟨?_, HFO.out k hk⟩⟩
      · have := heap_alloc_new (w2.setCell ⟨br, 0, none⟩ (.int .i64 r.f2)) (Obj.cells #[.int .i64 r.f0, .slice B1 r.f1.length e1, .int .i64 r.f2, .slice B3 r.f3.length e3, .slice B4 r.f4.length e4] 54)
        rw [hsz, hgx] at this
        exact this
      · rw [heap_alloc_old _ _ (by rw [hsz]; exact zm), heap_setCell_other _ ⟨br, 0, none⟩ gm _ (fun e => ne_of_typed HSC2.out.cells HMW2.out (by decide) e.symm)]
        exact HMW2.out
      · obtain ⟨f1, f2, _⟩ := HFO.out k hk
        have f3 : k < w2.heap.size := Nat.lt_of_lt_of_le f1 (Nat.le_trans HBW.out.size HBQ.out.size)
        rw [heap_alloc_old _ _ (by rw [hsz]; exact f3), heap_setCell_other _ ⟨br, 0, none⟩ k _ f2]
        exact (HBQ.out.block k (Nat.lt_of_lt_of_le f1 HBW.out.size)).trans (HBW.out.block k f1)⟩
    have HB2V : Aside0 (Below w0.heap.size w0 V) := ⟨HADV.out.below⟩
    have HG3V : Aside0 (Kd.C (Kd.int .i64) w0 B3 r.f3.length r.f3) := ⟨HG3W.out⟩
    have HG4V : Aside0 (Kd.C (Kd.int .i64) w0 B4 r.f4.length r.f4) := ⟨HG4W.out⟩
    try rw [hV]
    try rw [hgx]
    clear hV hgx h0 h1 h2 h3 h4 n0' n1' n2' f0' m0' m1' m2' m3' zb zm HSC2 HMW2 HB2 HG3W HG4W
    go_loopg [7] n (fun gg v7 wr => ∃ i : Int, v7 = .int .i64 i ∧ Aside0 (0 ≤ i) ∧ Aside0 ((n : Int) - i = gg) ∧ Aside0 (∃ vs', AdvAt w Fo w0 wr br r.f2 (.slice (some ⟨g1, 0, none⟩) at_.length c1) (stepTo r at_ tp i.toNat).1 (.slice (some ⟨g2, 0, none⟩) tp.length c2) vs' vs' (stepTo r at_ tp i.toNat).2 gx gm #[.int .i64 r.f0, .slice B1 r.f1.length e1, .int .i64 r.f2, .slice B3 r.f3.length e3, .slice B4 r.f4.length e4] #[.int .i64 a0, .int .i64 a1, .int .i64 (n : Int), .slice (some ad) rs.length c]))
    case atStart => exact ⟨0, rfl, ⟨by omega⟩, ⟨by omega⟩, ⟨vs, HADV.out⟩⟩
    case round =>
      clear HADV HB2V
      obtain ⟨i, rfl, HI, HG, HAR⟩ := hrel
      have hi := HI.out
      obtain ⟨vs', hR⟩ := HAR.out
      obtain ⟨mm0, mm1, mm2, mm3⟩ := run_cells4 hR.hm
      by_cases cl : i < (n : Int)
      · have clb : decide (i < (n : Int)) = true := decide_eq_true cl
        obtain ⟨k1, k2, k3⟩ := stepTo_keeps r at_ tp i.toNat
        obtain ⟨k4, k5⟩ := k3 i.toNat (Nat.le_refl _)
        rw [show ((i.toNat : Nat) : Int) = i by omega] at k4 k5
        have HE : Aside0 (stepTo r at_ tp (i.toNat + 1) = ((stepTo r at_ tp i.toNat).1.set i.toNat (stepP (rd (stepTo r at_ tp i.toNat).1 i) (rd r.f4 i)), (stepTo r at_ tp i.toNat).2.set i.toNat (setPad (rd_L1 (stepTo r at_ tp i.toNat).2 i) (rd (stepTo r at_ tp i.toNat).1 i) (rd r.f3 i)))) := ⟨by
          have : ((i.toNat : Nat) : Int) = i := by omega
          simp only [stepTo, this]⟩
        have b0 := HGD.out.pos i.toNat
        have b1 := HGD.out.len i.toNat
        have b2 := HRO.out.moves i.toNat
        rw [show ((i.toNat : Nat) : Int) = i by omega] at b0 b1 b2
        simp only at b0 b1
        rw [← k4] at b0
        rw [← k5] at b1
        generalize stepTo r at_ tp i.toNat = st at hR HE k1 k2 b0 b1
        obtain ⟨a, t⟩ := st
        simp only at hR HE k1 k2 b0 b1
        clear k3 k4 k5 HAR
        obtain ⟨p, hp⟩ : ∃ p, rd a i = p := ⟨_, rfl⟩
        obtain ⟨l, hl⟩ : ∃ l, rd_L1 t i = l := ⟨_, rfl⟩
        rw [hp] at HE b0
        rw [hl] at HE b1
        have hla := HLA.out
        have hlt := HLT.out
        have htl : t[i.toNat]? = some l := by rw [← hl]; unfold rd_L1; rw [List.getD_eq_getElem?_getD, List.getElem?_eq_getElem (by omega)]; rfl
        have cl2 : i.toNat < vs'.length := by rw [hR.sc.len2, hR.sc.len1, k2]; omega
        have hu : vs'[i.toNat]? = some (vs'[i.toNat]'cl2) := List.getElem?_eq_getElem cl2
        obtain ⟨B, cu, eu, hlu, hCu⟩ := own_C (hR.sc.inner i.toNat _ l hu htl)
        rw [eu] at hu
        have HSTART : Aside0 (AdvAt w Fo w0 wr br r.f2 (.slice (some ⟨g1, 0, none⟩) at_.length c1) a (.slice (some ⟨g2, 0, none⟩) tp.length c2) vs' vs' (t.set i.toNat l) gx gm #[.int .i64 r.f0, .slice B1 r.f1.length e1, .int .i64 r.f2, .slice B3 r.f3.length e3, .slice B4 r.f4.length e4] #[.int .i64 a0, .int .i64 a1, .int .i64 (n : Int), .slice (some ad) rs.length c] ∧ vs'[i.toNat]? = some (.slice B l.length cu)) := ⟨by rw [set_same htl]; exact ⟨hR, hu⟩⟩
        have HB0 := Aside0.mk b0
        have HB1 := Aside0.mk b1
        have HB2 := Aside0.mk b2
        have HK1 : Aside0 (a.length = at_.length) := ⟨k1⟩
        have HK2 : Aside0 (t.length = tp.length) := ⟨k2⟩
        have HP := Aside0.mk hp
        have HTL := Aside0.mk htl
        have HCL := Aside0.mk cl
        clear hR hu htl eu hCu hlu cl2 b0 b1 b2 k1 k2 hp hl hla hlt
        go_wp2_with fail
        clear mm0 mm1 mm2 mm3
        go_loopg [65] (p.toNat + 1) (fun gg v65 wr => ∃ (B' : Option Addr) (cu' : Nat) (l' : List Int) (vs2 : List Value), Aside0 (p + 1 - l'.length ≤ gg) ∧ Aside0 (l'.length ≤ 300000) ∧ Aside0 (l' ++ List.replicate (p.toNat + 1 - l'.length) 0 = l ++ List.replicate (p.toNat + 1 - l.length) 0) ∧ Aside0 (AdvAt w Fo w0 wr br r.f2 (.slice (some ⟨g1, 0, none⟩) at_.length c1) a (.slice (some ⟨g2, 0, none⟩) tp.length c2) vs2 vs2 (t.set i.toNat l') gx gm #[.int .i64 r.f0, .slice B1 r.f1.length e1, .int .i64 r.f2, .slice B3 r.f3.length e3, .slice B4 r.f4.length e4] #[.int .i64 a0, .int .i64 a1, .int .i64 (n : Int), .slice (some ad) rs.length c] ∧ vs2[i.toNat]? = some (.slice B' l'.length cu')))
        case atStart => exact ⟨B, cu, l, vs', ⟨by have := HB0.out; omega⟩, ⟨by have := HB1.out; have := HBM.out; omega⟩, ⟨rfl⟩, HSTART⟩
        case round =>
          clear HSTART
          rename World => w3
          obtain ⟨B', cu', l', vs2, HMS, HLE, HPD, HAU⟩ := hrel
          have hi := HI.out
          have it : i.toNat < t.length := (List.getElem?_eq_some_iff.1 HTL.out).1
          have hia : i < (at_.length : Int) := by have := HLA.out; have := HCL.out; omega
          have hit : i < (tp.length : Int) := by have := HLT.out; have := HCL.out; omega
          have HLN : Aside0 (∀ {w' : World} {vs3 : List Value} {t3 : List (List Int)}, AdvAt w Fo w0 w' br r.f2 (.slice (some ⟨g1, 0, none⟩) at_.length c1) a (.slice (some ⟨g2, 0, none⟩) tp.length c2) vs3 vs3 t3 gx gm #[.int .i64 r.f0, .slice B1 r.f1.length e1, .int .i64 r.f2, .slice B3 r.f3.length e3, .slice B4 r.f4.length e4] #[.int .i64 a0, .int .i64 a1, .int .i64 (n : Int), .slice (some ad) rs.length c] → t3.length = tp.length → w'.ownsRow w0.heap.size 25 1 (.slice (some ⟨g2, 0, none⟩) tp.length c2) tp.length vs3 ∧ w'.ownsRow w0.heap.size 3 1 (.slice (some ⟨g1, 0, none⟩) at_.length c1) at_.length (a.map (Value.int .i64)) ∧ vs3.length = tp.length) := ⟨fun h h3 => by
            have q1 := h.sc.row1
            have q2 := h.sc.row2
            have q3 : _ := h.sc.len2.trans (h.sc.len1.trans h3)
            rw [HK1.out] at q1
            rw [q3] at q2
            exact ⟨q2, q1, q3⟩⟩
          have hts : (t.set i.toNat l').length = tp.length := by rw [List.length_set]; exact HK2.out
          obtain ⟨q2, q1, q3⟩ := HLN.out HAU.out.1 hts
          obtain ⟨_, y1', y2'⟩ := trio_cells HAU.out.1.sc.cells
          obtain ⟨ya, yf⟩ := at_row q1 hi hia
          rw [HP.out] at ya
          have xt : w3.cell? ⟨g2, i.toNat, none⟩ = some (.slice B' l'.length cu') := by rw [q2.cellAt i.toNat (by omega)]; exact HAU.out.2
          have p1 := eq_true hi
          have p2 := eq_true hia
          have p3 := eq_true hit
          have HIT := Aside0.mk it
          have HTS := Aside0.mk hts
          clear q1 q2 q3 hi hia hit it hts yf
          go_wp2_with fail
          refine start_ (n := 16) (S := fun w' => w'.cell? ⟨br, 1, none⟩ = some (.slice (some ⟨g1, 0, none⟩) at_.length c1) ∧ w'.cell? ⟨br, 2, none⟩ = some (.slice (some ⟨g2, 0, none⟩) tp.length c2) ∧ w'.cell? ⟨g2, i.toNat, none⟩ = some (.slice B' l'.length cu') ∧ w'.cell? ⟨g1, i.toNat, none⟩ = some (.int .i64 p)) (ds := []) #[false, false, false, false, false, false, false, false, false, false, false, false, false, false, false, false] (by kernel_rfl) rfl rfl ⟨y1', y2', xt, ya⟩ (fun hHeld => ?_); refine with_tabW reg35c.tab reg35c.bits (fun HT_ HW_ => ?_)
          have HDW := Aside0.mk (below_drew (Below.refl w3.heap.size w3))
          generalize w3.drew = X9 at HDW hHeld ⊢
          refine pure_ (i := 0) (N := some 50) (v := ?_) (a' := ?_) #[true, false, false, false, false, false, false, false, false, false, false, false, false, false, false, false] rfl rfl (any_of HT_.out (by kernel_rfl)) (fun _ _ _ h => h) (Or.inl ⟨by rfl, ?_⟩) ?_ ?_
          rotate_left
          · intro w'
            go_simp
            with_reducible rfl
          rotate_left
          · simp only [Act.put, List.setIfInBounds_toArray, List.set_cons_zero, List.set_cons_succ, i64_w, i32_w]
            rfl
          refine pure_ (i := 1) (N := some 51) (v := ?_) (a' := ?_) #[true, true, false, false, false, false, false, false, false, false, false, false, false, false, false, false] rfl rfl (any_of HT_.out (by kernel_rfl)) (fun _ _ _ h => h) (Or.inl ⟨by rfl, ?_⟩) ?_ ?_
          rotate_left
          · intro w'
            go_simp
            with_reducible rfl
          rotate_left
          · simp only [Act.put, List.setIfInBounds_toArray, List.set_cons_zero, List.set_cons_succ, i64_w, i32_w]
            rfl
          refine pure_ (i := 2) (N := some 52) (v := ?_) (a' := ?_) #[true, true, true, false, false, false, false, false, false, false, false, false, false, false, false, false] rfl rfl (any_of HT_.out (by kernel_rfl)) (fun _ _ _ h => h) (Or.inl ⟨by rfl, ?_⟩) ?_ ?_
          rotate_left
          · intro w'
            go_simp
            with_reducible rfl
          rotate_left
          · simp only [Act.put, List.setIfInBounds_toArray, List.set_cons_zero, List.set_cons_succ, i64_w, i32_w]
            rfl
          refine pure_ (i := 4) (N := some 54) (v := ?_) (a' := ?_) #[true, true, true, false, true, false, false, false, false, false, false, false, false, false, false, false] rfl rfl (any_of HT_.out (by kernel_rfl)) (fun _ _ _ h => h) (Or.inl ⟨by rfl, ?_⟩) ?_ ?_
          rotate_left
          · intro w'
            go_simp
            with_reducible rfl
          rotate_left
          · simp only [Act.put, List.setIfInBounds_toArray, List.set_cons_zero, List.set_cons_succ, i64_w, i32_w]
            rfl
          refine take_ (i := 3) (N := some 53) (v := ?_) (a' := ?_) #[true, true, true, true, true, false, false, false, false, false, false, false, false, false, false, false] rfl rfl (take_ofW HT_.out HW_.out (by kernel_rfl)) (fun _ _ _ h => h) (Or.inl ⟨by rfl, ?_⟩) hHeld ?_ ?_
          rotate_left
          · rintro w' ⟨s0, s1, s2, s3⟩
            go_simp
            with_reducible rfl
          rotate_left
          · simp only [Act.put, List.setIfInBounds_toArray, List.set_cons_zero, List.set_cons_succ, i64_w, i32_w]
            rfl
          refine pure_ (i := 5) (N := some 55) (v := ?_) (a' := ?_) #[true, true, true, true, true, true, false, false, false, false, false, false, false, false, false, false] rfl rfl (any_of HT_.out (by kernel_rfl)) (fun _ _ _ h => h) (Or.inl ⟨by rfl, ?_⟩) ?_ ?_
          rotate_left
          · intro w'
            go_simp
            with_reducible rfl
          rotate_left
          · simp only [Act.put, List.setIfInBounds_toArray, List.set_cons_zero, List.set_cons_succ, i64_w, i32_w]
            rfl
          refine take_ (i := 6) (N := some 56) (v := ?_) (a' := ?_) #[true, true, true, true, true, true, true, false, false, false, false, false, false, false, false, false] rfl rfl (take_ofW HT_.out HW_.out (by kernel_rfl)) (fun _ _ _ h => h) (Or.inl ⟨by rfl, ?_⟩) hHeld ?_ ?_
          rotate_left
          · rintro w' ⟨s0, s1, s2, s3⟩
            go_simp
            with_reducible rfl
          rotate_left
          · simp only [Act.put, List.setIfInBounds_toArray, List.set_cons_zero, List.set_cons_succ, i64_w, i32_w]
            rfl
          refine pure_ (i := 7) (N := some 57) (v := ?_) (a' := ?_) #[true, true, true, true, true, true, true, true, false, false, false, false, false, false, false, false] rfl rfl (any_of HT_.out (by kernel_rfl)) (fun _ _ _ h => h) (Or.inl ⟨by rfl, ?_⟩) ?_ ?_
          rotate_left
          · intro w'
            go_simp
            with_reducible rfl
          rotate_left
          · simp only [Act.put, List.setIfInBounds_toArray, List.set_cons_zero, List.set_cons_succ, i64_w, i32_w]
            rfl
          refine pure_ (i := 8) (N := some 58) (v := ?_) (a' := ?_) #[true, true, true, true, true, true, true, true, true, false, false, false, false, false, false, false] rfl rfl (any_of HT_.out (by kernel_rfl)) (fun _ _ _ h => h) (Or.inl ⟨by rfl, ?_⟩) ?_ ?_
          rotate_left
          · intro w'
            go_simp
            with_reducible rfl
          rotate_left
          · simp only [Act.put, List.setIfInBounds_toArray, List.set_cons_zero, List.set_cons_succ, i64_w, i32_w]
            rfl
          refine pure_ (i := 9) (N := some 59) (v := ?_) (a' := ?_) #[true, true, true, true, true, true, true, true, true, true, false, false, false, false, false, false] rfl rfl (any_of HT_.out (by kernel_rfl)) (fun _ _ _ h => h) (Or.inl ⟨by rfl, ?_⟩) ?_ ?_
          rotate_left
          · intro w'
            go_simp
            with_reducible rfl
          rotate_left
          · simp only [Act.put, List.setIfInBounds_toArray, List.set_cons_zero, List.set_cons_succ, i64_w, i32_w]
            rfl
          refine pure_ (i := 10) (N := some 60) (v := ?_) (a' := ?_) #[true, true, true, true, true, true, true, true, true, true, true, false, false, false, false, false] rfl rfl (any_of HT_.out (by kernel_rfl)) (fun _ _ _ h => h) (Or.inl ⟨by rfl, ?_⟩) ?_ ?_
          rotate_left
          · intro w'
            go_simp
            with_reducible rfl
          rotate_left
          · simp only [Act.put, List.setIfInBounds_toArray, List.set_cons_zero, List.set_cons_succ, i64_w, i32_w]
            rfl
          refine take_ (i := 11) (N := some 61) (v := ?_) (a' := ?_) #[true, true, true, true, true, true, true, true, true, true, true, true, false, false, false, false] rfl rfl (take_ofW HT_.out HW_.out (by kernel_rfl)) (fun _ _ _ h => h) (Or.inl ⟨by rfl, ?_⟩) hHeld ?_ ?_
          rotate_left
          · rintro w' ⟨s0, s1, s2, s3⟩
            go_simp
            with_reducible rfl
          rotate_left
          · simp only [Act.put, List.setIfInBounds_toArray, List.set_cons_zero, List.set_cons_succ, i64_w, i32_w]
            rfl
          refine pure_ (i := 12) (N := some 62) (v := ?_) (a' := ?_) #[true, true, true, true, true, true, true, true, true, true, true, true, true, false, false, false] rfl rfl (any_of HT_.out (by kernel_rfl)) (fun _ _ _ h => h) (Or.inl ⟨by rfl, ?_⟩) ?_ ?_
          rotate_left
          · intro w'
            go_simp
            with_reducible rfl
          rotate_left
          · simp only [Act.put, List.setIfInBounds_toArray, List.set_cons_zero, List.set_cons_succ, i64_w, i32_w]
            rfl
          refine pure_ (i := 13) (N := some 63) (v := ?_) (a' := ?_) #[true, true, true, true, true, true, true, true, true, true, true, true, true, true, false, false] rfl rfl (any_of HT_.out (by kernel_rfl)) (fun _ _ _ h => h) (Or.inl ⟨by rfl, ?_⟩) ?_ ?_
          rotate_left
          · intro w'
            go_simp
            with_reducible rfl
          rotate_left
          · simp only [Act.put, List.setIfInBounds_toArray, List.set_cons_zero, List.set_cons_succ, i64_w, i32_w]
            rfl
          refine take_ (i := 14) (N := some 64) (v := ?_) (a' := ?_) #[true, true, true, true, true, true, true, true, true, true, true, true, true, true, true, false] rfl rfl (take_ofW HT_.out HW_.out (by kernel_rfl)) (fun _ _ _ h => h) (Or.inl ⟨by rfl, ?_⟩) hHeld ?_ ?_
          rotate_left
          · rintro w' ⟨s0, s1, s2, s3⟩
            go_simp
            with_reducible rfl
          rotate_left
          · simp only [Act.put, List.setIfInBounds_toArray, List.set_cons_zero, List.set_cons_succ, i64_w, i32_w]
            rfl
          refine pure_ (i := 15) (N := some 65) (v := ?_) (a' := ?_) #[true, true, true, true, true, true, true, true, true, true, true, true, true, true, true, true] rfl rfl (any_of HT_.out (by kernel_rfl)) (fun _ _ _ h => h) (Or.inl ⟨by rfl, ?_⟩) ?_ ?_
          rotate_left
          · intro w'
            go_simp
            with_reducible rfl
          rotate_left
          · simp only [Act.put, List.setIfInBounds_toArray, List.set_cons_zero, List.set_cons_succ, i64_w, i32_w]
            rfl
          refine done_ (done_of HT_.out (by kernel_rfl)) ?_
          have HAV := Aside0.mk (HAU.out.1.keep HDW.out)
          clear HDW y1' y2' ya xt
          have HVU : Aside0 (vs2[i.toNat]? = some (.slice B' l'.length cu')) := ⟨HAU.out.2⟩
          clear HAU hHeld HT_ HW_
          obtain ⟨q2, q1, q3⟩ := HLN.out HAV.out HTS.out
          obtain ⟨_, y1', y2'⟩ := trio_cells HAV.out.sc.cells
          obtain ⟨ya, yf⟩ := at_row q1 (of_eq_true p1) (of_eq_true p2)
          rw [HP.out] at ya
          have xt : X9.cell? ⟨g2, i.toNat, none⟩ = some (.slice B' l'.length cu') := by rw [q2.cellAt i.toNat (by have := of_eq_true p3; have := of_eq_true p1; omega)]; exact HVU.out
          clear q1 q2 q3
          by_cases cp : (l'.length : Int) ≤ p
          · have cpb : decide ((l'.length : Int) ≤ p) = true := decide_eq_true cp
            have HCP := Aside0.mk cp
            go_wp2_with fail
            clear cp cpb
            have HIN : Aside0 (X9.ownsRow w0.heap.size 3 1 (.slice B' l'.length cu') l'.length (l'.map (Value.int .i64))) := ⟨HAV.out.sc.inner i.toNat _ _ HVU.out (List.getElem?_set_self HIT.out)⟩
            refine start_ (n := 16) (S := fun w' => w'.cell? ⟨br, 1, none⟩ = some (.slice (some ⟨g1, 0, none⟩) at_.length c1) ∧ w'.cell? ⟨br, 2, none⟩ = some (.slice (some ⟨g2, 0, none⟩) tp.length c2) ∧ w'.cell? ⟨g2, i.toNat, none⟩ = some (.slice B' l'.length cu') ∧ w'.cell? ⟨g1, i.toNat, none⟩ = some (.int .i64 p)) (ds := [15]) #[false, false, false, false, false, false, false, false, false, false, false, false, false, false, false, false] (by kernel_rfl) rfl rfl ⟨y1', y2', xt, ya⟩ (fun hHeld => ?_); refine with_tabW reg35d.tab reg35d.bits (fun HT_ HW_ => ?_)
            have HDW := Aside0.mk (below_drew (Below.refl X9.heap.size X9))
            generalize X9.drew = X10 at HDW hHeld ⊢
            clear y1' y2' ya yf xt
            refine pure_ (i := 0) (N := some 66) (v := ?_) (a' := ?_) #[true, false, false, false, false, false, false, false, false, false, false, false, false, false, false, false] rfl rfl (any_of HT_.out (by kernel_rfl)) (fun _ _ _ h => h) (Or.inl ⟨by rfl, ?_⟩) ?_ ?_
            rotate_left
            · intro w'
              go_simp
              with_reducible rfl
            rotate_left
            · simp only [Act.put, List.setIfInBounds_toArray, List.set_cons_zero, List.set_cons_succ, i64_w, i32_w]
              rfl
            refine pure_ (i := 1) (N := some 67) (v := ?_) (a' := ?_) #[true, true, false, false, false, false, false, false, false, false, false, false, false, false, false, false] rfl rfl (any_of HT_.out (by kernel_rfl)) (fun _ _ _ h => h) (Or.inl ⟨by rfl, ?_⟩) ?_ ?_
            rotate_left
            · intro w'
              go_simp
              with_reducible rfl
            rotate_left
            · simp only [Act.put, List.setIfInBounds_toArray, List.set_cons_zero, List.set_cons_succ, i64_w, i32_w]
              rfl
            refine pure_ (i := 2) (N := some 68) (v := ?_) (a' := ?_) #[true, true, true, false, false, false, false, false, false, false, false, false, false, false, false, false] rfl rfl (any_of HT_.out (by kernel_rfl)) (fun _ _ _ h => h) (Or.inl ⟨by rfl, ?_⟩) ?_ ?_
            rotate_left
            · intro w'
              go_simp
              with_reducible rfl
            rotate_left
            · simp only [Act.put, List.setIfInBounds_toArray, List.set_cons_zero, List.set_cons_succ, i64_w, i32_w]
              rfl
            refine pure_ (i := 4) (N := some 70) (v := ?_) (a' := ?_) #[true, true, true, false, true, false, false, false, false, false, false, false, false, false, false, false] rfl rfl (any_of HT_.out (by kernel_rfl)) (fun _ _ _ h => h) (Or.inl ⟨by rfl, ?_⟩) ?_ ?_
            rotate_left
            · intro w'
              go_simp
              with_reducible rfl
            rotate_left
            · simp only [Act.put, List.setIfInBounds_toArray, List.set_cons_zero, List.set_cons_succ, i64_w, i32_w]
              rfl
            refine pure_ (i := 5) (N := some 71) (v := ?_) (a' := ?_) #[true, true, true, false, true, true, false, false, false, false, false, false, false, false, false, false] rfl rfl (any_of HT_.out (by kernel_rfl)) (fun _ _ _ h => h) (Or.inl ⟨by rfl, ?_⟩) ?_ ?_
            rotate_left
            · intro w'
              go_simp
              with_reducible rfl
            rotate_left
            · simp only [Act.put, List.setIfInBounds_toArray, List.set_cons_zero, List.set_cons_succ, i64_w, i32_w]
              rfl
            refine pure_ (i := 6) (N := some 72) (v := ?_) (a' := ?_) #[true, true, true, false, true, true, true, false, false, false, false, false, false, false, false, false] rfl rfl (any_of HT_.out (by kernel_rfl)) (fun _ _ _ h => h) (Or.inl ⟨by rfl, ?_⟩) ?_ ?_
            rotate_left
            · intro w'
              go_simp
              with_reducible rfl
            rotate_left
            · simp only [Act.put, List.setIfInBounds_toArray, List.set_cons_zero, List.set_cons_succ, i64_w, i32_w]
              rfl
            refine pure_ (i := 7) (N := some 73) (v := ?_) (a' := ?_) #[true, true, true, false, true, true, true, true, false, false, false, false, false, false, false, false] rfl rfl (any_of HT_.out (by kernel_rfl)) (fun _ _ _ h => h) (Or.inl ⟨by rfl, ?_⟩) ?_ ?_
            rotate_left
            · intro w'
              go_simp
              with_reducible rfl
            rotate_left
            · simp only [Act.put, List.setIfInBounds_toArray, List.set_cons_zero, List.set_cons_succ, i64_w, i32_w]
              rfl
            refine pure_ (i := 9) (N := some 75) (v := ?_) (a' := ?_) #[true, true, true, false, true, true, true, true, false, true, false, false, false, false, false, false] rfl rfl (any_of HT_.out (by kernel_rfl)) (fun _ _ _ h => h) (Or.inl ⟨by rfl, ?_⟩) ?_ ?_
            rotate_left
            · intro w'
              go_simp
              with_reducible rfl
            rotate_left
            · simp only [Act.put, List.setIfInBounds_toArray, List.set_cons_zero, List.set_cons_succ, i64_w, i32_w]
              rfl
            refine take_ (i := 3) (N := some 69) (v := ?_) (a' := ?_) #[true, true, true, true, true, true, true, true, false, true, false, false, false, false, false, false] rfl rfl (take_ofW HT_.out HW_.out (by kernel_rfl)) (fun _ _ _ h => h) (Or.inl ⟨by rfl, ?_⟩) hHeld ?_ ?_
            rotate_left
            · rintro w' ⟨s0, s1, s2, s3⟩
              go_simp
              with_reducible rfl
            rotate_left
            · simp only [Act.put, List.setIfInBounds_toArray, List.set_cons_zero, List.set_cons_succ, i64_w, i32_w]
              rfl
            refine take_ (i := 8) (N := some 74) (v := ?_) (a' := ?_) #[true, true, true, true, true, true, true, true, true, true, false, false, false, false, false, false] rfl rfl (take_ofW HT_.out HW_.out (by kernel_rfl)) (fun _ _ _ h => h) (Or.inl ⟨by rfl, ?_⟩) hHeld ?_ ?_
            rotate_left
            · rintro w' ⟨s0, s1, s2, s3⟩
              go_simp
              with_reducible rfl
            rotate_left
            · simp only [Act.put, List.setIfInBounds_toArray, List.set_cons_zero, List.set_cons_succ, i64_w, i32_w]
              rfl
            refine pure_ (i := 10) (N := some 76) (v := ?_) (a' := ?_) #[true, true, true, true, true, true, true, true, true, true, true, false, false, false, false, false] rfl rfl (any_of HT_.out (by kernel_rfl)) (fun _ _ _ h => h) (Or.inl ⟨by rfl, ?_⟩) ?_ ?_
            rotate_left
            · intro w'
              go_simp
              with_reducible rfl
            rotate_left
            · simp only [Act.put, List.setIfInBounds_toArray, List.set_cons_zero, List.set_cons_succ, i64_w, i32_w]
              rfl
            refine take_ (i := 11) (N := some 77) (v := ?_) (a' := ?_) #[true, true, true, true, true, true, true, true, true, true, true, true, false, false, false, false] rfl rfl (take_ofW HT_.out HW_.out (by kernel_rfl)) (fun _ _ _ h => h) (Or.inl ⟨by rfl, ?_⟩) hHeld ?_ ?_
            rotate_left
            · rintro w' ⟨s0, s1, s2, s3⟩
              go_simp
              with_reducible rfl
            rotate_left
            · simp only [Act.put, List.setIfInBounds_toArray, List.set_cons_zero, List.set_cons_succ, i64_w, i32_w]
              rfl
            refine one_ (i := 12) (N := some 78) #[true, true, true, true, true, true, true, true, true, true, true, true, true, false, false, false] rfl rfl (one_of HT_.out (by kernel_rfl)) (by decide) (fun K hK => ?_)
            refine event_step (v := .slice (some ⟨X10.heap.size, 0, none⟩) 1 1) (w1 := X10.alloc (.cells #[.int .i64 0] 3)) (by rfl) (by go_simp; first | done | rfl) ?_
            have hb10 : Below X10.heap.size X10 (X10.alloc (.cells #[.int .i64 0] 3)) := (Below.refl _ _).alloc (Nat.le_refl _) _
            refine hK.out _ _ ⟨pw_cell_below hb10 hHeld.1, pw_cell_below hb10 hHeld.2.1, pw_cell_below hb10 hHeld.2.2.1, pw_cell_below hb10 hHeld.2.2.2⟩ (fun hHeld => ?_)
            clear hK K hb10
            refine norm_ (a' := ?_) ?_ ?_
            rotate_left
            · show Act.put _ (some 78) _ = _
              simp only [Act.put, List.setIfInBounds_toArray, List.set_cons_zero, List.set_cons_succ, i64_w, i32_w]
              rfl
            refine one_ (i := 13) (N := some 79) #[true, true, true, true, true, true, true, true, true, true, true, true, true, true, false, false] rfl rfl (one_of HT_.out (by kernel_rfl)) (by decide) (fun K hK => ?_)
            obtain ⟨v', w5, hrun, r1, hg, hat⟩ := run_append_one w0.heap.size 25 3 (.int .i64 0) 8 Try.underlying25 info3 rfl (by decide) (.slice B' l'.length cu') l'.length (l'.map (Value.int .i64)) (.int .i64 0) rfl (pw_own_below HIN.out HDW.out) (by have := HLE.out; omega) (HAV.out.keep HDW.out).below.size
            obtain ⟨C3, cc3, rfl⟩ := own_slice r1
            refine event_step (v := .slice C3 (l'.length + 1) cc3) (w1 := w5) (by rfl) (exec_append (.tmp 77) (.tmp 78) 25 25 rfl rfl (by rfl) (by rfl) hrun) ?_
            have hsc5 := (HAV.out.sc.below HDW.out).setTape (l' := l' ++ [0]) HVU.out (List.getElem?_set_self HIT.out) hg hat (by rw [List.length_append, List.map_append]; exact r1)
            rw [List.set_set] at hsc5
            have HA5 := Aside0.mk ((HAV.out.keep HDW.out).write hg (own_row (pw_own_below HIN.out HDW.out) (by decide) (by decide)) (fun k hk h => (HAV.out.fo k h).2.2.2.2.2 i.toNat _ HVU.out hk) (fun k hk j u hj e => by
              by_cases hji : j = i.toNat
              · subst hji
                have hlt9 : i.toNat < vs2.length := (List.getElem?_eq_some_iff.1 HVU.out).1
                rw [List.getElem?_set_self hlt9] at hj
                obtain rfl := Option.some.inj hj
                rcases hat with e1 | ⟨b9, e1, hb9⟩
                · exact (HAV.out.fo k hk).2.2.2.2.2 i.toNat _ HVU.out (e1.symm.trans e)
                · have e2 := Option.some.inj (e1.symm.trans e)
                  have f9 := fo_lt ((HAV.out.keep HDW.out).fo k hk).1 ((HAV.out.keep HDW.out).fo k hk).2.1
                  omega
              · rw [List.getElem?_set_ne (fun h => hji h.symm)] at hj
                exact (HAV.out.fo k hk).2.2.2.2.2 j u hj e) hsc5)
            obtain ⟨q2, q1, q3⟩ : w5.ownsRow w0.heap.size 25 1 (.slice (some ⟨g2, 0, none⟩) tp.length c2) tp.length vs2 ∧ w5.ownsRow w0.heap.size 3 1 (.slice (some ⟨g1, 0, none⟩) at_.length c1) at_.length (a.map (Value.int .i64)) ∧ vs2.length = tp.length := by
              have q1 := HA5.out.sc.row1
              have q2 := HA5.out.sc.row2
              have q3 : vs2.length = tp.length := (HLN.out HAV.out HTS.out).2.2
              rw [HK1.out] at q1
              rw [q3] at q2
              exact ⟨q2, q1, q3⟩
            obtain ⟨_, y1', y2'⟩ := trio_cells HA5.out.sc.cells
            obtain ⟨ya, yf⟩ := at_row q1 (of_eq_true p1) (of_eq_true p2)
            rw [HP.out] at ya
            have xt : w5.cell? ⟨g2, i.toNat, none⟩ = some (.slice B' l'.length cu') := by rw [q2.cellAt i.toNat (by have := of_eq_true p3; have := of_eq_true p1; omega)]; exact HVU.out
            have xf : w5.frozen? ⟨g2, i.toNat, none⟩ = false := q2.frozenAt _
            have HQ2 := Aside0.mk q2
            have HQ3 := Aside0.mk q3
            clear hrun r1 hg hat hsc5 q1 q2 q3
            refine hK.out _ _ ⟨y1', y2', xt, ya⟩ (fun hHeld => ?_)
            clear hK K y1' y2' xt ya yf
            refine norm_ (a' := ?_) ?_ ?_
            rotate_left
            · show Act.put _ (some 79) _ = _
              simp only [Act.put, List.setIfInBounds_toArray, List.set_cons_zero, List.set_cons_succ, i64_w, i32_w]
              rfl
            refine pure_ (i := 14) (N := some 80) (v := ?_) (a' := ?_) #[true, true, true, true, true, true, true, true, true, true, true, true, true, true, true, false] rfl rfl (any_of HT_.out (by kernel_rfl)) (fun _ _ _ h => h) (Or.inl ⟨by rfl, ?_⟩) ?_ ?_
            rotate_left
            · intro w'
              go_simp
              with_reducible rfl
            rotate_left
            · simp only [Act.put, List.setIfInBounds_toArray, List.set_cons_zero, List.set_cons_succ, i64_w, i32_w]
              rfl
            refine last_ (i := 15) (N := none) #[true, true, true, true, true, true, true, true, true, true, true, true, true, true, true, true] rfl rfl (one_of HT_.out (by kernel_rfl)) (by decide) (fun K hK => ?_)
            have s5 := hHeld.2.2.1
            refine skip_ (w1 := ?_) (by rfl) rfl ?_ ?_
            rotate_left
            · go_simp
              rfl
            refine hK.out _ _ ?_
            clear hK K
            refine done_ (done_of HT_.out (by kernel_rfl)) ?_
            clear s5 xf
            have hrw := own_row HQ2.out (by decide) (by decide)
            obtain ⟨hst, hgr⟩ := HQ2.out.stored i.toNat (.slice C3 (l'.length + 1) cc3)
            have hsc6 := HA5.out.sc.setOuter (g := g2) (vs' := vs2.set i.toNat (.slice C3 (l'.length + 1) cc3)) rfl hgr (by simp only [List.length_set]) (by rw [List.length_set, HQ3.out]; exact hst)
            have hA6 := Aside0.mk (HA5.out.write hgr (fun k hk => hrw k hk) (fun k hk h => (HA5.out.fo k h).2.2.2.2.1 hk) (fun k hk => (HA5.out.fo k hk).2.2.2.2.2) hsc6)
            have hvs : i.toNat < vs2.length := (List.getElem?_eq_some_iff.1 HVU.out).1
            have HVS := Aside0.mk hvs
            clear hrw hst hgr hsc6 hvs hHeld HT_ HW_
            go_wp2_with fail
            go_roundg (p - l'.length).toNat
            case measure => have := HMS.out; have := HCP.out; omega
            case rel =>
              have hcp := HCP.out
              have hb0 := HB0.out
              have hbm := HBM.out
              refine ⟨C3, cc3, l' ++ [0], vs2.set i.toNat (.slice C3 (l'.length + 1) cc3), ⟨by simp; omega⟩, ⟨by simp; omega⟩, ⟨?_⟩, ⟨hA6.out, ?_⟩⟩
              · rw [← HPD.out, List.append_assoc]
                congr 1
                rw [show p.toNat + 1 - l'.length = (p.toNat + 1 - (l' ++ [0]).length) + 1 by simp; omega, List.replicate_succ]
                rfl
              · rw [List.getElem?_set_self HVS.out]; simp
          · have cpb : decide ((l'.length : Int) ≤ p) = false := decide_eq_false cp
            have hpl : p.toNat < l'.length := by have := HB0.out; omega
            have hin := HAV.out.sc.inner i.toNat _ _ HVU.out (List.getElem?_set_self HIT.out)
            obtain ⟨gt, eB, hgb⟩ := slice_form hin (by omega)
            subst eB
            obtain ⟨ty, tf⟩ := at_row hin (i := p) HB0.out.1 (by omega)
            obtain ⟨ad3, e3', hx3⟩ := Kd.at_int (Kd.C_below HG3V.out HAV.out.below) i (of_eq_true p1) (by rw [HRO.out.l3]; exact HCL.out)
            obtain ⟨ad4, e4', hx4⟩ := Kd.at_int (Kd.C_below HG4V.out HAV.out.below) i (of_eq_true p1) (by rw [HRO.out.l4]; exact HCL.out)
            subst e3'; subst e4'
            obtain ⟨_, _, _, z3, z4⟩ := cells5 HAV.out.hx
            have p5 : (0 ≤ p) = True := eq_true HB0.out.1
            have p6 : (p < (l'.length : Int)) = True := eq_true (by omega)
            have p7 : (i < (r.f3.length : Int)) = True := eq_true (by rw [HRO.out.l3]; exact HCL.out)
            have p8 : (i < (r.f4.length : Int)) = True := eq_true (by rw [HRO.out.l4]; exact HCL.out)
            have HPL := Aside0.mk hpl
            have HIN := Aside0.mk hin
            have HX4 := Aside0.mk hx4
            clear hpl hin hgb hx4 z4
            go_wp2_with fail
            clear cpb cp
            refine start_ (n := 21) (S := fun w' => w'.cell? ⟨br, 1, none⟩ = some (.slice (some ⟨g1, 0, none⟩) at_.length c1) ∧ w'.cell? ⟨br, 2, none⟩ = some (.slice (some ⟨g2, 0, none⟩) tp.length c2) ∧ w'.cell? ⟨g2, i.toNat, none⟩ = some (.slice (some ⟨gt, 0, none⟩) l'.length cu') ∧ w'.cell? ⟨g1, i.toNat, none⟩ = some (.int .i64 p) ∧ w'.cell? ⟨gx, 3, none⟩ = some (.slice (some ad3) r.f3.length e3) ∧ w'.cell? (ad3.add i.toNat) = some (.int .i64 (rd r.f3 i)) ∧ w'.cell? ⟨gt, p.toNat, none⟩ = some (.int .i64 (rd l' p)) ∧ w'.frozen? ⟨gt, p.toNat, none⟩ = false) (ds := [20]) #[false, false, false, false, false, false, false, false, false, false, false, false, false, false, false, false, false, false, false, false, false] (by kernel_rfl) rfl rfl ⟨y1', y2', xt, ya, z3, hx3, ty, tf⟩ (fun hHeld => ?_); refine with_tabW reg35e.tab reg35e.bits (fun HT_ HW_ => ?_)
            have HDW := Aside0.mk (below_drew (Below.refl X9.heap.size X9))
            generalize X9.drew = X11 at HDW hHeld ⊢
            refine pure_ (i := 0) (N := some 81) (v := ?_) (a' := ?_) #[true, false, false, false, false, false, false, false, false, false, false, false, false, false, false, false, false, false, false, false, false] rfl rfl (any_of HT_.out (by kernel_rfl)) (fun _ _ _ h => h) (Or.inl ⟨by rfl, ?_⟩) ?_ ?_
            rotate_left
            · intro w'
              go_simp
              with_reducible rfl
            rotate_left
            · simp only [Act.put, List.setIfInBounds_toArray, List.set_cons_zero, List.set_cons_succ, i64_w, i32_w]
              rfl
            refine pure_ (i := 1) (N := some 82) (v := ?_) (a' := ?_) #[true, true, false, false, false, false, false, false, false, false, false, false, false, false, false, false, false, false, false, false, false] rfl rfl (any_of HT_.out (by kernel_rfl)) (fun _ _ _ h => h) (Or.inl ⟨by rfl, ?_⟩) ?_ ?_
            rotate_left
            · intro w'
              go_simp
              with_reducible rfl
            rotate_left
            · simp only [Act.put, List.setIfInBounds_toArray, List.set_cons_zero, List.set_cons_succ, i64_w, i32_w]
              rfl
            refine pure_ (i := 2) (N := some 83) (v := ?_) (a' := ?_) #[true, true, true, false, false, false, false, false, false, false, false, false, false, false, false, false, false, false, false, false, false] rfl rfl (any_of HT_.out (by kernel_rfl)) (fun _ _ _ h => h) (Or.inl ⟨by rfl, ?_⟩) ?_ ?_
            rotate_left
            · intro w'
              go_simp
              with_reducible rfl
            rotate_left
            · simp only [Act.put, List.setIfInBounds_toArray, List.set_cons_zero, List.set_cons_succ, i64_w, i32_w]
              rfl
            refine pure_ (i := 4) (N := some 85) (v := ?_) (a' := ?_) #[true, true, true, false, true, false, false, false, false, false, false, false, false, false, false, false, false, false, false, false, false] rfl rfl (any_of HT_.out (by kernel_rfl)) (fun _ _ _ h => h) (Or.inl ⟨by rfl, ?_⟩) ?_ ?_
            rotate_left
            · intro w'
              go_simp
              with_reducible rfl
            rotate_left
            · simp only [Act.put, List.setIfInBounds_toArray, List.set_cons_zero, List.set_cons_succ, i64_w, i32_w]
              rfl
            refine pure_ (i := 7) (N := some 88) (v := ?_) (a' := ?_) #[true, true, true, false, true, false, false, true, false, false, false, false, false, false, false, false, false, false, false, false, false] rfl rfl (any_of HT_.out (by kernel_rfl)) (fun _ _ _ h => h) (Or.inl ⟨by rfl, ?_⟩) ?_ ?_
            rotate_left
            · intro w'
              go_simp
              with_reducible rfl
            rotate_left
            · simp only [Act.put, List.setIfInBounds_toArray, List.set_cons_zero, List.set_cons_succ, i64_w, i32_w]
              rfl
            refine pure_ (i := 8) (N := some 89) (v := ?_) (a' := ?_) #[true, true, true, false, true, false, false, true, true, false, false, false, false, false, false, false, false, false, false, false, false] rfl rfl (any_of HT_.out (by kernel_rfl)) (fun _ _ _ h => h) (Or.inl ⟨by rfl, ?_⟩) ?_ ?_
            rotate_left
            · intro w'
              go_simp
              with_reducible rfl
            rotate_left
            · simp only [Act.put, List.setIfInBounds_toArray, List.set_cons_zero, List.set_cons_succ, i64_w, i32_w]
              rfl
            refine pure_ (i := 9) (N := some 90) (v := ?_) (a' := ?_) #[true, true, true, false, true, false, false, true, true, true, false, false, false, false, false, false, false, false, false, false, false] rfl rfl (any_of HT_.out (by kernel_rfl)) (fun _ _ _ h => h) (Or.inl ⟨by rfl, ?_⟩) ?_ ?_
            rotate_left
            · intro w'
              go_simp
              with_reducible rfl
            rotate_left
            · simp only [Act.put, List.setIfInBounds_toArray, List.set_cons_zero, List.set_cons_succ, i64_w, i32_w]
              rfl
            refine pure_ (i := 11) (N := some 92) (v := ?_) (a' := ?_) #[true, true, true, false, true, false, false, true, true, true, false, true, false, false, false, false, false, false, false, false, false] rfl rfl (any_of HT_.out (by kernel_rfl)) (fun _ _ _ h => h) (Or.inl ⟨by rfl, ?_⟩) ?_ ?_
            rotate_left
            · intro w'
              go_simp
              with_reducible rfl
            rotate_left
            · simp only [Act.put, List.setIfInBounds_toArray, List.set_cons_zero, List.set_cons_succ, i64_w, i32_w]
              rfl
            refine pure_ (i := 14) (N := some 95) (v := ?_) (a' := ?_) #[true, true, true, false, true, false, false, true, true, true, false, true, false, false, true, false, false, false, false, false, false] rfl rfl (any_of HT_.out (by kernel_rfl)) (fun _ _ _ h => h) (Or.inl ⟨by rfl, ?_⟩) ?_ ?_
            rotate_left
            · intro w'
              go_simp
              with_reducible rfl
            rotate_left
            · simp only [Act.put, List.setIfInBounds_toArray, List.set_cons_zero, List.set_cons_succ, i64_w, i32_w]
              rfl
            refine pure_ (i := 16) (N := some 97) (v := ?_) (a' := ?_) #[true, true, true, false, true, false, false, true, true, true, false, true, false, false, true, false, true, false, false, false, false] rfl rfl (any_of HT_.out (by kernel_rfl)) (fun _ _ _ h => h) (Or.inl ⟨by rfl, ?_⟩) ?_ ?_
            rotate_left
            · intro w'
              go_simp
              with_reducible rfl
            rotate_left
            · simp only [Act.put, List.setIfInBounds_toArray, List.set_cons_zero, List.set_cons_succ, i64_w, i32_w]
              rfl
            refine take_ (i := 3) (N := some 84) (v := ?_) (a' := ?_) #[true, true, true, true, true, false, false, true, true, true, false, true, false, false, true, false, true, false, false, false, false] rfl rfl (take_ofW HT_.out HW_.out (by kernel_rfl)) (fun _ _ _ h => h) (Or.inl ⟨by rfl, ?_⟩) hHeld ?_ ?_
            rotate_left
            · rintro w' ⟨s0, s1, s2, s3, s4, s5, s6, s7⟩
              go_simp
              with_reducible rfl
            rotate_left
            · simp only [Act.put, List.setIfInBounds_toArray, List.set_cons_zero, List.set_cons_succ, i64_w, i32_w]
              rfl
            refine take_ (i := 10) (N := some 91) (v := ?_) (a' := ?_) #[true, true, true, true, true, false, false, true, true, true, true, true, false, false, true, false, true, false, false, false, false] rfl rfl (take_ofW HT_.out HW_.out (by kernel_rfl)) (fun _ _ _ h => h) (Or.inl ⟨by rfl, ?_⟩) hHeld ?_ ?_
            rotate_left
            · rintro w' ⟨s0, s1, s2, s3, s4, s5, s6, s7⟩
              go_simp
              with_reducible rfl
            rotate_left
            · simp only [Act.put, List.setIfInBounds_toArray, List.set_cons_zero, List.set_cons_succ, i64_w, i32_w]
              rfl
            refine take_ (i := 15) (N := some 96) (v := ?_) (a' := ?_) #[true, true, true, true, true, false, false, true, true, true, true, true, false, false, true, true, true, false, false, false, false] rfl rfl (take_ofW HT_.out HW_.out (by kernel_rfl)) (fun _ _ _ h => h) (Or.inl ⟨by rfl, ?_⟩) hHeld ?_ ?_
            rotate_left
            · rintro w' ⟨s0, s1, s2, s3, s4, s5, s6, s7⟩
              go_simp
              with_reducible rfl
            rotate_left
            · simp only [Act.put, List.setIfInBounds_toArray, List.set_cons_zero, List.set_cons_succ, i64_w, i32_w]
              rfl
            refine pure_ (i := 5) (N := some 86) (v := ?_) (a' := ?_) #[true, true, true, true, true, true, false, true, true, true, true, true, false, false, true, true, true, false, false, false, false] rfl rfl (any_of HT_.out (by kernel_rfl)) (fun _ _ _ h => h) (Or.inl ⟨by rfl, ?_⟩) ?_ ?_
            rotate_left
            · intro w'
              go_simp
              with_reducible rfl
            rotate_left
            · simp only [Act.put, List.setIfInBounds_toArray, List.set_cons_zero, List.set_cons_succ, i64_w, i32_w]
              rfl
            refine pure_ (i := 12) (N := some 93) (v := ?_) (a' := ?_) #[true, true, true, true, true, true, false, true, true, true, true, true, true, false, true, true, true, false, false, false, false] rfl rfl (any_of HT_.out (by kernel_rfl)) (fun _ _ _ h => h) (Or.inl ⟨by rfl, ?_⟩) ?_ ?_
            rotate_left
            · intro w'
              go_simp
              with_reducible rfl
            rotate_left
            · simp only [Act.put, List.setIfInBounds_toArray, List.set_cons_zero, List.set_cons_succ, i64_w, i32_w]
              rfl
            refine pure_ (i := 17) (N := some 98) (v := ?_) (a' := ?_) #[true, true, true, true, true, true, false, true, true, true, true, true, true, false, true, true, true, true, false, false, false] rfl rfl (any_of HT_.out (by kernel_rfl)) (fun _ _ _ h => h) (Or.inl ⟨by rfl, ?_⟩) ?_ ?_
            rotate_left
            · intro w'
              go_simp
              with_reducible rfl
            rotate_left
            · simp only [Act.put, List.setIfInBounds_toArray, List.set_cons_zero, List.set_cons_succ, i64_w, i32_w]
              rfl
            refine take_ (i := 6) (N := some 87) (v := ?_) (a' := ?_) #[true, true, true, true, true, true, true, true, true, true, true, true, true, false, true, true, true, true, false, false, false] rfl rfl (take_ofW HT_.out HW_.out (by kernel_rfl)) (fun _ _ _ h => h) (Or.inl ⟨by rfl, ?_⟩) hHeld ?_ ?_
            rotate_left
            · rintro w' ⟨s0, s1, s2, s3, s4, s5, s6, s7⟩
              go_simp
              with_reducible rfl
            rotate_left
            · simp only [Act.put, List.setIfInBounds_toArray, List.set_cons_zero, List.set_cons_succ, i64_w, i32_w]
              rfl
            refine take_ (i := 13) (N := some 94) (v := ?_) (a' := ?_) #[true, true, true, true, true, true, true, true, true, true, true, true, true, true, true, true, true, true, false, false, false] rfl rfl (take_ofW HT_.out HW_.out (by kernel_rfl)) (fun _ _ _ h => h) (Or.inl ⟨by rfl, ?_⟩) hHeld ?_ ?_
            rotate_left
            · rintro w' ⟨s0, s1, s2, s3, s4, s5, s6, s7⟩
              go_simp
              with_reducible rfl
            rotate_left
            · simp only [Act.put, List.setIfInBounds_toArray, List.set_cons_zero, List.set_cons_succ, i64_w, i32_w]
              rfl
            refine take_ (i := 18) (N := some 99) (v := ?_) (a' := ?_) #[true, true, true, true, true, true, true, true, true, true, true, true, true, true, true, true, true, true, true, false, false] rfl rfl (take_ofW HT_.out HW_.out (by kernel_rfl)) (fun _ _ _ h => h) (Or.inl ⟨by rfl, ?_⟩) hHeld ?_ ?_
            rotate_left
            · rintro w' ⟨s0, s1, s2, s3, s4, s5, s6, s7⟩
              go_simp
              with_reducible rfl
            rotate_left
            · simp only [Act.put, List.setIfInBounds_toArray, List.set_cons_zero, List.set_cons_succ, i64_w, i32_w]
              rfl
            refine pure_ (i := 19) (N := some 100) (v := ?_) (a' := ?_) #[true, true, true, true, true, true, true, true, true, true, true, true, true, true, true, true, true, true, true, true, false] rfl rfl (any_of HT_.out (by kernel_rfl)) (fun _ _ _ h => h) (Or.inl ⟨by rfl, ?_⟩) ?_ ?_
            rotate_left
            · intro w'
              go_simp
              with_reducible rfl
            rotate_left
            · simp only [Act.put, List.setIfInBounds_toArray, List.set_cons_zero, List.set_cons_succ, i64_w, i32_w]
              rfl
            refine last_ (i := 20) (N := none) #[true, true, true, true, true, true, true, true, true, true, true, true, true, true, true, true, true, true, true, true, true] rfl rfl (one_of HT_.out (by kernel_rfl)) (by decide) (fun K hK => ?_)
            obtain ⟨_, _, _, _, _, _, s8, xf⟩ := hHeld
            refine skip_ (w1 := ?_) (by rfl) rfl ?_ ?_
            rotate_left
            · go_simp
              rfl
            refine hK.out _ _ ?_
            clear hK K
            refine done_ (done_of HT_.out (by kernel_rfl)) ?_
            clear s8
            obtain ⟨hst1, hgr1⟩ := (pw_own_below HIN.out HDW.out).stored p.toNat (.int .i64 (rd r.f3 i))
            have hsc7 := (HAV.out.sc.below HDW.out).setTape (l' := l'.set p.toNat (rd r.f3 i)) HVU.out (List.getElem?_set_self HIT.out) hgr1 (.inl rfl) (by rw [List.length_set, List.map_set]; exact hst1)
            rw [set_same HVU.out, List.set_set] at hsc7
            have HA7 := Aside0.mk ((HAV.out.keep HDW.out).write hgr1 (own_row (pw_own_below HIN.out HDW.out) (by decide) (by decide)) (fun k hk h => (HAV.out.fo k h).2.2.2.2.2 i.toNat _ HVU.out hk) (fun k hk => (HAV.out.fo k hk).2.2.2.2.2) hsc7)
            clear hst1 hgr1 hsc7 hHeld HT_ HW_ z3 hx3 ty tf ya yf xt y1' y2' HIN
            obtain ⟨w7, hw7⟩ : ∃ u, X11.setCell ⟨gt, p.toNat, none⟩ (.int .i64 (rd r.f3 i)) = u := ⟨_, rfl⟩
            rw [hw7] at HA7
            try rw [hw7]
            have HTS7 : Aside0 ((t.set i.toNat (l'.set p.toNat (rd r.f3 i))).length = tp.length) := ⟨by rw [List.length_set]; exact HK2.out⟩
            obtain ⟨q2, q1, q3⟩ := HLN.out HA7.out HTS7.out
            obtain ⟨_, y1', y2'⟩ := trio_cells HA7.out.sc.cells
            obtain ⟨ya, yf⟩ := at_row q1 (of_eq_true p1) (of_eq_true p2)
            rw [HP.out] at ya
            obtain ⟨_, _, _, _, z4⟩ := cells5 HA7.out.hx
            have x4 : w7.cell? (ad4.add i.toNat) = some (.int .i64 (rd r.f4 i)) := by
              obtain ⟨adx, ex, hx⟩ := Kd.at_int (Kd.C_below HG4V.out HA7.out.below) i (of_eq_true p1) (by rw [HRO.out.l4]; exact HCL.out)
              cases ex
              exact hx
            have hb2 := HB2.out
            have hb0 := HB0.out
            have hbm := HBM.out
            have HW9 : Aside0 (wrap64 (p + rd r.f4 i) = p + rd r.f4 i) := ⟨by unfold wrap64; omega⟩
            clear q2 q1 q3 hb2 hb0 hbm HDW hw7 HAV HX4
            go_wp2_with fail
            refine start_ (n := 21) (S := fun w' => w'.cell? ⟨br, 1, none⟩ = some (.slice (some ⟨g1, 0, none⟩) at_.length c1) ∧ w'.cell? ⟨g1, i.toNat, none⟩ = some (.int .i64 p) ∧ w'.cell? ⟨gx, 4, none⟩ = some (.slice (some ad4) r.f4.length e4) ∧ w'.cell? (ad4.add i.toNat) = some (.int .i64 (rd r.f4 i)) ∧ w'.frozen? ⟨g1, i.toNat, none⟩ = false) (ds := [20]) #[false, false, false, false, false, false, false, false, false, false, false, false, false, false, false, false, false, false, false, false, false] (by kernel_rfl) rfl rfl ⟨y1', ya, z4, x4, yf⟩ (fun hHeld => ?_); refine with_tabW reg35f.tab reg35f.bits (fun HT_ HW_ => ?_)
            have HDW := Aside0.mk (below_drew (Below.refl w7.heap.size w7))
            generalize w7.drew = X12 at HDW hHeld ⊢
            refine pure_ (i := 0) (N := some 101) (v := ?_) (a' := ?_) #[true, false, false, false, false, false, false, false, false, false, false, false, false, false, false, false, false, false, false, false, false] rfl rfl (any_of HT_.out (by kernel_rfl)) (fun _ _ _ h => h) (Or.inl ⟨by rfl, ?_⟩) ?_ ?_
            rotate_left
            · intro w'
              go_simp
              with_reducible rfl
            rotate_left
            · simp only [Act.put, List.setIfInBounds_toArray, List.set_cons_zero, List.set_cons_succ, i64_w, i32_w]
              rfl
            refine pure_ (i := 1) (N := some 102) (v := ?_) (a' := ?_) #[true, true, false, false, false, false, false, false, false, false, false, false, false, false, false, false, false, false, false, false, false] rfl rfl (any_of HT_.out (by kernel_rfl)) (fun _ _ _ h => h) (Or.inl ⟨by rfl, ?_⟩) ?_ ?_
            rotate_left
            · intro w'
              go_simp
              with_reducible rfl
            rotate_left
            · simp only [Act.put, List.setIfInBounds_toArray, List.set_cons_zero, List.set_cons_succ, i64_w, i32_w]
              rfl
            refine pure_ (i := 2) (N := some 103) (v := ?_) (a' := ?_) #[true, true, true, false, false, false, false, false, false, false, false, false, false, false, false, false, false, false, false, false, false] rfl rfl (any_of HT_.out (by kernel_rfl)) (fun _ _ _ h => h) (Or.inl ⟨by rfl, ?_⟩) ?_ ?_
            rotate_left
            · intro w'
              go_simp
              with_reducible rfl
            rotate_left
            · simp only [Act.put, List.setIfInBounds_toArray, List.set_cons_zero, List.set_cons_succ, i64_w, i32_w]
              rfl
            refine pure_ (i := 4) (N := some 105) (v := ?_) (a' := ?_) #[true, true, true, false, true, false, false, false, false, false, false, false, false, false, false, false, false, false, false, false, false] rfl rfl (any_of HT_.out (by kernel_rfl)) (fun _ _ _ h => h) (Or.inl ⟨by rfl, ?_⟩) ?_ ?_
            rotate_left
            · intro w'
              go_simp
              with_reducible rfl
            rotate_left
            · simp only [Act.put, List.setIfInBounds_toArray, List.set_cons_zero, List.set_cons_succ, i64_w, i32_w]
              rfl
            refine pure_ (i := 5) (N := some 106) (v := ?_) (a' := ?_) #[true, true, true, false, true, true, false, false, false, false, false, false, false, false, false, false, false, false, false, false, false] rfl rfl (any_of HT_.out (by kernel_rfl)) (fun _ _ _ h => h) (Or.inl ⟨by rfl, ?_⟩) ?_ ?_
            rotate_left
            · intro w'
              go_simp
              with_reducible rfl
            rotate_left
            · simp only [Act.put, List.setIfInBounds_toArray, List.set_cons_zero, List.set_cons_succ, i64_w, i32_w]
              rfl
            refine pure_ (i := 6) (N := some 107) (v := ?_) (a' := ?_) #[true, true, true, false, true, true, true, false, false, false, false, false, false, false, false, false, false, false, false, false, false] rfl rfl (any_of HT_.out (by kernel_rfl)) (fun _ _ _ h => h) (Or.inl ⟨by rfl, ?_⟩) ?_ ?_
            rotate_left
            · intro w'
              go_simp
              with_reducible rfl
            rotate_left
            · simp only [Act.put, List.setIfInBounds_toArray, List.set_cons_zero, List.set_cons_succ, i64_w, i32_w]
              rfl
            refine pure_ (i := 7) (N := some 108) (v := ?_) (a' := ?_) #[true, true, true, false, true, true, true, true, false, false, false, false, false, false, false, false, false, false, false, false, false] rfl rfl (any_of HT_.out (by kernel_rfl)) (fun _ _ _ h => h) (Or.inl ⟨by rfl, ?_⟩) ?_ ?_
            rotate_left
            · intro w'
              go_simp
              with_reducible rfl
            rotate_left
            · simp only [Act.put, List.setIfInBounds_toArray, List.set_cons_zero, List.set_cons_succ, i64_w, i32_w]
              rfl
            refine pure_ (i := 9) (N := some 110) (v := ?_) (a' := ?_) #[true, true, true, false, true, true, true, true, false, true, false, false, false, false, false, false, false, false, false, false, false] rfl rfl (any_of HT_.out (by kernel_rfl)) (fun _ _ _ h => h) (Or.inl ⟨by rfl, ?_⟩) ?_ ?_
            rotate_left
            · intro w'
              go_simp
              with_reducible rfl
            rotate_left
            · simp only [Act.put, List.setIfInBounds_toArray, List.set_cons_zero, List.set_cons_succ, i64_w, i32_w]
              rfl
            refine pure_ (i := 12) (N := some 113) (v := ?_) (a' := ?_) #[true, true, true, false, true, true, true, true, false, true, false, false, true, false, false, false, false, false, false, false, false] rfl rfl (any_of HT_.out (by kernel_rfl)) (fun _ _ _ h => h) (Or.inl ⟨by rfl, ?_⟩) ?_ ?_
            rotate_left
            · intro w'
              go_simp
              with_reducible rfl
            rotate_left
            · simp only [Act.put, List.setIfInBounds_toArray, List.set_cons_zero, List.set_cons_succ, i64_w, i32_w]
              rfl
            refine pure_ (i := 14) (N := some 115) (v := ?_) (a' := ?_) #[true, true, true, false, true, true, true, true, false, true, false, false, true, false, true, false, false, false, false, false, false] rfl rfl (any_of HT_.out (by kernel_rfl)) (fun _ _ _ h => h) (Or.inl ⟨by rfl, ?_⟩) ?_ ?_
            rotate_left
            · intro w'
              go_simp
              with_reducible rfl
            rotate_left
            · simp only [Act.put, List.setIfInBounds_toArray, List.set_cons_zero, List.set_cons_succ, i64_w, i32_w]
              rfl
            refine take_ (i := 3) (N := some 104) (v := ?_) (a' := ?_) #[true, true, true, true, true, true, true, true, false, true, false, false, true, false, true, false, false, false, false, false, false] rfl rfl (take_ofW HT_.out HW_.out (by kernel_rfl)) (fun _ _ _ h => h) (Or.inl ⟨by rfl, ?_⟩) hHeld ?_ ?_
            rotate_left
            · rintro w' ⟨s0, s1, s2, s3, s4⟩
              go_simp
              with_reducible rfl
            rotate_left
            · simp only [Act.put, List.setIfInBounds_toArray, List.set_cons_zero, List.set_cons_succ, i64_w, i32_w]
              rfl
            refine take_ (i := 8) (N := some 109) (v := ?_) (a' := ?_) #[true, true, true, true, true, true, true, true, true, true, false, false, true, false, true, false, false, false, false, false, false] rfl rfl (take_ofW HT_.out HW_.out (by kernel_rfl)) (fun _ _ _ h => h) (Or.inl ⟨by rfl, ?_⟩) hHeld ?_ ?_
            rotate_left
            · rintro w' ⟨s0, s1, s2, s3, s4⟩
              go_simp
              with_reducible rfl
            rotate_left
            · simp only [Act.put, List.setIfInBounds_toArray, List.set_cons_zero, List.set_cons_succ, i64_w, i32_w]
              rfl
            refine take_ (i := 13) (N := some 114) (v := ?_) (a' := ?_) #[true, true, true, true, true, true, true, true, true, true, false, false, true, true, true, false, false, false, false, false, false] rfl rfl (take_ofW HT_.out HW_.out (by kernel_rfl)) (fun _ _ _ h => h) (Or.inl ⟨by rfl, ?_⟩) hHeld ?_ ?_
            rotate_left
            · rintro w' ⟨s0, s1, s2, s3, s4⟩
              go_simp
              with_reducible rfl
            rotate_left
            · simp only [Act.put, List.setIfInBounds_toArray, List.set_cons_zero, List.set_cons_succ, i64_w, i32_w]
              rfl
            refine pure_ (i := 10) (N := some 111) (v := ?_) (a' := ?_) #[true, true, true, true, true, true, true, true, true, true, true, false, true, true, true, false, false, false, false, false, false] rfl rfl (any_of HT_.out (by kernel_rfl)) (fun _ _ _ h => h) (Or.inl ⟨by rfl, ?_⟩) ?_ ?_
            rotate_left
            · intro w'
              go_simp
              with_reducible rfl
            rotate_left
            · simp only [Act.put, List.setIfInBounds_toArray, List.set_cons_zero, List.set_cons_succ, i64_w, i32_w]
              rfl
            refine pure_ (i := 15) (N := some 116) (v := ?_) (a' := ?_) #[true, true, true, true, true, true, true, true, true, true, true, false, true, true, true, true, false, false, false, false, false] rfl rfl (any_of HT_.out (by kernel_rfl)) (fun _ _ _ h => h) (Or.inl ⟨by rfl, ?_⟩) ?_ ?_
            rotate_left
            · intro w'
              go_simp
              with_reducible rfl
            rotate_left
            · simp only [Act.put, List.setIfInBounds_toArray, List.set_cons_zero, List.set_cons_succ, i64_w, i32_w]
              rfl
            refine take_ (i := 11) (N := some 112) (v := ?_) (a' := ?_) #[true, true, true, true, true, true, true, true, true, true, true, true, true, true, true, true, false, false, false, false, false] rfl rfl (take_ofW HT_.out HW_.out (by kernel_rfl)) (fun _ _ _ h => h) (Or.inl ⟨by rfl, ?_⟩) hHeld ?_ ?_
            rotate_left
            · rintro w' ⟨s0, s1, s2, s3, s4⟩
              go_simp
              with_reducible rfl
            rotate_left
            · simp only [Act.put, List.setIfInBounds_toArray, List.set_cons_zero, List.set_cons_succ, i64_w, i32_w]
              rfl
            refine take_ (i := 16) (N := some 117) (v := ?_) (a' := ?_) #[true, true, true, true, true, true, true, true, true, true, true, true, true, true, true, true, true, false, false, false, false] rfl rfl (take_ofW HT_.out HW_.out (by kernel_rfl)) (fun _ _ _ h => h) (Or.inl ⟨by rfl, ?_⟩) hHeld ?_ ?_
            rotate_left
            · rintro w' ⟨s0, s1, s2, s3, s4⟩
              go_simp
              with_reducible rfl
            rotate_left
            · simp only [Act.put, List.setIfInBounds_toArray, List.set_cons_zero, List.set_cons_succ, i64_w, i32_w]
              rfl
            refine pure_ (i := 17) (N := some 118) (v := ?_) (a' := ?_) #[true, true, true, true, true, true, true, true, true, true, true, true, true, true, true, true, true, true, false, false, false] rfl rfl (any_of HT_.out (by kernel_rfl)) (fun _ _ _ h => h) (Or.inl ⟨by rfl, ?_⟩) ?_ ?_
            rotate_left
            · intro w'
              go_simp
              with_reducible rfl
            rotate_left
            · simp only [Act.put, List.setIfInBounds_toArray, List.set_cons_zero, List.set_cons_succ, i64_w, i32_w]
              rfl
            refine pure_ (i := 18) (N := some 119) (v := (.int .i64 (stepP p (rd r.f4 i)))) (a' := ?_) #[true, true, true, true, true, true, true, true, true, true, true, true, true, true, true, true, true, true, true, false, false] rfl rfl (any_of HT_.out (by kernel_rfl)) (fun _ _ _ h => h) (Or.inl ⟨by rfl, ?_⟩) ?_ ?_
            · intro w'
              go_simp
              try simp only [HW9.out]
              try rw [max_stepP]
              try rfl
            rotate_left
            · simp only [Act.put, List.setIfInBounds_toArray, List.set_cons_zero, List.set_cons_succ, i64_w, i32_w]
              rfl
            refine pure_ (i := 19) (N := some 120) (v := ?_) (a' := ?_) #[true, true, true, true, true, true, true, true, true, true, true, true, true, true, true, true, true, true, true, true, false] rfl rfl (any_of HT_.out (by kernel_rfl)) (fun _ _ _ h => h) (Or.inl ⟨by rfl, ?_⟩) ?_ ?_
            rotate_left
            · intro w'
              go_simp
              with_reducible rfl
            rotate_left
            · simp only [Act.put, List.setIfInBounds_toArray, List.set_cons_zero, List.set_cons_succ, i64_w, i32_w]
              rfl
            refine last_ (i := 20) (N := none) #[true, true, true, true, true, true, true, true, true, true, true, true, true, true, true, true, true, true, true, true, true] rfl rfl (one_of HT_.out (by kernel_rfl)) (by decide) (fun K hK => ?_)
            obtain ⟨_, s5, _, _, xf⟩ := hHeld
            refine skip_ (w1 := ?_) (by rfl) rfl ?_ ?_
            rotate_left
            · go_simp
              rfl
            refine hK.out _ _ ?_
            clear hK K
            refine done_ (done_of HT_.out (by kernel_rfl)) ?_
            clear s5
            have HQ : Aside0 (X12.ownsRow w0.heap.size 3 1 (.slice (some ⟨g1, 0, none⟩) at_.length c1) at_.length (a.map (Value.int .i64))) := ⟨pw_own_below (HLN.out HA7.out HTS7.out).2.1 HDW.out⟩
            obtain ⟨hst1, hgr1⟩ := HQ.out.stored i.toNat (.int .i64 (stepP p (rd r.f4 i)))
            have hsc8 := (HA7.out.sc.below HDW.out).setAt (g := g1) (at' := a.set i.toNat (stepP p (rd r.f4 i))) rfl hgr1 (by rw [List.length_set, List.map_set, HK1.out]; exact hst1)
            have HA8 := Aside0.mk ((HA7.out.keep HDW.out).write hgr1 (own_row HQ.out (by decide) (by decide)) (fun k hk h => (HA7.out.fo k h).2.2.2.1 hk) (fun k hk => (HA7.out.fo k hk).2.2.2.2.2) hsc8)
            clear hst1 hgr1 hsc8 hHeld HT_ HW_ z4 x4 ya yf y1' y2' HDW HA7 HQ
            have bi0 : 0 ≤ i := HI.out
            have bi3 : i ≤ 3 := by have := HN.out; have := HCL.out; omega
            go_wp2_with fail
            go_roundg ((n : Int) - (i + 1)).toNat
            case measure => have := HG.out; have := HCL.out; omega
            case rel =>
              have i1 := HCL.out
              have eN : (i + 1).toNat = i.toNat + 1 := by omega
              refine ⟨i + 1, ?_, ⟨by omega⟩, ⟨by omega⟩, ⟨vs2, ?_⟩⟩
              · first | rfl | (rw [show wrap64 (i + 1) = i + 1 by unfold wrap64; omega])
              · rw [eN, HE.out]
                have e9 : l'.set p.toNat (rd r.f3 i) = setPad l p (rd r.f3 i) := by
                  have h := HPD.out
                  rw [show p.toNat + 1 - l'.length = 0 by have := HPL.out; omega] at h
                  unfold setPad
                  rw [← h]; simp
                rw [← e9]
                exact HA8.out
      · have clb : decide (i < (n : Int)) = false := decide_eq_false cl
        have HEN : Aside0 (i.toNat = at_.length) := ⟨by have := HG.out; have := HLA.out; omega⟩
        go_wp2_with fail
        go_ret
        rw [HDS.out]
        refine ⟨rfl, hR.below, vs', ?_, fun k hk => ⟨(hR.fo k hk).1, (hR.fo k hk).2.2.2.2.2⟩⟩
        have h := hR.sc
        rw [HEN.out] at h
        exact h
end Go.Proofs.Ytfoodfhhdbaieaa.Giv
