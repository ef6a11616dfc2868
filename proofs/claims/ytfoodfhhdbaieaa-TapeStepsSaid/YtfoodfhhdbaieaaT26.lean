/- A law's region: Copy of the machine, a copy of the input, the call under test, (the variable), in any order. -/
import Derived.Test.YtfoodfhhdbaieaaT24
namespace Go.Proofs.Ytfoodfhhdbaieaa.Giv
set_option linter.unusedSimpArgs false
set_option linter.unusedVariables false
set_option linter.unusedSectionVars false
open Go.RowKit Go.Shelf Go.Proofs.YtfoodfhhdbaieaaW.PrintWords Go.Proofs.YtfoodfhhdbaieaaW.PrintLast Go.Proofs.YtfoodfhhdbaieaaW.PrintMore
open Go.Proofs.Ytfoodfhhdbaieaa.Ka (S54 k54 z54 rd_T54 at_T54 k54_open k54_mk k54_openM k54_mkM rd_L1 at_L1 info3 info25 info54)

def goodL (p b c d : Bool) : Bool := (!c || (p && b)) && (!d || c)
def cntL (p b c d e : Bool) : Nat := p.toNat + b.toNat + c.toNat + d.toNat + e.toNat
theorem law_all : ∀ p b c d e : Bool, cntL p b c d e = 5 → p = true ∧ b = true ∧ c = true ∧ d = true ∧ e = true := by decide
theorem law_d : ∀ p b c : Bool, goodL p b c true = true → p = true ∧ b = true ∧ c = true := by decide
/-- What may come up, and what is listed behind it. -/
def LawStep (bits : Bool → Bool → Bool → Bool → Bool → Array Bool) (i8 i13 : Nat) (p b c d e : Bool) (i : Nat) : Prop :=
  (i = 2 ∧ p = false ∧ goodL true b c d = true ∧ cntL true b c d e = cntL p b c d e + 1 ∧ (bits p b c d e).setIfInBounds i true = bits true b c d e) ∨
  (i = 3 ∧ b = false ∧ goodL p true c d = true ∧ cntL p true c d e = cntL p b c d e + 1 ∧ (bits p b c d e).setIfInBounds i true = bits p true c d e) ∨
  (i = 6 ∧ p = true ∧ b = true ∧ c = false ∧ goodL p b true d = true ∧ cntL p b true d e = cntL p b c d e + 1 ∧ (bits p b c d e).setIfInBounds i true = bits p b true d e) ∨
  (i = i8 ∧ p = true ∧ b = true ∧ c = true ∧ d = false ∧ goodL p b c true = true ∧ cntL p b c true e = cntL p b c d e + 1 ∧ (bits p b c d e).setIfInBounds i true = bits p b c true e) ∨
  (i = i13 ∧ e = false ∧ goodL p b c d = true ∧ cntL p b c d true = cntL p b c d e + 1 ∧ (bits p b c d e).setIfInBounds i true = bits p b c d true)
instance (bits : Bool → Bool → Bool → Bool → Bool → Array Bool) (i8 i13 : Nat) (p b c d e : Bool) (i : Nat) : Decidable (LawStep bits i8 i13 p b c d e i) := by unfold LawStep; infer_instance
def put5 (s2 s3 s6 s8 s13 : Tmp) (a : Act) (x2 x3 x6 x8 x13 : Value) : Act := ((((a.put (some s2) x2).put (some s3) x3).put (some s6) x6).put (some s8) x8).put (some s13) x13
structure Slots (s2 s3 s6 s8 s13 n : Nat) : Prop where
  n23 : s2 ≠ s3
  n26 : s2 ≠ s6
  n28 : s2 ≠ s8
  n2e : s2 ≠ s13
  n36 : s3 ≠ s6
  n38 : s3 ≠ s8
  n3e : s3 ≠ s13
  n68 : s6 ≠ s8
  n6e : s6 ≠ s13
  n8e : s8 ≠ s13
  l2 : s2 < n
  l3 : s3 < n
  l6 : s6 < n
section
variable {s2 s3 s6 s8 s13 n : Nat} (h : Slots s2 s3 s6 s8 s13 n) (a : Act) (x2 x3 x6 x8 x13 x : Value)
include h
theorem put5_2 : (put5 s2 s3 s6 s8 s13 a x2 x3 x6 x8 x13).put (some s2) x = put5 s2 s3 s6 s8 s13 a x x3 x6 x8 x13 := by
  simp only [put5]
  rw [put_comm _ (Ne.symm h.n2e), put_comm _ (Ne.symm h.n28), put_comm _ (Ne.symm h.n26), put_comm _ (Ne.symm h.n23), put_same]
theorem put5_3 : (put5 s2 s3 s6 s8 s13 a x2 x3 x6 x8 x13).put (some s3) x = put5 s2 s3 s6 s8 s13 a x2 x x6 x8 x13 := by
  simp only [put5]
  rw [put_comm _ (Ne.symm h.n3e), put_comm _ (Ne.symm h.n38), put_comm _ (Ne.symm h.n36), put_same]
theorem put5_6 : (put5 s2 s3 s6 s8 s13 a x2 x3 x6 x8 x13).put (some s6) x = put5 s2 s3 s6 s8 s13 a x2 x3 x x8 x13 := by
  simp only [put5]
  rw [put_comm _ (Ne.symm h.n6e), put_comm _ (Ne.symm h.n68), put_same]
theorem put5_8 : (put5 s2 s3 s6 s8 s13 a x2 x3 x6 x8 x13).put (some s8) x = put5 s2 s3 s6 s8 s13 a x2 x3 x6 x x13 := by
  simp only [put5]
  rw [put_comm _ (Ne.symm h.n8e), put_same]
theorem put5_13 : (put5 s2 s3 s6 s8 s13 a x2 x3 x6 x8 x13).put (some s13) x = put5 s2 s3 s6 s8 s13 a x2 x3 x6 x8 x := by
  simp only [put5]
  rw [put_same]
theorem eval5 (hn : a.tmps.size = n) (t : Nat) (ht : t < n) : (put5 s2 s3 s6 s8 s13 a x2 x3 x6 x8 x13).eval (.tmp t) = if s13 = t then x13 else if s8 = t then x8 else if s6 = t then x6 else if s3 = t then x3 else if s2 = t then x2 else a.eval (.tmp t) := by
  simp only [put5]
  rw [eval_put, eval_put, eval_put, eval_put, eval_put]
  all_goals first | (simp only [size_put]; rw [hn]; exact ht) | (rw [hn]; exact ht)
theorem eval5_2 (hn : a.tmps.size = n) : (put5 s2 s3 s6 s8 s13 a x2 x3 x6 x8 x13).eval (.tmp s2) = x2 := by
  rw [eval5 h a x2 x3 x6 x8 x13 hn s2 h.l2, if_neg (Ne.symm h.n2e), if_neg (Ne.symm h.n28), if_neg (Ne.symm h.n26), if_neg (Ne.symm h.n23), if_pos rfl]
theorem eval5_3 (hn : a.tmps.size = n) : (put5 s2 s3 s6 s8 s13 a x2 x3 x6 x8 x13).eval (.tmp s3) = x3 := by
  rw [eval5 h a x2 x3 x6 x8 x13 hn s3 h.l3, if_neg (Ne.symm h.n3e), if_neg (Ne.symm h.n38), if_neg (Ne.symm h.n36), if_pos rfl]
theorem eval5_6 (hn : a.tmps.size = n) : (put5 s2 s3 s6 s8 s13 a x2 x3 x6 x8 x13).eval (.tmp s6) = x6 := by
  rw [eval5 h a x2 x3 x6 x8 x13 hn s6 h.l6, if_neg (Ne.symm h.n6e), if_neg (Ne.symm h.n68), if_pos rfl]
theorem eval5_o (hn : a.tmps.size = n) (t : Nat) (ht : t < n) (h2 : s2 ≠ t) (h3 : s3 ≠ t) (h6 : s6 ≠ t) (h8 : s8 ≠ t) (h13 : s13 ≠ t) : (put5 s2 s3 s6 s8 s13 a x2 x3 x6 x8 x13).eval (.tmp t) = a.eval (.tmp t) := by
  rw [eval5 h a x2 x3 x6 x8 x13 hn t ht, if_neg h13, if_neg h8, if_neg h6, if_neg h3, if_neg h2]
end
section
variable {md : Region.Mode} {ops : Array Oper} {Q : Exit → Act → World → Prop} {S : World → Prop} {ds : List Nat}
/-- inv_, where some states are shown at once. -/
theorem inv2_ (I : Nat → Array Bool → Act → World → Prop) {P : Program} (fuel0 : Nat) (hS : ∀ k l a w, I k l a w → S w) (hend : ∀ l a w, I 0 l a w → wpAnyLast P md ops Q S ds fuel0 l a w)
    (hstep : ∀ k l a w, I (k + 1) l a w → wpAnyLast P md ops Q S ds (fuel0 + (k + 1)) l a w ∨ (Region.ready md ops l ≠ [] ∧ ∀ i ∈ Region.ready md ops l, i ∉ ds ∧ ∃ oi, ops[i]? = some oi ∧ ∀ K : Act → World → Prop, (∀ a' w', I k (l.setIfInBounds i true) a' w' → K a' w') → if Region.wanted oi (yielded ops a.tmps) = true then Oper.wp P oi a w K Q else K (a.put oi.dst undef) w)) :
    ∀ k l a w, I k l a w → wpAnyLast P md ops Q S ds (fuel0 + k) l a w
  | 0, l, a, w, h => hend l a w h
  | k + 1, l, a, w, h => by
    rcases hstep k l a w h with h0 | ⟨h1, h2⟩
    · exact h0
    refine wpAnyLast_ready (fuel := fuel0 + k) rfl h1 (fun i hi => ?_)
    obtain ⟨hd, oi, ho, hK⟩ := h2 i hi
    exact AllReadyL.cons (rs := []) ho hd (fun K' hK' => hK K' (fun a' w' hI => hK'.out _ _ (hS _ _ _ _ hI) (fun _ => inv2_ I fuel0 hS hend hstep k _ _ _ hI))) AllReadyL.nil i (List.mem_singleton_self i)
def LawI (bits : Bool → Bool → Bool → Bool → Bool → Array Bool) (s2 s3 s6 s8 s13 : Tmp) (a0 a1 a2 : Int) (rs : List S54) (inp : List Int) (R : Value → Prop) (E : Value → World → Prop) (e0 : Bool) (a : Act) (W0 : World) (k : Nat) (l : Array Bool) (a' : Act) (w' : World) : Prop :=
  ∃ p b c d e x2 x3 x6 x8 x13, l = bits p b c d e ∧ goodL p b c d = true ∧ cntL p b c d e + k = 5 ∧ (e = false → e0 = false) ∧ a' = put5 s2 s3 s6 s8 s13 a x2 x3 x6 x8 x13 ∧ Below W0.heap.size W0 w' ∧
    (p = true → ∃ B cb, x2 = .agg #[.int .i64 a0, .int .i64 a1, .int .i64 a2, .slice B rs.length cb] ∧ rs.length ≤ cb ∧ Kd.C k54 w' B rs.length rs) ∧ Ch W0.heap.size b c inp x3 x6 w' ∧ (d = true → R x8) ∧ (e = true → E x13 w')
set_option maxHeartbeats 1000000 in
theorem law_inv {bits : Bool → Bool → Bool → Bool → Bool → Array Bool} {i8 i13 : Nat} {s2 s3 s6 s8 s13 : Nat} (sl : Slots s2 s3 s6 s8 s13 106) {a0 a1 a2 : Int} {rs : List S54} {inp : List Int} {R : Value → Prop} {E : Value → World → Prop} {e0 : Bool} (W0 : World)
    (hready : ∀ p b c d e, (e = false → e0 = false) → (d = true → e = true) → goodL p b c d = true → cntL p b c d e < 5 → Region.ready md ops (bits p b c d e) ≠ [] ∧ ∀ i ∈ Region.ready md ops (bits p b c d e), i ∉ ds ∧ LawStep bits i8 i13 p b c d e i)
    {o2 o3 o6 o8 o13 : Oper} (h2 : ops[2]? = some o2) (h3 : ops[3]? = some o3) (h6 : ops[6]? = some o6) (h8 : ops[i8]? = some o8) (h13 : e0 = false → ops[i13]? = some o13 ∧ o13.guard = none ∧ o13.dst = some s13 ∧ ∀ (a : Act) (w : World), Below W0.heap.size W0 w → ∃ v w', (execOp a.eval o13).run Try.prog w = .ok (.value v) w' ∧ Below w.heap.size w w' ∧ E v w')
    {sM sX sN F : Nat} (g2 : o2.guard = none ∧ o2.dst = some s2 ∧ o2.op = Op.call { callee := .value (.func 18), args := #[.tmp sM], argTypes := #[24] }) (g3 : o3.guard = none ∧ o3.dst = some s3 ∧ o3.op = Op.buildSlice 25 0 #[])
    (g6 : o6.guard = none ∧ o6.dst = some s6 ∧ o6.op = Op.call { callee := Callee.builtin Builtin.append, args := #[.tmp s3, .tmp sX], argTypes := #[25, 25] })
    (g8 : o8.guard = none ∧ o8.dst = some s8 ∧ o8.op = Op.call { callee := .value (.func F), args := #[.tmp s2, .tmp s6, .tmp sN], argTypes := #[24, 25, 3] }) {fnF : Func} (hF : Try.prog.funcs[F]? = some fnF) (hFn : (fnF.name == "runtime.NumGoroutine") = false) (hFb : fnF.body.isSome = true)
    (a : Act) (hsz : a.tmps.size = 106) {A A5 : Option Addr} {c c5 : Nat} {m : Int} (hM : sM < 106 ∧ s2 ≠ sM ∧ s3 ≠ sM ∧ s6 ≠ sM ∧ s8 ≠ sM ∧ s13 ≠ sM) (hX : sX < 106 ∧ s2 ≠ sX ∧ s3 ≠ sX ∧ s6 ≠ sX ∧ s8 ≠ sX ∧ s13 ≠ sX) (hN : sN < 106 ∧ s2 ≠ sN ∧ s3 ≠ sN ∧ s6 ≠ sN ∧ s8 ≠ sN ∧ s13 ≠ sN)
    (eM : a.eval (.tmp sM) = .agg #[.int .i64 a0, .int .i64 a1, .int .i64 a2, .slice A rs.length c]) (eX : a.eval (.tmp sX) = .slice A5 inp.length c5) (eN : a.eval (.tmp sN) = .int .i64 m)
    (hC : Kd.C k54 W0 A rs.length rs) (hC5 : Kd.C (Kd.int .i64) W0 A5 inp.length inp) (hl : rs.length ≤ 1000000) (hrow : ∀ r ∈ rs, r.f1.length ≤ 1000000 ∧ r.f3.length ≤ 1000000 ∧ r.f4.length ≤ 1000000) (hinp : inp.length ≤ 1000000)
    (hcall : ∀ (w : World) B cb D cd, Kd.C k54 w B rs.length rs → Kd.C (Kd.int .i64) w D inp.length inp → inp.length ≤ cd → Calls Try.prog F #[.agg #[.int .i64 a0, .int .i64 a1, .int .i64 a2, .slice B rs.length cb], .slice D inp.length cd, .int .i64 m] w fun e w' => ∃ v, e = .returned v ∧ R v ∧ Below w.heap.size w w')
    (hE : ∀ v w w', E v w → Below w.heap.size w w' → E v w')
    (hS : ∀ w', Below W0.heap.size W0 w' → S w') {y2 y3 y6 y8 y13 : Value} (ha : a = put5 s2 s3 s6 s8 s13 a y2 y3 y6 y8 y13) (he0 : e0 = true → E y13 W0) (fuel0 k0 : Nat) (hk0 : k0 + e0.toNat = 5)
    (hend : ∀ x2 x3 x6 v x13 w', Below W0.heap.size W0 w' → R v → E x13 w' → wpAnyLast Try.prog md ops Q S ds fuel0 (bits true true true true true) (put5 s2 s3 s6 s8 s13 a x2 x3 x6 v x13) w')
    (hend2 : e0 = false → ∀ x2 x3 x6 v x13 w', Below W0.heap.size W0 w' → R v → wpAnyLast Try.prog md ops Q S ds (fuel0 + 1) (bits true true true true false) (put5 s2 s3 s6 s8 s13 a x2 x3 x6 v x13) w') :
    wpAnyLast Try.prog md ops Q S ds (fuel0 + k0) (bits false false false false e0) a W0 := by
  have wnt : ∀ (o : Oper) (y : Nat → Option Bool), o.guard = none → Region.wanted o y = true := fun o y h => by unfold Region.wanted; rw [h]
  refine inv2_ (LawI bits s2 s3 s6 s8 s13 a0 a1 a2 rs inp R E e0 a W0) fuel0 ?_ ?_ ?_ k0 _ _ _ ?_
  · rintro k l a' w' ⟨_, _, _, _, _, _, _, _, _, _, _, _, _, _, _, hb, _⟩
    exact hS w' hb
  · rintro l a' w' ⟨p, b, c', d, e, x2, x3, x6, x8, x13, rfl, _, hc, _, rfl, hb, k2, k3, k8, k13⟩
    obtain ⟨rfl, rfl, rfl, rfl, rfl⟩ := law_all _ _ _ _ _ hc
    exact hend _ _ _ _ _ _ hb (k8 rfl) (k13 rfl)
  · rintro k l a' w' ⟨p, b, c', d, e, x2, x3, x6, x8, x13, rfl, hg, hc, he, rfl, hb, k2, k3, k8, k13⟩
    by_cases hde : d = true ∧ e = false
    · obtain ⟨rfl, rfl⟩ := hde
      obtain ⟨rfl, rfl, rfl⟩ : p = true ∧ b = true ∧ c' = true := law_d p b c' hg
      have hk : k = 0 := by simp only [cntL, Bool.toNat_true, Bool.toNat_false] at hc; omega
      subst hk
      exact .inl (hend2 (he rfl) _ _ _ _ _ _ hb (k8 rfl))
    refine .inr ?_
    obtain ⟨hne, hi⟩ := hready p b c' d e he (fun h => by cases e with
      | true => rfl
      | false => exact absurd ⟨h, rfl⟩ hde) hg (by omega)
    refine ⟨hne, fun i hm => ?_⟩
    obtain ⟨hds, hs⟩ := hi i hm
    refine ⟨hds, ?_⟩
    rcases hs with ⟨rfl, rfl, hg', hc', hbits⟩ | ⟨rfl, rfl, hg', hc', hbits⟩ | ⟨rfl, rfl, rfl, rfl, hg', hc', hbits⟩ | ⟨rfl, rfl, rfl, rfl, rfl, hg', hc', hbits⟩ | ⟨rfl, rfl, hg', hc', hbits⟩
    · refine ⟨o2, h2, fun K hK => ?_⟩
      rw [hbits] at hK
      refine goes_ (fn := Try.f18) (f := 18) Try.func18 (by kernel_rfl) rfl #[.agg #[.int .i64 a0, .int .i64 a1, .int .i64 a2, .slice A rs.length c]] (wnt _ _ g2.1) rfl g2.2.2 ?_ ?_
      · simp only [List.map_toArray, List.map_cons, List.map_nil]
        rw [eval5_o sl a _ _ _ _ _ hsz sM hM.1 hM.2.1 hM.2.2.1 hM.2.2.2.1 hM.2.2.2.2.1 hM.2.2.2.2.2, eM]
      · refine (copy_walk a0 a1 a2 A c rs w' (Kd.C_below hC hb) hl hrow).mono ?_
        rintro en w2 ⟨B, cb, rfl, q1, q2, q3⟩
        refine ⟨_, rfl, ?_⟩
        rw [g2.2.1, put5_2 sl]
        exact hK _ _ ⟨_, _, _, _, _, _, _, _, _, _, rfl, hg', by omega, he, rfl, hb.trans (q3.mono hb.size), fun _ => ⟨B, cb, rfl, q1, q2⟩, k3.below q3, k8, fun e1 => hE _ _ _ (k13 e1) q3⟩
    · refine ⟨o3, h3, fun K hK => ?_⟩
      rw [hbits] at hK
      refine event_step (wnt _ _ g3.1) (exec_build0 g3.2.2) ?_
      have hbn : Below w'.heap.size w' (w'.alloc (.cells #[] 3)) := (Below.refl _ _).alloc (Nat.le_refl _) _
      rw [g3.2.1, put5_3 sl]
      exact hK _ _ ⟨_, _, _, _, _, _, _, _, _, _, rfl, hg', by omega, he, rfl, hb.alloc hb.size _, fun e1 => by obtain ⟨B, cb, q0, q1, q2⟩ := k2 e1; exact ⟨B, cb, q0, q1, Kd.C_below q2 hbn⟩, k3.made hb.size, k8, fun e1 => hE _ _ _ (k13 e1) hbn⟩
    · obtain ⟨g, ex, ho⟩ := k3.1 rfl
      subst ex
      obtain ⟨B, cb, W', q1, q2, q3⟩ := app_row o6.type ho hb.size (Kd.C_below hC5 hb) (c := c5) hinp
      refine ⟨o6, h6, fun K hK => ?_⟩
      rw [hbits] at hK
      refine event_step (wnt _ _ g6.1) (exec_append (.tmp s3) (.tmp sX) 25 o6.type g6.2.2 rfl (eval5_3 sl a _ _ _ _ _ hsz) ((eval5_o sl a _ _ _ _ _ hsz sX hX.1 hX.2.1 hX.2.2.1 hX.2.2.2.1 hX.2.2.2.2.1 hX.2.2.2.2.2).trans eX) q1) ?_
      rw [g6.2.1, put5_6 sl]
      exact hK _ _ ⟨_, _, _, _, _, _, _, _, _, _, rfl, hg', by omega, he, rfl, hb.trans (q3.mono hb.size), fun e1 => by obtain ⟨B, cb, q0, q1, q2⟩ := k2 e1; exact ⟨B, cb, q0, q1, Kd.C_below q2 q3⟩, k3.app q3 q2, k8, fun e1 => hE _ _ _ (k13 e1) q3⟩
    · obtain ⟨B, cb, rfl, q1, q2⟩ := k2 rfl
      obtain ⟨D, cd, rfl, q3⟩ := k3.2 rfl
      obtain ⟨D', cd', ed, q4, q5⟩ := own_C q3
      injection ed with ed1 _ ed3
      subst ed1
      subst ed3
      refine ⟨o8, h8, fun K hK => ?_⟩
      rw [hbits] at hK
      refine goes_ (fn := fnF) (f := F) hF hFn hFb #[.agg #[.int .i64 a0, .int .i64 a1, .int .i64 a2, .slice B rs.length cb], .slice D inp.length cd, .int .i64 m] (wnt _ _ g8.1) rfl g8.2.2 ?_ ?_
      · simp only [List.map_toArray, List.map_cons, List.map_nil]
        rw [eval5_2 sl a _ _ _ _ _ hsz, eval5_6 sl a _ _ _ _ _ hsz, eval5_o sl a _ _ _ _ _ hsz sN hN.1 hN.2.1 hN.2.2.1 hN.2.2.2.1 hN.2.2.2.2.1 hN.2.2.2.2.2, eN]
      · refine (hcall w' B cb D cd q2 q5 q4).mono ?_
        rintro en w2 ⟨v, rfl, hR, q6⟩
        refine ⟨_, rfl, ?_⟩
        rw [g8.2.1, put5_8 sl]
        exact hK _ _ ⟨_, _, _, _, _, _, _, _, _, _, rfl, hg', by omega, he, rfl, hb.trans (q6.mono hb.size), fun _ => ⟨B, cb, rfl, q1, Kd.C_below q2 q6⟩, k3.below q6, fun _ => hR, fun e1 => hE _ _ _ (k13 e1) q6⟩
    · obtain ⟨r1, r2, r3, r4⟩ := h13 (he rfl)
      obtain ⟨v, w2, q1, q2, q3⟩ := r4 (put5 s2 s3 s6 s8 s13 a x2 x3 x6 x8 x13) w' hb
      refine ⟨o13, r1, fun K hK => ?_⟩
      rw [hbits] at hK
      refine event_step (wnt _ _ r2) q1 ?_
      rw [r3, put5_13 sl]
      exact hK _ _ ⟨_, _, _, _, _, _, _, _, _, _, rfl, hg', by omega, fun h => (by cases h), rfl, hb.trans (q2.mono hb.size), fun e1 => by obtain ⟨B, cb, q0, q1, q2'⟩ := k2 e1; exact ⟨B, cb, q0, q1, Kd.C_below q2' q2⟩, k3.below q2, k8, fun _ => q3⟩
  · refine ⟨false, false, false, false, e0, y2, y3, y6, y8, y13, rfl, rfl, ?_, id, ha, Below.refl _ _, fun h => (by cases h), ⟨fun h => (by cases h), fun h => (by cases h)⟩, fun h => (by cases h), he0⟩
    simp only [cntL, Bool.toNat_false]
    omega
end
theorem exec_alloc32 {o : Oper} {a : Act} {W : World} (hop : o.op = Op.alloc 32) : (execOp a.eval o).run Try.prog W = .ok (.value (.pointer (some ⟨W.heap.size, 0, none⟩))) (W.alloc (.cells #[.int .i64 0, .slice none 0 0, .slice none 0 0] 32)) := by
  unfold execOp
  simp only [hop]
  go_simp
end Go.Proofs.Ytfoodfhhdbaieaa.Giv
