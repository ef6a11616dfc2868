/- A law's region, more general: the machine may be at hand already, the answer is told with its world. -/
import Derived.Test.YtfoodfhhdbaieaaT26
namespace Go.Proofs.Ytfoodfhhdbaieaa.Giv
set_option linter.unusedSimpArgs false
set_option linter.unusedVariables false
set_option linter.unusedSectionVars false
open Go.RowKit Go.Shelf Go.Proofs.YtfoodfhhdbaieaaW.PrintWords Go.Proofs.YtfoodfhhdbaieaaW.PrintLast Go.Proofs.YtfoodfhhdbaieaaW.PrintMore
open Go.Proofs.Ytfoodfhhdbaieaa.Ka (S54 k54 z54 rd_T54 at_T54 k54_open k54_mk k54_openM k54_mkM rd_L1 at_L1 info3 info25 info54)

/-- What may come up, and what is listed behind it. -/
def LawStepG (bits : Bool → Bool → Bool → Bool → Bool → Array Bool) (i2 i3 i6 i8 i13 : Nat) (p b c d e : Bool) (i : Nat) : Prop :=
  (i = i2 ∧ p = false ∧ goodL true b c d = true ∧ cntL true b c d e = cntL p b c d e + 1 ∧ (bits p b c d e).setIfInBounds i true = bits true b c d e) ∨
  (i = i3 ∧ b = false ∧ goodL p true c d = true ∧ cntL p true c d e = cntL p b c d e + 1 ∧ (bits p b c d e).setIfInBounds i true = bits p true c d e) ∨
  (i = i6 ∧ p = true ∧ b = true ∧ c = false ∧ goodL p b true d = true ∧ cntL p b true d e = cntL p b c d e + 1 ∧ (bits p b c d e).setIfInBounds i true = bits p b true d e) ∨
  (i = i8 ∧ p = true ∧ b = true ∧ c = true ∧ d = false ∧ goodL p b c true = true ∧ cntL p b c true e = cntL p b c d e + 1 ∧ (bits p b c d e).setIfInBounds i true = bits p b c true e) ∨
  (i = i13 ∧ e = false ∧ goodL p b c d = true ∧ cntL p b c d true = cntL p b c d e + 1 ∧ (bits p b c d e).setIfInBounds i true = bits p b c d true)
instance (bits : Bool → Bool → Bool → Bool → Bool → Array Bool) (i2 i3 i6 i8 i13 : Nat) (p b c d e : Bool) (i : Nat) : Decidable (LawStepG bits i2 i3 i6 i8 i13 p b c d e i) := by unfold LawStepG; infer_instance
section
variable {md : Region.Mode} {ops : Array Oper} {Q : Exit → Act → World → Prop} {S : World → Prop} {ds : List Nat}
def LawJ (bits : Bool → Bool → Bool → Bool → Bool → Array Bool) (s2 s3 s6 s8 s13 : Tmp) (a0 a1 a2 : Int) (rs : List S54) (inp : List Int) (R : Bool → Bool → Value → Value → World → Prop) (p0 e0 : Bool) (a : Act) (W0 : World) (k : Nat) (l : Array Bool) (a' : Act) (w' : World) : Prop :=
  ∃ p b c d e x2 x3 x6 x8 x13, l = bits p b c d e ∧ goodL p b c d = true ∧ cntL p b c d e + k = 5 ∧ (e = false → e0 = false) ∧ (p = false → p0 = false) ∧ a' = put5 s2 s3 s6 s8 s13 a x2 x3 x6 x8 x13 ∧ Below W0.heap.size W0 w' ∧
    (p = true → ∃ B cb, x2 = .agg #[.int .i64 a0, .int .i64 a1, .int .i64 a2, .slice B rs.length cb] ∧ rs.length ≤ cb ∧ Kd.C k54 w' B rs.length rs) ∧ Ch W0.heap.size b c inp x3 x6 w' ∧ R d e x8 x13 w'
set_option maxHeartbeats 1000000 in
theorem law_invG {nt : Nat} {bits : Bool → Bool → Bool → Bool → Bool → Array Bool} {i2 i3 i6 i8 i13 : Nat} {s2 s3 s6 s8 s13 : Nat} (sl : Slots s2 s3 s6 s8 s13 nt) {a0 a1 a2 : Int} {rs : List S54} {inp : List Int} {R : Bool → Bool → Value → Value → World → Prop} {p0 e0 : Bool} (W0 : World)
    (hready : ∀ p b c d e, (e = false → e0 = false) → (p = false → p0 = false) → (d = true → e = true) → goodL p b c d = true → cntL p b c d e < 5 → Region.ready md ops (bits p b c d e) ≠ [] ∧ ∀ i ∈ Region.ready md ops (bits p b c d e), i ∉ ds ∧ LawStepG bits i2 i3 i6 i8 i13 p b c d e i)
    {o2 o3 o6 o8 o13 : Oper} (h3 : ops[i3]? = some o3) (h6 : ops[i6]? = some o6) (h8 : ops[i8]? = some o8) (h13 : e0 = false → ops[i13]? = some o13 ∧ o13.guard = none ∧ o13.dst = some s13 ∧ ∀ (a : Act) (w : World) (d : Bool) (x8 x13 : Value), Below W0.heap.size W0 w → R d false x8 x13 w → ∃ v w', (execOp a.eval o13).run Try.prog w = .ok (.value v) w' ∧ Below w.heap.size w w' ∧ R d true x8 v w')
    {sM sX sN F : Nat} (a : Act) (hsz : a.tmps.size = nt) {A A5 : Option Addr} {c c5 : Nat} {m : Int} (g2 : p0 = false → ops[i2]? = some o2 ∧ sM < nt ∧ s2 ≠ sM ∧ s3 ≠ sM ∧ s6 ≠ sM ∧ s8 ≠ sM ∧ s13 ≠ sM ∧ a.eval (.tmp sM) = .agg #[.int .i64 a0, .int .i64 a1, .int .i64 a2, .slice A rs.length c] ∧ Kd.C k54 W0 A rs.length rs ∧ o2.guard = none ∧ o2.dst = some s2 ∧ o2.op = Op.call { callee := .value (.func 18), args := #[.tmp sM], argTypes := #[24] }) (g3 : o3.guard = none ∧ o3.dst = some s3 ∧ o3.op = Op.buildSlice 25 0 #[])
    (g6 : o6.guard = none ∧ o6.dst = some s6 ∧ o6.op = Op.call { callee := Callee.builtin Builtin.append, args := #[.tmp s3, .tmp sX], argTypes := #[25, 25] })
    (g8 : o8.guard = none ∧ o8.dst = some s8 ∧ o8.op = Op.call { callee := .value (.func F), args := #[.tmp s2, .tmp s6, .tmp sN], argTypes := #[24, 25, 3] }) {fnF : Func} (hF : Try.prog.funcs[F]? = some fnF) (hFn : (fnF.name == "runtime.NumGoroutine") = false) (hFb : fnF.body.isSome = true)
    (hX : sX < nt ∧ s2 ≠ sX ∧ s3 ≠ sX ∧ s6 ≠ sX ∧ s8 ≠ sX ∧ s13 ≠ sX) (hN : sN < nt ∧ s2 ≠ sN ∧ s3 ≠ sN ∧ s6 ≠ sN ∧ s8 ≠ sN ∧ s13 ≠ sN)
    (eX : a.eval (.tmp sX) = .slice A5 inp.length c5) (eN : a.eval (.tmp sN) = .int .i64 m)
    (hC5 : Kd.C (Kd.int .i64) W0 A5 inp.length inp) (hl : rs.length ≤ 1000000) (hrow : ∀ r ∈ rs, r.f1.length ≤ 1000000 ∧ r.f3.length ≤ 1000000 ∧ r.f4.length ≤ 1000000) (hinp : inp.length ≤ 1000000)
    (hcall : ∀ (w : World) B cb D cd (e1 : Bool) (x8 x13 : Value), Below W0.heap.size W0 w → R false e1 x8 x13 w → Kd.C k54 w B rs.length rs → Kd.C (Kd.int .i64) w D inp.length inp → inp.length ≤ cd → Calls Try.prog F #[.agg #[.int .i64 a0, .int .i64 a1, .int .i64 a2, .slice B rs.length cb], .slice D inp.length cd, .int .i64 m] w fun e w' => ∃ v, e = .returned v ∧ R true e1 v x13 w' ∧ Below w.heap.size w w')
    (hRk : ∀ d e x8 x13 w w', R d e x8 x13 w → Below w.heap.size w w' → R d e x8 x13 w')
    (hS : ∀ w', Below W0.heap.size W0 w' → S w') {y2 y3 y6 y8 y13 : Value} (ha : a = put5 s2 s3 s6 s8 s13 a y2 y3 y6 y8 y13) (he0 : R false e0 y8 y13 W0) (hp0 : p0 = true → ∃ B cb, y2 = .agg #[.int .i64 a0, .int .i64 a1, .int .i64 a2, .slice B rs.length cb] ∧ rs.length ≤ cb ∧ Kd.C k54 W0 B rs.length rs) (fuel0 k0 : Nat) (hk0 : k0 + (p0.toNat + e0.toNat) = 5)
    (hend : ∀ x2 x3 x6 v x13 w', Below W0.heap.size W0 w' → R true true v x13 w' → wpAnyLast Try.prog md ops Q S ds fuel0 (bits true true true true true) (put5 s2 s3 s6 s8 s13 a x2 x3 x6 v x13) w')
    (hend2 : e0 = false → ∀ x2 x3 x6 v x13 w', Below W0.heap.size W0 w' → R true false v x13 w' → wpAnyLast Try.prog md ops Q S ds (fuel0 + 1) (bits true true true true false) (put5 s2 s3 s6 s8 s13 a x2 x3 x6 v x13) w') :
    wpAnyLast Try.prog md ops Q S ds (fuel0 + k0) (bits p0 false false false e0) a W0 := by
  have wnt : ∀ (o : Oper) (y : Nat → Option Bool), o.guard = none → Region.wanted o y = true := fun o y h => by unfold Region.wanted; rw [h]
  refine inv2_ (LawJ bits s2 s3 s6 s8 s13 a0 a1 a2 rs inp R p0 e0 a W0) fuel0 ?_ ?_ ?_ k0 _ _ _ ?_
  · rintro k l a' w' ⟨_, _, _, _, _, _, _, _, _, _, _, _, _, _, _, _, hb, _⟩
    exact hS w' hb
  · rintro l a' w' ⟨p, b, c', d, e, x2, x3, x6, x8, x13, rfl, _, hc, _, _, rfl, hb, k2, k3, k8⟩
    obtain ⟨rfl, rfl, rfl, rfl, rfl⟩ := law_all _ _ _ _ _ hc
    exact hend _ _ _ _ _ _ hb k8
  · rintro k l a' w' ⟨p, b, c', d, e, x2, x3, x6, x8, x13, rfl, hg, hc, he, hp, rfl, hb, k2, k3, k8⟩
    by_cases hde : d = true ∧ e = false
    · obtain ⟨rfl, rfl⟩ := hde
      obtain ⟨rfl, rfl, rfl⟩ : p = true ∧ b = true ∧ c' = true := law_d p b c' hg
      have hk : k = 0 := by simp only [cntL, Bool.toNat_true, Bool.toNat_false] at hc; omega
      subst hk
      exact .inl (hend2 (he rfl) _ _ _ _ _ _ hb k8)
    refine .inr ?_
    obtain ⟨hne, hi⟩ := hready p b c' d e he hp (fun h => by cases e with
      | true => rfl
      | false => exact absurd ⟨h, rfl⟩ hde) hg (by omega)
    refine ⟨hne, fun i hm => ?_⟩
    obtain ⟨hds, hs⟩ := hi i hm
    refine ⟨hds, ?_⟩
    rcases hs with ⟨rfl, rfl, hg', hc', hbits⟩ | ⟨rfl, rfl, hg', hc', hbits⟩ | ⟨rfl, rfl, rfl, rfl, hg', hc', hbits⟩ | ⟨rfl, rfl, rfl, rfl, rfl, hg', hc', hbits⟩ | ⟨rfl, rfl, hg', hc', hbits⟩
    · obtain ⟨h2, hM1, hM2, hM3, hM4, hM5, hM6, eM, hC, g21, g22, g23⟩ := g2 (hp rfl)
      refine ⟨o2, h2, fun K hK => ?_⟩
      rw [hbits] at hK
      refine goes_ (fn := Try.f18) (f := 18) Try.func18 (by kernel_rfl) rfl #[.agg #[.int .i64 a0, .int .i64 a1, .int .i64 a2, .slice A rs.length c]] (wnt _ _ g21) rfl g23 ?_ ?_
      · simp only [List.map_toArray, List.map_cons, List.map_nil]
        rw [eval5_o sl a _ _ _ _ _ hsz sM hM1 hM2 hM3 hM4 hM5 hM6, eM]
      · refine (copy_walk a0 a1 a2 A c rs w' (Kd.C_below hC hb) hl hrow).mono ?_
        rintro en w2 ⟨B, cb, rfl, q1, q2, q3⟩
        refine ⟨_, rfl, ?_⟩
        rw [g22, put5_2 sl]
        exact hK _ _ ⟨_, _, _, _, _, _, _, _, _, _, rfl, hg', by omega, he, (fun h => by cases h), rfl, hb.trans (q3.mono hb.size), fun _ => ⟨B, cb, rfl, q1, q2⟩, k3.below q3, hRk _ _ _ _ _ _ k8 q3⟩
    · refine ⟨o3, h3, fun K hK => ?_⟩
      rw [hbits] at hK
      refine event_step (wnt _ _ g3.1) (exec_build0 g3.2.2) ?_
      have hbn : Below w'.heap.size w' (w'.alloc (.cells #[] 3)) := (Below.refl _ _).alloc (Nat.le_refl _) _
      rw [g3.2.1, put5_3 sl]
      exact hK _ _ ⟨_, _, _, _, _, _, _, _, _, _, rfl, hg', by omega, he, hp, rfl, hb.alloc hb.size _, fun e1 => by obtain ⟨B, cb, q0, q1, q2⟩ := k2 e1; exact ⟨B, cb, q0, q1, Kd.C_below q2 hbn⟩, k3.made hb.size, hRk _ _ _ _ _ _ k8 hbn⟩
    · obtain ⟨g, ex, ho⟩ := k3.1 rfl
      subst ex
      obtain ⟨B, cb, W', q1, q2, q3⟩ := app_row o6.type ho hb.size (Kd.C_below hC5 hb) (c := c5) hinp
      refine ⟨o6, h6, fun K hK => ?_⟩
      rw [hbits] at hK
      refine event_step (wnt _ _ g6.1) (exec_append (.tmp s3) (.tmp sX) 25 o6.type g6.2.2 rfl (eval5_3 sl a _ _ _ _ _ hsz) ((eval5_o sl a _ _ _ _ _ hsz sX hX.1 hX.2.1 hX.2.2.1 hX.2.2.2.1 hX.2.2.2.2.1 hX.2.2.2.2.2).trans eX) q1) ?_
      rw [g6.2.1, put5_6 sl]
      exact hK _ _ ⟨_, _, _, _, _, _, _, _, _, _, rfl, hg', by omega, he, hp, rfl, hb.trans (q3.mono hb.size), fun e1 => by obtain ⟨B, cb, q0, q1, q2⟩ := k2 e1; exact ⟨B, cb, q0, q1, Kd.C_below q2 q3⟩, k3.app q3 q2, hRk _ _ _ _ _ _ k8 q3⟩
    · obtain ⟨B, cb, rfl, q1, q2⟩ := k2 rfl
      obtain ⟨D, cd, rfl, q3⟩ := k3.2 rfl
      obtain ⟨D', cd', ed, q4, q5⟩ := own_C q3
      injection ed with ed1 _ ed3
      subst ed1
      subst ed3
      refine ⟨o8, h8, fun K hK => ?_⟩
      rw [hbits] at hK
      refine goes_ (fn := fnF) (f := F) hF hFn hFb #[.agg #[.int .i64 a0, .int .i64 a1, .int .i64 a2, .slice B rs.length cb], .slice D inp.length cd, .int .i64 m] (wnt _ _ g8.1) rfl g8.2.2 ?_ ?_
      · simp only [List.map_toArray, List.map_cons, List.map_nil]
        rw [eval5_2 sl a _ _ _ _ _ hsz, eval5_6 sl a _ _ _ _ _ hsz, eval5_o sl a _ _ _ _ _ hsz sN hN.1 hN.2.1 hN.2.2.1 hN.2.2.2.1 hN.2.2.2.2.1 hN.2.2.2.2.2, eN]
      · refine (hcall w' B cb D cd _ _ _ hb k8 q2 q5 q4).mono ?_
        rintro en w2 ⟨v, rfl, hR, q6⟩
        refine ⟨_, rfl, ?_⟩
        rw [g8.2.1, put5_8 sl]
        exact hK _ _ ⟨_, _, _, _, _, _, _, _, _, _, rfl, hg', by omega, he, hp, rfl, hb.trans (q6.mono hb.size), fun _ => ⟨B, cb, rfl, q1, Kd.C_below q2 q6⟩, k3.below q6, hR⟩
    · obtain ⟨r1, r2, r3, r4⟩ := h13 (he rfl)
      obtain ⟨v, w2, q1, q2, q3⟩ := r4 (put5 s2 s3 s6 s8 s13 a x2 x3 x6 x8 x13) w' _ _ _ hb k8
      refine ⟨o13, r1, fun K hK => ?_⟩
      rw [hbits] at hK
      refine event_step (wnt _ _ r2) q1 ?_
      rw [r3, put5_13 sl]
      exact hK _ _ ⟨_, _, _, _, _, _, _, _, _, _, rfl, hg', by omega, fun h => (by cases h), hp, rfl, hb.trans (q2.mono hb.size), fun e1 => by obtain ⟨B, cb, q0, q1, q2'⟩ := k2 e1; exact ⟨B, cb, q0, q1, Kd.C_below q2' q2⟩, k3.below q2, q3⟩
  · refine ⟨p0, false, false, false, e0, y2, y3, y6, y8, y13, rfl, (by cases p0 <;> rfl), ?_, id, id, ha, Below.refl _ _, hp0, ⟨fun h => (by cases h), fun h => (by cases h)⟩, he0⟩
    simp only [cntL, Bool.toNat_false]
    omega
end
end Go.Proofs.Ytfoodfhhdbaieaa.Giv
