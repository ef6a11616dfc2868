-- CUT by a program of this session: what the claim does not use is left out
import Derived.Test.YtfoodfhhdbaieaaT25
import Derived.Test.YtfoodfhhdbaieaaT28
import Derived.Test.YtfoodfhhdbaieaaT55
import Derived.Test.YtfoodfhhdbaieaaT62
import Derived.Deep.CutBlock
namespace Go.Proofs.Ytfoodfhhdbaieaa.Giv
set_option linter.unusedSimpArgs false
set_option linter.unusedVariables false
open Go.RowKit Go.Shelf Go.Proofs.YtfoodfhhdbaieaaW.PrintWords Go.Proofs.YtfoodfhhdbaieaaW.PrintLast Go.Proofs.YtfoodfhhdbaieaaW.PrintMore
open Go.Proofs.Ytfoodfhhdbaieaa.Ka (S54 k54 z54 rd_T54 at_T54 k54_open k54_mk rd_L1 at_L1 info3 info25 info54 commodatumlaw20_cheap.f)

theorem tape_cells7' {w : World} {k : Nat} {a b c d e : Value} {t : TypeId} (h : w.heap[k]? = some (.cells #[a, b, c, d, e] t (0, 0))) : w.cell? ⟨k, 0, none⟩ = some a ∧ w.cell? ⟨k, 1, none⟩ = some b ∧ w.cell? ⟨k, 2, none⟩ = some c ∧ w.cell? ⟨k, 3, none⟩ = some d ∧ w.cell? ⟨k, 4, none⟩ = some e := by
  simp [World.cell?, h]
def VarAt (w : World) (g : Nat) (q : Sc) (x y : Option Addr × Nat) : Prop := w.heap[g]? = some (.cells #[.int .i64 q.s, .slice x.1 q.at_.length x.2, .slice y.1 q.tp.length y.2] 32 (0, 0)) ∧ SceneV w (scV q x y) q.s q.at_ q.tp
theorem VarAt.keep {w w' : World} {g : Nat} {q : Sc} {x y : Option Addr × Nat} (h : VarAt w g q x y) (hb : Below w.heap.size w w') : VarAt w' g q x y := ⟨heap_keep h.1 hb, SceneV_below h.2 hb⟩
theorem ansF_trim {w w' : World} {s : Int} {a : List Int} {t : List (List Int)} {e : Ending} (h : TrimOut w s a t e w') : AnsF w ⟨s, a, t⟩ (fun v => v) e w' := by
  obtain ⟨v1, v2, us, e1, hown, hb⟩ := h
  exact ⟨_, e1, fun u hu ha => scene_foot (fun w'' h9 => hown.reads' h9) (fun k k1 k2 => ha k k1 k2 (by simp)) hu, hb⟩
theorem set4s {w : World} {g : Nat} {t : TypeId} {x y z u : Value} (h : w.heap[g]? = some (.cells #[x, y, z, u] t (0, 0))) (a b c d : Value) : ((((w.setCell ⟨g, 0, none⟩ a).setCell ⟨g, 1, none⟩ b).setCell ⟨g, 2, none⟩ c).setCell ⟨g, 3, none⟩ d).heap[g]? = some (.cells #[a, b, c, d] t (0, 0)) :=
  (heap_setCell_same _ g 3 _ t _ ((heap_setCell_same _ g 2 _ t _ ((heap_setCell_same _ g 1 _ t _ ((heap_setCell_same _ g 0 _ t _ h).trans rfl)).trans rfl)).trans rfl)).trans rfl
theorem app_event {ops : Array Oper} {rest : List Oper} {o : Oper} {a : Act} {Q : Exit → Act → World → Prop} {W : World} {base g c : Nat} {A : Option Addr} {l : List Int} (hgd : o.guard = none) (s x : Operand) (hop : o.op = Op.call { callee := Callee.builtin Builtin.append, args := #[s, x], argTypes := #[25, 25] }) (hs : a.eval s = .slice (some ⟨g, 0, none⟩) 0 0) (hx : a.eval x = .slice A l.length c)
    (hu : W.ownsRow base 3 1 (.slice (some ⟨g, 0, none⟩) 0 0) 0 []) (hbase : base ≤ W.heap.size) (hC : Kd.C (Kd.int .i64) W A l.length l) (hl : l.length ≤ 1000000)
    (h : ∀ B cb W', Kd.C (Kd.int .i64) W' B l.length l → l.length ≤ cb → Below W.heap.size W W' → wpList Try.prog ops Q rest (a.put o.dst (.slice B l.length cb)) W') : wpList Try.prog ops Q (o :: rest) a W := by
  obtain ⟨B, cb, W', q1, q2, q3⟩ := app_row o.type hu hbase hC hl (c := c)
  obtain ⟨D', cd', ed, q4, q5⟩ := own_C q2
  injection ed with ed1 _ ed3
  subst ed1
  subst ed3
  exact Kd.event_run hgd (exec_append s x 25 o.type hop rfl hs hx q1) (h _ _ _ q5 q4 q3)
structure RunsTold (a0 a1 a2 : Int) (l : List S54) (inp : List Int) (most : Int) (S0 : Sc) (bg er : Int) (Q : Sc) (st : Nat) (sp : Int) (yes : Bool) (ye : Int) : Prop where
  start : startF a0 a1 a2 l inp = (S0.s, S0.at_, S0.tp, bg)
  run : runQ a0 a1 a2 l inp most = (Q, st, er)
  acc : acceptsQ a0 a1 a2 l inp most = (yes, ye)
  space : spaceQ a0 a1 a2 l inp most = (sp, er)
  bg1 : validM a0 a1 a2 l = false → bg = 1 ∧ S0 = ⟨0, [], []⟩
  bg2 : validM a0 a1 a2 l = true → startBad a1 inp = true → bg = 2 ∧ S0 = ⟨0, [], []⟩
  bg0 : validM a0 a1 a2 l = true → startBad a1 inp = false → bg = 0 ∧ S0 = startSc a2 inp
  erb : bg ≠ 0 → er = bg
  er2 : bg = 0 → most < 0 ∨ 20000 < most → er = 2
  er0 : bg = 0 → 0 ≤ most → most ≤ 20000 → er = 0
  bad : er ≠ 0 → Q = ⟨0, [], []⟩ ∧ st = 0 ∧ sp = 0 ∧ ye = er
  yesE : yes = (decide (ye = 0) && decide (Q.s = 1))
theorem runs_told (a0 a1 a2 : Int) (l : List S54) (inp : List Int) (most : Int) : ∃ S0 bg er Q st sp yes ye, RunsTold a0 a1 a2 l inp most S0 bg er Q st sp yes ye := by
  have hst : ∃ (S0 : Sc) (bg : Int), startF a0 a1 a2 l inp = (S0.s, S0.at_, S0.tp, bg) ∧ (validM a0 a1 a2 l = false → bg = 1 ∧ S0 = ⟨0, [], []⟩) ∧ (validM a0 a1 a2 l = true → startBad a1 inp = true → bg = 2 ∧ S0 = ⟨0, [], []⟩) ∧ (validM a0 a1 a2 l = true → startBad a1 inp = false → bg = 0 ∧ S0 = startSc a2 inp) := by
    unfold startF
    cases hv : validM a0 a1 a2 l with
    | false => exact ⟨⟨0, [], []⟩, 1, by simp, fun _ => ⟨rfl, rfl⟩, fun h => (by cases h), fun h => (by cases h)⟩
    | true =>
      cases hs : startBad a1 inp with
      | true => exact ⟨⟨0, [], []⟩, 2, by simp, fun h => (by cases h), fun _ _ => ⟨rfl, rfl⟩, fun _ h => (by cases h)⟩
      | false => exact ⟨startSc a2 inp, 0, by simp [startSc], fun h => (by cases h), fun _ h => (by cases h), fun _ _ => ⟨rfl, rfl⟩⟩
  obtain ⟨S0, bg, h1, h2, h3, h4⟩ := hst
  have hbg : bg = 0 → validM a0 a1 a2 l = true ∧ startBad a1 inp = false := fun h => by
    cases hv : validM a0 a1 a2 l with
    | false => have := (h2 hv).1; omega
    | true =>
      cases hs : startBad a1 inp with
      | true => have := (h3 hv hs).1; omega
      | false => exact ⟨rfl, rfl⟩
  have heb : bg ≠ 0 → errF a0 a1 a2 l inp most = bg := fun h => by
    unfold errF
    cases hv : validM a0 a1 a2 l with
    | false => rw [if_pos rfl, (h2 hv).1]
    | true =>
      cases hs : startBad a1 inp with
      | true => rw [if_neg (by simp), if_pos rfl, (h3 hv hs).1]
      | false => exact absurd (h4 hv hs).1 h
  by_cases he : errF a0 a1 a2 l inp most = 0
  · refine ⟨S0, bg, 0, (runQ a0 a1 a2 l inp most).1, (runQ a0 a1 a2 l inp most).2.1, (spaceQ a0 a1 a2 l inp most).1, (acceptsQ a0 a1 a2 l inp most).1, (acceptsQ a0 a1 a2 l inp most).2, h1, ?_, rfl, ?_, h2, h3, h4, fun h => ?_, fun h0 hm => ?_, fun _ _ _ => rfl, fun h => absurd rfl h, ?_⟩
    · unfold runQ; rw [if_pos he]
    · unfold spaceQ; rw [if_pos he]
    · rw [← heb h, he]
    · obtain ⟨hv, hs⟩ := hbg h0
      unfold errF at he
      rw [if_neg (by rw [hv]; simp), if_neg (by rw [hs]; simp), if_pos hm] at he
      cases he
    · unfold acceptsQ runQ haltQ
      rw [if_pos he, if_pos he]
      by_cases hf : (findR l (runS l most.toNat (startSc a2 inp)).1.s (readL (runS l most.toNat (startSc a2 inp)).1.at_ (runS l most.toNat (startSc a2 inp)).1.tp)).isSome = true
      · rw [if_pos hf]; rfl
      · rw [if_neg hf, Bool.eq_iff_iff]; simp
  · refine ⟨S0, bg, errF a0 a1 a2 l inp most, ⟨0, [], []⟩, 0, 0, false, errF a0 a1 a2 l inp most, h1, ?_, ?_, ?_, h2, h3, h4, heb, fun h0 hm => ?_, fun h0 m0 m1 => ?_, fun _ => ⟨rfl, rfl, rfl, rfl⟩, ?_⟩
    · unfold runQ; rw [if_neg he]
    · unfold acceptsQ; rw [if_neg he]
    · unfold spaceQ; rw [if_neg he]
    · obtain ⟨hv, hs⟩ := hbg h0
      unfold errF
      rw [if_neg (by rw [hv]; simp), if_neg (by rw [hs]; simp), if_pos hm]
    · obtain ⟨hv, hs⟩ := hbg h0
      unfold errF at he ⊢
      rw [if_neg (by rw [hv]; simp), if_neg (by rw [hs]; simp), if_neg (by omega)]
    · rw [decide_eq_false he]; rfl
theorem runs_ref {a0 a1 a2 : Int} {A : Option Addr} {c : Nat} {l : List S54} {A5 : Option Addr} {c5 : Nat} {inp : List Int} {most : Int} {W : World} {S0 : Sc} {bg er : Int} {Q : Sc} {st : Nat} {sp : Int} {yes : Bool} {ye : Int} (T : RunsTold a0 a1 a2 l inp most S0 bg er Q st sp yes ye)
    (hr : Kd.C k54 W A l.length l) (hlc : l.length ≤ c) (h5 : Kd.C (Kd.int .i64) W A5 inp.length inp) (hl5 : inp.length ≤ c5) (s1 : l.length ≤ 2000) (s3 : ∀ r ∈ l, r.f1.length ≤ 100 ∧ r.f3.length ≤ 100 ∧ r.f4.length ≤ 100) (hbg : bg = 0) :
    (∀ w1, Below W.heap.size W w1 → Calls Try.prog 13 #[.agg #[.int .i64 a0, .int .i64 a1, .int .i64 a2, .slice A l.length c], .slice A5 inp.length c5] w1 (AnsF w1 S0 fun v => v)) ∧
    (er = 0 → 0 ≤ most → most ≤ 20000 → (∀ w1, Below W.heap.size W w1 → Calls Try.prog 15 #[.agg #[.int .i64 a0, .int .i64 a1, .int .i64 a2, .slice A l.length c], .slice A5 inp.length c5, .int .i64 most] w1 (AnsF w1 Q fun v => .tuple #[v, .int .i64 st, .int .i64 sp])) ∧
      ∃ v : Bool, ye = (if v = true then 0 else 6) ∧ ∀ w1 B1 d1 B2 d2, Below W.heap.size W w1 → SceneV w1 (scV Q (B1, d1) (B2, d2)) Q.s Q.at_ Q.tp → Calls Try.prog 16 #[.agg #[.int .i64 a0, .int .i64 a1, .int .i64 a2, .slice A l.length c], .agg #[.int .i64 Q.s, .slice B1 Q.at_.length d1, .slice B2 Q.tp.length d2]] w1 fun e w' => e = .returned (.bool v) ∧ Below w1.heap.size w1 w') := by
  have hvs : validM a0 a1 a2 l = true ∧ startBad a1 inp = false := by
    cases hv : validM a0 a1 a2 l with
    | false => have := (T.bg1 hv).1; omega
    | true =>
      cases hs : startBad a1 inp with
      | true => have := (T.bg2 hv hs).1; omega
      | false => exact ⟨rfl, rfl⟩
  obtain ⟨hv, hs⟩ := hvs
  obtain ⟨_, hS0⟩ := T.bg0 hv hs
  obtain ⟨g0, g1, g2⟩ := valid_a2 hv
  obtain ⟨n, rfl⟩ : ∃ n : Nat, a2 = n := ⟨a2.toNat, by omega⟩
  have hli : inp.length ≤ 1000000 := by
    have hs' := hs
    unfold startBad at hs'
    rw [Bool.or_eq_false_iff] at hs'
    have := of_decide_eq_false hs'.1
    omega
  refine ⟨fun w1 hb => ?_, fun he m0 m1 => ?_⟩
  · rw [hS0]
    exact (refStart_walk a0 a1 n A c l A5 c5 inp w1 (Kd.C_below h5 hb) hl5 hli (by omega) (by omega)).mono (fun e w' h => ansF_trim h)
  · obtain ⟨M, rfl⟩ : ∃ M : Nat, most = M := ⟨most.toNat, by omega⟩
    subst he
    have hrun := T.run
    have hacc := T.acc
    have hsp := T.space
    have hef : errF a0 a1 n l inp M = 0 := by
      unfold errF; rw [if_neg (by rw [hv]; simp), if_neg (by rw [hs]; simp), if_neg (by omega)]
    unfold runQ at hrun
    unfold acceptsQ haltQ at hacc
    unfold spaceQ at hsp
    rw [if_pos hef] at hrun hacc hsp
    rw [Int.toNat_natCast] at hrun hacc hsp
    have hgood := runS_good (valid_ok hv).1 M _ 0 _ (start_good hv hs)
    generalize hRR : runS l M (startSc (n : Int) inp) = R at hrun hacc hgood
    simp only [Prod.mk.injEq] at hrun hsp
    obtain ⟨hQ, hst, _⟩ := hrun
    have hQ' : trimSc R.1 = Q := hQ
    subst hst
    obtain ⟨hsp, _⟩ := hsp
    rw [Int.toNat_natCast] at hgood
    have hgood2 : Good a0 a1 (n : Int).toNat 20000 20001 R.1 := by
      rw [Int.toNat_natCast]
      exact ⟨hgood.st, hgood.la, hgood.lt, fun j => by have := hgood.pos j; omega, fun j => by have := hgood.len j; omega, hgood.sym⟩
    have hsc := good_scene hv hgood2 (by omega) (by omega)
    have hsc' : sceneB a0 a1 n l Q.s Q.at_ Q.tp = true := by rw [← hQ']; exact hsc
    obtain ⟨_, hGQ⟩ := scene_good hsc'
    refine ⟨fun w1 hb => ?_, ?_⟩
    · have h := refRun_walk a0 a1 n A c l A5 c5 inp M w1 (Kd.C_below hr hb) hlc s1 (Kd.C_below h5 hb) hl5 hv hs (by omega)
      rw [hRR, hQ', hsp] at h
      exact h
    · obtain ⟨k, v, hk, e1, e2⟩ := refFinal_total (a2 := (n : Int)) hGQ (by omega) (valid_ok hv).1 s1
      obtain ⟨t1, t2⟩ := step_trim (l := l) (c := R.1) (by rw [hgood.la, hgood.lt]) (fun i => (hgood.pos i).1)
      have hst : stepS l R.1 = (findR l R.1.s (readL R.1.at_ R.1.tp)).map fun r => ⟨r.f2, (stepTo r R.1.at_ R.1.tp R.1.at_.length).1, (stepTo r R.1.at_ R.1.tp R.1.at_.length).2⟩ := rfl
      refine ⟨v, ?_, fun w1 B1 d1 B2 d2 hb hS => ?_⟩
      · cases hf : findR l R.1.s (readL R.1.at_ R.1.tp) with
        | none =>
          rw [hf] at hst hacc
          have := e1 (by have := t1 hst; rw [hQ'] at this; exact this)
          subst this
          simp at hacc
          simp [hacc.2]
        | some r =>
          rw [hf] at hst hacc
          obtain ⟨d', hd', _⟩ := t2 _ hst
          have := e2 d' (by rw [hQ'] at hd'; exact hd')
          subst this
          simp at hacc
          simp [hacc.2]
      · obtain ⟨Y1, y1, Y2, y2, hve, q1, q2, q3, q4⟩ := hS
        simp [scV] at hve
        obtain ⟨⟨rfl, rfl⟩, ⟨rfl, rfl⟩⟩ := hve
        exact Ka.commodatumref20_Final.calls k a0 a1 n A c l _ _ _ _ _ _ _ v w1 (Kd.C_below hr hb) hlc q2 q1 q4 q3 hk
def reg3a.T : Bool × List (List Nat × List Nat) := (true, [([], []), ([0], [0]), ([], []), ([2], [2]), ([], []), ([4, 1, 0, 1, 4], [1, 4]), ([3, 5, 0, 1, 2, 3, 4, 5], [3])])
def reg3a.B : List Nat := [0, 1, 0, 4, 0, 19, 63]
theorem reg3a.tab : rtab .any (opsOf Try.f3 3) = reg3a.T := by kernel_rfl
theorem reg3a.bits : waitsOk reg3a.T.2 reg3a.B = true := by kernel_rfl
set_option maxHeartbeats 8000000 in
set_option maxRecDepth 100000 in
theorem tapeRuns_walk (a0 a1 a2 : Int) (A : Option Addr) (c : Nat) (l : List S54) (A5 : Option Addr) (c5 : Nat) (inp : List Int) (most : Int) (w : World) (hr : Kd.C k54 w A l.length l) (hlc : l.length ≤ c) (h5 : Kd.C (Kd.int .i64) w A5 inp.length inp) (hlc5 : inp.length ≤ c5) (hf : ∀ r ∈ l, Fits r) :
    Calls Try.prog 3 #[.agg #[.int .i64 a0, .int .i64 a1, .int .i64 a2, .slice A l.length c, .slice A5 inp.length c5], .int .i64 most] w fun e w' => e = .returned (.bool true) ∧ Below w.heap.size w w' := by
  obtain ⟨kb, rb, hkb, hsmall⟩ := big_total a0 a1 a2 (inp := inp) hf
  obtain ⟨W, hW⟩ : ∃ W, w.alloc (Obj.cells #[.int .i64 a0, .int .i64 a1, .int .i64 a2, .slice A l.length c, .slice A5 inp.length c5] 27) = W := ⟨_, rfl⟩
  have hb0 : Below w.heap.size w W := by rw [← hW]; exact (Below.refl _ _).alloc (Nat.le_refl _) _
  have hz : w.heap.size < W.heap.size := by rw [← hW]; simp
  have hbx : W.heap[w.heap.size]? = some (.cells #[.int .i64 a0, .int .i64 a1, .int .i64 a2, .slice A l.length c, .slice A5 inp.length c5] 27 (0, 0)) := by rw [← hW]; exact heap_alloc_new _ _
  obtain ⟨k0, k1, k2, k3, k4⟩ := tape_cells7' hbx
  have HBIG := Aside0.mk (Ka.commodatumlaw20_big.calls kb a0 a1 a2 A c l A5 c5 inp rb W (Kd.C_below hr hb0) hlc (Kd.C_below h5 hb0) hlc5 hkb)
  have HW := Aside0.mk hW
  have HB0 := Aside0.mk hb0
  have HR := Aside0.mk (Kd.C_below hr hb0)
  have H5 := Aside0.mk (Kd.C_below h5 hb0)
  have HL5 := Aside0.mk hlc5
  have HX := Aside0.mk (Below.refl W.heap.size W)
  by_cases hA : rb = true
  · subst hA
    clear hr hlc h5 hlc5 hf hkb hsmall hW hb0 hbx HR H5 HL5
    go_enter Try.func3, Try.ntmps3
    go_wp2_with (first
      | (go_at_call 9; rw [HW.out]; refine HBIG.out.mono ?_; rintro e w1 ⟨rfl, hb⟩; have n0 := Aside0.mk (below_step HX.out hb); clear HX hb; have HX := n0; clear n0)
      | (go_at_call 10; refine (awake_walk _).mono ?_; rintro e w2 ⟨rfl, hb⟩; have n0 := Aside0.mk (below_step HX.out hb); clear HX hb; have HX := n0; clear n0))
    go_ret
    exact ⟨rfl, below_step HB0.out HX.out⟩
  obtain rfl : rb = false := by simpa using hA
  obtain ⟨s1, s2, s3⟩ := hsmall rfl
  obtain ⟨S0, bg, er, Q, st, sp, yes, ye, hT⟩ := runs_told a0 a1 a2 l inp most
  have HT := Aside0.mk hT
  have HS1 := Aside0.mk s1
  have HS2 := Aside0.mk s2
  have HS3 := Aside0.mk s3
  obtain ⟨kv, hkv⟩ := refValid_total (a0 := a0) (a1 := a1) (a2 := a2) s1 s3
  have HVAL : Aside0 (∀ w1, Below W.heap.size W w1 → Calls Try.prog 11 #[.agg #[.int .i64 a0, .int .i64 a1, .int .i64 a2, .slice A l.length c]] w1 fun e w' => e = .returned (.bool (validM a0 a1 a2 l)) ∧ Below w1.heap.size w1 w') := ⟨fun w1 hb => Ka.commodatumref20_Valid.calls kv a0 a1 a2 A c l (validM a0 a1 a2 l) w1 (Kd.C_below hr (below_step hb0 hb)) hlc hkv⟩
  have HINP : Aside0 (validM a0 a1 a2 l = true → ∀ w1, Below W.heap.size W w1 → Calls Try.prog 12 #[.agg #[.int .i64 a0, .int .i64 a1, .int .i64 a2, .slice A l.length c], .slice A5 inp.length c5] w1 fun e w' => e = .returned (.bool (!startBad a1 inp)) ∧ Below w1.heap.size w1 w') := ⟨fun hv w1 hb => by
    obtain ⟨ki, hki⟩ := refInput_total (a0 := a0) (a2 := a2) (l := l) (inp := inp) (by omega) (valid_a2 hv).2.1
    exact Ka.commodatumref20_Input.calls ki a0 a1 a2 A c l A5 c5 inp (!startBad a1 inp) w1 (Kd.C_below hr (below_step hb0 hb)) hlc (Kd.C_below h5 (below_step hb0 hb)) hlc5 hki⟩
  have HREF := Aside0.mk (runs_ref hT HR.out hlc H5.out hlc5 s1 s3)
  have HSTART : Aside0 (∀ (w : World) B cb D cd, Kd.C k54 w B l.length l → Kd.C (Kd.int .i64) w D inp.length inp → inp.length ≤ cd → Calls Try.prog 17 #[.agg #[.int .i64 a0, .int .i64 a1, .int .i64 a2, .slice B l.length cb], .slice D inp.length cd] w (AnsF w S0 fun v => .tuple #[v, .int .i64 bg])) := ⟨fun w B cb D cd h1 h2 h3 => (start_walkF a0 a1 a2 B cb l D cd inp w h1 h2 h3).mono (fun e w' h => by rw [hT.start] at h; exact ansF_start h)⟩
  have HRUN : Aside0 (∀ (w : World) B cb D cd, Kd.C k54 w B l.length l → Kd.C (Kd.int .i64) w D inp.length inp → inp.length ≤ cd → Calls Try.prog 19 #[.agg #[.int .i64 a0, .int .i64 a1, .int .i64 a2, .slice B l.length cb], .slice D inp.length cd, .int .i64 most] w (AnsF w Q fun v => .tuple #[v, .int .i64 st, .int .i64 er])) := ⟨fun w B cb D cd h1 h2 h3 => (Run_walkF a0 a1 a2 B cb l D cd inp most w h1 h2 h3).mono (fun e w' h => by rw [hT.run] at h; exact ansF_run h)⟩
  have HACC : Aside0 (∀ (w : World) B cb D cd, Kd.C k54 w B l.length l → Kd.C (Kd.int .i64) w D inp.length inp → inp.length ≤ cd → Calls Try.prog 20 #[.agg #[.int .i64 a0, .int .i64 a1, .int .i64 a2, .slice B l.length cb], .slice D inp.length cd, .int .i64 most] w fun e w' => e = .returned (.tuple #[.bool yes, .int .i64 ye]) ∧ Below w.heap.size w w') := ⟨fun w B cb D cd h1 h2 h3 => (Accepts_walk a0 a1 a2 B cb l D cd inp most w h1 h2 h3).mono (fun e w' h => by rw [hT.acc] at h; exact h)⟩
  have HSPC : Aside0 (∀ (w : World) B cb D cd, Kd.C k54 w B l.length l → Kd.C (Kd.int .i64) w D inp.length inp → inp.length ≤ cd → Calls Try.prog 21 #[.agg #[.int .i64 a0, .int .i64 a1, .int .i64 a2, .slice B l.length cb], .slice D inp.length cd, .int .i64 most] w fun e w' => e = .returned (.tuple #[.int .i64 sp, .int .i64 er]) ∧ Below w.heap.size w w') := ⟨fun w B cb D cd h1 h2 h3 => (Space_walk a0 a1 a2 B cb l D cd inp most w h1 h2 h3).mono (fun e w' h => by rw [hT.space] at h; exact h)⟩
  have HCOPY : Aside0 (∀ w1, Below W.heap.size W w1 → Calls Try.prog 18 #[.agg #[.int .i64 a0, .int .i64 a1, .int .i64 a2, .slice A l.length c]] w1 (CopyOut w1 a0 a1 a2 l)) := ⟨fun w1 hb => copy_walk a0 a1 a2 A c l w1 (Kd.C_below HR.out hb) (by omega) (fun r hr => by have := s3 r hr; omega)⟩
  obtain ⟨bv, hbv⟩ : ∃ b, validM a0 a1 a2 l = b := ⟨_, rfl⟩
  obtain ⟨bs, hbs⟩ : ∃ b, startBad a1 inp = b := ⟨_, rfl⟩
  have HBG1 := Aside0.mk hT.bg1
  have HBG2 := Aside0.mk hT.bg2
  have HBG0 := Aside0.mk hT.bg0
  rw [hbv] at HVAL HINP HBG1 HBG2 HBG0
  rw [hbs] at HINP HBG2 HBG0
  clear hr hlc h5 hlc5 hf hkb hsmall hW hb0 hbx hA s1 s2 s3 hkv hT hbv hbs
  go_enter Try.func3, Try.ntmps3
  go_upto_region 3 with (go_at_call 9; rw [HW.out]; refine HBIG.out.mono ?_; rintro e w1 ⟨rfl, hb⟩; have n0 := Aside0.mk (below_step HX.out hb); clear HX hb; have HX := n0; clear n0; have p0 := ((bcell HX.out).1 _ 0 hz).trans k0; have p1 := ((bcell HX.out).1 _ 1 hz).trans k1; have p2 := ((bcell HX.out).1 _ 2 hz).trans k2; have p3 := ((bcell HX.out).1 _ 3 hz).trans k3; have p4 := ((bcell HX.out).1 _ 4 hz).trans k4)
  clear HBIG
  refine start_ (n := 7) (S := fun w' => w'.cell? ⟨w.heap.size, 0, none⟩ = some (.int .i64 a0) ∧ w'.cell? ⟨w.heap.size, 1, none⟩ = some (.int .i64 a1) ∧ w'.cell? ⟨w.heap.size, 2, none⟩ = some (.int .i64 a2) ∧ w'.cell? ⟨w.heap.size, 3, none⟩ = some (.slice A l.length c) ∧ w'.cell? ⟨w.heap.size, 4, none⟩ = some (.slice A5 inp.length c5)) (ds := []) #[false, false, false, false, false, false, false] (by kernel_rfl) rfl rfl ⟨p0, p1, p2, p3, p4⟩ (fun hHeld => ?_); refine with_tabW reg3a.tab reg3a.bits (fun HT_ HW_ => ?_)
  have HDW := Aside0.mk (below_drew (Below.refl w1.heap.size w1))
  generalize w1.drew = X3 at HDW hHeld ⊢
  have HB := Aside0.mk (below_step HX.out HDW.out)
  clear HX HDW p0 p1 p2 p3 p4
  refine pure_ (i := 0) (N := some 26) (v := ?_) (a' := ?_) #[true, false, false, false, false, false, false] rfl rfl (any_of HT_.out (by kernel_rfl)) (fun _ _ _ h => h) (Or.inl ⟨by rfl, ?_⟩) ?_ ?_
  rotate_left
  · intro w'
    go_simp
    with_reducible rfl
  rotate_left
  · simp only [Act.put, List.setIfInBounds_toArray, List.set_cons_zero, List.set_cons_succ, i64_w, i32_w]
    rfl
  refine pure_ (i := 2) (N := some 28) (v := ?_) (a' := ?_) #[true, false, true, false, false, false, false] rfl rfl (any_of HT_.out (by kernel_rfl)) (fun _ _ _ h => h) (Or.inl ⟨by rfl, ?_⟩) ?_ ?_
  rotate_left
  · intro w'
    go_simp
    with_reducible rfl
  rotate_left
  · simp only [Act.put, List.setIfInBounds_toArray, List.set_cons_zero, List.set_cons_succ, i64_w, i32_w]
    rfl
  refine take_ (i := 1) (N := some 27) (v := ?_) (a' := ?_) #[true, true, true, false, false, false, false] rfl rfl (take_ofW HT_.out HW_.out (by kernel_rfl)) (fun _ _ _ h => h) (Or.inl ⟨by rfl, ?_⟩) hHeld ?_ ?_
  rotate_left
  · rintro w' ⟨s0, s1, s2, s3, s4⟩
    go_simp
    with_reducible rfl
  rotate_left
  · simp only [Act.put, List.setIfInBounds_toArray, List.set_cons_zero, List.set_cons_succ, i64_w, i32_w]
    rfl
  refine take_ (i := 3) (N := some 29) (v := ?_) (a' := ?_) #[true, true, true, true, false, false, false] rfl rfl (take_ofW HT_.out HW_.out (by kernel_rfl)) (fun _ _ _ h => h) (Or.inl ⟨by rfl, ?_⟩) hHeld ?_ ?_
  rotate_left
  · rintro w' ⟨s0, s1, s2, s3, s4⟩
    go_simp
    with_reducible rfl
  rotate_left
  · simp only [Act.put, List.setIfInBounds_toArray, List.set_cons_zero, List.set_cons_succ, i64_w, i32_w]
    rfl
  refine one_ (i := 4) (N := some 5) #[true, true, true, true, true, false, false] rfl rfl (one_of HT_.out (by kernel_rfl)) (by decide) (fun K hK => ?_)
  refine box_step ?hg (N := 5) ?hd (cs := #[.int .i64 0, .int .i64 0, .int .i64 0, .slice none 0 0]) (t := 24) ?hr ?_; (case hd => rfl); (case hg => rfl); (case hr => first | (go_simp; done) | (go_simp; rfl))
  intro gm hgm X4 hbox hb
  have HMX := Aside0.mk hbox
  have HGM : Aside0 (W.heap.size ≤ gm) := ⟨by rw [hgm]; exact HB.out.size⟩
  have HB4 := Aside0.mk (below_step HB.out hb)
  have hHeld4 := And.intro (pw_cell_below hb hHeld.1) (And.intro (pw_cell_below hb hHeld.2.1) (And.intro (pw_cell_below hb hHeld.2.2.1) (And.intro (pw_cell_below hb hHeld.2.2.2.1) (pw_cell_below hb hHeld.2.2.2.2))))
  clear hgm hbox hb HB
  refine hK.out _ _ hHeld4 (fun hHeld => ?_)
  clear hK K
  refine norm_ (a' := ?_) ?_ ?_
  rotate_left
  · show Act.put _ (some 5) _ = _
    simp only [Act.put, List.setIfInBounds_toArray, List.set_cons_zero, List.set_cons_succ, i64_w, i32_w]
    rfl
  refine one_ (i := 5) (N := none) #[true, true, true, true, true, true, false] rfl rfl (one_of HT_.out (by kernel_rfl)) (by decide) (fun K hK => ?_)
  obtain ⟨q0, q1, q2, q3⟩ := run_cells4 HMX.out
  have f0 := run_frozen HMX.out 0
  have f1 := run_frozen HMX.out 1
  have f2 := run_frozen HMX.out 2
  have f3 := run_frozen HMX.out 3
  refine skip_ (w1 := ?_) (by rfl) rfl ?_ ?_
  rotate_left
  · go_simp
    rfl
  refine hK.out _ _ (by have hb9 := (((HB4.out.setCell (p := ⟨gm, 0, none⟩) HGM.out (.int .i64 a0)).setCell (p := ⟨gm, 1, none⟩) HGM.out (.int .i64 a1)).setCell (p := ⟨gm, 2, none⟩) HGM.out (.int .i64 a2)).setCell (p := ⟨gm, 3, none⟩) HGM.out (.slice A l.length c); exact ⟨((bcell hb9).1 _ 0 hz).trans k0, ((bcell hb9).1 _ 1 hz).trans k1, ((bcell hb9).1 _ 2 hz).trans k2, ((bcell hb9).1 _ 3 hz).trans k3, ((bcell hb9).1 _ 4 hz).trans k4⟩) (fun hHeld => ?_)
  clear hK K
  refine pure_ (i := 6) (N := some 6) (v := ?_) (a' := ?_) #[true, true, true, true, true, true, true] rfl rfl (any_of HT_.out (by kernel_rfl)) (fun _ _ _ h => h) (Or.inl ⟨by rfl, ?_⟩) ?_ ?_
  rotate_left
  · intro w'
    go_simp
    with_reducible rfl
  rotate_left
  · simp only [Act.put, List.setIfInBounds_toArray, List.set_cons_zero, List.set_cons_succ, i64_w, i32_w]
    rfl
  refine done_ (done_of HT_.out (by kernel_rfl)) ?_
  obtain ⟨V3, hV3⟩ : ∃ V, (((X4.setCell ⟨gm, 0, none⟩ (.int .i64 a0)).setCell ⟨gm, 1, none⟩ (.int .i64 a1)).setCell ⟨gm, 2, none⟩ (.int .i64 a2)).setCell ⟨gm, 3, none⟩ (.slice A l.length c) = V := ⟨_, rfl⟩
  have HM3 : Aside0 (V3.heap[gm]? = some (.cells #[.int .i64 a0, .int .i64 a1, .int .i64 a2, .slice A l.length c] 24 (0, 0))) := ⟨by rw [← hV3]; exact set4s HMX.out _ _ _ _⟩
  have HB3 : Aside0 (Below W.heap.size W V3) := ⟨by rw [← hV3]; exact (((HB4.out.setCell (p := ⟨gm, 0, none⟩) HGM.out (.int .i64 a0)).setCell (p := ⟨gm, 1, none⟩) HGM.out (.int .i64 a1)).setCell (p := ⟨gm, 2, none⟩) HGM.out (.int .i64 a2)).setCell (p := ⟨gm, 3, none⟩) HGM.out (.slice A l.length c)⟩
  try rw [hV3]
  clear hV3 HMX HB4 q0 q1 q2 q3 f0 f1 f2 f3 HT_ HW_ k0 k1 k2 k3 k4
  have hgm3 := (Array.getElem?_eq_some_iff.1 HM3.out).1
  go_upto_block 0 with fail
  try rw [hV3]
  obtain ⟨V4, hV4⟩ : ∃ V, V3.alloc (Obj.cells #[Value.int .i64 0, .slice none 0 0, .slice none 0 0] 32) = V := ⟨_, rfl⟩
  obtain ⟨gs, hgs⟩ : ∃ g, V3.heap.size = g := ⟨_, rfl⟩
  have HG4 : Aside0 (V4.heap[gs]? = some (.cells #[.int .i64 0, .slice none 0 0, .slice none 0 0] 32 (0, 0))) := ⟨by rw [← hV4, ← hgs]; exact heap_alloc_new _ _⟩
  have HB4 : Aside0 (Below V3.heap.size V3 V4) := ⟨by rw [← hV4]; exact (Below.refl _ _).alloc (Nat.le_refl _) _⟩
  have HGS : Aside0 (V3.heap.size ≤ gs) := ⟨by omega⟩
  rw [hV4, hgs]
  clear hV4 hgs
  go_cut [8] from 23 (fun v8 wc => ∃ X1 e1 X2 e2, v8 = .int .i64 bg ∧ Aside0 (VarAt wc gs S0 (X1, e1) (X2, e2)) ∧ Aside0 (Below V3.heap.size V3 wc))
  case first =>
    obtain ⟨m0, m1, m2, m3⟩ := run_cells4 (heap_keep HM3.out HB4.out)
    cases bv with
    | false =>
      obtain ⟨hb1, hb2⟩ := HBG1.out rfl
      go_wp2_with (go_at_call 11; refine (HVAL.out _ (below_step HB3.out HB4.out)).mono ?_; rintro e w4 ⟨rfl, hb⟩; have n0 := Aside0.mk (below_step HB4.out hb); have ng := Aside0.mk (heap_keep HG4.out hb); clear HB4 HG4 hb; have HB4 := n0; have HG4 := ng; clear n0 ng)
      go_meet
      case rel => exact ⟨none, 0, none, 0, by rw [hb1], ⟨by rw [hb2]; exact ⟨HG4.out, scene_zero _⟩⟩, HB4⟩
    | true =>
      cases bs with
      | true =>
        obtain ⟨hb1, hb2⟩ := HBG2.out rfl rfl
        have HIN := Aside0.mk (HINP.out rfl)
        go_wp2_with (first
          | (go_at_call 11; refine (HVAL.out _ (below_step HB3.out HB4.out)).mono ?_; rintro e w4 ⟨rfl, hb⟩; have n0 := Aside0.mk (below_step HB4.out hb); have ng := Aside0.mk (heap_keep HG4.out hb); clear HB4 HG4 hb; have HB4 := n0; have HG4 := ng; clear n0 ng; clear m0 m1 m2 m3; obtain ⟨m0, m1, m2, m3⟩ := run_cells4 (heap_keep HM3.out HB4.out))
          | (go_at_call 12; refine (HIN.out _ (below_step HB3.out HB4.out)).mono ?_; rintro e w5 ⟨rfl, hb⟩; have n0 := Aside0.mk (below_step HB4.out hb); have ng := Aside0.mk (heap_keep HG4.out hb); clear HB4 HG4 hb; have HB4 := n0; have HG4 := ng; clear n0 ng))
        go_meet
        case rel => exact ⟨none, 0, none, 0, by rw [hb1], ⟨by rw [hb2]; exact ⟨HG4.out, scene_zero _⟩⟩, HB4⟩
      | false =>
        have hb1 := (HBG0.out rfl rfl).1
        have HIN := Aside0.mk (HINP.out rfl)
        have H13 := Aside0.mk (HREF.out hb1).1
        subst hb1
        go_wp2_with (first
          | (go_at_call 11; refine (HVAL.out _ (below_step HB3.out HB4.out)).mono ?_; rintro e w4 ⟨rfl, hb⟩; have n0 := Aside0.mk (below_step HB4.out hb); have ng := Aside0.mk (heap_keep HG4.out hb); clear HB4 HG4 hb; have HB4 := n0; have HG4 := ng; clear n0 ng; clear m0 m1 m2 m3; obtain ⟨m0, m1, m2, m3⟩ := run_cells4 (heap_keep HM3.out HB4.out))
          | (go_at_call 12; refine (HIN.out _ (below_step HB3.out HB4.out)).mono ?_; rintro e w5 ⟨rfl, hb⟩; have n0 := Aside0.mk (below_step HB4.out hb); have ng := Aside0.mk (heap_keep HG4.out hb); clear HB4 HG4 hb; have HB4 := n0; have HG4 := ng; clear n0 ng; clear m0 m1 m2 m3; obtain ⟨m0, m1, m2, m3⟩ := run_cells4 (heap_keep HM3.out HB4.out))
          | (go_at_call 13; refine (H13.out _ (below_step HB3.out HB4.out)).mono ?_; rintro e w6 ⟨v, rfl, hv, hb⟩; have HGL : Aside0 (gs < w5.heap.size) := ⟨(Array.getElem?_eq_some_iff.1 HG4.out).1⟩; have n0 := Aside0.mk (below_step HB4.out hb); have ng := Aside0.mk (heap_keep HG4.out hb); clear HB4 HG4 hb; have HB4 := n0; have HG4 := ng; clear n0 ng; have HFT := Aside0.mk hv; obtain ⟨X1, e1, X2, e2, hve, -⟩ := hv.now; subst hve; clear hv; obtain ⟨o0, o1, o2⟩ := trio_cells HG4.out; have z0 := run_frozen HG4.out 0; have z1 := run_frozen HG4.out 1; have z2 := run_frozen HG4.out 2))
        go_meet
        case rel => exact ⟨X1, e1, X2, e2, rfl, ⟨set3s HG4.out _ _ _, (HFT.out.set (grown3 w6 gs _ _ _) (.inl HGL.out)).now⟩, ⟨((HB4.out.setCell (p := ⟨gs, 0, none⟩) HGS.out _).setCell (p := ⟨gs, 1, none⟩) HGS.out _).setCell (p := ⟨gs, 2, none⟩) HGS.out _⟩⟩
  case rest =>
    clear HB4 HG4 HVAL HINP HBG0 HBG1 HBG2
    obtain ⟨X1, e1, X2, e2, rfl, HV5, HB5⟩ := hcut
    obtain ⟨w5, rfl⟩ : ∃ w5, w5 = wc := ⟨_, rfl⟩
    have HM5 : Aside0 (w5.heap[gm]? = some (.cells #[.int .i64 a0, .int .i64 a1, .int .i64 a2, .slice A l.length c] 24 (0, 0))) := ⟨heap_keep HM3.out HB5.out⟩
    have HBW5 := Aside0.mk (below_step HB3.out HB5.out)
    clear HM3 HB3 HB5 hgm3 HGS
    go_upto_if 47 with fail
    obtain ⟨V6, hV6⟩ : ∃ V, w5.alloc (Obj.cells #[Value.int .i64 0, .slice none 0 0, .slice none 0 0] 32) = V := ⟨_, rfl⟩
    obtain ⟨gw, hgw⟩ : ∃ g, w5.heap.size = g := ⟨_, rfl⟩
    have HG6 : Aside0 (V6.heap[gw]? = some (.cells #[.int .i64 0, .slice none 0 0, .slice none 0 0] 32 (0, 0))) := ⟨by rw [← hV6, ← hgw]; exact heap_alloc_new _ _⟩
    have HB6 : Aside0 (Below w5.heap.size w5 V6) := ⟨by rw [← hV6]; exact (Below.refl _ _).alloc (Nat.le_refl _) _⟩
    have HGW : Aside0 (w5.heap.size ≤ gw) := ⟨by omega⟩
    rw [hV6, hgw]
    clear hV6 hgw
    go_cut [9, 10, 12, 13] from 23 (fun v9 v10 v12 v13 wc => ∃ Y1 y1 Y2 y2, v9 = .int .i64 er ∧ v10 = .int .i64 ye ∧ v12 = .int .i64 st ∧ v13 = .int .i64 sp ∧ Aside0 (VarAt wc gw Q (Y1, y1) (Y2, y2)) ∧ Aside0 (Below w5.heap.size w5 wc))
    case first =>
      obtain ⟨m0, m1, m2, m3⟩ := run_cells4 (heap_keep HM5.out HB6.out)
      by_cases hb : bg = 0
      · have HRF := Aside0.mk (HREF.out hb).2
        have he2 := HT.out.er2 hb
        have he0 := HT.out.er0 hb
        have hbad := HT.out.bad
        subst hb
        by_cases hm0 : most < 0
        · have d1 : decide (most < 0) = true := decide_eq_true hm0
          have her := he2 (.inl hm0)
          obtain ⟨h1, h2, h3, h4⟩ := hbad (by rw [her]; decide)
          have HE : Aside0 (er = 2 ∧ Q = ⟨0, [], []⟩ ∧ st = 0 ∧ sp = 0 ∧ ye = 2) := ⟨her, h1, h2, h3, h4.trans her⟩
          clear he2 he0 hbad hm0 her h1 h2 h3 h4
          go_wp2_with fail
          go_meet
          case rel =>
            obtain ⟨h0, h1, h2, h3, h4⟩ := HE.out
            exact ⟨none, 0, none, 0, by rw [h0], by rw [h4], by rw [h2]; rfl, by rw [h3], ⟨by rw [h1]; exact ⟨HG6.out, scene_zero _⟩⟩, HB6⟩
        have d1 : decide (most < 0) = false := decide_eq_false hm0
        by_cases hm1 : 20000 < most
        · have d2 : decide (20000 < most) = true := decide_eq_true hm1
          have her := he2 (.inr hm1)
          obtain ⟨h1, h2, h3, h4⟩ := hbad (by rw [her]; decide)
          have HE : Aside0 (er = 2 ∧ Q = ⟨0, [], []⟩ ∧ st = 0 ∧ sp = 0 ∧ ye = 2) := ⟨her, h1, h2, h3, h4.trans her⟩
          clear he2 he0 hbad hm0 hm1 her h1 h2 h3 h4
          go_wp2_with fail
          go_meet
          case rel =>
            obtain ⟨h0, h1, h2, h3, h4⟩ := HE.out
            exact ⟨none, 0, none, 0, by rw [h0], by rw [h4], by rw [h2]; rfl, by rw [h3], ⟨by rw [h1]; exact ⟨HG6.out, scene_zero _⟩⟩, HB6⟩
        have d2 : decide (20000 < most) = false := decide_eq_false hm1
        have her := he0 (by omega) (by omega)
        obtain ⟨h15, vf, hye, h16⟩ := HRF.out her (by omega) (by omega)
        have H15 := Aside0.mk h15
        have H16 := Aside0.mk h16
        have HYE := Aside0.mk hye
        have HER := Aside0.mk her
        have HCH : Aside0 (∀ w1, Calls Try.prog 14 #[.int .i64 most] w1 fun e w' => e = .returned (.bool true) ∧ Drawn0 w1 w') := ⟨fun w1 => Ka.commodatumlaw20_cheap.calls most true w1 (by unfold commodatumlaw20_cheap.f; rw [decide_eq_true (by omega)])⟩
        clear he2 he0 hbad hm0 hm1 her h15 hye h16
        go_upto_region 18 with (first
          | (go_at_call 14; refine (HCH.out _).mono ?_; rintro e w7 ⟨rfl, nd, hnd⟩; have hb : Below V6.heap.size V6 w7 := (by rw [hnd]; exact pw_below_drewN (Below.refl _ _) nd); clear hnd; have n0 := Aside0.mk (below_step HB6.out hb); have ng := Aside0.mk (heap_keep HG6.out hb); clear HB6 HG6 hb; have HB6 := n0; have HG6 := ng; clear n0 ng; clear m0 m1 m2 m3; obtain ⟨m0, m1, m2, m3⟩ := run_cells4 (heap_keep HM5.out HB6.out))
          | (go_at_call 15; refine (H15.out _ (below_step HBW5.out HB6.out)).mono ?_; rintro e w8 ⟨v, rfl, hv, hb⟩; have HGL : Aside0 (gw < w7.heap.size) := ⟨(Array.getElem?_eq_some_iff.1 HG6.out).1⟩; have n0 := Aside0.mk (below_step HB6.out hb); have ng := Aside0.mk (heap_keep HG6.out hb); clear HB6 HG6 hb; have HB6 := n0; have HG6 := ng; clear n0 ng; have HFT := Aside0.mk hv; obtain ⟨Y1, y1, Y2, y2, hve, -⟩ := hv.now; subst hve; clear hv; obtain ⟨o0, o1, o2⟩ := trio_cells HG6.out; have z0 := run_frozen HG6.out 0; have z1 := run_frozen HG6.out 1; have z2 := run_frozen HG6.out 2))
        obtain ⟨V8, hV8⟩ : ∃ V, ((w8.setCell ⟨gw, 0, none⟩ (.int .i64 Q.s)).setCell ⟨gw, 1, none⟩ (.slice Y1 Q.at_.length y1)).setCell ⟨gw, 2, none⟩ (.slice Y2 Q.tp.length y2) = V := ⟨_, rfl⟩
        have HVQ : Aside0 (VarAt V8 gw Q (Y1, y1) (Y2, y2)) := ⟨by rw [← hV8]; exact ⟨set3s HG6.out _ _ _, (HFT.out.set (grown3 w8 gw _ _ _) (.inl HGL.out)).now⟩⟩
        have HB8 : Aside0 (Below w5.heap.size w5 V8) := ⟨by rw [← hV8]; exact ((HB6.out.setCell (p := ⟨gw, 0, none⟩) HGW.out _).setCell (p := ⟨gw, 1, none⟩) HGW.out _).setCell (p := ⟨gw, 2, none⟩) HGW.out _⟩
        rw [hV8]
        clear hV8 HB6 HG6 HFT HGL o0 o1 o2 z0 z1 z2 m0 m1 m2 m3
        obtain ⟨m0, m1, m2, m3⟩ := run_cells4 (heap_keep HM5.out HB8.out)
        obtain ⟨o0, o1, o2⟩ := trio_cells HVQ.out.1
        have H18 := Aside0.mk (H16.out V8 Y1 y1 Y2 y2 (below_step HBW5.out HB8.out) HVQ.out.2)
        cases vf with
        | true =>
          go_wp2_with (go_at_call 16; refine H18.out.mono ?_; rintro e w9 ⟨rfl, hb⟩; have n0 := Aside0.mk (below_step HB8.out hb); have ng := Aside0.mk (HVQ.out.keep hb); clear HB8 HVQ hb; have HB8 := n0; have HVQ := ng; clear n0 ng)
          go_meet
          case rel => exact ⟨Y1, y1, Y2, y2, by rw [HER.out], by rw [HYE.out]; rfl, rfl, rfl, HVQ, HB8⟩
        | false =>
          go_wp2_with (go_at_call 16; refine H18.out.mono ?_; rintro e w9 ⟨rfl, hb⟩; have n0 := Aside0.mk (below_step HB8.out hb); have ng := Aside0.mk (HVQ.out.keep hb); clear HB8 HVQ hb; have HB8 := n0; have HVQ := ng; clear n0 ng)
          go_meet
          case rel => exact ⟨Y1, y1, Y2, y2, by rw [HER.out], by rw [HYE.out]; rfl, rfl, rfl, HVQ, HB8⟩
      · have d0 : (bg == 0) = false := by simpa using hb
        have her := HT.out.erb hb
        obtain ⟨h1, h2, h3, h4⟩ := HT.out.bad (by rw [her]; exact hb)
        have HE : Aside0 (er = bg ∧ Q = ⟨0, [], []⟩ ∧ st = 0 ∧ sp = 0 ∧ ye = bg) := ⟨her, h1, h2, h3, h4.trans her⟩
        clear hb her h1 h2 h3 h4
        go_wp2_with fail
        go_meet
        case rel =>
          obtain ⟨h0, h1, h2, h3, h4⟩ := HE.out
          exact ⟨none, 0, none, 0, by rw [h0], by rw [h4], by rw [h2]; rfl, by rw [h3], ⟨by rw [h1]; exact ⟨HG6.out, scene_zero _⟩⟩, HB6⟩
    case rest =>
      clear HB6 HG6 HREF
      obtain ⟨Y1, y1, Y2, y2, rfl, rfl, rfl, rfl, HVQ, HB6⟩ := hcut
      obtain ⟨w6, rfl⟩ : ∃ w6, w6 = wc := ⟨_, rfl⟩
      have HM6 : Aside0 (w6.heap[gm]? = some (.cells #[.int .i64 a0, .int .i64 a1, .int .i64 a2, .slice A l.length c] 24 (0, 0))) := ⟨heap_keep HM5.out HB6.out⟩
      have HVS : Aside0 (VarAt w6 gs S0 (X1, e1) (X2, e2)) := ⟨HV5.out.keep HB6.out⟩
      have HBW := Aside0.mk (below_step HBW5.out HB6.out)
      clear HV5 HM5 HBW5 HB6 HGW
      obtain ⟨m0, m1, m2, m3⟩ := run_cells4 HM6.out
      obtain ⟨m0, m1, m2, m3⟩ := run_cells4 HM6.out
      go_upto_region 21 with (first
        | (go_at_call 18; refine (HCOPY.out _ HBW.out).mono ?_; rintro e w20a ⟨B1, b1, rfl, hl, hC, hb⟩; have HC1 := Aside0.mk hC; have HBa := Aside0.mk hb; clear hl hC hb)
        | ((with_reducible refine gate_dst (N := 75) rfl ?_); refine app_event (base := w20a.heap.size) (g := w20a.heap.size) (A := A5) (l := inp) (c := c5) ?hg (.tmp 73) (.tmp 74) ?ho ?hs ?hx (own_build0 w20a (Nat.le_refl _)) (by simp) (Kd.C_below H5.out (below_step HBW.out (HBa.out.trans (((Below.refl _ _).alloc (Nat.le_refl _) _).mono HBa.out.size)))) (by have := HS2.out; omega) ?_; (case hg => rfl); (case ho => rfl); (case hs => rfl); (case hx => rfl); intro D1 d1 w20b hD hDl hb; have HD1 := Aside0.mk hD; have HDL := Aside0.mk hDl; have HBab : Aside0 (Below w20a.heap.size w20a w20b) := ⟨((Below.refl _ _).alloc (Nat.le_refl _) _).trans (hb.mono (by simp))⟩; clear hD hDl hb)
        | (go_at_call 17; refine (HSTART.out w20b B1 b1 D1 d1 (Kd.C_below HC1.out HBab.out) HD1.out HDL.out).mono ?_; rintro e w20c ⟨v, rfl, hv, hb⟩; have HFT := Aside0.mk hv; have HBb := Aside0.mk hb; obtain ⟨Z1, z1, Z2, z2, hve, -⟩ := hv.now; subst hve; clear hv hb))
      have HBk : Aside0 (Below w6.heap.size w6 w20c) := ⟨HBa.out.trans ((HBab.out.trans (HBb.out.mono HBab.out.size)).mono HBa.out.size)⟩
      obtain ⟨V20, hV20⟩ : ∃ V, w20c.alloc (Obj.cells #[.int .i64 S0.s, .slice Z1 S0.at_.length z1, .slice Z2 S0.tp.length z2] 32) = V := ⟨_, rfl⟩
      obtain ⟨ga, hga⟩ : ∃ g, w20c.heap.size = g := ⟨_, rfl⟩
      have hbv : Below w20c.heap.size w20c V20 := by rw [← hV20]; exact (Below.refl _ _).alloc (Nat.le_refl _) _
      have HV20 : Aside0 (VarAt V20 ga S0 (Z1, z1) (Z2, z2)) := ⟨by rw [← hV20, ← hga]; exact ⟨heap_alloc_new _ _, SceneV_below HFT.out.now ((Below.refl _ _).alloc (Nat.le_refl _) _)⟩⟩
      have HBk2 := Aside0.mk (HBk.out.trans (hbv.mono HBk.out.size))
      rw [hV20, hga]
      clear hV20 hga hbv HBk HFT
      have HBk := HBk2
      clear HBk2
      have HM9 := Aside0.mk (heap_keep HM6.out HBk.out)
      have HBW9 := Aside0.mk (below_step HBW.out HBk.out)
      have HVS9 := Aside0.mk (HVS.out.keep HBk.out)
      have HVQ9 := Aside0.mk (HVQ.out.keep HBk.out)
      clear HM6 HBW HBk HBa HBab HBb HC1 HD1 HDL m0 m1 m2 m3 HVS HVQ
      have HM6 := HM9
      have HBW := HBW9
      have HVS := HVS9
      have HVQ := HVQ9
      clear HM9 HBW9 HVS9 HVQ9
      obtain ⟨m0, m1, m2, m3⟩ := run_cells4 HM6.out
      go_upto_region 22 with (first
        | (go_at_call 18; refine (HCOPY.out _ HBW.out).mono ?_; rintro e w21a ⟨B1, b1, rfl, hl, hC, hb⟩; have HC1 := Aside0.mk hC; have HBa := Aside0.mk hb; clear hl hC hb)
        | ((with_reducible refine gate_dst (N := 84) rfl ?_); refine app_event (base := w21a.heap.size) (g := w21a.heap.size) (A := A5) (l := inp) (c := c5) ?hg (.tmp 82) (.tmp 83) ?ho ?hs ?hx (own_build0 w21a (Nat.le_refl _)) (by simp) (Kd.C_below H5.out (below_step HBW.out (HBa.out.trans (((Below.refl _ _).alloc (Nat.le_refl _) _).mono HBa.out.size)))) (by have := HS2.out; omega) ?_; (case hg => rfl); (case ho => rfl); (case hs => rfl); (case hx => rfl); intro D1 d1 w21b hD hDl hb; have HD1 := Aside0.mk hD; have HDL := Aside0.mk hDl; have HBab : Aside0 (Below w21a.heap.size w21a w21b) := ⟨((Below.refl _ _).alloc (Nat.le_refl _) _).trans (hb.mono (by simp))⟩; clear hD hDl hb)
        | (go_at_call 19; refine (HRUN.out w21b B1 b1 D1 d1 (Kd.C_below HC1.out HBab.out) HD1.out HDL.out).mono ?_; rintro e w21c ⟨v, rfl, hv, hb⟩; have HFT := Aside0.mk hv; have HBb := Aside0.mk hb; obtain ⟨Z1, z1, Z2, z2, hve, -⟩ := hv.now; subst hve; clear hv hb))
      have HBk : Aside0 (Below V20.heap.size V20 w21c) := ⟨HBa.out.trans ((HBab.out.trans (HBb.out.mono HBab.out.size)).mono HBa.out.size)⟩
      obtain ⟨V21, hV21⟩ : ∃ V, w21c.alloc (Obj.cells #[.int .i64 Q.s, .slice Z1 Q.at_.length z1, .slice Z2 Q.tp.length z2] 32) = V := ⟨_, rfl⟩
      obtain ⟨gb, hgb⟩ : ∃ g, w21c.heap.size = g := ⟨_, rfl⟩
      have hbv : Below w21c.heap.size w21c V21 := by rw [← hV21]; exact (Below.refl _ _).alloc (Nat.le_refl _) _
      have HV21 : Aside0 (VarAt V21 gb Q (Z1, z1) (Z2, z2)) := ⟨by rw [← hV21, ← hgb]; exact ⟨heap_alloc_new _ _, SceneV_below HFT.out.now ((Below.refl _ _).alloc (Nat.le_refl _) _)⟩⟩
      have HBk2 := Aside0.mk (HBk.out.trans (hbv.mono HBk.out.size))
      rw [hV21, hgb]
      clear hV21 hgb hbv HBk HFT
      have HBk := HBk2
      clear HBk2
      have HM9 := Aside0.mk (heap_keep HM6.out HBk.out)
      have HBW9 := Aside0.mk (below_step HBW.out HBk.out)
      have HVS9 := Aside0.mk (HVS.out.keep HBk.out)
      have HVQ9 := Aside0.mk (HVQ.out.keep HBk.out)
      have HV209 := Aside0.mk (HV20.out.keep HBk.out)
      clear HM6 HBW HBk HBa HBab HBb HC1 HD1 HDL m0 m1 m2 m3 HVS HVQ HV20
      have HM6 := HM9
      have HBW := HBW9
      have HVS := HVS9
      have HVQ := HVQ9
      have HV20 := HV209
      clear HM9 HBW9 HVS9 HVQ9 HV209
      obtain ⟨m0, m1, m2, m3⟩ := run_cells4 HM6.out
      go_upto_region 23 with (first
        | (go_at_call 18; refine (HCOPY.out _ HBW.out).mono ?_; rintro e w22a ⟨B1, b1, rfl, hl, hC, hb⟩; have HC1 := Aside0.mk hC; have HBa := Aside0.mk hb; clear hl hC hb)
        | ((with_reducible refine gate_dst (N := 95) rfl ?_); refine app_event (base := w22a.heap.size) (g := w22a.heap.size) (A := A5) (l := inp) (c := c5) ?hg (.tmp 93) (.tmp 94) ?ho ?hs ?hx (own_build0 w22a (Nat.le_refl _)) (by simp) (Kd.C_below H5.out (below_step HBW.out (HBa.out.trans (((Below.refl _ _).alloc (Nat.le_refl _) _).mono HBa.out.size)))) (by have := HS2.out; omega) ?_; (case hg => rfl); (case ho => rfl); (case hs => rfl); (case hx => rfl); intro D1 d1 w22b hD hDl hb; have HD1 := Aside0.mk hD; have HDL := Aside0.mk hDl; have HBab : Aside0 (Below w22a.heap.size w22a w22b) := ⟨((Below.refl _ _).alloc (Nat.le_refl _) _).trans (hb.mono (by simp))⟩; clear hD hDl hb)
        | (go_at_call 20; refine (HACC.out w22b B1 b1 D1 d1 (Kd.C_below HC1.out HBab.out) HD1.out HDL.out).mono ?_; rintro e w22c ⟨rfl, hb⟩; have HBb := Aside0.mk hb; clear hb))
      have HBk : Aside0 (Below V21.heap.size V21 w22c) := ⟨HBa.out.trans ((HBab.out.trans (HBb.out.mono HBab.out.size)).mono HBa.out.size)⟩
      have HM9 := Aside0.mk (heap_keep HM6.out HBk.out)
      have HBW9 := Aside0.mk (below_step HBW.out HBk.out)
      have HVS9 := Aside0.mk (HVS.out.keep HBk.out)
      have HVQ9 := Aside0.mk (HVQ.out.keep HBk.out)
      have HV209 := Aside0.mk (HV20.out.keep HBk.out)
      have HV219 := Aside0.mk (HV21.out.keep HBk.out)
      clear HM6 HBW HBk HBa HBab HBb HC1 HD1 HDL m0 m1 m2 m3 HVS HVQ HV20 HV21
      have HM6 := HM9
      have HBW := HBW9
      have HVS := HVS9
      have HVQ := HVQ9
      have HV20 := HV209
      have HV21 := HV219
      clear HM9 HBW9 HVS9 HVQ9 HV209 HV219
      obtain ⟨m0, m1, m2, m3⟩ := run_cells4 HM6.out
      go_upto_region 24 with (first
        | (go_at_call 18; refine (HCOPY.out _ HBW.out).mono ?_; rintro e w23a ⟨B1, b1, rfl, hl, hC, hb⟩; have HC1 := Aside0.mk hC; have HBa := Aside0.mk hb; clear hl hC hb)
        | ((with_reducible refine gate_dst (N := 105) rfl ?_); refine app_event (base := w23a.heap.size) (g := w23a.heap.size) (A := A5) (l := inp) (c := c5) ?hg (.tmp 103) (.tmp 104) ?ho ?hs ?hx (own_build0 w23a (Nat.le_refl _)) (by simp) (Kd.C_below H5.out (below_step HBW.out (HBa.out.trans (((Below.refl _ _).alloc (Nat.le_refl _) _).mono HBa.out.size)))) (by have := HS2.out; omega) ?_; (case hg => rfl); (case ho => rfl); (case hs => rfl); (case hx => rfl); intro D1 d1 w23b hD hDl hb; have HD1 := Aside0.mk hD; have HDL := Aside0.mk hDl; have HBab : Aside0 (Below w23a.heap.size w23a w23b) := ⟨((Below.refl _ _).alloc (Nat.le_refl _) _).trans (hb.mono (by simp))⟩; clear hD hDl hb)
        | (go_at_call 21; refine (HSPC.out w23b B1 b1 D1 d1 (Kd.C_below HC1.out HBab.out) HD1.out HDL.out).mono ?_; rintro e w23c ⟨rfl, hb⟩; have HBb := Aside0.mk hb; clear hb))
      have HBk : Aside0 (Below w22c.heap.size w22c w23c) := ⟨HBa.out.trans ((HBab.out.trans (HBb.out.mono HBab.out.size)).mono HBa.out.size)⟩
      have HM9 := Aside0.mk (heap_keep HM6.out HBk.out)
      have HBW9 := Aside0.mk (below_step HBW.out HBk.out)
      have HVS9 := Aside0.mk (HVS.out.keep HBk.out)
      have HVQ9 := Aside0.mk (HVQ.out.keep HBk.out)
      have HV209 := Aside0.mk (HV20.out.keep HBk.out)
      have HV219 := Aside0.mk (HV21.out.keep HBk.out)
      clear HM6 HBW HBk HBa HBab HBb HC1 HD1 HDL m0 m1 m2 m3 HVS HVQ HV20 HV21
      have HM6 := HM9
      have HBW := HBW9
      have HVS := HVS9
      have HVQ := HVQ9
      have HV20 := HV209
      have HV21 := HV219
      clear HM9 HBW9 HVS9 HVQ9 HV209 HV219
      clear HM6 HCOPY HSTART HRUN HACC HSPC
      have hyes := HT.out.yesE
      have HSM1 := Aside0.mk (same_C HV20.out.2 HVS.out.2)
      obtain ⟨n0, n1, n2⟩ := trio_cells HV20.out.1
      obtain ⟨r0, r1, r2⟩ := trio_cells HVS.out.1
      by_cases hy : ye = 0
      · have hyy : (yes == (Q.s == 1)) = true := by
          have e9 : (Q.s == 1) = decide (Q.s = 1) := rfl
          rw [e9, hyes, decide_eq_true hy, Bool.true_and]
          exact beq_self_eq_true _
        have d9 : (ye == 0) = true := by simpa using hy
        have d8 : (ye == ye) = true := by simp
        clear hyes hy HT
        go_wp2_with (first
          | (go_at_call 22; refine HSM1.out.mono ?_; rintro e w30 ⟨rfl, hb⟩; have n9 := Aside0.mk (below_step HBW.out hb); have nA := Aside0.mk (HV21.out.keep hb); have nB := Aside0.mk (HVQ.out.keep hb); clear HBW HV21 HVQ HSM1 hb n0 n1 n2 r0 r1 r2; have HBW := n9; have HV21 := nA; have HVQ := nB; clear n9 nA nB; have HSM2 := Aside0.mk (same_C HV21.out.2 HVQ.out.2); obtain ⟨n0, n1, n2⟩ := trio_cells HV21.out.1; obtain ⟨r0, r1, r2⟩ := trio_cells HVQ.out.1)
          | (go_at_call 22; refine HSM2.out.mono ?_; rintro e w31 ⟨rfl, hb⟩; have n9 := Aside0.mk (below_step HBW.out hb); have nB := Aside0.mk (HVQ.out.keep hb); clear HBW HVQ HSM2 hb n0 n1 n2 r0 r1 r2; have HBW := n9; have HVQ := nB; clear n9 nB; obtain ⟨r0, r1, r2⟩ := trio_cells HVQ.out.1)
          | (go_at_call 10; refine (awake_walk _).mono ?_; rintro e w32 ⟨rfl, hb⟩; have n9 := Aside0.mk (below_step HBW.out hb); clear HBW hb; have HBW := n9; clear n9))
        go_ret
        exact ⟨rfl, below_step HB0.out HBW.out⟩
      · have d9 : (ye == 0) = false := by simpa using hy
        have hyf : yes = false := by rw [hyes, decide_eq_false hy]; rfl
        subst hyf
        clear hyes hy HT
        go_wp2_with (first
          | (go_at_call 22; refine HSM1.out.mono ?_; rintro e w30 ⟨rfl, hb⟩; have n9 := Aside0.mk (below_step HBW.out hb); have nA := Aside0.mk (HV21.out.keep hb); have nB := Aside0.mk (HVQ.out.keep hb); clear HBW HV21 HVQ HSM1 hb n0 n1 n2 r0 r1 r2; have HBW := n9; have HV21 := nA; have HVQ := nB; clear n9 nA nB; have HSM2 := Aside0.mk (same_C HV21.out.2 HVQ.out.2); obtain ⟨n0, n1, n2⟩ := trio_cells HV21.out.1; obtain ⟨r0, r1, r2⟩ := trio_cells HVQ.out.1)
          | (go_at_call 22; refine HSM2.out.mono ?_; rintro e w31 ⟨rfl, hb⟩; have n9 := Aside0.mk (below_step HBW.out hb); have nB := Aside0.mk (HVQ.out.keep hb); clear HBW HVQ HSM2 hb n0 n1 n2 r0 r1 r2; have HBW := n9; have HVQ := nB; clear n9 nB; obtain ⟨r0, r1, r2⟩ := trio_cells HVQ.out.1)
          | (go_at_call 10; refine (awake_walk _).mono ?_; rintro e w32 ⟨rfl, hb⟩; have n9 := Aside0.mk (below_step HBW.out hb); clear HBW hb; have HBW := n9; clear n9))
        go_ret
        exact ⟨rfl, below_step HB0.out HBW.out⟩
end Go.Proofs.Ytfoodfhhdbaieaa.Giv
