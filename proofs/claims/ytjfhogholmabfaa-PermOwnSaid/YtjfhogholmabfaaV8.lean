-- CUT by a program of this session: what the claim does not use is left out
import Derived.Test.YtjfhogholmabfaaV7
namespace Go.Proofs.Ytjfhogholmabfaa.Giv
set_option linter.unusedVariables false
set_option linter.unusedSimpArgs false
open Go.RowKit Go.Shelf Go.Proofs.YtjfhogholmabfaaW.PrintWords Go.Proofs.YtjfhogholmabfaaW.PrintLast Go.Proofs.YtjfhogholmabfaaW.PrintMore
attribute [local go_sem] Oper.semAt_some

theorem cyc_count (p : List Int) : ∀ d i vis, (cycS p d i vis).length ≤ d
  | 0, _, _ => Nat.le_refl _
  | d + 1, i, vis => by
    have := cyc_count p d (i + 1) (vis ++ orbL p 8 i vis)
    unfold cycS
    rw [List.length_append]
    split <;> simp only [List.length_cons, List.length_nil] <;> omega
theorem info22 : (Try.prog.info? 22).map (fun i => (i.zero, i.size, i.bytes)) = some (some (.slice none 0 0), 1, 24) := by kernel_rfl
theorem wpListIn_R_append {α : Type} (d : Kd α) {F : Fence} {n : Nat} {P : Program} (W : World) {ops : Array Oper} {rest : List Oper} {o : Oper} {a : Act} {Q : Exit → Act → World → Prop} (base : Nat)
    (hgd : o.guard = none) (s x : Operand) (t e : TypeId) (z : Value) (bytes : Nat) (hop : o.op = Op.call { callee := Callee.builtin Builtin.append, args := #[s, x], argTypes := #[t, t] })
    (ht : P.underlying t = some (.slice e)) (hinfo : (P.info? e).map (fun i => (i.zero, i.size, i.bytes)) = some (some z, d.sz, bytes)) (hz : z.cells.size = d.sz) (hs0 : 0 < d.sz)
    (v : Value) (xs : List α) (p : α) (cs : List Value) (ok okp : Nat → Prop) (hs : a.eval s = v) (hx : a.eval x = .slice (some ⟨W.heap.size, 0, none⟩) 1 1) (hp : d.M W base okp p cs) (hokp : ∀ k, okp k → ok k ∧ some k ≠ v.ownBlock) (hfresh : ∀ k, W.heap.size ≤ k → ok k)
    (HO : d.R e W base ok v xs) (hbase : base ≤ W.heap.size) (hl : (xs.length + 1) * bytes ≤ 140737488355328) (hlm : xs.length + 1 ≤ maxLen)
    (h : ∀ v1 w1, d.R e w1 base ok v1 (xs ++ [p]) → W.grownBy w1 v.ownBlock → wpListIn F n P ops Q rest (a.put o.dst v1) w1) :
    wpListIn F n P ops Q (o :: rest) a (W.alloc (.cells cs.toArray e)) := by
  obtain ⟨h0, inner, hown, hr⟩ := HO
  obtain ⟨i, hi, hzz⟩ := Option.map_eq_some_iff.1 hinfo
  obtain ⟨h3, h4, h5⟩ : i.zero = some z ∧ i.size = d.sz ∧ i.bytes = bytes := by
    injection hzz with e1 e2; injection e2 with e2 e3; exact ⟨e1, e2, e3⟩
  have hlen := d.K_len (d.K_of_M hp)
  have hcells : ∀ j u, cs[j]? = some u → (W.alloc (.cells cs.toArray e)).cell? ((⟨W.heap.size, 0, none⟩ : Addr).add j) = some u := fun j u hj => by
    have hnew := World.alloc_heap_new W (.cells cs.toArray e)
    have e1 : ((⟨W.heap.size, 0, none⟩ : Addr).add j) = ⟨W.heap.size, j, none⟩ := by
      unfold Addr.add; split <;> simp_all
    rw [e1]
    have hj' : cs.toArray[j]? = some u := by simpa using hj
    unfold World.cell?
    rw [show ({ block := W.heap.size, off := j, spot := none } : Addr).block = W.heap.size from rfl, hnew]
    simpa using hj
  refine wpListIn_plain hgd fun K hK' => ?_
  obtain ⟨v1, w1, hrun, r1, r2, _, r5⟩ := run_append_own_at (P := P) (w := W.alloc (.cells cs.toArray e)) base t o.type e i z d.sz bytes ht hi h3 h4 h5 hz hs0 v xs.length inner (hown.alloc _) ⟨W.heap.size, 0, none⟩ 1 1 cs (by omega)
    hcells (d.K_one (d.K_of_M hp)) hlm hl (by simp; omega)
  · have hg : W.grownBy w1 v.ownBlock := by
      have hb : Below W.heap.size W (W.alloc (.cells cs.toArray e)) := (Below.refl _ _).alloc (Nat.le_refl _) _
      exact ⟨r2.os.trans hb.os, r2.tape.trans hb.tape, r2.output.trans hb.output, Nat.le_trans hb.size r2.size, fun k hk hne => (r2.block k (Nat.lt_of_lt_of_le hk hb.size) hne).trans (hb.block k hk)⟩
    have hat : v1.ownBlock = v.ownBlock ∨ ∃ b, v1.ownBlock = some b ∧ W.heap.size ≤ b := by
      rcases r5 with r5 | r5
      · exact .inl r5
      · exact .inr ⟨_, r5, by simp⟩
    have hR := Kd.R_appended (d := d) h0 hr hp hokp hfresh r1 hg hat
    unfold Oper.wpIn
    refine ⟨?_, ?_⟩
    · simp [Oper.about, hop, resolve, Target.leads, Sem.run_pure]
    · rw [Oper.semAt_plain F _ _ (by rw [hop]; intro c hc'; cases hc')]
      simp [execOp, hop, resolve, invoke, builtin, hs, hx, hrun, Result.andThen]
      exact hK' _ _ (h v1 w1 hR hg)
theorem wpListIn_S_append {α : Type} (d : Kd α) {F : Fence} {n : Nat} {P : Program} (W : World) {ops : Array Oper} {rest : List Oper} {o : Oper} {a : Act} {Q : Exit → Act → World → Prop} (base : Nat)
    (hgd : o.guard = none) (s x : Operand) (t e : TypeId) (z : Value) (bytes : Nat) (hop : o.op = Op.call { callee := Callee.builtin Builtin.append, args := #[s, x], argTypes := #[t, t] })
    (ht : P.underlying t = some (.slice e)) (hinfo : (P.info? e).map (fun i => (i.zero, i.size, i.bytes)) = some (some z, d.sz, bytes)) (hz : z.cells.size = d.sz) (hs0 : 0 < d.sz)
    (v : Value) (xs : List α) (p : α) (cs : List Value) (ok okp : Nat → Prop) (hs : a.eval s = v) (hx : a.eval x = .slice (some ⟨W.heap.size, 0, none⟩) 1 1) (hp : d.M W base okp p cs) (hokp : ∀ k, okp k → ok k ∧ some k ≠ v.ownBlock) (hfresh : ∀ k, W.heap.size ≤ k → ok k)
    (HO : Kd.S d e W base (fun k => ok k ∧ ¬ okp k) v xs) (hbase : base ≤ W.heap.size) (hl : (xs.length + 1) * bytes ≤ 140737488355328) (hlm : xs.length + 1 ≤ maxLen)
    (h : ∀ v1 w1, Kd.S d e w1 base ok v1 (xs ++ [p]) → W.grownBy w1 v.ownBlock → wpListIn F n P ops Q rest (a.put o.dst v1) w1) :
    wpListIn F n P ops Q (o :: rest) a (W.alloc (.cells cs.toArray e)) := by
  obtain ⟨f, hf, hR⟩ := Kd.S_tag HO xs.length okp (fun _ hk h2 => h2.2 hk)
  refine wpListIn_R_append (Kd.tag f d) W base hgd s x t e z bytes hop ht hinfo hz hs0 v xs.zipIdx (p, xs.length) cs ok okp hs hx (d.M_mono (fun k hk => ⟨hk, hf k hk⟩) hp) hokp hfresh (Kd.R_mono hR (fun _ hk => hk.1)) hbase (by rw [List.length_zipIdx]; exact hl) (by rw [List.length_zipIdx]; exact hlm) ?_
  intro v1 w1 hr
  rw [← Kd.zip_snoc] at hr
  exact h v1 w1 ⟨f, hr⟩
theorem okp_ne {W : World} {B N : Nat} {v : Value} {ys : List (List Int)} {ok ok' : Nat → Prop} (h : Kd.R (Kd.slice 3 (Kd.int .i64)) 22 W B ok v ys) (hN : ∀ k, N ≤ k → ok' k) :
    ∀ k, (True ∧ N ≤ k ∧ k < W.heap.size ∧ ∃ q, q ∈ 3 :: (Kd.int .i64).E ∧ ∃ cells, W.heap[k]? = some (.cells cells q (0, 0))) → ok' k ∧ some k ≠ v.ownBlock := by
  rintro k ⟨_, hk, _, q, hq, cells, hc⟩
  refine ⟨hN k hk, fun he => ?_⟩
  obtain ⟨inner, ho⟩ := Kd.R_own h
  obtain ⟨cells', hc'⟩ := own_typed ho k he.symm
  rw [hc] at hc'
  have hq3 : q = 3 := by
    rcases List.mem_cons.1 hq with h | h
    · exact h
    · cases h
  subst hq3
  simp at hc'
set_option maxHeartbeats 1000000 in
set_option maxRecDepth 100000 in
theorem appendSeq_walk (Bp : Nat) (A0 : Option Addr) (c0 : Nat) (p : List Int) (w : World) (hr0 : Kd.C (Kd.int .i64) w A0 p.length p) (hc0 : p.length ≤ c0) (hv : Aside0 (validB p = true)) (hB : At w Bp (.slice A0 p.length c0) 23) :
    Calls Try.prog 62 #[.slice none 0 0, .func (.func 61) #[] #[.pointer (some ⟨Bp, 0, none⟩)]] w fun e w' => ∃ v0_ : Value, e = .returned v0_ ∧ Kd.S (Kd.slice 3 (Kd.int .i64)) 22 w' w.heap.size (fun _ => True) v0_ (cycL p) ∧ Below w.heap.size w w' := by
  have HR0 := Aside0.mk hr0
  have HC0 := Aside0.mk hc0
  have HBX := Aside0.mk hB
  clear hr0 hc0 hB
  refine (callsIn_wide (n := 5)).1 ?_
  refine callsIn_of_wp_marks Try.func62 rfl trivial ?_ rfl
  simp only [Try.ntmps62, List.size_toArray, List.length_cons, List.length_nil, Nat.reduceAdd, Nat.reduceSub, Array.replicate_succ, Array.replicate_zero, List.push_toArray, List.append_toArray, List.nil_append, List.cons_append]
  gi_wp2
  obtain ⟨ws, hws⟩ : ∃ ws, w.alloc (Obj.cells #[Value.slice none 0 0] 51) = ws := ⟨_, rfl⟩
  have hsz : ws.heap.size = w.heap.size + 1 := by rw [← hws]; simp
  have hb : Below w.heap.size w ws := by rw [← hws]; exact (Below.refl _ _).alloc (Nat.le_refl _) _
  have hn : At ws w.heap.size (.slice none 0 0) 51 := by rw [← hws]; exact World.alloc_heap_new _ _
  have hbx : At ws Bp (.slice A0 p.length c0) 23 := by rw [← hws]; exact (Below.heap_alloc _ _ _ HBX.out.lt).trans HBX.out
  have hBp := HBX.out.lt
  rw [hws]
  clear hws
  have HSZ := Aside0.mk hsz
  refine wpIn_cycles Bp c0 A0 p hv.out rfl (enters_of Try.func61 (by kernel_rfl) rfl) rfl (by omega)
    (fun pre W => Below w.heap.size w W ∧ At W Bp (.slice A0 p.length c0) 23 ∧ ∃ v, At W w.heap.size v 51 ∧ Kd.S (Kd.slice 3 (Kd.int .i64)) 22 W w.heap.size (fun k => k ≠ w.heap.size ∧ k ≠ w.heap.size + 1 ∧ k ≠ w.heap.size + 2 ∧ k ≠ w.heap.size + 3) v pre)
    (fun pre A h => ⟨h.2.1.cell, Kd.C_below HR0.out h.1⟩)
    (fun pre A B h ho => ⟨below_off (fun k hk => by omega) h.1 ho, h.2.1.off ho (by omega), h.2.2.elim fun v hv => ⟨v, hv.1.off ho (by omega), Kd.S_step hv.2 (fun k hk hlt => ho.same k hlt (by omega))⟩⟩)
    ⟨hb, hbx, _, hn, Kd.S_nil _ _ _ _ _⟩
    (fun v => { tmps := #[.slice none 0 0, .func (Fn.func 61) #[] #[.pointer (some { block := Bp, off := 0 })], .pointer (some { block := w.heap.size, off := 0 }), undef, .slice none 0 0, v, .func (Fn.func 61) #[] #[.pointer (some { block := Bp, off := 0 })], v, undef, undef, undef, undef, undef], defers := [] }) ?assign ?body ?done
  case assign =>
    intro l v W K hK
    gi_wp2
    exact hK
  case body =>
    rintro l pre x v W0 W rest hc ⟨h1, h2, v0, h3, h4⟩ ho hz hR
    replace h1 := below_off (fun k hk => by omega) h1 ho
    replace h2 := h2.off ho (by omega)
    replace h3 := h3.off ho (by omega)
    have h40 := Kd.S_step (Kd.S_bound h4) (w1 := W) (fun k hk hlt => ho.same k hlt (by have := hk.1; omega))
    have h4 : Kd.S (Kd.slice 3 (Kd.int .i64)) 22 W w.heap.size (fun k => (k ≠ w.heap.size ∧ k ≠ w.heap.size + 1 ∧ k ≠ w.heap.size + 2 ∧ k ≠ w.heap.size + 3) ∧ ¬ (True ∧ W0.heap.size ≤ k ∧ k < W.heap.size ∧ ∃ q, q ∈ 3 :: (Kd.int .i64).E ∧ ∃ cells, W.heap[k]? = some (.cells cells q (0, 0)))) v0 pre :=
      Kd.S_mono h40 (fun k hk => ⟨hk.1, fun h => by have := h.2.1; have := hk.2.2.1; omega⟩)
    have hsz0 := ho.size
    clear h40
    have hpl : Aside0 (pre.length ≤ 7) := ⟨by
      have h5 := cyc_count p p.length 0 []
      rw [show cycS p p.length 0 [] = cycL p from rfl, hc] at h5
      have := (valid_into hv.out).2.2.1
      simp at h5; omega⟩
    obtain ⟨A5, c5, rfl, _, _⟩ := Kd.R_reads hR
    obtain ⟨A6, c6, rfl, _, _⟩ := Kd.S_reads h4
    have hc1 := h3.cell
    have hf1 := h3.frozen
    have H1 := Aside0.mk h1
    have H2 := Aside0.mk h2
    have H3 := Aside0.mk h3
    have H4 := Aside0.mk h4
    have HRB := Aside0.mk (Kd.R_bound hR)
    have HZ := Aside0.mk hz
    have HS0 := Aside0.mk hsz0
    clear h1 h2 h3 h4 hR hz hsz0 ho
    gi_wp2_with (gi_at_builtin; go_must (refine wpListIn_S_append (Kd.slice 3 (Kd.int .i64)) W w.heap.size rfl (.tmp 8) (.tmp 10) 51 22 (.slice none 0 0) 24 rfl Try.underlying51 info22 rfl (by decide) (.slice A6 pre.length c6) pre x [.slice A5 x.length c5] (fun k => k ≠ w.heap.size ∧ k ≠ w.heap.size + 1 ∧ k ≠ w.heap.size + 2 ∧ k ≠ w.heap.size + 3) (fun k => True ∧ W0.heap.size ≤ k ∧ k < W.heap.size ∧ ∃ q, q ∈ 3 :: (Kd.int .i64).E ∧ ∃ cells, W.heap[k]? = some (.cells cells q (0, 0))) rfl rfl ?hp ?hokp ?hfresh H4.out ?hbase ?hl ?hlm ?_; (case hp => exact ⟨_, rfl, Kd.R_lower HRB.out (by have := HSZ.out; have := HZ.out; omega)⟩); (case hokp => exact okp_ne (Kd.S_R H4.out) (fun k hk => by have := HSZ.out; have := HZ.out; omega)); (case hfresh => intro k hk; have := HZ.out; have := HSZ.out; have := HS0.out; omega); (case hbase => exact H1.out.size); (case hl => have := hpl.out; omega); (case hlm => have := hpl.out; unfold maxLen; omega); intro v1 w1 hR1 hg1; obtain ⟨A7, c7, rfl, _, _⟩ := Kd.S_reads hR1; have H3b : Aside0 (At w1 w.heap.size (.slice A6 pre.length c6) 51) := ⟨(hg1.block _ H3.out.lt (fun e => ((Kd.S_R H4.out).1 _ e.symm).1.1 rfl)).trans H3.out⟩; have hc2 := H3b.out.cell; have hf2 := H3b.out.frozen; have HR1 := Aside0.mk hR1; have HG1 := Aside0.mk hg1; clear hR1 hg1 hc1 hf1))
    have hob := own_base (Kd.R_own (Kd.S_R H4.out)).choose_spec
    have hgw := HG1.out
    have hz := HZ.out
    have hs := HSZ.out
    have hs0 := HS0.out
    refine ⟨⟨by simp [World.setCell]; exact hgw.size, fun k hk1 hk2 => ?_⟩, ?_, ?_, ⟨_, H3b.out.set, ?_⟩⟩
    · rw [Below.heap_setCell _ _ _ _ (by simp; omega)]
      exact hgw.block k (by omega) (fun e => by have := ((Kd.S_R H4.out).1 k e.symm).1; omega)
    · exact (H1.out.grown hgw H1.out.size (fun k e => hob k e)).setCell (Nat.le_refl _) _
    · refine (Below.heap_setCell _ _ _ _ (by simp; omega)).trans ((hgw.block Bp H2.out.lt (fun e => by have := hob Bp e.symm; omega)).trans H2.out)
    · have := Kd.S_far (p := ⟨w.heap.size, 0, none⟩) HR1.out (fun k hk => hk.1) (.slice A7 (pre.length + 1) c7)
      have e7 : (Value.slice A7 (pre.length + 1) c7) = Value.slice A7 (pre ++ [x]).length c7 := by simp
      rw [e7] at this ⊢
      exact this
  case done =>
    rintro W ⟨h1, h2, v0, h3, h4⟩ hK
    have hc1 := h3.cell
    gi_wp2
    refine ⟨by simp, .inl ⟨_, _, rfl, run_takeDeferred hK, ?_⟩⟩
    refine ⟨_, results_tmp rfl _ _ _, _, rfl, ?_, ?_⟩
    · exact Kd.S_mono (Kd.S_step h4 (fun k hk hlt => World.putObj_heap_other (by omega))) (fun _ _ => trivial)
    · exact below_off (S := fun k => k = ws.heap.size) (fun k hk => by omega) h1 (Off.put (S := fun k => k = ws.heap.size) (l := ws.heap.size) rfl _ _)

def perm_Cycles.f (l0 : List Int) : Option (List (List Int)) := some (if validB l0 = true then cycL l0 else [])
theorem collect_walk (Bp : Nat) (A0 : Option Addr) (c0 : Nat) (p : List Int) (w : World) (hr0 : Kd.C (Kd.int .i64) w A0 p.length p) (hc0 : p.length ≤ c0) (hv : Aside0 (validB p = true)) (hB : At w Bp (.slice A0 p.length c0) 23) :
    Calls Try.prog 58 #[.func (.func 61) #[] #[.pointer (some ⟨Bp, 0, none⟩)]] w fun e w' => ∃ v0_ : Value, e = .returned v0_ ∧ Kd.S (Kd.slice 3 (Kd.int .i64)) 22 w' w.heap.size (fun _ => True) v0_ (cycL p) ∧ Below w.heap.size w w' := by
  have H := Aside0.mk (appendSeq_walk Bp A0 c0 p w hr0 hc0 hv hB)
  clear hr0 hc0 hB hv
  go_enter Try.func58, Try.ntmps58
  go_wp2_with (go_at_call 62; refine H.out.mono ?_; rintro e w1 ⟨v0, rfl, hR, hb⟩)
  go_ret
  exact ⟨_, rfl, hR, hb⟩
set_option maxHeartbeats 1000000 in
theorem perm_Cycles.calls (A0 : Option Addr) (c0 : Nat) (l0 : List Int) (r : List (List Int)) (w : World) (hr0 : Kd.C (Kd.int .i64) w A0 l0.length l0) (hc0 : l0.length ≤ c0) (h : perm_Cycles.f l0 = some r) :
    Calls Try.prog 40 #[.slice A0 l0.length c0] w fun e w' => ∃ v0_ : Value, e = .returned (v0_) ∧ Kd.S (Kd.slice 3 (Kd.int .i64)) 22 w' w.heap.size (fun _ => True) v0_ r ∧ Below w.heap.size w w' := by
  have h := Option.some.inj h
  have HR0 := Aside0.mk hr0
  have HC0 := Aside0.mk hc0
  by_cases hv : validB l0 = true
  · rw [if_pos hv] at h
    rw [← h]
    have HV := Aside0.mk (perm_Valid.calls A0 c0 l0 true w hr0 hc0 (by unfold perm_Valid.f; rw [hv]))
    have HVV := Aside0.mk hv
    clear hr0 hc0 hv h
    go_enter Try.func40, Try.ntmps40
    go_wp2_with (
      first
      | (go_at_call 37; refine HV.out.mono ?_; rintro e w1 ⟨rfl, hB1⟩; have HB1 := Aside0.mk hB1; clear hB1)
      | (go_at_call 57; refine (cycles_calls _ _ _ _).mono ?_; rintro e w2 ⟨rfl, rfl⟩)
      | (go_at_call 58; refine (collect_walk w1.heap.size A0 c0 l0 _ ?h1 HC0.out HVV ?h2).mono ?_; (case h1 => exact Kd.C_below HR0.out (HB1.out.alloc HB1.out.size _)); (case h2 => exact World.alloc_heap_new _ _); rintro e w3 ⟨v3, rfl, hR3, hB3⟩))
    go_ret
    have hsz : w.heap.size ≤ (w1.alloc (Obj.cells #[Value.slice A0 l0.length c0] 23)).heap.size := by have := HB1.out.size; simp; omega
    exact ⟨_, rfl, Kd.S_lower hR3 hsz, (HB1.out.alloc HB1.out.size _).trans (hB3.mono hsz)⟩
  · rw [if_neg hv] at h
    subst h
    have HV := Aside0.mk (perm_Valid.calls A0 c0 l0 false w hr0 hc0 (by unfold perm_Valid.f; simp only [Bool.not_eq_true] at hv; rw [hv]))
    clear hr0 hc0 hv
    go_enter Try.func40, Try.ntmps40
    go_wp2_with (go_at_call 37; refine HV.out.mono ?_; rintro e w1 ⟨rfl, hB1⟩)
    go_ret
    exact ⟨_, rfl, Kd.S_nil _ _ _ _ _, hB1⟩
end Go.Proofs.Ytjfhogholmabfaa.Giv
