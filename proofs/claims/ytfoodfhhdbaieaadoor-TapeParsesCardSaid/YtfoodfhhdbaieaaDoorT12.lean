-- CUT by a program of this session: what the claim does not use is left out
import Derived.Test.YtfoodfhhdbaieaaDoorT11
namespace Go.Proofs.YtfoodfhhdbaieaaDoor.Giv
set_option maxRecDepth 100000
set_option linter.unusedSimpArgs false
set_option linter.unusedVariables false
open Go.RowKit Go.Proofs.YtfoodfhhdbaieaaDoorW.PrintWords Go.Proofs.YtfoodfhhdbaieaaDoorW.PrintLast Go.Proofs.YtfoodfhhdbaieaaDoorW.PrintMore
open Go.Proofs.YtfoodfhhdbaieaaDoor.Ka (S40 k40 z40 rd_T40 at_T40 k40_open k40_mk rd_L1 at_L1 info3 info38 info40)

theorem new_run {w : World} {base gb bm : Nat} {s : Int} {v1 : Value} {at_ : List Int} (hc : w.heap[gb]? = some (.cells #[.int .i64 s, v1, .slice none 0 0, .map (some bm)] 73 (0, 0))) (hb : base ≤ gb) (hm : base ≤ bm) (hM : MapAt w bm []) (ho : w.ownsRow base 3 1 v1 at_.length (at_.map (Value.int .i64))) :
  RunAt w base gb bm s v1 at_ (.slice none 0 0) [] [] [] [] :=
 ⟨hc, hb, hm, hM, ho, World.ownsRow_nil _ _ _ _, rfl, rfl, (fun i u l h => by simp at h), (fun i u k h => by simp at h), (fun i j u v k h => by simp at h)⟩
theorem outer_cell {w w' : World} {base br bm : Nat} {s : Int} {v1 v2 : Value} {at_ : List Int} {vs us : List Value} {tp : List (List Int)} {L : List (Value × Value)} (h : RunAt w base br bm s v1 at_ v2 vs us tp L) (hg : w.grownBy w' v2.ownBlock) : w'.cell? ⟨br, 2, none⟩ = some v2 := by
 have hc : w'.heap[br]? = _ := (hg.block br (Array.getElem?_eq_some_iff.1 h.cells).1 (fun e => by
  obtain ⟨c', hc'⟩ := own_typed h.row2 br e.symm
  exact ne_of_typed h.cells hc' (by decide) rfl)).trans h.cells
 simp [World.cell?, hc]
theorem outer_frozen {w w' : World} {base br bm : Nat} {s : Int} {v1 v2 : Value} {at_ : List Int} {vs us : List Value} {tp : List (List Int)} {L : List (Value × Value)} (h : RunAt w base br bm s v1 at_ v2 vs us tp L) (hg : w.grownBy w' v2.ownBlock) : w'.frozen? ⟨br, 2, none⟩ = false := by
 have hc : w'.heap[br]? = _ := (hg.block br (Array.getElem?_eq_some_iff.1 h.cells).1 (fun e => by
  obtain ⟨c', hc'⟩ := own_typed h.row2 br e.symm
  exact ne_of_typed h.cells hc' (by decide) rfl)).trans h.cells
 simp [World.frozen?, hc]
theorem run_append_one {W : World} (base : Nat) (t e : TypeId) (z : Value) (bytes : Nat) (ht : Tryd.prog.underlying t = some (.slice e)) (hinfo : (Tryd.prog.info? e).map (fun i => (i.zero, i.size, i.bytes)) = some (some z, 1, bytes)) (hz : z.cells.size = 1) (hby : bytes ≤ 100)
  (v : Value) (n : Nat) (xs : List Value) (u : Value) (hu : u.oneCell' = true) (ho : W.ownsRow base e 1 v n xs) (hb : n ≤ 1000000) (hbase : base ≤ W.heap.size) :
  ∃ v' w', (Builtin.append_ #[t, t] t #[v, .slice (some ⟨W.heap.size, 0, none⟩) 1 1]).run Tryd.prog (W.alloc (.cells #[u] e)) = .ok v' w' ∧ w'.ownsRow base e 1 v' (n + 1) (xs ++ [u]) ∧ W.grownBy w' v.ownBlock ∧ (v'.ownBlock = v.ownBlock ∨ ∃ b, v'.ownBlock = some b ∧ W.heap.size ≤ b) := by
 obtain ⟨i, hi, hzz⟩ := Option.map_eq_some_iff.1 hinfo
 obtain ⟨h3, h4, h5⟩ : i.zero = some z ∧ i.size = 1 ∧ i.bytes = bytes := by
  injection hzz with e1 e2; injection e2 with e2 e3; exact ⟨e1, e2, e3⟩
 have hcells : ∀ j w', [u][j]? = some w' → (W.alloc (.cells #[u] e)).cell? ((⟨W.heap.size, 0, none⟩ : Addr).add j) = some w' := fun j w' hj => by
  have hnew := heap_alloc_new W (.cells #[u] e)
  rw [add_plain]
  unfold World.cell?
  rw [show ({ block := W.heap.size, off := j, spot := none } : Addr).block = W.heap.size from rfl, hnew]
  have hj' : (#[u] : Array Value)[j]? = some w' := by simpa using hj
  simpa using hj'
 obtain ⟨v1, w1, hrun, r1, r2, _, r5⟩ := run_append_own_at (P := Tryd.prog) (w := W.alloc (.cells #[u] e)) base t t e i z 1 bytes ht hi h3 h4 h5 hz (by decide) v n xs (ho.alloc _) ⟨W.heap.size, 0, none⟩ 1 1 [u] rfl
  hcells (by intro y hy; rw [List.mem_singleton.1 hy]; exact hu) (by unfold maxLen; omega) (by have : (n + 1) * bytes ≤ 1000001 * 100 := Nat.mul_le_mul (by omega) hby; omega) (by simp; omega)
 have hg : W.grownBy w1 v.ownBlock := by
  have hb : Below W.heap.size W (W.alloc (.cells #[u] e)) := (Below.refl _ _).alloc (Nat.le_refl _) _
  exact ⟨r2.os.trans hb.os, r2.tape.trans hb.tape, r2.output.trans hb.output, Nat.le_trans hb.size r2.size, fun k hk hne => (r2.block k (Nat.lt_of_lt_of_le hk hb.size) hne).trans (hb.block k hk)⟩
 refine ⟨v1, w1, hrun, r1, hg, ?_⟩
 rcases r5 with r5 | r5
 ·exact .inl r5
 ·exact .inr ⟨_, r5, by simp⟩
theorem exec_append {o : Oper} {a : Act} {W w' : World} {v y v' : Value} (s x : Operand) (t ty : TypeId) (hop : o.op = Op.call { callee := Callee.builtin Builtin.append, args := #[s, x], argTypes := #[t, t] }) (hty : o.type = ty) (hs : a.eval s = v) (hx : a.eval x = y)
  (hrun : (Builtin.append_ #[t, t] ty #[v, y]).run Tryd.prog W = .ok v' w') : (execOp a.eval o).run Tryd.prog W = .ok (.value v') w' := by
 unfold execOp
 simp only [hop, resolve, invoke, builtin, Sem.run_bind, Sem.run_pure, Result.andThen_ok, List.map_toArray, List.map_cons, List.map_nil, hs, hx, hty, hrun]
theorem key_new {w : World} {rs : List S40} {k k' : Nat} {x : S40} {L : List (Value × Value)} (hn : (keysL rs).Nodup) (ht : rs.take k' = rs.take k ++ [x]) (hR : RulesAt w (rs.take k) L) : ∀ p ∈ L, p.1 ≠ keyV x.f0 x.f1 := by
 intro p hp he
 obtain ⟨i, hi⟩ := List.getElem?_of_mem hp
 have hil : i < (rs.take k).length := by rw [← hR.1]; exact (List.getElem?_eq_some_iff.1 hi).1
 obtain ⟨A1, c1, A3, c3, A4, c4, e, _⟩ := hR.2 i _ (List.getElem?_eq_getElem hil)
 rw [hi] at e
 injection e with e
 rw [e] at he
 have h2 : (keysL (rs.take k')).Nodup := by
  have : keysL (rs.take k') = (keysL rs).take k' := by simp [keysL]
  rw [this]
  exact hn.sublist (List.take_sublist _ _)
 rw [ht, keysL, List.map_append] at h2
 have := (List.nodup_append.1 h2).2.2 _ (List.mem_map.2 ⟨_, List.getElem_mem hil, rfl⟩) (keyL x.f0 x.f1) (by simp)
 exact this (keyV_inj he)
theorem rules_next {w : World} {rs : List S40} {k k' : Nat} {x : S40} {L : List (Value × Value)} {A1 A3 A4 : Option Addr} {c1 c3 c4 : Nat} (ht : rs.take k' = rs.take k ++ [x]) (hR : RulesAt w (rs.take k) L) (l1 : x.f1.length ≤ c1) (g1 : Kd.C (Kd.int .i64) w A1 x.f1.length x.f1) (l3 : x.f3.length ≤ c3) (g3 : Kd.C (Kd.int .i64) w A3 x.f3.length x.f3) (l4 : x.f4.length ≤ c4) (g4 : Kd.C (Kd.int .i64) w A4 x.f4.length x.f4) :
  RulesAt w (rs.take k') (L ++ [(keyV x.f0 x.f1, .agg #[.int .i64 x.f0, .slice A1 x.f1.length c1, .int .i64 x.f2, .slice A3 x.f3.length c3, .slice A4 x.f4.length c4])]) := by
 rw [ht]
 refine ⟨by simp [hR.1], fun i r hr => ?_⟩
 by_cases e : i < (rs.take k).length
 ·rw [List.getElem?_append_left e] at hr
  rw [List.getElem?_append_left (by rw [hR.1]; exact e)]
  exact hR.2 i r hr
 ·have e' : i = (rs.take k).length := by have := (List.getElem?_eq_some_iff.1 hr).1; simp only [List.length_append, List.length_singleton] at this; omega
  subst e'
  rw [List.getElem?_append_right (Nat.le_refl _)] at hr
  rw [List.getElem?_append_right (by rw [hR.1]; exact Nat.le_refl _), hR.1]
  simp only [Nat.sub_self, List.getElem?_cons_zero, Option.some.injEq] at hr ⊢
  subst hr
  exact ⟨A1, c1, A3, c3, A4, c4, rfl, l1, g1, l3, g3, l4, g4⟩
def NewOut (wM w : World) (s : Int) (at_ : List Int) (tp : List (List Int)) (rs : List S40) (e : Ending) (w' : World) : Prop :=
 ∃ br bm v1 v2 us L, e = .returned (.pointer (some ⟨br, 0, none⟩)) ∧ RunAt w' w.heap.size br bm s v1 at_ v2 us us tp L ∧ AreKeys L ∧ RulesAt wM rs L ∧ Below w.heap.size w w'
def reg53a.T : Bool × List (List Nat × List Nat) := (true, [([], []), ([0], [0]), ([], []), ([2], [2]), ([3], [3]), ([1, 4], [1, 4]), ([], []), ([5, 6], [5, 6]), ([7], [7]), ([8, 4, 0, 1, 2, 3, 4, 5, 6, 7, 8], [8])])
def reg53a.B : List Nat := [0, 1, 0, 4, 12, 31, 0, 127, 255, 511]
theorem reg53a.tab : rtab .any (opsOf Tryd.f47 1) = reg53a.T := by kernel_rfl
theorem reg53a.bits : waitsOk reg53a.T.2 reg53a.B = true := by kernel_rfl
def reg53b.T : Bool × List (List Nat × List Nat) := (true, [([], []), ([], []), ([1], [1]), ([2], [2]), ([3], [3]), ([4], [4]), ([], []), ([6], [6]), ([7], [7]), ([5, 8, 7], [5, 8]), ([0, 0, 1, 2, 3, 4, 5, 6, 7, 8, 9], [0]), ([10, 0, 1, 2, 3, 4, 5, 6, 7, 8, 9], [10]), ([11, 0, 1, 2, 3, 4, 5, 6, 7, 8, 9], [11]), ([12, 9, 9, 0, 1, 2, 3, 4, 5, 6, 7, 8, 9], [9, 12])])
def reg53b.B : List Nat := [0, 0, 2, 6, 14, 30, 0, 64, 192, 510, 1023, 2047, 4095, 8191]
theorem reg53b.tab : rtab .any (opsOf Tryd.f47 5) = reg53b.T := by kernel_rfl
theorem reg53b.bits : waitsOk reg53b.T.2 reg53b.B = true := by kernel_rfl
def reg53c.T : Bool × List (List Nat × List Nat) := (true, [([], []), ([0], [0]), ([1], [1]), ([2], [2]), ([], []), ([4], [4]), ([], []), ([6], [6]), ([5, 7], [5, 7]), ([], []), ([3, 8, 9, 8, 0, 1, 2, 3, 4, 5, 6, 7, 8, 9], [3, 8, 9])])
def reg53c.B : List Nat := [0, 1, 3, 7, 0, 16, 0, 64, 240, 0, 1023]
theorem reg53c.tab : rtab .any (opsOf Tryd.f47 10) = reg53c.T := by kernel_rfl
theorem reg53c.bits : waitsOk reg53c.T.2 reg53c.B = true := by kernel_rfl
set_option maxHeartbeats 1000000 in
set_option maxRecDepth 100000 in
theorem new_walk (a0 a1 a2 : Int) (A : Option Addr) (c : Nat) (rs : List S40) (s : Int) (A1 : Option Addr) (c1 : Nat) (at_ : List Int) (A2 : Option Addr) (c2 : Nat) (tp : List (List Int)) (wM w : World) (hM : Below wM.heap.size wM w) (hr : Kd.C k40 wM A rs.length rs) (h1 : Kd.C (Kd.int .i64) w A1 at_.length at_) (h2 : Kd.C (Kd.slice 3 (Kd.int .i64)) w A2 tp.length tp)
  (ha : at_.length ≤ 1000000) (ht : tp.length ≤ 1000000) (htl : ∀ i : Nat, (rd_L1 tp i).length ≤ 1000000) (hs : ∀ r ∈ rs, Small (keyL r.f0 r.f1) ∧ r.f1.length ≤ 3) (hn : (keysL rs).Nodup) :
  Calls Tryd.prog 47 #[.agg #[.int .i64 a0, .int .i64 a1, .int .i64 a2, .slice A rs.length c], .agg #[.int .i64 s, .slice A1 at_.length c1, .slice A2 tp.length c2]] w (NewOut wM w s at_ tp rs) := by
 have HR := Aside0.mk hr
 have HMW := Aside0.mk hM
 have H1 := Aside0.mk h1
 have H2 := Aside0.mk h2
 have HA := Aside0.mk ha
 have HT := Aside0.mk ht
 have HTL := Aside0.mk htl
 have HS := Aside0.mk hs
 have HN := Aside0.mk hn
 clear hr hM h1 h2 ha ht htl hs hn
 go_enter Tryd.func47, Tryd.ntmps47
 go_wp2_with fail
 obtain ⟨W, hW⟩ : ∃ W, (w.alloc (Obj.cells #[.int .i64 a0, .int .i64 a1, .int .i64 a2, .slice A rs.length c] 24)).alloc (Obj.cells #[.int .i64 s, .slice A1 at_.length c1, .slice A2 tp.length c2] 43) = W := ⟨_, rfl⟩
 have HBW : Aside0 (Below w.heap.size w W) := ⟨by rw [← hW]; exact ((Below.refl _ _).alloc (Nat.le_refl _) _).alloc (by simp) _⟩
 have HZ : Aside0 (w.heap.size + 1 < W.heap.size) := ⟨by rw [← hW]; simp⟩
 have hMB : W.heap[w.heap.size]? = some (.cells #[.int .i64 a0, .int .i64 a1, .int .i64 a2, .slice A rs.length c] 24 (0, 0)) := by subst hW; rw [heap_alloc_old (h := by simp)]; exact heap_alloc_new _ _
 have n0 : W.cell? ⟨w.heap.size + 1, 0, none⟩ = some (.int .i64 s) := by subst hW; go_simp
 have n1 : W.cell? ⟨w.heap.size + 1, 1, none⟩ = some (.slice A1 at_.length c1) := by subst hW; go_simp
 have n2 : W.cell? ⟨w.heap.size + 1, 2, none⟩ = some (.slice A2 tp.length c2) := by subst hW; go_simp
 rw [hW]
 clear hW
 refine start_ (n := 10) (S := fun w' => w'.cell? ⟨w.heap.size + 1, 0, none⟩ = some (.int .i64 s) ∧ w'.cell? ⟨w.heap.size + 1, 1, none⟩ = some (.slice A1 at_.length c1)) (ds := []) #[false, false, false, false, false, false, false, false, false, false] (by kernel_rfl) rfl rfl ⟨n0, n1⟩ (fun hHeld => ?_); refine with_tabW reg53a.tab reg53a.bits (fun HT_ HW_ => ?_)
 have HB0 := Aside0.mk (below_drew (Below.refl W.heap.size W))
 generalize W.drew = W0 at HB0 hHeld ⊢
 refine pure_ (i := 0) (N := some 10) (v := ?_) (a' := ?_) #[true, false, false, false, false, false, false, false, false, false] rfl rfl (any_of HT_.out (by kernel_rfl)) (fun _ _ _ h => h) (Or.inl ⟨by rfl, ?_⟩) ?_ ?_
 rotate_left
 ·intro w'
  go_simp
  with_reducible rfl
 rotate_left
 ·simp only [Act.put, List.setIfInBounds_toArray, List.set_cons_zero, List.set_cons_succ, i64_w, i32_w]
  rfl
 refine take_ (i := 1) (N := some 11) (v := ?_) (a' := ?_) #[true, true, false, false, false, false, false, false, false, false] rfl rfl (take_ofW HT_.out HW_.out (by kernel_rfl)) (fun _ _ _ h => h) (Or.inl ⟨by rfl, ?_⟩) hHeld ?_ ?_
 rotate_left
 ·rintro w' ⟨s0, s1⟩
  go_simp
  with_reducible rfl
 rotate_left
 ·simp only [Act.put, List.setIfInBounds_toArray, List.set_cons_zero, List.set_cons_succ, i64_w, i32_w]
  rfl
 refine pure_ (i := 2) (N := some 12) (v := ?_) (a' := ?_) #[true, true, true, false, false, false, false, false, false, false] rfl rfl (any_of HT_.out (by kernel_rfl)) (fun _ _ _ h => h) (Or.inl ⟨by rfl, ?_⟩) ?_ ?_
 rotate_left
 ·intro w'
  go_simp
  with_reducible rfl
 rotate_left
 ·simp only [Act.put, List.setIfInBounds_toArray, List.set_cons_zero, List.set_cons_succ, i64_w, i32_w]
  rfl
 refine take_ (i := 3) (N := some 13) (v := ?_) (a' := ?_) #[true, true, true, true, false, false, false, false, false, false] rfl rfl (take_ofW HT_.out HW_.out (by kernel_rfl)) (fun _ _ _ h => h) (Or.inl ⟨by rfl, ?_⟩) hHeld ?_ ?_
 rotate_left
 ·rintro w' ⟨s0, s1⟩
  go_simp
  with_reducible rfl
 rotate_left
 ·simp only [Act.put, List.setIfInBounds_toArray, List.set_cons_zero, List.set_cons_succ, i64_w, i32_w]
  rfl
 refine join_ (σ := Option Addr × Nat × Nat × Nat) 0 #[true, true, true, true, true, true, true, true, true, true] (fun s_ => [(14, .slice s_.1 at_.length s_.2.1), (15, .agg #[.int .i64 s, .slice s_.1 at_.length s_.2.1, .slice none 0 0]), (16, .map (some s_.2.2.1)), (17, .agg #[.int .i64 s, .slice s_.1 at_.length s_.2.1, .slice none 0 0, .map (some s_.2.2.1)]), (18, .pointer (some ⟨s_.2.2.2, 0, none⟩)), (5, .pointer (some ⟨s_.2.2.2, 0, none⟩))]) (fun s_ w' => RunAt w' w.heap.size s_.2.2.2 s_.2.2.1 s (.slice s_.1 at_.length s_.2.1) at_ (.slice none 0 0) [] [] [] [] ∧ Below W.heap.size W w') ?_ ?_
 rotate_left
 ·intro hCont
  refine two_ (i := 4) (j := 6) (Ni := some 14) (Nj := some 16) #[true, true, true, true, true, false, false, false, false, false] #[true, true, true, true, false, false, true, false, false, false] rfl rfl rfl rfl (two_of HT_.out (by kernel_rfl)) (by decide) (by decide) (fun K hK => ?_) (fun K hK => ?_)
  ·skip
   have HB0c := Aside0.mk (HBW.out.trans (HB0.out.mono HBW.out.size))
   refine goes_ Tryd.func49 (by kernel_rfl) rfl #[.slice A1 at_.length c1] (by rfl) rfl rfl (by (try simp only [List.map_toArray, List.map_cons, List.map_nil]); first | done | rfl) ?_
   refine (clone_calls A1 c1 at_ W0 (Kd.C_below H1.out HB0c.out) HA.out).mono ?_
   rintro e w2 ⟨v1, rfl, hO, hB2⟩
   refine ⟨_, rfl, ?_⟩
   obtain ⟨A9, c9, rfl, _, _⟩ := own_C hO
   have HO := Aside0.mk (hO.mono (show w.heap.size ≤ W0.heap.size by have := HB0.out.size; have := HZ.out; omega))
   have HB2 := Aside0.mk (HB0.out.trans (hB2.mono HB0.out.size))
   clear hO hB2
   refine hK.out _ _ ⟨pw_cell_below HB2.out n0, pw_cell_below HB2.out n1⟩ (fun hHeld => ?_)
   clear hK K
   refine norm_ (a' := ?_) ?_ ?_
   rotate_left
   ·show Act.put _ (some 14) _ = _
    simp only [Act.put, List.setIfInBounds_toArray, List.set_cons_zero, List.set_cons_succ, i64_w, i32_w]
    rfl
   refine pure_ (i := 5) (N := some 15) (v := ?_) (a' := ?_) #[true, true, true, true, true, true, false, false, false, false] rfl rfl (any_of HT_.out (by kernel_rfl)) (fun _ _ _ h => h) (Or.inl ⟨by rfl, ?_⟩) ?_ ?_
   rotate_left
   ·intro w'
    go_simp
    with_reducible rfl
   rotate_left
   ·simp only [Act.put, List.setIfInBounds_toArray, List.set_cons_zero, List.set_cons_succ, i64_w, i32_w]
    rfl
   refine one_ (i := 6) (N := some 16) #[true, true, true, true, true, true, true, false, false, false] rfl rfl (one_of HT_.out (by kernel_rfl)) (by decide) (fun K hK => ?_)
   have hmk : (Instr.makeMap 71 none).run Tryd.prog w2 = .ok (.map (some w2.heap.size)) (w2.alloc (.map #[] 0)) := run_makeMap_plain w2 77
   refine event_step (v := .map (some w2.heap.size)) (w1 := w2.alloc (.map #[] 0)) (by rfl) (by simp only [execOp, hmk]; go_simp; first | done | rfl) ?_
   have HM1 : Aside0 (MapAt (w2.alloc (.map #[] 0)) w2.heap.size []) := ⟨MapAt.made _⟩
   have HB3 := Aside0.mk (HB2.out.alloc HB2.out.size (.map #[] 0))
   have HO3 := Aside0.mk (HO.out.alloc (.map #[] 0))
   have HGM : Aside0 (w.heap.size ≤ w2.heap.size) := ⟨by have := HB2.out.size; have := HZ.out; omega⟩
   generalize w2.heap.size = bm at HM1 HGM ⊢
   generalize w2.alloc (.map #[] 0) = w3 at HM1 HB3 HO3 ⊢
   refine hK.out _ _ ⟨pw_cell_below HB3.out n0, pw_cell_below HB3.out n1⟩ (fun hHeld => ?_)
   clear hK K hmk
   refine norm_ (a' := ?_) ?_ ?_
   rotate_left
   ·show Act.put _ (some 16) _ = _
    simp only [Act.put, List.setIfInBounds_toArray, List.set_cons_zero, List.set_cons_succ, i64_w, i32_w]
    rfl
   refine pure_ (i := 7) (N := some 17) (v := ?_) (a' := ?_) #[true, true, true, true, true, true, true, true, false, false] rfl rfl (any_of HT_.out (by kernel_rfl)) (fun _ _ _ h => h) (Or.inl ⟨by rfl, ?_⟩) ?_ ?_
   rotate_left
   ·intro w'
    go_simp
    with_reducible rfl
   rotate_left
   ·simp only [Act.put, List.setIfInBounds_toArray, List.set_cons_zero, List.set_cons_succ, i64_w, i32_w]
    rfl
   refine one_ (i := 8) (N := some 18) #[true, true, true, true, true, true, true, true, true, false] rfl rfl (one_of HT_.out (by kernel_rfl)) (by decide) (fun K hK => ?_)
   refine box_step ?hg (N := 18) ?hd (cs := #[.int .i64 s, .slice A9 at_.length c9, .slice none 0 0, .map (some bm)]) (t := 73) ?hr ?_; (case hd => rfl); (case hg => rfl); (case hr => first | (go_simp; done) | (go_simp; rfl))
   intro gb hg w4 hbox hb
   have HF : Aside0 (RunAt w4 w.heap.size gb bm s (.slice A9 at_.length c9) at_ (.slice none 0 0) [] [] [] []) := ⟨new_run hbox (by rw [hg]; have := HB3.out.size; have := HZ.out; omega) HGM.out (HM1.out.same (hb.block _ HM1.out.lt)) (pw_own_below HO3.out hb)⟩
   have HB4 := Aside0.mk (HB3.out.trans (hb.mono HB3.out.size))
   clear hg hbox hb
   refine hK.out _ _ ⟨pw_cell_below HB4.out n0, pw_cell_below HB4.out n1⟩ (fun hHeld => ?_)
   clear hK K
   refine norm_ (a' := ?_) ?_ ?_
   rotate_left
   ·show Act.put _ (some 18) _ = _
    simp only [Act.put, List.setIfInBounds_toArray, List.set_cons_zero, List.set_cons_succ, i64_w, i32_w]
    rfl
   refine pure_ (i := 9) (N := some 5) (v := ?_) (a' := ?_) #[true, true, true, true, true, true, true, true, true, true] rfl rfl (any_of HT_.out (by kernel_rfl)) (fun _ _ _ h => h) (Or.inl ⟨by rfl, ?_⟩) ?_ ?_
   rotate_left
   ·intro w'
    go_simp
    with_reducible rfl
   rotate_left
   ·simp only [Act.put, List.setIfInBounds_toArray, List.set_cons_zero, List.set_cons_succ, i64_w, i32_w]
    rfl
   exact norm_ (by simp only [putAll, Act.put, List.setIfInBounds_toArray, List.set_cons_zero, List.set_cons_succ]) (hCont (A9, c9, bm, gb) _ ⟨HF.out, HB4.out⟩)
  ·skip
   have hmk : (Instr.makeMap 71 none).run Tryd.prog W0 = .ok (.map (some W0.heap.size)) (W0.alloc (.map #[] 0)) := run_makeMap_plain W0 77
   refine event_step (v := .map (some W0.heap.size)) (w1 := W0.alloc (.map #[] 0)) (by rfl) (by simp only [execOp, hmk]; go_simp; first | done | rfl) ?_
   have HM1 : Aside0 (MapAt (W0.alloc (.map #[] 0)) W0.heap.size []) := ⟨MapAt.made _⟩
   have HB3 := Aside0.mk (HB0.out.alloc HB0.out.size (.map #[] 0))
   have HGM : Aside0 (w.heap.size ≤ W0.heap.size) := ⟨by have := HB0.out.size; have := HZ.out; omega⟩
   generalize W0.heap.size = bm at HM1 HGM ⊢
   generalize W0.alloc (.map #[] 0) = w3 at HM1 HB3 ⊢
   refine hK.out _ _ ⟨pw_cell_below HB3.out n0, pw_cell_below HB3.out n1⟩ (fun hHeld => ?_)
   clear hK K hmk
   refine norm_ (a' := ?_) ?_ ?_
   rotate_left
   ·show Act.put _ (some 16) _ = _
    simp only [Act.put, List.setIfInBounds_toArray, List.set_cons_zero, List.set_cons_succ, i64_w, i32_w]
    rfl
   refine one_ (i := 4) (N := some 14) #[true, true, true, true, true, false, true, false, false, false] rfl rfl (one_of HT_.out (by kernel_rfl)) (by decide) (fun K hK => ?_)
   have HB3c := Aside0.mk (HBW.out.trans (HB3.out.mono HBW.out.size))
   refine goes_ Tryd.func49 (by kernel_rfl) rfl #[.slice A1 at_.length c1] (by rfl) rfl rfl (by (try simp only [List.map_toArray, List.map_cons, List.map_nil]); first | done | rfl) ?_
   refine (clone_calls A1 c1 at_ w3 (Kd.C_below H1.out HB3c.out) HA.out).mono ?_
   rintro e w2 ⟨v1, rfl, hO, hB2⟩
   refine ⟨_, rfl, ?_⟩
   obtain ⟨A9, c9, rfl, _, _⟩ := own_C hO
   have HO := Aside0.mk (hO.mono (show w.heap.size ≤ w3.heap.size by have := HB3.out.size; have := HZ.out; omega))
   have HB2 := Aside0.mk (HB3.out.trans (hB2.mono HB3.out.size))
   have HM2 := Aside0.mk (HM1.out.same (hB2.block _ HM1.out.lt))
   clear hO hB2
   refine hK.out _ _ ⟨pw_cell_below HB2.out n0, pw_cell_below HB2.out n1⟩ (fun hHeld => ?_)
   clear hK K
   refine norm_ (a' := ?_) ?_ ?_
   rotate_left
   ·show Act.put _ (some 14) _ = _
    simp only [Act.put, List.setIfInBounds_toArray, List.set_cons_zero, List.set_cons_succ, i64_w, i32_w]
    rfl
   refine pure_ (i := 5) (N := some 15) (v := ?_) (a' := ?_) #[true, true, true, true, true, true, true, false, false, false] rfl rfl (any_of HT_.out (by kernel_rfl)) (fun _ _ _ h => h) (Or.inl ⟨by rfl, ?_⟩) ?_ ?_
   rotate_left
   ·intro w'
    go_simp
    with_reducible rfl
   rotate_left
   ·simp only [Act.put, List.setIfInBounds_toArray, List.set_cons_zero, List.set_cons_succ, i64_w, i32_w]
    rfl
   refine pure_ (i := 7) (N := some 17) (v := ?_) (a' := ?_) #[true, true, true, true, true, true, true, true, false, false] rfl rfl (any_of HT_.out (by kernel_rfl)) (fun _ _ _ h => h) (Or.inl ⟨by rfl, ?_⟩) ?_ ?_
   rotate_left
   ·intro w'
    go_simp
    with_reducible rfl
   rotate_left
   ·simp only [Act.put, List.setIfInBounds_toArray, List.set_cons_zero, List.set_cons_succ, i64_w, i32_w]
    rfl
   refine one_ (i := 8) (N := some 18) #[true, true, true, true, true, true, true, true, true, false] rfl rfl (one_of HT_.out (by kernel_rfl)) (by decide) (fun K hK => ?_)
   refine box_step ?hg (N := 18) ?hd (cs := #[.int .i64 s, .slice A9 at_.length c9, .slice none 0 0, .map (some bm)]) (t := 73) ?hr ?_; (case hd => rfl); (case hg => rfl); (case hr => first | (go_simp; done) | (go_simp; rfl))
   intro gb hg w4 hbox hb
   have HF : Aside0 (RunAt w4 w.heap.size gb bm s (.slice A9 at_.length c9) at_ (.slice none 0 0) [] [] [] []) := ⟨new_run hbox (by rw [hg]; have := HB2.out.size; have := HZ.out; omega) HGM.out (HM2.out.same (hb.block _ HM2.out.lt)) (pw_own_below HO.out hb)⟩
   have HB4 := Aside0.mk (HB2.out.trans (hb.mono HB2.out.size))
   clear hg hbox hb
   refine hK.out _ _ ⟨pw_cell_below HB4.out n0, pw_cell_below HB4.out n1⟩ (fun hHeld => ?_)
   clear hK K
   refine norm_ (a' := ?_) ?_ ?_
   rotate_left
   ·show Act.put _ (some 18) _ = _
    simp only [Act.put, List.setIfInBounds_toArray, List.set_cons_zero, List.set_cons_succ, i64_w, i32_w]
    rfl
   refine pure_ (i := 9) (N := some 5) (v := ?_) (a' := ?_) #[true, true, true, true, true, true, true, true, true, true] rfl rfl (any_of HT_.out (by kernel_rfl)) (fun _ _ _ h => h) (Or.inl ⟨by rfl, ?_⟩) ?_ ?_
   rotate_left
   ·intro w'
    go_simp
    with_reducible rfl
   rotate_left
   ·simp only [Act.put, List.setIfInBounds_toArray, List.set_cons_zero, List.set_cons_succ, i64_w, i32_w]
    rfl
   exact norm_ (by simp only [putAll, Act.put, List.setIfInBounds_toArray, List.set_cons_zero, List.set_cons_succ]) (hCont (A9, c9, bm, gb) _ ⟨HF.out, HB4.out⟩)
 rintro ⟨A9, c9, bm, br⟩ w4 ⟨hRun, hB4⟩
 refine norm_ (a' := ?_) ?_ ?_
 rotate_left
 ·simp only [putAll, Act.put, List.setIfInBounds_toArray, List.set_cons_zero, List.set_cons_succ]
  rfl
 refine done_ (done_of HT_.out (by kernel_rfl)) ?_
 have HBW2 : Aside0 (Below w.heap.size w w4) := ⟨HBW.out.trans (hB4.mono HBW.out.size)⟩
 have k2 : w4.cell? ⟨w.heap.size + 1, 2, none⟩ = some (.slice A2 tp.length c2) := pw_cell_below hB4 n2
 have HMB : Aside0 (w4.heap[w.heap.size]? = some (.cells #[.int .i64 a0, .int .i64 a1, .int .i64 a2, .slice A rs.length c] 24 (0, 0))) := ⟨(hB4.block _ (by have := HZ.out; omega)).trans hMB⟩
 have HRN := Aside0.mk hRun
 have HB4 := Aside0.mk hB4
 clear n0 n1 n2 hMB hRun hB4
 go_wp2
 go_loopg [22] tp.length (fun gg s22 wr => ∃ i : Int, s22 = .int .i64 i ∧ Aside0 (0 ≤ i) ∧ Aside0 ((tp.length : Int) - i = gg) ∧ Aside0 (Below w.heap.size w wr) ∧ Aside0 (wr.heap[w.heap.size]? = some (.cells #[.int .i64 a0, .int .i64 a1, .int .i64 a2, .slice A rs.length c] 24 (0, 0))) ∧ Aside0 (∃ v2 us, RunAt wr w.heap.size br bm s (.slice A9 at_.length c9) at_ v2 us us (tp.take i.toNat) []))
 case atStart => exact ⟨0, rfl, ⟨by omega⟩, ⟨by omega⟩, HBW2, HMB, ⟨_, _, by simpa using HRN.out⟩⟩
 case round =>
  obtain ⟨i, rfl, HI, HG, HBR, HM3, HRX⟩ := hrel
  obtain ⟨v2, us, hRun⟩ := HRX.out
  have hi := HI.out
  clear k2
  by_cases cl : i < (tp.length : Int)
  ·have clb : decide (i < (tp.length : Int)) = true := decide_eq_true cl
   obtain ⟨ad, B1, d1, e1, hx, hlc, hC1⟩ := at_L1 (Kd.C_below H2.out HBR.out) i hi cl
   subst e1
   have p1 := eq_true hi
   have q1 := eq_true cl
   have HC1 := Aside0.mk hC1
   have HLI : Aside0 ((rd_L1 tp i).length ≤ 1000000) := ⟨by have := HTL.out i.toNat; rw [show ((i.toNat : Nat) : Int) = i by omega] at this; exact this⟩
   have HRI := Aside0.mk hRun
   have HUS : Aside0 (us.length ≤ 1000000) := ⟨by have := hRun.len1; have := HT.out; simp at *; omega⟩
   have HWZ : Aside0 (w.heap.size ≤ wr.heap.size) := ⟨HBR.out.size⟩
   have x2 : wr.cell? ⟨br, 2, none⟩ = some v2 := (run_cells4 hRun.cells).2.2.1
   obtain ⟨A7, c7, rfl⟩ := own_slice hRun.row2
   have i0 : 0 ≤ i := HI.out
   have i1 : i ≤ 1000000 := by have := HT.out; omega
   clear hC1 hlc hRun hi cl
   go_wp2
   refine start_ (n := 14) (S := fun w' => w'.cell? ⟨br, 2, none⟩ = some (.slice A7 us.length c7)) (ds := [13]) #[false, false, false, false, false, false, false, false, false, false, false, false, false, false] (by kernel_rfl) rfl rfl x2 (fun hHeld => ?_); refine with_tabW reg53b.tab reg53b.bits (fun HT_ HW_ => ?_)
   have HB0 := Aside0.mk (below_drew (Below.refl wr.heap.size wr))
   generalize wr.drew = W0 at HB0 hHeld ⊢
   refine pure_ (i := 0) (N := some 26) (v := ?_) (a' := ?_) #[true, false, false, false, false, false, false, false, false, false, false, false, false, false] rfl rfl (any_of HT_.out (by kernel_rfl)) (fun _ _ _ h => h) (Or.inl ⟨by rfl, ?_⟩) ?_ ?_
   rotate_left
   ·intro w'
    go_simp
    with_reducible rfl
   rotate_left
   ·simp only [Act.put, List.setIfInBounds_toArray, List.set_cons_zero, List.set_cons_succ, i64_w, i32_w]
    rfl
   refine pure_ (i := 1) (N := some 27) (v := ?_) (a' := ?_) #[true, true, false, false, false, false, false, false, false, false, false, false, false, false] rfl rfl (any_of HT_.out (by kernel_rfl)) (fun _ _ _ h => h) (Or.inl ⟨by rfl, ?_⟩) ?_ ?_
   rotate_left
   ·intro w'
    go_simp
    with_reducible rfl
   rotate_left
   ·simp only [Act.put, List.setIfInBounds_toArray, List.set_cons_zero, List.set_cons_succ, i64_w, i32_w]
    rfl
   refine pure_ (i := 2) (N := some 28) (v := ?_) (a' := ?_) #[true, true, true, false, false, false, false, false, false, false, false, false, false, false] rfl rfl (any_of HT_.out (by kernel_rfl)) (fun _ _ _ h => h) (Or.inl ⟨by rfl, ?_⟩) ?_ ?_
   rotate_left
   ·intro w'
    go_simp
    with_reducible rfl
   rotate_left
   ·simp only [Act.put, List.setIfInBounds_toArray, List.set_cons_zero, List.set_cons_succ, i64_w, i32_w]
    rfl
   refine pure_ (i := 3) (N := some 29) (v := ?_) (a' := ?_) #[true, true, true, true, false, false, false, false, false, false, false, false, false, false] rfl rfl (any_of HT_.out (by kernel_rfl)) (fun _ _ _ h => h) (Or.inl ⟨by rfl, ?_⟩) ?_ ?_
   rotate_left
   ·intro w'
    go_simp
    with_reducible rfl
   rotate_left
   ·simp only [Act.put, List.setIfInBounds_toArray, List.set_cons_zero, List.set_cons_succ, i64_w, i32_w]
    rfl
   refine pure_ (i := 4) (N := some 30) (v := ?_) (a' := ?_) #[true, true, true, true, true, false, false, false, false, false, false, false, false, false] rfl rfl (any_of HT_.out (by kernel_rfl)) (fun _ _ _ h => h) (Or.inl ⟨by rfl, ?_⟩) ?_ ?_
   rotate_left
   ·intro w'
    go_simp
    with_reducible rfl
   rotate_left
   ·simp only [Act.put, List.setIfInBounds_toArray, List.set_cons_zero, List.set_cons_succ, i64_w, i32_w]
    rfl
   refine take_ (i := 5) (N := some 31) (v := ?_) (a' := ?_) #[true, true, true, true, true, true, false, false, false, false, false, false, false, false] rfl rfl (take_ofW HT_.out HW_.out (by kernel_rfl)) (fun _ _ _ h => h) (Or.inl ⟨by rfl, ?_⟩) hHeld ?_ ?_
   rotate_left
   ·rintro w' s0
    go_simp
    with_reducible rfl
   rotate_left
   ·simp only [Act.put, List.setIfInBounds_toArray, List.set_cons_zero, List.set_cons_succ, i64_w, i32_w]
    rfl
   refine pure_ (i := 6) (N := some 32) (v := ?_) (a' := ?_) #[true, true, true, true, true, true, true, false, false, false, false, false, false, false] rfl rfl (any_of HT_.out (by kernel_rfl)) (fun _ _ _ h => h) (Or.inl ⟨by rfl, ?_⟩) ?_ ?_
   rotate_left
   ·intro w'
    go_simp
    with_reducible rfl
   rotate_left
   ·simp only [Act.put, List.setIfInBounds_toArray, List.set_cons_zero, List.set_cons_succ, i64_w, i32_w]
    rfl
   refine one_ (i := 7) (N := some 33) #[true, true, true, true, true, true, true, true, false, false, false, false, false, false] rfl rfl (one_of HT_.out (by kernel_rfl)) (by decide) (fun K hK => ?_)
   refine goes_ Tryd.func49 (by kernel_rfl) rfl #[.slice B1 (rd_L1 tp i).length d1] (by rfl) rfl rfl (by (try simp only [List.map_toArray, List.map_cons, List.map_nil]); first | done | rfl) ?_
   refine (clone_calls B1 d1 (rd_L1 tp i) W0 (Kd.C_below HC1.out HB0.out) HLI.out).mono ?_
   rintro e w2 ⟨u, rfl, hO, hB2⟩
   refine ⟨_, rfl, ?_⟩
   obtain ⟨A6, c6, rfl, _, _⟩ := own_C hO
   have HB2 := Aside0.mk (HB0.out.trans (hB2.mono HB0.out.size))
   have HO2 : Aside0 (w2.ownsRow wr.heap.size 3 1 (.slice A6 (rd_L1 tp i).length c6) (rd_L1 tp i).length ((rd_L1 tp i).map (Value.int .i64))) := ⟨hO.mono HB0.out.size⟩
   clear hO hB2
   refine hK.out _ _ (pw_cell_below HB2.out x2) (fun hHeld => ?_)
   clear hK K
   refine norm_ (a' := ?_) ?_ ?_
   rotate_left
   ·show Act.put _ (some 33) _ = _
    simp only [Act.put, List.setIfInBounds_toArray, List.set_cons_zero, List.set_cons_succ, i64_w, i32_w]
    rfl
   refine one_ (i := 8) (N := some 34) #[true, true, true, true, true, true, true, true, true, false, false, false, false, false] rfl rfl (one_of HT_.out (by kernel_rfl)) (by decide) (fun K hK => ?_)
   refine event_step (v := .slice (some ⟨w2.heap.size, 0, none⟩) 1 1) (w1 := w2.alloc (.cells #[.slice A6 (rd_L1 tp i).length c6] 38)) (by rfl) (by go_simp; first | done | rfl) ?_
   have HB3 := Aside0.mk (HB2.out.alloc HB2.out.size (.cells #[.slice A6 (rd_L1 tp i).length c6] 38))
   refine hK.out _ _ (pw_cell_below HB3.out x2) (fun hHeld => ?_)
   clear hK K
   refine norm_ (a' := ?_) ?_ ?_
   rotate_left
   ·show Act.put _ (some 34) _ = _
    simp only [Act.put, List.setIfInBounds_toArray, List.set_cons_zero, List.set_cons_succ, i64_w, i32_w]
    rfl
   refine one_ (i := 9) (N := some 35) #[true, true, true, true, true, true, true, true, true, true, false, false, false, false] rfl rfl (one_of HT_.out (by kernel_rfl)) (by decide) (fun K hK => ?_)
   obtain ⟨v2', w5, hrun, r1, hg, r5⟩ := run_append_one w.heap.size 41 38 (.slice none 0 0) 24 Tryd.underlying41 info38 rfl (by decide) (.slice A7 us.length c7) us.length us (.slice A6 (rd_L1 tp i).length c6) rfl ((HRI.out.below HB2.out).row2) HUS.out (by have := HB2.out.size; have := HWZ.out; omega)
   obtain ⟨A8, c8, rfl⟩ := own_slice r1
   refine event_step (v := .slice A8 (us.length + 1) c8) (w1 := w5) (by rfl) (exec_append (.tmp 31) (.tmp 34) 41 41 rfl rfl (by rfl) (by rfl) hrun) ?_
   have x5 : w5.cell? ⟨br, 2, none⟩ = some (.slice A7 us.length c7) := outer_cell (HRI.out.below HB2.out) hg
   have HRP := Aside0.mk (HRI.out.push HB2.out HO2.out hg r1 HWZ.out)
   have HG5 := Aside0.mk hg
   clear hrun r1 hg r5
   refine hK.out _ _ x5 (fun hHeld => ?_)
   clear hK K
   refine norm_ (a' := ?_) ?_ ?_
   rotate_left
   ·show Act.put _ (some 35) _ = _
    simp only [Act.put, List.setIfInBounds_toArray, List.set_cons_zero, List.set_cons_succ, i64_w, i32_w]
    rfl
   refine pure_ (i := 10) (N := some 36) (v := ?_) (a' := ?_) #[true, true, true, true, true, true, true, true, true, true, true, false, false, false] rfl rfl (any_of HT_.out (by kernel_rfl)) (fun _ _ _ h => h) (Or.inl ⟨by rfl, ?_⟩) ?_ ?_
   rotate_left
   ·intro w'
    go_simp
    with_reducible rfl
   rotate_left
   ·simp only [Act.put, List.setIfInBounds_toArray, List.set_cons_zero, List.set_cons_succ, i64_w, i32_w]
    rfl
   refine pure_ (i := 11) (N := some 37) (v := ?_) (a' := ?_) #[true, true, true, true, true, true, true, true, true, true, true, true, false, false] rfl rfl (any_of HT_.out (by kernel_rfl)) (fun _ _ _ h => h) (Or.inl ⟨by rfl, ?_⟩) ?_ ?_
   rotate_left
   ·intro w'
    go_simp
    with_reducible rfl
   rotate_left
   ·simp only [Act.put, List.setIfInBounds_toArray, List.set_cons_zero, List.set_cons_succ, i64_w, i32_w]
    rfl
   refine pure_ (i := 12) (N := some 38) (v := ?_) (a' := ?_) #[true, true, true, true, true, true, true, true, true, true, true, true, true, false] rfl rfl (any_of HT_.out (by kernel_rfl)) (fun _ _ _ h => h) (Or.inl ⟨by rfl, ?_⟩) ?_ ?_
   rotate_left
   ·intro w'
    go_simp
    with_reducible rfl
   rotate_left
   ·simp only [Act.put, List.setIfInBounds_toArray, List.set_cons_zero, List.set_cons_succ, i64_w, i32_w]
    rfl
   refine last_ (i := 13) (N := none) #[true, true, true, true, true, true, true, true, true, true, true, true, true, true] rfl rfl (one_of HT_.out (by kernel_rfl)) (by decide) (fun K hK => ?_)
   have xf : w5.frozen? ⟨br, 2, none⟩ = false := outer_frozen (HRI.out.below HB2.out) HG5.out
   refine skip_ (w1 := ?_) (by rfl) rfl ?_ ?_
   rotate_left
   ·go_simp
    rfl
   refine hK.out _ _ ?_
   clear hK K
   refine done_ (done_of HT_.out (by kernel_rfl)) ?_
   have hwz := HWZ.out
   have hw2 := HB2.out.size
   go_wp2
   go_roundg ((tp.length : Int) - (i + 1)).toNat
   case measure => have := HG.out; have := of_eq_true q1; omega
   case rel =>
    have i2 := of_eq_true q1
    have hb5 : w5.heap[w.heap.size]? = some (.cells #[.int .i64 a0, .int .i64 a1, .int .i64 a2, .slice A rs.length c] 24 (0, 0)) := (HG5.out.block _ (by have := HB2.out.size; have := (Array.getElem?_eq_some_iff.1 HM3.out).1; omega) (fun e => by
     obtain ⟨c', hc'⟩ := own_typed (HRI.out.below HB2.out).row2 w.heap.size e.symm
     exact ne_of_typed ((HB2.out.block _ (Array.getElem?_eq_some_iff.1 HM3.out).1).trans HM3.out) hc' (by decide) rfl)).trans ((HB2.out.block _ (Array.getElem?_eq_some_iff.1 HM3.out).1).trans HM3.out)
    have hne : w.heap.size ≠ br := by
     rintro e
     have := HRI.out.cells
     rw [← e, HM3.out] at this
     injection this with this
     injection this with _ this
     exact absurd this (by decide)
    have hbr := HRI.out.hbr
    refine ⟨i + 1, rfl, ⟨by omega⟩, ⟨by omega⟩, ⟨?_⟩, ⟨?_⟩, ⟨.slice A8 (us.length + 1) c8, us ++ [.slice A6 (rd_L1 tp i).length c6], ?_⟩⟩
    ·exact ((HBR.out.trans (HB2.out.mono HWZ.out)).grown HG5.out (by omega) (fun k hk => own_base HRI.out.row2 k hk)).setCell (p := ⟨br, 2, none⟩) hbr _
    ·rw [heap_setCell_other _ ⟨br, 2, none⟩ _ _ hne]; exact hb5
    ·have e9 : tp.take (i + 1).toNat = tp.take i.toNat ++ [rd_L1 tp i] := by
      rw [show (i + 1).toNat = i.toNat + 1 by omega, List.take_succ_eq_append_getElem (by omega)]
      simp [rd_L1, List.getD_eq_getElem?_getD, List.getElem?_eq_getElem (show i.toNat < tp.length by omega)]
     rw [e9]
     exact HRP.out
  ·have clb : decide (i < (tp.length : Int)) = false := decide_eq_false cl
   have hft : tp.take i.toNat = tp := List.take_of_length_le (by omega)
   rw [hft] at hRun
   have HR0 := Aside0.mk hRun
   have m3 : wr.cell? ⟨w.heap.size, 3, none⟩ = some (.slice A rs.length c) := by have := HM3.out; simp [World.cell?, this]
   clear hft hRun hi cl HRX
   go_wp2
   have HRK : Aside0 (RulesAt wM (rs.take (0 : Int).toNat) []) := ⟨⟨rfl, fun i r h => by simp at h⟩⟩
   go_loopg [43] rs.length (fun gg s43 wr => ∃ j : Int, s43 = .int .i64 j ∧ Aside0 (0 ≤ j) ∧ Aside0 ((rs.length : Int) - j = gg) ∧ Aside0 (Below w.heap.size w wr) ∧ Aside0 (∃ L, RunAt wr w.heap.size br bm s (.slice A9 at_.length c9) at_ v2 us us tp L ∧ AreKeys L ∧ RulesAt wM (rs.take j.toNat) L))
   case atStart => exact ⟨0, rfl, ⟨by omega⟩, ⟨by omega⟩, HBR, ⟨[], HR0.out, (fun p hp => by cases hp), HRK.out⟩⟩
   case round =>
    obtain ⟨j, rfl, HJ, HJG, HBJ, HRJ⟩ := hrel
    obtain ⟨L, hRun, hAK, hRA⟩ := HRJ.out
    have hj := HJ.out
    clear m3
    by_cases cj : j < (rs.length : Int)
    ·have cjb : decide (j < (rs.length : Int)) = true := decide_eq_true cj
     have HBJM : Aside0 (Below wM.heap.size wM wr) := ⟨HMW.out.trans (HBJ.out.mono HMW.out.size)⟩
     obtain ⟨ad, B1, e1, B3, e3, B4, e4, ea, x0, x1, x2, x3, x4, l1, g1, l3, g3, l4, g4⟩ := at_T40 (Kd.C_below HR.out HBJM.out) j hj cj
     obtain ⟨ad', B1', e1', B3', e3', B4', e4', ea', x0', x1', x2', x3', x4', l1', g1', l3', g3', l4', g4'⟩ := at_T40 HR.out j hj cj
     have hsame : ∀ {p : Addr} {u v : Value}, wM.cell? p = some u → wr.cell? p = some v → u = v := fun h1 h2 => by
      have := pw_cell_below HBJM.out h1
      rw [h2] at this; injection this with this; exact this.symm
     have ha' : ad' = ad := by rw [ea] at ea'; injection ea' with h; exact h.symm
     subst ha'
     obtain ⟨rfl, _, rfl⟩ : B1' = B1 ∧ True ∧ e1' = e1 := by have := hsame x1' x1; injection this with h1 _ h2; exact ⟨h1, trivial, h2⟩
     obtain ⟨rfl, _, rfl⟩ : B3' = B3 ∧ True ∧ e3' = e3 := by have := hsame x3' x3; injection this with h1 _ h2; exact ⟨h1, trivial, h2⟩
     obtain ⟨rfl, _, rfl⟩ : B4' = B4 ∧ True ∧ e4' = e4 := by have := hsame x4' x4; injection this with h1 _ h2; exact ⟨h1, trivial, h2⟩
     subst ea
     have p2 := eq_true hj
     have q2 := eq_true cj
     have hmem : rd_T40 rs j ∈ rs := by
      simp only [rd_T40, List.getD_eq_getElem?_getD, List.getElem?_eq_getElem (show j.toNat < rs.length by omega)]
      exact List.getElem_mem _
     have htake : rs.take (j + 1).toNat = rs.take j.toNat ++ [rd_T40 rs j] := by
      rw [show (j + 1).toNat = j.toNat + 1 by omega, List.take_succ_eq_append_getElem (by omega)]
      simp [rd_T40, List.getD_eq_getElem?_getD, List.getElem?_eq_getElem (show j.toNat < rs.length by omega)]
     have HSX := Aside0.mk (HS.out _ hmem)
     have HTK := Aside0.mk htake
     have HL1 := Aside0.mk l1'
     have HL3 := Aside0.mk l3'
     have HL4 := Aside0.mk l4'
     have HG1 := Aside0.mk g1'
     have HG3 := Aside0.mk g3'
     have HG4 := Aside0.mk g4'
     have HAK := Aside0.mk hAK
     have HRA := Aside0.mk hRA
     have HRO := Aside0.mk hRun
     clear hsame x0' x1' x2' x3' x4' l1 l3 l4 l1' l3' l4' g1 g3 g4 g1' g3' g4' hmem htake hj cj hAK hRA hRun
     generalize hx : rd_T40 rs j = x at *
     clear hx
     go_wp2
     obtain ⟨w5, hw5⟩ : ∃ w5, wr.alloc (Obj.cells #[.int .i64 x.f0, .slice B1' x.f1.length e1', .int .i64 x.f2, .slice B3' x.f3.length e3', .slice B4' x.f4.length e4'] 40) = w5 := ⟨_, rfl⟩
     obtain ⟨gx, hgx⟩ : ∃ gx, wr.heap.size = gx := ⟨_, rfl⟩
     have HBX : Aside0 (w5.heap[gx]? = some (.cells #[.int .i64 x.f0, .slice B1' x.f1.length e1', .int .i64 x.f2, .slice B3' x.f3.length e3', .slice B4' x.f4.length e4'] 40)) := ⟨by rw [← hw5, ← hgx]; exact heap_alloc_new _ _⟩
     have HB5W : Aside0 (Below wr.heap.size wr w5) := ⟨by rw [← hw5]; exact (Below.refl _ _).alloc (Nat.le_refl _) _⟩
     have HRI : Aside0 (RunAt w5 w.heap.size br bm s (.slice A9 at_.length c9) at_ v2 us us tp L) := ⟨HRO.out.below HB5W.out⟩
     have k3 : w5.cell? ⟨br, 3, none⟩ = some (.map (some bm)) := (run_cells4 HRI.out.cells).2.2.2
     have HX3 : Aside0 (x.f1.length ≤ 3) := ⟨HSX.out.2⟩
     have HC1 : Aside0 (Kd.C (Kd.int .i64) w5 B1' x.f1.length x.f1) := ⟨Kd.C_below (Kd.C_below HG1.out HBJM.out) HB5W.out⟩
     obtain ⟨kl, hkl⟩ := keyOf_key HSX.out.1
     have HKX := Aside0.mk hkl
     have HKS := HAK
     have HNK : Aside0 (∀ p ∈ L, p.1 ≠ keyV x.f0 x.f1) := ⟨key_new HN.out HTK.out HRA.out⟩
     have b0 : 0 ≤ j := HJ.out
     have b1 : j ≤ 9223372036854775806 := by have := HR.out.2.1; have := of_eq_true q2; omega
     rw [hw5]
     rw [hgx]
     clear hgx hw5 hkl
     refine start_ (n := 11) (S := fun w' => w'.cell? ⟨br, 3, none⟩ = some (.map (some bm)) ∧ w'.heap[gx]? = some (.cells #[.int .i64 x.f0, .slice B1' x.f1.length e1', .int .i64 x.f2, .slice B3' x.f3.length e3', .slice B4' x.f4.length e4'] 40 (0, 0))) (ds := [10]) #[false, false, false, false, false, false, false, false, false, false, false] (by kernel_rfl) rfl rfl ⟨k3, HBX.out⟩ (fun hHeld => ?_); refine with_tabW reg53c.tab reg53c.bits (fun HT_ HW_ => ?_)
     have HB0 := Aside0.mk (below_drew (Below.refl w5.heap.size w5))
     generalize w5.drew = W0 at HB0 hHeld ⊢
     refine pure_ (i := 0) (N := some 47) (v := ?_) (a' := ?_) #[true, false, false, false, false, false, false, false, false, false, false] rfl rfl (any_of HT_.out (by kernel_rfl)) (fun _ _ _ h => h) (Or.inl ⟨by rfl, ?_⟩) ?_ ?_
     rotate_left
     ·intro w'
      go_simp
      with_reducible rfl
     rotate_left
     ·simp only [Act.put, List.setIfInBounds_toArray, List.set_cons_zero, List.set_cons_succ, i64_w, i32_w]
      rfl
     refine pure_ (i := 1) (N := some 48) (v := ?_) (a' := ?_) #[true, true, false, false, false, false, false, false, false, false, false] rfl rfl (any_of HT_.out (by kernel_rfl)) (fun _ _ _ h => h) (Or.inl ⟨by rfl, ?_⟩) ?_ ?_
     rotate_left
     ·intro w'
      go_simp
      with_reducible rfl
     rotate_left
     ·simp only [Act.put, List.setIfInBounds_toArray, List.set_cons_zero, List.set_cons_succ, i64_w, i32_w]
      rfl
     refine pure_ (i := 2) (N := some 49) (v := ?_) (a' := ?_) #[true, true, true, false, false, false, false, false, false, false, false] rfl rfl (any_of HT_.out (by kernel_rfl)) (fun _ _ _ h => h) (Or.inl ⟨by rfl, ?_⟩) ?_ ?_
     rotate_left
     ·intro w'
      go_simp
      with_reducible rfl
     rotate_left
     ·simp only [Act.put, List.setIfInBounds_toArray, List.set_cons_zero, List.set_cons_succ, i64_w, i32_w]
      rfl
     refine take_ (i := 3) (N := some 50) (v := ?_) (a' := ?_) #[true, true, true, true, false, false, false, false, false, false, false] rfl rfl (take_ofW HT_.out HW_.out (by kernel_rfl)) (fun _ _ _ h => h) (Or.inl ⟨by rfl, ?_⟩) hHeld ?_ ?_
     rotate_left
     ·rintro w' ⟨s0, s1⟩
      go_simp
      with_reducible rfl
     rotate_left
     ·simp only [Act.put, List.setIfInBounds_toArray, List.set_cons_zero, List.set_cons_succ, i64_w, i32_w]
      rfl
     refine pure_ (i := 4) (N := some 51) (v := ?_) (a' := ?_) #[true, true, true, true, true, false, false, false, false, false, false] rfl rfl (any_of HT_.out (by kernel_rfl)) (fun _ _ _ h => h) (Or.inl ⟨by rfl, ?_⟩) ?_ ?_
     rotate_left
     ·intro w'
      go_simp
      with_reducible rfl
     rotate_left
     ·simp only [Act.put, List.setIfInBounds_toArray, List.set_cons_zero, List.set_cons_succ, i64_w, i32_w]
      rfl
     refine take_ (i := 5) (N := some 52) (v := ?_) (a' := ?_) #[true, true, true, true, true, true, false, false, false, false, false] rfl rfl (take_ofW HT_.out HW_.out (by kernel_rfl)) (fun _ _ _ h => h) (Or.inl ⟨by rfl, ?_⟩) hHeld ?_ ?_
     rotate_left
     ·rintro w' ⟨s0, s1⟩
      obtain ⟨z0, z1, z2, z3, z4⟩ := cells5 s1; go_simp
      with_reducible rfl
     rotate_left
     ·simp only [Act.put, List.setIfInBounds_toArray, List.set_cons_zero, List.set_cons_succ, i64_w, i32_w]
      rfl
     refine pure_ (i := 6) (N := some 53) (v := ?_) (a' := ?_) #[true, true, true, true, true, true, true, false, false, false, false] rfl rfl (any_of HT_.out (by kernel_rfl)) (fun _ _ _ h => h) (Or.inl ⟨by rfl, ?_⟩) ?_ ?_
     rotate_left
     ·intro w'
      go_simp
      with_reducible rfl
     rotate_left
     ·simp only [Act.put, List.setIfInBounds_toArray, List.set_cons_zero, List.set_cons_succ, i64_w, i32_w]
      rfl
     refine take_ (i := 7) (N := some 54) (v := ?_) (a' := ?_) #[true, true, true, true, true, true, true, true, false, false, false] rfl rfl (take_ofW HT_.out HW_.out (by kernel_rfl)) (fun _ _ _ h => h) (Or.inl ⟨by rfl, ?_⟩) hHeld ?_ ?_
     rotate_left
     ·rintro w' ⟨s0, s1⟩
      obtain ⟨z0, z1, z2, z3, z4⟩ := cells5 s1; go_simp
      with_reducible rfl
     rotate_left
     ·simp only [Act.put, List.setIfInBounds_toArray, List.set_cons_zero, List.set_cons_succ, i64_w, i32_w]
      rfl
     refine take_ (i := 9) (N := some 56) (v := ?_) (a' := ?_) #[true, true, true, true, true, true, true, true, false, true, false] rfl rfl (take_ofW HT_.out HW_.out (by kernel_rfl)) (fun _ _ _ h => h) (Or.inl ⟨by rfl, ?_⟩) hHeld ?_ ?_
     rotate_left
     ·rintro w' ⟨s0, s1⟩
      obtain ⟨z0, z1, z2, z3, z4⟩ := cells5 s1; go_simp
      with_reducible rfl
     rotate_left
     ·simp only [Act.put, List.setIfInBounds_toArray, List.set_cons_zero, List.set_cons_succ, i64_w, i32_w]
      rfl
     refine one_ (i := 8) (N := some 55) #[true, true, true, true, true, true, true, true, true, true, false] rfl rfl (one_of HT_.out (by kernel_rfl)) (by decide) (fun K hK => ?_)
     refine goes_ Tryd.func24 (by kernel_rfl) rfl #[.int .i64 x.f0, .slice B1' x.f1.length e1'] (by rfl) rfl rfl (by (try simp only [List.map_toArray, List.map_cons, List.map_nil]); first | done | rfl) ?_
     refine (keyOf_agg x.f0 B1' e1' x.f1 W0 HX3.out (Kd.C_below HC1.out HB0.out)).mono ?_
     rintro e w2 ⟨rfl, hB2⟩
     refine ⟨_, rfl, ?_⟩
     have HB2 := Aside0.mk (HB0.out.trans (hB2.mono HB0.out.size))
     clear hB2
     refine hK.out _ _ ⟨pw_cell_below HB2.out k3, (HB2.out.block _ (Array.getElem?_eq_some_iff.1 HBX.out).1).trans HBX.out⟩ (fun hHeld => ?_)
     clear hK K
     refine norm_ (a' := ?_) ?_ ?_
     rotate_left
     ·show Act.put _ (some 55) _ = _
      simp only [Act.put, List.setIfInBounds_toArray, List.set_cons_zero, List.set_cons_succ, i64_w, i32_w]
      rfl
     refine last_ (i := 10) (N := none) #[true, true, true, true, true, true, true, true, true, true, true] rfl rfl (one_of HT_.out (by kernel_rfl)) (by decide) (fun K hK => ?_)
     obtain ⟨w6, hst, hM6, hg6⟩ := run_store (val := .agg #[.int .i64 x.f0, .slice B1' x.f1.length e1', .int .i64 x.f2, .slice B3' x.f3.length e3', .slice B4' x.f4.length e4']) Tryd.underlying71 (HRI.out.below HB2.out).map HKS.out HKX.out HNK.out
     simp only [keyV] at hst
     refine skip_ (w1 := w6) (by rfl) rfl ?_ ?_
     ·go_simp; try (first | done | rfl | (simp only [hst]; go_simp))
     have HR6 := Aside0.mk ((HRI.out.below HB2.out).setMap hg6 hM6)
     have HG6 := Aside0.mk hg6
     clear hst hM6 hg6
     refine hK.out _ _ ?_
     clear hK K
     refine done_ (done_of HT_.out (by kernel_rfl)) ?_
     try go_wp2
     go_roundg ((rs.length : Int) - (j + 1)).toNat
     case measure => have := HJG.out; have := of_eq_true q2; omega
     case rel =>
      have j2 := of_eq_true q2
      refine ⟨j + 1, rfl, ⟨by omega⟩, ⟨by omega⟩, ⟨?_⟩, ⟨L ++ [(keyV x.f0 x.f1, .agg #[.int .i64 x.f0, .slice B1' x.f1.length e1', .int .i64 x.f2, .slice B3' x.f3.length e3', .slice B4' x.f4.length e4'])], HR6.out, ?_, rules_next HTK.out HRA.out HL1.out HG1.out HL3.out HG3.out HL4.out HG4.out⟩⟩
      ·have h5 : Below w.heap.size w w5 := HBJ.out.trans (HB5W.out.mono HBJ.out.size)
       have h6 : Below w.heap.size w w2 := h5.trans (HB2.out.mono h5.size)
       exact h6.grown HG6.out h6.size (fun k hk => by injection hk with hk; rw [← hk]; exact HRI.out.hbm)
      ·intro p hp
       rcases List.mem_append.1 hp with hp | hp
       ·exact HKS.out p hp
       ·simp at hp; subst hp; exact ⟨kl, HKX.out⟩
    ·have cjb : decide (j < (rs.length : Int)) = false := decide_eq_false cj
     have hft : rs.take j.toNat = rs := List.take_of_length_le (by omega)
     rw [hft] at hRA
     have HF1 := Aside0.mk hRun
     have HF2 := Aside0.mk hAK
     have HF3 := Aside0.mk hRA
     clear hft hRA hAK hRun hj cj HRJ
     go_wp2
     go_ret
     exact ⟨br, bm, _, _, us, L, rfl, HF1.out, HF2.out, HF3.out, HBJ.out⟩
end Go.Proofs.YtfoodfhhdbaieaaDoor.Giv
