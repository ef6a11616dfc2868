-- CUT by a program of this session: what the claim does not use is left out
import Derived.Test.YtfoodfhhdbaieaaDoorT22
namespace Go.Proofs.YtfoodfhhdbaieaaDoor.Giv
set_option maxRecDepth 100000
set_option linter.unusedSimpArgs false
set_option linter.unusedVariables false
open Go.RowKit Go.Shelf Go.Proofs.YtfoodfhhdbaieaaDoorW.PrintWords Go.Proofs.YtfoodfhhdbaieaaDoorW.PrintLast Go.Proofs.YtfoodfhhdbaieaaDoorW.PrintMore

def reg18.T : Bool × List (List Nat × List Nat) := (true, [([], []), ([0], [0]), ([], []), ([2], [2]), ([], []), ([], []), ([5], [5]), ([4, 6], [4, 6]), ([], []), ([8], [8]), ([], []), ([], []), ([11], [11]), ([10, 12, 7], [10, 12]), ([], []), ([], []), ([15], [15]), ([14, 16, 13], [14, 16]), ([3, 7, 9, 13, 17], [3, 7, 9, 13, 17]), ([18], [18]), ([1, 19, 17], [1, 19]), ([0, 1, 2, 3, 4, 5, 6, 7, 8, 9, 10, 11, 12, 13, 14, 15, 16, 17, 18, 19, 20], []), ([21, 20, 20, 0, 1, 2, 3, 4, 5, 6, 7, 8, 9, 10, 11, 12, 13, 14, 15, 16, 17, 18, 19, 20], [20, 21])])
def reg18.B : List Nat := [0, 1, 0, 4, 0, 0, 32, 112, 0, 256, 0, 0, 2048, 7408, 0, 0, 32768, 130288, 262140, 524284, 1048575, 2097151, 4194303]
theorem reg18.tab : rtab .any (opsOf Tryd.f11 6) = reg18.T := by kernel_rfl
theorem reg18.bits : waitsOk reg18.T.2 reg18.B = true := by kernel_rfl
def bitsA (b1 c1 b2 c2 b3 c3 : Bool) : Array Bool := #[true, true, true, true, b1, true, true, c1, true, true, b2, true, true, c2, b3, true, true, c3, false, false, false, false, false]
def goodB (b1 c1 b2 c2 b3 c3 : Bool) : Bool := (!c1 || b1) && (!c2 || (b2 && c1)) && (!c3 || (b3 && c2))
def cntB (b1 c1 b2 c2 b3 c3 : Bool) : Nat := b1.toNat + c1.toNat + b2.toNat + c2.toNat + b3.toNat + c3.toNat
theorem copy_ready : ∀ b1 c1 b2 c2 b3 c3 : Bool, goodB b1 c1 b2 c2 b3 c3 = true → cntB b1 c1 b2 c2 b3 c3 < 6 → readyT reg18.T.2 (bitsA b1 c1 b2 c2 b3 c3).toList ≠ [] ∧ ∀ i ∈ readyT reg18.T.2 (bitsA b1 c1 b2 c2 b3 c3).toList,
  (i = 4 ∧ b1 = false ∧ goodB true c1 b2 c2 b3 c3 = true ∧ cntB true c1 b2 c2 b3 c3 = cntB b1 c1 b2 c2 b3 c3 + 1) ∨ (i = 7 ∧ b1 = true ∧ c1 = false ∧ goodB b1 true b2 c2 b3 c3 = true ∧ cntB b1 true b2 c2 b3 c3 = cntB b1 c1 b2 c2 b3 c3 + 1) ∨
  (i = 10 ∧ b2 = false ∧ goodB b1 c1 true c2 b3 c3 = true ∧ cntB b1 c1 true c2 b3 c3 = cntB b1 c1 b2 c2 b3 c3 + 1) ∨ (i = 13 ∧ b2 = true ∧ c2 = false ∧ goodB b1 c1 b2 true b3 c3 = true ∧ cntB b1 c1 b2 true b3 c3 = cntB b1 c1 b2 c2 b3 c3 + 1) ∨
  (i = 14 ∧ b3 = false ∧ goodB b1 c1 b2 c2 true c3 = true ∧ cntB b1 c1 b2 c2 true c3 = cntB b1 c1 b2 c2 b3 c3 + 1) ∨ (i = 17 ∧ b3 = true ∧ c3 = false ∧ goodB b1 c1 b2 c2 b3 true = true ∧ cntB b1 c1 b2 c2 b3 true = cntB b1 c1 b2 c2 b3 c3 + 1) := by decide +kernel
theorem copy_all : ∀ b1 c1 b2 c2 b3 c3 : Bool, cntB b1 c1 b2 c2 b3 c3 = 6 → b1 = true ∧ c1 = true ∧ b2 = true ∧ c2 = true ∧ b3 = true ∧ c3 = true := by decide
def Ch (N : Nat) (b c : Bool) (l : List Int) (u v : Value) (w : World) : Prop :=
 (b = true → ∃ g, u = .slice (some ⟨g, 0, none⟩) 0 0 ∧ w.ownsRow N 3 1 (.slice (some ⟨g, 0, none⟩) 0 0) 0 []) ∧ (c = true → ∃ B cb, v = .slice B l.length cb ∧ w.ownsRow N 3 1 (.slice B l.length cb) l.length (l.map (Value.int .i64)))
theorem Ch.below {N : Nat} {b c : Bool} {l : List Int} {u v : Value} {w w' : World} (h : Ch N b c l u v w) (hb : Below w.heap.size w w') : Ch N b c l u v w' :=
 ⟨fun e => by obtain ⟨g, e1, h1⟩ := h.1 e; exact ⟨g, e1, pw_own_below h1 hb⟩, fun e => by obtain ⟨B, cb, e1, h1⟩ := h.2 e; exact ⟨B, cb, e1, pw_own_below h1 hb⟩⟩
def put6 (a : Act) (u1 v1 u2 v2 u3 v3 : Value) : Act := putAll a [(29, u1), (32, v1), (35, u2), (38, v2), (39, u3), (42, v3)]
theorem put_same (a : Act) (t : Tmp) (x y : Value) : (a.put (some t) x).put (some t) y = a.put (some t) y := by simp [Act.put]
theorem put_comm (a : Act) {s t : Tmp} (h : s ≠ t) (x y : Value) : (a.put (some s) x).put (some t) y = (a.put (some t) y).put (some s) x := by
 simp only [Act.put]
 congr 1
 exact Array.setIfInBounds_comm _ _ h
section
variable (a : Act) (u1 v1 u2 v2 u3 v3 x : Value)
theorem put6_29 : (put6 a u1 v1 u2 v2 u3 v3).put (some 29) x = put6 a x v1 u2 v2 u3 v3 := by
 simp only [put6, putAll]
 rw [put_comm _ (by decide), put_comm _ (s := 39) (by decide), put_comm _ (s := 38) (by decide), put_comm _ (s := 35) (by decide), put_comm _ (s := 32) (by decide), put_same]
theorem put6_32 : (put6 a u1 v1 u2 v2 u3 v3).put (some 32) x = put6 a u1 x u2 v2 u3 v3 := by
 simp only [put6, putAll]
 rw [put_comm _ (by decide), put_comm _ (s := 39) (by decide), put_comm _ (s := 38) (by decide), put_comm _ (s := 35) (by decide), put_same]
theorem put6_35 : (put6 a u1 v1 u2 v2 u3 v3).put (some 35) x = put6 a u1 v1 x v2 u3 v3 := by
 simp only [put6, putAll]
 rw [put_comm _ (by decide), put_comm _ (s := 39) (by decide), put_comm _ (s := 38) (by decide), put_same]
theorem put6_38 : (put6 a u1 v1 u2 v2 u3 v3).put (some 38) x = put6 a u1 v1 u2 x u3 v3 := by
 simp only [put6, putAll]
 rw [put_comm _ (by decide), put_comm _ (s := 39) (by decide), put_same]
theorem put6_39 : (put6 a u1 v1 u2 v2 u3 v3).put (some 39) x = put6 a u1 v1 u2 v2 x v3 := by
 simp only [put6, putAll]
 rw [put_comm _ (by decide), put_same]
theorem put6_42 : (put6 a u1 v1 u2 v2 u3 v3).put (some 42) x = put6 a u1 v1 u2 v2 u3 x := by
 simp only [put6, putAll]
 rw [put_same]
end
theorem eval_put (a : Act) (s t : Tmp) (x : Value) (h : t < a.tmps.size) : (a.put (some s) x).eval (.tmp t) = if s = t then x else a.eval (.tmp t) := by
 simp only [Act.put, Act.eval, Array.getD_eq_getD_getElem?, Array.getElem?_setIfInBounds]
 split
 ·next e => subst e; rw [if_pos h]; rfl
 ·rfl
theorem size_put (a : Act) (s : Tmp) (x : Value) : (a.put (some s) x).tmps.size = a.tmps.size := by simp [Act.put]
theorem eval6 (a : Act) (h : a.tmps.size = 48) (u1 v1 u2 v2 u3 v3 : Value) (t : Tmp) (ht : t < 48) : (put6 a u1 v1 u2 v2 u3 v3).eval (.tmp t) = if 42 = t then v3 else if 39 = t then u3 else if 38 = t then v2 else if 35 = t then u2 else if 32 = t then v1 else if 29 = t then u1 else a.eval (.tmp t) := by
 simp only [put6, putAll]
 rw [eval_put, eval_put, eval_put, eval_put, eval_put, eval_put]
 all_goals first | (simp only [size_put]; rw [h]; exact ht) | (rw [h]; exact ht)
theorem exec_build0 {o : Oper} {a : Act} {W : World} (hop : o.op = Op.buildSlice 38 0 #[]) : (execOp a.eval o).run Tryd.prog W = .ok (.value (.slice (some ⟨W.heap.size, 0, none⟩) 0 0)) (W.alloc (.cells #[] 3)) := by
 unfold execOp
 simp only [hop]
 simp [build0, Result.andThen]
theorem own_build0 (W : World) {N : Nat} (h : N ≤ W.heap.size) : (W.alloc (.cells #[] 3)).ownsRow N 3 1 (.slice (some ⟨W.heap.size, 0, none⟩) 0 0) 0 [] := World.ownsRow_lit W #[] 0 h (by decide) rfl
section
variable {md : Region.Mode} {ops : Array Oper} {Q : Exit → Act → World → Prop} {S : World → Prop} {ds : List Nat}
def CopyI (r1 r3 r4 : List Int) (a : Act) (W0 : World) (k : Nat) (l : Array Bool) (a' : Act) (w' : World) : Prop :=
 ∃ b1 c1 b2 c2 b3 c3 u1 v1 u2 v2 u3 v3, l = bitsA b1 c1 b2 c2 b3 c3 ∧ goodB b1 c1 b2 c2 b3 c3 = true ∧ cntB b1 c1 b2 c2 b3 c3 + k = 6 ∧ a' = put6 a u1 v1 u2 v2 u3 v3 ∧ Below W0.heap.size W0 w' ∧ Ch W0.heap.size b1 c1 r1 u1 v1 w' ∧ Ch W0.heap.size b2 c2 r3 u2 v2 w' ∧ Ch W0.heap.size b3 c3 r4 u3 v3 w'
theorem Ch.made {N : Nat} {c : Bool} {l : List Int} {u v : Value} {w : World} (h : Ch N false c l u v w) (hN : N ≤ w.heap.size) : Ch N true c l (.slice (some ⟨w.heap.size, 0, none⟩) 0 0) v (w.alloc (.cells #[] 3)) :=
 ⟨fun _ => ⟨_, rfl, own_build0 w hN⟩, fun e => by obtain ⟨B, cb, e1, h1⟩ := h.2 e; exact ⟨B, cb, e1, h1.alloc _⟩⟩
theorem Ch.app {N : Nat} {l : List Int} {u v : Value} {w W' : World} {B : Option Addr} {cb : Nat} (h : Ch N true false l u v w) (hb : Below w.heap.size w W') (ho : W'.ownsRow N 3 1 (.slice B l.length cb) l.length (l.map (Value.int .i64))) : Ch N true true l u (.slice B l.length cb) W' :=
 ⟨fun e => by obtain ⟨g, e1, h1⟩ := h.1 e; exact ⟨g, e1, pw_own_below h1 hb⟩, fun _ => ⟨B, cb, rfl, ho⟩⟩
set_option maxHeartbeats 1000000 in
theorem copy_inv (hready : ∀ l : Array Bool, Region.ready md ops l = readyT reg18.T.2 l.toList) (hds : ds = [20, 22]) {o4 o7 o10 o13 o14 o17 : Oper} (h4 : ops[4]? = some o4) (h7 : ops[7]? = some o7) (h10 : ops[10]? = some o10) (h13 : ops[13]? = some o13) (h14 : ops[14]? = some o14) (h17 : ops[17]? = some o17)
  (g4 : o4.guard = none ∧ o4.dst = some 29 ∧ o4.op = Op.buildSlice 38 0 #[]) (g10 : o10.guard = none ∧ o10.dst = some 35 ∧ o10.op = Op.buildSlice 38 0 #[]) (g14 : o14.guard = none ∧ o14.dst = some 39 ∧ o14.op = Op.buildSlice 38 0 #[])
  (g7 : o7.guard = none ∧ o7.dst = some 32 ∧ o7.op = Op.call { callee := Callee.builtin Builtin.append, args := #[.tmp 29, .tmp 31], argTypes := #[38, 38] })
  (g13 : o13.guard = none ∧ o13.dst = some 38 ∧ o13.op = Op.call { callee := Callee.builtin Builtin.append, args := #[.tmp 35, .tmp 37], argTypes := #[38, 38] })
  (g17 : o17.guard = none ∧ o17.dst = some 42 ∧ o17.op = Op.call { callee := Callee.builtin Builtin.append, args := #[.tmp 39, .tmp 41], argTypes := #[38, 38] })
  (a : Act) (hsz : a.tmps.size = 48) (W0 : World) {r1 r3 r4 : List Int} {A1 A3 A4 : Option Addr} {c1 c3 c4 : Nat} (e31 : a.eval (.tmp 31) = .slice A1 r1.length c1) (e37 : a.eval (.tmp 37) = .slice A3 r3.length c3) (e41 : a.eval (.tmp 41) = .slice A4 r4.length c4)
  (C1 : Kd.C (Kd.int .i64) W0 A1 r1.length r1) (C3 : Kd.C (Kd.int .i64) W0 A3 r3.length r3) (C4 : Kd.C (Kd.int .i64) W0 A4 r4.length r4) (L1 : r1.length ≤ 1000000) (L3 : r3.length ≤ 1000000) (L4 : r4.length ≤ 1000000)
  (hS : ∀ w', Below W0.heap.size W0 w' → S w') {x1 y1 x2 y2 x3 y3 : Value} (ha : a = put6 a x1 y1 x2 y2 x3 y3) (fuel0 : Nat)
  (hend : ∀ u1 u2 u3 B1 d1 B3 d3 B4 d4 w', Below W0.heap.size W0 w' → w'.ownsRow W0.heap.size 3 1 (.slice B1 r1.length d1) r1.length (r1.map (Value.int .i64)) → w'.ownsRow W0.heap.size 3 1 (.slice B3 r3.length d3) r3.length (r3.map (Value.int .i64)) → w'.ownsRow W0.heap.size 3 1 (.slice B4 r4.length d4) r4.length (r4.map (Value.int .i64)) →
   wpAnyLast Tryd.prog md ops Q S ds fuel0 (bitsA true true true true true true) (put6 a u1 (.slice B1 r1.length d1) u2 (.slice B3 r3.length d3) u3 (.slice B4 r4.length d4)) w') :
  wpAnyLast Tryd.prog md ops Q S ds (fuel0 + 6) (bitsA false false false false false false) a W0 := by
 have wnt : ∀ (o : Oper) (y : Nat → Option Bool), o.guard = none → Region.wanted o y = true := fun o y h => by unfold Region.wanted; rw [h]
 have app : ∀ (o : Oper) (s x : Tmp) (a' : Act) (w' : World) (g : Nat) (A : Option Addr) (c : Nat) (r : List Int), o.op = Op.call { callee := Callee.builtin Builtin.append, args := #[.tmp s, .tmp x], argTypes := #[38, 38] } → a'.eval (.tmp s) = .slice (some ⟨g, 0, none⟩) 0 0 → a'.eval (.tmp x) = .slice A r.length c → Below W0.heap.size W0 w' → w'.ownsRow W0.heap.size 3 1 (.slice (some ⟨g, 0, none⟩) 0 0) 0 [] → Kd.C (Kd.int .i64) W0 A r.length r → r.length ≤ 1000000 →
   ∃ B cb W', (execOp a'.eval o).run Tryd.prog w' = .ok (.value (.slice B r.length cb)) W' ∧ W'.ownsRow W0.heap.size 3 1 (.slice B r.length cb) r.length (r.map (Value.int .i64)) ∧ Below w'.heap.size w' W' := by
  intro o s x a' w' g A c r hop hs hx hb ho hC hl
  obtain ⟨B, cb, W', q1, q2, q3⟩ := app_row o.type ho hb.size (Kd.C_below hC hb) (c := c) hl
  exact ⟨B, cb, W', exec_append (.tmp s) (.tmp x) 38 o.type hop rfl hs hx q1, q2, q3⟩
 refine inv_ (CopyI r1 r3 r4 a W0) fuel0 ?_ ?_ ?_ 6 _ _ _ ?_
 ·rintro k l a' w' ⟨_, _, _, _, _, _, _, _, _, _, _, _, _, _, _, _, hb, _⟩
  exact hS w' hb
 ·rintro l a' w' ⟨b1, c1, b2, c2, b3, c3, u1, v1, u2, v2, u3, v3, rfl, _, hc, rfl, hb, k1, k2, k3⟩
  obtain ⟨rfl, rfl, rfl, rfl, rfl, rfl⟩ := copy_all _ _ _ _ _ _ hc
  obtain ⟨B1, d1, rfl, q1⟩ := k1.2 rfl
  obtain ⟨B3, d3, rfl, q3⟩ := k2.2 rfl
  obtain ⟨B4, d4, rfl, q4⟩ := k3.2 rfl
  exact hend _ _ _ _ _ _ _ _ _ _ hb q1 q3 q4
 ·rintro k l a' w' ⟨b1, c1', b2, c2, b3, c3', u1, v1, u2, v2, u3, v3, rfl, hg, hc, rfl, hb, k1, k2, k3⟩
  rw [hready]
  obtain ⟨hne, hi⟩ := copy_ready b1 c1' b2 c2 b3 c3' hg (by omega)
  refine ⟨hne, fun i hm => ?_⟩
  have hbe : Below W0.heap.size W0 (w'.alloc (.cells #[] 3)) := hb.alloc hb.size _
  have hbn : Below w'.heap.size w' (w'.alloc (.cells #[] 3)) := (Below.refl _ _).alloc (Nat.le_refl _) _
  rcases hi i hm with ⟨rfl, rfl, hg', hc'⟩ | ⟨rfl, rfl, rfl, hg', hc'⟩ | ⟨rfl, rfl, hg', hc'⟩ | ⟨rfl, rfl, rfl, hg', hc'⟩ | ⟨rfl, rfl, hg', hc'⟩ | ⟨rfl, rfl, rfl, hg', hc'⟩
  ·refine ⟨by rw [hds]; decide, o4, h4, fun K hK => event_step (wnt _ _ g4.1) (exec_build0 g4.2.2) ?_⟩
   rw [g4.2.1, put6_29]
   exact hK _ _ ⟨_, _, _, _, _, _, _, _, _, _, _, _, rfl, hg', by omega, rfl, hbe, k1.made hb.size, k2.below hbn, k3.below hbn⟩
  ·obtain ⟨g, e, ho⟩ := k1.1 rfl
   subst e
   obtain ⟨B, cb, W', q1, q2, q3⟩ := app o7 29 31 (put6 a (.slice (some ⟨g, 0, none⟩) 0 0) v1 u2 v2 u3 v3) w' g A1 c1 r1 g7.2.2 (by rw [eval6 a hsz _ _ _ _ _ _ 29 (by decide)]; rfl) (by rw [eval6 a hsz _ _ _ _ _ _ 31 (by decide)]; exact e31) hb ho C1 L1
   refine ⟨by rw [hds]; decide, o7, h7, fun K hK => event_step (wnt _ _ g7.1) q1 ?_⟩
   rw [g7.2.1, put6_32]
   exact hK _ _ ⟨_, _, _, _, _, _, _, _, _, _, _, _, rfl, hg', by omega, rfl, hb.trans (q3.mono hb.size), k1.app q3 q2, k2.below q3, k3.below q3⟩
  ·refine ⟨by rw [hds]; decide, o10, h10, fun K hK => event_step (wnt _ _ g10.1) (exec_build0 g10.2.2) ?_⟩
   rw [g10.2.1, put6_35]
   exact hK _ _ ⟨_, _, _, _, _, _, _, _, _, _, _, _, rfl, hg', by omega, rfl, hbe, k1.below hbn, k2.made hb.size, k3.below hbn⟩
  ·obtain ⟨g, e, ho⟩ := k2.1 rfl
   subst e
   obtain ⟨B, cb, W', q1, q2, q3⟩ := app o13 35 37 (put6 a u1 v1 (.slice (some ⟨g, 0, none⟩) 0 0) v2 u3 v3) w' g A3 c3 r3 g13.2.2 (by rw [eval6 a hsz _ _ _ _ _ _ 35 (by decide)]; rfl) (by rw [eval6 a hsz _ _ _ _ _ _ 37 (by decide)]; exact e37) hb ho C3 L3
   refine ⟨by rw [hds]; decide, o13, h13, fun K hK => event_step (wnt _ _ g13.1) q1 ?_⟩
   rw [g13.2.1, put6_38]
   exact hK _ _ ⟨_, _, _, _, _, _, _, _, _, _, _, _, rfl, hg', by omega, rfl, hb.trans (q3.mono hb.size), k1.below q3, k2.app q3 q2, k3.below q3⟩
  ·refine ⟨by rw [hds]; decide, o14, h14, fun K hK => event_step (wnt _ _ g14.1) (exec_build0 g14.2.2) ?_⟩
   rw [g14.2.1, put6_39]
   exact hK _ _ ⟨_, _, _, _, _, _, _, _, _, _, _, _, rfl, hg', by omega, rfl, hbe, k1.below hbn, k2.below hbn, k3.made hb.size⟩
  ·obtain ⟨g, e, ho⟩ := k3.1 rfl
   subst e
   obtain ⟨B, cb, W', q1, q2, q3⟩ := app o17 39 41 (put6 a u1 v1 u2 v2 (.slice (some ⟨g, 0, none⟩) 0 0) v3) w' g A4 c4 r4 g17.2.2 (by rw [eval6 a hsz _ _ _ _ _ _ 39 (by decide)]; rfl) (by rw [eval6 a hsz _ _ _ _ _ _ 41 (by decide)]; exact e41) hb ho C4 L4
   refine ⟨by rw [hds]; decide, o17, h17, fun K hK => event_step (wnt _ _ g17.1) q1 ?_⟩
   rw [g17.2.1, put6_42]
   exact hK _ _ ⟨_, _, _, _, _, _, _, _, _, _, _, _, rfl, hg', by omega, rfl, hb.trans (q3.mono hb.size), k1.below q3, k2.below q3, k3.app q3 q2⟩
 ·exact ⟨false, false, false, false, false, false, x1, y1, x2, y2, x3, y3, rfl, rfl, rfl, ha, Below.refl _ _, ⟨fun h => (by cases h), fun h => (by cases h)⟩, ⟨fun h => (by cases h), fun h => (by cases h)⟩, ⟨fun h => (by cases h), fun h => (by cases h)⟩⟩
end
end Go.Proofs.YtfoodfhhdbaieaaDoor.Giv
