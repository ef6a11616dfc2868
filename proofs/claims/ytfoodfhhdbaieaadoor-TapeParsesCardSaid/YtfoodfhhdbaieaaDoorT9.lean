-- CUT by a program of this session: what the claim does not use is left out
import Derived.Test.YtfoodfhhdbaieaaDoorT2
import Derived.Laws.OwnMore
import Derived.Maps.AppendAt
import Derived.Deep.Onto
namespace Go.Proofs.YtfoodfhhdbaieaaDoor.Giv
set_option maxRecDepth 100000
set_option linter.unusedVariables false
set_option linter.unusedSimpArgs false
open Go.RowKit Go.Proofs.YtfoodfhhdbaieaaDoorW.PrintWords Go.Proofs.YtfoodfhhdbaieaaDoorW.PrintLast Go.Proofs.YtfoodfhhdbaieaaDoorW.PrintMore

theorem wpList_append_one {W : World} {ops : Array Oper} {rest : List Oper} {o : Oper} {a : Act} {Q : Exit → Act → World → Prop} (base : Nat) (hgd : o.guard = none) (s x : Operand) (t e : TypeId) (z : Value) (bytes : Nat)
  (hop : o.op = Op.call { callee := Callee.builtin Builtin.append, args := #[s, x], argTypes := #[t, t] }) (ht : Tryd.prog.underlying t = some (.slice e)) (hinfo : (Tryd.prog.info? e).map (fun i => (i.zero, i.size, i.bytes)) = some (some z, 1, bytes)) (hz : z.cells.size = 1) (hby : bytes ≤ 100)
  (v : Value) (n : Nat) (xs : List Value) (u : Value) (hs : a.eval s = v) (hx : a.eval x = .slice (some ⟨W.heap.size, 0, none⟩) 1 1) (hu : u.oneCell' = true) (ho : W.ownsRow base e 1 v n xs) (hb : n ≤ 1000000) (hbase : base ≤ W.heap.size)
  (h : ∀ v' w', w'.ownsRow base e 1 v' (n + 1) (xs ++ [u]) → W.grownBy w' v.ownBlock → (v'.ownBlock = v.ownBlock ∨ ∃ b, v'.ownBlock = some b ∧ W.heap.size ≤ b) → wpList Tryd.prog ops Q rest (a.put o.dst v') w') :
  wpList Tryd.prog ops Q (o :: rest) a (W.alloc (.cells #[u] e)) := by
 obtain ⟨i, hi, hzz⟩ := Option.map_eq_some_iff.1 hinfo
 obtain ⟨h3, h4, h5⟩ : i.zero = some z ∧ i.size = 1 ∧ i.bytes = bytes := by
  injection hzz with e1 e2; injection e2 with e2 e3; exact ⟨e1, e2, e3⟩
 have hcells : ∀ j w', [u][j]? = some w' → (W.alloc (.cells #[u] e)).cell? ((⟨W.heap.size, 0, none⟩ : Addr).add j) = some w' := fun j w' hj => by
  have hnew := heap_alloc_new W (.cells #[u] e)
  rw [add_plain]
  unfold World.cell?
  rw [show ({ block := W.heap.size, off := j, spot := none } : Addr).block = W.heap.size from rfl, hnew]
  have hj' : (#[u] : Array Value)[j]? = some w' := by simpa using hj
  simpa using hj'
 refine wpList_plain hgd fun K hK' => ?_
 obtain ⟨v1, w1, hrun, r1, r2, _, r5⟩ := run_append_own_at (P := Tryd.prog) (w := W.alloc (.cells #[u] e)) base t o.type e i z 1 bytes ht hi h3 h4 h5 hz (by decide) v n xs (ho.alloc _) ⟨W.heap.size, 0, none⟩ 1 1 [u] rfl
  hcells (by intro y hy; rw [List.mem_singleton.1 hy]; exact hu) (by unfold maxLen; omega) (by have : (n + 1) * bytes ≤ 1000001 * 100 := Nat.mul_le_mul (by omega) hby; omega) (by simp; omega)
 have hg : W.grownBy w1 v.ownBlock := by
  have hb : Below W.heap.size W (W.alloc (.cells #[u] e)) := (Below.refl _ _).alloc (Nat.le_refl _) _
  exact ⟨r2.os.trans hb.os, r2.tape.trans hb.tape, r2.output.trans hb.output, Nat.le_trans hb.size r2.size, fun k hk hne => (r2.block k (Nat.lt_of_lt_of_le hk hb.size) hne).trans (hb.block k hk)⟩
 unfold Oper.wp execOp
 simp only [hop, resolve, invoke, builtin, Sem.run_bind, Sem.run_pure, Result.andThen_ok, List.map_toArray, List.map_cons, List.map_nil, hs, hx, hrun]
 refine hK' _ _ (h v1 w1 r1 hg ?_)
 rcases r5 with r5 | r5
 ·exact .inl r5
 ·exact .inr ⟨_, r5, by simp⟩
structure RunAt (w : World) (base br bm : Nat) (s : Int) (v1 : Value) (at_ : List Int) (v2 : Value) (vs us : List Value) (tp : List (List Int)) (L : List (Value × Value)) : Prop where
 cells : w.heap[br]? = some (.cells #[.int .i64 s, v1, v2, .map (some bm)] 73 (0, 0))
 hbr : base ≤ br
 hbm : base ≤ bm
 map : MapAt w bm L
 row1 : w.ownsRow base 3 1 v1 at_.length (at_.map (Value.int .i64))
 row2 : w.ownsRow base 38 1 v2 vs.length vs
 len1 : us.length = tp.length
 len2 : vs.length = us.length
 inner : ∀ (i : Nat) (u : Value) (l : List Int), us[i]? = some u → tp[i]? = some l → w.ownsRow base 3 1 u l.length (l.map (Value.int .i64))
 apart1 : ∀ (i : Nat) (u : Value) (k : Nat), us[i]? = some u → u.ownBlock = some k → v1.ownBlock ≠ some k
 apart2 : ∀ (i j : Nat) (u v : Value) (k : Nat), us[i]? = some u → us[j]? = some v → i ≠ j → u.ownBlock = some k → v.ownBlock ≠ some k

section
variable {w w' : World} {base br bm : Nat} {s : Int} {v1 v2 : Value} {at_ : List Int} {vs us : List Value} {tp : List (List Int)} {L : List (Value × Value)}

theorem ne_of_typed {k k' : Nat} {c c' : Array Value} {t t' : TypeId} {f f' : Nat × Nat} (h : w.heap[k]? = some (.cells c t f)) (h' : w.heap[k']? = some (.cells c' t' f')) (ht : t ≠ t') : k ≠ k' := by
 rintro rfl
 rw [h] at h'
 injection h' with h'
 injection h' with _ h'
 exact ht h'
theorem ne_of_map {k k' : Nat} {c : Array Value} {t : TypeId} {f : Nat × Nat} (h : w.heap[k]? = some (.cells c t f)) (h' : MapAt w k' L) : k ≠ k' := by
 rintro rfl
 obtain ⟨es, clock, hb, _⟩ := h'
 rw [h] at hb
 cases hb
theorem kept_of {e : TypeId} {n : Nat} {v : Value} {xs : List Value} {row : Option Nat} (h : w.ownsRow base e 1 v n xs) (hg : w.grownBy w' row) (hne : ∀ k, v.ownBlock = some k → row ≠ some k) : w'.ownsRow base e 1 v n xs :=
 h.kept hg (by
  cases hv : v.ownBlock with
  | none => exact .inl rfl
  | some k => exact .inr (fun e => hne k hv e.symm))

theorem RunAt.kept {row : Option Nat} (h : RunAt w base br bm s v1 at_ v2 vs us tp L) (hg : w.grownBy w' row) (hr : ∀ k, row = some k → k ≠ br ∧ k ≠ bm ∧ v1.ownBlock ≠ some k ∧ v2.ownBlock ≠ some k ∧ ∀ (i : Nat) (u : Value), us[i]? = some u → u.ownBlock ≠ some k) :
  RunAt w' base br bm s v1 at_ v2 vs us tp L where
 cells := (hg.block br (Array.getElem?_eq_some_iff.1 h.cells).1 (fun e => (hr br e.symm).1 rfl)).trans h.cells
 hbr := h.hbr
 hbm := h.hbm
 map := h.map.kept hg (fun e => (hr bm e.symm).2.1 rfl)
 row1 := kept_of h.row1 hg (fun k hk e => (hr k e).2.2.1 hk)
 row2 := kept_of h.row2 hg (fun k hk e => (hr k e).2.2.2.1 hk)
 len1 := h.len1
 len2 := h.len2
 inner i u l hu hl := kept_of (h.inner i u l hu hl) hg (fun k hk e => (hr k e).2.2.2.2 i u hu hk)
 apart1 := h.apart1
 apart2 := h.apart2
theorem RunAt.alloc (h : RunAt w base br bm s v1 at_ v2 vs us tp L) (o : Obj) : RunAt (w.alloc o) base br bm s v1 at_ v2 vs us tp L := h.kept (World.grownBy_alloc w o none) (fun k hk => by cases hk)
theorem RunAt.below (h : RunAt w base br bm s v1 at_ v2 vs us tp L) (hb : Below w.heap.size w w') : RunAt w' base br bm s v1 at_ v2 vs us tp L := h.kept (grown_of_below hb none) (fun k hk => by cases hk)
theorem RunAt.setState (h : RunAt w base br bm s v1 at_ v2 vs us tp L) (s' : Int) : RunAt (w.setCell ⟨br, 0, none⟩ (.int .i64 s')) base br bm s' v1 at_ v2 vs us tp L := by
 have hg : w.grownBy (w.setCell ⟨br, 0, none⟩ (.int .i64 s')) (some br) := ⟨rfl, rfl, rfl, by simp, fun k _ hk => heap_setCell_other w ⟨br, 0, none⟩ k _ (fun e => hk (by rw [e]))⟩
 refine ⟨?_, h.hbr, h.hbm, h.map.kept hg (fun e => ne_of_map h.cells h.map (by injection e with e; exact e.symm)), ?_, ?_, h.len1, h.len2, ?_, h.apart1, h.apart2⟩
 ·exact (heap_setCell_same w br 0 _ 73 _ h.cells).trans rfl
 ·exact kept_of h.row1 hg (fun k hk e => by obtain ⟨c, hc⟩ := own_typed h.row1 k hk; injection e with e; exact ne_of_typed h.cells hc (by decide) e)
 ·exact kept_of h.row2 hg (fun k hk e => by obtain ⟨c, hc⟩ := own_typed h.row2 k hk; injection e with e; exact ne_of_typed h.cells hc (by decide) e)
 ·exact fun i u l hu hl => kept_of (h.inner i u l hu hl) hg (fun k hk e => by obtain ⟨c, hc⟩ := own_typed (h.inner i u l hu hl) k hk; injection e with e; exact ne_of_typed h.cells hc (by decide) e)
theorem RunAt.setTape (h : RunAt w base br bm s v1 at_ v2 vs us tp L) {i : Nat} {u u' : Value} {l l' : List Int} (hu : us[i]? = some u) (hl : tp[i]? = some l) (hg : w.grownBy w' u.ownBlock) (hat : u'.ownBlock = u.ownBlock ∨ ∃ b, u'.ownBlock = some b ∧ w.heap.size ≤ b)
  (ho : w'.ownsRow base 3 1 u' l'.length (l'.map (Value.int .i64))) : RunAt w' base br bm s v1 at_ v2 vs (us.set i u') (tp.set i l') L := by
 have own := h.inner i u l hu hl
 have iu : i < us.length := (List.getElem?_eq_some_iff.1 hu).1
 have lt : ∀ k, k < w.heap.size → u'.ownBlock = some k → u.ownBlock = some k := fun k hk e => by
  rcases hat with e1 | ⟨b, e1, hb⟩
  ·rw [← e1]; exact e
  ·rw [e1] at e; injection e with e; omega
 refine ⟨?_, h.hbr, h.hbm, ?_, ?_, ?_, ?_, ?_, ?_, ?_, ?_⟩
 ·refine (hg.block br (Array.getElem?_eq_some_iff.1 h.cells).1 (fun e => ?_)).trans h.cells
  obtain ⟨c, hc⟩ := own_typed own br e.symm
  exact ne_of_typed h.cells hc (by decide) rfl
 ·refine h.map.kept hg (fun e => ?_)
  obtain ⟨c, hc⟩ := own_typed own bm e.symm
  exact ne_of_map hc h.map rfl
 ·exact kept_of h.row1 hg (fun k hk e => h.apart1 i u k hu e hk)
 ·refine kept_of h.row2 hg (fun k hk e => ?_)
  obtain ⟨c, hc⟩ := own_typed own k e
  obtain ⟨c', hc'⟩ := own_typed h.row2 k hk
  exact ne_of_typed hc hc' (by decide) rfl
 ·simpa using h.len1
 ·simpa using h.len2
 ·intro j v m hv hm
  by_cases e : i = j
  ·subst e
   rw [List.getElem?_set_self iu] at hv
   rw [List.getElem?_set_self (by rw [← h.len1]; exact iu)] at hm
   obtain rfl := Option.some.inj hv
   obtain rfl := Option.some.inj hm
   exact ho
  ·rw [List.getElem?_set_ne e] at hv hm
   exact kept_of (h.inner j v m hv hm) hg (fun k hk e' => h.apart2 i j u v k hu hv e e' hk)
 ·intro j v k hv hk he
  have k1 : k < w.heap.size := (Array.getElem?_eq_some_iff.1 (own_typed h.row1 k he).choose_spec).1
  by_cases e : i = j
  ·subst e
   rw [List.getElem?_set_self iu] at hv
   obtain rfl := Option.some.inj hv
   exact h.apart1 i u k hu (lt k k1 hk) he
  ·rw [List.getElem?_set_ne e] at hv
   exact h.apart1 j v k hv hk he
 ·intro j j' a b k ha hb hne hk he
  have old : ∀ (x : Nat) (y : Value), us[x]? = some y → y.ownBlock = some k → k < w.heap.size := fun x y hy hk => by
   have hx : x < tp.length := by rw [← h.len1]; exact (List.getElem?_eq_some_iff.1 hy).1
   exact (Array.getElem?_eq_some_iff.1 (own_typed (h.inner x y _ hy (List.getElem?_eq_getElem hx)) k hk).choose_spec).1
  by_cases e : i = j
  ·subst e
   rw [List.getElem?_set_self iu] at ha
   obtain rfl := Option.some.inj ha
   rw [List.getElem?_set_ne hne] at hb
   exact h.apart2 i j' u b k hu hb hne (lt k (old j' b hb he) hk) he
  ·rw [List.getElem?_set_ne e] at ha
   by_cases e' : i = j'
   ·subst e'
    rw [List.getElem?_set_self iu] at hb
    obtain rfl := Option.some.inj hb
    exact h.apart2 j i a u k ha hu hne hk (lt k (old j a ha hk) he)
   ·rw [List.getElem?_set_ne e'] at hb
    exact h.apart2 j j' a b k ha hb hne hk he
theorem RunAt.setAt (h : RunAt w base br bm s v1 at_ v2 vs us tp L) {g : Nat} (hv : v1.ownBlock = some g) {at' : List Int} (hg : w.grownBy w' (some g)) (ho : w'.ownsRow base 3 1 v1 at'.length (at'.map (Value.int .i64))) : RunAt w' base br bm s v1 at' v2 vs us tp L := by
 obtain ⟨c1, hc1⟩ := own_typed h.row1 g hv
 refine ⟨?_, h.hbr, h.hbm, ?_, ho, ?_, h.len1, h.len2, ?_, h.apart1, h.apart2⟩
 ·refine (hg.block br (Array.getElem?_eq_some_iff.1 h.cells).1 (fun e => ?_)).trans h.cells
  injection e with e
  exact ne_of_typed h.cells hc1 (by decide) e
 ·refine h.map.kept hg (fun e => ?_)
  injection e with e
  exact ne_of_map hc1 h.map e.symm
 ·refine kept_of h.row2 hg (fun k hk e => ?_)
  injection e with e
  obtain ⟨c', hc'⟩ := own_typed h.row2 k hk
  exact ne_of_typed hc1 hc' (by decide) e
 ·intro i u l hu hl
  refine kept_of (h.inner i u l hu hl) hg (fun k hk e => ?_)
  injection e with e
  subst e
  exact h.apart1 i u g hu hk hv
theorem RunAt.setOuter (h : RunAt w base br bm s v1 at_ v2 vs us tp L) {g : Nat} (hv : v2.ownBlock = some g) {vs' : List Value} (hg : w.grownBy w' (some g)) (hn : vs'.length = us.length) (ho : w'.ownsRow base 38 1 v2 vs'.length vs') : RunAt w' base br bm s v1 at_ v2 vs' us tp L := by
 obtain ⟨c1, hc1⟩ := own_typed h.row2 g hv
 refine ⟨?_, h.hbr, h.hbm, ?_, ?_, ho, h.len1, hn, ?_, h.apart1, h.apart2⟩
 ·refine (hg.block br (Array.getElem?_eq_some_iff.1 h.cells).1 (fun e => ?_)).trans h.cells
  injection e with e
  exact ne_of_typed h.cells hc1 (by decide) e
 ·refine h.map.kept hg (fun e => ?_)
  injection e with e
  exact ne_of_map hc1 h.map e.symm
 ·refine kept_of h.row1 hg (fun k hk e => ?_)
  injection e with e
  obtain ⟨c', hc'⟩ := own_typed h.row1 k hk
  exact ne_of_typed hc1 hc' (by decide) e
 ·intro i u l hu hl
  refine kept_of (h.inner i u l hu hl) hg (fun k hk e => ?_)
  injection e with e
  obtain ⟨c', hc'⟩ := own_typed (h.inner i u l hu hl) k hk
  exact ne_of_typed hc1 hc' (by decide) e
theorem RunAt.setMap (h : RunAt w base br bm s v1 at_ v2 vs us tp L) {L' : List (Value × Value)} (hg : w.grownBy w' (some bm)) (hM : MapAt w' bm L') : RunAt w' base br bm s v1 at_ v2 vs us tp L' := by
 refine ⟨?_, h.hbr, h.hbm, hM, ?_, ?_, h.len1, h.len2, ?_, h.apart1, h.apart2⟩
 ·exact (hg.block br (Array.getElem?_eq_some_iff.1 h.cells).1 (fun e => ne_of_map h.cells h.map (by injection e))).trans h.cells
 ·exact kept_of h.row1 hg (fun k hk e => by obtain ⟨c, hc⟩ := own_typed h.row1 k hk; injection e with e; exact ne_of_map hc h.map e.symm)
 ·exact kept_of h.row2 hg (fun k hk e => by obtain ⟨c, hc⟩ := own_typed h.row2 k hk; injection e with e; exact ne_of_map hc h.map e.symm)
 ·exact fun i u l hu hl => kept_of (h.inner i u l hu hl) hg (fun k hk e => by obtain ⟨c, hc⟩ := own_typed (h.inner i u l hu hl) k hk; injection e with e; exact ne_of_map hc h.map e.symm)
theorem RunAt.push (h : RunAt w base br bm s v1 at_ v2 us us tp L) {w1 w2 : World} {u v2' : Value} {l : List Int} (hB : Below w.heap.size w w1) (hu : w1.ownsRow w.heap.size 3 1 u l.length (l.map (Value.int .i64))) (hg : w1.grownBy w2 v2.ownBlock)
  (ho : w2.ownsRow base 38 1 v2' (us.length + 1) (us ++ [u])) (hbase : base ≤ w.heap.size) : RunAt (w2.setCell ⟨br, 2, none⟩ v2') base br bm s v1 at_ v2' (us ++ [u]) (us ++ [u]) (tp ++ [l]) L := by
 have h1 := h.below hB
 have hu1 : w1.ownsRow base 3 1 u l.length (l.map (Value.int .i64)) := hu.mono hbase
 have hg2 : w2.grownBy (w2.setCell ⟨br, 2, none⟩ v2') (some br) := ⟨rfl, rfl, rfl, by simp, fun k _ hk => heap_setCell_other w2 ⟨br, 2, none⟩ k _ (fun e => hk (by rw [e]))⟩
 have ne25 : ∀ {n : Nat} {x : Value} {xs : List Value}, w1.ownsRow base 3 1 x n xs → ∀ k, x.ownBlock = some k → v2.ownBlock ≠ some k := fun hx k hk e => by
  obtain ⟨c, hc⟩ := own_typed hx k hk
  obtain ⟨c', hc'⟩ := own_typed h1.row2 k e
  exact ne_of_typed hc hc' (by decide) rfl
 have hc2 : w2.heap[br]? = some (.cells #[.int .i64 s, v1, v2, .map (some bm)] 73 (0, 0)) := (hg.block br (Array.getElem?_eq_some_iff.1 h1.cells).1 (fun e => by
  obtain ⟨c', hc'⟩ := own_typed h1.row2 br e.symm
  exact ne_of_typed h1.cells hc' (by decide) rfl)).trans h1.cells
 have ne79 : ∀ {e n : Nat} {x : Value} {xs : List Value}, w2.ownsRow base e 1 x n xs → e ≠ 73 → ∀ k, x.ownBlock = some k → some br ≠ some k := fun hx he k hk e => by
  obtain ⟨c, hc⟩ := own_typed hx k hk
  injection e with e
  exact ne_of_typed hc2 hc (Ne.symm he) e
 have hM2 : MapAt w2 bm L := h1.map.kept hg (fun e => by
  obtain ⟨c', hc'⟩ := own_typed h1.row2 bm e.symm
  exact ne_of_map hc' h1.map rfl)
 have r1 := kept_of h1.row1 hg (fun k hk => ne25 h1.row1 k hk)
 have fresh : ∀ k, u.ownBlock = some k → w.heap.size ≤ k := fun k hk => own_base hu k hk
 refine ⟨?_, h.hbr, h.hbm, hM2.kept hg2 (fun e => ne_of_map hc2 hM2 (by injection e with e; exact e.symm)), kept_of r1 hg2 (fun k hk => ne79 r1 (by decide) k hk), ?_, by simp [h.len1], rfl, ?_, ?_, ?_⟩
 ·exact (heap_setCell_same w2 br 2 _ 73 _ hc2).trans rfl
 ·rw [List.length_append]; exact kept_of ho hg2 (fun k hk => ne79 ho (by decide) k hk)
 ·intro i x m hx hm
  have r : w1.ownsRow base 3 1 x m.length (m.map (Value.int .i64)) := by
   by_cases e : i < us.length
   ·rw [List.getElem?_append_left e] at hx
    rw [List.getElem?_append_left (by rw [← h.len1]; exact e)] at hm
    exact h1.inner i x m hx hm
   ·have e' : i = us.length := by have := (List.getElem?_eq_some_iff.1 hx).1; simp at this; omega
    subst e'
    rw [List.getElem?_append_right (Nat.le_refl _)] at hx
    rw [List.getElem?_append_right (by rw [h.len1]; exact Nat.le_refl _)] at hm
    simp at hx
    rw [h.len1] at hm
    simp at hm
    subst hx; subst hm
    exact hu1
  have r2 := kept_of r hg (fun k hk => ne25 r k hk)
  exact kept_of r2 hg2 (fun k hk => ne79 r2 (by decide) k hk)
 ·intro i x k hx hk e
  by_cases hi : i < us.length
  ·rw [List.getElem?_append_left hi] at hx
   exact h.apart1 i x k hx hk e
  ·have e' : i = us.length := by have := (List.getElem?_eq_some_iff.1 hx).1; simp at this; omega
   subst e'
   simp at hx
   subst hx
   have := fresh k hk
   have := (Array.getElem?_eq_some_iff.1 (own_typed h.row1 k e).choose_spec).1
   omega
 ·intro i j x y k hx hy hij hk e
  have old : ∀ (q : Nat) (z : Value), us[q]? = some z → z.ownBlock = some k → k < w.heap.size := fun q z hz hk => by
   have hq : q < tp.length := by rw [← h.len1]; exact (List.getElem?_eq_some_iff.1 hz).1
   exact (Array.getElem?_eq_some_iff.1 (own_typed (h.inner q z _ hz (List.getElem?_eq_getElem hq)) k hk).choose_spec).1
  have last : ∀ (q : Nat) (z : Value), (us ++ [u])[q]? = some z → ¬ q < us.length → q = us.length ∧ z = u := fun q z hz hq => by
   have e' : q = us.length := by have := (List.getElem?_eq_some_iff.1 hz).1; simp at this; omega
   subst e'
   simp at hz
   exact ⟨rfl, hz.symm⟩
  by_cases hi : i < us.length
  ·rw [List.getElem?_append_left hi] at hx
   by_cases hj : j < us.length
   ·rw [List.getElem?_append_left hj] at hy
    exact h.apart2 i j x y k hx hy hij hk e
   ·obtain ⟨_, rfl⟩ := last j y hy hj
    have := fresh k e
    have := old i x hx hk
    omega
  ·obtain ⟨e1, rfl⟩ := last i x hx hi
   by_cases hj : j < us.length
   ·rw [List.getElem?_append_left hj] at hy
    have := fresh k hk
    have := old j y hy e
    omega
   ·obtain ⟨e2, _⟩ := last j y hy hj
    omega
end
end Go.Proofs.YtfoodfhhdbaieaaDoor.Giv
