-- CUT by a program of this session: what the claim does not use is left out
import Derived.Test.YtfoodfhhdbaieaaT51
import Derived.Test.YtfoodfhhdbaieaaT15
import Derived.Test.YtfoodfhhdbaieaaKax5
namespace Go.Proofs.Ytfoodfhhdbaieaa.Giv
set_option linter.unusedSimpArgs false
set_option linter.unusedVariables false
open Go.RowKit Go.Proofs.YtfoodfhhdbaieaaW.PrintWords Go.Proofs.YtfoodfhhdbaieaaW.PrintLast Go.Proofs.YtfoodfhhdbaieaaW.PrintMore
open Go.Proofs.Ytfoodfhhdbaieaa.Ka (S54 z54 rd_T54 rd_L1 at_L1 info3 info25 info54 commodatumref20_Equal.f commodatumref20_Equal.l0 commodatumref20_Find.f commodatumref20_Find.l0 commodatumref20_read.f commodatumref20_read.l0 commodatumref20_Under.f)

structure ScAt (w : World) (base br : Nat) (s : Int) (v1 : Value) (at_ : List Int) (v2 : Value) (vs us : List Value) (tp : List (List Int)) : Prop where
  cells : w.heap[br]? = some (.cells #[.int .i64 s, v1, v2] 32 (0, 0))
  hbr : base ≤ br
  row1 : w.ownsRow base 3 1 v1 at_.length (at_.map (Value.int .i64))
  row2 : w.ownsRow base 25 1 v2 vs.length vs
  len1 : us.length = tp.length
  len2 : vs.length = us.length
  inner : ∀ (i : Nat) (u : Value) (l : List Int), us[i]? = some u → tp[i]? = some l → w.ownsRow base 3 1 u l.length (l.map (Value.int .i64))
  apart : Apart v1 us
section
variable {w w' : World} {base br : Nat} {s : Int} {v1 v2 : Value} {at_ : List Int} {vs us : List Value} {tp : List (List Int)}
theorem ScAt.kept {row : Option Nat} (h : ScAt w base br s v1 at_ v2 vs us tp) (hg : w.grownBy w' row) (hr : ∀ k, row = some k → k ≠ br ∧ v1.ownBlock ≠ some k ∧ v2.ownBlock ≠ some k ∧ ∀ (i : Nat) (u : Value), us[i]? = some u → u.ownBlock ≠ some k) :
    ScAt w' base br s v1 at_ v2 vs us tp where
  cells := (hg.block br (Array.getElem?_eq_some_iff.1 h.cells).1 (fun e => (hr br e.symm).1 rfl)).trans h.cells
  hbr := h.hbr
  row1 := kept_of h.row1 hg (fun k hk e => (hr k e).2.1 hk)
  row2 := kept_of h.row2 hg (fun k hk e => (hr k e).2.2.1 hk)
  len1 := h.len1
  len2 := h.len2
  inner i u l hu hl := kept_of (h.inner i u l hu hl) hg (fun k hk e => (hr k e).2.2.2 i u hu hk)
  apart := h.apart
theorem ScAt.below (h : ScAt w base br s v1 at_ v2 vs us tp) (hb : Below w.heap.size w w') : ScAt w' base br s v1 at_ v2 vs us tp := h.kept (grown_of_below hb none) (fun k hk => by cases hk)
theorem ScAt.alloc (h : ScAt w base br s v1 at_ v2 vs us tp) (o : Obj) : ScAt (w.alloc o) base br s v1 at_ v2 vs us tp := h.kept (World.grownBy_alloc w o none) (fun k hk => by cases hk)
theorem ScAt.setState (h : ScAt w base br s v1 at_ v2 vs us tp) (s' : Int) : ScAt (w.setCell ⟨br, 0, none⟩ (.int .i64 s')) base br s' v1 at_ v2 vs us tp := by
  have hg : w.grownBy (w.setCell ⟨br, 0, none⟩ (.int .i64 s')) (some br) := ⟨rfl, rfl, rfl, by simp, fun k _ hk => heap_setCell_other w ⟨br, 0, none⟩ k _ (fun e => hk (by rw [e]))⟩
  refine ⟨?_, h.hbr, ?_, ?_, h.len1, h.len2, ?_, h.apart⟩
  · exact (heap_setCell_same w br 0 _ 32 _ h.cells).trans rfl
  · exact kept_of h.row1 hg (fun k hk e => by obtain ⟨c, hc⟩ := own_typed h.row1 k hk; injection e with e; exact ne_of_typed h.cells hc (by decide) e)
  · exact kept_of h.row2 hg (fun k hk e => by obtain ⟨c, hc⟩ := own_typed h.row2 k hk; injection e with e; exact ne_of_typed h.cells hc (by decide) e)
  · exact fun i u l hu hl => kept_of (h.inner i u l hu hl) hg (fun k hk e => by obtain ⟨c, hc⟩ := own_typed (h.inner i u l hu hl) k hk; injection e with e; exact ne_of_typed h.cells hc (by decide) e)
theorem ScAt.setTape (h : ScAt w base br s v1 at_ v2 vs us tp) {i : Nat} {u u' : Value} {l l' : List Int} (hu : us[i]? = some u) (hl : tp[i]? = some l) (hg : w.grownBy w' u.ownBlock) (hat : u'.ownBlock = u.ownBlock ∨ ∃ b, u'.ownBlock = some b ∧ w.heap.size ≤ b)
    (ho : w'.ownsRow base 3 1 u' l'.length (l'.map (Value.int .i64))) : ScAt w' base br s v1 at_ v2 vs (us.set i u') (tp.set i l') := by
  have own := h.inner i u l hu hl
  have iu : i < us.length := (List.getElem?_eq_some_iff.1 hu).1
  have lt : ∀ k, k < w.heap.size → u'.ownBlock = some k → u.ownBlock = some k := fun k hk e => by
    rcases hat with e1 | ⟨b, e1, hb⟩
    · rw [← e1]; exact e
    · rw [e1] at e; injection e with e; omega
  refine ⟨?_, h.hbr, ?_, ?_, ?_, ?_, ?_, ?_, ?_⟩
  · refine (hg.block br (Array.getElem?_eq_some_iff.1 h.cells).1 (fun e => ?_)).trans h.cells
    obtain ⟨c, hc⟩ := own_typed own br e.symm
    exact ne_of_typed h.cells hc (by decide) rfl
  · exact kept_of h.row1 hg (fun k hk e => h.apart.1 i u k hu e hk)
  · refine kept_of h.row2 hg (fun k hk e => ?_)
    obtain ⟨c, hc⟩ := own_typed own k e
    obtain ⟨c', hc'⟩ := own_typed h.row2 k hk
    exact ne_of_typed hc hc' (by decide) rfl
  · simpa using h.len1
  · simpa using h.len2
  · intro j v m hv hm
    by_cases e : i = j
    · subst e
      rw [List.getElem?_set_self iu] at hv
      rw [List.getElem?_set_self (by rw [← h.len1]; exact iu)] at hm
      obtain rfl := Option.some.inj hv
      obtain rfl := Option.some.inj hm
      exact ho
    · rw [List.getElem?_set_ne e] at hv hm
      exact kept_of (h.inner j v m hv hm) hg (fun k hk e' => h.apart.2 i j u v k hu hv e e' hk)
  · intro j v k hv hk he
    have k1 : k < w.heap.size := (Array.getElem?_eq_some_iff.1 (own_typed h.row1 k he).choose_spec).1
    by_cases e : i = j
    · subst e
      rw [List.getElem?_set_self iu] at hv
      obtain rfl := Option.some.inj hv
      exact h.apart.1 i u k hu (lt k k1 hk) he
    · rw [List.getElem?_set_ne e] at hv
      exact h.apart.1 j v k hv hk he
  · intro j j' a b k ha hb hne hk he
    have old : ∀ (x : Nat) (y : Value), us[x]? = some y → y.ownBlock = some k → k < w.heap.size := fun x y hy hk => by
      have hx : x < tp.length := by rw [← h.len1]; exact (List.getElem?_eq_some_iff.1 hy).1
      exact (Array.getElem?_eq_some_iff.1 (own_typed (h.inner x y _ hy (List.getElem?_eq_getElem hx)) k hk).choose_spec).1
    by_cases e : i = j
    · subst e
      rw [List.getElem?_set_self iu] at ha
      obtain rfl := Option.some.inj ha
      rw [List.getElem?_set_ne hne] at hb
      exact h.apart.2 i j' u b k hu hb hne (lt k (old j' b hb he) hk) he
    · rw [List.getElem?_set_ne e] at ha
      by_cases e' : i = j'
      · subst e'
        rw [List.getElem?_set_self iu] at hb
        obtain rfl := Option.some.inj hb
        exact h.apart.2 j i a u k ha hu hne hk (lt k (old j a ha hk) he)
      · rw [List.getElem?_set_ne e'] at hb
        exact h.apart.2 j j' a b k ha hb hne hk he
theorem ScAt.setAt (h : ScAt w base br s v1 at_ v2 vs us tp) {g : Nat} (hv : v1.ownBlock = some g) {at' : List Int} (hg : w.grownBy w' (some g)) (ho : w'.ownsRow base 3 1 v1 at'.length (at'.map (Value.int .i64))) : ScAt w' base br s v1 at' v2 vs us tp := by
  obtain ⟨c1, hc1⟩ := own_typed h.row1 g hv
  refine ⟨?_, h.hbr, ho, ?_, h.len1, h.len2, ?_, h.apart⟩
  · refine (hg.block br (Array.getElem?_eq_some_iff.1 h.cells).1 (fun e => ?_)).trans h.cells
    injection e with e
    exact ne_of_typed h.cells hc1 (by decide) e
  · refine kept_of h.row2 hg (fun k hk e => ?_)
    injection e with e
    obtain ⟨c', hc'⟩ := own_typed h.row2 k hk
    exact ne_of_typed hc1 hc' (by decide) e
  · intro i u l hu hl
    refine kept_of (h.inner i u l hu hl) hg (fun k hk e => ?_)
    injection e with e
    subst e
    exact h.apart.1 i u g hu hk hv
theorem ScAt.setOuter (h : ScAt w base br s v1 at_ v2 vs us tp) {g : Nat} (hv : v2.ownBlock = some g) {vs' : List Value} (hg : w.grownBy w' (some g)) (hn : vs'.length = us.length) (ho : w'.ownsRow base 25 1 v2 vs'.length vs') : ScAt w' base br s v1 at_ v2 vs' us tp := by
  obtain ⟨c1, hc1⟩ := own_typed h.row2 g hv
  refine ⟨?_, h.hbr, ?_, ho, h.len1, hn, ?_, h.apart⟩
  · refine (hg.block br (Array.getElem?_eq_some_iff.1 h.cells).1 (fun e => ?_)).trans h.cells
    injection e with e
    exact ne_of_typed h.cells hc1 (by decide) e
  · refine kept_of h.row1 hg (fun k hk e => ?_)
    injection e with e
    obtain ⟨c', hc'⟩ := own_typed h.row1 k hk
    exact ne_of_typed hc1 hc' (by decide) e
  · intro i u l hu hl
    refine kept_of (h.inner i u l hu hl) hg (fun k hk e => ?_)
    injection e with e
    obtain ⟨c', hc'⟩ := own_typed (h.inner i u l hu hl) k hk
    exact ne_of_typed hc1 hc' (by decide) e
end
theorem w64i {x : Int} (h0 : -9223372036854775808 ≤ x) (h1 : x ≤ 9223372036854775807) : wrap64 x = x := by unfold wrap64; omega
theorem rd_ith {l : List Int} {i : Nat} (h : i < l.length) : rd l i = l[i] := by
  unfold rd; rw [Int.toNat_natCast, List.getD_eq_getElem?_getD, List.getElem?_eq_getElem h]; rfl
theorem equal_at {l m : List Int} (hl : l.length ≤ 1000000) (he : l.length = m.length) : ∀ (k i : Nat), i ≤ l.length → l.length - i < k → commodatumref20_Equal.l0 k l m i = some (decide (l.drop i = m.drop i))
  | 0, i, h1, h2 => by omega
  | k + 1, i, h1, h2 => by
    unfold commodatumref20_Equal.l0
    by_cases hi : i < l.length
    · have hm : i < m.length := by omega
      rw [if_pos (by omega), if_pos (by omega), if_pos (by omega), rd_ith hi, rd_ith hm, List.drop_eq_getElem_cons hi, List.drop_eq_getElem_cons hm]
      by_cases a : l[i] = m[i]
      · rw [if_pos a, w64i (by omega) (by omega), show ((i : Int) + 1) = ((i + 1 : Nat) : Int) by omega, equal_at hl he k (i + 1) (by omega) (by omega)]
        simp only [List.cons.injEq, a, true_and]
      · rw [if_neg a]
        simp only [List.cons.injEq, a, false_and, decide_false]
    · rw [if_neg (by omega), List.drop_of_length_le (by omega), List.drop_of_length_le (by omega)]
      rfl
theorem equal_of {l m : List Int} (hl : l.length ≤ 1000000) {k : Nat} (hk : 1000001 ≤ k) : commodatumref20_Equal.f k l m = some (decide (l = m)) := by
  unfold commodatumref20_Equal.f
  by_cases he : l.length = m.length
  · rw [if_pos (by omega)]
    have := equal_at hl he k 0 (by omega) (by omega)
    simpa using this
  · rw [if_neg (by omega), show decide (l = m) = false from decide_eq_false (fun e => he (by rw [e]))]
theorem keyL_same {s s' : Int} {x y : List Int} (hx : x.length ≤ 3) (hxy : x.length = y.length) : keyL s x = keyL s' y ↔ s = s' ∧ x = y := by
  constructor
  · intro h
    simp only [keyL, List.cons.injEq, and_true] at h
    obtain ⟨h0, h1, h2, h3⟩ := h
    refine ⟨h0, List.ext_getElem hxy fun i i1 i2 => ?_⟩
    rw [← rd_ith i1, ← rd_ith i2]
    rcases (by omega : i = 0 ∨ i = 1 ∨ i = 2) with rfl | rfl | rfl
    · exact h1
    · exact h2
    · exact h3
  · rintro ⟨rfl, rfl⟩; rfl
theorem find_l0 {a0 a1 a2 : Int} {rs : List S54} {n : Nat} (hn : n ≤ 3) (hrs : ∀ r ∈ rs, r.f1.length = n) (hlen : rs.length ≤ 2000) {s : Int} {x : List Int} (hx : x.length = n) : ∀ (m i : Nat), i + m = rs.length →
    ∃ j : Int, commodatumref20_Find.l0 (1000001 + m) s x i a0 a1 a2 rs = some j ∧ (findR (rs.drop i) s x = none → j = -1) ∧ (∀ r, findR (rs.drop i) s x = some r → 0 ≤ j ∧ j < rs.length ∧ rd_T54 rs j = r)
  | 0, i, hi => by
    refine ⟨-1, ?_, fun _ => rfl, fun r hr => ?_⟩
    · show commodatumref20_Find.l0 (1000000 + 1) s x i a0 a1 a2 rs = _
      unfold commodatumref20_Find.l0
      rw [if_neg (by omega)]
    · rw [List.drop_of_length_le (by omega)] at hr; simp [findR] at hr
  | m + 1, i, hi => by
    have hil : i < rs.length := by omega
    have hr : rd_T54 rs (i : Int) = rs[i] := by unfold rd_T54; rw [Int.toNat_natCast, List.getD_eq_getElem?_getD, List.getElem?_eq_getElem hil]; rfl
    have hl := hrs rs[i] (List.getElem_mem _)
    have hd : findR (rs.drop i) s x = if (keyL rs[i].f0 rs[i].f1 == keyL s x) = true then some rs[i] else findR (rs.drop (i + 1)) s x := by
      rw [List.drop_eq_getElem_cons hil]
      unfold findR
      rw [List.find?_cons]
      cases (keyL rs[i].f0 rs[i].f1 == keyL s x) <;> rfl
    obtain ⟨j, e, h1, h2⟩ := find_l0 (a0 := a0) (a1 := a1) (a2 := a2) hn hrs hlen hx m (i + 1) (by omega)
    have eq_ := equal_of (l := rs[i].f1) (m := x) (k := 1000001 + m) (by omega) (by omega)
    have hw : wrap64 ((i : Int) + 1) = ((i + 1 : Nat) : Int) := by rw [w64i (by omega) (by omega)]; rfl
    have stp : commodatumref20_Find.l0 (1000001 + (m + 1)) s x i a0 a1 a2 rs = if rs[i].f0 = s then (some (decide (rs[i].f1 = x))).bind fun t => if t = true then some (i : Int) else commodatumref20_Find.l0 (1000001 + m) s x ((i + 1 : Nat) : Int) a0 a1 a2 rs else commodatumref20_Find.l0 (1000001 + m) s x ((i + 1 : Nat) : Int) a0 a1 a2 rs := by
      show commodatumref20_Find.l0 ((1000001 + m) + 1) s x i a0 a1 a2 rs = _
      conv => lhs; unfold commodatumref20_Find.l0
      rw [if_pos (by omega), if_pos (by omega), hr, hw, eq_]
    rw [stp]
    by_cases e0 : rs[i].f0 = s
    · by_cases e1 : rs[i].f1 = x
      · rw [if_pos e0, decide_eq_true e1, Option.bind_some, if_pos rfl]
        have hk : (keyL rs[i].f0 rs[i].f1 == keyL s x) = true := by rw [e0, e1]; simp
        rw [if_pos hk] at hd
        refine ⟨(i : Int), rfl, fun h => ?_, fun r h => ?_⟩
        · rw [hd] at h; cases h
        · rw [hd] at h
          injection h with h
          exact ⟨by omega, by omega, by rw [hr, h]⟩
      · rw [if_pos e0, decide_eq_false e1, Option.bind_some, if_neg (by decide)]
        have hk : ¬ (keyL rs[i].f0 rs[i].f1 == keyL s x) = true := by
          rw [beq_iff_eq, keyL_same (by omega) (by omega)]
          exact fun h => e1 h.2
        rw [if_neg hk] at hd
        exact ⟨j, e, fun h => h1 (by rw [← hd]; exact h), fun r h => h2 r (by rw [← hd]; exact h)⟩
    · rw [if_neg e0]
      have hk : ¬ (keyL rs[i].f0 rs[i].f1 == keyL s x) = true := by
        rw [beq_iff_eq, keyL_same (by omega) (by omega)]
        exact fun h => e0 h.1
      rw [if_neg hk] at hd
      exact ⟨j, e, fun h => h1 (by rw [← hd]; exact h), fun r h => h2 r (by rw [← hd]; exact h)⟩
theorem find_total {a0 a1 a2 : Int} {rs : List S54} {n : Nat} (hn : n ≤ 3) (hrs : ∀ r ∈ rs, r.f1.length = n) (hlen : rs.length ≤ 2000) {s : Int} {x : List Int} (hx : x.length = n) :
    ∃ k j, commodatumref20_Find.f k a0 a1 a2 rs s x = some j ∧ (findR rs s x = none → j = -1) ∧ (∀ r, findR rs s x = some r → 0 ≤ j ∧ j < rs.length ∧ rd_T54 rs j = r) := by
  obtain ⟨j, e, h1, h2⟩ := find_l0 (a0 := a0) (a1 := a1) (a2 := a2) hn hrs hlen hx rs.length 0 (by omega)
  exact ⟨_, j, e, fun h => h1 (by simpa using h), fun r h => h2 r (by simpa using h)⟩
theorem read_l0 {s : Int} {at_ : List Int} {tp : List (List Int)} (hl : at_.length = tp.length) (ht : tp.length ≤ 1000000) (h0 : ∀ i : Nat, 0 ≤ rd at_ i) : ∀ (m i : Nat), i + m = tp.length → commodatumref20_read.l0 (m + 1) ((readL at_ tp).take i) i s at_ tp = some (readL at_ tp)
  | 0, i, hi => by
    unfold commodatumref20_read.l0
    rw [if_neg (by omega), List.take_of_length_le (by rw [readL_length]; omega)]
  | m + 1, i, hi => by
    unfold commodatumref20_read.l0
    have hi0 : (0 : Int) ≤ rd at_ (i : Int) := h0 i
    have hu : commodatumref20_Under.f (rd_L1 tp (i : Int)) (rd at_ (i : Int)) = some (under (rd_L1 tp (i : Int)) (rd at_ (i : Int))) := by
      unfold commodatumref20_Under.f under
      split
      · first | rfl | rw [if_pos hi0]
      · rfl
    rw [if_pos (by omega), if_pos (by omega), if_pos (by omega), hu, Option.bind_some, if_pos (by rw [List.length_take, readL_length]; omega), w64i (by omega) (by omega), show ((i : Int) + 1) = ((i + 1 : Nat) : Int) by omega]
    have hn := readL_next at_ tp (i := (i : Int)) (by omega) (by omega)
    rw [show ((i : Int) + 1).toNat = i + 1 by omega, Int.toNat_natCast] at hn
    rw [← hn]
    exact read_l0 hl ht h0 m (i + 1) (by omega)
theorem read_total (s : Int) {at_ : List Int} {tp : List (List Int)} (hl : at_.length = tp.length) (ht : tp.length ≤ 1000000) (h0 : ∀ i : Nat, 0 ≤ rd at_ i) : ∃ k, commodatumref20_read.f k s at_ tp = some (readL at_ tp) := by
  refine ⟨tp.length + 1, ?_⟩
  unfold commodatumref20_read.f
  have := read_l0 (s := s) hl ht h0 tp.length 0 (by omega)
  simpa using this
end Go.Proofs.Ytfoodfhhdbaieaa.Giv
