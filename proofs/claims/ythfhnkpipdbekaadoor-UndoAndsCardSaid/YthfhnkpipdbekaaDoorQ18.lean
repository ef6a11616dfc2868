-- CUT by a program of this session: what the claim does not use is left out
import Derived.Test.YthfhnkpipdbekaaDoorQ17
import Derived.Test.YthfhnkpipdbekaaDoorTjx7
namespace Go.Proofs.YthfhnkpipdbekaaDoor.Pure
set_option linter.unusedVariables false
set_option linter.unusedSimpArgs false
open Go.RowKit Go.Proofs.YthfhnkpipdbekaaDoorW.PrintWords Go.Proofs.YthfhnkpipdbekaaDoorW.PrintLast Go.Proofs.YthfhnkpipdbekaaDoorW.PrintMore
open Ua Ta Giv Tb Tx Tj
theorem all_l0 (x : List Bool) (hx : x.length < 10000000) : ∀ d i, i + d = x.length → Ev (fun k => commodatumlaw12_all.l0 k x (i : Int)) ((x.drop i).all fun b => b)
 | 0, i, h => by
  rw [List.drop_eq_nil_of_le (by omega)]
  refine EvS fun k => ?_
  simp only [commodatumlaw12_all.l0]
  rw [if_neg (by omega)]; rfl
 | d + 1, i, h => by
  have hi : i < x.length := by omega
  have ih := all_l0 x hx d (i + 1) (by omega)
  rw [List.drop_eq_getElem_cons hi, List.all_cons]
  cases hv : x[i] with
  | false =>
   refine EvS fun k => ?_
   simp only [commodatumlaw12_all.l0]
   rw [if_pos (by omega), if_pos (by omega), rdb_at x i hi, hv, if_neg (by simp)]; rfl
  | true =>
   rw [Bool.true_and]
   refine Ev1 ih fun k => ?_
   simp only [commodatumlaw12_all.l0]
   rw [if_pos (by omega), if_pos (by omega), rdb_at x i hi, hv, if_pos rfl, w64 _ (by omega)]
theorem all_ev (x : List Bool) (hx : x.length < 10000000) : Ev (fun k => commodatumlaw12_all.f k x) (x.all fun b => b) := by
 have h := all_l0 x hx x.length 0 (by omega)
 rw [List.drop_zero] at h
 exact h
theorem flips_l0 {N n : Nat} {x y : List Bool} (hx : x.length = N) (hy : y.length = N) (hn : n < N) (hN : N ≤ 2000) (l : List S67) (same : ∀ i : Nat, i < N → i ≠ n → rdOf false x (i : Int) = rdOf false y (i : Int)) : ∀ d i, i + d = N → Ev (fun k => commodatumref12_Flips.l0 k (n : Int) x y (i : Int) (N : Int) l) ((rdOf false x (n : Int) != rdOf false y (n : Int)), true)
 | 0, i, h => by
  refine EvS fun k => ?_
  simp only [commodatumref12_Flips.l0]
  rw [if_neg (by omega), if_pos (by omega), if_pos (by omega), if_pos (by omega)]
 | d + 1, i, h => by
  have ih := flips_l0 hx hy hn hN l same d (i + 1) (by omega)
  refine Ev1 ih fun k => ?_
  simp only [commodatumref12_Flips.l0]
  rw [if_pos (by omega), w64 _ (by omega)]
  by_cases e : (i : Int) = (n : Int)
  ·rw [if_pos e]
  ·rw [if_neg e, if_pos (by omega), if_pos (by omega), if_pos (by omega), same i (by omega) (by omega), if_neg (by simp)]
theorem conj_restores {N n : Nat} {l : List S67} (c : Conj N n l) {x : List Bool} (hx : x.length = N) : Ev (fun k => commodatumlaw12_restores.f k (N : Int) l (n : Int) x ((x.take n).all fun b => b)) true := by
 obtain ⟨⟨v1, v2, v3⟩, v4⟩ := validB_all c.v
 have hr := c.run x hx
 obtain ⟨V, hV⟩ : ∃ V, V = ((x.take n).all fun b => b) := ⟨_, rfl⟩
 rw [← hV] at hr ⊢
 have ly : (runL x l).length = N := by rw [runL_len, hx]
 have hlt := c.lt
 have hq : (0 : Int) ≤ (n : Int) ∧ ((n : Int)).toNat < x.length := ⟨by omega, by omega⟩
 have f1 := flips_l0 hx ly hlt (by omega) l (fun i hi he => by rw [hr, rd_flip hq (by omega), if_neg (by omega)]) N 0 (by omega)
 have e1 : (rdOf false x (n : Int) != rdOf false (runL x l) (n : Int)) = V := by
  rw [hr, rd_flip hq hq.1, if_pos rfl]
  generalize rdOf false x (n : Int) = T
  cases T <;> cases V <;> rfl
 rw [e1] at f1
 have f2 : Ev (fun k => commodatumref12_Flips.f k (N : Int) l (n : Int) x) (V, true) := by
  refine Ev.bind (refRun_ev (N : Int) v3 (by omega) (fun o ho => by rw [hx]; exact v4 o ho)) ?_
  exact f1
 have key : Ev (fun k => (commodatumref12_Flips.f k (N : Int) l (n : Int) x).bind fun bt324 => (if bt324.2 = true then (some (bt324.1 == V)) else (some false))) true :=
  Ev.bind f2 (EvSome fun k => by rw [if_pos rfl]; simp)
 exact key
theorem conj_l0 {N n : Nat} {l : List S67} (c : Conj N n l) (hN : N ≤ 12) : ∀ (d i : Nat), i + d = 2 ^ N → Ev (fun k => commodatumlaw12_conjunction.l0 k (n : Int) (i : Int) (N : Int) l) true
 | 0, i, h => by
  refine EvS fun k => ?_
  simp only [commodatumlaw12_conjunction.l0]
  rw [if_pos (by omega), pow_int N (by omega), if_neg (by omega)]
 | d + 1, i, h => by
  have hp := pow_le N (by omega)
  have ih := conj_l0 c hN d (i + 1) (by omega)
  have hlt := c.lt
  have hb : (bitsL N i).length = N := bitsL_len N i
  have key : Ev (fun k => (commodatumref12_Bits.f k (i : Int) (N : Int)).bind fun t328 => (if (n : Int) ≤ (t328.length : Int) then ((commodatumlaw12_all.f k (t328.take ((n : Int)).toNat)).bind fun t335 => ((commodatumlaw12_restores.f k (N : Int) l (n : Int) t328 t335).bind fun t336 => (if t336 = true then (commodatumlaw12_conjunction.l0 k (n : Int) (((i + 1 : Nat) : Int)) (N : Int) l) else (none)))) else (none))) true := by
   refine Ev.bind (refBits_ev (by omega) (by omega)) ?_
   have key2 : Ev (fun k => (commodatumlaw12_all.f k ((bitsL N i).take n)).bind fun t335 => ((commodatumlaw12_restores.f k (N : Int) l (n : Int) (bitsL N i) t335).bind fun t336 => (if t336 = true then (commodatumlaw12_conjunction.l0 k (n : Int) (((i + 1 : Nat) : Int)) (N : Int) l) else (none)))) true := by
    refine Ev.bind (all_ev _ (by rw [List.length_take]; omega)) (Ev.bind (conj_restores c hb) ?_)
    exact EvC ih fun k => if_pos rfl
   refine EvC key2 fun k => ?_
   rw [if_pos (by omega), Int.toNat_natCast]
  refine Ev1 key fun k => ?_
  simp only [commodatumlaw12_conjunction.l0]
  rw [if_pos (by omega), pow_int N (by omega), if_pos (by omega), w64 _ (by omega)]
  congr 1
def spreadAt (l : List Int) (i : Nat) : Bool := (Go.bits .and .i64 (shr .i64 (rd l (Int.tmod (i : Int) (l.length : Int))) (Int.tmod (wrap64 (Int.tdiv (i : Int) (l.length : Int))) 16)) 1 == 1)
theorem spread_l0 (l : List Int) (N : Nat) (hl : 1 ≤ l.length ∧ l.length ≤ 2000) (hN : N ≤ 10000) : ∀ d i (x : List Bool), i + d = N → x.length = N → ∃ y : List Bool, y.length = N ∧ Ev (fun k => commodatumlaw12_spread.l0 k l (N : Int) x (i : Int)) y
 | 0, i, x, h, hx => ⟨x, hx, EvS fun k => by simp only [commodatumlaw12_spread.l0]; rw [if_neg (by omega)]⟩
 | d + 1, i, x, h, hx => by
  obtain ⟨y, hy, ih⟩ := spread_l0 l N hl hN d (i + 1) (x.set i (spreadAt l i)) (by omega) (by rw [List.length_set, hx])
  refine ⟨y, hy, Ev1 ih fun k => ?_⟩
  have t0 : 0 ≤ Int.tmod (i : Int) (l.length : Int) := Int.tmod_nonneg _ (by omega)
  have t1 : Int.tmod (i : Int) (l.length : Int) < (l.length : Int) := Int.tmod_lt_of_pos _ (by omega)
  have q0 : Int.tdiv (i : Int) (l.length : Int) = ((i / l.length : Nat) : Int) := by rw [Int.tdiv_eq_ediv_of_nonneg (by omega)]; rfl
  have q1 : i / l.length ≤ i := Nat.div_le_self _ _
  have q2 : 0 ≤ Int.tmod (wrap64 (Int.tdiv (i : Int) (l.length : Int))) 16 := Int.tmod_nonneg _ (by rw [q0]; generalize i / l.length = z at *; unfold wrap64; omega)
  simp only [commodatumlaw12_spread.l0]
  rw [if_pos (by omega), if_pos (by omega), if_neg (by omega), if_pos t0, if_pos t1, if_pos q2, if_pos (by omega), if_pos (by omega), w64 _ (by omega)]
  rfl
theorem spread_ev (l : List Int) (N : Nat) (hl : 1 ≤ l.length ∧ l.length ≤ 2000) (hN : N ≤ 10000) : ∃ y : List Bool, y.length = N ∧ Ev (fun k => commodatumlaw12_spread.f k l (N : Int)) y := by
 obtain ⟨y, hy, h⟩ := spread_l0 l N hl hN N 0 (List.replicate N false) (by omega) (by simp)
 refine ⟨y, hy, EvC h fun k => ?_⟩
 unfold commodatumlaw12_spread.f
 rw [if_pos (by omega), if_pos (by omega)]
 rfl
theorem conj_j6 {N n : Nat} {l : List S67} (c : Conj N n l) {L : List Int} {q : Nat} (hq : q ≤ 5) {x : List Bool} (hx : x.length = N) (next : Ev (fun k => commodatumlaw12_conjunction.l1 k (n : Int) L ((q + 1 : Nat) : Int) (N : Int) l) true) : Ev (fun k => commodatumlaw12_conjunction.j6 k (n : Int) L (q : Int) x (N : Int) l) true := by
 have hlt := c.lt
 obtain ⟨⟨v1, v2, v3⟩, v4⟩ := validB_all c.v
 have key : Ev (fun k => (commodatumlaw12_all.f k (x.take n)).bind fun t353 => ((commodatumlaw12_restores.f k (N : Int) l (n : Int) x t353).bind fun t354 => (if t354 = true then (commodatumlaw12_conjunction.l1 k (n : Int) L ((q + 1 : Nat) : Int) (N : Int) l) else (none)))) true := by
  refine Ev.bind (all_ev _ (by rw [List.length_take]; omega)) (Ev.bind (conj_restores c hx) ?_)
  exact EvC next fun k => if_pos rfl
 refine Ev1 key fun k => ?_
 simp only [commodatumlaw12_conjunction.j6]
 rw [if_pos (by omega), if_pos (by omega), Int.toNat_natCast, w64 _ (by omega)]
theorem conj_j5 {N n : Nat} {l : List S67} (c : Conj N n l) (h1 : 1 ≤ n) {L : List Int} {q : Nat} (hq : q ≤ 5) {x : List Bool} (hx : x.length = N) (next : Ev (fun k => commodatumlaw12_conjunction.l1 k (n : Int) L ((q + 1 : Nat) : Int) (N : Int) l) true) (b : Bool) (hb : b = true → 0 < L.length) : Ev (fun k => commodatumlaw12_conjunction.j5 k (n : Int) L (q : Int) x b (N : Int) l) true := by
 have hlt := c.lt
 obtain ⟨⟨v1, v2, v3⟩, v4⟩ := validB_all c.v
 cases b with
 | false =>
  refine Ev1 (conj_j6 c hq hx next) fun k => ?_
  simp only [commodatumlaw12_conjunction.j5]
  rw [if_neg (by simp)]
 | true =>
  have hL := hb rfl
  have a0 := Int.tmod_lt_of_pos (rd L 0) (show (0 : Int) < (n : Int) by omega)
  have a1 : -(n : Int) < Int.tmod (rd L 0) (n : Int) := by
   have e := Int.natAbs_tmod (rd L 0) (n : Int)
   have f := Nat.mod_lt (rd L 0).natAbs (show 0 < (n : Int).natAbs by omega)
   omega
  obtain ⟨z, hz⟩ : ∃ z, z = wrap64 (Int.tmod (rd L 0) (n : Int) + (n : Int)) := ⟨_, rfl⟩
  have z0 : 0 ≤ z := by rw [hz]; generalize Int.tmod (rd L 0) (n : Int) = t at *; unfold wrap64; omega
  have i0 : 0 ≤ Int.tmod z (n : Int) := Int.tmod_nonneg _ z0
  have i1 : Int.tmod z (n : Int) < (n : Int) := Int.tmod_lt_of_pos _ (by omega)
  refine Ev1 (conj_j6 c hq (x := x.set (Int.tmod z (n : Int)).toNat false) (by rw [List.length_set, hx]) next) fun k => ?_
  simp only [commodatumlaw12_conjunction.j5]
  rw [← hz]
  clear hz
  rw [if_pos trivial, if_pos (by omega), if_neg (by omega), if_pos i0, if_pos (by omega)]
theorem conj_j4 {N n : Nat} {l : List S67} (c : Conj N n l) (h1 : 1 ≤ n) {L : List Int} {q : Nat} (hq : q ≤ 5) {x : List Bool} (hx : x.length = N) (next : Ev (fun k => commodatumlaw12_conjunction.l1 k (n : Int) L ((q + 1 : Nat) : Int) (N : Int) l) true) : Ev (fun k => commodatumlaw12_conjunction.j4 k (n : Int) L (q : Int) x (N : Int) l) true := by
 by_cases e : (q : Int) > 3
 ·refine Ev1 (conj_j5 c h1 hq hx next (decide ((L.length : Int) > 0)) (fun h => by have := of_decide_eq_true h; omega)) fun k => ?_
  simp only [commodatumlaw12_conjunction.j4]
  rw [if_pos e]
 ·refine Ev1 (conj_j5 c h1 hq hx next false (fun h => by cases h)) fun k => ?_
  simp only [commodatumlaw12_conjunction.j4]
  rw [if_neg e]
theorem conj_l2 {N n : Nat} {l : List S67} (c : Conj N n l) (h1 : 1 ≤ n) {L : List Int} {q : Nat} (hq : q ≤ 5) (next : Ev (fun k => commodatumlaw12_conjunction.l1 k (n : Int) L ((q + 1 : Nat) : Int) (N : Int) l) true) : ∀ (d i : Nat) (x : List Bool), i + d = n → x.length = N → Ev (fun k => commodatumlaw12_conjunction.l2 k (n : Int) L (q : Int) x (i : Int) (N : Int) l) true
 | 0, i, x, h, hx => by
  refine Ev1 (conj_j4 c h1 hq hx next) fun k => ?_
  simp only [commodatumlaw12_conjunction.l2]
  rw [if_neg (by omega)]
 | d + 1, i, x, h, hx => by
  have hlt := c.lt
  obtain ⟨⟨v1, v2, v3⟩, v4⟩ := validB_all c.v
  by_cases e : (q : Int) > 1
  ·refine Ev1 (conj_l2 c h1 hq next d (i + 1) (x.set i true) (by omega) (by rw [List.length_set, hx])) fun k => ?_
   simp only [commodatumlaw12_conjunction.l2]
   rw [if_pos (by omega), if_pos e, if_pos (by omega), if_pos (by omega), Int.toNat_natCast, w64 _ (by omega)]
  ·refine Ev1 (conj_j4 c h1 hq hx next) fun k => ?_
   simp only [commodatumlaw12_conjunction.l2]
   rw [if_pos (by omega), if_neg e]
theorem conj_l1 {N n : Nat} {l : List S67} (c : Conj N n l) (h1 : 1 ≤ n) {L : List Int} (hL : L.length ≤ 1000) : ∀ (d q : Nat), q + d = 6 → Ev (fun k => commodatumlaw12_conjunction.l1 k (n : Int) L (q : Int) (N : Int) l) true
 | 0, q, h => by
  refine EvS fun k => ?_
  simp only [commodatumlaw12_conjunction.l1]
  rw [if_neg (by omega)]
 | d + 1, q, h => by
  have hlt := c.lt
  obtain ⟨⟨v1, v2, v3⟩, v4⟩ := validB_all c.v
  have next := conj_l1 c h1 hL d (q + 1) (by omega)
  obtain ⟨y, hy, hs⟩ := spread_ev ((q : Int) :: L) N ⟨by simp, by simp; omega⟩ (by omega)
  have key : Ev (fun k => (commodatumlaw12_spread.f k ((q : Int) :: L) (N : Int)).bind fun t343 => (commodatumlaw12_conjunction.l2 k (n : Int) L (q : Int) t343 0 (N : Int) l)) true :=
   Ev.bind hs (conj_l2 c h1 (by omega) next n 0 y (by omega) hy)
  refine Ev1 key fun k => ?_
  simp only [commodatumlaw12_conjunction.l1]
  rw [if_pos (by omega)]
  simp only [Option.bind_some, List.length_singleton]
  rw [if_pos (by omega)]
  rfl
theorem conj_ev {N n : Nat} {l : List S67} (c : Conj N n l) (h1 : 12 < N → 1 ≤ n) {L : List Int} (hL : L.length ≤ 1000) {b o : Int} (hb : (N : Int) ≤ b) (ho : (l.length : Int) ≤ o) : Ev (fun k => commodatumlaw12_conjunction.f k (N : Int) l (n : Int) b o L) true := by
 have hlt := c.lt
 have j0 : Ev (fun k => commodatumlaw12_conjunction.j0 k (n : Int) L false (N : Int) l) true := by
  by_cases e : (N : Int) ≤ 12
  ·refine Ev1 (conj_l0 c (by omega) (2 ^ N) 0 (by omega)) fun k => ?_
   simp only [commodatumlaw12_conjunction.j0]
   rw [if_neg (by simp), if_pos e]; rfl
  ·refine Ev1 (conj_l1 c (h1 (by omega)) hL 6 0 (by omega)) fun k => ?_
   simp only [commodatumlaw12_conjunction.j0]
   rw [if_neg (by simp), if_neg e]; rfl
 have key : Ev (fun k => (commodatumref12_Valid.f k (N : Int) l).bind fun t327 => (if t327 = true then (if (N : Int) ≤ (n : Int) then (commodatumlaw12_conjunction.j0 k (n : Int) L true (N : Int) l) else (if (N : Int) > b then (commodatumlaw12_conjunction.j0 k (n : Int) L true (N : Int) l) else (commodatumlaw12_conjunction.j0 k (n : Int) L (decide ((l.length : Int) > o)) (N : Int) l))) else (commodatumlaw12_conjunction.j0 k (n : Int) L true (N : Int) l))) true := by
  refine Ev.bind (refValid_ev (N : Int) l) ?_
  rw [c.v]
  refine EvC j0 fun k => ?_
  rw [if_pos rfl, if_neg (by omega), if_neg (by omega), show decide ((l.length : Int) > o) = false from decide_eq_false (by omega)]
 exact key
theorem pure_UndoAnds (a : Int) (L : List Int) : ∃ k, commodatumlaw12_UndoAnds.f k a L = some true := by
 have key : Ev (fun k => commodatumlaw12_UndoAnds.f k a L) true := by
  unfold commodatumlaw12_UndoAnds.f
  by_cases hL : (L.length : Int) > 1000
  ·exact EvC awake_bind fun k => if_pos hL
  ·by_cases ha : a < 0 ∨ 300 < a
   ·have n0 : commodatumlaw12_none.f 0 ([] : List S67) = some true := by decide
    have j0 : Ev (fun k => commodatumlaw12_UndoAnds.j0 k a L 2 2 true 0 [] 0 []) true := by
     refine Ev1 awake_bind fun k => ?_
     simp only [commodatumlaw12_UndoAnds.j0, n0, Option.bind_some, if_true]
    have key2 : Ev (fun k => (undo_And.f k a).bind fun bt356 => ((undo_AndOne.f k a).bind fun bt362 => (if a < 0 then (commodatumlaw12_UndoAnds.j0 k a L bt356.2.2 bt362.2.2 true bt356.1 bt356.2.1 bt362.1 bt362.2.1) else (commodatumlaw12_UndoAnds.j0 k a L bt356.2.2 bt362.2.2 (decide (a > 300)) bt356.1 bt356.2.1 bt362.1 bt362.2.1)))) true := by
     refine Ev.bind (and_out ha) (Ev.bind (andOne_out ha) (EvC j0 fun k => ?_))
     by_cases c : a < 0
     ·rw [if_pos c]
     ·rw [if_neg c, show decide (a > 300) = true from decide_eq_true (by omega)]
    exact EvC key2 fun k => if_neg hL
   ·obtain ⟨n, rfl⟩ : ∃ n : Nat, a = (n : Int) := ⟨a.toNat, by omega⟩
    have hn : n ≤ 300 := by omega
    have e1 : wrap64 (wrap64 ((n : Int) + 1) + mx 0 (wrap64 ((n : Int) - 2))) = ((bitsAnd n : Nat) : Int) := by
     rw [mx_sub n hn, w64 n (by omega)]; unfold wrap64 bitsAnd; omega
    have e2 : wrap64 ((n : Int) + 2) = ((n + 2 : Nat) : Int) := by unfold wrap64; omega
    have e3 : wrap64 (4 * (n : Int)) = ((4 * n : Nat) : Int) := by unfold wrap64; omega
    have e4 : wrap64 (8 * (n : Int)) = ((8 * n : Nat) : Int) := by unfold wrap64; omega
    have a1 := and_len n
    have a2 := andOne_len n
    have b2 : bitsOne n ≤ n + 2 := by unfold bitsOne bitsAnd; split <;> omega
    have c1 := conj_ev (and_conj n hn) (fun h => by unfold bitsAnd at h; omega) (L := L) (by omega) (b := ((bitsAnd n : Nat) : Int)) (o := mx 1 ((4 * n : Nat) : Int)) (Int.le_refl _) (by unfold mx; omega)
    have c2 := conj_ev (andOne_conj n hn) (fun h => by omega) (L := L) (by omega) (b := ((n + 2 : Nat) : Int)) (o := mx 1 ((8 * n : Nat) : Int)) (by omega) (by unfold mx; omega)
    have j0 : Ev (fun k => commodatumlaw12_UndoAnds.j0 k (n : Int) L 0 0 false ((bitsAnd n : Nat) : Int) (andL n) ((bitsOne n : Nat) : Int) (andOneL n)) true := by
     have key3 : Ev (fun k => (commodatumlaw12_conjunction.f k ((bitsAnd n : Nat) : Int) (andL n) (n : Int) ((bitsAnd n : Nat) : Int) (mx 1 ((4 * n : Nat) : Int)) L).bind fun t371 => (if t371 = true then ((commodatumlaw12_conjunction.f k ((bitsOne n : Nat) : Int) (andOneL n) (n : Int) ((n + 2 : Nat) : Int) (mx 1 ((8 * n : Nat) : Int)) L).bind fun t372 => (if t372 = true then ((commodatumlaw12_Awake.f k).bind fun t373 => (some t373)) else (none))) else (none))) true := by
      refine Ev.bind c1 ?_
      refine EvC (f := fun k => (commodatumlaw12_conjunction.f k ((bitsOne n : Nat) : Int) (andOneL n) (n : Int) ((n + 2 : Nat) : Int) (mx 1 ((8 * n : Nat) : Int)) L).bind fun t372 => (if t372 = true then ((commodatumlaw12_Awake.f k).bind fun t373 => (some t373)) else (none))) ?_ fun k => if_pos rfl
      refine Ev.bind c2 ?_
      exact EvC awake_bind fun k => if_pos rfl
     refine Ev1 key3 fun k => ?_
     simp only [commodatumlaw12_UndoAnds.j0]
     rw [if_neg (by simp), if_pos trivial, if_pos trivial, e1, e2, e3, e4]
    have key2 : Ev (fun k => (undo_And.f k (n : Int)).bind fun bt356 => ((undo_AndOne.f k (n : Int)).bind fun bt362 => (if (n : Int) < 0 then (commodatumlaw12_UndoAnds.j0 k (n : Int) L bt356.2.2 bt362.2.2 true bt356.1 bt356.2.1 bt362.1 bt362.2.1) else (commodatumlaw12_UndoAnds.j0 k (n : Int) L bt356.2.2 bt362.2.2 (decide ((n : Int) > 300)) bt356.1 bt356.2.1 bt362.1 bt362.2.1)))) true := by
     refine Ev.bind (and_ev n hn) (Ev.bind (andOne_ev n hn) (EvC j0 fun k => ?_))
     rw [if_neg (by omega), show decide ((n : Int) > 300) = false from decide_eq_false (by omega)]
    exact EvC key2 fun k => if_neg hL
 exact key.elim fun k hk => ⟨k, hk k (Nat.le_refl _)⟩
end Go.Proofs.YthfhnkpipdbekaaDoor.Pure
