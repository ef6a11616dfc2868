-- CUT by a program of this session: what the claim does not use is left out
import Derived.Test.YtfoodfhhdbaieaaDoorM37
import Derived.Test.YtfoodfhhdbaieaaDoorM38
namespace Go.Proofs.YtfoodfhhdbaieaaDoor.Giv
set_option maxRecDepth 100000
set_option linter.unusedVariables false
set_option linter.unusedSimpArgs false
open Go.RowKit Go.Shelf Go.Proofs.YtfoodfhhdbaieaaDoorW.PrintWords Go.Proofs.YtfoodfhhdbaieaaDoorW.PrintLast Go.Proofs.YtfoodfhhdbaieaaDoorW.PrintMore
open Go.Proofs.YtfoodfhhdbaieaaDoor.Ka (S40 k40 z40 rd_T40 at_T40 k40_open k40_mk rd_L1 at_L1 info3 info38 info40)
open Go.Proofs.YtfoodfhhdbaieaaDoor.Pure
theorem set4_get {W : World} {g : Nat} {z0 z1 z2 z3 : Value} (h : W.heap[g]? = some (.cells #[z0, z1, z2, z3] 24 (0, 0))) (c0 c1 c2 c3 : Value) :
  ((((W.setCell ⟨g, 0, none⟩ c0).setCell ⟨g, 1, none⟩ c1).setCell ⟨g, 2, none⟩ c2).setCell ⟨g, 3, none⟩ c3).heap[g]? = some (.cells #[c0, c1, c2, c3] 24 (0, 0)) :=
 blk_set (blk_set (blk_set (blk_set h 0 c0) 1 c1) 2 c2) 3 c3
theorem set4_other {W : World} {g k : Nat} (h : k ≠ g) (c0 c1 c2 c3 : Value) :
  ((((W.setCell ⟨g, 0, none⟩ c0).setCell ⟨g, 1, none⟩ c1).setCell ⟨g, 2, none⟩ c2).setCell ⟨g, 3, none⟩ c3).heap[k]? = W.heap[k]? :=
 ((Below.heap_setCell _ _ _ _ (by exact h)).trans ((Below.heap_setCell _ _ _ _ (by exact h)).trans ((Below.heap_setCell _ _ _ _ (by exact h)).trans (Below.heap_setCell _ _ _ _ (by exact h)))))
theorem set4_below {w W : World} {g : Nat} (h : Below w.heap.size w W) (hg : w.heap.size ≤ g) (c0 c1 c2 c3 : Value) :
  Below w.heap.size w ((((W.setCell ⟨g, 0, none⟩ c0).setCell ⟨g, 1, none⟩ c1).setCell ⟨g, 2, none⟩ c2).setCell ⟨g, 3, none⟩ c3) :=
 below_set (below_set (below_set (below_set h hg) hg) hg) hg
theorem set4_rows {W : World} {base g : Nat} {v z0 z1 z2 z3 : Value} {rs : List S40} (hr : RowsAt W base v rs) (h : W.heap[g]? = some (.cells #[z0, z1, z2, z3] 24 (0, 0))) (c0 c1 c2 c3 : Value) :
  RowsAt ((((W.setCell ⟨g, 0, none⟩ c0).setCell ⟨g, 1, none⟩ c1).setCell ⟨g, 2, none⟩ c2).setCell ⟨g, 3, none⟩ c3) base v rs :=
 (((hr.set h).set (blk_set h 0 c0)).set (blk_set (blk_set h 0 c0) 1 c1)).set (blk_set (blk_set (blk_set h 0 c0) 1 c1) 2 c2)
theorem nil_C (W : World) : Kd.C k40 W none ([] : List S40).length [] := ⟨rfl, by simp, fun h => by simp at h⟩
theorem valid_rows {a0 a1 a2 : Int} {l : List S40} (h : validM a0 a1 a2 l = true) : ∀ r ∈ l, r.f1.length ≤ 1000000 ∧ r.f3.length ≤ 1000000 ∧ r.f4.length ≤ 1000000 := fun r hr => by
 have h1 := ((valid_neat h).2.2 r hr).parts
 have := h1.2.1.2; have := h1.2.2.2.1.2; have := h1.2.2.2.2.2
 omega
theorem writeT_rules (a0 a1 a2 : Int) (l : List S40) : l.length ≤ (writeT a0 a1 a2 l).length := by
 rw [writeT_join, List.length_append]
 have : ∀ m : List S40, m.length ≤ ((m.map fun r => numsB (ruleN r)).map fun x => (59 :: [32]) ++ x).flatten.length := fun m => by
  induction m with
  | nil => simp
  | cons r m ih => simp only [List.map_cons, List.flatten_cons, List.length_append, List.length_cons] at ih ⊢; omega
 have := this l
 omega
theorem parse_len {s : ByteArray} {x y z : Int} {l : List S40} (h : parseP numsQ (splR s semi 0 0) s = some (x, y, z, l)) (hs : s.size ≤ 4000) : l.length ≤ 4000 := by
 have h1 := (parseP_sound h).2
 have h2 : (writeT x y z l).length = s.size := by rw [h1]; simp
 have h3 := writeT_rules x y z l
 omega
set_option maxHeartbeats 16000000 in
theorem tapeParses_walk (s : ByteArray) (w : World) (hlay : LaidP w) (hsz : s.size ≤ 140737488351232) :
  Calls Tryd.prog 4 #[.string s] w fun e w' => e = .returned (.bool true) ∧ Below w.heap.size w w' := by
 have HLAY := Aside0.mk hlay
 have HSZ := Aside0.mk hsz
 have HB8 := Aside0.mk (Below.refl w.heap.size w)
 clear hlay hsz
 by_cases c0 : s.size ≤ 4000
 ·have HS := Aside0.mk c0
  have HPX : Aside0 (parseF s = parseP numsQ (splR s semi 0 0) s) := ⟨by rw [parse_same]; exact if_pos (by omega)⟩
  have d1 : decide ((4000 : Int) < (s.size : Int)) = false := decide_eq_false (by omega)
  have d2 : decide (4000 < s.size) = false := decide_eq_false (by omega)
  have d3 : (4000 < s.size) = False := eq_false (by omega)
  have d4 : decide ((s.size : Int) ≤ 40000) = true := decide_eq_true (by omega)
  have d5 : decide (s.size ≤ 40000) = true := decide_eq_true (by omega)
  have d6 : (s.size ≤ 40000) = True := eq_true (by omega)
  clear c0
  cases hx : parseP numsQ (splR s semi 0 0) s with
  | none =>
   have HX := Aside0.mk hx
   have HPF : Aside0 (parseF s = none) := ⟨HPX.out.trans hx⟩
   clear hx HPX
   go_enter Tryd.func4, Tryd.ntmps4
   go_upto_region 7 with (first | ((with_reducible refine gate_dst (N := 3) rfl ?_); refine box_event ?hg (N := 3) ?hd (cs := #[.int .i64 0, .int .i64 0, .int .i64 0, .slice none 0 0]) (t := 24) ?hr ?_; (case hd => rfl); (case hg => rfl); (case hr => first | (go_simp; done) | (go_simp; rfl)); intro ga hga w1 hbox hb; have HA1 := Aside0.mk hbox; have HGA : Aside0 (w.heap.size ≤ ga) := ⟨by rw [hga]; exact Nat.le_refl _⟩; have HB1 := Aside0.mk hb; obtain ⟨z0, z1, z2, z3, f0, f1, f2, f3⟩ := zero_cells hbox; clear hga; clear hbox hb) | (go_at_call 13; (obtain ⟨V1, hV1⟩ : ∃ W, ((((w1.setCell ⟨ga, 0, none⟩ (.int .i64 0)).setCell ⟨ga, 1, none⟩ (.int .i64 0)).setCell ⟨ga, 2, none⟩ (.int .i64 0)).setCell ⟨ga, 3, none⟩ (.slice none 0 0)) = W := ⟨_, rfl⟩; have HB1 : Aside0 (Below w.heap.size w V1) := ⟨by rw [← hV1]; exact set4_below HB1.out HGA.out _ _ _ _⟩; have HA1 : Aside0 (V1.heap[ga]? = some (.cells #[.int .i64 0, .int .i64 0, .int .i64 0, .slice none 0 0] 24 (0, 0))) := ⟨by rw [← hV1]; exact set4_get HA1.out _ _ _ _⟩; rw [hV1]; clear hV1; refine (refParse_calls s _ HS.out).mono ?_; rw [HX.out]; rintro e w2 ⟨hb, rfl⟩; unfold zeroM; have HA2 := Aside0.mk ((hb.block _ (Array.getElem?_eq_some_iff.1 HA1.out).1).trans HA1.out); have HB2 := Aside0.mk (below_step HB1.out hb); obtain ⟨z0, z1, z2, z3, f0, f1, f2, f3⟩ := zero_cells HA2.out; clear hb)) | (go_at_call 14; (obtain ⟨W3, hW3⟩ : ∃ W, ((((w2.setCell ⟨ga, 0, none⟩ (.int .i64 0)).setCell ⟨ga, 1, none⟩ (.int .i64 0)).setCell ⟨ga, 2, none⟩ (.int .i64 0)).setCell ⟨ga, 3, none⟩ (.slice none 0 0)) = W := ⟨_, rfl⟩; have HB3 : Aside0 (Below w.heap.size w W3) := ⟨by rw [← hW3]; exact set4_below HB2.out HGA.out _ _ _ _⟩; have HA3 : Aside0 (W3.heap[ga]? = some (.cells #[.int .i64 0, .int .i64 0, .int .i64 0, .slice none 0 0] 24 (0, 0))) := ⟨by rw [← hW3]; exact set4_get HA2.out _ _ _ _⟩; rw [hW3]; refine (parse_calls s W3 (HLAY.out.below HB3.out) HSZ.out).mono ?_; rw [HPF.out]; rintro e w4 ⟨hb, rfl⟩; unfold zeroM; have HA4 := Aside0.mk ((hb.block _ (Array.getElem?_eq_some_iff.1 HA3.out).1).trans HA3.out); have HB4 := Aside0.mk (below_step HB3.out hb); clear hb hW3)) | ((with_reducible refine gate_dst (N := 5) rfl ?_); refine box_event ?hg (N := 5) ?hd (cs := #[.int .i64 0, .int .i64 0, .int .i64 0, .slice none 0 0]) (t := 24) ?hr ?_; (case hd => rfl); (case hg => rfl); (case hr => first | (go_simp; done) | (go_simp; rfl)); intro gc hgc w5 hbox hb; have HC5 := Aside0.mk hbox; have HGC : Aside0 (w.heap.size ≤ gc) := ⟨by rw [hgc]; exact HB4.out.size⟩; have HNE : Aside0 (ga < gc) := ⟨by rw [hgc]; exact (Array.getElem?_eq_some_iff.1 HA4.out).1⟩; have HA5 := Aside0.mk ((hb.block _ (Array.getElem?_eq_some_iff.1 HA4.out).1).trans HA4.out); have HB5 := Aside0.mk (below_step HB4.out hb); obtain ⟨y0, y1, y2, y3, g0, g1, g2, g3⟩ := zero_cells hbox; clear hgc; clear hbox hb))
   obtain ⟨W6, hW6⟩ : ∃ W, ((((w5.setCell ⟨gc, 0, none⟩ (.int .i64 0)).setCell ⟨gc, 1, none⟩ (.int .i64 0)).setCell ⟨gc, 2, none⟩ (.int .i64 0)).setCell ⟨gc, 3, none⟩ (.slice none 0 0)) = W := ⟨_, rfl⟩
   have HB6 : Aside0 (Below w.heap.size w W6) := ⟨by rw [← hW6]; exact set4_below HB5.out HGC.out _ _ _ _⟩
   have HC6 : Aside0 (W6.heap[gc]? = some (.cells #[.int .i64 0, .int .i64 0, .int .i64 0, .slice none 0 0] 24 (0, 0))) := ⟨by rw [← hW6]; exact set4_get HC5.out _ _ _ _⟩
   have HA6 : Aside0 (W6.heap[ga]? = some (.cells #[.int .i64 0, .int .i64 0, .int .i64 0, .slice none 0 0] 24 (0, 0))) := ⟨by rw [← hW6]; exact (set4_other (Nat.ne_of_lt HNE.out) _ _ _ _).trans HA5.out⟩
   rw [hW6]
   clear hW6 y0 y1 y2 y3 g0 g1 g2 g3 z0 z1 z2 z3 f0 f1 f2 f3
   obtain ⟨m0, m1, m2, m3⟩ := box_cells HC6.out
   obtain ⟨n0, n1, n2, n3⟩ := box_cells HA6.out
   go_wp2_with (first | (go_at_call 15; refine (same_calls 0 0 0 none none 0 0 [] W6 (nil_C _) (nil_C _) (Nat.le_refl _) (Nat.le_refl _) (by simp) (by simp)).mono ?_; rintro e w8 ⟨rfl, hb⟩; have HB8 := Aside0.mk (below_step HB6.out hb); clear hb) | (go_at_call 7; refine (awake_walk _).mono ?_; rintro e w9 ⟨rfl, hb⟩; have HB9 := Aside0.mk (below_step HB8.out hb); clear hb))
   refine bodyPost_ret (v := .bool true) (by simp [results, Tryd.results4, go_sem]) rfl ?_
   exact ⟨rfl, HB9.out⟩
  | some m =>
   obtain ⟨x, y, z, l⟩ := m
   have HX := Aside0.mk hx
   have HPF : Aside0 (parseF s = some (x, y, z, l)) := ⟨HPX.out.trans hx⟩
   have hv := (parseP_sound hx).1
   have HVR := Aside0.mk (valid_rows hv)
   have HLL : Aside0 (l.length ≤ 1000000) := ⟨by have := parse_len HX.out HS.out; omega⟩
   clear hx hv HPX
   go_enter Tryd.func4, Tryd.ntmps4
   go_upto_region 7 with (first | ((with_reducible refine gate_dst (N := 3) rfl ?_); refine box_event ?hg (N := 3) ?hd (cs := #[.int .i64 0, .int .i64 0, .int .i64 0, .slice none 0 0]) (t := 24) ?hr ?_; (case hd => rfl); (case hg => rfl); (case hr => first | (go_simp; done) | (go_simp; rfl)); intro ga hga w1 hbox hb; have HA1 := Aside0.mk hbox; have HGA : Aside0 (w.heap.size ≤ ga) := ⟨by rw [hga]; exact Nat.le_refl _⟩; have HB1 := Aside0.mk hb; obtain ⟨z0, z1, z2, z3, f0, f1, f2, f3⟩ := zero_cells hbox; clear hga; clear hbox hb) | (go_at_call 13; (obtain ⟨V1, hV1⟩ : ∃ W, ((((w1.setCell ⟨ga, 0, none⟩ (.int .i64 0)).setCell ⟨ga, 1, none⟩ (.int .i64 0)).setCell ⟨ga, 2, none⟩ (.int .i64 0)).setCell ⟨ga, 3, none⟩ (.slice none 0 0)) = W := ⟨_, rfl⟩; have HB1 : Aside0 (Below w.heap.size w V1) := ⟨by rw [← hV1]; exact set4_below HB1.out HGA.out _ _ _ _⟩; have HA1 : Aside0 (V1.heap[ga]? = some (.cells #[.int .i64 0, .int .i64 0, .int .i64 0, .slice none 0 0] 24 (0, 0))) := ⟨by rw [← hV1]; exact set4_get HA1.out _ _ _ _⟩; rw [hV1]; clear hV1; refine (refParse_calls s _ HS.out).mono ?_; rw [HX.out]; rintro e w2 ⟨hb, A, c, rfl, hnc, ba, hR⟩; have HNC := Aside0.mk hnc; have HR2 := Aside0.mk hR; have HA2 := Aside0.mk ((hb.block _ (Array.getElem?_eq_some_iff.1 HA1.out).1).trans HA1.out); have HB2 := Aside0.mk (below_step HB1.out hb); obtain ⟨z0, z1, z2, z3, f0, f1, f2, f3⟩ := zero_cells HA2.out; clear hb hnc hR)) | (go_at_call 14; (obtain ⟨W3, hW3⟩ : ∃ W, ((((w2.setCell ⟨ga, 0, none⟩ (.int .i64 x)).setCell ⟨ga, 1, none⟩ (.int .i64 y)).setCell ⟨ga, 2, none⟩ (.int .i64 z)).setCell ⟨ga, 3, none⟩ (.slice A l.length c)) = W := ⟨_, rfl⟩; have HB3 : Aside0 (Below w.heap.size w W3) := ⟨by rw [← hW3]; exact set4_below HB2.out HGA.out _ _ _ _⟩; have HA3 : Aside0 (W3.heap[ga]? = some (.cells #[.int .i64 x, .int .i64 y, .int .i64 z, .slice A l.length c] 24 (0, 0))) := ⟨by rw [← hW3]; exact set4_get HA2.out _ _ _ _⟩; have HR3 : Aside0 (RowsAt W3 ba (.slice A l.length c) l) := ⟨by rw [← hW3]; exact set4_rows HR2.out HA2.out _ _ _ _⟩; rw [hW3]; refine (parse_calls s W3 (HLAY.out.below HB3.out) HSZ.out).mono ?_; rw [HPF.out]; rintro e w4 ⟨hb, B, d, rfl, hnd, bb, hR⟩; have HND := Aside0.mk hnd; have HS4 := Aside0.mk hR; have HR4 := Aside0.mk (HR3.out.below hb); clear hnd hR; have HA4 := Aside0.mk ((hb.block _ (Array.getElem?_eq_some_iff.1 HA3.out).1).trans HA3.out); have HB4 := Aside0.mk (below_step HB3.out hb); clear hb hW3)) | ((with_reducible refine gate_dst (N := 5) rfl ?_); refine box_event ?hg (N := 5) ?hd (cs := #[.int .i64 0, .int .i64 0, .int .i64 0, .slice none 0 0]) (t := 24) ?hr ?_; (case hd => rfl); (case hg => rfl); (case hr => first | (go_simp; done) | (go_simp; rfl)); intro gc hgc w5 hbox hb; have HC5 := Aside0.mk hbox; have HGC : Aside0 (w.heap.size ≤ gc) := ⟨by rw [hgc]; exact HB4.out.size⟩; have HNE : Aside0 (ga < gc) := ⟨by rw [hgc]; exact (Array.getElem?_eq_some_iff.1 HA4.out).1⟩; have HA5 := Aside0.mk ((hb.block _ (Array.getElem?_eq_some_iff.1 HA4.out).1).trans HA4.out); have HR5 := Aside0.mk (HR4.out.below hb); have HS5 := Aside0.mk (HS4.out.below hb); have HB5 := Aside0.mk (below_step HB4.out hb); obtain ⟨y0, y1, y2, y3, g0, g1, g2, g3⟩ := zero_cells hbox; clear hgc; clear hbox hb))
   obtain ⟨W6, hW6⟩ : ∃ W, ((((w5.setCell ⟨gc, 0, none⟩ (.int .i64 x)).setCell ⟨gc, 1, none⟩ (.int .i64 y)).setCell ⟨gc, 2, none⟩ (.int .i64 z)).setCell ⟨gc, 3, none⟩ (.slice B l.length d)) = W := ⟨_, rfl⟩
   have HB6 : Aside0 (Below w.heap.size w W6) := ⟨by rw [← hW6]; exact set4_below HB5.out HGC.out _ _ _ _⟩
   have HC6 : Aside0 (W6.heap[gc]? = some (.cells #[.int .i64 x, .int .i64 y, .int .i64 z, .slice B l.length d] 24 (0, 0))) := ⟨by rw [← hW6]; exact set4_get HC5.out _ _ _ _⟩
   have HA6 : Aside0 (W6.heap[ga]? = some (.cells #[.int .i64 x, .int .i64 y, .int .i64 z, .slice A l.length c] 24 (0, 0))) := ⟨by rw [← hW6]; exact (set4_other (Nat.ne_of_lt HNE.out) _ _ _ _).trans HA5.out⟩
   have HR6 : Aside0 (RowsAt W6 ba (.slice A l.length c) l) := ⟨by rw [← hW6]; exact set4_rows HR5.out HC5.out _ _ _ _⟩
   have HS6 : Aside0 (RowsAt W6 bb (.slice B l.length d) l) := ⟨by rw [← hW6]; exact set4_rows HS5.out HC5.out _ _ _ _⟩
   rw [hW6]
   clear hW6 y0 y1 y2 y3 g0 g1 g2 g3 z0 z1 z2 z3 f0 f1 f2 f3
   obtain ⟨m0, m1, m2, m3⟩ := box_cells HC6.out
   obtain ⟨n0, n1, n2, n3⟩ := box_cells HA6.out
   go_wp2_with (first | (go_at_call 15; refine (same_calls x y z B A d c l W6 HS6.out.C.2.2 HR6.out.C.2.2 HND.out HNC.out HLL.out HVR.out).mono ?_; rintro e w8 ⟨rfl, hb⟩; have HB8 := Aside0.mk (below_step HB6.out hb); clear hb) | (go_at_call 7; refine (awake_walk _).mono ?_; rintro e w9 ⟨rfl, hb⟩; have HB9 := Aside0.mk (below_step HB8.out hb); clear hb))
   refine bodyPost_ret (v := .bool true) (by simp [results, Tryd.results4, go_sem]) rfl ?_
   exact ⟨rfl, HB9.out⟩
 by_cases c1 : s.size ≤ 40000
 ·have d1 : decide ((4000 : Int) < (s.size : Int)) = true := decide_eq_true (by omega)
  have d2 : decide (4000 < s.size) = true := decide_eq_true (by omega)
  have d3 : (4000 < s.size) = True := eq_true (by omega)
  have d4 : decide ((s.size : Int) ≤ 40000) = true := decide_eq_true (by omega)
  have d5 : decide (s.size ≤ 40000) = true := decide_eq_true (by omega)
  have d6 : (s.size ≤ 40000) = True := eq_true (by omega)
  clear c0 c1
  go_enter Tryd.func4, Tryd.ntmps4
  go_wp2_with (go_at_call 7; refine (awake_walk _).mono ?_; rintro e w9 ⟨rfl, hb⟩; have HB9 := Aside0.mk (below_step HB8.out hb); clear hb)
  refine bodyPost_ret (v := .bool true) (by simp [results, Tryd.results4, go_sem]) rfl ?_
  exact ⟨rfl, HB9.out⟩
 ·have HX : Aside0 (parseF s = none) := ⟨if_neg (by omega)⟩
  have d1 : decide ((4000 : Int) < (s.size : Int)) = true := decide_eq_true (by omega)
  have d2 : decide (4000 < s.size) = true := decide_eq_true (by omega)
  have d3 : (4000 < s.size) = True := eq_true (by omega)
  have d4 : decide ((s.size : Int) ≤ 40000) = false := decide_eq_false (by omega)
  have d5 : decide (s.size ≤ 40000) = false := decide_eq_false (by omega)
  have d6 : (s.size ≤ 40000) = False := eq_false (by omega)
  have HPF := HX
  clear c0 c1
  go_enter Tryd.func4, Tryd.ntmps4
  go_upto_region 7 with (first | ((with_reducible refine gate_dst (N := 3) rfl ?_); refine box_event ?hg (N := 3) ?hd (cs := #[.int .i64 0, .int .i64 0, .int .i64 0, .slice none 0 0]) (t := 24) ?hr ?_; (case hd => rfl); (case hg => rfl); (case hr => first | (go_simp; done) | (go_simp; rfl)); intro ga hga w1 hbox hb; have HA1 := Aside0.mk hbox; have HGA : Aside0 (w.heap.size ≤ ga) := ⟨by rw [hga]; exact Nat.le_refl _⟩; have HB1 := Aside0.mk hb; obtain ⟨z0, z1, z2, z3, f0, f1, f2, f3⟩ := zero_cells hbox; clear hga; clear hbox hb) | (go_at_call 14; (obtain ⟨V1, hV1⟩ : ∃ W, ((((w1.setCell ⟨ga, 0, none⟩ (.int .i64 0)).setCell ⟨ga, 1, none⟩ (.int .i64 0)).setCell ⟨ga, 2, none⟩ (.int .i64 0)).setCell ⟨ga, 3, none⟩ (.slice none 0 0)) = W := ⟨_, rfl⟩; have HB1 : Aside0 (Below w.heap.size w V1) := ⟨by rw [← hV1]; exact set4_below HB1.out HGA.out _ _ _ _⟩; have HA1 : Aside0 (V1.heap[ga]? = some (.cells #[.int .i64 0, .int .i64 0, .int .i64 0, .slice none 0 0] 24 (0, 0))) := ⟨by rw [← hV1]; exact set4_get HA1.out _ _ _ _⟩; rw [hV1]; clear hV1; refine (parse_calls s _ (HLAY.out.below HB1.out) HSZ.out).mono ?_; rw [HPF.out]; rintro e w4 ⟨hb, rfl⟩; unfold zeroM; have HA4 := Aside0.mk ((hb.block _ (Array.getElem?_eq_some_iff.1 HA1.out).1).trans HA1.out); have HB4 := Aside0.mk (below_step HB1.out hb); clear hb)) | ((with_reducible refine gate_dst (N := 5) rfl ?_); refine box_event ?hg (N := 5) ?hd (cs := #[.int .i64 0, .int .i64 0, .int .i64 0, .slice none 0 0]) (t := 24) ?hr ?_; (case hd => rfl); (case hg => rfl); (case hr => first | (go_simp; done) | (go_simp; rfl)); intro gc hgc w5 hbox hb; have HC5 := Aside0.mk hbox; have HGC : Aside0 (w.heap.size ≤ gc) := ⟨by rw [hgc]; exact HB4.out.size⟩; have HNE : Aside0 (ga < gc) := ⟨by rw [hgc]; exact (Array.getElem?_eq_some_iff.1 HA4.out).1⟩; have HA5 := Aside0.mk ((hb.block _ (Array.getElem?_eq_some_iff.1 HA4.out).1).trans HA4.out); have HB5 := Aside0.mk (below_step HB4.out hb); obtain ⟨y0, y1, y2, y3, g0, g1, g2, g3⟩ := zero_cells hbox; clear hgc; clear hbox hb))
  obtain ⟨W6, hW6⟩ : ∃ W, ((((w5.setCell ⟨gc, 0, none⟩ (.int .i64 0)).setCell ⟨gc, 1, none⟩ (.int .i64 0)).setCell ⟨gc, 2, none⟩ (.int .i64 0)).setCell ⟨gc, 3, none⟩ (.slice none 0 0)) = W := ⟨_, rfl⟩
  have HB6 : Aside0 (Below w.heap.size w W6) := ⟨by rw [← hW6]; exact set4_below HB5.out HGC.out _ _ _ _⟩
  have HC6 : Aside0 (W6.heap[gc]? = some (.cells #[.int .i64 0, .int .i64 0, .int .i64 0, .slice none 0 0] 24 (0, 0))) := ⟨by rw [← hW6]; exact set4_get HC5.out _ _ _ _⟩
  have HA6 : Aside0 (W6.heap[ga]? = some (.cells #[.int .i64 0, .int .i64 0, .int .i64 0, .slice none 0 0] 24 (0, 0))) := ⟨by rw [← hW6]; exact (set4_other (Nat.ne_of_lt HNE.out) _ _ _ _).trans HA5.out⟩
  rw [hW6]
  clear hW6 y0 y1 y2 y3 g0 g1 g2 g3 z0 z1 z2 z3 f0 f1 f2 f3
  obtain ⟨m0, m1, m2, m3⟩ := box_cells HC6.out
  obtain ⟨n0, n1, n2, n3⟩ := box_cells HA6.out
  go_wp2_with (first | (go_at_call 15; refine (same_calls 0 0 0 none none 0 0 [] W6 (nil_C _) (nil_C _) (Nat.le_refl _) (Nat.le_refl _) (by simp) (by simp)).mono ?_; rintro e w8 ⟨rfl, hb⟩; have HB8 := Aside0.mk (below_step HB6.out hb); clear hb) | (go_at_call 7; refine (awake_walk _).mono ?_; rintro e w9 ⟨rfl, hb⟩; have HB9 := Aside0.mk (below_step HB8.out hb); clear hb))
  refine bodyPost_ret (v := .bool true) (by simp [results, Tryd.results4, go_sem]) rfl ?_
  exact ⟨rfl, HB9.out⟩
end Go.Proofs.YtfoodfhhdbaieaaDoor.Giv
