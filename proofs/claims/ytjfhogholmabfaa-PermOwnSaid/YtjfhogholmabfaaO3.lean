-- CUT by a program of this session: what the claim does not use is left out
import Derived.Test.YtjfhogholmabfaaO2
namespace Go.Proofs.Ytjfhogholmabfaa.Giv
set_option linter.unusedVariables false
set_option linter.unusedSimpArgs false
open Go.RowKit Go.Proofs.YtjfhogholmabfaaW.PrintWords Go.Proofs.YtjfhogholmabfaaW.PrintLast Go.Proofs.YtjfhogholmabfaaW.PrintMore
open Go.Proofs.Ytjfhogholmabfaa.Pa

structure Head (w : World) (l0 l1 : List Int) (r : Nat → List Int) (Aa : Option Addr) (ca : Nat) (Ab : Option Addr) (cb : Nat) (bF : Nat) (Af : Nat → Option Addr) (cf : Nat → Nat) (n : Nat) (W : World) : Prop where
  below : Below w.heap.size w W
  ra : Mine W w.heap.size bF (.slice Aa l0.length ca) l0
  rb : Mine W w.heap.size bF (.slice Ab l1.length cb) l1
  ge : w.heap.size ≤ bF
  arr : ∃ c, Arr5 W bF c ∧ (0 < n → ∀ j, j < 5 → c j = .slice (Af j) (r j).length (cf j))
  first : 0 < n → ∀ j, j < 5 → Mine W (bF + 1) W.heap.size (.slice (Af j) (r j).length (cf j)) (r j)
theorem same_q {K : Nat} {x y : List Int} {A B : Option Addr} {c d : Nat} {b : Bool} {w : World} (n : Nat) (hC : Kd.C (Kd.int .i64) w A x.length x) (hc : x.length ≤ c) (hD : Kd.C (Kd.int .i64) w B y.length y) (hd : y.length ≤ d) (h : commodatumref01_Same.f K x y = some b) :
    Calls Try.prog 33 #[.slice A x.length c, .slice B y.length d] (w.drewN n) fun e w'' => e = .returned (.bool b) ∧ ∃ m, w'' = w.drewN m :=
  (commodatumref01_Same.calls K _ _ x _ _ y b _ (Kd.C_drewN hC n) hc (Kd.C_drewN hD n) hd h).mono fun _ _ ⟨he, ⟨m, hm⟩⟩ => ⟨he, n + m, by rw [hm, World.drewN_drewN]⟩
theorem Mine.C {w : World} {lo hi c : Nat} {A : Option Addr} {xs : List Int} (h : Mine w lo hi (.slice A xs.length c) xs) : Kd.C (Kd.int .i64) w A xs.length xs ∧ xs.length ≤ c := by
  obtain ⟨A', c', e, h1, h2⟩ := h.reads
  injection e with e1 e2 e3
  subst e1; subst e3
  exact ⟨h2, h1⟩
structure InK (W0 : World) (bK : Nat) (r : Nat → List Int) (A : Nat → Option Addr) (c lo : Nat → Nat) (n5 n6 : Nat) (vc : Value) (cy : List (List Int)) (i : Nat) (Ak : Nat → Option Addr) (ck : Nat → Nat) (W : World) : Prop where
  below : Below W0.heap.size W0 W
  arrL : Arr5 W W0.heap.size (fun j => .slice (A j) (r j).length (c j))
  arrK : Arr5 W bK (fun j => if j < i then .slice (Ak j) (r j).length (ck j) else .slice none 0 0)
  rows : ∀ j, j < 5 → Mine W (lo j) (lo (j + 1)) (.slice (A j) (r j).length (c j)) (r j)
  kept : ∀ j, j < i → Mine W n6 W.heap.size (.slice (Ak j) (r j).length (ck j)) (r j)
  cyc : Kd.S (Kd.slice 3 (Kd.int .i64)) 22 W n5 (fun k => n5 ≤ k ∧ k < n6) vc cy
  lol : ∀ j k, j ≤ k → k ≤ 5 → lo j ≤ lo k
  lo0 : bK < lo 0
  bks : W0.heap.size < bK
  lo5 : lo 5 ≤ n5
  n56 : n5 ≤ n6
  top : n6 ≤ W.heap.size
theorem InK.start {W0 : World} {bK : Nat} {r : Nat → List Int} {A : Nat → Option Addr} {c lo : Nat → Nat} {W W6 : World} (h : Stage W0 bK r 5 A c lo W) {vc : Value} {cy : List (List Int)} (hv : Kd.S (Kd.slice 3 (Kd.int .i64)) 22 W6 W.heap.size (fun _ => True) vc cy) (hb : Below W.heap.size W W6) :
    InK W0 bK r A c lo W.heap.size W6.heap.size vc cy 0 (fun _ => none) (fun _ => 0) W6 := by
  have hL := h.arrL.lt
  have hK := h.arrK.lt
  refine ⟨h.below.trans (hb.mono h.below.size), ((h.arrL.move (hb.block _ hL)).same (fun j hj => by simp only [hj, if_true])), ((h.arrK.move (hb.block _ hK)).same (fun j hj => by simp)), fun j hj => (h.rows j hj).below hb ?_ (Nat.le_refl _), fun j hj => absurd hj (by omega), ?_, h.lo_le, h.lo0, h.bks, h.top, hb.size, Nat.le_refl _⟩
  · have := h.lo_le (j + 1) 5 (by omega) (Nat.le_refl _)
    have := h.top
    omega
  · exact Kd.S_mono (Kd.S_bound hv) (fun k hk => ⟨hk.2.1, hk.2.2.1⟩)
theorem InK.step {W0 : World} {bK : Nat} {r : Nat → List Int} {A : Nat → Option Addr} {c lo : Nat → Nat} {n5 n6 : Nat} {vc : Value} {cy : List (List Int)} {i : Nat} {Ak : Nat → Option Addr} {ck : Nat → Nat} {W w1 : World} (h : InK W0 bK r A c lo n5 n6 vc cy i Ak ck W) (hi : i < 5)
    {B : Option Addr} {cb : Nat} (hM : Mine w1 W.heap.size w1.heap.size (.slice B (r i).length cb) (r i)) (hb : Below W.heap.size W w1) : ∃ Ak ck, InK W0 bK r A c lo n5 n6 vc cy (i + 1) Ak ck (w1.setCell ⟨bK, i, none⟩ (.slice B (r i).length cb)) := by
  have hL := h.arrL.lt
  have hK := h.arrK.lt
  have hs := hb.size
  have h0 := h.lo0
  have hbk := h.bks
  have h5 := h.lo5
  have h6 := h.n56
  have ht := h.top
  have hl0 := h.lol 0 5 (by omega) (by omega)
  refine ⟨fun j => if j = i then B else Ak j, fun j => if j = i then cb else ck j, (h.below.trans (hb.mono h.below.size)).setCell (p := ⟨bK, i, none⟩) (by show W0.heap.size ≤ bK; omega) _, (h.arrL.move (hb.block _ hL)).far (by omega) _, ?_, ?_, ?_, ?_, h.lol, h.lo0, h.bks, h.lo5, h.n56, by simp; omega⟩
  · refine ((h.arrK.move (hb.block _ hK)).set i _).same (fun j hj => ?_)
    by_cases e : j = i
    · subst e; simp
    · have : (j < i + 1) = (j < i) := by simp; omega
      simp only [e, if_false, this]
  · intro j hj
    have := h.lol (j + 1) 5 (by omega) (by omega)
    have := h.lol 0 j (by omega) (by omega)
    exact ((h.rows j hj).below hb (by omega) (Nat.le_refl _)).far (.inl (by omega)) _
  · intro j hj
    by_cases e : j = i
    · subst e
      simp only [if_true]
      exact (hM.wide (lo' := n6) (hi' := w1.heap.size) ht (Nat.le_refl _)).far (.inl (by omega)) _ |>.wide (Nat.le_refl _) (by simp)
    · simp only [e, if_false]
      exact ((h.kept j (by omega)).below hb (Nat.le_refl _) (Nat.le_refl _)).far (.inl (by omega)) _ |>.wide (Nat.le_refl _) (by simp; omega)
  · exact Kd.S_far (Kd.S_move h.cyc (fun k hk => hb.block k (by omega))) (fun k hk => by show k ≠ bK; omega) _
theorem InK.drew {W0 : World} {bK : Nat} {r : Nat → List Int} {A : Nat → Option Addr} {c lo : Nat → Nat} {n5 n6 : Nat} {vc : Value} {cy : List (List Int)} {i : Nat} {Ak : Nat → Option Addr} {ck : Nat → Nat} {W : World} (h : InK W0 bK r A c lo n5 n6 vc cy i Ak ck W) (m : Nat) : InK W0 bK r A c lo n5 n6 vc cy i Ak ck (W.drewN m) :=
  ⟨pw_below_drewN h.below m, h.arrL.move rfl, h.arrK.move rfl, fun j hj => (h.rows j hj).move (fun _ _ _ => rfl), fun j hj => (h.kept j hj).move (fun _ _ _ => rfl), Kd.S_move h.cyc (fun _ _ => rfl), h.lol, h.lo0, h.bks, h.lo5, h.n56, h.top⟩

structure InS (w : World) (l0 l1 : List Int) (r : Nat → List Int) (Aa : Option Addr) (ca : Nat) (Ab : Option Addr) (cb : Nat) (bF bL bK n6 n7 : Nat) (A : Nat → Option Addr) (c lo : Nat → Nat) (Ak : Nat → Option Addr) (ck : Nat → Nat) (i : Nat) (W : World) : Prop where
  below : Below w.heap.size w W
  ra : Mine W w.heap.size bF (.slice Aa l0.length ca) l0
  rb : Mine W w.heap.size bF (.slice Ab l1.length cb) l1
  arrF : Arr5 W bF (fun j => .slice (Ak j) (r j).length (ck j))
  arrL : Arr5 W bL (fun j => .slice (A j) (r j).length (c j))
  arrK : Arr5 W bK (fun j => .slice (Ak j) (r j).length (ck j))
  rows : ∀ j, i ≤ j → j < 5 → Mine W (lo j) (lo (j + 1)) (.slice (A j) (r j).length (c j)) (r j)
  kept : ∀ j, j < 5 → Mine W n6 n7 (.slice (Ak j) (r j).length (ck j)) (r j)
  lol : ∀ j k, j ≤ k → k ≤ 5 → lo j ≤ lo k
  ge : w.heap.size ≤ bF
  FL : bF < bL
  LK : bL < bK
  lo0 : bK < lo 0
  lo5 : lo 5 ≤ n6
  top : n7 ≤ W.heap.size
theorem InS.keep {w : World} {l0 l1 : List Int} {r : Nat → List Int} {Aa : Option Addr} {ca : Nat} {Ab : Option Addr} {cb bF bL bK n6 n7 : Nat} {A : Nat → Option Addr} {c lo : Nat → Nat} {Ak : Nat → Option Addr} {ck : Nat → Nat} {i : Nat} {W w' : World}
    (h : InS w l0 l1 r Aa ca Ab cb bF bL bK n6 n7 A c lo Ak ck i W) (hi : i < 5) (hb : Below w.heap.size w w') (hk : Kept W w' (fun k => lo i ≤ k ∧ k < lo (i + 1))) : InS w l0 l1 r Aa ca Ab cb bF bL bK n6 n7 A c lo Ak ck (i + 1) w' := by
  have h1 := h.lol 0 i (by omega) (by omega)
  have h2 := h.lol (i + 1) 5 (by omega) (by omega)
  have h3 := h.lo0
  have h4 := h.LK
  have h5 := h.FL
  have h6 := h.lo5
  have h7 := h.ge
  refine ⟨hb, h.ra.kept hk (fun k _ _ h => by omega), h.rb.kept hk (fun k _ _ h => by omega), h.arrF.kept hk (fun h => by omega), h.arrL.kept hk (fun h => by omega), h.arrK.kept hk (fun h => by omega), fun j hj hl => (h.rows j (by omega) hl).kept hk (fun k ha _ hb => ?_), fun j hj => (h.kept j hj).kept hk (fun k ha _ hb => by omega), h.lol, h.ge, h.FL, h.LK, h.lo0, h.lo5, Nat.le_trans h.top hk.1⟩
  have := h.lol (i + 1) j (by omega) (by omega)
  omega
theorem InS.drew {w : World} {l0 l1 : List Int} {r : Nat → List Int} {Aa : Option Addr} {ca : Nat} {Ab : Option Addr} {cb bF bL bK n6 n7 : Nat} {A : Nat → Option Addr} {c lo : Nat → Nat} {Ak : Nat → Option Addr} {ck : Nat → Nat} {i : Nat} {W : World}
    (h : InS w l0 l1 r Aa ca Ab cb bF bL bK n6 n7 A c lo Ak ck i W) (m : Nat) : InS w l0 l1 r Aa ca Ab cb bF bL bK n6 n7 A c lo Ak ck i (W.drewN m) :=
  ⟨pw_below_drewN h.below m, h.ra.move (fun _ _ _ => rfl), h.rb.move (fun _ _ _ => rfl), h.arrF.move rfl, h.arrL.move rfl, h.arrK.move rfl, fun j h1 h2 => (h.rows j h1 h2).move (fun _ _ _ => rfl), fun j hj => (h.kept j hj).move (fun _ _ _ => rfl), h.lol, h.ge, h.FL, h.LK, h.lo0, h.lo5, h.top⟩
theorem InS.start {w W0 : World} {l0 l1 : List Int} {r : Nat → List Int} {Aa : Option Addr} {ca : Nat} {Ab : Option Addr} {cb bF bK n : Nat} {Af : Nat → Option Addr} {cf : Nat → Nat} {A : Nat → Option Addr} {c lo : Nat → Nat} {n5 n6 : Nat} {vc : Value} {cy : List (List Int)} {Ak : Nat → Option Addr} {ck : Nat → Nat} {W w' : World}
    (hd : Head w l0 l1 r Aa ca Ab cb bF Af cf n W0) (h : InK W0 bK r A c lo n5 n6 vc cy 5 Ak ck W)
    (hb : Below w.heap.size w w') (hk : Kept (((((W.setCell ⟨bF, 0, none⟩ (.slice (Ak 0) (r 0).length (ck 0))).setCell ⟨bF, 1, none⟩ (.slice (Ak 1) (r 1).length (ck 1))).setCell ⟨bF, 2, none⟩ (.slice (Ak 2) (r 2).length (ck 2))).setCell ⟨bF, 3, none⟩ (.slice (Ak 3) (r 3).length (ck 3))).setCell ⟨bF, 4, none⟩ (.slice (Ak 4) (r 4).length (ck 4))) w' (fun k => n5 ≤ k ∧ k < n6)) :
    InS w l0 l1 r Aa ca Ab cb bF W0.heap.size bK n6 W.heap.size A c lo Ak ck 0 w' := by
  obtain ⟨cF, hF, -⟩ := hd.arr
  have hlt := hF.lt
  have hF9 := hF.move (h.below.block _ hlt)
  have h1 := h.lo0
  have h2 := h.bks
  have h3 := h.lo5
  have h4 := h.n56
  have h5 := h.top
  have h6 := hd.ge
  have h7 := h.lol 0 5 (by omega) (by omega)
  obtain ⟨W5, hW5⟩ : ∃ W5, (((((W.setCell ⟨bF, 0, none⟩ (.slice (Ak 0) (r 0).length (ck 0))).setCell ⟨bF, 1, none⟩ (.slice (Ak 1) (r 1).length (ck 1))).setCell ⟨bF, 2, none⟩ (.slice (Ak 2) (r 2).length (ck 2))).setCell ⟨bF, 3, none⟩ (.slice (Ak 3) (r 3).length (ck 3))).setCell ⟨bF, 4, none⟩ (.slice (Ak 4) (r 4).length (ck 4))) = W5 := ⟨_, rfl⟩
  have hA : Arr5 W5 bF (fun j => .slice (Ak j) (r j).length (ck j)) := by
    rw [← hW5]
    refine (((((hF9.set 0 _).set 1 _).set 2 _).set 3 _).set 4 _).same (fun j hj => ?_)
    rcases j with _ | _ | _ | _ | _ | j <;> first | rfl | omega
  have hne : ∀ k, k ≠ bF → W5.heap[k]? = W.heap[k]? := fun k hk => by
    rw [← hW5]
    exact ((((Below.heap_setCell _ ⟨bF, 4, none⟩ _ k hk).trans (Below.heap_setCell _ ⟨bF, 3, none⟩ _ k hk)).trans (Below.heap_setCell _ ⟨bF, 2, none⟩ _ k hk)).trans (Below.heap_setCell _ ⟨bF, 1, none⟩ _ k hk)).trans (Below.heap_setCell _ ⟨bF, 0, none⟩ _ k hk)
  have hsz : W5.heap.size = W.heap.size := by rw [← hW5]; simp
  rw [hW5] at hk
  have hbw := h.below.size
  refine ⟨hb, ?_, ?_, hA.kept hk (fun h => by omega), (h.arrL.move (hne _ (by omega))).kept hk (fun h => by omega), ?_, fun j _ hl => ?_, fun j hl => ?_, h.lol, hd.ge, hlt, h.bks, h.lo0, Nat.le_trans h.lo5 h.n56, by have := hk.1; omega⟩
  · exact ((hd.ra.below h.below (Nat.le_of_lt hlt) (Nat.le_refl _)).move (fun k _ hk => hne k (by omega))).kept hk (fun k _ _ h => by omega)
  · exact ((hd.rb.below h.below (Nat.le_of_lt hlt) (Nat.le_refl _)).move (fun k _ hk => hne k (by omega))).kept hk (fun k _ _ h => by omega)
  · exact ((h.arrK.same (fun j hj => by simp only [hj, if_true])).move (hne _ (by omega))).kept hk (fun h => by omega)
  · have a1 := h.lol 0 j (by omega) (by omega)
    have a2 := h.lol (j + 1) 5 (by omega) (by omega)
    exact ((h.rows j hl).move (fun k _ _ => hne k (by omega))).kept hk (fun k _ _ h => by omega)
  · exact ((h.kept j hl).move (fun k _ _ => hne k (by omega))).kept hk (fun k _ _ h => by omega)
theorem InS.next {w : World} {l0 l1 : List Int} {r : Nat → List Int} {Aa : Option Addr} {ca : Nat} {Ab : Option Addr} {cb bF bL bK n6 n7 : Nat} {A : Nat → Option Addr} {c lo : Nat → Nat} {Ak : Nat → Option Addr} {ck : Nat → Nat} {i n : Nat} {W : World}
    (h : InS w l0 l1 r Aa ca Ab cb bF bL bK n6 n7 A c lo Ak ck i W) : Head w l0 l1 r Aa ca Ab cb bF Ak ck n W := by
  have h3 := h.lo0
  have h4 := h.LK
  have h5 := h.FL
  have h6 := h.lo5
  have h7 := h.lol 0 5 (by omega) (by omega)
  exact ⟨h.below, h.ra, h.rb, h.ge, ⟨_, h.arrF, fun _ j _ => rfl⟩, fun _ j hj => (h.kept j hj).wide (by omega) h.top⟩

set_option maxHeartbeats 1000000 in
set_option maxRecDepth 100000 in
theorem permOwn_short (K : Nat) (A0 : Option Addr) (c0 : Nat) (l0 : List Int) (A1 : Option Addr) (c1 : Nat) (l1 : List Int) (a2 : Int) (w : World) (hr0 : Kd.C (Kd.int .i64) w A0 l0.length l0) (hc0 : l0.length ≤ c0) (hr1 : Kd.C (Kd.int .i64) w A1 l1.length l1) (hc1 : l1.length ≤ c1)
    (hs : commodatumlaw01_short.f K [l0, l1] = some true) {r : Nat → List Int} {em ec ei ep ej : Int} {cy : List (List Int)} (hR : Res K l0 l1 a2 r em ec ei ep ej cy) :
    Calls Try.prog 12 #[.slice A0 l0.length c0, .slice A1 l1.length c1, .int .i64 a2] w fun e w' => e = .returned (.bool true) ∧ Below w.heap.size w w' := by
  have H0 := Aside0.mk hr0
  have H1 := Aside0.mk hr1
  have HC0 := Aside0.mk hc0
  have HC1 := Aside0.mk hc1
  have HS := Aside0.mk hs
  have HR := Aside0.mk hR
  clear hr0 hr1 hc0 hc1 hs hR
  go_enter Try.func12, Try.ntmps12
  go_upto_region 3 with (go_at_call 13; refine (commodatumlaw01_short.calls K _ _ [l0, l1] true _ (C_two (heap_alloc_new _ _) rfl ⟨_, _, rfl, HC0.out, Kd.C_alloc H0.out _⟩ ⟨_, _, rfl, HC1.out, Kd.C_alloc H1.out _⟩) (Nat.le_refl 2) HS.out).mono ?_; rintro e w1 ⟨rfl, hd⟩; obtain ⟨nq, rfl⟩ := hd.out)
  obtain ⟨w1, hw1⟩ : ∃ w1, (w.alloc (Obj.cells #[.slice A0 l0.length c0, .slice A1 l1.length c1] 23)).drewN nq = w1 := ⟨_, rfl⟩
  have HB1 : Aside0 (Below w.heap.size w w1) := ⟨by rw [← hw1]; exact pw_below_drewN (below_alloc (Below.refl _ _) _) nq⟩
  rw [hw1]
  clear hw1
  go_upto_region 4 with (first
    | ((with_reducible refine gate_dst (N := 24) rfl ?_); refine copy_event (W := w1) (A := A0) (c := c0) (l := l0) ?hg (.tmp 22) (.tmp 23) ?ho ?hs ?hx (Kd.C_below H0.out HB1.out) HR.out.l0len ?_; (case hg => rfl); (case ho => rfl); (case hs => rfl); (case hx => rfl); intro Aa ca w2 hm hb; have HMA := Aside0.mk hm; have HB2 := Aside0.mk (below_step HB1.out hb); have HB12 := Aside0.mk hb; clear hm hb)
    | ((with_reducible refine gate_dst (N := 27) rfl ?_); refine copy_event (W := w2) (A := A1) (c := c1) (l := l1) ?hg (.tmp 25) (.tmp 26) ?ho ?hs ?hx (Kd.C_below H1.out HB2.out) HR.out.l1len ?_; (case hg => rfl); (case ho => rfl); (case hs => rfl); (case hx => rfl); intro Ab cb w3 hm hb; have HMB := Aside0.mk hm; have HB3 := Aside0.mk (below_step HB2.out hb); have HB23 := Aside0.mk hb; clear hm hb))
  go_upto_block 0 with fail
  obtain ⟨W3, hW3⟩ : ∃ W, (w3.alloc (Obj.cells #[.slice none 0 0, .slice none 0 0, .slice none 0 0, .slice none 0 0, .slice none 0 0] 58)) = W := ⟨_, rfl⟩
  have HD : Aside0 (Head w l0 l1 r Aa ca Ab cb w3.heap.size (fun _ => none) (fun _ => 0) 0 W3) := ⟨by
    have hb34 : Below w3.heap.size w3 W3 := by rw [← hW3]; exact below_alloc (Below.refl _ _) _
    have s12 := HB12.out.size
    have s23 := HB23.out.size
    have s1 := HB1.out.size
    refine ⟨below_step HB3.out hb34, ?_, ?_, by omega, ⟨fun _ => .slice none 0 0, ⟨_, by rw [← hW3]; exact heap_alloc_new _ _, rfl, fun j hj => by rcases j with _ | _ | _ | _ | _ | j <;> first | rfl | omega⟩, fun h => absurd h (by omega)⟩, fun h => absurd h (by omega)⟩
    · exact ((HMA.out.below HB23.out (Nat.le_refl _) (Nat.le_refl _)).below hb34 s23 (Nat.le_refl _)).wide s1 s23
    · exact (HMB.out.below hb34 (Nat.le_refl _) (Nat.le_refl _)).wide (Nat.le_trans s1 s12) (Nat.le_refl _)⟩
  obtain ⟨bF, hbF⟩ : ∃ b, w3.heap.size = b := ⟨_, rfl⟩
  rw [hW3]
  rw [hbF] at HD ⊢
  clear hW3 hbF HMA HMB HB12 HB23 HB3 HB2 HB1
  go_wp2
  go_loopg [10] 2 (fun gg s10 wr => ∃ (n : Nat) (Af : Nat → Option Addr) (cf : Nat → Nat), s10 = .int .i64 n ∧ Aside0 ((2 : Int) - n = gg) ∧ Aside0 (Head w l0 l1 r Aa ca Ab cb bF Af cf n wr))
  case atStart => exact ⟨0, _, _, rfl, ⟨rfl⟩, HD⟩
  case round =>
    clear HD
    obtain ⟨n, Af, cf, rfl, HG, HD⟩ := hrel
    obtain ⟨wo, rfl⟩ : ∃ wo : World, wo = wr := ⟨_, rfl⟩
    by_cases cl : n < 2
    · have clb : decide ((n : Int) < 2) = true := decide_eq_true (by omega)
      have clb2 : decide (n < 2) = true := decide_eq_true cl
      have CL := Aside0.mk cl
      clear cl
      go_upto_region 9 with fail
      obtain ⟨W0, hW0⟩ : ∃ W, (wo.alloc (Obj.cells #[.slice none 0 0, .slice none 0 0, .slice none 0 0, .slice none 0 0, .slice none 0 0] 58)).alloc (Obj.cells #[.slice none 0 0, .slice none 0 0, .slice none 0 0, .slice none 0 0, .slice none 0 0] 58) = W := ⟨_, rfl⟩
      obtain ⟨Al, cl, lo, hS⟩ := Stage.start r hW0
      have HS := Aside0.mk hS
      rw [hW0]
      clear hS hW0
      have HX : Aside0 (Below w.heap.size w W0) := ⟨below_step HD.out.below HS.out.below⟩
      go_upto_region 10 with (go_at_call 18; refine (perm_Mul.calls K _ _ l0 _ _ l1 (r 0) em _ (Kd.C_below H0.out HX.out) HC0.out (Kd.C_below H1.out HX.out) HC1.out HR.out.mul).mono ?_; rintro e w' ⟨v0, rfl, hv, hb⟩; obtain ⟨B, cB, rfl⟩ := Kd.R_slice hv; obtain ⟨q1, q2⟩ := (HS.out.arrL.move (hb.block _ HS.out.arrL.lt)).cell 0 (by omega); simp only [Nat.lt_irrefl, if_false] at q1; have HM := Aside0.mk (Mine.of hv); have HBW := Aside0.mk hb; clear hv hb)
      obtain ⟨Al, cl, lo, hS⟩ := HS.out.step (by omega) HM.out HBW.out
      obtain ⟨W1, hW1⟩ : ∃ W, (w'.setCell ⟨wo.heap.size, 0, none⟩ (.slice B (r 0).length cB)) = W := ⟨_, rfl⟩
      rw [hW1] at hS ⊢
      clear hW1 HS HX HM HBW q1 q2
      have HS := Aside0.mk hS
      clear hS
      have HX : Aside0 (Below w.heap.size w W1) := ⟨below_step HD.out.below HS.out.below⟩
      go_upto_region 11 with (go_at_call 19; refine (perm_Commutator.calls K _ _ l0 _ _ l1 (r 1) ec _ (Kd.C_below H0.out HX.out) HC0.out (Kd.C_below H1.out HX.out) HC1.out HR.out.com).mono ?_; rintro e w' ⟨v0, rfl, hv, hb⟩; obtain ⟨B, cB, rfl⟩ := Kd.R_slice hv; obtain ⟨q1, q2⟩ := (HS.out.arrL.move (hb.block _ HS.out.arrL.lt)).cell 1 (by omega); simp only [Nat.lt_irrefl, if_false] at q1; have HM := Aside0.mk (Mine.of hv); have HBW := Aside0.mk hb; clear hv hb)
      obtain ⟨Al, cl, lo, hS⟩ := HS.out.step (by omega) HM.out HBW.out
      obtain ⟨W2, hW2⟩ : ∃ W, (w'.setCell ⟨wo.heap.size, 1, none⟩ (.slice B (r 1).length cB)) = W := ⟨_, rfl⟩
      rw [hW2] at hS ⊢
      clear hW2 HS HX HM HBW q1 q2
      have HS := Aside0.mk hS
      clear hS
      have HX : Aside0 (Below w.heap.size w W2) := ⟨below_step HD.out.below HS.out.below⟩
      go_upto_region 12 with (go_at_call 32; refine (perm_Inverse.calls K _ _ l0 (r 2) ei _ (Kd.C_below H0.out HX.out) HC0.out HR.out.inv).mono ?_; rintro e w' ⟨v0, rfl, hv, hb⟩; obtain ⟨B, cB, rfl⟩ := Kd.R_slice hv; obtain ⟨q1, q2⟩ := (HS.out.arrL.move (hb.block _ HS.out.arrL.lt)).cell 2 (by omega); simp only [Nat.lt_irrefl, if_false] at q1; have HM := Aside0.mk (Mine.of hv); have HBW := Aside0.mk hb; clear hv hb)
      obtain ⟨Al, cl, lo, hS⟩ := HS.out.step (by omega) HM.out HBW.out
      obtain ⟨W3, hW3⟩ : ∃ W, (w'.setCell ⟨wo.heap.size, 2, none⟩ (.slice B (r 2).length cB)) = W := ⟨_, rfl⟩
      rw [hW3] at hS ⊢
      clear hW3 HS HX HM HBW q1 q2
      have HS := Aside0.mk hS
      clear hS
      have HX : Aside0 (Below w.heap.size w W3) := ⟨below_step HD.out.below HS.out.below⟩
      go_upto_region 13 with (go_at_call 27; refine (perm_Power.calls K _ _ l0 a2 (r 3) ep _ (Kd.C_below H0.out HX.out) HC0.out HR.out.pow).mono ?_; rintro e w' ⟨v0, rfl, hv, hb⟩; obtain ⟨B, cB, rfl⟩ := Kd.R_slice hv; obtain ⟨q1, q2⟩ := (HS.out.arrL.move (hb.block _ HS.out.arrL.lt)).cell 3 (by omega); simp only [Nat.lt_irrefl, if_false] at q1; have HM := Aside0.mk (Mine.of hv); have HBW := Aside0.mk hb; clear hv hb)
      obtain ⟨Al, cl, lo, hS⟩ := HS.out.step (by omega) HM.out HBW.out
      obtain ⟨W4, hW4⟩ : ∃ W, (w'.setCell ⟨wo.heap.size, 3, none⟩ (.slice B (r 3).length cB)) = W := ⟨_, rfl⟩
      rw [hW4] at hS ⊢
      clear hW4 HS HX HM HBW q1 q2
      have HS := Aside0.mk hS
      clear hS
      have HX : Aside0 (Below w.heap.size w W4) := ⟨below_step HD.out.below HS.out.below⟩
      go_upto_region 14 with (go_at_call 30; refine (perm_Conjugator.calls K _ _ l0 _ _ l1 (r 4) ej _ (Kd.C_below H0.out HX.out) HC0.out (Kd.C_below H1.out HX.out) HC1.out HR.out.con).mono ?_; rintro e w' ⟨v0, rfl, hv, hb⟩; obtain ⟨B, cB, rfl⟩ := Kd.R_slice hv; obtain ⟨q1, q2⟩ := (HS.out.arrL.move (hb.block _ HS.out.arrL.lt)).cell 4 (by omega); simp only [Nat.lt_irrefl, if_false] at q1; have HM := Aside0.mk (Mine.of hv); have HBW := Aside0.mk hb; clear hv hb)
      obtain ⟨Al, cl, lo, hS⟩ := HS.out.step (by omega) HM.out HBW.out
      obtain ⟨W5, hW5⟩ : ∃ W, (w'.setCell ⟨wo.heap.size, 4, none⟩ (.slice B (r 4).length cB)) = W := ⟨_, rfl⟩
      rw [hW5] at hS ⊢
      clear hW5 HS HX HM HBW q1 q2
      have HS := Aside0.mk hS
      clear hS
      have HX : Aside0 (Below w.heap.size w W5) := ⟨below_step HD.out.below HS.out.below⟩
      go_upto_block 2 with (go_at_call 40; refine (perm_Cycles.calls _ _ l0 cy _ (Kd.C_below H0.out HX.out) HC0.out HR.out.cyc).mono ?_; rintro e W6 ⟨v0, rfl, hv, hb⟩; obtain ⟨Ac, cc, rfl⟩ := Kd.S_slice hv; have HCY := Aside0.mk hv; have HB6 := Aside0.mk hb; clear hv hb)
      have HK := Aside0.mk (InK.start HS.out HCY.out HB6.out)
      have HN5 := Aside0.mk HS.out.top
      obtain ⟨n5, hn5⟩ : ∃ n, W5.heap.size = n := ⟨_, rfl⟩
      rw [hn5] at HK
      obtain ⟨n6, hn6⟩ : ∃ n, W6.heap.size = n := ⟨_, rfl⟩
      rw [hn6] at HK
      clear hn5 hn6 HS HCY HB6 HX HN5
      go_wp2
      go_loopg [14] 5 (fun gg s14 wr => ∃ (i : Nat) (Ak : Nat → Option Addr) (ck : Nat → Nat), s14 = .int .i64 i ∧ Aside0 ((5 : Int) - i = gg) ∧ Aside0 (InK wo (wo.heap.size + 1) r Al cl lo n5 n6 (.slice Ac cy.length cc) cy i Ak ck wr))
      case atStart => exact ⟨0, _, _, rfl, ⟨rfl⟩, HK⟩
      case round =>
        clear HK
        obtain ⟨i, Ak, ck, rfl, HGi, HK⟩ := hrel
        by_cases cli : i < 5
        · have clib : decide ((i : Int) < 5) = true := decide_eq_true (by omega)
          have clib2 : decide (i < 5) = true := decide_eq_true cli
          have pi1 : (i : Int) < 5 := by omega
          have CLI := Aside0.mk cli
          clear cli
          obtain ⟨y1, y2⟩ := HK.out.arrL.cell i CLI.out
          obtain ⟨z1, z2⟩ := HK.out.arrK.cell i CLI.out
          simp only [Nat.lt_irrefl, if_false] at z1
          have zl1 := HK.out.arrL.lt
          have zl2 := HK.out.arrK.lt
          have HRi : Aside0 (∃ A c, (Value.slice (Al i) (r i).length (cl i)) = .slice A (r i).length c ∧ (r i).length ≤ c ∧ Kd.C (Kd.int .i64) wr A (r i).length (r i)) := ⟨(HK.out.rows i CLI.out).reads⟩
          have HRC : Aside0 (Kd.C (Kd.int .i64) wr (Al i) (r i).length (r i)) := ⟨by obtain ⟨A, c, e, _, h⟩ := HRi.out; injection e with e1; subst e1; exact h⟩
          clear HRi
          go_upto_region 19 with ((with_reducible refine gate_dst (N := 77) rfl ?_); refine copy_event (W := wr) (A := Al i) (c := cl i) (l := r i) ?hg (.tmp 73) (.tmp 76) ?ho ?hs ?hx HRC.out (HR.out.len i CLI.out) ?_; (case hg => rfl); (case ho => rfl); (case hs => rfl); (case hx => rfl); intro Bk cBk w7 hm hb; have HM := Aside0.mk hm; have HB7 := Aside0.mk hb; obtain ⟨z3, z4⟩ := (HK.out.arrK.move (hb.block _ HK.out.arrK.lt)).cell i CLI.out; simp only [Nat.lt_irrefl, if_false] at z3; clear hm hb)
          obtain ⟨Ak2, ck2, hK2⟩ := HK.out.step CLI.out HM.out HB7.out
          obtain ⟨w8, hw8⟩ : ∃ W, (w7.setCell ⟨wo.heap.size + 1, i, none⟩ (.slice Bk (r i).length cBk)) = W := ⟨_, rfl⟩
          rw [hw8] at hK2 ⊢
          clear hw8 HK HM HB7 z1 z2 z3 z4 y1 y2 zl1 zl2 HRC
          have HK := Aside0.mk hK2
          clear hK2
          by_cases cn : 0 < n
          · have cnb : decide (0 < n) = true := decide_eq_true cn
            have cnb2 : decide ((0 : Int) < n) = true := decide_eq_true (by omega)
            obtain ⟨cF, hF, hcF⟩ := HD.out.arr
            have hlt := hF.lt
            obtain ⟨f1, -⟩ := (hF.move (HK.out.below.block _ hlt)).cell i CLI.out
            rw [hcF cn i CLI.out] at f1
            obtain ⟨y1, -⟩ := HK.out.arrL.cell i CLI.out
            have HFm : Aside0 (Mine w8 (bF + 1) wo.heap.size (.slice (Af i) (r i).length (cf i)) (r i)) := ⟨(HD.out.first cn i CLI.out).below HK.out.below (Nat.le_refl _) (Nat.le_refl _)⟩
            have HLm := Aside0.mk (HK.out.rows i CLI.out)
            have HSA := Aside0.mk (HR.out.same i CLI.out)
            clear hF hcF hlt cn
            go_quiet ((go_at_call 33; exact same_q _ HLm.out.C.1 HLm.out.C.2 HFm.out.C.1 HFm.out.C.2 HSA.out))
            go_wp2
            go_roundg (5 - (i + 1))
            case measure => have := HGi.out; have := CLI.out; omega
            case rel => exact ⟨i + 1, _, _, rfl, ⟨by have := CLI.out; omega⟩, ⟨HK.out.drew _⟩⟩
          · have cnb : decide (0 < n) = false := decide_eq_false cn
            have cnb2 : decide ((0 : Int) < n) = false := decide_eq_false (by omega)
            clear cn
            go_quiet (fail)
            go_wp2
            go_roundg (5 - (i + 1))
            case measure => have := HGi.out; have := CLI.out; omega
            case rel => exact ⟨i + 1, _, _, rfl, ⟨by have := CLI.out; omega⟩, ⟨HK.out.drew _⟩⟩
        · have clib : decide ((i : Int) < 5) = false := decide_eq_false (by omega)
          have clib2 : decide (i < 5) = false := decide_eq_false cli
          obtain rfl : i = 5 := by have := HGi.out; omega
          clear cli HGi
          obtain ⟨cF, hF, -⟩ := HD.out.arr
          have hlt := hF.lt
          have hF9 := hF.move (HK.out.below.block _ hlt)
          have hK9 := HK.out.arrK
          obtain ⟨f0, g0⟩ := hF9.cell 0 (by omega)
          obtain ⟨f1, g1⟩ := hF9.cell 1 (by omega)
          obtain ⟨f2, g2⟩ := hF9.cell 2 (by omega)
          obtain ⟨f3, g3⟩ := hF9.cell 3 (by omega)
          obtain ⟨f4, g4⟩ := hF9.cell 4 (by omega)
          obtain ⟨k0, -⟩ := hK9.cell 0 (by omega)
          obtain ⟨k1, -⟩ := hK9.cell 1 (by omega)
          obtain ⟨k2, -⟩ := hK9.cell 2 (by omega)
          obtain ⟨k3, -⟩ := hK9.cell 3 (by omega)
          obtain ⟨k4, -⟩ := hK9.cell 4 (by omega)
          simp only [show (0 : Nat) < 5 by omega, show (1 : Nat) < 5 by omega, show (2 : Nat) < 5 by omega, show (3 : Nat) < 5 by omega, show (4 : Nat) < 5 by omega, if_true] at k0 k1 k2 k3 k4
          have HF9 := Aside0.mk hF9
          clear hF hlt hF9 hK9
          go_upto_region 22 with fail
          clear f0 g0 f1 g1 f2 g2 f3 g3 f4 g4 k0 k1 k2 k3 k4
          have HB9 : Aside0 (Below w.heap.size w (((((wr.setCell ⟨bF, 0, none⟩ (.slice (Ak 0) (r 0).length (ck 0))).setCell ⟨bF, 1, none⟩ (.slice (Ak 1) (r 1).length (ck 1))).setCell ⟨bF, 2, none⟩ (.slice (Ak 2) (r 2).length (ck 2))).setCell ⟨bF, 3, none⟩ (.slice (Ak 3) (r 3).length (ck 3))).setCell ⟨bF, 4, none⟩ (.slice (Ak 4) (r 4).length (ck 4)))) := ⟨by
            have hge := HD.out.ge
            have hb0 := below_step HD.out.below HK.out.below
            exact ((((hb0.setCell (p := ⟨bF, 0, none⟩) hge _).setCell (p := ⟨bF, 1, none⟩) hge _).setCell (p := ⟨bF, 2, none⟩) hge _).setCell (p := ⟨bF, 3, none⟩) hge _).setCell (p := ⟨bF, 4, none⟩) hge _⟩
          have HCY9 : Aside0 (Kd.S (Kd.slice 3 (Kd.int .i64)) 22 (((((wr.setCell ⟨bF, 0, none⟩ (.slice (Ak 0) (r 0).length (ck 0))).setCell ⟨bF, 1, none⟩ (.slice (Ak 1) (r 1).length (ck 1))).setCell ⟨bF, 2, none⟩ (.slice (Ak 2) (r 2).length (ck 2))).setCell ⟨bF, 3, none⟩ (.slice (Ak 3) (r 3).length (ck 3))).setCell ⟨bF, 4, none⟩ (.slice (Ak 4) (r 4).length (ck 4))) w.heap.size (fun k => n5 ≤ k ∧ k < n6) (.slice Ac cy.length cc) cy) := ⟨by
            have hlt : bF < n5 := by
              obtain ⟨cF, hF, -⟩ := HD.out.arr
              have h1 := hF.lt
              have h2 := HK.out.bks
              have h3 := HK.out.lo0
              have h4 := HK.out.lo5
              have h5 := HK.out.lol 0 5 (by omega) (by omega)
              omega
            have hge := HD.out.ge
            have hl := Kd.S_lower (base' := w.heap.size) HK.out.cyc (by omega)
            have hne : ∀ k, (n5 ≤ k ∧ k < n6) → k ≠ bF := fun k hk => by omega
            exact Kd.S_far (p := ⟨bF, 4, none⟩) (Kd.S_far (p := ⟨bF, 3, none⟩) (Kd.S_far (p := ⟨bF, 2, none⟩) (Kd.S_far (p := ⟨bF, 1, none⟩) (Kd.S_far (p := ⟨bF, 0, none⟩) hl hne _) hne _) hne _) hne _) hne _⟩
          go_upto_block 4 with (go_at_call 48; refine (spoilLists_walk w _ _ _ cy HB9.out HCY9.out HR.out.cylen K HR.out.spoilL).mono ?_; rintro e w10 ⟨rfl, hb, hk⟩; have HB10 := Aside0.mk hb; have HK10 := Aside0.mk hk; clear hb hk)
          have HI := Aside0.mk (InS.start HD.out HK.out HB10.out HK10.out)
          obtain ⟨bL, hbL⟩ : ∃ b, wo.heap.size = b := ⟨_, rfl⟩
          obtain ⟨bK, hbK⟩ : ∃ b, bL + 1 = b := ⟨_, rfl⟩
          obtain ⟨n7, hn7⟩ : ∃ b, wr.heap.size = b := ⟨_, rfl⟩
          rw [hbL, hn7] at HI
          rw [hbL]
          rw [hbK] at HI ⊢
          have CL0 := Aside0.mk HG.out
          clear hbL hbK hn7 HB9 HCY9 HB10 HK10 HF9 HK HD clb clb2
          obtain ⟨wi, rfl⟩ : ∃ wi : World, wi = wr := ⟨_, rfl⟩
          go_wp2
          go_loopg [15] 5 (fun gg s15 wr => ∃ (i : Nat), s15 = .int .i64 i ∧ Aside0 ((5 : Int) - i = gg) ∧ Aside0 (InS w l0 l1 r Aa ca Ab cb bF bL bK n6 n7 Al cl lo Ak ck i wr))
          case atStart => exact ⟨0, rfl, ⟨rfl⟩, HI⟩
          case round =>
            clear HI
            obtain ⟨i, rfl, HGi, HI⟩ := hrel
            by_cases cli : i < 5
            · have clib3 : decide ((i : Int) < 5) = true := decide_eq_true (by omega)
              have clib4 : decide (i < 5) = true := decide_eq_true cli
              have pi1 : (i : Int) < 5 := by omega
              have CLI := Aside0.mk cli
              clear cli
              obtain ⟨y1, -⟩ := HI.out.arrL.cell i CLI.out
              obtain ⟨z1, -⟩ := HI.out.arrK.cell i CLI.out
              have HLm := Aside0.mk (HI.out.rows i (Nat.le_refl _) CLI.out)
              have HKm := Aside0.mk (HI.out.kept i CLI.out)
              have HSA := Aside0.mk (HR.out.same i CLI.out)
              have HSP := Aside0.mk (HR.out.spoil i CLI.out)
              go_wp2
              go_quiet ((go_at_call 33; exact same_q _ HLm.out.C.1 HLm.out.C.2 HKm.out.C.1 HKm.out.C.2 HSA.out))
              have HLO : Aside0 (w.heap.size ≤ lo i) := ⟨by
                have h1 := HI.out.lol 0 i (by omega) (by have := CLI.out; omega)
                have h3 := HI.out.lo0
                have h4 := HI.out.LK
                have h5 := HI.out.FL
                have h6 := HI.out.ge
                omega⟩
              go_wp2_with (go_at_call 49; refine (commodatumlaw01_Spoil.calls K (fun k => lo i ≤ k ∧ k < lo (i + 1)) (.slice (Al i) (r i).length (cl i)) (r i) w _ (HI.out.drew _).below (Kd.R_lower ((HI.out.drew _).rows i (Nat.le_refl _) CLI.out) HLO.out) HSP.out).mono ?_; rintro e w11 ⟨rfl, hb, hk⟩; have HN := Aside0.mk ((HI.out.drew _).keep CLI.out hb hk); clear hb hk)
              go_roundg (5 - (i + 1))
              case measure => have := HGi.out; have := CLI.out; omega
              case rel => exact ⟨i + 1, rfl, ⟨by have := CLI.out; omega⟩, HN⟩
            · have clib3 : decide ((i : Int) < 5) = false := decide_eq_false (by omega)
              have clib4 : decide (i < 5) = false := decide_eq_false cli
              have p2 : 0 ≤ (n : Int) := by omega
              have p3 : (n : Int) ≤ 2 := by have := CL.out; omega
              clear cli
              go_wp2_with (first
                | (go_at_call 33; (with_reducible refine (commodatumref01_Same.calls K A0 c0 l0 Aa ca l0 true _ (Kd.C_below H0.out HI.out.below) HC0.out HI.out.ra.C.1 HI.out.ra.C.2 HR.out.same0).mono ?_); rintro e w' ⟨rfl, hd⟩; obtain ⟨m1, rfl⟩ := hd.out; clear hd)
                | (go_at_call 33; (with_reducible refine (commodatumref01_Same.calls K A1 c1 l1 Ab cb l1 true _ (Kd.C_below H1.out (HI.out.drew m1).below) HC1.out (HI.out.drew m1).rb.C.1 (HI.out.drew m1).rb.C.2 HR.out.same1).mono ?_); rintro e w' ⟨rfl, hd⟩; obtain ⟨m2, rfl⟩ := hd.out; clear hd))
              go_roundg (2 - (n + 1))
              case measure => have := CL0.out; have := CL.out; omega
              case rel => exact ⟨n + 1, Ak, ck, (by first | rfl | (simp; done)), ⟨by have := CL.out; omega⟩, ⟨by rw [← World.drewN_drewN]; exact ((HI.out.drew m1).drew m2).next⟩⟩
    · have clb : decide ((n : Int) < 2) = false := decide_eq_false (by omega)
      have clb2 : decide (n < 2) = false := decide_eq_false cl
      clear cl
      go_wp2_with (go_at_call 14; refine (commodatumlaw01_alive.calls K true _ HR.out.alive).mono ?_; rintro e w5 ⟨rfl, hb⟩; have HB := Aside0.mk hb; clear hb)
      go_ret
      exact ⟨rfl, below_step HD.out.below HB.out⟩
end Go.Proofs.Ytjfhogholmabfaa.Giv
