-- CUT by a program of this session: what the claim does not use is left out
import Derived.Test.YtfoodfhhdbaieaaDoorT18
namespace Go.Proofs.YtfoodfhhdbaieaaDoor.Giv
set_option maxRecDepth 100000
set_option linter.unusedSimpArgs false
set_option linter.unusedVariables false
open Go.RowKit Go.Shelf Go.Proofs.YtfoodfhhdbaieaaDoorW.PrintWords Go.Proofs.YtfoodfhhdbaieaaDoorW.PrintLast Go.Proofs.YtfoodfhhdbaieaaDoorW.PrintMore
open Go.Proofs.YtfoodfhhdbaieaaDoor.Ka (S40 k40 z40 rd_T40 at_T40 k40_open k40_mk rd_L1 at_L1 info3 info38 info40)

def haltQ (l : List S40) (a2 : Int) (inp : List Int) (most : Int) : Bool × Int :=
 if (findR l (runS l most.toNat (startSc a2 inp)).1.s (readL (runS l most.toNat (startSc a2 inp)).1.at_ (runS l most.toNat (startSc a2 inp)).1.tp)).isSome = true then (false, 6) else ((runS l most.toNat (startSc a2 inp)).1.s == 1, 0)
def acceptsQ (a0 a1 a2 : Int) (l : List S40) (inp : List Int) (most : Int) : Bool × Int :=
 if errF a0 a1 a2 l inp most = 0 then haltQ l a2 inp most else (false, errF a0 a1 a2 l inp most)
def AccAns (w : World) (q : Bool × Int) (e : Ending) (w' : World) : Prop := e = .returned (.tuple #[.bool q.1, .int .i64 q.2]) ∧ Below w.heap.size w w'
set_option maxHeartbeats 1000000 in
set_option maxRecDepth 100000 in
theorem Accepts_bad (a0 a1 a2 : Int) (A : Option Addr) (c : Nat) (l : List S40) (A5 : Option Addr) (c5 : Nat) (inp : List Int) (most : Int) (w : World) (hr : Kd.C k40 w A l.length l) (h5 : Kd.C (Kd.int .i64) w A5 inp.length inp) (hlc : inp.length ≤ c5) (er : Int) (he : errF a0 a1 a2 l inp most = er) (h0 : er ≠ 0) :
  Calls Tryd.prog 18 #[.agg #[.int .i64 a0, .int .i64 a1, .int .i64 a2, .slice A l.length c], .slice A5 inp.length c5, .int .i64 most] w (AccAns w (false, er)) := by
 obtain ⟨W, hW⟩ : ∃ W, w.alloc (Obj.cells #[.int .i64 a0, .int .i64 a1, .int .i64 a2, .slice A l.length c] 24) = W := ⟨_, rfl⟩
 have hb0 : Below w.heap.size w W := by rw [← hW]; exact (Below.refl _ _).alloc (Nat.le_refl _) _
 have HS := Aside0.mk (run_bad a0 a1 a2 A c l A5 c5 inp most 33 #[] W (Kd.C_below hr hb0) (Kd.C_below h5 hb0) hlc er he h0)
 have d0 : (er != 0) = true := by simpa using h0
 have HW := Aside0.mk hW
 have HB0 := Aside0.mk hb0
 clear hr h5 hlc he h0 hW hb0
 go_enter Tryd.func18, Tryd.ntmps18
 go_wp2_with (go_at_call 30; rw [HW.out]; refine HS.out.mono ?_; rintro e w1 ⟨rfl, hb⟩; have HB := Aside0.mk hb; clear hb)
 refine bodyPost_ret (v := .tuple #[.bool false, .int .i64 er]) (by simp [results, Tryd.results18, go_sem]) rfl ?_
 exact ⟨rfl, HB0.out.trans (HB.out.mono HB0.out.size)⟩
set_option maxHeartbeats 1000000 in
set_option maxRecDepth 100000 in
theorem Accepts_ok (a0 a1 a2 : Int) (A : Option Addr) (c : Nat) (l : List S40) (A5 : Option Addr) (c5 : Nat) (inp : List Int) (most : Int) (w : World) (hr : Kd.C k40 w A l.length l) (h5 : Kd.C (Kd.int .i64) w A5 inp.length inp) (hlc : inp.length ≤ c5) (he : errF a0 a1 a2 l inp most = 0) :
    Calls Tryd.prog 18 #[.agg #[.int .i64 a0, .int .i64 a1, .int .i64 a2, .slice A l.length c], .slice A5 inp.length c5, .int .i64 most] w (AccAns w (haltQ l a2 inp most)) := by
  obtain ⟨W, hW⟩ : ∃ W, w.alloc (Obj.cells #[.int .i64 a0, .int .i64 a1, .int .i64 a2, .slice A l.length c] 24) = W := ⟨_, rfl⟩
  have hb0 : Below w.heap.size w W := by rw [← hW]; exact (Below.refl _ _).alloc (Nat.le_refl _) _
  obtain ⟨h0, h1, h2⟩ := valid_a2 (errF_ok he).1
  obtain ⟨hrs, hnd⟩ := valid_ok (errF_ok he).1
  have HS := Aside0.mk (run_good a0 a1 a2 A c l A5 c5 inp most 33 #[] (fun _ _ => True) (fun (_ : Unit) _ => ()) none W.heap.size (see46 a2.toNat _) W W (Below.refl _ _) (Nat.le_refl _) (Nat.le_refl _) (fun k hk => by cases hk) (Kd.C_below hr hb0) (Kd.C_below h5 hb0) hlc he () trivial)
  unfold haltQ
  generalize (runS l most.toNat (startSc a2 inp)).1 = C at HS ⊢
  generalize (runS l most.toNat (startSc a2 inp)).2 = N at HS ⊢
  obtain ⟨F, hF⟩ : ∃ F, findR l C.s (readL C.at_ C.tp) = F := ⟨_, rfl⟩
  rw [hF]
  have HF := Aside0.mk hF
  have HW := Aside0.mk hW
  have HB0 := Aside0.mk hb0
  have H0 := Aside0.mk h0
  have H1 := Aside0.mk h1
  have H2 := Aside0.mk h2
  have HND := Aside0.mk hnd
  clear hr h5 hlc he hW hb0 h0 h1 h2 hrs hnd hF
  cases F with
  | none =>
    simp only [Option.isSome_none, Bool.false_eq_true, if_false]
    go_enter Tryd.func18, Tryd.ntmps18
    go_wp2_with (first
      | (go_at_call 30
         rw [HW.out]
         refine HS.out.mono ?_
         rintro e w1 ⟨B, br, bm, v1, v2, vs, L, M, rfl, hB, hR, hK, hRA, hKp, _, hM, hN, hG⟩
         obtain ⟨A1', c1', e1, hlc1, hC1⟩ := own_C hR.row1
         obtain ⟨A2', c2', e2, hlc2, hC2⟩ := own_C2 hR.row2 (hR.len2.trans hR.len1) hR.inner
         subst e1
         subst e2
         have hb1 : Below W.heap.size W w1 := ⟨hKp.os, hKp.tape, hKp.output, hKp.size, fun k hk => hKp.block k hk (by simp)⟩
         have HRU := Aside0.mk (rule_walk w1 br bm C.s A1' c1' C.at_ A2' c2' C.tp L l hR.cells hC1 hC2 hR.map hK W hRA HND.out (good_small hG H0.out.2 (by have := H1.out; omega)) (by rw [hG.la, hG.lt]) (by have := hG.la; have := H2.out; omega) (fun i => (hG.pos i).1) _ HF)
         obtain ⟨q0, _, _⟩ := seen_cells hR.cells
         have hzr := hR.le
         have HB1 := Aside0.mk hb1
         clear hR hK hRA hKp hG hC1 hC2 hb1 hB)
      | (go_at_call 34
         refine HRU.out.mono ?_
         rintro e w2 ⟨v, rfl, hv, _, hb⟩
         obtain rfl := hv rfl
         obtain ⟨hcc, hff⟩ := bcell hb
         have zz := Nat.lt_of_lt_of_le hzr hb.size
         have HB2 := Aside0.mk hb
         clear hb))
    refine bodyPost_ret (v := .tuple #[.bool (C.s == 1), .int .i64 0]) (by simp [results, Tryd.results18, go_sem]) rfl ?_
    have hb2 : Below w.heap.size w w2 := (HB0.out.trans (HB1.out.mono HB0.out.size)).trans (HB2.out.mono (by have := HB0.out.size; have := HB1.out.size; omega))
    exact ⟨rfl, hb2.alloc hb2.size _⟩
  | some r =>
    simp only [Option.isSome_some, if_true]
    go_enter Tryd.func18, Tryd.ntmps18
    go_wp2_with (first
      | (go_at_call 30
         rw [HW.out]
         refine HS.out.mono ?_
         rintro e w1 ⟨B, br, bm, v1, v2, vs, L, M, rfl, hB, hR, hK, hRA, hKp, _, hM, hN, hG⟩
         obtain ⟨A1', c1', e1, hlc1, hC1⟩ := own_C hR.row1
         obtain ⟨A2', c2', e2, hlc2, hC2⟩ := own_C2 hR.row2 (hR.len2.trans hR.len1) hR.inner
         subst e1
         subst e2
         have hb1 : Below W.heap.size W w1 := ⟨hKp.os, hKp.tape, hKp.output, hKp.size, fun k hk => hKp.block k hk (by simp)⟩
         have HRU := Aside0.mk (rule_walk w1 br bm C.s A1' c1' C.at_ A2' c2' C.tp L l hR.cells hC1 hC2 hR.map hK W hRA HND.out (good_small hG H0.out.2 (by have := H1.out; omega)) (by rw [hG.la, hG.lt]) (by have := hG.la; have := H2.out; omega) (fun i => (hG.pos i).1) _ HF)
         have HB1 := Aside0.mk hb1
         clear hR hK hRA hKp hG hC1 hC2 hb1 hB)
      | (go_at_call 34
         refine HRU.out.mono ?_
         rintro e w2 ⟨v, rfl, _, hv, hb⟩
         obtain ⟨B1, e1, B3, e3, B4, e4, rfl, _, _⟩ := hv r rfl
         have HB2 := Aside0.mk hb
         clear hb))
    refine bodyPost_ret (v := .tuple #[.bool false, .int .i64 6]) (by simp [results, Tryd.results18, go_sem]) rfl ?_
    have hb2 : Below w.heap.size w w2 := (HB0.out.trans (HB1.out.mono HB0.out.size)).trans (HB2.out.mono (by have := HB0.out.size; have := HB1.out.size; omega))
    exact ⟨rfl, hb2.alloc hb2.size _⟩
theorem Accepts_walk (a0 a1 a2 : Int) (A : Option Addr) (c : Nat) (l : List S40) (A5 : Option Addr) (c5 : Nat) (inp : List Int) (most : Int) (w : World) (hr : Kd.C k40 w A l.length l) (h5 : Kd.C (Kd.int .i64) w A5 inp.length inp) (hlc : inp.length ≤ c5) :
  Calls Tryd.prog 18 #[.agg #[.int .i64 a0, .int .i64 a1, .int .i64 a2, .slice A l.length c], .slice A5 inp.length c5, .int .i64 most] w (AccAns w (acceptsQ a0 a1 a2 l inp most)) := by
 unfold acceptsQ
 by_cases he : errF a0 a1 a2 l inp most = 0
 ·rw [if_pos he]
  exact Accepts_ok a0 a1 a2 A c l A5 c5 inp most w hr h5 hlc he
 ·rw [if_neg he]
  exact Accepts_bad a0 a1 a2 A c l A5 c5 inp most w hr h5 hlc _ rfl he
end Go.Proofs.YtfoodfhhdbaieaaDoor.Giv
