-- CUT by a program of this session: what the claim does not use is left out
import Derived.Test.YtfoodfhhdbaieaaT19
namespace Go.Proofs.Ytfoodfhhdbaieaa.Giv
set_option linter.unusedSimpArgs false
set_option linter.unusedVariables false
open Go.RowKit Go.Shelf Go.Proofs.YtfoodfhhdbaieaaW.PrintWords Go.Proofs.YtfoodfhhdbaieaaW.PrintLast Go.Proofs.YtfoodfhhdbaieaaW.PrintMore
open Go.Proofs.Ytfoodfhhdbaieaa.Ka (S54 k54 z54 rd_T54 at_T54 k54_open k54_mk rd_L1 at_L1 info3 info25 info54)

def sumTo (st : List Int) : Nat → Int
  | 0 => 0
  | k + 1 => sumTo st k + (1 + rd st k)
theorem sumTo_bd {st : List Int} (h : SmallL st) : ∀ k, 0 ≤ sumTo st k ∧ sumTo st k ≤ 100001 * k
  | 0 => by simp [sumTo]
  | k + 1 => by have := sumTo_bd h k; have := h k; simp only [sumTo]; omega
def farQ (l : List S54) (a2 : Int) (inp : List Int) (most : Int) : List Int := farS (fun st at_ => maxTo st at_ at_.length) l most.toNat (startSc a2 inp) (maxTo [0, 0, 0] (startSc a2 inp).at_ (startSc a2 inp).at_.length)
def spaceQ (a0 a1 a2 : Int) (l : List S54) (inp : List Int) (most : Int) : Int × Int :=
  if errF a0 a1 a2 l inp most = 0 then (sumTo (farQ l a2 inp most) a2.toNat, 0) else (0, errF a0 a1 a2 l inp most)
def SpaceAns (w : World) (q : Int × Int) (e : Ending) (w' : World) : Prop := e = .returned (.tuple #[.int .i64 q.1, .int .i64 q.2]) ∧ Below w.heap.size w w'
theorem far_made (W : World) : ∃ W', (Instr.makeSlice 25 (.int .i64 3) (.int .i64 3)).run Try.prog W = .ok (.slice (some ⟨W.heap.size, 0, none⟩) 3 3) W' ∧ W'.heap[W.heap.size]? = some (.cells #[.int .i64 0, .int .i64 0, .int .i64 0] 3 (0, 0)) ∧ Below W.heap.size W W' := by
  obtain ⟨W', h1, h2, h3⟩ := make_row W W.heap.size 25 3 (.int .i64 0) 8 Try.underlying25 info3 rfl (by decide) 3 (by decide) (Nat.le_refl _)
  refine ⟨W', h1, ?_, ⟨h3.os, h3.tape, h3.output, h3.size, fun k hk => h3.block k hk (by simp)⟩⟩
  rcases h2.2 with ⟨e, _⟩ | ⟨g, cap, cur, e, _, hb, h4, h5, h6, h7⟩
  · cases e
  · injection e with e1 e2 e3
    injection e1 with e1
    injection e1 with e1
    subst e1
    subst e3
    rw [hb]
    have : cur = #[.int .i64 0, .int .i64 0, .int .i64 0] := by
      apply Array.toList_inj.1
      rw [List.take_of_length_le (by simp; omega)] at h7
      exact h7
    rw [this]
set_option maxHeartbeats 1000000 in
set_option maxRecDepth 100000 in
theorem Space_bad (a0 a1 a2 : Int) (A : Option Addr) (c : Nat) (l : List S54) (A5 : Option Addr) (c5 : Nat) (inp : List Int) (most : Int) (w : World) (hr : Kd.C k54 w A l.length l) (h5 : Kd.C (Kd.int .i64) w A5 inp.length inp) (hlc : inp.length ≤ c5) (er : Int) (he : errF a0 a1 a2 l inp most = er) (h0 : er ≠ 0) :
    Calls Try.prog 21 #[.agg #[.int .i64 a0, .int .i64 a1, .int .i64 a2, .slice A l.length c], .slice A5 inp.length c5, .int .i64 most] w (SpaceAns w (0, er)) := by
  obtain ⟨W, hW⟩ : ∃ W, w.alloc (Obj.cells #[.int .i64 a0, .int .i64 a1, .int .i64 a2, .slice A l.length c] 24) = W := ⟨_, rfl⟩
  obtain ⟨W2, hrun, hmade, hmb⟩ := far_made W
  have hb0 : Below w.heap.size w W := by rw [← hW]; exact (Below.refl _ _).alloc (Nat.le_refl _) _
  have hz : w.heap.size < W.heap.size := by rw [← hW]; simp
  have hb2 : Below w.heap.size w W2 := hb0.trans (hmb.mono (by omega))
  obtain ⟨W3, hW3⟩ : ∃ W3, W2.alloc (Obj.cells #[.slice (some ⟨W.heap.size, 0, none⟩) 3 3] 25) = W3 := ⟨_, rfl⟩
  have hb23 : Below W2.heap.size W2 W3 := by rw [← hW3]; exact (Below.refl _ _).alloc (Nat.le_refl _) _
  have hb3 : Below w.heap.size w W3 := hb2.trans (hb23.mono hb2.size)
  have k0 : W.cell? ⟨w.heap.size, 0, none⟩ = some (.int .i64 a0) := by subst hW; go_simp
  have k1 : W.cell? ⟨w.heap.size, 1, none⟩ = some (.int .i64 a1) := by subst hW; go_simp
  have k2 : W.cell? ⟨w.heap.size, 2, none⟩ = some (.int .i64 a2) := by subst hW; go_simp
  have k3 : W.cell? ⟨w.heap.size, 3, none⟩ = some (.slice A l.length c) := by subst hW; go_simp
  have hb03 : Below W.heap.size W W3 := hmb.trans (hb23.mono hmb.size)
  obtain ⟨hcc, hff⟩ := bcell hmb
  replace k0 := (hcc _ 0 hz).trans k0
  replace k1 := (hcc _ 1 hz).trans k1
  replace k2 := (hcc _ 2 hz).trans k2
  replace k3 := (hcc _ 3 hz).trans k3
  have hz3 : w.heap.size < W2.heap.size := by have := hmb.size; omega
  have HS := Aside0.mk (run_bad a0 a1 a2 A c l A5 c5 inp most 48 #[.pointer (some ⟨W2.heap.size, 0, none⟩)] W3 (Kd.C_below hr hb3) (Kd.C_below h5 hb3) hlc er he h0)
  have d0 : (er != 0) = true := by simpa using h0
  have HW := Aside0.mk hW
  have HB3 := Aside0.mk hb3
  have HW3 := Aside0.mk hW3
  clear hr h5 hlc he h0 hW hmade hmb hb0 hb2 hb23 hb3 hb03 hW3 hcc hff
  go_enter Try.func21, Try.ntmps21
  go_wp2_with fail
  rw [HW.out, hrun]
  go_wp2_with (go_at_call 43; rw [HW3.out]; refine HS.out.mono ?_; rintro e w1 ⟨rfl, hb⟩; have HB := Aside0.mk hb; clear hb)
  refine bodyPost_ret (v := .tuple #[.int .i64 0, .int .i64 er]) (by simp [results, Try.results21, go_sem]) rfl ?_
  exact ⟨rfl, HB3.out.trans (HB.out.mono HB3.out.size)⟩
set_option maxHeartbeats 1000000 in
set_option maxRecDepth 100000 in
theorem Space_ok (a0 a1 a2 : Int) (A : Option Addr) (c : Nat) (l : List S54) (A5 : Option Addr) (c5 : Nat) (inp : List Int) (most : Int) (w : World) (hr : Kd.C k54 w A l.length l) (h5 : Kd.C (Kd.int .i64) w A5 inp.length inp) (hlc : inp.length ≤ c5) (he : errF a0 a1 a2 l inp most = 0) :
    Calls Try.prog 21 #[.agg #[.int .i64 a0, .int .i64 a1, .int .i64 a2, .slice A l.length c], .slice A5 inp.length c5, .int .i64 most] w (SpaceAns w (sumTo (farQ l a2 inp most) a2.toNat, 0)) := by
  have h2 := (valid_a2 (errF_ok he).1).2.2
  obtain ⟨W, hW⟩ : ∃ W, w.alloc (Obj.cells #[.int .i64 a0, .int .i64 a1, .int .i64 a2, .slice A l.length c] 24) = W := ⟨_, rfl⟩
  obtain ⟨W2, hrun, hmade, hmb⟩ := far_made W
  have hb0 : Below w.heap.size w W := by rw [← hW]; exact (Below.refl _ _).alloc (Nat.le_refl _) _
  have hz : w.heap.size < W.heap.size := by rw [← hW]; simp
  have hb2 : Below w.heap.size w W2 := hb0.trans (hmb.mono (by omega))
  have hgz : W.heap.size < W2.heap.size := (Array.getElem?_eq_some_iff.1 hmade).1
  obtain ⟨W3, hW3⟩ : ∃ W3, W2.alloc (Obj.cells #[.slice (some ⟨W.heap.size, 0, none⟩) 3 3] 25) = W3 := ⟨_, rfl⟩
  have hb23 : Below W2.heap.size W2 W3 := by rw [← hW3]; exact (Below.refl _ _).alloc (Nat.le_refl _) _
  have hfv : W3.heap[W2.heap.size]? = some (.cells #[.slice (some ⟨W.heap.size, 0, none⟩) 3 3] 25 (0, 0)) := by rw [← hW3]; exact heap_alloc_new _ _
  have hfz : W2.heap.size < W3.heap.size := (Array.getElem?_eq_some_iff.1 hfv).1
  have hb3 : Below w.heap.size w W3 := hb2.trans (hb23.mono hb2.size)
  have k0 : W.cell? ⟨w.heap.size, 0, none⟩ = some (.int .i64 a0) := by subst hW; go_simp
  have k1 : W.cell? ⟨w.heap.size, 1, none⟩ = some (.int .i64 a1) := by subst hW; go_simp
  have k2 : W.cell? ⟨w.heap.size, 2, none⟩ = some (.int .i64 a2) := by subst hW; go_simp
  have k3 : W.cell? ⟨w.heap.size, 3, none⟩ = some (.slice A l.length c) := by subst hW; go_simp
  obtain ⟨hcc, hff⟩ := bcell hmb
  replace k0 := (hcc _ 0 hz).trans k0
  replace k1 := (hcc _ 1 hz).trans k1
  replace k2 := (hcc _ 2 hz).trans k2
  replace k3 := (hcc _ 3 hz).trans k3
  have hz3 : w.heap.size < W2.heap.size := by have := hmb.size; omega
  have hk2 : Aside0 (W3.cell? ⟨w.heap.size, 2, none⟩ = some (.int .i64 a2)) := ⟨((bcell hb23).1 _ 2 hz3).trans k2⟩
  have hJ : FarAt W2.heap.size W.heap.size W3 [0, 0, 0] ∧ SmallL [0, 0, 0] := ⟨⟨rfl, hfv, (hb23.block _ hgz).trans hmade⟩, fun i => by
    have : rd [0, 0, 0] i = 0 := rd_rep 3 i
    omega⟩
  have HS := Aside0.mk (run_good a0 a1 a2 A c l A5 c5 inp most 48 #[.pointer (some ⟨W2.heap.size, 0, none⟩)] (fun X st => FarAt W2.heap.size W.heap.size X st ∧ SmallL st) (fun st at_ => maxTo st at_ at_.length) (some W.heap.size) W3.heap.size (see48 a2.toNat W2.heap.size W.heap.size W3.heap.size hfz (by omega) (by omega) (by omega)) w W3 hb3 (Nat.le_refl _) hb3.size (fun k hk => by injection hk with hk; omega) hr (Kd.C_below h5 hb3) hlc he [0, 0, 0] hJ)
  have HFQ : Aside0 (farS (fun st at_ => maxTo st at_ at_.length) l most.toNat (startSc a2 inp) (maxTo [0, 0, 0] (startSc a2 inp).at_ (startSc a2 inp).at_.length) = farQ l a2 inp most) := ⟨rfl⟩
  rw [HFQ.out] at HS
  generalize farQ l a2 inp most = st at HS ⊢
  have HW := Aside0.mk hW
  have HB3 := Aside0.mk hb3
  have HW3 := Aside0.mk hW3
  have H2 := Aside0.mk h2
  have HZG : Aside0 (w.heap.size < W.heap.size ∧ W.heap.size < W2.heap.size ∧ W2.heap.size < W3.heap.size) := ⟨hz, hgz, hfz⟩
  clear hr h5 hlc he hW hmade hmb hb0 hb2 hb23 hb3 hW3 hcc hff hfv hJ h2 HFQ hfz hgz
  go_enter Try.func21, Try.ntmps21
  go_wp2_with fail
  rw [HW.out, hrun]
  go_wp2_with (go_at_call 43
               rw [HW3.out]
               refine HS.out.mono ?_
               rintro e w1 ⟨B, br, bm, v1, v2, vs, L, M, rfl, hB, hR, hK, hRA, hKp, ⟨hF, hSm⟩, hM, hN, hG⟩
               obtain ⟨f1, f2⟩ := far_cells hF
               have hcl : w1.heap[w.heap.size]? = W3.heap[w.heap.size]? := hKp.block w.heap.size (by have := HZG.out; omega) (by have := HZG.out; intro e; injection e with e; omega)
               have c2 : w1.cell? ⟨w.heap.size, 2, none⟩ = some (.int .i64 a2) := (by rw [← hk2.out]; unfold World.cell?; rw [hcl])
               have hb1 : Below w.heap.size w w1 := hKp.below HB3.out (by have := HZG.out; omega) (fun k hk => by injection hk with hk; have := HZG.out; omega)
               have zz1 : w.heap.size < w1.heap.size := by have := hKp.size; have := HZG.out; omega
               have HF2 := Aside0.mk f2
               have HSM := Aside0.mk hSm
               have HB1 := Aside0.mk hb1
               have a20 : 0 ≤ a2 := by have := H2.out; omega
               have a23 : a2 ≤ 3 := H2.out.2
               clear hR hK hRA hKp hF hSm hG hcl hb1 f2)
  go_loopg [12, 33] a2.toNat (fun gg s12 s33 wr => ∃ i : Int, s12 = .int .i64 (sumTo st i.toNat) ∧ s33 = .int .i64 i ∧ Aside0 (0 ≤ i) ∧ Aside0 (a2 - i = gg) ∧ wr = w1)
  case atStart => exact ⟨0, rfl, rfl, ⟨by omega⟩, ⟨by omega⟩, rfl⟩
  case round =>
    obtain ⟨i, rfl, rfl, HI, HG, rfl⟩ := hrel
    have i0 := HI.out
    by_cases cl : i < a2
    · have clb : decide (i < a2) = true := decide_eq_true cl
      obtain ⟨f3, f4⟩ := HF2.out i.toNat (by omega)
      have CL := Aside0.mk cl
      have bs := sumTo_bd HSM.out i.toNat
      have bx := HSM.out i.toNat
      have EN : Aside0 (sumTo st (i + 1).toNat = sumTo st i.toNat + (1 + rd st i)) := ⟨by rw [show (i + 1).toNat = i.toNat + 1 by omega]; simp only [sumTo]; rw [show ((i.toNat : Nat) : Int) = i by omega]⟩
      rw [show ((i.toNat : Nat) : Int) = i by omega] at f3 bx
      have b1 := bs.1
      have b2 : sumTo st i.toNat ≤ 400000 := by omega
      obtain ⟨b3, b4⟩ := bx
      go_wp2
      go_roundg (a2 - (i + 1)).toNat
      case measure => have := HG.out; have := CL.out; omega
      case rel =>
        have i1 := CL.out
        have i2 := HG.out
        refine ⟨i + 1, ?_, ?_, ⟨by omega⟩, ⟨by omega⟩, rfl⟩
        · rw [EN.out]
        · first | rfl | (rw [show wrap64 (i + 1) = i + 1 by unfold wrap64; omega])
    · have clb : decide (i < a2) = false := decide_eq_false cl
      have HEN : Aside0 (i.toNat = a2.toNat) := ⟨by have := HG.out; omega⟩
      go_wp2
      refine bodyPost_ret (v := .tuple #[.int .i64 (sumTo st i.toNat), .int .i64 0]) (by simp [results, Try.results21, go_sem]) rfl ?_
      rw [HEN.out]
      exact ⟨rfl, HB1.out⟩
theorem Space_walk (a0 a1 a2 : Int) (A : Option Addr) (c : Nat) (l : List S54) (A5 : Option Addr) (c5 : Nat) (inp : List Int) (most : Int) (w : World) (hr : Kd.C k54 w A l.length l) (h5 : Kd.C (Kd.int .i64) w A5 inp.length inp) (hlc : inp.length ≤ c5) :
    Calls Try.prog 21 #[.agg #[.int .i64 a0, .int .i64 a1, .int .i64 a2, .slice A l.length c], .slice A5 inp.length c5, .int .i64 most] w (SpaceAns w (spaceQ a0 a1 a2 l inp most)) := by
  unfold spaceQ
  by_cases he : errF a0 a1 a2 l inp most = 0
  · rw [if_pos he]
    exact Space_ok a0 a1 a2 A c l A5 c5 inp most w hr h5 hlc he
  · rw [if_neg he]
    exact Space_bad a0 a1 a2 A c l A5 c5 inp most w hr h5 hlc _ rfl he
end Go.Proofs.Ytfoodfhhdbaieaa.Giv
