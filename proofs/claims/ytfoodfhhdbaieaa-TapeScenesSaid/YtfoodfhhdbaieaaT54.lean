-- CUT by a program of this session: what the claim does not use is left out
import Derived.Test.YtfoodfhhdbaieaaT42
import Derived.Test.YtfoodfhhdbaieaaT53
namespace Go.Proofs.Ytfoodfhhdbaieaa.Giv
set_option linter.unusedSimpArgs false
set_option linter.unusedVariables false
open Go.RowKit Go.Shelf Go.Proofs.YtfoodfhhdbaieaaW.PrintWords Go.Proofs.YtfoodfhhdbaieaaW.PrintLast Go.Proofs.YtfoodfhhdbaieaaW.PrintMore
open Go.Proofs.Ytfoodfhhdbaieaa.Ka (S54 k54 z54 rd_T54 at_T54 k54_open rd_L1 at_L1 info3 info25 info54)

theorem SceneOwn.reads {w u : World} {base : Nat} {s : Int} {v1 v2 : Value} {at_ : List Int} {us : List Value} {tp : List (List Int)} (h : SceneOwn w base v1 at_ v2 us tp) (ha : ∀ k, base ≤ k → u.heap[k]? = w.heap[k]?) : SceneV u (.agg #[.int .i64 s, v1, v2]) s at_ tp := by
  obtain ⟨X1, y1, e1, h1, c1⟩ := own_C (own_agree h.row1 ha)
  obtain ⟨X2, y2, e2, h2, c2⟩ := own_C2 (own_agree h.row2 ha) h.len1 (fun i u l hu hl => own_agree (h.inner i u l hu hl) ha)
  subst e1; subst e2
  exact ⟨X1, y1, X2, y2, rfl, h1, c1, h2, c2⟩
set_option maxHeartbeats 2000000 in
set_option maxRecDepth 100000 in
theorem refStep_walk (a0 a1 a2 : Int) (A : Option Addr) (c : Nat) (rs : List S54) (s : Int) (A1 : Option Addr) (c1 : Nat) (at_ : List Int) (A2 : Option Addr) (c2 : Nat) (tp : List (List Int)) (w : World) (hr : Kd.C k54 w A rs.length rs) (hlc : rs.length ≤ c) (hlen : rs.length ≤ 2000)
    (h1 : Kd.C (Kd.int .i64) w A1 at_.length at_) (h2 : Kd.C (Kd.slice 3 (Kd.int .i64)) w A2 tp.length tp) (hs : sceneB a0 a1 a2 rs s at_ tp = true) (d : Sc) (hD : stepS rs ⟨s, at_, tp⟩ = some d) :
    Calls Try.prog 26 #[.agg #[.int .i64 a0, .int .i64 a1, .int .i64 a2, .slice A rs.length c], .agg #[.int .i64 s, .slice A1 at_.length c1, .slice A2 tp.length c2]] w (AnsF w (trimSc d) fun v => v) := by
  obtain ⟨hv, hG⟩ := scene_good hs
  obtain ⟨g0, g1, g2⟩ := valid_a2 hv
  obtain ⟨hrs, _⟩ := valid_ok hv
  have hla : at_.length = a2.toNat := hG.la
  have hlt : tp.length = a2.toNat := hG.lt
  have hst : sceneB a0 a1 a2 rs s at_ (tp.map trimL) = true := good_scene hv hG (by omega) (by omega)
  obtain ⟨_, hGt⟩ := scene_good hst
  obtain ⟨d', hd', htd⟩ := (step_trim (l := rs) (c := ⟨s, at_, tp⟩) (by show at_.length = tp.length; omega) (fun i => (hG.pos i).1)).2 d hD
  have hGd := good_step hGt hrs hd'
  obtain ⟨W, hW⟩ : ∃ W, ((w.alloc (Obj.cells #[.int .i64 a0, .int .i64 a1, .int .i64 a2, .slice A rs.length c] 24)).alloc (Obj.cells #[.int .i64 s, .slice A1 at_.length c1, .slice A2 tp.length c2] 32)).alloc (Obj.cells #[.int .i64 0, .slice none 0 0, .slice none 0 0] 32) = W := ⟨_, rfl⟩
  have hBW : Below w.heap.size w W := by rw [← hW]; exact (((Below.refl _ _).alloc (Nat.le_refl _) _).alloc (by simp) _).alloc (by simp; omega) _
  have z2 : w.heap.size + 2 < W.heap.size := by rw [← hW]; simp
  have z1 : w.heap.size + 1 < W.heap.size := by omega
  have z0 : w.heap.size < W.heap.size := by omega
  have m0 : W.cell? ⟨w.heap.size, 0, none⟩ = some (.int .i64 a0) := by subst hW; go_simp
  have m1 : W.cell? ⟨w.heap.size, 1, none⟩ = some (.int .i64 a1) := by subst hW; go_simp
  have m2 : W.cell? ⟨w.heap.size, 2, none⟩ = some (.int .i64 a2) := by subst hW; go_simp
  have m3 : W.cell? ⟨w.heap.size, 3, none⟩ = some (.slice A rs.length c) := by subst hW; go_simp
  have n0 : W.cell? ⟨w.heap.size + 1, 0, none⟩ = some (.int .i64 s) := by subst hW; go_simp
  have n1 : W.cell? ⟨w.heap.size + 1, 1, none⟩ = some (.slice A1 at_.length c1) := by subst hW; go_simp
  have n2 : W.cell? ⟨w.heap.size + 1, 2, none⟩ = some (.slice A2 tp.length c2) := by subst hW; go_simp
  have x0 : W.cell? ⟨w.heap.size + 2, 0, none⟩ = some (.int .i64 0) := by subst hW; go_simp
  have x1 : W.cell? ⟨w.heap.size + 2, 1, none⟩ = some (.slice none 0 0) := by subst hW; go_simp
  have x2 : W.cell? ⟨w.heap.size + 2, 2, none⟩ = some (.slice none 0 0) := by subst hW; go_simp
  have y0 : W.frozen? ⟨w.heap.size + 2, 0, none⟩ = false := by subst hW; go_simp
  have y1 : W.frozen? ⟨w.heap.size + 2, 1, none⟩ = false := by subst hW; go_simp
  have y2 : W.frozen? ⟨w.heap.size + 2, 2, none⟩ = false := by subst hW; go_simp
  have HBW := Aside0.mk hBW
  have HW := Aside0.mk hW
  have HT1 : Aside0 (Calls Try.prog 36 #[.agg #[.int .i64 s, .slice A1 at_.length c1, .slice A2 tp.length c2]] W (TrimOut W s at_ (tp.map trimL))) := ⟨trim_walk W s A1 c1 at_ A2 c2 tp (Kd.C_below h1 hBW) (Kd.C_below h2 hBW) (by omega) (by omega) (fun i => by have := hG.len i; simp only at this; omega)⟩
  have HADV : Aside0 (∀ w1 br v1 v2 vs, ScAt w1 W.heap.size br s v1 at_ v2 vs vs (tp.map trimL) → Below W.heap.size W w1 → Calls Try.prog 35 #[.agg #[.int .i64 a0, .int .i64 a1, .int .i64 a2, .slice A rs.length c], .pointer (some ⟨br, 0, none⟩)] w1 (AdvOut W w1 br v1 v2 (some d'))) := ⟨fun w1 br v1 v2 vs hS hb => advance_walk W w1 br s v1 v2 at_ vs (tp.map trimL) a0 a1 a2 A c rs hS hb (Kd.C_below hr hBW) hlc hlen hGt (by omega) (by omega) (by omega) (by omega) hrs (some d') hd'⟩
  have HT2 : Aside0 (∀ w2 br v1 v2 vs, ScAt w2 W.heap.size br d'.s v1 d'.at_ v2 vs vs d'.tp → Calls Try.prog 36 #[.agg #[.int .i64 d'.s, v1, v2]] w2 (TrimOut w2 d'.s d'.at_ (d'.tp.map trimL))) := ⟨fun w2 br v1 v2 vs hS => by
    obtain ⟨X1, q1, e1, _, hC1⟩ := own_C hS.row1
    obtain ⟨X2, q2, e2, _, hC2⟩ := own_C2 hS.row2 (hS.len2.trans hS.len1) hS.inner
    subst e1; subst e2
    exact trim_walk w2 d'.s X1 q1 d'.at_ X2 q2 d'.tp hC1 hC2 (by have := hGd.la; omega) (by have := hGd.lt; omega) (fun i => by have := hGd.len i; omega)⟩
  have hq : trimSc d = ⟨d'.s, d'.at_, d'.tp.map trimL⟩ := htd.symm
  rw [hq]
  clear hr hlc hlen h1 h2 hs hD hv hG g0 g1 g2 hrs hla hlt hst hGt hd' htd hGd hBW hW hq
  go_enter Try.func26, Try.ntmps26
  go_wp2_with (first
    | (go_at_call 36; refine (HT2.out _ _ _ _ _ HS2.out).mono ?_; rintro e w3 ⟨v1', v2', us', rfl, hown, hb0⟩; obtain ⟨X3, q3, rfl⟩ := own_slice hown.row1; obtain ⟨X4, q4, rfl⟩ := own_slice hown.row2; have HOWN3 := Aside0.mk hown; have HB23 := Aside0.mk hb0; have hb := below_step HB2.out hb0; clear hcc2 hff2; obtain ⟨hcc, hff⟩ := bcell hb; have HB := Aside0.mk hb; have zz := Nat.lt_of_lt_of_le z2 hb.size; clear hown hb0 hb)
    | (go_at_call 36; rw [HW.out]; refine HT1.out.mono ?_; rintro e w1 ⟨v1, v2, us, rfl, hown, hb⟩; obtain ⟨X1, q1, rfl⟩ := own_slice hown.row1; obtain ⟨X2, q2, rfl⟩ := own_slice hown.row2; have HOWN1 := Aside0.mk hown; obtain ⟨hcc1, hff1⟩ := bcell hb; have HB1 := Aside0.mk hb; have zz1 := Nat.lt_of_lt_of_le z0 hb.size; clear hown hb)
    | (go_at_call 35; obtain ⟨W6, hW6⟩ : ∃ W6, w1.alloc (Obj.cells #[.int .i64 s, .slice X1 at_.length q1, .slice X2 us.length q2] 32) = W6 := ⟨_, rfl⟩; rw [hW6]; have hb16 : Below w1.heap.size w1 W6 := (by rw [← hW6]; exact (Below.refl _ _).alloc (Nat.le_refl _) _); have hsc : ScAt W6 W.heap.size w1.heap.size s (.slice X1 at_.length q1) at_ (.slice X2 us.length q2) us us (tp.map trimL) := ⟨by rw [← hW6]; exact heap_alloc_new _ _, HB1.out.size, pw_own_below HOWN1.out.row1 hb16, pw_own_below HOWN1.out.row2 hb16, HOWN1.out.len1, rfl, fun i u l hu hl => pw_own_below (HOWN1.out.inner i u l hu hl) hb16, HOWN1.out.apart⟩; refine (HADV.out W6 _ _ _ _ hsc (below_step HB1.out hb16)).mono ?_; rintro e w2 ⟨rfl, hb, vs', hS2⟩; obtain ⟨o0, o1, o2⟩ := trio_cells hS2.cells; have HS2 := Aside0.mk hS2; have HB2 := Aside0.mk hb; clear hcc1 hff1; obtain ⟨hcc2, hff2⟩ := bcell hb; clear hW6 hb16 hsc hS2 hb zz1))
  refine bodyPost_ret (v := .agg #[.int .i64 d'.s, .slice X3 d'.at_.length q3, .slice X4 us'.length q4]) (by simp [results, Try.results26, go_sem, hcc, hff, x0, x1, x2, y0, y1, y2, zz, z2]) rfl ?_
  have hsz : (((w3.setCell ⟨w.heap.size + 2, 0, none⟩ (.int .i64 d'.s)).setCell ⟨w.heap.size + 2, 1, none⟩ (.slice X3 d'.at_.length q3)).setCell ⟨w.heap.size + 2, 2, none⟩ (.slice X4 us'.length q4)).heap.size = w3.heap.size := by simp
  refine ⟨_, rfl, fun u hu hag => ?_, ?_⟩
  · have hu' : w3.heap.size ≤ u.heap.size := Nat.le_trans (Nat.le_of_eq hsz.symm) hu
    refine scene_foot (w4 := w2) (w5 := w3) (fun w'' ha => HOWN3.out.reads ha) (fun k k1 k2 => ?_) hu'
    have hk4 : W.heap.size ≤ k := Nat.le_trans HB2.out.size k1
    refine (hag k (by omega) (Nat.lt_of_lt_of_eq k2 hsz.symm) (by simp)).trans ?_
    have hne : (⟨w.heap.size + 2, 0, none⟩ : Addr).block ≠ k := by show w.heap.size + 2 ≠ k; omega
    exact (heap_setCell_other _ ⟨w.heap.size + 2, 2, none⟩ k _ hne.symm).trans ((heap_setCell_other _ ⟨w.heap.size + 2, 1, none⟩ k _ hne.symm).trans (heap_setCell_other _ ⟨w.heap.size + 2, 0, none⟩ k _ hne.symm))
  · have h1 : Below w.heap.size w w3 := below_step HBW.out HB.out
    exact ((h1.setCell (p := ⟨w.heap.size + 2, 0, none⟩) (by simp) _).setCell (p := ⟨w.heap.size + 2, 1, none⟩) (by simp) _).setCell (p := ⟨w.heap.size + 2, 2, none⟩) (by simp) _
end Go.Proofs.Ytfoodfhhdbaieaa.Giv
