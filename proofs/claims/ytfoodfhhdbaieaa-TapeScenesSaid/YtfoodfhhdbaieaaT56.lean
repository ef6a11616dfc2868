-- CUT by a program of this session: what the claim does not use is left out
import Derived.Test.YtfoodfhhdbaieaaT25
import Derived.Test.YtfoodfhhdbaieaaT54
import Derived.Test.YtfoodfhhdbaieaaT55
import Derived.Test.YtfoodfhhdbaieaaT57
import Derived.Deep.CutBlock
namespace Go.Proofs.Ytfoodfhhdbaieaa.Giv
set_option linter.unusedSimpArgs false
set_option linter.unusedVariables false
open Go.RowKit Go.Shelf Go.Proofs.YtfoodfhhdbaieaaW.PrintWords Go.Proofs.YtfoodfhhdbaieaaW.PrintLast Go.Proofs.YtfoodfhhdbaieaaW.PrintMore
open Go.Proofs.Ytfoodfhhdbaieaa.Ka (S54 k54 z54 rd_T54 at_T54 k54_open k54_mk rd_L1 at_L1 info3 info25 info54)

theorem scenes_facts {a0 a1 a2 : Int} {A : Option Addr} {c : Nat} {l : List S54} {s : Int} {A1 : Option Addr} {c1 : Nat} {at_ : List Int} {A2 : Option Addr} {c2 : Nat} {tp : List (List Int)} {W : World} (hr : Kd.C k54 W A l.length l) (hlc : l.length ≤ c) (h1 : Kd.C (Kd.int .i64) W A1 at_.length at_) (hl1 : at_.length ≤ c1) (h2 : Kd.C (Kd.slice 3 (Kd.int .i64)) W A2 tp.length tp) (hl2 : tp.length ≤ c2)
    (s1 : l.length ≤ 2000) (s3 : ∀ r ∈ l, r.f1.length ≤ 100 ∧ r.f3.length ≤ 100 ∧ r.f4.length ≤ 100) (l1 : at_.length ≤ 45000) (l2 : tp.length ≤ 100) (l3 : ∀ x ∈ tp, x.length ≤ 45000) :
    (∀ w1, Below W.heap.size W w1 → Calls Try.prog 11 #[.agg #[.int .i64 a0, .int .i64 a1, .int .i64 a2, .slice A l.length c]] w1 fun e w' => e = .returned (.bool (validM a0 a1 a2 l)) ∧ Below w1.heap.size w1 w') ∧
    (validM a0 a1 a2 l = true → ∀ w1, Below W.heap.size W w1 → Calls Try.prog 25 #[.agg #[.int .i64 a0, .int .i64 a1, .int .i64 a2, .slice A l.length c], .agg #[.int .i64 s, .slice A1 at_.length c1, .slice A2 tp.length c2]] w1 fun e w' => e = .returned (.bool (sceneB a0 a1 a2 l s at_ tp)) ∧ Below w1.heap.size w1 w') ∧
    (sceneB a0 a1 a2 l s at_ tp = true → ∃ v, (stepS l ⟨s, at_, tp⟩ = none → v = true) ∧ (∀ d, stepS l ⟨s, at_, tp⟩ = some d → v = false) ∧ ∀ w1, Below W.heap.size W w1 → Calls Try.prog 16 #[.agg #[.int .i64 a0, .int .i64 a1, .int .i64 a2, .slice A l.length c], .agg #[.int .i64 s, .slice A1 at_.length c1, .slice A2 tp.length c2]] w1 fun e w' => e = .returned (.bool v) ∧ Below w1.heap.size w1 w') ∧
    (sceneB a0 a1 a2 l s at_ tp = true → ∀ d, stepS l ⟨s, at_, tp⟩ = some d → (∀ w1, Below W.heap.size W w1 → Calls Try.prog 26 #[.agg #[.int .i64 a0, .int .i64 a1, .int .i64 a2, .slice A l.length c], .agg #[.int .i64 s, .slice A1 at_.length c1, .slice A2 tp.length c2]] w1 (AnsF w1 (trimSc d) fun v => v)) ∧
      ∀ w1 B1 d1 B2 d2, Below W.heap.size W w1 → SceneV w1 (scV (trimSc d) (B1, d1) (B2, d2)) (trimSc d).s (trimSc d).at_ (trimSc d).tp → Calls Try.prog 25 #[.agg #[.int .i64 a0, .int .i64 a1, .int .i64 a2, .slice A l.length c], .agg #[.int .i64 (trimSc d).s, .slice B1 (trimSc d).at_.length d1, .slice B2 (trimSc d).tp.length d2]] w1 fun e w' => e = .returned (.bool (sceneB a0 a1 a2 l (trimSc d).s (trimSc d).at_ (trimSc d).tp)) ∧ Below w1.heap.size w1 w') := by
  obtain ⟨kv, hkv⟩ := refValid_total (a0 := a0) (a1 := a1) (a2 := a2) s1 s3
  refine ⟨fun w1 hb => Ka.commodatumref20_Valid.calls kv a0 a1 a2 A c l (validM a0 a1 a2 l) w1 (Kd.C_below hr hb) hlc hkv, fun hv w1 hb => ?_, fun hs => ?_, fun hs d hd => ⟨fun w1 hb => refStep_walk a0 a1 a2 A c l s A1 c1 at_ A2 c2 tp w1 (Kd.C_below hr hb) hlc s1 (Kd.C_below h1 hb) (Kd.C_below h2 hb) hs d hd, fun w1 B1 d1 B2 d2 hb hS => ?_⟩⟩
  · obtain ⟨k, hk⟩ := refScene_total (s := s) (at_ := at_) (tp := tp) hv (by omega) (by omega) (fun x hx => by have := l3 x hx; omega)
    exact Ka.commodatumref20_ValidScene.calls k a0 a1 a2 A c l s A1 c1 at_ A2 c2 tp _ w1 (Kd.C_below hr hb) hlc (Kd.C_below h1 hb) hl1 (Kd.C_below h2 hb) hl2 hk
  · obtain ⟨hv, hG⟩ := scene_good hs
    obtain ⟨g0, g1, g2⟩ := valid_a2 hv
    obtain ⟨hrs, _⟩ := valid_ok hv
    obtain ⟨k, v, hk, e1, e2⟩ := refFinal_total (a2 := a2) hG (by omega) hrs s1
    exact ⟨v, e1, e2, fun w1 hb => Ka.commodatumref20_Final.calls k a0 a1 a2 A c l s A1 c1 at_ A2 c2 tp v w1 (Kd.C_below hr hb) hlc (Kd.C_below h1 hb) hl1 (Kd.C_below h2 hb) hl2 hk⟩
  · obtain ⟨hv, hG⟩ := scene_good hs
    obtain ⟨g0, g1, g2⟩ := valid_a2 hv
    obtain ⟨hrs, _⟩ := valid_ok hv
    have hGd := good_step hG hrs hd
    obtain ⟨Y1, y1, Y2, y2, hve, m1, q1, m2, q2⟩ := hS
    simp [scV] at hve
    obtain ⟨⟨rfl, rfl⟩, ⟨rfl, rfl⟩⟩ := hve
    have hlen : ∀ x ∈ (trimSc d).tp, x.length ≤ 1000000 := fun x hx => by
      obtain ⟨y, hy, rfl⟩ := List.mem_map.1 hx
      obtain ⟨j, hj, rfl⟩ := List.getElem_of_mem hy
      have := hGd.len j
      have e : rd_L1 d.tp j = d.tp[j] := by unfold rd_L1; rw [Int.toNat_natCast, List.getD_eq_getElem?_getD, List.getElem?_eq_getElem hj]; rfl
      rw [e] at this
      have h6 := trimN_le d.tp[j] d.tp[j].length
      rw [trim_len]
      omega
    obtain ⟨k, hk⟩ := refScene_total (s := (trimSc d).s) (at_ := (trimSc d).at_) (tp := (trimSc d).tp) hv (by have := hGd.la; show d.at_.length ≤ _; omega) (by have := hGd.lt; show (d.tp.map trimL).length ≤ _; rw [List.length_map]; omega) hlen
    exact Ka.commodatumref20_ValidScene.calls k a0 a1 a2 A c l _ _ _ _ _ _ _ _ w1 (Kd.C_below hr hb) hlc q1 m1 q2 m2 hk
def regC15.T : Bool × List (List Nat × List Nat) := (true, [([], []), ([0], [0]), ([], []), ([2, 1], [2]), ([1, 3, 3], [1, 3]), ([4, 4, 0, 1, 2, 3, 4], [4])])
def regC15.B : List Nat := [0, 1, 0, 7, 15, 31]
theorem regC15.tab : rtab .any (opsOf Try.f6 15) = regC15.T := by kernel_rfl
theorem regC15.bits : waitsOk regC15.T.2 regC15.B = true := by kernel_rfl
def regC15.bits_ (p b d e : Bool) : Array Bool := #[true, p, true, b, d, false]
theorem regC15.steps : ∀ p b d e, (e = false → true = false) → (b = false → false = false) → (d = true → e = true) → goodS p b d = true → cntS p b d e < 4 → readyT regC15.T.2 (regC15.bits_ p b d e).toList ≠ [] ∧ ∀ i ∈ readyT regC15.T.2 (regC15.bits_ p b d e).toList, i ∉ ([] : List Nat) ∧ LawStepS regC15.bits_ 1 3 4 99 p b d e i := by decide +kernel
def regC16.T : Bool × List (List Nat × List Nat) := (true, [([], []), ([0], [0]), ([], []), ([2, 1], [2]), ([1, 3, 3], [1, 3]), ([4], [4]), ([5], [5]), ([5], [5]), ([], []), ([8, 6, 4, 0, 1, 2, 3, 4, 5, 6, 8], [6, 8]), ([7, 9, 0, 1, 2, 3, 4, 5, 6, 7, 8, 9], [7])])
def regC16.B : List Nat := [0, 1, 0, 7, 15, 31, 63, 63, 0, 383, 1023]
theorem regC16.tab : rtab .any (opsOf Try.f6 16) = regC16.T := by kernel_rfl
theorem regC16.bits : waitsOk regC16.T.2 regC16.B = true := by kernel_rfl
def regC16.bits_ (p b d e : Bool) : Array Bool := #[true, p, true, b, d, false, false, false, e, false, false]
theorem regC16.steps : ∀ p b d e, (e = false → false = false) → (b = false → false = false) → (d = true → e = true) → goodS p b d = true → cntS p b d e < 4 → readyT regC16.T.2 (regC16.bits_ p b d e).toList ≠ [] ∧ ∀ i ∈ readyT regC16.T.2 (regC16.bits_ p b d e).toList, i ∉ ([9] : List Nat) ∧ LawStepS regC16.bits_ 1 3 4 8 p b d e i := by decide +kernel
set_option maxHeartbeats 8000000 in
set_option maxRecDepth 100000 in
theorem tapeScenes_walk (a0 a1 a2 : Int) (A : Option Addr) (c : Nat) (l : List S54) (s : Int) (A1 : Option Addr) (c1 : Nat) (at_ : List Int) (A2 : Option Addr) (c2 : Nat) (tp : List (List Int)) (w : World) (hr : Kd.C k54 w A l.length l) (hlc : l.length ≤ c) (h1 : Kd.C (Kd.int .i64) w A1 at_.length at_) (hl1 : at_.length ≤ c1) (h2 : Kd.C (Kd.slice 3 (Kd.int .i64)) w A2 tp.length tp) (hl2 : tp.length ≤ c2) (hf : ∀ r ∈ l, Fits r) (hfs : FitsS at_ tp) :
    Calls Try.prog 6 #[.agg #[.int .i64 a0, .int .i64 a1, .int .i64 a2, .slice A l.length c], .agg #[.int .i64 s, .slice A1 at_.length c1, .slice A2 tp.length c2]] w fun e w' => e = .returned (.bool true) ∧ Below w.heap.size w w' := by
  obtain ⟨kb, rb, hkb, hsmall⟩ := wideF_total a0 a1 a2 hf
  obtain ⟨kl, rl, hkl, hlong⟩ := long_total s hfs
  obtain ⟨W, hW⟩ : ∃ W, (w.alloc (Obj.cells #[.int .i64 a0, .int .i64 a1, .int .i64 a2, .slice A l.length c] 24)).alloc (Obj.cells #[.int .i64 s, .slice A1 at_.length c1, .slice A2 tp.length c2] 32) = W := ⟨_, rfl⟩
  have hb0 : Below w.heap.size w W := by rw [← hW]; exact ((Below.refl _ _).alloc (Nat.le_refl _) _).alloc (by simp) _
  have hz1 : w.heap.size + 1 < W.heap.size := by rw [← hW]; simp
  have hz : w.heap.size < W.heap.size := by omega
  have hbx : W.heap[w.heap.size]? = some (.cells #[.int .i64 a0, .int .i64 a1, .int .i64 a2, .slice A l.length c] 24 (0, 0)) := by rw [← hW]; rw [heap_alloc_old (h := by simp)]; exact heap_alloc_new _ _
  have hbt : W.heap[w.heap.size + 1]? = some (.cells #[.int .i64 s, .slice A1 at_.length c1, .slice A2 tp.length c2] 32 (0, 0)) := by rw [← hW]; exact alloc2_new _ _ _
  obtain ⟨k0, k1, k2, k3⟩ := run_cells4 hbx
  obtain ⟨u0, u1, u2⟩ := trio_cells hbt
  have HBIG := Aside0.mk (Ka.commodatumlaw20_Wide.calls kb a0 a1 a2 A c l rb W (Kd.C_below hr hb0) hlc hkb)
  have HLONG : Aside0 (∀ w1, Below W.heap.size W w1 → Calls Try.prog 24 #[.agg #[.int .i64 s, .slice A1 at_.length c1, .slice A2 tp.length c2]] w1 fun e w' => e = .returned (.bool rl) ∧ Below w1.heap.size w1 w') := ⟨fun w1 hb => Ka.commodatumlaw20_Long.calls kl s A1 c1 at_ A2 c2 tp rl w1 (Kd.C_below h1 (below_step hb0 hb)) hl1 (Kd.C_below h2 (below_step hb0 hb)) hl2 hkl⟩
  have HW := Aside0.mk hW
  have HB0 := Aside0.mk hb0
  have HR := Aside0.mk (Kd.C_below hr hb0)
  have H1 := Aside0.mk (Kd.C_below h1 hb0)
  have H2 := Aside0.mk (Kd.C_below h2 hb0)
  have HLC := Aside0.mk hlc
  have HL1 := Aside0.mk hl1
  have HL2 := Aside0.mk hl2
  by_cases hA : rb = true ∨ rl = true
  · clear hr hlc h1 hl1 h2 hl2 hf hfs hkb hkl hsmall hlong hW hb0 hbx hbt HR H1 H2 HL1 HL2 HLC
    have hA' : (rb = true) ∨ (rb = false ∧ rl = true) := by
      cases rb with
      | true => exact .inl rfl
      | false => exact .inr ⟨rfl, hA.resolve_left (by simp)⟩
    clear hA
    have HX := Aside0.mk (Below.refl W.heap.size W)
    rcases hA' with rfl | ⟨rfl, rfl⟩
    · go_enter Try.func6, Try.ntmps6
      go_wp2_with (first
        | (go_at_call 23; rw [HW.out]; refine HBIG.out.mono ?_; rintro e w1 ⟨rfl, hb⟩; have n0 := Aside0.mk (below_step HX.out hb); clear HX hb; have HX := n0; clear n0)
        | (go_at_call 10; refine (awake_walk _).mono ?_; rintro e w2 ⟨rfl, hb⟩; have n0 := Aside0.mk (below_step HX.out hb); clear HX hb; have HX := n0; clear n0))
      go_ret
      exact ⟨rfl, below_step HB0.out HX.out⟩
    · go_enter Try.func6, Try.ntmps6
      go_wp2_with (first
        | (go_at_call 23; rw [HW.out]; refine HBIG.out.mono ?_; rintro e w1 ⟨rfl, hb⟩; have n0 := Aside0.mk (below_step HX.out hb); clear HX hb; have HX := n0; clear n0; have p0 := ((bcell HX.out).1 _ 0 hz1).trans u0; have p1 := ((bcell HX.out).1 _ 1 hz1).trans u1; have p2 := ((bcell HX.out).1 _ 2 hz1).trans u2)
        | (go_at_call 24; refine (HLONG.out _ HX.out).mono ?_; rintro e w3 ⟨rfl, hb⟩; have n0 := Aside0.mk (below_step HX.out hb); clear HX hb; have HX := n0; clear n0)
        | (go_at_call 10; refine (awake_walk _).mono ?_; rintro e w2 ⟨rfl, hb⟩; have n0 := Aside0.mk (below_step HX.out hb); clear HX hb; have HX := n0; clear n0))
      go_ret
      exact ⟨rfl, below_step HB0.out HX.out⟩
  · obtain ⟨rfl, rfl⟩ : rb = false ∧ rl = false := by
      cases rb <;> cases rl <;> simp at hA ⊢
    obtain ⟨s1, s3⟩ := hsmall rfl
    obtain ⟨l1, l2, l3⟩ := hlong rfl
    have HS1 := Aside0.mk s1
    have HS3 := Aside0.mk s3
    have HL := Aside0.mk (And.intro l1 (And.intro l2 l3))
    obtain ⟨f1, f2, f3, f4⟩ := scenes_facts (a0 := a0) (a1 := a1) (a2 := a2) (s := s) HR.out hlc H1.out hl1 H2.out hl2 s1 s3 l1 l2 l3
    have HVAL := Aside0.mk f1
    have HFIT := Aside0.mk f2
    have HFIN := Aside0.mk f3
    have HSTP := Aside0.mk f4
    clear hr hlc h1 hl1 h2 hl2 hf hfs hkb hkl hsmall hlong hW hb0 hbx hbt hA s1 s3 l1 l2 l3 f1 f2 f3 f4
    have HB := Aside0.mk (Below.refl W.heap.size W)
    obtain ⟨q, hq⟩ : ∃ q, stepQ a0 a1 a2 l s at_ tp = q := ⟨_, rfl⟩
    have HQ := Aside0.mk hq
    have HSTEP : Aside0 (∀ (w : World) B cb v, Kd.C k54 w B l.length l → SceneV w v s at_ tp → Calls Try.prog 29 #[.agg #[.int .i64 a0, .int .i64 a1, .int .i64 a2, .slice B l.length cb], v] w (AnsF w q.1 fun v => .tuple #[v, .int .i64 q.2])) := ⟨fun w B cb v q1 hv => by
      obtain ⟨X1, y1, X2, y2, rfl, _, z1, _, z2⟩ := hv
      rw [← hq]
      exact (Step_walk a0 a1 a2 B cb l s X1 y1 at_ X2 y2 tp w q1 z1 z2).mono (fun e w' h => ansF_step h)⟩
    obtain ⟨bf, hbf⟩ : ∃ b, sceneB a0 a1 a2 l s at_ tp = b := ⟨_, rfl⟩
    have HIS : Aside0 (∀ (w : World) B cb v, Kd.C k54 w B l.length l → SceneV w v s at_ tp → Calls Try.prog 27 #[.agg #[.int .i64 a0, .int .i64 a1, .int .i64 a2, .slice B l.length cb], v] w fun e w' => e = .returned (.bool bf) ∧ Below w.heap.size w w') := ⟨fun w B cb v q1 hv => by
      obtain ⟨X1, y1, X2, y2, rfl, _, z1, _, z2⟩ := hv
      rw [← hbf]
      exact scene_calls a0 a1 a2 B cb l s X1 y1 at_ X2 y2 tp w q1 z1 z2⟩
    have HBF := Aside0.mk hbf
    obtain ⟨bv, hbv⟩ : ∃ b, validM a0 a1 a2 l = b := ⟨_, rfl⟩
    have HBV0 := Aside0.mk hbv
    rw [hbv] at HVAL HFIT
    rw [hbf] at HFIT HFIN HSTP
    clear hq hbf hbv
    go_enter Try.func6, Try.ntmps6
    go_upto_region 4 with (first
      | (go_at_call 23; rw [HW.out]; refine HBIG.out.mono ?_; rintro e w1 ⟨rfl, hb⟩; have n0 := Aside0.mk (below_step HB.out hb); clear HB hb; have HB := n0; clear n0; have p0 := ((bcell HB.out).1 _ 0 hz1).trans u0; have p1 := ((bcell HB.out).1 _ 1 hz1).trans u1; have p2 := ((bcell HB.out).1 _ 2 hz1).trans u2)
      | (go_at_call 24; refine (HLONG.out _ HB.out).mono ?_; rintro e w3 ⟨rfl, hb⟩; have n0 := Aside0.mk (below_step HB.out hb); clear HB hb; have HB := n0; clear n0; clear p0 p1 p2; have p0 := ((bcell HB.out).1 _ 0 hz).trans k0; have p1 := ((bcell HB.out).1 _ 1 hz).trans k1; have p2 := ((bcell HB.out).1 _ 2 hz).trans k2; have p3 := ((bcell HB.out).1 _ 3 hz).trans k3)
      | (go_at_call 11; refine (HVAL.out _ HB.out).mono ?_; rintro e w4 ⟨rfl, hb⟩; have n0 := Aside0.mk (below_step HB.out hb); clear HB hb; have HB := n0; clear n0))
    clear p0 p1 p2 p3
    go_cut [6] from 12 (fun v6 wc => v6 = .bool bf ∧ Aside0 (Below W.heap.size W wc))
    case first =>
      have p0 := ((bcell HB.out).1 _ 0 hz).trans k0
      have p1 := ((bcell HB.out).1 _ 1 hz).trans k1
      have p2 := ((bcell HB.out).1 _ 2 hz).trans k2
      have p3 := ((bcell HB.out).1 _ 3 hz).trans k3
      have p4 := ((bcell HB.out).1 _ 0 hz1).trans u0
      have p5 := ((bcell HB.out).1 _ 1 hz1).trans u1
      have p6 := ((bcell HB.out).1 _ 2 hz1).trans u2
      cases bv with
      | false =>
        have hbf : bf = false := by
          rw [← HBF.out]
          unfold sceneB
          rw [HBV0.out]
          rfl
        go_wp2_with fail
        go_meet
        case rel => exact ⟨by rw [hbf], HB⟩
      | true =>
        have HF := Aside0.mk (HFIT.out rfl)
        go_wp2_with (go_at_call 25; refine (HF.out _ HB.out).mono ?_; rintro e w5 ⟨rfl, hb⟩; have n0 := Aside0.mk (below_step HB.out hb); clear HB hb; have HB := n0; clear n0)
        go_meet
        case rel => exact ⟨rfl, HB⟩
    case rest =>
      clear HB
      obtain ⟨rfl, HB⟩ := hcut
      obtain ⟨w5, rfl⟩ : ∃ w5, w5 = wc := ⟨_, rfl⟩
      go_upto_block 0 with fail
      obtain ⟨V5, hV5⟩ : ∃ V, w5.alloc (Obj.cells #[Value.int .i64 0, .slice none 0 0, .slice none 0 0] 32) = V := ⟨_, rfl⟩
      obtain ⟨gw, hgw⟩ : ∃ g, w5.heap.size = g := ⟨_, rfl⟩
      have hg5 : V5.heap[gw]? = some (.cells #[.int .i64 0, .slice none 0 0, .slice none 0 0] 32 (0, 0)) := by rw [← hV5, ← hgw]; exact heap_alloc_new _ _
      have HG5 := Aside0.mk hg5
      have HB5 : Aside0 (Below W.heap.size W V5) := ⟨by rw [← hV5]; exact HB.out.alloc HB.out.size _⟩
      have HGW : Aside0 (W.heap.size ≤ gw) := ⟨by rw [← hgw]; exact HB.out.size⟩
      rw [hV5, hgw]
      clear HB hg5 hV5 hgw
      have p0 := ((bcell HB5.out).1 _ 0 hz).trans k0
      have p1 := ((bcell HB5.out).1 _ 1 hz).trans k1
      have p2 := ((bcell HB5.out).1 _ 2 hz).trans k2
      have p3 := ((bcell HB5.out).1 _ 3 hz).trans k3
      have p4 := ((bcell HB5.out).1 _ 0 hz1).trans u0
      have p5 := ((bcell HB5.out).1 _ 1 hz1).trans u1
      have p6 := ((bcell HB5.out).1 _ 2 hz1).trans u2
      go_cut [8] from 12 (fun v8 wc => ∃ X1 e1 X2 e2, v8 = .int .i64 q.2 ∧ Aside0 (wc.heap[gw]? = some (.cells #[.int .i64 q.1.s, .slice X1 q.1.at_.length e1, .slice X2 q.1.tp.length e2] 32 (0, 0)) ∧ SceneV wc (.agg #[.int .i64 q.1.s, .slice X1 q.1.at_.length e1, .slice X2 q.1.tp.length e2]) q.1.s q.1.at_ q.1.tp) ∧ Aside0 (Below W.heap.size W wc))
      case first =>
        have hq := HQ.out
        unfold stepQ at hq
        cases bv with
        | false =>
          rw [if_pos HBV0.out] at hq
          subst hq
          clear HQ HSTEP HIS
          go_wp2_with fail
          go_meet
          case rel => exact ⟨none, 0, none, 0, rfl, ⟨HG5.out, scene_zero _⟩, HB5⟩
        | true =>
          rw [if_neg (by rw [HBV0.out]; simp)] at hq
          cases bf with
          | false =>
            rw [if_pos HBF.out] at hq
            subst hq
            clear HQ HSTEP HIS
            go_wp2_with fail
            go_meet
            case rel => exact ⟨none, 0, none, 0, rfl, ⟨HG5.out, scene_zero _⟩, HB5⟩
          | true =>
            rw [if_neg (by rw [HBF.out]; simp)] at hq
            obtain ⟨vf, ef1, ef2, ef3⟩ := HFIN.out rfl
            have HF := Aside0.mk ef3
            cases hs : stepS l ⟨s, at_, tp⟩ with
            | none =>
              rw [hs] at hq
              simp only at hq
              obtain rfl := ef1 hs
              subst hq
              clear HQ HSTEP HIS ef1 ef2 ef3 hs
              go_wp2_with (go_at_call 16; refine (HF.out _ HB5.out).mono ?_; rintro e w6 ⟨rfl, hb⟩; have n0 := Aside0.mk (below_step HB5.out hb); have HK := Aside0.mk hb; clear HB5 hb; have HB5 := n0; clear n0)
              go_meet
              case rel => exact ⟨none, 0, none, 0, rfl, ⟨heap_keep HG5.out HK.out, scene_zero _⟩, HB5⟩
            | some d =>
              rw [hs] at hq
              simp only at hq
              obtain rfl := ef2 d hs
              obtain ⟨hst, hv2⟩ := HSTP.out rfl d hs
              have HST := Aside0.mk hst
              have HV2 := Aside0.mk hv2
              obtain ⟨bd, hbd⟩ : ∃ b, sceneB a0 a1 a2 l (trimSc d).s (trimSc d).at_ (trimSc d).tp = b := ⟨_, rfl⟩
              rw [hbd] at HV2
              have hq2 : (if bd = true then (trimSc d, (0 : Int)) else ((⟨0, [], []⟩ : Sc), (5 : Int))) = q := by rw [← hbd]; exact hq
              obtain ⟨d', hd'⟩ : ∃ d', trimSc d = d' := ⟨_, rfl⟩
              rw [hd'] at HST HV2 hq2
              have HQ2 := Aside0.mk hq2
              clear HQ HSTEP HIS ef1 ef2 ef3 hs hq hst hv2 hbd hq2 hd'
              go_upto_region 7 with (first
                | (go_at_call 16; refine (HF.out _ HB5.out).mono ?_; rintro e w6 ⟨rfl, hb⟩; have n0 := Aside0.mk (below_step HB5.out hb); have ng := Aside0.mk (heap_keep HG5.out hb); clear HB5 HG5 hb; have HB5 := n0; have HG5 := ng; clear n0 ng; clear p0 p1 p2 p3 p4 p5 p6; have p0 := ((bcell HB5.out).1 _ 0 hz).trans k0; have p1 := ((bcell HB5.out).1 _ 1 hz).trans k1; have p2 := ((bcell HB5.out).1 _ 2 hz).trans k2; have p3 := ((bcell HB5.out).1 _ 3 hz).trans k3; have p4 := ((bcell HB5.out).1 _ 0 hz1).trans u0; have p5 := ((bcell HB5.out).1 _ 1 hz1).trans u1; have p6 := ((bcell HB5.out).1 _ 2 hz1).trans u2)
                | (go_at_call 26; refine (HST.out _ HB5.out).mono ?_; rintro e w7 ⟨v, rfl, hv, hb⟩; have n0 := Aside0.mk (below_step HB5.out hb); have ng := Aside0.mk (heap_keep HG5.out hb); have HGL : Aside0 (gw < w6.heap.size) := ⟨(Array.getElem?_eq_some_iff.1 HG5.out).1⟩; clear HB5 HG5 hb; have HB5 := n0; have HG5 := ng; clear n0 ng; clear p0 p1 p2 p3 p4 p5 p6; have HFT := Aside0.mk hv; obtain ⟨X1, e1, X2, e2, hve, -⟩ := hv.now; subst hve; clear hv; obtain ⟨o0, o1, o2⟩ := trio_cells HG5.out; have z0 := run_frozen HG5.out 0; have z1 := run_frozen HG5.out 1; have z2 := run_frozen HG5.out 2))
              obtain ⟨V7, hV7⟩ : ∃ V, ((w7.setCell ⟨gw, 0, none⟩ (.int .i64 d'.s)).setCell ⟨gw, 1, none⟩ (.slice X1 d'.at_.length e1)).setCell ⟨gw, 2, none⟩ (.slice X2 d'.tp.length e2) = V := ⟨_, rfl⟩
              have hg7 : V7.heap[gw]? = some (.cells #[.int .i64 d'.s, .slice X1 d'.at_.length e1, .slice X2 d'.tp.length e2] 32 (0, 0)) := by rw [← hV7]; exact set3s HG5.out _ _ _
              have HF7 : Aside0 (SceneV V7 (.agg #[.int .i64 d'.s, .slice X1 d'.at_.length e1, .slice X2 d'.tp.length e2]) d'.s d'.at_ d'.tp) := ⟨by rw [← hV7]; exact (HFT.out.set (grown3 w7 gw _ _ _) (.inl HGL.out)).now⟩
              have HB7 : Aside0 (Below W.heap.size W V7) := ⟨by rw [← hV7]; exact ((HB5.out.setCell (p := ⟨gw, 0, none⟩) HGW.out _).setCell (p := ⟨gw, 1, none⟩) HGW.out _).setCell (p := ⟨gw, 2, none⟩) HGW.out _⟩
              rw [hV7]
              clear HB5 HG5 HFT HGL o0 o1 o2 z0 z1 z2 hV7
              have HG7 := Aside0.mk hg7
              obtain ⟨o0, o1, o2⟩ := trio_cells hg7
              clear hg7
              have p0 := ((bcell HB7.out).1 _ 0 hz).trans k0
              have p1 := ((bcell HB7.out).1 _ 1 hz).trans k1
              have p2 := ((bcell HB7.out).1 _ 2 hz).trans k2
              have p3 := ((bcell HB7.out).1 _ 3 hz).trans k3
              have HV3 := Aside0.mk (HV2.out V7 X1 e1 X2 e2 HB7.out HF7.out)
              cases bd with
              | true =>
                have hq := HQ2.out
                rw [if_pos rfl] at hq
                subst hq
                clear HQ2
                go_wp2_with (go_at_call 25; refine HV3.out.mono ?_; rintro e w8 ⟨rfl, hb⟩; have n0 := Aside0.mk (below_step HB7.out hb); have ng := Aside0.mk (And.intro (heap_keep HG7.out hb) (SceneV_below HF7.out hb)); clear HB7 HG7 hb; have HB7 := n0; have HG7 := ng; clear n0 ng)
                go_meet
                case rel => exact ⟨X1, e1, X2, e2, rfl, HG7, HB7⟩
              | false =>
                have hq := HQ2.out
                rw [if_neg (by simp)] at hq
                subst hq
                clear HQ2
                go_wp2_with (go_at_call 25; refine HV3.out.mono ?_; rintro e w8 ⟨rfl, hb⟩; have n0 := Aside0.mk (below_step HB7.out hb); have ng := Aside0.mk (heap_keep HG7.out hb); clear HB7 HG7 hb; have HB7 := n0; have HG7 := ng; clear n0 ng o0 o1 o2; obtain ⟨o0, o1, o2⟩ := trio_cells HG7.out; have z0 := run_frozen HG7.out 0; have z1 := run_frozen HG7.out 1; have z2 := run_frozen HG7.out 2)
                go_meet
                case rel => exact ⟨none, 0, none, 0, rfl, ⟨set3s HG7.out _ _ _, scene_zero _⟩, ⟨((HB7.out.setCell (p := ⟨gw, 0, none⟩) HGW.out _).setCell (p := ⟨gw, 1, none⟩) HGW.out _).setCell (p := ⟨gw, 2, none⟩) HGW.out _⟩⟩
      case rest =>
        clear HB5 HG5 HVAL HFIT HFIN HSTP HBIG HLONG p0 p1 p2 p3 p4 p5 p6
        obtain ⟨X1, e1, X2, e2, rfl, HAT, HB⟩ := hcut
        obtain ⟨w6, rfl⟩ : ∃ w6, w6 = wc := ⟨_, rfl⟩
        go_wp2_with fail
        obtain ⟨hcc15, _⟩ := bcell HB.out
        refine start_ (n := 6) (S := fun w' => w'.cell? ⟨w.heap.size, 0, none⟩ = some (.int .i64 a0) ∧ w'.cell? ⟨w.heap.size, 1, none⟩ = some (.int .i64 a1) ∧ w'.cell? ⟨w.heap.size, 2, none⟩ = some (.int .i64 a2) ∧ w'.cell? ⟨w.heap.size, 3, none⟩ = some (.slice A l.length c) ∧ w'.cell? ⟨w.heap.size + 1, 0, none⟩ = some (.int .i64 s) ∧ w'.cell? ⟨w.heap.size + 1, 1, none⟩ = some (.slice A1 at_.length c1) ∧ w'.cell? ⟨w.heap.size + 1, 2, none⟩ = some (.slice A2 tp.length c2)) (ds := []) #[false, false, false, false, false, false] (by kernel_rfl) rfl rfl ⟨(hcc15 _ 0 hz).trans k0, (hcc15 _ 1 hz).trans k1, (hcc15 _ 2 hz).trans k2, (hcc15 _ 3 hz).trans k3, (hcc15 _ 0 hz1).trans u0, (hcc15 _ 1 hz1).trans u1, (hcc15 _ 2 hz1).trans u2⟩ (fun hHeld => ?_); refine with_tabW regC15.tab regC15.bits (fun HT_ HW_ => ?_)
        clear hcc15
        have HDW := Aside0.mk (below_drew (Below.refl w6.heap.size w6))
        generalize w6.drew = X15 at HDW hHeld ⊢
        have HB_ := Aside0.mk (below_step HB.out HDW.out)
        have HAT_ := Aside0.mk (And.intro (heap_keep HAT.out.1 HDW.out) (SceneV_below HAT.out.2 HDW.out))
        clear HB HAT HDW
        have HB := HB_
        have HAT := HAT_
        clear HB_ HAT_
        refine take_ (i := 0) (N := some 46) (v := ?_) (a' := ?_) #[true, false, false, false, false, false] rfl rfl (take_ofW HT_.out HW_.out (by kernel_rfl)) (fun _ _ _ h => h) (Or.inl ⟨by rfl, ?_⟩) hHeld ?_ ?_
        rotate_left
        · rintro w' ⟨s0, s1, s2, s3, s4, s5, s6⟩
          go_simp
          with_reducible rfl
        rotate_left
        · simp only [Act.put, List.setIfInBounds_toArray, List.set_cons_zero, List.set_cons_succ, i64_w, i32_w]
          rfl
        refine take_ (i := 2) (N := some 48) (v := ?_) (a' := ?_) #[true, false, true, false, false, false] rfl rfl (take_ofW HT_.out HW_.out (by kernel_rfl)) (fun _ _ _ h => h) (Or.inl ⟨by rfl, ?_⟩) hHeld ?_ ?_
        rotate_left
        · rintro w' ⟨s0, s1, s2, s3, s4, s5, s6⟩
          go_simp
          with_reducible rfl
        rotate_left
        · simp only [Act.put, List.setIfInBounds_toArray, List.set_cons_zero, List.set_cons_succ, i64_w, i32_w]
          rfl
        refine law_invS (nt := 75) (bits := regC15.bits_) (i2 := 1) (i3 := 3) (i8 := 4) (i13 := 99) (s2 := 47) (s3 := 49) (s6 := 74) (s8 := 50) (s13 := 73) ⟨by decide, by decide, by decide, by decide, by decide, by decide, by decide, by decide, by decide, by decide, by decide, by decide, by decide⟩ (a0 := a0) (a1 := a1) (a2 := a2) (rs := l) (s := s) (at_ := at_) (tp := tp) (R := fun d _ x8 _ _ => d = true → x8 = .bool bf) (b0 := false) (e0 := true) X15 (fun p b d e h1 h1p h2 h3 h4 => by rw [ready_eq, HT_.out]; exact regC15.steps p b d e h1 h1p h2 h3 h4) (o2 := _) (o3 := _) (o8 := _) (o13 := default) rfl rfl (fun h => by cases h) (sM := 46) (sX := 48) (F := 27) _ rfl (A := A) (c := c) ⟨by decide, by decide, by decide, by decide, by decide, by decide, rfl, Kd.C_below HR.out HB.out, rfl, rfl, rfl⟩ (vc := .agg #[.int .i64 s, .slice A1 at_.length c1, .slice A2 tp.length c2]) (fun _ => ⟨rfl, by decide, by decide, by decide, by decide, by decide, by decide, rfl, fun w_ hb_ => copyScene_C (Kd.C_below H1.out (below_step HB.out hb_)) HL1.out (Kd.C_below H2.out (below_step HB.out hb_)) HL2.out HL.out.1 HL.out.2.1 HL.out.2.2, rfl, rfl, rfl⟩) ⟨rfl, rfl, rfl⟩ Try.func27 (by kernel_rfl) rfl (by have := HS1.out; omega) (fun r hr => by have := HS3.out r hr; omega) (fun w_ B cb_ v e1_ x8_ x13_ hb_ hR_ q1 q2 => (HIS.out w_ B cb_ v q1 q2).mono (fun en w' h => ⟨_, h.1, fun _ => rfl, h.2⟩)) (fun _ _ _ _ _ _ h _ => h) (fun w' hb => ⟨pw_cell_below hb hHeld.1, pw_cell_below hb hHeld.2.1, pw_cell_below hb hHeld.2.2.1, pw_cell_below hb hHeld.2.2.2.1, pw_cell_below hb hHeld.2.2.2.2.1, pw_cell_below hb hHeld.2.2.2.2.2.1, pw_cell_below hb hHeld.2.2.2.2.2.2⟩) (by simp only [put5, Act.put, List.setIfInBounds_toArray, List.set_cons_zero, List.set_cons_succ]; rfl) (fun h => by cases h) (fun h => by cases h) 1 3 rfl ?_ (fun h => by cases h)
        rintro x2 x3 v x13 w7 hb4 hR
        have hv := hR rfl
        subst hv
        refine norm_ (a' := ?_) ?_ ?_
        rotate_left
        · simp only [put5, Act.put, List.setIfInBounds_toArray, List.set_cons_zero, List.set_cons_succ]
          rfl
        refine pure_ (i := 5) (N := some 9) (v := ?_) (a' := ?_) #[true, true, true, true, true, true] rfl rfl (any_of HT_.out (by kernel_rfl)) (fun _ _ _ h => h) (Or.inl ⟨by rfl, ?_⟩) ?_ ?_
        rotate_left
        · intro w'
          go_simp
          with_reducible rfl
        rotate_left
        · simp only [Act.put, List.setIfInBounds_toArray, List.set_cons_zero, List.set_cons_succ, i64_w, i32_w]
          rfl
        refine done_ (done_of HT_.out (by kernel_rfl)) ?_
        have HB_ := Aside0.mk (below_step HB.out hb4)
        have HAT_ := Aside0.mk (And.intro (heap_keep HAT.out.1 hb4) (SceneV_below HAT.out.2 hb4))
        clear HB HAT hb4 hR hHeld HT_ HW_
        have HB := HB_
        have HAT := HAT_
        clear HB_ HAT_
        go_wp2_with fail
        obtain ⟨hcc16, _⟩ := bcell HB.out
        refine start_ (n := 11) (S := fun w' => w'.cell? ⟨w.heap.size, 0, none⟩ = some (.int .i64 a0) ∧ w'.cell? ⟨w.heap.size, 1, none⟩ = some (.int .i64 a1) ∧ w'.cell? ⟨w.heap.size, 2, none⟩ = some (.int .i64 a2) ∧ w'.cell? ⟨w.heap.size, 3, none⟩ = some (.slice A l.length c) ∧ w'.cell? ⟨w.heap.size + 1, 0, none⟩ = some (.int .i64 s) ∧ w'.cell? ⟨w.heap.size + 1, 1, none⟩ = some (.slice A1 at_.length c1) ∧ w'.cell? ⟨w.heap.size + 1, 2, none⟩ = some (.slice A2 tp.length c2)) (ds := [9]) #[false, false, false, false, false, false, false, false, false, false, false] (by kernel_rfl) rfl rfl ⟨(hcc16 _ 0 hz).trans k0, (hcc16 _ 1 hz).trans k1, (hcc16 _ 2 hz).trans k2, (hcc16 _ 3 hz).trans k3, (hcc16 _ 0 hz1).trans u0, (hcc16 _ 1 hz1).trans u1, (hcc16 _ 2 hz1).trans u2⟩ (fun hHeld => ?_); refine with_tabW regC16.tab regC16.bits (fun HT_ HW_ => ?_)
        clear hcc16
        have HDW := Aside0.mk (below_drew (Below.refl w7.heap.size w7))
        generalize w7.drew = X16 at HDW hHeld ⊢
        have HB_ := Aside0.mk (below_step HB.out HDW.out)
        have HAT_ := Aside0.mk (And.intro (heap_keep HAT.out.1 HDW.out) (SceneV_below HAT.out.2 HDW.out))
        clear HB HAT HDW
        have HB := HB_
        have HAT := HAT_
        clear HB_ HAT_
        refine take_ (i := 0) (N := some 52) (v := ?_) (a' := ?_) #[true, false, false, false, false, false, false, false, false, false, false] rfl rfl (take_ofW HT_.out HW_.out (by kernel_rfl)) (fun _ _ _ h => h) (Or.inl ⟨by rfl, ?_⟩) hHeld ?_ ?_
        rotate_left
        · rintro w' ⟨s0, s1, s2, s3, s4, s5, s6⟩
          go_simp
          with_reducible rfl
        rotate_left
        · simp only [Act.put, List.setIfInBounds_toArray, List.set_cons_zero, List.set_cons_succ, i64_w, i32_w]
          rfl
        refine take_ (i := 2) (N := some 54) (v := ?_) (a' := ?_) #[true, false, true, false, false, false, false, false, false, false, false] rfl rfl (take_ofW HT_.out HW_.out (by kernel_rfl)) (fun _ _ _ h => h) (Or.inl ⟨by rfl, ?_⟩) hHeld ?_ ?_
        rotate_left
        · rintro w' ⟨s0, s1, s2, s3, s4, s5, s6⟩
          go_simp
          with_reducible rfl
        rotate_left
        · simp only [Act.put, List.setIfInBounds_toArray, List.set_cons_zero, List.set_cons_succ, i64_w, i32_w]
          rfl
        refine join_ (σ := Value × Value × (Option Addr × Nat) × (Option Addr × Nat) × Nat) 2 #[true, true, true, true, true, true, true, true, true, false, false] (fun s_ => [(53, s_.1), (55, s_.2.1), (56, .tuple #[(scV q.1 s_.2.2.1 s_.2.2.2.1), .int .i64 q.2]), (10, .pointer (some ⟨s_.2.2.2.2, 0, none⟩)), (51, .tuple #[(scV q.1 s_.2.2.1 s_.2.2.2.1), .int .i64 q.2]), (57, (scV q.1 s_.2.2.1 s_.2.2.2.1)), (58, .int .i64 q.2)]) (fun s_ w' => Below X16.heap.size X16 w' ∧ w'.heap[s_.2.2.2.2]? = some (.cells #[.int .i64 0, .slice none 0 0, .slice none 0 0] 32 (0, 0)) ∧ X16.heap.size ≤ s_.2.2.2.2 ∧ Foot X16.heap.size (some s_.2.2.2.2) w' (scV q.1 s_.2.2.1 s_.2.2.2.1) q.1) ?_ ?_
        rotate_left
        · intro hCont
          refine law_invS (nt := 75) (bits := regC16.bits_) (i2 := 1) (i3 := 3) (i8 := 4) (i13 := 8) (s2 := 53) (s3 := 55) (s6 := 74) (s8 := 56) (s13 := 10) ⟨by decide, by decide, by decide, by decide, by decide, by decide, by decide, by decide, by decide, by decide, by decide, by decide, by decide⟩ (a0 := a0) (a1 := a1) (a2 := a2) (rs := l) (s := s) (at_ := at_) (tp := tp) (R := ScR X16 q.1 (fun v => .tuple #[v, .int .i64 q.2])) (b0 := false) (e0 := false) X16 (fun p b d e h1 h1p h2 h3 h4 => by rw [ready_eq, HT_.out]; exact regC16.steps p b d e h1 h1p h2 h3 h4) (o2 := _) (o3 := _) (o8 := _) (o13 := _) rfl rfl (fun _ => ⟨rfl, rfl, rfl, fun a_ w_ d_ x8_ x13_ hb_ hR_ => ⟨_, _, exec_alloc32 rfl, (Below.refl _ _).alloc (Nat.le_refl _) _, ScR_alloc hR_ hb_⟩⟩) (sM := 52) (sX := 54) (F := 29) _ rfl (A := A) (c := c) ⟨by decide, by decide, by decide, by decide, by decide, by decide, rfl, Kd.C_below HR.out HB.out, rfl, rfl, rfl⟩ (vc := .agg #[.int .i64 s, .slice A1 at_.length c1, .slice A2 tp.length c2]) (fun _ => ⟨rfl, by decide, by decide, by decide, by decide, by decide, by decide, rfl, fun w_ hb_ => copyScene_C (Kd.C_below H1.out (below_step HB.out hb_)) HL1.out (Kd.C_below H2.out (below_step HB.out hb_)) HL2.out HL.out.1 HL.out.2.1 HL.out.2.2, rfl, rfl, rfl⟩) ⟨rfl, rfl, rfl⟩ Try.func29 (by kernel_rfl) rfl (by have := HS1.out; omega) (fun r hr => by have := HS3.out r hr; omega) (fun w_ B cb_ v e1_ x8_ x13_ hb_ hR_ q1 q2 => (HSTEP.out w_ B cb_ v q1 q2).mono (fun en w' h => ScR_call hb_ hR_ h)) ScR_keep (fun w' hb => ⟨pw_cell_below hb hHeld.1, pw_cell_below hb hHeld.2.1, pw_cell_below hb hHeld.2.2.1, pw_cell_below hb hHeld.2.2.2.1, pw_cell_below hb hHeld.2.2.2.2.1, pw_cell_below hb hHeld.2.2.2.2.2.1, pw_cell_below hb hHeld.2.2.2.2.2.2⟩) (by simp only [put5, Act.put, List.setIfInBounds_toArray, List.set_cons_zero, List.set_cons_succ]; rfl) trivial (fun h => by cases h) 5 4 rfl ?_ (fun h => ?_)
          · skip
            rintro x2 x3 v x13 w8 hb4 ⟨⟨B1, d1⟩, ⟨B2, d2⟩, g, rfl, rfl, hg, hge, hsv⟩
            refine norm_ (a' := ?_) ?_ ?_
            rotate_left
            · simp only [put5, scV, Act.put, List.setIfInBounds_toArray, List.set_cons_zero, List.set_cons_succ]
              rfl
            refine pure_ (i := 5) (N := some 51) (v := ?_) (a' := ?_) #[true, true, true, true, true, true, false, false, true, false, false] rfl rfl (any_of HT_.out (by kernel_rfl)) (fun _ _ _ h => h) (Or.inl ⟨by rfl, ?_⟩) ?_ ?_
            rotate_left
            · intro w'
              go_simp
              with_reducible rfl
            rotate_left
            · simp only [Act.put, List.setIfInBounds_toArray, List.set_cons_zero, List.set_cons_succ, i64_w, i32_w]
              rfl
            refine pure_ (i := 6) (N := some 57) (v := ?_) (a' := ?_) #[true, true, true, true, true, true, true, false, true, false, false] rfl rfl (any_of HT_.out (by kernel_rfl)) (fun _ _ _ h => h) (Or.inl ⟨by rfl, ?_⟩) ?_ ?_
            rotate_left
            · intro w'
              go_simp
              with_reducible rfl
            rotate_left
            · simp only [Act.put, List.setIfInBounds_toArray, List.set_cons_zero, List.set_cons_succ, i64_w, i32_w]
              rfl
            refine pure_ (i := 7) (N := some 58) (v := ?_) (a' := ?_) #[true, true, true, true, true, true, true, true, true, false, false] rfl rfl (any_of HT_.out (by kernel_rfl)) (fun _ _ _ h => h) (Or.inl ⟨by rfl, ?_⟩) ?_ ?_
            rotate_left
            · intro w'
              go_simp
              with_reducible rfl
            rotate_left
            · simp only [Act.put, List.setIfInBounds_toArray, List.set_cons_zero, List.set_cons_succ, i64_w, i32_w]
              rfl
            exact norm_ (by simp only [putAll, Act.put, List.setIfInBounds_toArray, List.set_cons_zero, List.set_cons_succ]; rfl) (hCont (x2, x3, (B1, d1), (B2, d2), g) _ ⟨hb4, hg, hge, hsv⟩)
          · skip
            clear h
            rintro x2 x3 v x13 w8 hb4 ⟨⟨B1, d1⟩, ⟨B2, d2⟩, rfl, hsv⟩
            refine norm_ (a' := ?_) ?_ ?_
            rotate_left
            · simp only [put5, scV, Act.put, List.setIfInBounds_toArray, List.set_cons_zero, List.set_cons_succ]
              rfl
            refine pure_ (i := 5) (N := some 51) (v := ?_) (a' := ?_) #[true, true, true, true, true, true, false, false, false, false, false] rfl rfl (any_of HT_.out (by kernel_rfl)) (fun _ _ _ h => h) (Or.inl ⟨by rfl, ?_⟩) ?_ ?_
            rotate_left
            · intro w'
              go_simp
              with_reducible rfl
            rotate_left
            · simp only [Act.put, List.setIfInBounds_toArray, List.set_cons_zero, List.set_cons_succ, i64_w, i32_w]
              rfl
            refine pure_ (i := 6) (N := some 57) (v := ?_) (a' := ?_) #[true, true, true, true, true, true, true, false, false, false, false] rfl rfl (any_of HT_.out (by kernel_rfl)) (fun _ _ _ h => h) (Or.inl ⟨by rfl, ?_⟩) ?_ ?_
            rotate_left
            · intro w'
              go_simp
              with_reducible rfl
            rotate_left
            · simp only [Act.put, List.setIfInBounds_toArray, List.set_cons_zero, List.set_cons_succ, i64_w, i32_w]
              rfl
            refine pure_ (i := 7) (N := some 58) (v := ?_) (a' := ?_) #[true, true, true, true, true, true, true, true, false, false, false] rfl rfl (any_of HT_.out (by kernel_rfl)) (fun _ _ _ h => h) (Or.inl ⟨by rfl, ?_⟩) ?_ ?_
            rotate_left
            · intro w'
              go_simp
              with_reducible rfl
            rotate_left
            · simp only [Act.put, List.setIfInBounds_toArray, List.set_cons_zero, List.set_cons_succ, i64_w, i32_w]
              rfl
            refine one_ (i := 8) (N := some 10) #[true, true, true, true, true, true, true, true, true, false, false] rfl rfl (one_of HT_.out (by kernel_rfl)) (by decide) (fun K hK => ?_)
            refine event_step (by rfl) (exec_alloc32 rfl) ?_
            have hb5 : Below X16.heap.size X16 (w8.alloc (.cells #[.int .i64 0, .slice none 0 0, .slice none 0 0] 32)) := hb4.alloc hb4.size _
            refine hK.out _ _ ⟨pw_cell_below hb5 hHeld.1, pw_cell_below hb5 hHeld.2.1, pw_cell_below hb5 hHeld.2.2.1, pw_cell_below hb5 hHeld.2.2.2.1, pw_cell_below hb5 hHeld.2.2.2.2.1, pw_cell_below hb5 hHeld.2.2.2.2.2.1, pw_cell_below hb5 hHeld.2.2.2.2.2.2⟩ (fun hHeld2 => ?_)
            clear hK K
            exact norm_ (by simp only [putAll, Act.put, List.setIfInBounds_toArray, List.set_cons_zero, List.set_cons_succ]; rfl) (hCont (x2, x3, (B1, d1), (B2, d2), w8.heap.size) _ ⟨hb5, heap_alloc_new _ _, hb4.size, hsv.alloc _⟩)
        rintro ⟨x2, x3, ⟨B1, d1⟩, ⟨B2, d2⟩, gd⟩ w8 ⟨hb4, hg, hge, hsv⟩
        have HB4 := Aside0.mk hb4
        have HGE : Aside0 (X16.heap.size ≤ gd) := ⟨hge⟩
        have HGG := Aside0.mk hg
        have HSV := Aside0.mk hsv
        clear hb4 hg hge hsv
        refine norm_ (a' := ?_) ?_ ?_
        rotate_left
        · simp only [put5, putAll, scV, Act.put, List.setIfInBounds_toArray, List.set_cons_zero, List.set_cons_succ]
          rfl
        refine last_ (i := 9) (N := none) #[true, true, true, true, true, true, true, true, true, true, false] rfl rfl (one_of HT_.out (by kernel_rfl)) (by decide) (fun K hK => ?_)
        obtain ⟨y0, y1, y2⟩ := trio_cells HGG.out
        have z0 := run_frozen HGG.out 0
        have z1 := run_frozen HGG.out 1
        have z2 := run_frozen HGG.out 2
        refine skip_ (w1 := ?_) (by rfl) rfl ?_ ?_
        rotate_left
        · go_simp
          rfl
        refine hK.out _ _ ?_
        clear hK K
        clear y0 y1 y2 z0 z1 z2
        refine pure_ (i := 10) (N := some 11) (v := ?_) (a' := ?_) #[true, true, true, true, true, true, true, true, true, true, true] rfl rfl (any_of HT_.out (by kernel_rfl)) (fun _ _ _ h => h) (Or.inl ⟨by rfl, ?_⟩) ?_ ?_
        rotate_left
        · intro w'
          go_simp
          with_reducible rfl
        rotate_left
        · simp only [Act.put, List.setIfInBounds_toArray, List.set_cons_zero, List.set_cons_succ, i64_w, i32_w]
          rfl
        refine done_ (done_of HT_.out (by kernel_rfl)) ?_
        obtain ⟨V9, hV9⟩ : ∃ V, ((w8.setCell ⟨gd, 0, none⟩ (.int .i64 q.1.s)).setCell ⟨gd, 1, none⟩ (.slice B1 q.1.at_.length d1)).setCell ⟨gd, 2, none⟩ (.slice B2 q.1.tp.length d2) = V := ⟨_, rfl⟩
        have HBV : Aside0 (Below X16.heap.size X16 V9) := ⟨by rw [← hV9]; exact ((HB4.out.setCell (p := ⟨gd, 0, none⟩) HGE.out _).setCell (p := ⟨gd, 1, none⟩) HGE.out _).setCell (p := ⟨gd, 2, none⟩) HGE.out _⟩
        have HGV : Aside0 (V9.heap[gd]? = some (.cells #[.int .i64 q.1.s, .slice B1 q.1.at_.length d1, .slice B2 q.1.tp.length d2] 32 (0, 0))) := ⟨by rw [← hV9]; exact set3s HGG.out _ _ _⟩
        have HFV : Aside0 (SceneV V9 (.agg #[.int .i64 q.1.s, .slice B1 q.1.at_.length d1, .slice B2 q.1.tp.length d2]) q.1.s q.1.at_ q.1.tp) := ⟨by rw [← hV9]; exact (HSV.out.set (grown3 w8 gd _ _ _) (.inr rfl)).now⟩
        rw [hV9]
        clear HB4 HGG HSV hV9 hHeld HT_ HW_
        have HB_ := Aside0.mk (below_step HB.out HBV.out)
        have HAT_ := Aside0.mk (And.intro (heap_keep HAT.out.1 HBV.out) (SceneV_below HAT.out.2 HBV.out))
        clear HB HAT HBV HGE
        have HB := HB_
        have HAT := HAT_
        clear HB_ HAT_
        obtain ⟨n0, n1, n2⟩ := trio_cells HGV.out
        obtain ⟨v0, v1, v2⟩ := trio_cells HAT.out.1
        have HSAME := Aside0.mk (same_C HFV.out HAT.out.2)
        have e1b : (bf == bf) = true := by simp
        have e2b : (q.2 == q.2) = true := by simp
        go_wp2_with (first
          | (go_at_call 22; refine HSAME.out.mono ?_; rintro e w10 ⟨rfl, hb⟩; have n9 := Aside0.mk (below_step HB.out hb); clear HB hb; have HB := n9; clear n9)
          | (go_at_call 10; refine (awake_walk _).mono ?_; rintro e w11 ⟨rfl, hb⟩; have n9 := Aside0.mk (below_step HB.out hb); clear HB hb; have HB := n9; clear n9))
        go_ret
        exact ⟨rfl, below_step HB0.out HB.out⟩
end Go.Proofs.Ytfoodfhhdbaieaa.Giv
