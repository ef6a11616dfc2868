-- CUT by a program of this session: what the claim does not use is left out
import Derived.Test.YtfoodfhhdbaieaaDoorT10
namespace Go.Proofs.YtfoodfhhdbaieaaDoor.Giv
set_option maxRecDepth 100000
set_option linter.unusedSimpArgs false
set_option linter.unusedVariables false
open Go.RowKit Go.Proofs.YtfoodfhhdbaieaaDoorW.PrintWords Go.Proofs.YtfoodfhhdbaieaaDoorW.PrintLast Go.Proofs.YtfoodfhhdbaieaaDoorW.PrintMore
open Go.Proofs.YtfoodfhhdbaieaaDoor.Ka (S40 k40 z40 rd_T40 at_T40 k40_open k40_mk rd_L1 at_L1 info3 info38 info40)

attribute [local go_sem] max2_int max_two
def setPad (l : List Int) (p x : Int) : List Int := (l ++ List.replicate (p.toNat + 1 - l.length) 0).set p.toNat x
def stepP (p m : Int) : Int := if 0 < p + m then p + m else 0
def stepTo (r : S40) (a : List Int) (t : List (List Int)) : Nat → List Int × List (List Int)
 | 0 => (a, t)
 | n + 1 => ((stepTo r a t n).1.set n (stepP (rd (stepTo r a t n).1 n) (rd r.f4 n)), (stepTo r a t n).2.set n (setPad (rd_L1 (stepTo r a t n).2 n) (rd (stepTo r a t n).1 n) (rd r.f3 n)))
theorem rd_set_ne {l : List Int} {n j : Nat} {x : Int} (h : n ≠ j) : rd (l.set n x) j = rd l j := by
 simp [rd, List.getD_eq_getElem?_getD, List.getElem?_set_ne h]
theorem rdL_set_ne {l : List (List Int)} {n j : Nat} {x : List Int} (h : n ≠ j) : rd_L1 (l.set n x) j = rd_L1 l j := by
 simp [rd_L1, List.getD_eq_getElem?_getD, List.getElem?_set_ne h]
theorem stepTo_keeps (r : S40) (a : List Int) (t : List (List Int)) : ∀ n, (stepTo r a t n).1.length = a.length ∧ (stepTo r a t n).2.length = t.length ∧ ∀ j : Nat, n ≤ j → rd (stepTo r a t n).1 j = rd a j ∧ rd_L1 (stepTo r a t n).2 j = rd_L1 t j
 | 0 => ⟨rfl, rfl, fun _ _ => ⟨rfl, rfl⟩⟩
 | n + 1 => by
  obtain ⟨h1, h2, h3⟩ := stepTo_keeps r a t n
  refine ⟨by simp [stepTo, h1], by simp [stepTo, h2], fun j hj => ?_⟩
  obtain ⟨h4, h5⟩ := h3 j (by omega)
  exact ⟨(rd_set_ne (by omega)).trans h4, (rdL_set_ne (by omega)).trans h5⟩
theorem at_row {w : World} {base g n c : Nat} {l : List Int} (h : w.ownsRow base 3 1 (.slice (some ⟨g, 0, none⟩) n c) n (l.map (Value.int .i64))) {i : Int} (h0 : 0 ≤ i) (h1 : i < n) : w.cell? ⟨g, i.toNat, none⟩ = some (.int .i64 (rd l i)) ∧ w.frozen? ⟨g, i.toNat, none⟩ = false := by
 refine ⟨?_, h.frozenAt _⟩
 have hl : l.length = n := by have := h.1; simpa using this
 rw [h.cellAt i.toNat (by omega), List.getElem?_map, List.getElem?_eq_getElem (show i.toNat < l.length by omega)]
 simp [rd, List.getD_eq_getElem?_getD, List.getElem?_eq_getElem (show i.toNat < l.length by omega)]
theorem set_same {α : Type} {l : List α} {i : Nat} {x : α} (h : l[i]? = some x) : l.set i x = l := by
 obtain ⟨hi, rfl⟩ := List.getElem?_eq_some_iff.1 h
 exact List.set_getElem_self hi
theorem slice_form {w : World} {base n c e : Nat} {A : Option Addr} {xs : List Value} (h : w.ownsRow base e 1 (.slice A n c) n xs) (hn : 0 < n) : ∃ g, A = some ⟨g, 0, none⟩ ∧ base ≤ g := by
 rcases h.2 with ⟨h, h0⟩ | ⟨g, cap, cur, h, hb, _⟩
 ·omega
 ·injection h with h1 h2 h3
  exact ⟨g, h1, hb⟩
theorem run_cells4 {w : World} {k : Nat} {a b c d : Value} {t : TypeId} (h : w.heap[k]? = some (.cells #[a, b, c, d] t (0, 0))) : w.cell? ⟨k, 0, none⟩ = some a ∧ w.cell? ⟨k, 1, none⟩ = some b ∧ w.cell? ⟨k, 2, none⟩ = some c ∧ w.cell? ⟨k, 3, none⟩ = some d := by
 simp [World.cell?, h]
theorem run_frozen {w : World} {k : Nat} {a : Array Value} {t : TypeId} (h : w.heap[k]? = some (.cells a t (0, 0))) (j : Nat) : w.frozen? ⟨k, j, none⟩ = false := by simp [World.frozen?, h]
def StepOut (w0 w : World) (br bm : Nat) (v1 v2 : Value) (F : Option S40) (at_ : List Int) (tp : List (List Int)) (L : List (Value × Value)) (e : Ending) (w' : World) : Prop :=
 match F with
 | none => e = .returned (.bool false) ∧ Below w.heap.size w w'
 | some r => e = .returned (.bool true) ∧ Below w0.heap.size w0 w' ∧ ∃ vs', RunAt w' w0.heap.size br bm r.f2 v1 (stepTo r at_ tp at_.length).1 v2 vs' vs' (stepTo r at_ tp at_.length).2 L
def reg54.T : Bool × List (List Nat × List Nat) := (true, [([], []), ([0], [0]), ([1], [1]), ([2], [2]), ([], []), ([], []), ([], []), ([6], [6]), ([], []), ([7, 8], [7, 8]), ([9], [9]), ([5, 10], [5, 10]), ([11], [11]), ([3, 4, 0, 1, 2, 3, 4, 5, 6, 7, 8, 9, 10, 11, 12], [3, 4]), ([13, 12, 0, 1, 2, 3, 4, 5, 6, 7, 8, 9, 10, 11, 12], [12, 13])])
def reg54.B : List Nat := [0, 1, 3, 7, 0, 0, 0, 64, 0, 448, 960, 2016, 4064, 8191, 16383]
theorem reg54.tab : rtab .any (opsOf Tryd.f48 14) = reg54.T := by kernel_rfl
theorem reg54.bits : waitsOk reg54.T.2 reg54.B = true := by kernel_rfl
set_option maxHeartbeats 4000000 in
set_option maxRecDepth 100000 in
theorem step_walk (w0 w : World) (br bm : Nat) (s : Int) (v1 v2 : Value) (at_ : List Int) (vs : List Value) (tp : List (List Int)) (L : List (Value × Value)) (rs : List S40) (H : RunAt w w0.heap.size br bm s v1 at_ v2 vs vs tp L) (hB : Below w0.heap.size w0 w)
  (hK : AreKeys L) (hR : RulesAt w0 rs L) (hn : (keysL rs).Nodup) (hs : Small (keyL s (readL at_ tp))) (hl : at_.length = tp.length) (h1 : 1 ≤ at_.length) (h3 : at_.length ≤ 3) (h0 : ∀ i : Nat, 0 ≤ rd at_ i ∧ rd at_ i ≤ 100000) (hT : ∀ i : Nat, (rd_L1 tp i).length ≤ 200000)
  (hrs : ∀ r ∈ rs, r.f3.length = at_.length ∧ r.f4.length = at_.length ∧ ∀ i : Nat, -1 ≤ rd r.f4 i ∧ rd r.f4 i ≤ 1) (F : Option S40) (HF : Aside0 (findR rs s (readL at_ tp) = F)) :
  Calls Tryd.prog 48 #[.pointer (some ⟨br, 0, none⟩)] w (StepOut w0 w br bm v1 v2 F at_ tp L) := by
 obtain ⟨A1, c1, e1, hlc1, hC1⟩ := own_C H.row1
 obtain ⟨A2, c2, e2, hlc2, hC2⟩ := own_C2 H.row2 (H.len2.trans H.len1) H.inner
 subst e1; subst e2
 obtain ⟨g1, e1, hg1⟩ := slice_form H.row1 (by omega)
 obtain ⟨g2, e2, hg2⟩ := slice_form (n := vs.length) (by have := H.row2; rw [H.len2, H.len1] at this ⊢; exact this) (by rw [H.len2, H.len1]; omega)
 subst e1; subst e2
 have HRU := Aside0.mk (rule_walk w br bm s _ c1 at_ _ c2 tp L rs H.cells hC1 hC2 H.map hK w0 hR hn hs hl h3 (fun i => (h0 i).1) F HF)
 have HH := Aside0.mk H
 have HB := Aside0.mk hB
 have HL := Aside0.mk hl
 have H1 := Aside0.mk h1
 have H3 := Aside0.mk h3
 have H0 := Aside0.mk h0
 have HT := Aside0.mk hT
 have HRS : Aside0 (∀ r, F = some r → r.f3.length = at_.length ∧ r.f4.length = at_.length ∧ ∀ i : Nat, -1 ≤ rd r.f4 i ∧ rd r.f4 i ≤ 1) := ⟨fun r h => hrs r (List.mem_of_find?_eq_some (HF.out.trans h))⟩
 have HG1 := Aside0.mk hg1
 have HG2 := Aside0.mk hg2
 have hz : br < w.heap.size := (Array.getElem?_eq_some_iff.1 H.cells).1
 obtain ⟨m0, m1, m2, m3⟩ := run_cells4 H.cells
 have mf0 := run_frozen H.cells 0
 clear H hB hK hR hn hs hl h1 h3 h0 hT hrs hC1 hC2 hlc1 hlc2 HF hg1 hg2
 cases F with
 | none =>
  go_enter Tryd.func48, Tryd.ntmps48
  go_wp2_with (go_at_call 34; refine HRU.out.mono ?_; rintro e w1 ⟨v, rfl, hv, _, hb⟩; obtain rfl := hv rfl; have HB1 := Aside0.mk hb; clear hb)
  go_ret
  exact ⟨rfl, HB1.out.alloc HB1.out.size _⟩
 | some r =>
  obtain ⟨l3, l4, hm4⟩ := HRS.out r rfl
  have HM4 := Aside0.mk hm4
  have HL3 := Aside0.mk l3
  have HL4 := Aside0.mk l4
  clear hm4 l3 l4
  go_enter Tryd.func48, Tryd.ntmps48
  go_wp2_with (go_at_call 34; refine HRU.out.mono ?_; rintro e w1 ⟨v, rfl, _, hv, hb⟩; obtain ⟨B1, e1, B3, e3, B4, e4, rfl, g3, g4⟩ := hv r rfl; have HG3 := Aside0.mk g3; have HG4 := Aside0.mk g4; clear g3 g4 hv; obtain ⟨hcc, hff⟩ := bcell hb; have HB1 := Aside0.mk hb; have hz1 : br < w1.heap.size := (by have := hb.size; omega); clear hb)
  have HA0 : Aside0 (RunAt ((w1.setCell ⟨br, 0, none⟩ (.int .i64 r.f2)).alloc (Obj.cells #[.int .i64 r.f0, .slice B1 r.f1.length e1, .int .i64 r.f2, .slice B3 r.f3.length e3, .slice B4 r.f4.length e4] 40)) w0.heap.size br bm r.f2 (.slice (some ⟨g1, 0, none⟩) at_.length c1) at_ (.slice (some ⟨g2, 0, none⟩) tp.length c2) vs vs tp L) := ⟨((HH.out.below HB1.out).setState r.f2).alloc _⟩
  have HZ1 := Aside0.mk hz1
  have HBR : Aside0 (w0.heap.size ≤ br) := ⟨HH.out.hbr⟩
  have HZ0 : Aside0 (w0.heap.size ≤ w.heap.size) := ⟨HB.out.size⟩
  obtain ⟨gx, hgx⟩ : ∃ gx, w1.heap.size = gx := ⟨_, rfl⟩
  go_loopg [29] at_.length (fun gg s29 wr => ∃ i : Int, s29 = .int .i64 i ∧ Aside0 (0 ≤ i) ∧ Aside0 ((at_.length : Int) - i = gg) ∧ Aside0 (Below w0.heap.size w0 wr) ∧ Aside0 (∃ vs', RunAt wr w0.heap.size br bm r.f2 (.slice (some ⟨g1, 0, none⟩) at_.length c1) (stepTo r at_ tp i.toNat).1 (.slice (some ⟨g2, 0, none⟩) tp.length c2) vs' vs' (stepTo r at_ tp i.toNat).2 L) ∧ Aside0 (wr.heap[w1.heap.size]? = some (.cells #[.int .i64 r.f0, .slice B1 r.f1.length e1, .int .i64 r.f2, .slice B3 r.f3.length e3, .slice B4 r.f4.length e4] 40 (0, 0))))
  case atStart =>
   refine ⟨0, rfl, ⟨by omega⟩, ⟨by omega⟩, ⟨?_⟩, ⟨vs, HA0.out⟩, ⟨?_⟩⟩
   ·exact (((HB.out.trans (HB1.out.mono HZ0.out))).setCell (p := ⟨br, 0, none⟩) HBR.out _).alloc (by have := HB1.out.size; have := HZ0.out; simp; omega) _
   ·have := heap_alloc_new (w1.setCell ⟨br, 0, none⟩ (.int .i64 r.f2)) (Obj.cells #[.int .i64 r.f0, .slice B1 r.f1.length e1, .int .i64 r.f2, .slice B3 r.f3.length e3, .slice B4 r.f4.length e4] 40)
    simpa using this
  case round =>
   obtain ⟨i, rfl, HI, HG, HBW, HRN, HBX⟩ := hrel
   rw [hgx] at HBX ⊢
   have HGX := Aside0.mk hgx
   clear hgx hcc hff hz1
   obtain ⟨vs', hR⟩ := HRN.out
   have hi := HI.out
   by_cases cl : i < (at_.length : Int)
   ·have clb : decide (i < (at_.length : Int)) = true := decide_eq_true cl
    obtain ⟨k1, k2, k3⟩ := stepTo_keeps r at_ tp i.toNat
    obtain ⟨k4, k5⟩ := k3 i.toNat (Nat.le_refl _)
    rw [show ((i.toNat : Nat) : Int) = i by omega] at k4 k5
    have HE : Aside0 (stepTo r at_ tp (i.toNat + 1) = ((stepTo r at_ tp i.toNat).1.set i.toNat (stepP (rd (stepTo r at_ tp i.toNat).1 i) (rd r.f4 i)), (stepTo r at_ tp i.toNat).2.set i.toNat (setPad (rd_L1 (stepTo r at_ tp i.toNat).2 i) (rd (stepTo r at_ tp i.toNat).1 i) (rd r.f3 i)))) := ⟨by
     have : ((i.toNat : Nat) : Int) = i := by omega
     simp only [stepTo, this]⟩
    have b0 := H0.out i.toNat
    have b1 := HT.out i.toNat
    have b2 := HM4.out i.toNat
    rw [show ((i.toNat : Nat) : Int) = i by omega] at b0 b1 b2
    rw [← k4] at b0
    rw [← k5] at b1
    generalize stepTo r at_ tp i.toNat = st at hR HE k1 k2 b0 b1
    obtain ⟨a, t⟩ := st
    simp only at hR HE k1 k2 b0 b1
    clear k3 k4 k5 HRN
    obtain ⟨p, hp⟩ : ∃ p, rd a i = p := ⟨_, rfl⟩
    obtain ⟨l, hl⟩ : ∃ l, rd_L1 t i = l := ⟨_, rfl⟩
    rw [hp] at HE b0
    rw [hl] at HE b1
    obtain ⟨m0, m1, m2, m3⟩ := run_cells4 hR.cells
    obtain ⟨y1, y2⟩ := at_row (n := at_.length) (by have := hR.row1; rw [k1] at this; exact this) hi cl
    rw [hp] at y1
    have cl2 : i.toNat < vs'.length := by have := HL.out; rw [hR.len2, hR.len1, k2]; omega
    have hu : vs'[i.toNat]? = some (vs'[i.toNat]'cl2) := List.getElem?_eq_getElem cl2
    have htl : t[i.toNat]? = some l := by rw [← hl]; unfold rd_L1; rw [List.getD_eq_getElem?_getD, List.getElem?_eq_getElem (by have := HL.out; omega)]; rfl
    obtain ⟨B, cu, eu, hlu, hCu⟩ := own_C (hR.inner i.toNat _ l hu htl)
    rw [eu] at hu
    have x1 : wr.cell? ⟨g2, i.toNat, none⟩ = some (.slice B l.length cu) := by
     have h2 := hR.row2
     rw [hR.len2, hR.len1, k2] at h2
     rw [h2.cellAt i.toNat (by have := HL.out; omega)]; exact hu
    have p1 := eq_true hi
    have q1 := eq_true cl
    have q2 : (i < (tp.length : Int)) = True := eq_true (by have := HL.out; omega)
    have HU := Aside0.mk hu
    have HTL := Aside0.mk htl
    have HR1 := Aside0.mk hR
    have HB0 := Aside0.mk b0
    have HB1' := Aside0.mk b1
    have HB2 := Aside0.mk b2
    have HK1 := Aside0.mk k1
    have HK2 := Aside0.mk k2
    have HP := Aside0.mk hp
    clear hR hu htl eu hCu hlu cl2 b0 b1 b2 hi cl k1 k2 hp hl
    go_wp2
    rename World => wo
    go_loopg [8] (p.toNat + 1) (fun gg s8 w2 => ∃ (B' : Option Addr) (cu' : Nat) (l' : List Int), s8 = .slice B' l'.length cu' ∧ Aside0 (p + 1 - l'.length ≤ gg) ∧ Aside0 (l'.length ≤ 300000) ∧ Aside0 (l' ++ List.replicate (p.toNat + 1 - l'.length) 0 = l ++ List.replicate (p.toNat + 1 - l.length) 0) ∧ Aside0 (Below w0.heap.size w0 w2) ∧ Aside0 (RunAt w2 w0.heap.size br bm r.f2 (.slice (some ⟨g1, 0, none⟩) at_.length c1) a (.slice (some ⟨g2, 0, none⟩) tp.length c2) vs' (vs'.set i.toNat (.slice B' l'.length cu')) (t.set i.toNat l') L) ∧ Aside0 (w2.heap[gx]? = some (.cells #[.int .i64 r.f0, .slice B1 r.f1.length e1, .int .i64 r.f2, .slice B3 r.f3.length e3, .slice B4 r.f4.length e4] 40 (0, 0))))
    case atStart =>
     refine ⟨B, cu, l, rfl, ⟨by have := HB0.out; omega⟩, ⟨by have := HB1'.out; omega⟩, ⟨rfl⟩, HBW, ⟨?_⟩, HBX⟩
     rw [set_same HU.out, set_same HTL.out]
     exact HR1.out
    case round =>
     rename World => w2
     clear y1 y2 x1 m0 m1 m2 m3
     obtain ⟨B', cu', l', rfl, HM, HLE, HPD, HBW2, HR2, HBX2⟩ := hrel
     by_cases cp : (l'.length : Int) ≤ p
     ·have cpb : decide ((l'.length : Int) ≤ p) = true := decide_eq_true cp
      have HCP := Aside0.mk cp
      have iu : i.toNat < vs'.length := (List.getElem?_eq_some_iff.1 HU.out).1
      have it : i.toNat < t.length := (List.getElem?_eq_some_iff.1 HTL.out).1
      have HIN : Aside0 (w2.ownsRow w0.heap.size 3 1 (.slice B' l'.length cu') l'.length (l'.map (Value.int .i64))) := ⟨HR2.out.inner i.toNat _ _ (by rw [List.getElem?_set_self iu]) (by rw [List.getElem?_set_self it])⟩
      have HIU := Aside0.mk iu
      have HIT := Aside0.mk it
      have HW2 : Aside0 (w0.heap.size ≤ w2.heap.size) := ⟨HBW2.out.size⟩
      clear cp iu it
      go_wp2_with ((with_reducible refine gate_dst (N := 47) rfl ?_); go_must (refine wpList_append_one w0.heap.size rfl (.tmp 45) (.tmp 46) 38 3 (.int .i64 0) 8 rfl Tryd.underlying38 info3 rfl (by decide) _ l'.length _ _ rfl rfl rfl HIN.out ?hb ?hbase ?_; (case hb => have := HLE.out; omega); (case hbase => exact HW2.out); intro v1 w3 ho1 hgr hat1; have ho2 : w3.ownsRow w0.heap.size 3 1 v1 (l' ++ [0]).length ((l' ++ [0]).map (Value.int .i64)) := (by rw [List.length_append, List.map_append]; exact ho1); obtain ⟨C3, cc3, rfl, _, _⟩ := own_C ho2; have HO2 := Aside0.mk ho2; have HGR := Aside0.mk hgr; have HAT := Aside0.mk hat1; clear ho1 ho2 hgr hat1))
      go_roundg (p - l'.length).toNat
      case measure => have := HM.out; have := HCP.out; omega
      case rel =>
       have hcp := HCP.out
       refine ⟨C3, cc3, l' ++ [0], by simp, ⟨by simp; omega⟩, ⟨by have := HB0.out; simp; omega⟩, ⟨?_⟩, ⟨HBW2.out.grown HGR.out HW2.out (fun k hk => own_base HIN.out k hk)⟩, ⟨?_⟩, ⟨?_⟩⟩
       ·rw [← HPD.out, List.append_assoc]
        congr 1
        rw [show p.toNat + 1 - l'.length = (p.toNat + 1 - (l' ++ [0]).length) + 1 by simp; omega, List.replicate_succ]
        rfl
       ·have := HR2.out.setTape (u := .slice B' l'.length cu') (l := l') (by rw [List.getElem?_set_self HIU.out]) (by rw [List.getElem?_set_self HIT.out]) HGR.out HAT.out HO2.out
        rw [List.set_set, List.set_set] at this
        exact this
       ·refine (HGR.out.block gx (Array.getElem?_eq_some_iff.1 HBX2.out).1 (fun e => ?_)).trans HBX2.out
        obtain ⟨c', hc'⟩ := own_typed HIN.out gx e.symm
        exact ne_of_typed HBX2.out hc' (by decide) rfl
     ·have cpb : decide ((l'.length : Int) ≤ p) = false := decide_eq_false cp
      have hpl : p.toNat < l'.length := by have := HB0.out; omega
      have hi := HI.out
      have hia : i < (at_.length : Int) := of_eq_true q1
      obtain ⟨ad3, e3', hx3⟩ := Kd.at_int (Kd.C_below HG3.out HBW2.out) i hi (by rw [HL3.out]; exact hia)
      obtain ⟨ad4, e4', hx4⟩ := Kd.at_int (Kd.C_below HG4.out HBW2.out) i hi (by rw [HL4.out]; exact hia)
      subst e3'; subst e4'
      have iu : i.toNat < vs'.length := (List.getElem?_eq_some_iff.1 HU.out).1
      have it : i.toNat < t.length := (List.getElem?_eq_some_iff.1 HTL.out).1
      have hin := HR2.out.inner i.toNat _ _ (by rw [List.getElem?_set_self iu]) (by rw [List.getElem?_set_self it])
      obtain ⟨g, eB, hgb⟩ := slice_form hin (by omega)
      subst eB
      obtain ⟨y1, y2⟩ := at_row hin (i := p) HB0.out.1 (by omega)
      obtain ⟨z0, z1, z2, z3, z4⟩ := cells5 HBX2.out
      have q3 : (i < (r.f3.length : Int)) = True := eq_true (by rw [HL3.out]; exact hia)
      have q4 : (i < (r.f4.length : Int)) = True := eq_true (by rw [HL4.out]; exact hia)
      have q5 : (p < (l'.length : Int)) = True := eq_true (by omega)
      have p5 : (0 ≤ p) = True := eq_true HB0.out.1
      obtain ⟨hst1, hgr1⟩ := hin.stored p.toNat (.int .i64 (rd r.f3 i))
      have HST1 : Aside0 ((w2.setCell ⟨g, p.toNat, none⟩ (.int .i64 (rd r.f3 i))).ownsRow w0.heap.size 3 1 (.slice (some ⟨g, 0, none⟩) l'.length cu') (l'.set p.toNat (rd r.f3 i)).length ((l'.set p.toNat (rd r.f3 i)).map (Value.int .i64))) := ⟨by rw [List.length_set, List.map_set]; exact hst1⟩
      have HRX : Aside0 (RunAt (w2.setCell ⟨g, p.toNat, none⟩ (.int .i64 (rd r.f3 i))) w0.heap.size br bm r.f2 (.slice (some ⟨g1, 0, none⟩) at_.length c1) a (.slice (some ⟨g2, 0, none⟩) tp.length c2) vs' (vs'.set i.toNat (.slice (some ⟨g, 0, none⟩) l'.length cu')) (t.set i.toNat (l'.set p.toNat (rd r.f3 i))) L) := ⟨by
       have := HR2.out.setTape (by rw [List.getElem?_set_self iu]) (by rw [List.getElem?_set_self it]) hgr1 (.inl rfl) HST1.out
       rw [List.set_set, List.set_set] at this
       exact this⟩
      have HBW3 : Aside0 (Below w0.heap.size w0 (w2.setCell ⟨g, p.toNat, none⟩ (.int .i64 (rd r.f3 i)))) := ⟨HBW2.out.setCell (p := ⟨g, p.toNat, none⟩) hgb _⟩
      have HBX3 : Aside0 ((w2.setCell ⟨g, p.toNat, none⟩ (.int .i64 (rd r.f3 i))).heap[gx]? = some (.cells #[.int .i64 r.f0, .slice B1 r.f1.length e1, .int .i64 r.f2, .slice (some ad3) r.f3.length e3, .slice (some ad4) r.f4.length e4] 40 (0, 0))) := ⟨(hgr1.block gx (Array.getElem?_eq_some_iff.1 HBX2.out).1 (fun e => by
       obtain ⟨c', hc'⟩ := own_typed hin gx (by simpa [Value.ownBlock] using e.symm)
       exact ne_of_typed HBX2.out hc' (by decide) rfl)).trans HBX2.out⟩
      have HIU := Aside0.mk iu
      have HIT := Aside0.mk it
      have HPL := Aside0.mk hpl
      have HGB := Aside0.mk hgb
      clear hin hst1 hgr1 iu it hpl hgb hi hia
      have HVL : Aside0 (vs'.length = tp.length) := ⟨by rw [HR1.out.len2, HR1.out.len1, HK2.out]⟩
      go_wp2_with (first
       | ((with_reducible refine gate_store (p := 55) rfl ?_); go_must (refine store_event (w1 := ?_) rfl rfl rfl ?_ ?_; rotate_left; (go_simp; rfl); intro w3 hw3; rw [← hw3] at HRX HBW3 HBX3; clear hw3 y1 y2 z0 z1 z2 z3 z4 hx3 hx4; obtain ⟨m0, m1, m2, m3⟩ := run_cells4 HRX.out.cells; have h2 := HRX.out.row2; rw [HVL.out] at h2; obtain ⟨hst2, hgr2⟩ := h2.stored i.toNat (.slice (some ⟨g, 0, none⟩) l'.length cu'); have x2 := h2.frozenAt i.toNat; have x1 := (h2.cellAt i.toNat (by rw [← HVL.out]; have := HIU.out; omega)).trans HU.out; have HST2 := Aside0.mk hst2; have HGR2 := Aside0.mk hgr2; clear h2 hst2 hgr2))
       | ((with_reducible refine gate_store (p := 62) rfl ?_); go_must (refine store_event (w1 := ?_) rfl rfl rfl ?_ ?_; rotate_left; (go_simp; rfl); intro w5 hw5; rw [← hw5] at HST2 HGR2; clear hw5 x1 x2 m0 m1 m2 m3)))
      have HR5 : Aside0 (RunAt w5 w0.heap.size br bm r.f2 (.slice (some ⟨g1, 0, none⟩) at_.length c1) a (.slice (some ⟨g2, 0, none⟩) tp.length c2) (vs'.set i.toNat (.slice (some ⟨g, 0, none⟩) l'.length cu')) (vs'.set i.toNat (.slice (some ⟨g, 0, none⟩) l'.length cu')) (t.set i.toNat (l'.set p.toNat (rd r.f3 i))) L) := ⟨HRX.out.setOuter (g := g2) rfl HGR2.out rfl (by rw [List.length_set, HVL.out]; exact HST2.out)⟩
      have HBW5 : Aside0 (Below w0.heap.size w0 w5) := ⟨HBW3.out.grown HGR2.out HBW3.out.size (fun k hk => by injection hk with hk; have := HG2.out; omega)⟩
      have HBX5 : Aside0 (w5.heap[gx]? = some (.cells #[.int .i64 r.f0, .slice B1 r.f1.length e1, .int .i64 r.f2, .slice (some ad3) r.f3.length e3, .slice (some ad4) r.f4.length e4] 40 (0, 0))) := ⟨(HGR2.out.block gx (Array.getElem?_eq_some_iff.1 HBX3.out).1 (fun e => by
       injection e with e
       obtain ⟨c', hc'⟩ := own_typed HRX.out.row2 g2 rfl
       exact ne_of_typed HBX3.out hc' (by decide) e)).trans HBX3.out⟩
      have hr1 := HR5.out.row1
      rw [HK1.out] at hr1
      obtain ⟨k4, k5⟩ := at_row hr1 HI.out (of_eq_true q1)
      rw [HP.out] at k4
      obtain ⟨_, k1, _, _⟩ := run_cells4 HR5.out.cells
      obtain ⟨_, _, _, _, k2⟩ := cells5 HBX5.out
      have k3 : w5.cell? (ad4.add i.toNat) = some (.int .i64 (rd r.f4 i)) := by
       obtain ⟨ad, e, hx⟩ := Kd.at_int (Kd.C_below HG4.out HBW5.out) i HI.out (by rw [HL4.out]; exact of_eq_true q1)
       cases e
       exact hx
      obtain ⟨hst1, hgr1⟩ := hr1.stored i.toNat (.int .i64 (stepP p (rd r.f4 i)))
      have HSTA : Aside0 ((w5.setCell ⟨g1, i.toNat, none⟩ (.int .i64 (stepP p (rd r.f4 i)))).ownsRow w0.heap.size 3 1 (.slice (some ⟨g1, 0, none⟩) at_.length c1) (a.set i.toNat (stepP p (rd r.f4 i))).length ((a.set i.toNat (stepP p (rd r.f4 i))).map (Value.int .i64))) := ⟨by rw [List.length_set, List.map_set, HK1.out]; exact hst1⟩
      have HR7 := Aside0.mk (HR5.out.setAt (g := g1) rfl hgr1 HSTA.out)
      have HBW7 : Aside0 (Below w0.heap.size w0 (w5.setCell ⟨g1, i.toNat, none⟩ (.int .i64 (stepP p (rd r.f4 i))))) := ⟨HBW5.out.setCell (p := ⟨g1, i.toNat, none⟩) HG1.out _⟩
      have HBX7 : Aside0 ((w5.setCell ⟨g1, i.toNat, none⟩ (.int .i64 (stepP p (rd r.f4 i)))).heap[gx]? = some (.cells #[.int .i64 r.f0, .slice B1 r.f1.length e1, .int .i64 r.f2, .slice (some ad3) r.f3.length e3, .slice (some ad4) r.f4.length e4] 40 (0, 0))) := ⟨(hgr1.block gx (Array.getElem?_eq_some_iff.1 HBX5.out).1 (fun e => by
       injection e with e
       obtain ⟨c', hc'⟩ := own_typed HR5.out.row1 g1 rfl
       exact ne_of_typed HBX5.out hc' (by decide) e)).trans HBX5.out⟩
      have hb2 := HB2.out
      have hb0 := HB0.out
      have b9 : -1 ≤ p + rd r.f4 i := by omega
      have b10 : p + rd r.f4 i ≤ 100001 := by omega
      have HW9 : Aside0 (wrap64 (p + rd r.f4 i) = p + rd r.f4 i) := ⟨by unfold wrap64; omega⟩
      have bi0 : 0 ≤ i := HI.out
      have bi3 : i ≤ 3 := by have := H3.out; have := of_eq_true q1; omega
      clear hr1 hst1 hgr1
      refine start_ (n := 15) (S := fun w' => w'.cell? ⟨br, 1, none⟩ = some (.slice (some ⟨g1, 0, none⟩) at_.length c1) ∧ w'.cell? ⟨gx, 4, none⟩ = some (.slice (some ad4) r.f4.length e4) ∧ w'.cell? (ad4.add i.toNat) = some (.int .i64 (rd r.f4 i)) ∧ w'.cell? ⟨g1, i.toNat, none⟩ = some (.int .i64 p) ∧ w'.frozen? ⟨g1, i.toNat, none⟩ = false) (ds := [14]) #[false, false, false, false, false, false, false, false, false, false, false, false, false, false, false] (by kernel_rfl) rfl rfl ⟨k1, k2, k3, k4, k5⟩ (fun hHeld => ?_); refine with_tabW reg54.tab reg54.bits (fun HT_ HW_ => ?_)
      refine pure_ (i := 0) (N := some 63) (v := ?_) (a' := ?_) #[true, false, false, false, false, false, false, false, false, false, false, false, false, false, false] rfl rfl (any_of HT_.out (by kernel_rfl)) (fun _ _ _ h => h) (Or.inl ⟨by rfl, ?_⟩) ?_ ?_
      rotate_left
      ·intro w'
       go_simp
       with_reducible rfl
      rotate_left
      ·simp only [Act.put, List.setIfInBounds_toArray, List.set_cons_zero, List.set_cons_succ, i64_w, i32_w]
       rfl
      refine pure_ (i := 1) (N := some 64) (v := ?_) (a' := ?_) #[true, true, false, false, false, false, false, false, false, false, false, false, false, false, false] rfl rfl (any_of HT_.out (by kernel_rfl)) (fun _ _ _ h => h) (Or.inl ⟨by rfl, ?_⟩) ?_ ?_
      rotate_left
      ·intro w'
       go_simp
       with_reducible rfl
      rotate_left
      ·simp only [Act.put, List.setIfInBounds_toArray, List.set_cons_zero, List.set_cons_succ, i64_w, i32_w]
       rfl
      refine pure_ (i := 2) (N := some 65) (v := ?_) (a' := ?_) #[true, true, true, false, false, false, false, false, false, false, false, false, false, false, false] rfl rfl (any_of HT_.out (by kernel_rfl)) (fun _ _ _ h => h) (Or.inl ⟨by rfl, ?_⟩) ?_ ?_
      rotate_left
      ·intro w'
       go_simp
       with_reducible rfl
      rotate_left
      ·simp only [Act.put, List.setIfInBounds_toArray, List.set_cons_zero, List.set_cons_succ, i64_w, i32_w]
       rfl
      refine take_ (i := 3) (N := some 66) (v := ?_) (a' := ?_) #[true, true, true, true, false, false, false, false, false, false, false, false, false, false, false] rfl rfl (take_ofW HT_.out HW_.out (by kernel_rfl)) (fun _ _ _ h => h) (Or.inl ⟨by rfl, ?_⟩) hHeld ?_ ?_
      rotate_left
      ·rintro w' ⟨s1, s2, s3, s4, s5⟩
       go_simp
       with_reducible rfl
      rotate_left
      ·simp only [Act.put, List.setIfInBounds_toArray, List.set_cons_zero, List.set_cons_succ, i64_w, i32_w]
       rfl
      refine pure_ (i := 4) (N := some 67) (v := ?_) (a' := ?_) #[true, true, true, true, true, false, false, false, false, false, false, false, false, false, false] rfl rfl (any_of HT_.out (by kernel_rfl)) (fun _ _ _ h => h) (Or.inl ⟨by rfl, ?_⟩) ?_ ?_
      rotate_left
      ·intro w'
       go_simp
       with_reducible rfl
      rotate_left
      ·simp only [Act.put, List.setIfInBounds_toArray, List.set_cons_zero, List.set_cons_succ, i64_w, i32_w]
       rfl
      refine pure_ (i := 5) (N := some 68) (v := ?_) (a' := ?_) #[true, true, true, true, true, true, false, false, false, false, false, false, false, false, false] rfl rfl (any_of HT_.out (by kernel_rfl)) (fun _ _ _ h => h) (Or.inl ⟨by rfl, ?_⟩) ?_ ?_
      rotate_left
      ·intro w'
       go_simp
       with_reducible rfl
      rotate_left
      ·simp only [Act.put, List.setIfInBounds_toArray, List.set_cons_zero, List.set_cons_succ, i64_w, i32_w]
       rfl
      refine pure_ (i := 6) (N := some 69) (v := ?_) (a' := ?_) #[true, true, true, true, true, true, true, false, false, false, false, false, false, false, false] rfl rfl (any_of HT_.out (by kernel_rfl)) (fun _ _ _ h => h) (Or.inl ⟨by rfl, ?_⟩) ?_ ?_
      rotate_left
      ·intro w'
       go_simp
       with_reducible rfl
      rotate_left
      ·simp only [Act.put, List.setIfInBounds_toArray, List.set_cons_zero, List.set_cons_succ, i64_w, i32_w]
       rfl
      refine take_ (i := 7) (N := some 70) (v := ?_) (a' := ?_) #[true, true, true, true, true, true, true, true, false, false, false, false, false, false, false] rfl rfl (take_ofW HT_.out HW_.out (by kernel_rfl)) (fun _ _ _ h => h) (Or.inl ⟨by rfl, ?_⟩) hHeld ?_ ?_
      rotate_left
      ·rintro w' ⟨s1, s2, s3, s4, s5⟩
       go_simp
       with_reducible rfl
      rotate_left
      ·simp only [Act.put, List.setIfInBounds_toArray, List.set_cons_zero, List.set_cons_succ, i64_w, i32_w]
       rfl
      refine pure_ (i := 8) (N := some 71) (v := ?_) (a' := ?_) #[true, true, true, true, true, true, true, true, true, false, false, false, false, false, false] rfl rfl (any_of HT_.out (by kernel_rfl)) (fun _ _ _ h => h) (Or.inl ⟨by rfl, ?_⟩) ?_ ?_
      rotate_left
      ·intro w'
       go_simp
       with_reducible rfl
      rotate_left
      ·simp only [Act.put, List.setIfInBounds_toArray, List.set_cons_zero, List.set_cons_succ, i64_w, i32_w]
       rfl
      refine pure_ (i := 9) (N := some 72) (v := ?_) (a' := ?_) #[true, true, true, true, true, true, true, true, true, true, false, false, false, false, false] rfl rfl (any_of HT_.out (by kernel_rfl)) (fun _ _ _ h => h) (Or.inl ⟨by rfl, ?_⟩) ?_ ?_
      rotate_left
      ·intro w'
       go_simp
       with_reducible rfl
      rotate_left
      ·simp only [Act.put, List.setIfInBounds_toArray, List.set_cons_zero, List.set_cons_succ, i64_w, i32_w]
       rfl
      refine take_ (i := 10) (N := some 73) (v := ?_) (a' := ?_) #[true, true, true, true, true, true, true, true, true, true, true, false, false, false, false] rfl rfl (take_ofW HT_.out HW_.out (by kernel_rfl)) (fun _ _ _ h => h) (Or.inl ⟨by rfl, ?_⟩) hHeld ?_ ?_
      rotate_left
      ·rintro w' ⟨s1, s2, s3, s4, s5⟩
       go_simp
       with_reducible rfl
      rotate_left
      ·simp only [Act.put, List.setIfInBounds_toArray, List.set_cons_zero, List.set_cons_succ, i64_w, i32_w]
       rfl
      refine pure_ (i := 11) (N := some 74) (v := ?_) (a' := ?_) #[true, true, true, true, true, true, true, true, true, true, true, true, false, false, false] rfl rfl (any_of HT_.out (by kernel_rfl)) (fun _ _ _ h => h) (Or.inl ⟨by rfl, ?_⟩) ?_ ?_
      rotate_left
      ·intro w'
       go_simp
       with_reducible rfl
      rotate_left
      ·simp only [Act.put, List.setIfInBounds_toArray, List.set_cons_zero, List.set_cons_succ, i64_w, i32_w]
       rfl
      refine pure_ (i := 12) (N := some 75) (v := .int .i64 (stepP p (rd r.f4 i))) (a' := ?_) #[true, true, true, true, true, true, true, true, true, true, true, true, true, false, false] rfl rfl (any_of HT_.out (by kernel_rfl)) (fun _ _ _ h => h) (Or.inl ⟨by rfl, ?_⟩) ?_ ?_
      ·intro w'
       go_simp
       try simp only [HW9.out]
       unfold stepP
       first | rfl | (split <;> rfl) | simp
      rotate_left
      ·simp only [Act.put, List.setIfInBounds_toArray, List.set_cons_zero, List.set_cons_succ, i64_w, i32_w]
       rfl
      refine pure_ (i := 13) (N := some 76) (v := ?_) (a' := ?_) #[true, true, true, true, true, true, true, true, true, true, true, true, true, true, false] rfl rfl (any_of HT_.out (by kernel_rfl)) (fun _ _ _ h => h) (Or.inl ⟨by rfl, ?_⟩) ?_ ?_
      rotate_left
      ·intro w'
       go_simp
       with_reducible rfl
      rotate_left
      ·simp only [Act.put, List.setIfInBounds_toArray, List.set_cons_zero, List.set_cons_succ, i64_w, i32_w]
       rfl
      refine last_ (i := 14) (N := none) #[true, true, true, true, true, true, true, true, true, true, true, true, true, true, true] rfl rfl (one_of HT_.out (by kernel_rfl)) (by decide) (fun K hK => ?_)
      obtain ⟨s1, s2, s3, s4, s5⟩ := hHeld
      refine skip_ (w1 := ?_) (by rfl) rfl ?_ ?_
      rotate_left
      ·go_simp
       rfl
      refine hK.out _ _ ?_
      clear hK K
      refine done_ (done_of HT_.out (by kernel_rfl)) ?_
      try go_wp2
      obtain rfl := HGX.out
      go_roundg (at_.length - (i + 1)).toNat
      case measure => have := HG.out; have := of_eq_true q1; omega
      case rel =>
       have i0 := HI.out
       have i1 := of_eq_true q1
       have h3' := H3.out
       have eN : (i + 1).toNat = i.toNat + 1 := by omega
       refine ⟨i + 1, ?_, ⟨by omega⟩, ⟨by omega⟩, ⟨?_⟩, ⟨vs'.set i.toNat (.slice (some ⟨g, 0, none⟩) l'.length cu'), ?_⟩, ⟨?_⟩⟩
       ·first | rfl | (rw [show wrap64 (i + 1) = i + 1 by unfold wrap64; omega])
       ·exact below_drew HBW7.out
       ·rw [eN, HE.out]
        have e9 : l'.set p.toNat (rd r.f3 i) = setPad l p (rd r.f3 i) := by
         have := HPD.out
         rw [show p.toNat + 1 - l'.length = 0 by have := HPL.out; omega] at this
         unfold setPad
         rw [← this]; simp
        rw [← e9]
        exact HR7.out.below (below_drew (Below.refl _ _))
       ·exact HBX7.out
   ·have clb : decide (i < (at_.length : Int)) = false := decide_eq_false cl
    have HEN : Aside0 (i.toNat = at_.length) := ⟨by have := HG.out; omega⟩
    go_wp2
    go_ret
    rw [HEN.out] at hR
    exact ⟨rfl, HBW.out, vs', hR⟩
end Go.Proofs.YtfoodfhhdbaieaaDoor.Giv
