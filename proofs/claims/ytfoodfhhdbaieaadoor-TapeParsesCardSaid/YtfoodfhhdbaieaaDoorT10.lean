-- CUT by a program of this session: what the claim does not use is left out
import Derived.Test.YtfoodfhhdbaieaaDoorT9
import Derived.Test.YtfoodfhhdbaieaaDoorT3
import Derived.Deep.RegionHeld3
import Derived.Test.YtfoodfhhdbaieaaDoorT8
import Derived.Test.YtfoodfhhdbaieaaDoorWAll
namespace Go.Proofs.YtfoodfhhdbaieaaDoor.Giv
set_option maxRecDepth 100000
set_option linter.unusedVariables false
set_option linter.unusedSimpArgs false
open Go.RowKit Go.Proofs.YtfoodfhhdbaieaaDoorW.PrintWords Go.Proofs.YtfoodfhhdbaieaaDoorW.PrintLast Go.Proofs.YtfoodfhhdbaieaaDoorW.PrintMore
open Go.Proofs.YtfoodfhhdbaieaaDoor.Ka (S40 k40 z40 rd_T40 at_T40 k40_open k40_mk rd_L1 at_L1 info3 info38 info40)

theorem own_C {w : World} {base : Nat} {v : Value} {l : List Int} (h : w.ownsRow base 3 1 v l.length (l.map (Value.int .i64))) : ∃ A c, v = .slice A l.length c ∧ l.length ≤ c ∧ Kd.C (Kd.int .i64) w A l.length l := by
 obtain ⟨A, c, rfl, hr⟩ := own_reads (k := .i64) (xs := l) h
 exact ⟨A, c, rfl, own_le h, Kd.C_of_reads (d := (0 : Int)) (h1 := fun _ => rfl) hr⟩
theorem own_C2 {w : World} {base : Nat} {v : Value} {vs : List Value} {tp : List (List Int)} (h : w.ownsRow base 38 1 v vs.length vs) (hl : vs.length = tp.length) (hi : ∀ (i : Nat) (u : Value) (l : List Int), vs[i]? = some u → tp[i]? = some l → w.ownsRow base 3 1 u l.length (l.map (Value.int .i64))) :
  ∃ A c, v = .slice A tp.length c ∧ tp.length ≤ c ∧ Kd.C (Kd.slice 3 (Kd.int .i64)) w A tp.length tp := by
 have hR : Reps (fun (l : List Int) c => (Kd.slice 3 (Kd.int .i64)).K w l c) 1 tp vs := by
  refine ⟨by omega, fun j l hj => ?_⟩
  have hjt := (List.getElem?_eq_some_iff.1 hj).1
  have hv : vs[j]? = some (vs[j]'(by omega)) := List.getElem?_eq_getElem (by omega)
  obtain ⟨A, c, e, hlc, hC⟩ := own_C (hi j _ l hv hj)
  have e2 : (vs.drop (j * 1)).take 1 = [vs[j]'(by omega)] := by
   rw [Nat.mul_one, List.drop_eq_getElem_cons (by omega)]
   rfl
  rw [e2, e]
  exact ⟨A, c, rfl, hlc, hC⟩
 obtain ⟨A, c, rfl, hr⟩ := own_reads_row h hR hl.symm
 rw [hl] at hr h ⊢
 exact ⟨A, c, rfl, own_le h, hr⟩

def RulesAt (w : World) (rs : List S40) (L : List (Value × Value)) : Prop :=
 L.length = rs.length ∧ ∀ (i : Nat) (r : S40), rs[i]? = some r → ∃ A1 c1 A3 c3 A4 c4, L[i]? = some (keyV r.f0 r.f1, .agg #[.int .i64 r.f0, .slice A1 r.f1.length c1, .int .i64 r.f2, .slice A3 r.f3.length c3, .slice A4 r.f4.length c4]) ∧
  r.f1.length ≤ c1 ∧ Kd.C (Kd.int .i64) w A1 r.f1.length r.f1 ∧ r.f3.length ≤ c3 ∧ Kd.C (Kd.int .i64) w A3 r.f3.length r.f3 ∧ r.f4.length ≤ c4 ∧ Kd.C (Kd.int .i64) w A4 r.f4.length r.f4
theorem RulesAt.below {w w1 : World} {rs : List S40} {L : List (Value × Value)} (h : RulesAt w rs L) (hb : Below w.heap.size w w1) : RulesAt w1 rs L := by
 refine ⟨h.1, fun i r hr => ?_⟩
 obtain ⟨A1, c1, A3, c3, A4, c4, e, l1, g1, l3, g3, l4, g4⟩ := h.2 i r hr
 exact ⟨A1, c1, A3, c3, A4, c4, e, l1, Kd.C_below g1 hb, l3, Kd.C_below g3 hb, l4, Kd.C_below g4 hb⟩
def RuleV (w : World) (r : S40) (v : Value) : Prop := ∃ A1 c1 A3 c3 A4 c4, v = .agg #[.int .i64 r.f0, .slice A1 r.f1.length c1, .int .i64 r.f2, .slice A3 r.f3.length c3, .slice A4 r.f4.length c4] ∧ Kd.C (Kd.int .i64) w A3 r.f3.length r.f3 ∧ Kd.C (Kd.int .i64) w A4 r.f4.length r.f4
def findR (rs : List S40) (s : Int) (l : List Int) : Option S40 := rs.find? fun r => keyL r.f0 r.f1 == keyL s l
theorem find_mem {rs : List S40} (hn : (keysL rs).Nodup) {r : S40} (hr : r ∈ rs) {s : Int} {l : List Int} (hk : keyL r.f0 r.f1 = keyL s l) : findR rs s l = some r := by
 unfold findR
 induction rs with
 | nil => cases hr
 | cons x t ih =>
  rw [List.find?_cons]
  have hn' : keyL x.f0 x.f1 ∉ keysL t ∧ (keysL t).Nodup := by simpa [keysL] using hn
  by_cases e : keyL x.f0 x.f1 = keyL s l
  ·rw [show (keyL x.f0 x.f1 == keyL s l) = true by rw [e]; simp]
   rcases List.mem_cons.1 hr with rfl | hr
   ·rfl
   ·exact absurd (List.mem_map.2 ⟨r, hr, by rw [hk, e]⟩) hn'.1
  ·rw [show (keyL x.f0 x.f1 == keyL s l) = false by simpa using e]
   rcases List.mem_cons.1 hr with rfl | hr
   ·exact absurd hk e
   ·exact ih hn'.2 hr
theorem nodup_inj {α : Type} {l : List α} (h : l.Nodup) {i j : Nat} (hi : i < l.length) (hj : j < l.length) (e : l[i] = l[j]) : i = j := by
 rcases Nat.lt_trichotomy i j with h1 | h1 | h1
 ·exact absurd e (List.pairwise_iff_getElem.1 h i j hi hj h1)
 ·exact h1
 ·exact absurd e.symm (List.pairwise_iff_getElem.1 h j i hj hi h1)
theorem look_rule {w : World} {b : Nat} {rs : List S40} {L : List (Value × Value)} {s : Int} {l : List Int} (hK : AreKeys L) (hR : RulesAt w rs L) (hn : (keysL rs).Nodup) (hs : Small (keyL s l)) :
  ∃ v, (∀ W, MapAt W b L → (Instr.lookup 71 (.map (some b)) (keyV s l) true).run Tryd.prog W = .ok (.tuple #[v, .bool (findR rs s l).isSome]) W) ∧ (findR rs s l = none → v = .agg #[.int .i64 0, .slice none 0 0, .int .i64 0, .slice none 0 0, .slice none 0 0]) ∧ ∀ r, findR rs s l = some r → RuleV w r v := by
 obtain ⟨kl, hkl⟩ := keyOf_key hs
 have atL : ∀ v, (keyV s l, v) ∈ L → ∃ (i : Nat) (r : S40), L[i]? = some (keyV s l, v) ∧ rs[i]? = some r ∧ keyL r.f0 r.f1 = keyL s l ∧ RuleV w r v := fun v h1 => by
  obtain ⟨i, hi⟩ := List.getElem?_of_mem h1
  have hil : i < rs.length := by rw [← hR.1]; exact (List.getElem?_eq_some_iff.1 hi).1
  obtain ⟨A1, c1, A3, c3, A4, c4, e, l1, g1, l3, g3, l4, g4⟩ := hR.2 i rs[i] (List.getElem?_eq_getElem hil)
  have e0 := hi
  rw [e] at e0
  injection e0 with e0
  injection e0 with e1 e2
  exact ⟨i, rs[i], hi, List.getElem?_eq_getElem hil, keyV_inj e1, A1, c1, A3, c3, A4, c4, e2.symm, g3, g4⟩
 cases hf : findR rs s l with
 | none =>
  refine ⟨_, fun W hW => ?_, fun _ => rfl, (fun r hr => by cases hr)⟩
  rcases run_look Tryd.underlying71 (Tryd.zeroValue40 W) hW hK hkl true with ⟨h1, h2⟩ | ⟨v, h1, h2⟩
  ·exact h2
  ·obtain ⟨i, r, _, hr, hk, _⟩ := atL v h1
   rw [find_mem hn (List.mem_of_getElem? hr) hk] at hf
   cases hf
 | some r =>
  have hr : r ∈ rs := List.mem_of_find?_eq_some hf
  have hk : keyL r.f0 r.f1 = keyL s l := by have := List.find?_some hf; simpa using this
  obtain ⟨i, hi⟩ := List.getElem?_of_mem hr
  obtain ⟨A1, c1, A3, c3, A4, c4, e, l1, g1, l3, g3, l4, g4⟩ := hR.2 i r hi
  refine ⟨.agg #[.int .i64 r.f0, .slice A1 r.f1.length c1, .int .i64 r.f2, .slice A3 r.f3.length c3, .slice A4 r.f4.length c4], fun W hW => ?_, (fun h => by cases h), fun r' hr' => ?_⟩
  rotate_left
  ·injection hr' with hr'
   subst hr'
   exact ⟨A1, c1, A3, c3, A4, c4, rfl, g3, g4⟩
  ·rcases run_look Tryd.underlying71 (Tryd.zeroValue40 W) hW hK hkl true with ⟨h1, h2⟩ | ⟨v, h1, h2⟩
   ·exact absurd (keyV_of hk) (h1 _ (List.mem_of_getElem? e))
   ·obtain ⟨j, r', hj, hrj, hkj, _⟩ := atL v h1
    have hij : i = j := by
     have hil := (List.getElem?_eq_some_iff.1 hi).1
     have hjl := (List.getElem?_eq_some_iff.1 hrj).1
     have h3 : (keysL rs)[i]'(by simpa [keysL] using hil) = (keysL rs)[j]'(by simpa [keysL] using hjl) := by
      rw [List.getElem?_eq_getElem hil] at hi
      rw [List.getElem?_eq_getElem hjl] at hrj
      simp only [keysL, List.getElem_map, Option.some.inj hi, Option.some.inj hrj, hk, hkj]
     exact nodup_inj hn _ _ h3
    subst hij
    rw [e] at hj
    injection hj with hj
    injection hj with _ hj
    rw [hj]
    exact h2

theorem cells5 {w : World} {k : Nat} {a b c d e : Value} {t : TypeId} (h : w.heap[k]? = some (.cells #[a, b, c, d, e] t)) : w.cell? ⟨k, 0, none⟩ = some a ∧ w.cell? ⟨k, 1, none⟩ = some b ∧ w.cell? ⟨k, 2, none⟩ = some c ∧ w.cell? ⟨k, 3, none⟩ = some d ∧ w.cell? ⟨k, 4, none⟩ = some e := by
 simp [World.cell?, h]
theorem frozen5 {w : World} {k : Nat} {a b c d e : Value} {t : TypeId} (h : w.heap[k]? = some (.cells #[a, b, c, d, e] t)) : w.frozen? ⟨k, 0, none⟩ = false ∧ w.frozen? ⟨k, 1, none⟩ = false ∧ w.frozen? ⟨k, 2, none⟩ = false ∧ w.frozen? ⟨k, 3, none⟩ = false ∧ w.frozen? ⟨k, 4, none⟩ = false := by
 simp [World.frozen?, h]
def under (l : List Int) (n : Int) : Int := if n < l.length then rd l n else 0
def readL (at_ : List Int) (tp : List (List Int)) : List Int := (List.range at_.length).map fun (i : Nat) => under (rd_L1 tp i) (rd at_ i)
theorem readL_next (at_ : List Int) (tp : List (List Int)) {i : Int} (h0 : 0 ≤ i) (h1 : i < at_.length) : (readL at_ tp).take (i + 1).toNat = (readL at_ tp).take i.toNat ++ [under (rd_L1 tp i) (rd at_ i)] := by
 rw [show (i + 1).toNat = i.toNat + 1 by omega, List.take_succ_eq_append_getElem (by simp [readL]; omega)]
 simp only [readL, List.getElem_map, List.getElem_range]
 rw [show ((i.toNat : Nat) : Int) = i by omega]
theorem readL_length (at_ : List Int) (tp : List (List Int)) : (readL at_ tp).length = at_.length := by simp [readL]
def reg47.T : Bool × List (List Nat × List Nat) := (true, [([], []), ([0], [0]), ([1], [1]), ([2], [2]), ([], []), ([4], [4]), ([5], [5]), ([6], [6]), ([7], [7]), ([], []), ([8, 9], [8, 9]), ([3, 10], [3, 10]), ([11], [11]), ([12], [12]), ([12], [12]), ([], []), ([15, 13, 10, 0, 1, 2, 3, 4, 5, 6, 7, 8, 9, 10, 11, 12, 13, 15], [13, 15]), ([14, 16, 0, 1, 2, 3, 4, 5, 6, 7, 8, 9, 10, 11, 12, 13, 14, 15, 16], [14])])
def reg47.B : List Nat := [0, 1, 3, 7, 0, 16, 48, 112, 240, 0, 1008, 2047, 4095, 8191, 8191, 0, 49151, 131071]
theorem reg47.tab : rtab .any (opsOf Tryd.f34 10) = reg47.T := by kernel_rfl
theorem reg47.bits : waitsOk reg47.T.2 reg47.B = true := by kernel_rfl
theorem set_grown (w : World) (g j : Nat) (a : Value) : w.grownBy (w.setCell ⟨g, j, none⟩ a) (some g) := ⟨rfl, rfl, rfl, by simp, fun k _ hk => heap_setCell_other w ⟨g, j, none⟩ k _ (fun e => hk (by rw [e]))⟩
theorem grown_trans {w w1 w2 : World} {row : Option Nat} (h1 : w.grownBy w1 row) (h2 : w1.grownBy w2 row) : w.grownBy w2 row :=
 ⟨h2.os.trans h1.os, h2.tape.trans h1.tape, h2.output.trans h1.output, Nat.le_trans h1.size h2.size, fun k hk hne => (h2.block k (Nat.lt_of_lt_of_le hk h1.size) hne).trans (h1.block k hk hne)⟩
theorem set5_grown {w : World} {g : Nat} (a b c d e : Value) : w.grownBy (((((w.setCell ⟨g, 0, none⟩ a).setCell ⟨g, 1, none⟩ b).setCell ⟨g, 2, none⟩ c).setCell ⟨g, 3, none⟩ d).setCell ⟨g, 4, none⟩ e) (some g) :=
 grown_trans (grown_trans (grown_trans (grown_trans (set_grown _ _ _ _) (set_grown _ _ _ _)) (set_grown _ _ _ _)) (set_grown _ _ _ _)) (set_grown _ _ _ _)
theorem fin47 {w wr w3 : World} {gb : Nat} {a b c d e a' b' c' d' e' : Value} (h0 : Below w.heap.size w wr) (h : Below wr.heap.size wr w3) (hg : w.heap.size ≤ gb) :
  Below w.heap.size w ((((((((((w3.setCell ⟨gb, 0, none⟩ a).setCell ⟨gb, 1, none⟩ b).setCell ⟨gb, 2, none⟩ c).setCell ⟨gb, 3, none⟩ d).setCell ⟨gb, 4, none⟩ e).setCell ⟨w.heap.size, 0, none⟩ a').setCell ⟨w.heap.size, 1, none⟩ b').setCell ⟨w.heap.size, 2, none⟩ c').setCell ⟨w.heap.size, 3, none⟩ d').setCell ⟨w.heap.size, 4, none⟩ e') :=
 ((((((((((h0.trans (h.mono h0.size)).setCell hg _).setCell hg _).setCell hg _).setCell hg _).setCell hg _).setCell (Nat.le_refl _) _).setCell (Nat.le_refl _) _).setCell (Nat.le_refl _) _).setCell (Nat.le_refl _) _).setCell (Nat.le_refl _) _
def RuleOut (w0 w : World) (F : Option S40) (e : Ending) (w' : World) : Prop := ∃ v, e = .returned (.tuple #[v, .bool F.isSome]) ∧ (F = none → v = .agg #[.int .i64 0, .slice none 0 0, .int .i64 0, .slice none 0 0, .slice none 0 0]) ∧ (∀ r, F = some r → RuleV w0 r v) ∧ Below w.heap.size w w'
set_option maxHeartbeats 4000000 in
set_option maxRecDepth 100000 in
theorem rule_walk (w : World) (br bm : Nat) (s : Int) (A1 : Option Addr) (c1 : Nat) (at_ : List Int) (A2 : Option Addr) (c2 : Nat) (tp : List (List Int)) (L : List (Value × Value)) (rs : List S40)
  (hc : w.heap[br]? = some (.cells #[.int .i64 s, .slice A1 at_.length c1, .slice A2 tp.length c2, .map (some bm)] 73 (0, 0))) (h1 : Kd.C (Kd.int .i64) w A1 at_.length at_) (h2 : Kd.C (Kd.slice 3 (Kd.int .i64)) w A2 tp.length tp)
  (hM : MapAt w bm L) (hK : AreKeys L) (w0 : World) (hR : RulesAt w0 rs L) (hn : (keysL rs).Nodup) (hs : Small (keyL s (readL at_ tp))) (hl : at_.length = tp.length) (h3 : at_.length ≤ 3) (h0 : ∀ i : Nat, 0 ≤ rd at_ i) (F : Option S40) (HF : Aside0 (findR rs s (readL at_ tp) = F)) :
  Calls Tryd.prog 34 #[.pointer (some ⟨br, 0, none⟩)] w (RuleOut w0 w F) := by
 obtain ⟨i0, hi, hz0, hz1, hz2⟩ := info_parts info3
 have HC := Aside0.mk hc
 have H1 := Aside0.mk h1
 have H2 := Aside0.mk h2
 have HM := Aside0.mk hM
 have HK := Aside0.mk hK
 have HR := Aside0.mk hR
 have HN := Aside0.mk hn
 have HS := Aside0.mk hs
 have HL := Aside0.mk hl
 have H3 := Aside0.mk h3
 have H0 := Aside0.mk h0
 have hz : br < w.heap.size := (Array.getElem?_eq_some_iff.1 hc).1
 have m0 : w.cell? ⟨br, 0, none⟩ = some (.int .i64 s) := by simp [World.cell?, hc]
 have m1 : w.cell? ⟨br, 1, none⟩ = some (.slice A1 at_.length c1) := by simp [World.cell?, hc]
 have m2 : w.cell? ⟨br, 2, none⟩ = some (.slice A2 tp.length c2) := by simp [World.cell?, hc]
 have m3 : w.cell? ⟨br, 3, none⟩ = some (.map (some bm)) := by simp [World.cell?, hc]
 clear hc h1 h2 hM hK hR hn hs hl h3 h0
 go_enter Tryd.func34, Tryd.ntmps34
 go_wp2
 go_loopg [4, 16] at_.length (fun gg s4 s16 wr => ∃ (i : Int), s16 = .int .i64 i ∧ Aside0 (0 ≤ i) ∧ Aside0 ((at_.length : Int) - i = gg) ∧ Aside0 (Below (w.heap.size + 1) (w.alloc (Obj.cells #[.int .i64 0, .slice none 0 0, .int .i64 0, .slice none 0 0, .slice none 0 0] 40)) wr) ∧ Aside0 (wr.ownsRow (w.heap.size + 1) 3 1 s4 i.toNat (((readL at_ tp).take i.toNat).map (Value.int .i64))))
 case atStart => exact ⟨0, rfl, ⟨by omega⟩, ⟨by omega⟩, ⟨Below.refl _ _⟩, ⟨World.ownsRow_nil _ _ _ _⟩⟩
 case round =>
  obtain ⟨i, rfl, HI, HG, HB, HO⟩ := hrel
  have hz1 : w.heap.size < wr.heap.size := by have := HB.out.size; simp at this; omega
  have hbw : Below w.heap.size w wr := ((Below.refl _ _).alloc (Nat.le_refl _) _).trans (HB.out.mono (by omega))
  obtain ⟨hcc, hff⟩ := bcell hbw
  have hhi := HI.out
  by_cases cl : i < (at_.length : Int)
  ·have clb : decide (i < (at_.length : Int)) = true := decide_eq_true cl
   have cl2 : i < (tp.length : Int) := by have := HL.out; omega
   obtain ⟨ad1, e1, hx1⟩ := Kd.at_int (Kd.C_below H1.out hbw) i hhi cl
   obtain ⟨ad2, B1, d1, e2, hx2, hlc, hC2⟩ := at_L1 (Kd.C_below H2.out hbw) i hhi cl2
   subst e1; subst e2
   have p1 := eq_true hhi
   have q1 := eq_true cl
   have q2 := eq_true cl2
   have HX := Aside0.mk (readL_next at_ tp hhi cl)
   have HBW := Aside0.mk hbw
   have y0 : 0 ≤ rd at_ i := by have := H0.out i.toNat; rw [show ((i.toNat : Nat) : Int) = i by omega] at this; exact this
   have b3 : i ≤ 3 := by have := H3.out; omega
   have HZ1 := Aside0.mk hz1
   clear hbw hlc cl cl2
   by_cases cu : rd at_ i < ((rd_L1 tp i).length : Int)
   ·have cub : decide (rd at_ i < ((rd_L1 tp i).length : Int)) = true := decide_eq_true cu
    obtain ⟨ad3, e3, hx3⟩ := Kd.at_int hC2 (rd at_ i) y0 cu
    subst e3
    have q3 := eq_true cu
    have HU : Aside0 (under (rd_L1 tp i) (rd at_ i) = rd (rd_L1 tp i) (rd at_ i)) := ⟨if_pos cu⟩
    clear cu hC2
    go_wp2_with ((with_reducible refine gate_dst (N := 46) rfl ?_); go_must (refine wpList_append_one (w.heap.size + 1) rfl (.tmp 43) (.tmp 45) 38 3 (.int .i64 0) 8 rfl Tryd.underlying38 info3 rfl (by decide) u4 i.toNat _ _ rfl rfl rfl HO.out ?hb ?hbase ?_; (case hb => omega); (case hbase => omega); intro v1 w1 ho1 hg1 hat1; have HO1 := Aside0.mk ho1; have HG1 := Aside0.mk hg1; clear ho1 hg1 hat1))
    go_roundg ((at_.length : Int) - (i + 1)).toNat
    case measure => have := HG.out; have := of_eq_true q1; omega
    case rel =>
     have i0 := HI.out
     have i1 := of_eq_true q1
     refine ⟨i + 1, ?_, ⟨by omega⟩, ⟨by omega⟩, ⟨?_⟩, ⟨?_⟩⟩
     ·rfl
     ·exact HB.out.grown HG1.out (by have := HZ1.out; omega) (by intro k hk; have := own_base HO.out k hk; omega)
     ·rw [HX.out, HU.out, show (i + 1).toNat = i.toNat + 1 by omega, List.map_append]
      exact HO1.out
   ·have cub : decide (rd at_ i < ((rd_L1 tp i).length : Int)) = false := decide_eq_false cu
    have HU : Aside0 (under (rd_L1 tp i) (rd at_ i) = 0) := ⟨if_neg cu⟩
    clear cu hC2
    go_wp2_with ((with_reducible refine gate_dst (N := 46) rfl ?_); go_must (refine wpList_append_one (w.heap.size + 1) rfl (.tmp 43) (.tmp 45) 38 3 (.int .i64 0) 8 rfl Tryd.underlying38 info3 rfl (by decide) u4 i.toNat _ _ rfl rfl rfl HO.out ?hb ?hbase ?_; (case hb => omega); (case hbase => omega); intro v1 w1 ho1 hg1 hat1; have HO1 := Aside0.mk ho1; have HG1 := Aside0.mk hg1; clear ho1 hg1 hat1))
    go_roundg ((at_.length : Int) - (i + 1)).toNat
    case measure => have := HG.out; have := of_eq_true q1; omega
    case rel =>
     have i0 := HI.out
     have i1 := of_eq_true q1
     refine ⟨i + 1, ?_, ⟨by omega⟩, ⟨by omega⟩, ⟨?_⟩, ⟨?_⟩⟩
     ·rfl
     ·exact HB.out.grown HG1.out (by have := HZ1.out; omega) (by intro k hk; have := own_base HO.out k hk; omega)
     ·rw [HX.out, HU.out, show (i + 1).toNat = i.toNat + 1 by omega, List.map_append]
      exact HO1.out
  ·have clb : decide (i < (at_.length : Int)) = false := decide_eq_false cl
   have hRD : Aside0 ((readL at_ tp).take i.toNat = readL at_ tp) := ⟨List.take_of_length_le (by rw [readL_length]; omega)⟩
   have HOF : Aside0 (wr.ownsRow (w.heap.size + 1) 3 1 u4 (readL at_ tp).length ((readL at_ tp).map (Value.int .i64))) := ⟨by
    have := HO.out; rw [hRD.out] at this
    have e : i.toNat = (readL at_ tp).length := by have := this.1; simp at this; omega
    rw [e] at this; exact this⟩
   obtain ⟨A4, c4, rfl, hlc4, hC4⟩ := own_C HOF.out
   have HC4 := Aside0.mk hC4
   have HR4 : Aside0 ((readL at_ tp).length ≤ 3) := ⟨by rw [readL_length]; exact H3.out⟩
   clear hC4 hlc4 hhi cl
   go_wp2
   have k3 : wr.cell? ⟨br, 3, none⟩ = some (.map (some bm)) := (hcc _ _ hz).trans m3
   have k0 : wr.cell? ⟨br, 0, none⟩ = some (.int .i64 s) := (hcc _ _ hz).trans m0
   clear m0 m1 m2 m3 hcc hff
   have HZ1 := Aside0.mk hz1
   have HZR : Aside0 (wr.heap[w.heap.size]? = some (.cells #[.int .i64 0, .slice none 0 0, .int .i64 0, .slice none 0 0, .slice none 0 0] 40)) := ⟨(HB.out.block _ (by simp)).trans (heap_alloc_new _ _)⟩
   have HMR : Aside0 (MapAt wr bm L) := ⟨HM.out.same (hbw.block _ HM.out.lt)⟩
   have HBR : Aside0 (br < wr.heap.size) := ⟨by have := hbw.size; omega⟩
   have HBWR := Aside0.mk hbw
   clear hbw
   obtain ⟨vv, hlk0, hno, hso⟩ := look_rule (b := bm) HK.out HR.out HN.out HS.out
   cases F with
   | none =>
    obtain rfl := hno HF.out
    rw [HF.out] at hlk0
    clear hno hso
    simp only [keyV, Option.isSome_none] at hlk0
    refine start_ (n := 18) (S := fun w' => w'.cell? ⟨br, 3, none⟩ = some (.map (some bm)) ∧ w'.cell? ⟨br, 0, none⟩ = some (.int .i64 s) ∧ MapAt w' bm L) (ds := []) #[false, false, false, false, false, false, false, false, false, false, false, false, false, false, false, false, false, false] (by kernel_rfl) rfl rfl ⟨k3, k0, HMR.out.same rfl⟩ (fun hHeld => ?_); refine with_tabW reg47.tab reg47.bits (fun HT_ HW_ => ?_)
    have HB0 := Aside0.mk (below_drew (Below.refl wr.heap.size wr))
    generalize wr.drew = W0 at HB0 hHeld ⊢
    refine pure_ (i := 0) (N := some 49) (v := ?_) (a' := ?_) #[true, false, false, false, false, false, false, false, false, false, false, false, false, false, false, false, false, false] rfl rfl (any_of HT_.out (by kernel_rfl)) (fun _ _ _ h => h) (Or.inl ⟨by rfl, ?_⟩) ?_ ?_
    rotate_left
    ·intro w'
     go_simp
     with_reducible rfl
    rotate_left
    ·simp only [Act.put, List.setIfInBounds_toArray, List.set_cons_zero, List.set_cons_succ, i64_w, i32_w]
     rfl
    refine pure_ (i := 1) (N := some 50) (v := ?_) (a' := ?_) #[true, true, false, false, false, false, false, false, false, false, false, false, false, false, false, false, false, false] rfl rfl (any_of HT_.out (by kernel_rfl)) (fun _ _ _ h => h) (Or.inl ⟨by rfl, ?_⟩) ?_ ?_
    rotate_left
    ·intro w'
     go_simp
     with_reducible rfl
    rotate_left
    ·simp only [Act.put, List.setIfInBounds_toArray, List.set_cons_zero, List.set_cons_succ, i64_w, i32_w]
     rfl
    refine pure_ (i := 2) (N := some 51) (v := ?_) (a' := ?_) #[true, true, true, false, false, false, false, false, false, false, false, false, false, false, false, false, false, false] rfl rfl (any_of HT_.out (by kernel_rfl)) (fun _ _ _ h => h) (Or.inl ⟨by rfl, ?_⟩) ?_ ?_
    rotate_left
    ·intro w'
     go_simp
     with_reducible rfl
    rotate_left
    ·simp only [Act.put, List.setIfInBounds_toArray, List.set_cons_zero, List.set_cons_succ, i64_w, i32_w]
     rfl
    refine take_ (i := 3) (N := some 52) (v := ?_) (a' := ?_) #[true, true, true, true, false, false, false, false, false, false, false, false, false, false, false, false, false, false] rfl rfl (take_ofW HT_.out HW_.out (by kernel_rfl)) (fun _ _ _ h => h) (Or.inl ⟨by rfl, ?_⟩) hHeld ?_ ?_
    rotate_left
    ·rintro w' ⟨s0, s1, s2⟩
     go_simp
     with_reducible rfl
    rotate_left
    ·simp only [Act.put, List.setIfInBounds_toArray, List.set_cons_zero, List.set_cons_succ, i64_w, i32_w]
     rfl
    refine pure_ (i := 4) (N := some 53) (v := ?_) (a' := ?_) #[true, true, true, true, true, false, false, false, false, false, false, false, false, false, false, false, false, false] rfl rfl (any_of HT_.out (by kernel_rfl)) (fun _ _ _ h => h) (Or.inl ⟨by rfl, ?_⟩) ?_ ?_
    rotate_left
    ·intro w'
     go_simp
     with_reducible rfl
    rotate_left
    ·simp only [Act.put, List.setIfInBounds_toArray, List.set_cons_zero, List.set_cons_succ, i64_w, i32_w]
     rfl
    refine pure_ (i := 5) (N := some 54) (v := ?_) (a' := ?_) #[true, true, true, true, true, true, false, false, false, false, false, false, false, false, false, false, false, false] rfl rfl (any_of HT_.out (by kernel_rfl)) (fun _ _ _ h => h) (Or.inl ⟨by rfl, ?_⟩) ?_ ?_
    rotate_left
    ·intro w'
     go_simp
     with_reducible rfl
    rotate_left
    ·simp only [Act.put, List.setIfInBounds_toArray, List.set_cons_zero, List.set_cons_succ, i64_w, i32_w]
     rfl
    refine pure_ (i := 6) (N := some 55) (v := ?_) (a' := ?_) #[true, true, true, true, true, true, true, false, false, false, false, false, false, false, false, false, false, false] rfl rfl (any_of HT_.out (by kernel_rfl)) (fun _ _ _ h => h) (Or.inl ⟨by rfl, ?_⟩) ?_ ?_
    rotate_left
    ·intro w'
     go_simp
     with_reducible rfl
    rotate_left
    ·simp only [Act.put, List.setIfInBounds_toArray, List.set_cons_zero, List.set_cons_succ, i64_w, i32_w]
     rfl
    refine pure_ (i := 7) (N := some 56) (v := ?_) (a' := ?_) #[true, true, true, true, true, true, true, true, false, false, false, false, false, false, false, false, false, false] rfl rfl (any_of HT_.out (by kernel_rfl)) (fun _ _ _ h => h) (Or.inl ⟨by rfl, ?_⟩) ?_ ?_
    rotate_left
    ·intro w'
     go_simp
     with_reducible rfl
    rotate_left
    ·simp only [Act.put, List.setIfInBounds_toArray, List.set_cons_zero, List.set_cons_succ, i64_w, i32_w]
     rfl
    refine take_ (i := 8) (N := some 57) (v := ?_) (a' := ?_) #[true, true, true, true, true, true, true, true, true, false, false, false, false, false, false, false, false, false] rfl rfl (take_ofW HT_.out HW_.out (by kernel_rfl)) (fun _ _ _ h => h) (Or.inl ⟨by rfl, ?_⟩) hHeld ?_ ?_
    rotate_left
    ·rintro w' ⟨s0, s1, s2⟩
     go_simp
     with_reducible rfl
    rotate_left
    ·simp only [Act.put, List.setIfInBounds_toArray, List.set_cons_zero, List.set_cons_succ, i64_w, i32_w]
     rfl
    refine pure_ (i := 9) (N := some 58) (v := ?_) (a' := ?_) #[true, true, true, true, true, true, true, true, true, true, false, false, false, false, false, false, false, false] rfl rfl (any_of HT_.out (by kernel_rfl)) (fun _ _ _ h => h) (Or.inl ⟨by rfl, ?_⟩) ?_ ?_
    rotate_left
    ·intro w'
     go_simp
     with_reducible rfl
    rotate_left
    ·simp only [Act.put, List.setIfInBounds_toArray, List.set_cons_zero, List.set_cons_succ, i64_w, i32_w]
     rfl
    refine two_ (i := 10) (j := 15) (Ni := some 59) (Nj := some 8) #[true, true, true, true, true, true, true, true, true, true, true, false, false, false, false, false, false, false] #[true, true, true, true, true, true, true, true, true, true, false, false, false, false, false, true, false, false] rfl rfl rfl rfl (two_of HT_.out (by kernel_rfl)) (by decide) (by decide) (fun K hK => ?_) (fun K hK => ?_)
    ·skip
     refine goes_ Tryd.func24 (by kernel_rfl) rfl #[.int .i64 s, .slice A4 (readL at_ tp).length c4] (by rfl) rfl rfl (by (try simp only [List.map_toArray, List.map_cons, List.map_nil]); first | done | rfl) ?_
     refine (keyOf_agg s A4 c4 (readL at_ tp) W0 HR4.out (Kd.C_below HC4.out HB0.out)).mono ?_
     rintro e w2 ⟨rfl, hB2⟩
     refine ⟨_, rfl, ?_⟩
     have HB2 := Aside0.mk (HB0.out.trans (hB2.mono HB0.out.size))
     clear hB2
     refine hK.out _ _ ⟨pw_cell_below HB2.out k3, pw_cell_below HB2.out k0, HMR.out.same (HB2.out.block _ HMR.out.lt)⟩ (fun hHeld => ?_)
     clear hK K
     refine norm_ (a' := ?_) ?_ ?_
     rotate_left
     ·show Act.put _ (some 59) _ = _
      simp only [Act.put, List.setIfInBounds_toArray, List.set_cons_zero, List.set_cons_succ, i64_w, i32_w]
      rfl
     refine take_ (i := 11) (N := some 60) (v := ?_) (a' := ?_) #[true, true, true, true, true, true, true, true, true, true, true, true, false, false, false, false, false, false] rfl rfl (take_ofW HT_.out HW_.out (by kernel_rfl)) (fun _ _ _ h => h) (Or.inl ⟨by rfl, ?_⟩) hHeld ?_ ?_
     rotate_left
     ·rintro w' ⟨s0, s1, s2⟩
      have hlk := hlk0 w' s2; go_simp
      with_reducible rfl
     rotate_left
     ·simp only [Act.put, List.setIfInBounds_toArray, List.set_cons_zero, List.set_cons_succ, i64_w, i32_w]
      rfl
     refine pure_ (i := 12) (N := some 48) (v := ?_) (a' := ?_) #[true, true, true, true, true, true, true, true, true, true, true, true, true, false, false, false, false, false] rfl rfl (any_of HT_.out (by kernel_rfl)) (fun _ _ _ h => h) (Or.inl ⟨by rfl, ?_⟩) ?_ ?_
     rotate_left
     ·intro w'
      go_simp
      with_reducible rfl
     rotate_left
     ·simp only [Act.put, List.setIfInBounds_toArray, List.set_cons_zero, List.set_cons_succ, i64_w, i32_w]
      rfl
     refine pure_ (i := 13) (N := some 61) (v := ?_) (a' := ?_) #[true, true, true, true, true, true, true, true, true, true, true, true, true, true, false, false, false, false] rfl rfl (any_of HT_.out (by kernel_rfl)) (fun _ _ _ h => h) (Or.inl ⟨by rfl, ?_⟩) ?_ ?_
     rotate_left
     ·intro w'
      go_simp
      with_reducible rfl
     rotate_left
     ·simp only [Act.put, List.setIfInBounds_toArray, List.set_cons_zero, List.set_cons_succ, i64_w, i32_w]
      rfl
     refine pure_ (i := 14) (N := some 62) (v := ?_) (a' := ?_) #[true, true, true, true, true, true, true, true, true, true, true, true, true, true, true, false, false, false] rfl rfl (any_of HT_.out (by kernel_rfl)) (fun _ _ _ h => h) (Or.inl ⟨by rfl, ?_⟩) ?_ ?_
     rotate_left
     ·intro w'
      go_simp
      with_reducible rfl
     rotate_left
     ·simp only [Act.put, List.setIfInBounds_toArray, List.set_cons_zero, List.set_cons_succ, i64_w, i32_w]
      rfl
     refine one_ (i := 15) (N := some 8) #[true, true, true, true, true, true, true, true, true, true, true, true, true, true, true, true, false, false] rfl rfl (one_of HT_.out (by kernel_rfl)) (by decide) (fun K hK => ?_)
     refine box_step ?hg (N := 8) ?hd (cs := #[.int .i64 0, .slice none 0 0, .int .i64 0, .slice none 0 0, .slice none 0 0]) (t := 40) ?hr ?_; (case hd => rfl); (case hg => rfl); (case hr => first | (go_simp; done) | (go_simp; rfl))
     intro gb hg w3 hbox hb
     have HG := Aside0.mk hg
     have HBX := Aside0.mk hbox
     have HB3 := Aside0.mk (HB2.out.trans (hb.mono HB2.out.size))
     have HGL : Aside0 (gb < w3.heap.size) := ⟨(Array.getElem?_eq_some_iff.1 hbox).1⟩
     have HGB : Aside0 (wr.heap.size ≤ gb) := ⟨by rw [hg]; exact HB2.out.size⟩
     clear hbox hb hg
     refine hK.out _ _ ⟨pw_cell_below HB3.out k3, pw_cell_below HB3.out k0, HMR.out.same (HB3.out.block _ HMR.out.lt)⟩ (fun hHeld => ?_)
     clear hK K
     refine norm_ (a' := ?_) ?_ ?_
     rotate_left
     ·show Act.put _ (some 8) _ = _
      simp only [Act.put, List.setIfInBounds_toArray, List.set_cons_zero, List.set_cons_succ, i64_w, i32_w]
      rfl
     have HM3 : Aside0 (MapAt w3 bm L) := ⟨HMR.out.same (HB3.out.block _ HMR.out.lt)⟩
     have HZB : Aside0 (w3.heap[w.heap.size]? = some (.cells #[.int .i64 0, .slice none 0 0, .int .i64 0, .slice none 0 0, .slice none 0 0] 40)) := ⟨(HB3.out.block _ HZ1.out).trans HZR.out⟩
     have HGM : Aside0 (gb ≠ bm) := ⟨by have := HGB.out; have := HMR.out.lt; omega⟩
     have HGE : Aside0 (gb ≠ w.heap.size) := ⟨by have := HGB.out; have := HZ1.out; omega⟩
     have hgb : gb ≠ br := by have := HGB.out; have := HBR.out; omega
     have hgb2 := hgb.symm
     have k3w := pw_cell_below HB3.out k3
     have k0w := pw_cell_below HB3.out k0
     have GB5 := Aside0.mk (set5_grown (w := w3) (g := gb))
     refine one_ (i := 16) (N := none) #[true, true, true, true, true, true, true, true, true, true, true, true, true, true, true, true, true, false] rfl rfl (one_of HT_.out (by kernel_rfl)) (by decide) (fun K hK => ?_)
     have hbc := HBX.out
     obtain ⟨q0, q1, q2, q3, q4⟩ := cells5 hbc
     obtain ⟨f0, f1, f2, f3, f4⟩ := frozen5 hbc
     have hgz := (Array.getElem?_eq_some_iff.1 hbc).1
     clear hbc
     refine skip_ (w1 := ?_) (by rfl) rfl ?_ ?_
     rotate_left
     ·go_simp
      rfl
     refine hK.out _ _ ⟨(by go_simp), (by go_simp), (HM3.out.kept (GB5.out _ _ _ _ _) (by intro h; injection h with h; exact HGM.out h.symm))⟩ (fun hHeld => ?_)
     clear hK K
     refine pure_ (i := 17) (N := some 9) (v := ?_) (a' := ?_) #[true, true, true, true, true, true, true, true, true, true, true, true, true, true, true, true, true, true] rfl rfl (any_of HT_.out (by kernel_rfl)) (fun _ _ _ h => h) (Or.inl ⟨by rfl, ?_⟩) ?_ ?_
     rotate_left
     ·intro w'
      go_simp
      with_reducible rfl
     rotate_left
     ·simp only [Act.put, List.setIfInBounds_toArray, List.set_cons_zero, List.set_cons_succ, i64_w, i32_w]
      rfl
     refine done_ (done_of HT_.out (by kernel_rfl)) ?_
     have hzb := HZB.out
     obtain ⟨r0, r1, r2, r3, r4⟩ := cells5 hzb
     obtain ⟨t0, t1, t2, t3, t4⟩ := frozen5 hzb
     have hg1 := HGE.out
     have hg2 := HGE.out.symm
     have hz9 := (Array.getElem?_eq_some_iff.1 hzb).1
     clear hzb
     go_wp2
     refine bodyPost_ret (v := .tuple #[.agg #[.int .i64 0, .slice none 0 0, .int .i64 0, .slice none 0 0, .slice none 0 0], .bool false]) (by simp [results, Tryd.results34, go_sem, r0, r1, r2, r3, r4, hz9, hg1, hg2, hgz]) rfl ?_
     have HGW := Nat.le_trans HBWR.out.size HGB.out
     exact ⟨_, rfl, (fun _ => rfl), (fun r hr => by cases hr), fin47 HBWR.out HB3.out HGW⟩
    ·skip
     refine box_step ?hg (N := 8) ?hd (cs := #[.int .i64 0, .slice none 0 0, .int .i64 0, .slice none 0 0, .slice none 0 0]) (t := 40) ?hr ?_; (case hd => rfl); (case hg => rfl); (case hr => first | (go_simp; done) | (go_simp; rfl))
     intro gb hg w1 hbox hb
     have HG := Aside0.mk hg
     have HBX := Aside0.mk hbox
     have HB1 := Aside0.mk (HB0.out.trans (hb.mono HB0.out.size))
     have HGL : Aside0 (gb < w1.heap.size) := ⟨(Array.getElem?_eq_some_iff.1 hbox).1⟩
     have HGB : Aside0 (wr.heap.size ≤ gb) := ⟨by rw [hg]; exact HB0.out.size⟩
     clear hbox hb hg
     refine hK.out _ _ ⟨pw_cell_below HB1.out k3, pw_cell_below HB1.out k0, HMR.out.same (HB1.out.block _ HMR.out.lt)⟩ (fun hHeld => ?_)
     clear hK K
     refine norm_ (a' := ?_) ?_ ?_
     rotate_left
     ·show Act.put _ (some 8) _ = _
      simp only [Act.put, List.setIfInBounds_toArray, List.set_cons_zero, List.set_cons_succ, i64_w, i32_w]
      rfl
     refine one_ (i := 10) (N := some 59) #[true, true, true, true, true, true, true, true, true, true, true, false, false, false, false, true, false, false] rfl rfl (one_of HT_.out (by kernel_rfl)) (by decide) (fun K hK => ?_)
     refine goes_ Tryd.func24 (by kernel_rfl) rfl #[.int .i64 s, .slice A4 (readL at_ tp).length c4] (by rfl) rfl rfl (by (try simp only [List.map_toArray, List.map_cons, List.map_nil]); first | done | rfl) ?_
     refine (keyOf_agg s A4 c4 (readL at_ tp) w1 HR4.out (Kd.C_below HC4.out HB1.out)).mono ?_
     rintro e w2 ⟨rfl, hB2⟩
     refine ⟨_, rfl, ?_⟩
     have HB2 := Aside0.mk (HB1.out.trans (hB2.mono HB1.out.size))
     have HBX := Aside0.mk ((hB2.block _ HGL.out).trans HBX.out)
     clear hB2
     refine hK.out _ _ ⟨pw_cell_below HB2.out k3, pw_cell_below HB2.out k0, HMR.out.same (HB2.out.block _ HMR.out.lt)⟩ (fun hHeld => ?_)
     clear hK K
     refine norm_ (a' := ?_) ?_ ?_
     rotate_left
     ·show Act.put _ (some 59) _ = _
      simp only [Act.put, List.setIfInBounds_toArray, List.set_cons_zero, List.set_cons_succ, i64_w, i32_w]
      rfl
     refine take_ (i := 11) (N := some 60) (v := ?_) (a' := ?_) #[true, true, true, true, true, true, true, true, true, true, true, true, false, false, false, true, false, false] rfl rfl (take_ofW HT_.out HW_.out (by kernel_rfl)) (fun _ _ _ h => h) (Or.inl ⟨by rfl, ?_⟩) hHeld ?_ ?_
     rotate_left
     ·rintro w' ⟨s0, s1, s2⟩
      have hlk := hlk0 w' s2; go_simp
      with_reducible rfl
     rotate_left
     ·simp only [Act.put, List.setIfInBounds_toArray, List.set_cons_zero, List.set_cons_succ, i64_w, i32_w]
      rfl
     refine pure_ (i := 12) (N := some 48) (v := ?_) (a' := ?_) #[true, true, true, true, true, true, true, true, true, true, true, true, true, false, false, true, false, false] rfl rfl (any_of HT_.out (by kernel_rfl)) (fun _ _ _ h => h) (Or.inl ⟨by rfl, ?_⟩) ?_ ?_
     rotate_left
     ·intro w'
      go_simp
      with_reducible rfl
     rotate_left
     ·simp only [Act.put, List.setIfInBounds_toArray, List.set_cons_zero, List.set_cons_succ, i64_w, i32_w]
      rfl
     refine pure_ (i := 13) (N := some 61) (v := ?_) (a' := ?_) #[true, true, true, true, true, true, true, true, true, true, true, true, true, true, false, true, false, false] rfl rfl (any_of HT_.out (by kernel_rfl)) (fun _ _ _ h => h) (Or.inl ⟨by rfl, ?_⟩) ?_ ?_
     rotate_left
     ·intro w'
      go_simp
      with_reducible rfl
     rotate_left
     ·simp only [Act.put, List.setIfInBounds_toArray, List.set_cons_zero, List.set_cons_succ, i64_w, i32_w]
      rfl
     refine pure_ (i := 14) (N := some 62) (v := ?_) (a' := ?_) #[true, true, true, true, true, true, true, true, true, true, true, true, true, true, true, true, false, false] rfl rfl (any_of HT_.out (by kernel_rfl)) (fun _ _ _ h => h) (Or.inl ⟨by rfl, ?_⟩) ?_ ?_
     rotate_left
     ·intro w'
      go_simp
      with_reducible rfl
     rotate_left
     ·simp only [Act.put, List.setIfInBounds_toArray, List.set_cons_zero, List.set_cons_succ, i64_w, i32_w]
      rfl
     have HB3 := HB2
     rename World => w3
     have HM3 : Aside0 (MapAt w3 bm L) := ⟨HMR.out.same (HB3.out.block _ HMR.out.lt)⟩
     have HZB : Aside0 (w3.heap[w.heap.size]? = some (.cells #[.int .i64 0, .slice none 0 0, .int .i64 0, .slice none 0 0, .slice none 0 0] 40)) := ⟨(HB3.out.block _ HZ1.out).trans HZR.out⟩
     have HGM : Aside0 (gb ≠ bm) := ⟨by have := HGB.out; have := HMR.out.lt; omega⟩
     have HGE : Aside0 (gb ≠ w.heap.size) := ⟨by have := HGB.out; have := HZ1.out; omega⟩
     have hgb : gb ≠ br := by have := HGB.out; have := HBR.out; omega
     have hgb2 := hgb.symm
     have k3w := pw_cell_below HB3.out k3
     have k0w := pw_cell_below HB3.out k0
     have GB5 := Aside0.mk (set5_grown (w := w3) (g := gb))
     refine one_ (i := 16) (N := none) #[true, true, true, true, true, true, true, true, true, true, true, true, true, true, true, true, true, false] rfl rfl (one_of HT_.out (by kernel_rfl)) (by decide) (fun K hK => ?_)
     have hbc := HBX.out
     obtain ⟨q0, q1, q2, q3, q4⟩ := cells5 hbc
     obtain ⟨f0, f1, f2, f3, f4⟩ := frozen5 hbc
     have hgz := (Array.getElem?_eq_some_iff.1 hbc).1
     clear hbc
     refine skip_ (w1 := ?_) (by rfl) rfl ?_ ?_
     rotate_left
     ·go_simp
      rfl
     refine hK.out _ _ ⟨(by go_simp), (by go_simp), (HM3.out.kept (GB5.out _ _ _ _ _) (by intro h; injection h with h; exact HGM.out h.symm))⟩ (fun hHeld => ?_)
     clear hK K
     refine pure_ (i := 17) (N := some 9) (v := ?_) (a' := ?_) #[true, true, true, true, true, true, true, true, true, true, true, true, true, true, true, true, true, true] rfl rfl (any_of HT_.out (by kernel_rfl)) (fun _ _ _ h => h) (Or.inl ⟨by rfl, ?_⟩) ?_ ?_
     rotate_left
     ·intro w'
      go_simp
      with_reducible rfl
     rotate_left
     ·simp only [Act.put, List.setIfInBounds_toArray, List.set_cons_zero, List.set_cons_succ, i64_w, i32_w]
      rfl
     refine done_ (done_of HT_.out (by kernel_rfl)) ?_
     have hzb := HZB.out
     obtain ⟨r0, r1, r2, r3, r4⟩ := cells5 hzb
     obtain ⟨t0, t1, t2, t3, t4⟩ := frozen5 hzb
     have hg1 := HGE.out
     have hg2 := HGE.out.symm
     have hz9 := (Array.getElem?_eq_some_iff.1 hzb).1
     clear hzb
     go_wp2
     refine bodyPost_ret (v := .tuple #[.agg #[.int .i64 0, .slice none 0 0, .int .i64 0, .slice none 0 0, .slice none 0 0], .bool false]) (by simp [results, Tryd.results34, go_sem, r0, r1, r2, r3, r4, hz9, hg1, hg2, hgz]) rfl ?_
     have HGW := Nat.le_trans HBWR.out.size HGB.out
     exact ⟨_, rfl, (fun _ => rfl), (fun r hr => by cases hr), fin47 HBWR.out HB3.out HGW⟩
   | some r =>
    obtain ⟨B1, e1, B3, e3, B4, e4, rfl, g3, g4⟩ := hso r HF.out
    rw [HF.out] at hlk0
    clear hno hso
    have HG3 := Aside0.mk g3
    have HG4 := Aside0.mk g4
    clear g3 g4
    simp only [keyV, Option.isSome_some] at hlk0
    refine start_ (n := 18) (S := fun w' => w'.cell? ⟨br, 3, none⟩ = some (.map (some bm)) ∧ w'.cell? ⟨br, 0, none⟩ = some (.int .i64 s) ∧ MapAt w' bm L) (ds := []) #[false, false, false, false, false, false, false, false, false, false, false, false, false, false, false, false, false, false] (by kernel_rfl) rfl rfl ⟨k3, k0, HMR.out.same rfl⟩ (fun hHeld => ?_); refine with_tabW reg47.tab reg47.bits (fun HT_ HW_ => ?_)
    have HB0 := Aside0.mk (below_drew (Below.refl wr.heap.size wr))
    generalize wr.drew = W0 at HB0 hHeld ⊢
    refine pure_ (i := 0) (N := some 49) (v := ?_) (a' := ?_) #[true, false, false, false, false, false, false, false, false, false, false, false, false, false, false, false, false, false] rfl rfl (any_of HT_.out (by kernel_rfl)) (fun _ _ _ h => h) (Or.inl ⟨by rfl, ?_⟩) ?_ ?_
    rotate_left
    ·intro w'
     go_simp
     with_reducible rfl
    rotate_left
    ·simp only [Act.put, List.setIfInBounds_toArray, List.set_cons_zero, List.set_cons_succ, i64_w, i32_w]
     rfl
    refine pure_ (i := 1) (N := some 50) (v := ?_) (a' := ?_) #[true, true, false, false, false, false, false, false, false, false, false, false, false, false, false, false, false, false] rfl rfl (any_of HT_.out (by kernel_rfl)) (fun _ _ _ h => h) (Or.inl ⟨by rfl, ?_⟩) ?_ ?_
    rotate_left
    ·intro w'
     go_simp
     with_reducible rfl
    rotate_left
    ·simp only [Act.put, List.setIfInBounds_toArray, List.set_cons_zero, List.set_cons_succ, i64_w, i32_w]
     rfl
    refine pure_ (i := 2) (N := some 51) (v := ?_) (a' := ?_) #[true, true, true, false, false, false, false, false, false, false, false, false, false, false, false, false, false, false] rfl rfl (any_of HT_.out (by kernel_rfl)) (fun _ _ _ h => h) (Or.inl ⟨by rfl, ?_⟩) ?_ ?_
    rotate_left
    ·intro w'
     go_simp
     with_reducible rfl
    rotate_left
    ·simp only [Act.put, List.setIfInBounds_toArray, List.set_cons_zero, List.set_cons_succ, i64_w, i32_w]
     rfl
    refine take_ (i := 3) (N := some 52) (v := ?_) (a' := ?_) #[true, true, true, true, false, false, false, false, false, false, false, false, false, false, false, false, false, false] rfl rfl (take_ofW HT_.out HW_.out (by kernel_rfl)) (fun _ _ _ h => h) (Or.inl ⟨by rfl, ?_⟩) hHeld ?_ ?_
    rotate_left
    ·rintro w' ⟨s0, s1, s2⟩
     go_simp
     with_reducible rfl
    rotate_left
    ·simp only [Act.put, List.setIfInBounds_toArray, List.set_cons_zero, List.set_cons_succ, i64_w, i32_w]
     rfl
    refine pure_ (i := 4) (N := some 53) (v := ?_) (a' := ?_) #[true, true, true, true, true, false, false, false, false, false, false, false, false, false, false, false, false, false] rfl rfl (any_of HT_.out (by kernel_rfl)) (fun _ _ _ h => h) (Or.inl ⟨by rfl, ?_⟩) ?_ ?_
    rotate_left
    ·intro w'
     go_simp
     with_reducible rfl
    rotate_left
    ·simp only [Act.put, List.setIfInBounds_toArray, List.set_cons_zero, List.set_cons_succ, i64_w, i32_w]
     rfl
    refine pure_ (i := 5) (N := some 54) (v := ?_) (a' := ?_) #[true, true, true, true, true, true, false, false, false, false, false, false, false, false, false, false, false, false] rfl rfl (any_of HT_.out (by kernel_rfl)) (fun _ _ _ h => h) (Or.inl ⟨by rfl, ?_⟩) ?_ ?_
    rotate_left
    ·intro w'
     go_simp
     with_reducible rfl
    rotate_left
    ·simp only [Act.put, List.setIfInBounds_toArray, List.set_cons_zero, List.set_cons_succ, i64_w, i32_w]
     rfl
    refine pure_ (i := 6) (N := some 55) (v := ?_) (a' := ?_) #[true, true, true, true, true, true, true, false, false, false, false, false, false, false, false, false, false, false] rfl rfl (any_of HT_.out (by kernel_rfl)) (fun _ _ _ h => h) (Or.inl ⟨by rfl, ?_⟩) ?_ ?_
    rotate_left
    ·intro w'
     go_simp
     with_reducible rfl
    rotate_left
    ·simp only [Act.put, List.setIfInBounds_toArray, List.set_cons_zero, List.set_cons_succ, i64_w, i32_w]
     rfl
    refine pure_ (i := 7) (N := some 56) (v := ?_) (a' := ?_) #[true, true, true, true, true, true, true, true, false, false, false, false, false, false, false, false, false, false] rfl rfl (any_of HT_.out (by kernel_rfl)) (fun _ _ _ h => h) (Or.inl ⟨by rfl, ?_⟩) ?_ ?_
    rotate_left
    ·intro w'
     go_simp
     with_reducible rfl
    rotate_left
    ·simp only [Act.put, List.setIfInBounds_toArray, List.set_cons_zero, List.set_cons_succ, i64_w, i32_w]
     rfl
    refine take_ (i := 8) (N := some 57) (v := ?_) (a' := ?_) #[true, true, true, true, true, true, true, true, true, false, false, false, false, false, false, false, false, false] rfl rfl (take_ofW HT_.out HW_.out (by kernel_rfl)) (fun _ _ _ h => h) (Or.inl ⟨by rfl, ?_⟩) hHeld ?_ ?_
    rotate_left
    ·rintro w' ⟨s0, s1, s2⟩
     go_simp
     with_reducible rfl
    rotate_left
    ·simp only [Act.put, List.setIfInBounds_toArray, List.set_cons_zero, List.set_cons_succ, i64_w, i32_w]
     rfl
    refine pure_ (i := 9) (N := some 58) (v := ?_) (a' := ?_) #[true, true, true, true, true, true, true, true, true, true, false, false, false, false, false, false, false, false] rfl rfl (any_of HT_.out (by kernel_rfl)) (fun _ _ _ h => h) (Or.inl ⟨by rfl, ?_⟩) ?_ ?_
    rotate_left
    ·intro w'
     go_simp
     with_reducible rfl
    rotate_left
    ·simp only [Act.put, List.setIfInBounds_toArray, List.set_cons_zero, List.set_cons_succ, i64_w, i32_w]
     rfl
    refine two_ (i := 10) (j := 15) (Ni := some 59) (Nj := some 8) #[true, true, true, true, true, true, true, true, true, true, true, false, false, false, false, false, false, false] #[true, true, true, true, true, true, true, true, true, true, false, false, false, false, false, true, false, false] rfl rfl rfl rfl (two_of HT_.out (by kernel_rfl)) (by decide) (by decide) (fun K hK => ?_) (fun K hK => ?_)
    ·skip
     refine goes_ Tryd.func24 (by kernel_rfl) rfl #[.int .i64 s, .slice A4 (readL at_ tp).length c4] (by rfl) rfl rfl (by (try simp only [List.map_toArray, List.map_cons, List.map_nil]); first | done | rfl) ?_
     refine (keyOf_agg s A4 c4 (readL at_ tp) W0 HR4.out (Kd.C_below HC4.out HB0.out)).mono ?_
     rintro e w2 ⟨rfl, hB2⟩
     refine ⟨_, rfl, ?_⟩
     have HB2 := Aside0.mk (HB0.out.trans (hB2.mono HB0.out.size))
     clear hB2
     refine hK.out _ _ ⟨pw_cell_below HB2.out k3, pw_cell_below HB2.out k0, HMR.out.same (HB2.out.block _ HMR.out.lt)⟩ (fun hHeld => ?_)
     clear hK K
     refine norm_ (a' := ?_) ?_ ?_
     rotate_left
     ·show Act.put _ (some 59) _ = _
      simp only [Act.put, List.setIfInBounds_toArray, List.set_cons_zero, List.set_cons_succ, i64_w, i32_w]
      rfl
     refine take_ (i := 11) (N := some 60) (v := ?_) (a' := ?_) #[true, true, true, true, true, true, true, true, true, true, true, true, false, false, false, false, false, false] rfl rfl (take_ofW HT_.out HW_.out (by kernel_rfl)) (fun _ _ _ h => h) (Or.inl ⟨by rfl, ?_⟩) hHeld ?_ ?_
     rotate_left
     ·rintro w' ⟨s0, s1, s2⟩
      have hlk := hlk0 w' s2; go_simp
      with_reducible rfl
     rotate_left
     ·simp only [Act.put, List.setIfInBounds_toArray, List.set_cons_zero, List.set_cons_succ, i64_w, i32_w]
      rfl
     refine pure_ (i := 12) (N := some 48) (v := ?_) (a' := ?_) #[true, true, true, true, true, true, true, true, true, true, true, true, true, false, false, false, false, false] rfl rfl (any_of HT_.out (by kernel_rfl)) (fun _ _ _ h => h) (Or.inl ⟨by rfl, ?_⟩) ?_ ?_
     rotate_left
     ·intro w'
      go_simp
      with_reducible rfl
     rotate_left
     ·simp only [Act.put, List.setIfInBounds_toArray, List.set_cons_zero, List.set_cons_succ, i64_w, i32_w]
      rfl
     refine pure_ (i := 13) (N := some 61) (v := ?_) (a' := ?_) #[true, true, true, true, true, true, true, true, true, true, true, true, true, true, false, false, false, false] rfl rfl (any_of HT_.out (by kernel_rfl)) (fun _ _ _ h => h) (Or.inl ⟨by rfl, ?_⟩) ?_ ?_
     rotate_left
     ·intro w'
      go_simp
      with_reducible rfl
     rotate_left
     ·simp only [Act.put, List.setIfInBounds_toArray, List.set_cons_zero, List.set_cons_succ, i64_w, i32_w]
      rfl
     refine pure_ (i := 14) (N := some 62) (v := ?_) (a' := ?_) #[true, true, true, true, true, true, true, true, true, true, true, true, true, true, true, false, false, false] rfl rfl (any_of HT_.out (by kernel_rfl)) (fun _ _ _ h => h) (Or.inl ⟨by rfl, ?_⟩) ?_ ?_
     rotate_left
     ·intro w'
      go_simp
      with_reducible rfl
     rotate_left
     ·simp only [Act.put, List.setIfInBounds_toArray, List.set_cons_zero, List.set_cons_succ, i64_w, i32_w]
      rfl
     refine one_ (i := 15) (N := some 8) #[true, true, true, true, true, true, true, true, true, true, true, true, true, true, true, true, false, false] rfl rfl (one_of HT_.out (by kernel_rfl)) (by decide) (fun K hK => ?_)
     refine box_step ?hg (N := 8) ?hd (cs := #[.int .i64 0, .slice none 0 0, .int .i64 0, .slice none 0 0, .slice none 0 0]) (t := 40) ?hr ?_; (case hd => rfl); (case hg => rfl); (case hr => first | (go_simp; done) | (go_simp; rfl))
     intro gb hg w3 hbox hb
     have HG := Aside0.mk hg
     have HBX := Aside0.mk hbox
     have HB3 := Aside0.mk (HB2.out.trans (hb.mono HB2.out.size))
     have HGL : Aside0 (gb < w3.heap.size) := ⟨(Array.getElem?_eq_some_iff.1 hbox).1⟩
     have HGB : Aside0 (wr.heap.size ≤ gb) := ⟨by rw [hg]; exact HB2.out.size⟩
     clear hbox hb hg
     refine hK.out _ _ ⟨pw_cell_below HB3.out k3, pw_cell_below HB3.out k0, HMR.out.same (HB3.out.block _ HMR.out.lt)⟩ (fun hHeld => ?_)
     clear hK K
     refine norm_ (a' := ?_) ?_ ?_
     rotate_left
     ·show Act.put _ (some 8) _ = _
      simp only [Act.put, List.setIfInBounds_toArray, List.set_cons_zero, List.set_cons_succ, i64_w, i32_w]
      rfl
     have HM3 : Aside0 (MapAt w3 bm L) := ⟨HMR.out.same (HB3.out.block _ HMR.out.lt)⟩
     have HZB : Aside0 (w3.heap[w.heap.size]? = some (.cells #[.int .i64 0, .slice none 0 0, .int .i64 0, .slice none 0 0, .slice none 0 0] 40)) := ⟨(HB3.out.block _ HZ1.out).trans HZR.out⟩
     have HGM : Aside0 (gb ≠ bm) := ⟨by have := HGB.out; have := HMR.out.lt; omega⟩
     have HGE : Aside0 (gb ≠ w.heap.size) := ⟨by have := HGB.out; have := HZ1.out; omega⟩
     have hgb : gb ≠ br := by have := HGB.out; have := HBR.out; omega
     have hgb2 := hgb.symm
     have k3w := pw_cell_below HB3.out k3
     have k0w := pw_cell_below HB3.out k0
     have GB5 := Aside0.mk (set5_grown (w := w3) (g := gb))
     refine one_ (i := 16) (N := none) #[true, true, true, true, true, true, true, true, true, true, true, true, true, true, true, true, true, false] rfl rfl (one_of HT_.out (by kernel_rfl)) (by decide) (fun K hK => ?_)
     have hbc := HBX.out
     obtain ⟨q0, q1, q2, q3, q4⟩ := cells5 hbc
     obtain ⟨f0, f1, f2, f3, f4⟩ := frozen5 hbc
     have hgz := (Array.getElem?_eq_some_iff.1 hbc).1
     clear hbc
     refine skip_ (w1 := ?_) (by rfl) rfl ?_ ?_
     rotate_left
     ·go_simp
      rfl
     refine hK.out _ _ ⟨(by go_simp), (by go_simp), (HM3.out.kept (GB5.out _ _ _ _ _) (by intro h; injection h with h; exact HGM.out h.symm))⟩ (fun hHeld => ?_)
     clear hK K
     refine pure_ (i := 17) (N := some 9) (v := ?_) (a' := ?_) #[true, true, true, true, true, true, true, true, true, true, true, true, true, true, true, true, true, true] rfl rfl (any_of HT_.out (by kernel_rfl)) (fun _ _ _ h => h) (Or.inl ⟨by rfl, ?_⟩) ?_ ?_
     rotate_left
     ·intro w'
      go_simp
      with_reducible rfl
     rotate_left
     ·simp only [Act.put, List.setIfInBounds_toArray, List.set_cons_zero, List.set_cons_succ, i64_w, i32_w]
      rfl
     refine done_ (done_of HT_.out (by kernel_rfl)) ?_
     have hzb := HZB.out
     obtain ⟨r0, r1, r2, r3, r4⟩ := cells5 hzb
     obtain ⟨t0, t1, t2, t3, t4⟩ := frozen5 hzb
     have hg1 := HGE.out
     have hg2 := HGE.out.symm
     have hz9 := (Array.getElem?_eq_some_iff.1 hzb).1
     clear hzb
     go_wp2
     refine bodyPost_ret (v := .tuple #[.agg #[.int .i64 r.f0, .slice B1 r.f1.length e1, .int .i64 r.f2, .slice B3 r.f3.length e3, .slice B4 r.f4.length e4], .bool true]) (by simp [results, Tryd.results34, go_sem, r0, r1, r2, r3, r4, hz9, hg1, hg2, hgz]) rfl ?_
     have HGW := Nat.le_trans HBWR.out.size HGB.out
     exact ⟨_, rfl, (fun h => by cases h), (fun r' hr => by injection hr with hr; subst hr; exact ⟨B1, e1, B3, e3, B4, e4, rfl, HG3.out, HG4.out⟩), fin47 HBWR.out HB3.out HGW⟩
    ·skip
     refine box_step ?hg (N := 8) ?hd (cs := #[.int .i64 0, .slice none 0 0, .int .i64 0, .slice none 0 0, .slice none 0 0]) (t := 40) ?hr ?_; (case hd => rfl); (case hg => rfl); (case hr => first | (go_simp; done) | (go_simp; rfl))
     intro gb hg w1 hbox hb
     have HG := Aside0.mk hg
     have HBX := Aside0.mk hbox
     have HB1 := Aside0.mk (HB0.out.trans (hb.mono HB0.out.size))
     have HGL : Aside0 (gb < w1.heap.size) := ⟨(Array.getElem?_eq_some_iff.1 hbox).1⟩
     have HGB : Aside0 (wr.heap.size ≤ gb) := ⟨by rw [hg]; exact HB0.out.size⟩
     clear hbox hb hg
     refine hK.out _ _ ⟨pw_cell_below HB1.out k3, pw_cell_below HB1.out k0, HMR.out.same (HB1.out.block _ HMR.out.lt)⟩ (fun hHeld => ?_)
     clear hK K
     refine norm_ (a' := ?_) ?_ ?_
     rotate_left
     ·show Act.put _ (some 8) _ = _
      simp only [Act.put, List.setIfInBounds_toArray, List.set_cons_zero, List.set_cons_succ, i64_w, i32_w]
      rfl
     refine one_ (i := 10) (N := some 59) #[true, true, true, true, true, true, true, true, true, true, true, false, false, false, false, true, false, false] rfl rfl (one_of HT_.out (by kernel_rfl)) (by decide) (fun K hK => ?_)
     refine goes_ Tryd.func24 (by kernel_rfl) rfl #[.int .i64 s, .slice A4 (readL at_ tp).length c4] (by rfl) rfl rfl (by (try simp only [List.map_toArray, List.map_cons, List.map_nil]); first | done | rfl) ?_
     refine (keyOf_agg s A4 c4 (readL at_ tp) w1 HR4.out (Kd.C_below HC4.out HB1.out)).mono ?_
     rintro e w2 ⟨rfl, hB2⟩
     refine ⟨_, rfl, ?_⟩
     have HB2 := Aside0.mk (HB1.out.trans (hB2.mono HB1.out.size))
     have HBX := Aside0.mk ((hB2.block _ HGL.out).trans HBX.out)
     clear hB2
     refine hK.out _ _ ⟨pw_cell_below HB2.out k3, pw_cell_below HB2.out k0, HMR.out.same (HB2.out.block _ HMR.out.lt)⟩ (fun hHeld => ?_)
     clear hK K
     refine norm_ (a' := ?_) ?_ ?_
     rotate_left
     ·show Act.put _ (some 59) _ = _
      simp only [Act.put, List.setIfInBounds_toArray, List.set_cons_zero, List.set_cons_succ, i64_w, i32_w]
      rfl
     refine take_ (i := 11) (N := some 60) (v := ?_) (a' := ?_) #[true, true, true, true, true, true, true, true, true, true, true, true, false, false, false, true, false, false] rfl rfl (take_ofW HT_.out HW_.out (by kernel_rfl)) (fun _ _ _ h => h) (Or.inl ⟨by rfl, ?_⟩) hHeld ?_ ?_
     rotate_left
     ·rintro w' ⟨s0, s1, s2⟩
      have hlk := hlk0 w' s2; go_simp
      with_reducible rfl
     rotate_left
     ·simp only [Act.put, List.setIfInBounds_toArray, List.set_cons_zero, List.set_cons_succ, i64_w, i32_w]
      rfl
     refine pure_ (i := 12) (N := some 48) (v := ?_) (a' := ?_) #[true, true, true, true, true, true, true, true, true, true, true, true, true, false, false, true, false, false] rfl rfl (any_of HT_.out (by kernel_rfl)) (fun _ _ _ h => h) (Or.inl ⟨by rfl, ?_⟩) ?_ ?_
     rotate_left
     ·intro w'
      go_simp
      with_reducible rfl
     rotate_left
     ·simp only [Act.put, List.setIfInBounds_toArray, List.set_cons_zero, List.set_cons_succ, i64_w, i32_w]
      rfl
     refine pure_ (i := 13) (N := some 61) (v := ?_) (a' := ?_) #[true, true, true, true, true, true, true, true, true, true, true, true, true, true, false, true, false, false] rfl rfl (any_of HT_.out (by kernel_rfl)) (fun _ _ _ h => h) (Or.inl ⟨by rfl, ?_⟩) ?_ ?_
     rotate_left
     ·intro w'
      go_simp
      with_reducible rfl
     rotate_left
     ·simp only [Act.put, List.setIfInBounds_toArray, List.set_cons_zero, List.set_cons_succ, i64_w, i32_w]
      rfl
     refine pure_ (i := 14) (N := some 62) (v := ?_) (a' := ?_) #[true, true, true, true, true, true, true, true, true, true, true, true, true, true, true, true, false, false] rfl rfl (any_of HT_.out (by kernel_rfl)) (fun _ _ _ h => h) (Or.inl ⟨by rfl, ?_⟩) ?_ ?_
     rotate_left
     ·intro w'
      go_simp
      with_reducible rfl
     rotate_left
     ·simp only [Act.put, List.setIfInBounds_toArray, List.set_cons_zero, List.set_cons_succ, i64_w, i32_w]
      rfl
     have HB3 := HB2
     rename World => w3
     have HM3 : Aside0 (MapAt w3 bm L) := ⟨HMR.out.same (HB3.out.block _ HMR.out.lt)⟩
     have HZB : Aside0 (w3.heap[w.heap.size]? = some (.cells #[.int .i64 0, .slice none 0 0, .int .i64 0, .slice none 0 0, .slice none 0 0] 40)) := ⟨(HB3.out.block _ HZ1.out).trans HZR.out⟩
     have HGM : Aside0 (gb ≠ bm) := ⟨by have := HGB.out; have := HMR.out.lt; omega⟩
     have HGE : Aside0 (gb ≠ w.heap.size) := ⟨by have := HGB.out; have := HZ1.out; omega⟩
     have hgb : gb ≠ br := by have := HGB.out; have := HBR.out; omega
     have hgb2 := hgb.symm
     have k3w := pw_cell_below HB3.out k3
     have k0w := pw_cell_below HB3.out k0
     have GB5 := Aside0.mk (set5_grown (w := w3) (g := gb))
     refine one_ (i := 16) (N := none) #[true, true, true, true, true, true, true, true, true, true, true, true, true, true, true, true, true, false] rfl rfl (one_of HT_.out (by kernel_rfl)) (by decide) (fun K hK => ?_)
     have hbc := HBX.out
     obtain ⟨q0, q1, q2, q3, q4⟩ := cells5 hbc
     obtain ⟨f0, f1, f2, f3, f4⟩ := frozen5 hbc
     have hgz := (Array.getElem?_eq_some_iff.1 hbc).1
     clear hbc
     refine skip_ (w1 := ?_) (by rfl) rfl ?_ ?_
     rotate_left
     ·go_simp
      rfl
     refine hK.out _ _ ⟨(by go_simp), (by go_simp), (HM3.out.kept (GB5.out _ _ _ _ _) (by intro h; injection h with h; exact HGM.out h.symm))⟩ (fun hHeld => ?_)
     clear hK K
     refine pure_ (i := 17) (N := some 9) (v := ?_) (a' := ?_) #[true, true, true, true, true, true, true, true, true, true, true, true, true, true, true, true, true, true] rfl rfl (any_of HT_.out (by kernel_rfl)) (fun _ _ _ h => h) (Or.inl ⟨by rfl, ?_⟩) ?_ ?_
     rotate_left
     ·intro w'
      go_simp
      with_reducible rfl
     rotate_left
     ·simp only [Act.put, List.setIfInBounds_toArray, List.set_cons_zero, List.set_cons_succ, i64_w, i32_w]
      rfl
     refine done_ (done_of HT_.out (by kernel_rfl)) ?_
     have hzb := HZB.out
     obtain ⟨r0, r1, r2, r3, r4⟩ := cells5 hzb
     obtain ⟨t0, t1, t2, t3, t4⟩ := frozen5 hzb
     have hg1 := HGE.out
     have hg2 := HGE.out.symm
     have hz9 := (Array.getElem?_eq_some_iff.1 hzb).1
     clear hzb
     go_wp2
     refine bodyPost_ret (v := .tuple #[.agg #[.int .i64 r.f0, .slice B1 r.f1.length e1, .int .i64 r.f2, .slice B3 r.f3.length e3, .slice B4 r.f4.length e4], .bool true]) (by simp [results, Tryd.results34, go_sem, r0, r1, r2, r3, r4, hz9, hg1, hg2, hgz]) rfl ?_
     have HGW := Nat.le_trans HBWR.out.size HGB.out
     exact ⟨_, rfl, (fun h => by cases h), (fun r' hr => by injection hr with hr; subst hr; exact ⟨B1, e1, B3, e3, B4, e4, rfl, HG3.out, HG4.out⟩), fin47 HBWR.out HB3.out HGW⟩
end Go.Proofs.YtfoodfhhdbaieaaDoor.Giv
