-- CUT by a program of this session: what the claim does not use is left out
import Derived.Test.YthfhnkpipdbekaaDoorN10
namespace Go.Proofs.YthfhnkpipdbekaaDoor.Giv
set_option linter.unusedVariables false
set_option linter.unusedSimpArgs false
open Go.RowKit Go.Shelf Go.Proofs.YthfhnkpipdbekaaDoorW.PrintWords Go.Proofs.YthfhnkpipdbekaaDoorW.PrintLast Go.Proofs.YthfhnkpipdbekaaDoorW.PrintMore
open Go.Proofs.YthfhnkpipdbekaaDoor.Ua (S67 k67 z67 rd_T67 at_T67 k67_open k67_openM k67_mkM info67)
open Go.Proofs.YthfhnkpipdbekaaDoor.Tx (slices_Index_string_string.f slices_Index_string_string.l0 slices_Index_string_string.calls)
theorem hb0none {x : ByteArray} (h : (numB x.data.toList).isSome = false) : numS x = none := by
 cases hn : numB x.data.toList with
 | none => exact hn
 | some y => rw [hn] at h; cases h
theorem own_lt {W : World} {base : Nat} {ok : Nat → Prop} {v : Value} {xs : List S67} (h : Kd.R k67 67 W base ok v xs) {k : Nat} (e : v.ownBlock = some k) : k < W.heap.size := by
 obtain ⟨_, inner, ⟨_, h2⟩, _⟩ := h
 rcases h2 with ⟨rfl, _⟩ | ⟨g, cap, cur, rfl, _, hg, _⟩
 ·cases e
 ·obtain rfl := Option.some.inj e; exact lt_of_blk hg
theorem own_cap {W : World} {base n c : Nat} {A : Option Addr} {ok : Nat → Prop} {xs : List S67} (h : Kd.R k67 67 W base ok (.slice A n c) xs) : xs.length ≤ c := by
 obtain ⟨_, inner, ⟨_, h2⟩, _⟩ := h
 rcases h2 with ⟨e, h0⟩ | ⟨g, cap, cur, e, _, _, hc, _⟩
 ·omega
 ·injection e with _ _ e3; omega
theorem set4 {W : World} {gb : Nat} {z0 z1 z2 z3 : Value} (hbox : W.heap[gb]? = some (.cells #[z0, z1, z2, z3] 67 (0, 0))) (v0 v1 v2 v3 : Value) :
  ((((W.setCell ⟨gb, 0, none⟩ v0).setCell ⟨gb, 1, none⟩ v1).setCell ⟨gb, 2, none⟩ v2).setCell ⟨gb, 3, none⟩ v3).heap[gb]? = some (.cells #[v0, v1, v2, v3] 67 (0, 0)) ∧ W.grownBy ((((W.setCell ⟨gb, 0, none⟩ v0).setCell ⟨gb, 1, none⟩ v1).setCell ⟨gb, 2, none⟩ v2).setCell ⟨gb, 3, none⟩ v3) (some gb) := by
 refine ⟨blk_set (blk_set (blk_set (blk_set hbox 0 v0) 1 v1) 2 v2) 3 v3, ?_⟩
 have one : ∀ (W : World) (j : Nat) (x : Value), W.grownBy (W.setCell ⟨gb, j, none⟩ x) (some gb) := fun W j x => ⟨rfl, rfl, rfl, by simp [World.setCell], fun k hk hne => Below.heap_setCell _ _ _ _ (fun e => hne (congrArg some e))⟩
 exact World.grownBy.trans (World.grownBy.trans (World.grownBy.trans (one _ _ _) (one _ _ _)) (one _ _ _)) (one _ _ _)
theorem PsAt.grown {w : World} {R P Q gb : Nat} {parts : List ByteArray} {n : Int} {W W' : World} {v : Value} {ops : List S67} {cs : Array Value} (h : PsAt w R P Q parts n W v ops) (hg : W.grownBy W' (some gb)) (hob : W.heap[gb]? = some (.cells cs 67 (0, 0))) (hge : w.heap.size ≤ gb) (haw : v.ownBlock ≠ some gb) : PsAt w R P Q parts n W' v ops := by
 have far : ∀ {b : Nat} {o : Obj}, W.heap[b]? = some o → b ≠ gb → W'.heap[b]? = some o := fun hb hn => (hg.block _ (lt_of_blk hb) (fun e => hn (Option.some.inj e))).trans hb
 refine ⟨far h.res (blk_ne h.res hob (by decide)), far h.prt (blk_ne h.prt hob (by decide)), far h.cur (blk_ne h.cur hob (by decide)), ?_, ?_, h.out⟩
 ·exact Kd.R_mono (Kd.R_step (R_mine h.row) (fun k hk hlt => hg.block k hlt (fun e => haw (hk.symm.trans e)))) (fun _ _ => trivial)
 ·exact ⟨hg.os.trans h.below.os, hg.tape.trans h.below.tape, hg.output.trans h.below.output, Nat.le_trans h.below.size hg.size, fun k hk => (hg.block k (Nat.lt_of_lt_of_le hk h.below.size) (fun e => by have := Option.some.inj e; omega)).trans (h.below.block k hk)⟩
theorem PsAt.stored {w : World} {R P Q : Nat} {parts : List ByteArray} {n : Int} {W W' : World} {v v' : Value} {ops ops' : List S67} (h : PsAt w R P Q parts n W v ops) (hg : W.grownBy W' v.ownBlock) (hr : Kd.R k67 67 W' w.heap.size (fun _ => True) v' ops') (hb : Below w.heap.size w W') : PsAt w R P Q parts n (W'.setCell ⟨Q, 1, none⟩ v') v' ops' := by
 have cR := blk_grown h.res hg (Kd.R_ne h.row h.res (by decide))
 have cP := blk_grown h.prt hg (Kd.R_ne h.row h.prt (by decide))
 have cQ := blk_grown h.cur hg (Kd.R_ne h.row h.cur (by decide))
 have nv := Kd.R_ne hr cQ (by decide)
 refine ⟨(Below.heap_setCell _ _ _ _ h.out.2.2).trans cR, (Below.heap_setCell _ _ _ _ (blk_ne cP cQ (by decide))).trans cP, blk_set cQ 1 v', ?_, below_set hb h.out.2.1, h.out⟩
 exact Kd.R_mono (Kd.R_step (R_mine hr) (fun k hk _ => Below.heap_setCell _ _ _ _ (fun e => nv ((congrArg some e).symm.trans hk)))) (fun _ _ => trivial)
theorem PsAt.done {w : World} {P Q : Nat} {parts : List ByteArray} {n : Int} {W : World} {A : Option Addr} {c : Nat} {ops : List S67} (h : PsAt w w.heap.size P Q parts n W (.slice A ops.length c) ops) :
  Kd.R k67 67 ((W.setCell ⟨w.heap.size, 0, none⟩ (.int .i64 n)).setCell ⟨w.heap.size, 1, none⟩ (.slice A ops.length c)) w.heap.size (fun _ => True) (.slice A ops.length c) ops ∧ Below w.heap.size w ((W.setCell ⟨w.heap.size, 0, none⟩ (.int .i64 n)).setCell ⟨w.heap.size, 1, none⟩ (.slice A ops.length c)) := by
 have nv := Kd.R_ne h.row h.res (by decide)
 have one : ∀ {W : World} (k : Nat) (x : Value), Kd.R k67 67 W w.heap.size (fun _ => True) (.slice A ops.length c) ops → Kd.R k67 67 (W.setCell ⟨w.heap.size, k, none⟩ x) w.heap.size (fun _ => True) (.slice A ops.length c) ops := fun k x hr => Kd.R_mono (Kd.R_step (R_mine hr) (fun k hk _ => Below.heap_setCell _ _ _ _ (fun e => nv ((congrArg some e).symm.trans hk)))) (fun _ _ => trivial)
 exact ⟨one 1 _ (one 0 _ h.row), below_set (below_set h.below (Nat.le_refl _)) (Nat.le_refl _)⟩
def reg14_10.T : Bool × List (List Nat × List Nat) := (true, [([], []), ([], []), ([1], [1]), ([2], [2]), ([0, 3, 0], [0, 3]), ([4], [4]), ([], []), ([6, 5, 4, 0, 1, 2, 3, 4, 5, 6], [5, 6])])
def reg14_10.B : List Nat := [0, 0, 2, 6, 15, 31, 0, 127]
theorem reg14_10.tab : rtab .any (opsOf Tryd.f14 10) = reg14_10.T := by kernel_rfl
theorem reg14_10.bits : waitsOk reg14_10.T.2 reg14_10.B = true := by kernel_rfl
def zeroR : Value := .tuple #[.agg #[.int .i64 0, .slice none 0 0], .int .i64 3]
theorem zeroed {w w1 : World} {c0 c1 : Value} {t : TypeId} (hb : Below w.heap.size w w1) (hr : w1.heap[w.heap.size]? = some (.cells #[c0, c1] t (0, 0))) : ∃ W, W = (w1.setCell ⟨w.heap.size, 0, none⟩ (.int .i64 0)).setCell ⟨w.heap.size, 1, none⟩ (.slice none 0 0) ∧ Below w.heap.size w W ∧ W.cell? ⟨w.heap.size, 0, none⟩ = some (.int .i64 0) ∧ W.cell? ⟨w.heap.size, 1, none⟩ = some (.slice none 0 0) := by
 have hrb := blk_set (blk_set hr 0 (.int .i64 0)) 1 (.slice none 0 0)
 exact ⟨_, rfl, below_set (below_set hb (Nat.le_refl _)) (Nat.le_refl _), (blk_cell hrb 0).trans rfl, (blk_cell hrb 1).trans rfl⟩
set_option maxHeartbeats 16000000 in
set_option maxRecDepth 100000 in
theorem undo_Parse.calls (a0 : ByteArray) (r1 : Int) (r2 : List S67) (r3 : Int) (w : World) (hlay : Laid w) (h : undo_Parse.f a0 = some (r1, r2, r3)) :
  Calls Tryd.prog 14 #[.string a0] w fun e w' => ∃ v1_ : Value, e = .returned (.tuple #[.agg #[.int .i64 r1, v1_], .int .i64 r3]) ∧ Kd.R k67 67 w' w.heap.size (fun _ => True) v1_ r2 ∧ Below w.heap.size w w' := by
 have HLAY := Aside0.mk hlay
 have HB := Aside0.mk (Below.refl w.heap.size w)
 have H := Option.some.inj h
 clear h hlay
 have HF : Aside0 (parseF a0 = none → r1 = 0 ∧ r2 = [] ∧ r3 = 3) := ⟨fun e => by
  rw [e] at H
  obtain ⟨rfl, h2⟩ := Prod.mk.inj H
  obtain ⟨rfl, rfl⟩ := Prod.mk.inj h2
  exact ⟨rfl, rfl, rfl⟩⟩
 have HG : Aside0 (∀ n ops, parseF a0 = some (n, ops) → r1 = n ∧ r2 = ops ∧ r3 = 0) := ⟨fun n ops e => by
  rw [e] at H
  obtain ⟨rfl, h2⟩ := Prod.mk.inj H
  obtain ⟨rfl, rfl⟩ := Prod.mk.inj h2
  exact ⟨rfl, rfl, rfl⟩⟩
 clear H
 by_cases hs : 40000 < a0.size
 ·have d0 : decide (40000 < (a0.size : Int)) = true := decide_eq_true (by omega)
  have d1 : decide (40000 < a0.size) = true := decide_eq_true hs
  obtain ⟨rfl, rfl, rfl⟩ := HF.out (by unfold parseF; rw [if_pos hs])
  clear hs
  go_enter Tryd.func14, Tryd.ntmps14
  go_wp2
  refine bodyPost_ret (v := .tuple #[.agg #[.int .i64 0, .slice none 0 0], .int .i64 3]) (by simp [results, Tryd.results14, go_sem]) rfl ?_
  exact ⟨_, rfl, Kd.R_nil _ _ _ _ _, by repeat (first | exact HB.out | apply below_alloc)⟩
 ·have d0 : decide (40000 < (a0.size : Int)) = false := decide_eq_false (by omega)
  have d1 : decide (40000 < a0.size) = false := decide_eq_false hs
  have HS : Aside0 (a0.size ≤ 40000) := ⟨by omega⟩
  clear hs
  obtain ⟨q0, qs, hcut⟩ := cut_form a0 semi (by decide)
  have HQN : Aside0 (qs.length ≤ 40000) := ⟨by
   have h1 := cutB_len a0 semi (by decide)
   have h2 := Lib.countB_le semi (by decide) a0.size a0 (Nat.le_refl _)
   have := HS.out
   rw [hcut, List.length_cons] at h1
   omega⟩
  have HSZ : Aside0 (∀ x ∈ q0 :: qs, x.size ≤ 40000) := ⟨fun x hx => Nat.le_trans (cutB_size (by rw [hcut]; exact hx)) HS.out⟩
  have HPF : Aside0 (parseF a0 = (numS q0).bind fun n => (qs.mapM opR).bind fun ops => if validB n ops = true ∧ writeB n ops = a0.data.toList then some (n, ops) else none) := ⟨by
   unfold parseF; rw [if_neg (by have := HS.out; omega), hcut]; rfl⟩
  have HCUT := Aside0.mk hcut
  clear hcut
  go_enter Tryd.func14, Tryd.ntmps14
  go_wp2_with (first
   | (go_at_call 47; refine (split_calls a0 semi _ (Laid.below HLAY.out (below_alloc HB.out _)) (by have := HS.out; omega) (by decide)).mono ?_; rintro e w2 ⟨P, rfl, hprt, hP, hb⟩; rw [HCUT.out] at hprt ⊢; rw [List.length_cons]; have HRES := Aside0.mk ((hb.block _ (lt_of_blk (box_heap w (.cells #[.int .i64 0, .slice none 0 0] 25)))).trans (box_heap w (.cells #[.int .i64 0, .slice none 0 0] 25))); have HPRT := Aside0.mk hprt; have HB2 := Aside0.mk (below_step (below_alloc HB.out _) hb); have c0 : w2.cell? ⟨P, 0, none⟩ = some (.string q0) := str_cell hprt 0 (by simp); have HPP : Aside0 (w.heap.size < P) := ⟨by simp at hP; omega⟩; clear hb hprt hP)
   | (go_at_call 48; refine (number_calls q0 _ (Laid.below HLAY.out HB2.out) (by have := HSZ.out q0 List.mem_cons_self; omega)).mono ?_; rintro e w3 ⟨n, rfl, hn, hb⟩; obtain ⟨b0, hb0⟩ : ∃ b, (numB q0.data.toList).isSome = b := ⟨_, rfl⟩; rw [hb0]; have HB0 := Aside0.mk hb0; clear hb0; have HN := Aside0.mk hn; have HB3 := Aside0.mk (below_step HB2.out hb); have HRES3 := Aside0.mk ((hb.block _ (lt_of_blk HRES.out)).trans HRES.out); have HPRT3 := Aside0.mk ((hb.block _ (lt_of_blk HPRT.out)).trans HPRT.out); clear hb hn))
  ·have HQ0 := Aside0.mk h
   clear h
   have HPS : Aside0 (PsAt w w.heap.size P w3.heap.size (q0 :: qs) n (w3.alloc (.cells #[.int .i64 n, .slice none 0 0] 25)) (.slice none 0 0) []) := ⟨by
    have hb := below_alloc (Below.refl w3.heap.size w3) (.cells #[.int .i64 n, .slice none 0 0] 25)
    exact ⟨(hb.block _ (lt_of_blk HRES3.out)).trans HRES3.out, (hb.block _ (lt_of_blk HPRT3.out)).trans HPRT3.out, box_heap _ _, Kd.R_nil _ _ _ _ _, below_alloc HB3.out _, Nat.le_refl _, HB3.out.size, by have := lt_of_blk HRES3.out; omega⟩⟩
   generalize (w3.alloc (.cells #[.int .i64 n, .slice none 0 0] 25)) = W4 at HPS ⊢
   generalize w3.heap.size = Q at HPS ⊢
   clear c0 HRES3 HPRT3 HB3 HB2 HRES HPRT HPP
   go_loopg [6, 35] qs.length (fun gg s6 s35 wr => ∃ (i : Nat) (v : Value) (ops : List S67), s6 = .bool b0 ∧ s35 = .int .i64 (i : Int) ∧ Aside0 (i ≤ qs.length) ∧ Aside0 (qs.length - i = gg) ∧ Aside0 (PsAt w w.heap.size P Q (q0 :: qs) n wr v ops) ∧ Aside0 (ops.length = i) ∧ Aside0 (b0 = true → (qs.take i).mapM opR = some ops))
   case atStart => exact ⟨0, _, [], rfl, rfl, ⟨by omega⟩, ⟨by omega⟩, HPS, ⟨rfl⟩, ⟨fun _ => rfl⟩⟩
   case round =>
    clear HPS
    obtain ⟨i, v, ops, rfl, rfl, HI, HG2, HPS, HOL, HOK⟩ := hrel
    by_cases ci : i < qs.length
    ·exact absurd ci (by rw [HQ0.out]; simp)
    ·have hi0 : i = 0 := by have := HI.out; rw [HQ0.out] at this; simpa using this
     subst hi0
     have HI0 : Aside0 (True) := ⟨trivial⟩
     have cib3 : True := trivial
     have cib2 : decide (0 < qs.length) = false := decide_eq_false ci
     have HIE : Aside0 (0 = qs.length) := ⟨by have := HI.out; omega⟩
     clear ci
     obtain ⟨Ao, co, ev⟩ := Kd.R_slice HPS.out.row
     subst ev
     have HRD := Aside0.mk (Kd.R_reads' HPS.out.row)
     have HCL : Aside0 (ops.length ≤ co) := ⟨own_cap HPS.out.row⟩
     have y0 : wr.cell? ⟨Q, 0, none⟩ = some (.int .i64 n) := (blk_cell HPS.out.cur 0).trans rfl
     have y1 : wr.cell? ⟨Q, 1, none⟩ = some (.slice Ao ops.length co) := (blk_cell HPS.out.cur 1).trans rfl
     by_cases hbb : b0 = true
     rotate_left
     ·obtain rfl : b0 = false := Bool.eq_false_iff.2 hbb
      clear hbb
      have rs0 : wr.cell? ⟨w.heap.size, 0, none⟩ = some (.int .i64 0) := (blk_cell HPS.out.res 0).trans rfl
      have rs1 : wr.cell? ⟨w.heap.size, 1, none⟩ = some (.slice none 0 0) := (blk_cell HPS.out.res 1).trans rfl
      have rf0 := blk_frozen HPS.out.res 0
      have rf1 := blk_frozen HPS.out.res 1
      obtain ⟨rfl, rfl, rfl⟩ := HF.out (by rw [HPF.out, hb0none HB0.out]; rfl)
      go_wp2
      obtain ⟨WR, hWR, hRB, e0, e1⟩ := zeroed HPS.out.below HPS.out.res
      rw [← hWR]
      refine bodyPost_ret (v := zeroR) (by simp [results, Tryd.results14, go_sem, e0, e1, zeroR]) rfl ?_
      exact ⟨_, rfl, Kd.R_nil _ _ _ _ _, hRB⟩
     subst hbb
     have HNN : Aside0 (numS q0 = some n) := ⟨by cases hn : numS q0 with | none => have := HB0.out; rw [show numB q0.data.toList = none from hn] at this; cases this | some y' => rw [HN.out y' hn]⟩
     have HOM : Aside0 (qs.mapM opR = some ops) := ⟨by have h1 := HOK.out rfl; rw [HIE.out, List.take_length] at h1; exact h1⟩
     have HPF2 : Aside0 (parseF a0 = if validB n ops = true ∧ writeB n ops = a0.data.toList then some (n, ops) else none) := ⟨by rw [HPF.out, HNN.out, HOM.out]; rfl⟩
     cases hv : validB n ops with
     | false =>
      have hvf : undo_Valid.f n ops = some false := congrArg some hv
      have HV := Aside0.mk hv
      clear hv
      obtain ⟨rfl, rfl, rfl⟩ := HF.out (by rw [HPF2.out, if_neg (by rw [HV.out]; simp)])
      go_wp2_with (first | (go_at_call 28; refine (undo_Valid.calls n Ao co ops false _ HRD.out.2.2 HCL.out hvf).mono ?_; rintro e w12 ⟨rfl, hb⟩; have HPS12 := Aside0.mk (HPS.out.later hb); have y0' : w12.cell? ⟨Q, 0, none⟩ = some (.int .i64 n) := (blk_cell HPS12.out.cur 0).trans rfl; have y1' : w12.cell? ⟨Q, 1, none⟩ = some (.slice Ao ops.length co) := (blk_cell HPS12.out.cur 1).trans rfl; have rs0 : w12.cell? ⟨w.heap.size, 0, none⟩ = some (.int .i64 0) := (blk_cell HPS12.out.res 0).trans rfl; have rs1 : w12.cell? ⟨w.heap.size, 1, none⟩ = some (.slice none 0 0) := (blk_cell HPS12.out.res 1).trans rfl; have rf0 := blk_frozen HPS12.out.res 0; have rf1 := blk_frozen HPS12.out.res 1; clear hb))
      obtain ⟨WR, hWR, hRB, e0, e1⟩ := zeroed HPS12.out.below HPS12.out.res
      rw [← hWR]
      refine bodyPost_ret (v := zeroR) (by simp [results, Tryd.results14, go_sem, e0, e1, zeroR]) rfl ?_
      exact ⟨_, rfl, Kd.R_nil _ _ _ _ _, hRB⟩
     | true =>
      have hvf : undo_Valid.f n ops = some true := congrArg some hv
      obtain ⟨TX, hTX⟩ : ∃ TX : ByteArray, TX = ⟨(writeB n ops).toArray⟩ := ⟨_, rfl⟩
      have HWR : Aside0 (undo_write.f n ops = some TX) := ⟨by rw [hTX]; exact if_pos hv⟩
      have HTX : Aside0 (TX.toList = a0.toList ↔ writeB n ops = a0.data.toList) := ⟨by rw [hTX]; exact toList_iff _ _⟩
      clear hTX
      have HV := Aside0.mk hv
      clear hv
      by_cases hw : writeB n ops = a0.data.toList
      rotate_left
      ·have e1 : (TX.toList != a0.toList) = true := bne_iff_ne.2 (fun e => hw (HTX.out.1 e))
       have e2 : (TX.toList == a0.toList) = false := beq_eq_false_iff_ne.2 (fun e => hw (HTX.out.1 e))
       have HW := Aside0.mk hw
       clear hw
       obtain ⟨rfl, rfl, rfl⟩ := HF.out (by rw [HPF2.out, if_neg (fun h => HW.out h.2)])
       go_wp2_with (first | (go_at_call 28; refine (undo_Valid.calls n Ao co ops true _ HRD.out.2.2 HCL.out hvf).mono ?_; rintro e w12 ⟨rfl, hb⟩; have HPS12 := Aside0.mk (HPS.out.later hb); have y0' : w12.cell? ⟨Q, 0, none⟩ = some (.int .i64 n) := (blk_cell HPS12.out.cur 0).trans rfl; have y1' : w12.cell? ⟨Q, 1, none⟩ = some (.slice Ao ops.length co) := (blk_cell HPS12.out.cur 1).trans rfl; skip; clear hb) | (go_at_call 51; refine (undo_write.calls n Ao co ops TX _ (Kd.R_reads' HPS12.out.row).2.2 HCL.out (Laid.below HLAY.out HPS12.out.below) HWR.out).mono ?_; rintro e w13 ⟨rfl, hb⟩; have HPS13 := Aside0.mk (HPS12.out.later hb); have y0'' : w13.cell? ⟨Q, 0, none⟩ = some (.int .i64 n) := (blk_cell HPS13.out.cur 0).trans rfl; have y1'' : w13.cell? ⟨Q, 1, none⟩ = some (.slice Ao ops.length co) := (blk_cell HPS13.out.cur 1).trans rfl; have rs0 : w13.cell? ⟨w.heap.size, 0, none⟩ = some (.int .i64 0) := (blk_cell HPS13.out.res 0).trans rfl; have rs1 : w13.cell? ⟨w.heap.size, 1, none⟩ = some (.slice none 0 0) := (blk_cell HPS13.out.res 1).trans rfl; have rf0 := blk_frozen HPS13.out.res 0; have rf1 := blk_frozen HPS13.out.res 1; clear hb))
       obtain ⟨WR, hWR, hRB, e0, e1⟩ := zeroed HPS13.out.below HPS13.out.res
       rw [← hWR]
       refine bodyPost_ret (v := zeroR) (by simp [results, Tryd.results14, go_sem, e0, e1, zeroR]) rfl ?_
       exact ⟨_, rfl, Kd.R_nil _ _ _ _ _, hRB⟩
      have e1 : (TX.toList != a0.toList) = false := bne_eq_false_iff_eq.2 (HTX.out.2 hw)
      have e2 : (TX.toList == a0.toList) = true := beq_iff_eq.2 (HTX.out.2 hw)
      obtain ⟨rfl, rfl, rfl⟩ := HG.out n ops (by rw [HPF2.out, if_pos ⟨HV.out, hw⟩])
      clear hw
      go_wp2_with (first | (go_at_call 28; refine (undo_Valid.calls r1 Ao co r2 true _ HRD.out.2.2 HCL.out hvf).mono ?_; rintro e w12 ⟨rfl, hb⟩; have HPS12 := Aside0.mk (HPS.out.later hb); have y0' : w12.cell? ⟨Q, 0, none⟩ = some (.int .i64 r1) := (blk_cell HPS12.out.cur 0).trans rfl; have y1' : w12.cell? ⟨Q, 1, none⟩ = some (.slice Ao r2.length co) := (blk_cell HPS12.out.cur 1).trans rfl; skip; clear hb) | (go_at_call 51; refine (undo_write.calls r1 Ao co r2 TX _ (Kd.R_reads' HPS12.out.row).2.2 HCL.out (Laid.below HLAY.out HPS12.out.below) HWR.out).mono ?_; rintro e w13 ⟨rfl, hb⟩; have HPS13 := Aside0.mk (HPS12.out.later hb); have y0'' : w13.cell? ⟨Q, 0, none⟩ = some (.int .i64 r1) := (blk_cell HPS13.out.cur 0).trans rfl; have y1'' : w13.cell? ⟨Q, 1, none⟩ = some (.slice Ao r2.length co) := (blk_cell HPS13.out.cur 1).trans rfl; have rs0 : w13.cell? ⟨w.heap.size, 0, none⟩ = some (.int .i64 0) := (blk_cell HPS13.out.res 0).trans rfl; have rs1 : w13.cell? ⟨w.heap.size, 1, none⟩ = some (.slice none 0 0) := (blk_cell HPS13.out.res 1).trans rfl; have rf0 := blk_frozen HPS13.out.res 0; have rf1 := blk_frozen HPS13.out.res 1; clear hb))
      have HFIN := Aside0.mk (PsAt.done HPS13.out)
      have hrb := blk_set (blk_set HPS13.out.res 0 (.int .i64 r1)) 1 (.slice Ao r2.length co)
      have g0 : ((w13.setCell ⟨w.heap.size, 0, none⟩ (.int .i64 r1)).setCell ⟨w.heap.size, 1, none⟩ (.slice Ao r2.length co)).cell? ⟨w.heap.size, 0, none⟩ = some (.int .i64 r1) := (blk_cell hrb 0).trans rfl
      have g1 : ((w13.setCell ⟨w.heap.size, 0, none⟩ (.int .i64 r1)).setCell ⟨w.heap.size, 1, none⟩ (.slice Ao r2.length co)).cell? ⟨w.heap.size, 1, none⟩ = some (.slice Ao r2.length co) := (blk_cell hrb 1).trans rfl
      clear hrb
      generalize ((w13.setCell ⟨w.heap.size, 0, none⟩ (.int .i64 r1)).setCell ⟨w.heap.size, 1, none⟩ (.slice Ao r2.length co)) = WR at HFIN g0 g1 ⊢
      refine bodyPost_ret (v := .tuple #[.agg #[.int .i64 r1, .slice Ao r2.length co], .int .i64 0]) (by simp [results, Tryd.results14, go_sem, g0, g1]) rfl ?_
      exact ⟨_, rfl, HFIN.out.1, HFIN.out.2⟩
  ·have HQNE := Aside0.mk h
   clear h
   have HPS : Aside0 (PsAt w w.heap.size P w3.heap.size (q0 :: qs) n (w3.alloc (.cells #[.int .i64 n, .slice none 0 0] 25)) (.slice none 0 0) []) := ⟨by
    have hb := below_alloc (Below.refl w3.heap.size w3) (.cells #[.int .i64 n, .slice none 0 0] 25)
    exact ⟨(hb.block _ (lt_of_blk HRES3.out)).trans HRES3.out, (hb.block _ (lt_of_blk HPRT3.out)).trans HPRT3.out, box_heap _ _, Kd.R_nil _ _ _ _ _, below_alloc HB3.out _, Nat.le_refl _, HB3.out.size, by have := lt_of_blk HRES3.out; omega⟩⟩
   generalize (w3.alloc (.cells #[.int .i64 n, .slice none 0 0] 25)) = W4 at HPS ⊢
   generalize w3.heap.size = Q at HPS ⊢
   clear c0 HRES3 HPRT3 HB3 HB2 HRES HPRT HPP
   go_loopg [6, 35] qs.length (fun gg s6 s35 wr => ∃ (i : Nat) (v : Value) (ops : List S67), s6 = .bool b0 ∧ s35 = .int .i64 (i : Int) ∧ Aside0 (i ≤ qs.length) ∧ Aside0 (qs.length - i = gg) ∧ Aside0 (PsAt w w.heap.size P Q (q0 :: qs) n wr v ops) ∧ Aside0 (ops.length = i) ∧ Aside0 (b0 = true → (qs.take i).mapM opR = some ops))
   case atStart => exact ⟨0, _, [], rfl, rfl, ⟨by omega⟩, ⟨by omega⟩, HPS, ⟨rfl⟩, ⟨fun _ => rfl⟩⟩
   case round =>
    clear HPS
    obtain ⟨i, v, ops, rfl, rfl, HI, HG2, HPS, HOL, HOK⟩ := hrel
    by_cases ci : i < qs.length
    ·have cib : decide ((i : Int) < (qs.length : Int)) = true := decide_eq_true (by omega)
     have cib2 : decide (i < qs.length) = true := decide_eq_true ci
     obtain ⟨p, hp⟩ : ∃ p, p = qs[i] := ⟨_, rfl⟩
     have pc : wr.cell? ⟨P, 1 + i, none⟩ = some (.string p) := by have := str_cell HPS.out.prt (i + 1) (by simp; omega); rw [hp, Nat.add_comm 1 i]; exact this
     have HPM : Aside0 (p ∈ qs) := ⟨by rw [hp]; exact List.getElem_mem ci⟩
     have HNEXT : Aside0 (∀ o, opR p = some o → b0 = true → (qs.take (i + 1)).mapM opR = some (ops ++ [o])) := ⟨fun o ho hb => mapM_next ci (HOK.out hb) (by rw [← hp]; exact ho)⟩
     have HSTOP : Aside0 (opR p = none → qs.mapM opR = none) := ⟨fun ho => mapM_stop ci (by rw [← hp]; exact ho)⟩
     have HFAIL : Aside0 (opR p = none → parseF a0 = none) := ⟨fun ho => by rw [HPF.out, HSTOP.out ho]; cases numS q0 <;> rfl⟩
     have CI := Aside0.mk ci
     clear hp ci
     obtain ⟨h0, ws, hcp⟩ := cut_form p blank (by decide)
     have HPZ : Aside0 (p.size ≤ 40000) := ⟨HSZ.out p (List.mem_cons_of_mem _ HPM.out)⟩
     have HWZ : Aside0 (∀ x ∈ h0 :: ws, x.size ≤ 40000) := ⟨fun x hx => Nat.le_trans (cutB_size (by rw [hcp]; exact hx)) HPZ.out⟩
     have HWN : Aside0 (ws.length ≤ 40000) := ⟨by
      have h1 := cutB_len p blank (by decide)
      have h2 := Lib.countB_le blank (by decide) p.size p (Nat.le_refl _)
      have := HPZ.out
      rw [hcp, List.length_cons] at h1
      omega⟩
     have HOPR : Aside0 (opR p = if 3 < ws.length then none else (ws.mapM numS).map fun xs => opOf (idxB h0) xs) := ⟨by unfold opR; rw [hcp]; rfl⟩
     have HCP := Aside0.mk hcp
     clear hcp
     have pq : (i < qs.length) = True := eq_true CI.out
     go_wp2_with (first | (go_at_call 47; refine (split_calls p blank _ (Laid.below HLAY.out HPS.out.below) (by have := HPZ.out; omega) (by decide)).mono ?_; rintro e w5 ⟨Wd, rfl, hwrd, hWd, hb⟩; rw [HCP.out] at hwrd ⊢; rw [List.length_cons]; have HWRD := Aside0.mk hwrd; have HPS5 := Aside0.mk (HPS.out.later hb); have wc0 : w5.cell? ⟨Wd, 0, none⟩ = some (.string h0) := str_cell hwrd 0 (by simp); clear hb hwrd hWd))
     clear pc pq
     refine start_ (n := 8) (S := fun w' => w'.cell? ⟨Wd, 0, none⟩ = some (.string h0)) (ds := [7]) #[false, false, false, false, false, false, false, false] (by kernel_rfl) rfl rfl wc0 (fun hHeld => ?_); refine with_tabW reg14_10.tab reg14_10.bits (fun HT_ HW_ => ?_)
     have HPS6 := Aside0.mk HPS5.out.drew
     have HWRD6 : Aside0 (w5.drew.heap[Wd]? = some (.cells ((h0 :: ws).map Value.string).toArray 9 (0, 0))) := HWRD
     generalize w5.drew = W6 at HPS6 HWRD6 hHeld ⊢
     clear HPS5 HWRD wc0
     refine pure_ (i := 1) (N := some 42) (v := ?_) (a' := ?_) #[false, true, false, false, false, false, false, false] rfl rfl (any_of HT_.out (by kernel_rfl)) (fun _ _ _ h => h) (Or.inl ⟨by rfl, ?_⟩) ?_ ?_
     rotate_left
     ·intro w'
      go_simp
      with_reducible rfl
     rotate_left
     ·simp only [Act.put, List.setIfInBounds_toArray, List.set_cons_zero, List.set_cons_succ, i64_w, i32_w]
      rfl
     refine pure_ (i := 2) (N := some 43) (v := ?_) (a' := ?_) #[false, true, true, false, false, false, false, false] rfl rfl (any_of HT_.out (by kernel_rfl)) (fun _ _ _ h => h) (Or.inl ⟨by rfl, ?_⟩) ?_ ?_
     rotate_left
     ·intro w'
      go_simp
      with_reducible rfl
     rotate_left
     ·simp only [Act.put, List.setIfInBounds_toArray, List.set_cons_zero, List.set_cons_succ, i64_w, i32_w]
      rfl
     refine take_ (i := 3) (N := some 44) (v := ?_) (a' := ?_) #[false, true, true, true, false, false, false, false] rfl rfl (take_ofW HT_.out HW_.out (by kernel_rfl)) (fun _ _ _ h => h) (Or.inl ⟨by rfl, ?_⟩) hHeld ?_ ?_
     rotate_left
     ·rintro w' s1
      go_simp
      with_reducible rfl
     rotate_left
     ·simp only [Act.put, List.setIfInBounds_toArray, List.set_cons_zero, List.set_cons_succ, i64_w, i32_w]
      rfl
     have HVO : Aside0 (∀ k, v.ownBlock = some k → k < W6.heap.size) := ⟨fun k e => own_lt HPS6.out.row e⟩
     have HSZ0 : Aside0 (w.heap.size ≤ W6.heap.size) := ⟨HPS6.out.below.size⟩
     refine two_ (i := 0) (j := 6) (Ni := some 41) (Nj := some 11) #[true, true, true, true, false, false, false, false] #[false, true, true, true, false, false, true, false] rfl rfl rfl rfl (two_of HT_.out (by kernel_rfl)) (by decide) (by decide) (fun K hK => ?_) (fun K hK => ?_)
     ·skip
      refine goes_ Tryd.func50 (by kernel_rfl) rfl #[.string namesS] (by rfl) rfl rfl (by (try simp only [List.map_toArray, List.map_cons, List.map_nil]); first | done | rfl) ?_
      refine (names_calls' W6 (Laid.below HLAY.out HPS6.out.below)).mono ?_
      rintro e w7 ⟨g, rfl, hnm, hb⟩
      refine ⟨_, rfl, ?_⟩
      have HUPn : Aside0 (W6.heap.size ≤ w7.heap.size) := ⟨hb.size⟩
      have q1 := Aside0.mk (HPS6.out.later hb)
      have q2 := Aside0.mk ((hb.block _ (lt_of_blk HWRD6.out)).trans HWRD6.out)
      clear HPS6 HWRD6
      have HPS6 := q1
      have HWRD6 := q2
      clear q1 q2
      have HNM := Aside0.mk hnm
      clear hnm hb
      refine hK.out _ _ ((blk_cell HWRD6.out 0).trans rfl) (fun hHeld => ?_)
      clear hK K
      refine norm_ (a' := ?_) ?_ ?_
      rotate_left
      ·show Act.put _ (some 41) _ = _
       simp only [Act.put, List.setIfInBounds_toArray, List.set_cons_zero, List.set_cons_succ, i64_w, i32_w]
       rfl
      refine two_ (i := 4) (j := 6) (Ni := some 45) (Nj := some 11) #[true, true, true, true, true, false, false, false] #[true, true, true, true, false, false, true, false] rfl rfl rfl rfl (two_of HT_.out (by kernel_rfl)) (by decide) (by decide) (fun K hK => ?_) (fun K hK => ?_)
      ·skip
       refine goes_ Tryd.func49 (by kernel_rfl) rfl #[.slice (some ⟨g, 0, none⟩) namesL.length 4, .string h0] (by rfl) rfl rfl (by (try simp only [List.map_toArray, List.map_cons, List.map_nil]); first | done | rfl) ?_
       refine (slices_Index_string_string.calls 6 (some ⟨g, 0, none⟩) 4 namesL h0 (idxB h0) w7 (reads_str HNM.out (by decide)) (by decide) (idx_f h0)).mono ?_
       rintro e w8 ⟨rfl, nd, hnd⟩
       refine ⟨_, rfl, ?_⟩
       have hb : Below w7.heap.size w7 w8 := by rw [hnd]; exact pw_below_drewN (Below.refl _ _) _
       have q0 : Aside0 (W6.heap.size ≤ w8.heap.size) := ⟨Nat.le_trans HUPn.out hb.size⟩
       clear HUPn
       have HUPn := q0
       clear q0
       have q1 := Aside0.mk (HPS6.out.later hb)
       have q2 := Aside0.mk ((hb.block _ (lt_of_blk HWRD6.out)).trans HWRD6.out)
       have q4 := Aside0.mk ((hb.block _ (lt_of_blk HNM.out)).trans HNM.out)
       clear HPS6 HWRD6 HNM
       have HPS6 := q1
       have HWRD6 := q2
       have HNM := q4
       clear q1 q2 q4
       clear hnd hb
       refine hK.out _ _ ((blk_cell HWRD6.out 0).trans rfl) (fun hHeld => ?_)
       clear hK K
       refine norm_ (a' := ?_) ?_ ?_
       rotate_left
       ·show Act.put _ (some 45) _ = _
        simp only [Act.put, List.setIfInBounds_toArray, List.set_cons_zero, List.set_cons_succ, i64_w, i32_w]
        rfl
       refine pure_ (i := 5) (N := some 46) (v := ?_) (a' := ?_) #[true, true, true, true, true, true, false, false] rfl rfl (any_of HT_.out (by kernel_rfl)) (fun _ _ _ h => h) (Or.inl ⟨by rfl, ?_⟩) ?_ ?_
       rotate_left
       ·intro w'
        go_simp
        with_reducible rfl
       rotate_left
       ·simp only [Act.put, List.setIfInBounds_toArray, List.set_cons_zero, List.set_cons_succ, i64_w, i32_w]
        rfl
       refine one_ (i := 6) (N := some 11) #[true, true, true, true, true, true, true, false] rfl rfl (one_of HT_.out (by kernel_rfl)) (by decide) (fun K hK => ?_)
       have HUP : Aside0 (W6.heap.size ≤ w8.heap.size) := ⟨HUPn.out⟩
       refine box_step ?hg (N := 11) ?hd (cs := #[.int .i64 0, .int .i64 0, .int .i64 0, .int .i64 0]) (t := 67) ?hr ?_; (case hd => rfl); (case hg => rfl); (case hr => first | (go_simp; done) | (go_simp; rfl))
       intro gb hg w9 hbox hb
       have HGB : Aside0 (w8.heap.size ≤ gb) := ⟨by omega⟩
       have q1 := Aside0.mk (HPS6.out.later hb)
       have q2 := Aside0.mk ((hb.block _ (lt_of_blk HWRD6.out)).trans HWRD6.out)
       have q4 := Aside0.mk ((hb.block _ (lt_of_blk HNM.out)).trans HNM.out)
       clear HPS6 HWRD6 HNM
       have HPS6 := q1
       have HWRD6 := q2
       have HNM := q4
       clear q1 q2 q4
       have HOB := Aside0.mk hbox
       have HAW : Aside0 (w.heap.size ≤ gb ∧ v.ownBlock ≠ some gb) := ⟨by have := HGB.out; have := HSZ0.out; have := HUP.out; omega, fun e => by have := HVO.out gb e; have := HGB.out; have := HUP.out; omega⟩
       clear hbox hb hg
       refine hK.out _ _ ((blk_cell HWRD6.out 0).trans rfl) (fun hHeld => ?_)
       clear hK K
       refine norm_ (a' := ?_) ?_ ?_
       rotate_left
       ·show Act.put _ (some 11) _ = _
        simp only [Act.put, List.setIfInBounds_toArray, List.set_cons_zero, List.set_cons_succ, i64_w, i32_w]
        rfl
       refine last_ (i := 7) (N := none) #[true, true, true, true, true, true, true, true] rfl rfl (one_of HT_.out (by kernel_rfl)) (by decide) (fun K hK => ?_)
       have z0 : w9.cell? ⟨gb, 0, none⟩ = some (.int .i64 0) := (blk_cell HOB.out 0).trans rfl
       have z1 : w9.cell? ⟨gb, 1, none⟩ = some (.int .i64 0) := (blk_cell HOB.out 1).trans rfl
       have z2 : w9.cell? ⟨gb, 2, none⟩ = some (.int .i64 0) := (blk_cell HOB.out 2).trans rfl
       have z3 : w9.cell? ⟨gb, 3, none⟩ = some (.int .i64 0) := (blk_cell HOB.out 3).trans rfl
       have f0 := blk_frozen HOB.out 0
       have f1 := blk_frozen HOB.out 1
       have f2 := blk_frozen HOB.out 2
       have f3 := blk_frozen HOB.out 3
       refine skip_ (w1 := ?_) (by rfl) rfl ?_ ?_
       rotate_left
       ·go_simp
        rfl
       refine hK.out _ _ ?_
       clear hK K
       obtain ⟨hs1, hs2⟩ := set4 HOB.out (.int .i64 (idxB h0)) (.int .i64 0) (.int .i64 0) (.int .i64 0)
       generalize ((((w9.setCell ⟨gb, 0, none⟩ (.int .i64 (idxB h0))).setCell ⟨gb, 1, none⟩ (.int .i64 0)).setCell ⟨gb, 2, none⟩ (.int .i64 0)).setCell ⟨gb, 3, none⟩ (.int .i64 0)) = W8 at hs1 hs2 ⊢
       have HOP8 : Aside0 (W8.heap[gb]? = some (.cells #[.int .i64 (opOf (idxB h0) []).f0, .int .i64 (opOf (idxB h0) []).f1, .int .i64 (opOf (idxB h0) []).f2, .int .i64 (opOf (idxB h0) []).f3] 67 (0, 0))) := ⟨hs1⟩
       have HPS8 := Aside0.mk (HPS6.out.grown hs2 HOB.out HAW.out.1 HAW.out.2)
       have HWRD8 : Aside0 (W8.heap[Wd]? = some (.cells ((h0 :: ws).map Value.string).toArray 9 (0, 0))) := ⟨(hs2.block Wd (lt_of_blk HWRD6.out) (fun e => blk_ne HWRD6.out HOB.out (by decide) (Option.some.inj e))).trans HWRD6.out⟩
       clear z0 z1 z2 z3 f0 f1 f2 f3 hs1 hs2 HPS6 HWRD6 HOB HNM
       refine done_ (done_of HT_.out (by kernel_rfl)) ?_
       have HIN : Aside0 (InAt w w.heap.size P Q Wd W8.heap.size gb (q0 :: qs) (h0 :: ws) n (W8.alloc (.cells #[.pointer (some ⟨gb, 1, none⟩), .pointer (some ⟨gb, 2, none⟩), .pointer (some ⟨gb, 3, none⟩)] 74)) v ops (opOf (idxB h0) [])) := ⟨by
        have hb := below_alloc (Below.refl W8.heap.size W8) (.cells #[.pointer (some ⟨gb, 1, none⟩), .pointer (some ⟨gb, 2, none⟩), .pointer (some ⟨gb, 3, none⟩)] 74)
        exact ⟨HPS8.out.later hb, (hb.block _ (lt_of_blk HWRD8.out)).trans HWRD8.out, box_heap _ _, (hb.block _ (lt_of_blk HOP8.out)).trans HOP8.out, HAW.out.2, HAW.out.1⟩⟩
       have hlt1 : (0 ≤ (ws.length : Int)) = True := eq_true (Int.natCast_nonneg _)
       go_wp2
       ·have HW0 := Aside0.mk h
        clear h
        generalize (W8.alloc (.cells #[.pointer (some ⟨gb, 1, none⟩), .pointer (some ⟨gb, 2, none⟩), .pointer (some ⟨gb, 3, none⟩)] 74)) = WI at HIN ⊢
        generalize W8.heap.size = T at HIN ⊢
        clear HPS8 HWRD8 HOP8
        obtain ⟨wo, rfl⟩ : ∃ wo, wo = wr := ⟨_, rfl⟩
        go_loopg [6, 54] ws.length (fun gi s6 s54 wr2 => ∃ (j : Nat) (xs : List Int), s6 = .bool b0 ∧ s54 = .int .i64 (j : Int) ∧ Aside0 (j ≤ ws.length) ∧ Aside0 (ws.length - j = gi) ∧ Aside0 (InAt w w.heap.size P Q Wd T gb (q0 :: qs) (h0 :: ws) n wr2 v ops (opOf (idxB h0) xs)) ∧ Aside0 (xs.length = j ∧ j ≤ 3) ∧ Aside0 ((ws.take j).mapM numS = some xs))
        case atStart => exact ⟨0, [], rfl, rfl, ⟨by omega⟩, ⟨by omega⟩, HIN, ⟨⟨rfl, by omega⟩⟩, ⟨rfl⟩⟩
        case round =>
         clear HIN
         obtain ⟨j, xs, rfl, rfl, HJ, HJ2, HIN, HXL, HXM⟩ := hrel
         by_cases cj : j < ws.length
         ·exact absurd cj (by rw [HW0.out]; simp)
         ·have hj0 : j = 0 := by have := HJ.out; rw [HW0.out] at this; simpa using this
          subst hj0
          have cjb2 : decide (0 < ws.length) = false := decide_eq_false cj
          have HJE : Aside0 (0 = ws.length) := ⟨by have := HJ.out; omega⟩
          have HOO : Aside0 (opR p = some (opOf (idxB h0) xs)) := ⟨by
           have h1 := HXM.out; rw [HJE.out, List.take_length] at h1
           rw [HOPR.out, if_neg (by have := HXL.out; have := HJE.out; omega), h1]; rfl⟩
          clear cj
          obtain ⟨Ao, co, ev⟩ := Kd.R_slice HIN.out.ps.row
          subst ev
          have v1 : wr.cell? ⟨Q, 1, none⟩ = some (.slice Ao ops.length co) := (blk_cell HIN.out.ps.cur 1).trans rfl
          have vf1 := blk_frozen HIN.out.ps.cur 1
          obtain ⟨O, hO⟩ : ∃ O, O = opOf (idxB h0) xs := ⟨_, rfl⟩
          rw [← hO] at HIN HOO
          clear hO
          have o0 : wr.cell? ⟨gb, 0, none⟩ = some (.int .i64 O.f0) := (blk_cell HIN.out.op 0).trans rfl
          have o1 : wr.cell? ⟨gb, 1, none⟩ = some (.int .i64 O.f1) := (blk_cell HIN.out.op 1).trans rfl
          have o2 : wr.cell? ⟨gb, 2, none⟩ = some (.int .i64 O.f2) := (blk_cell HIN.out.op 2).trans rfl
          have o3 : wr.cell? ⟨gb, 3, none⟩ = some (.int .i64 O.f3) := (blk_cell HIN.out.op 3).trans rfl
          have HOPS : Aside0 (ops.length ≤ 40000) := ⟨by have := HOL.out; have := HQN.out; have := HI.out; omega⟩
          go_wp2_with (first | (at_builtin; refine Kd.R_append k67 (w0 := w) w.heap.size rfl (.tmp 85) (.tmp 87) 23 67 (.agg #[(.int .i64 0), (.int .i64 0), (.int .i64 0), (.int .i64 0)]) 32 rfl Tryd.underlying23 info67 rfl (by decide) (by omega) (.slice Ao ops.length co) ops O [.int .i64 O.f0, .int .i64 O.f1, .int .i64 O.f2, .int .i64 O.f3] (fun _ => True) (fun _ => False) rfl rfl ?aP (fun _ hk => hk.elim) ?aF ?aO ?aB ?aS ?aL ?_; (case aP => exact k67_mkM _ _ _ O); (case aF => exact fun _ _ => trivial); (case aO => exact HIN.out.ps.row); (case aB => exact HIN.out.ps.below); (case aS => exact HIN.out.ps.below.size); (case aL => have := HOPS.out; omega); intro v' w11 ho hb hg hat; obtain ⟨A2, c2, ev2⟩ := Kd.R_slice ho; subst ev2; have hl2 : (ops ++ [O]).length = ops.length + 1 := (by simp); rw [hl2]; have HRO := Aside0.mk ho; have HBB := Aside0.mk hb; have HGG := Aside0.mk hg; have hc11 := blk_grown (g := Q) (o := .cells #[.int .i64 n, .slice Ao ops.length co] 25 (0, 0)) HIN.out.ps.cur hg (Kd.R_ne HIN.out.ps.row HIN.out.ps.cur (by decide)); have HC11 := Aside0.mk hc11; have v11 : w11.cell? ⟨Q, 1, none⟩ = some (.slice Ao ops.length co) := (blk_cell hc11 1).trans rfl; have vf11 := blk_frozen hc11 1; clear ho hb hg hat hl2 hc11))
          have HPN := Aside0.mk (PsAt.stored HIN.out.ps HGG.out HRO.out HBB.out)
          go_roundg (qs.length - (i + 1))
          case measure => have := HG2.out; have := CI.out; omega
          case rel =>
           have := CI.out
           have hl2 : (ops ++ [O]).length = ops.length + 1 := by simp
           refine ⟨i + 1, _, ops ++ [O], rfl, ?_, ⟨by omega⟩, ⟨by omega⟩, ⟨by have h1 := HPN.out; rw [hl2] at h1; exact h1⟩, ⟨by rw [hl2, HOL.out]⟩, ⟨fun hb => HNEXT.out O HOO.out hb⟩⟩
           rw [show wrap64 ((i : Int) + 1) = ((i + 1 : Nat) : Int) by have := HQN.out; unfold wrap64; omega]
       ·clear h
        generalize (W8.alloc (.cells #[.pointer (some ⟨gb, 1, none⟩), .pointer (some ⟨gb, 2, none⟩), .pointer (some ⟨gb, 3, none⟩)] 74)) = WI at HIN ⊢
        generalize W8.heap.size = T at HIN ⊢
        clear HPS8 HWRD8 HOP8
        obtain ⟨wo, rfl⟩ : ∃ wo, wo = wr := ⟨_, rfl⟩
        go_loopg [6, 54] ws.length (fun gi s6 s54 wr2 => ∃ (j : Nat) (xs : List Int), s6 = .bool b0 ∧ s54 = .int .i64 (j : Int) ∧ Aside0 (j ≤ ws.length) ∧ Aside0 (ws.length - j = gi) ∧ Aside0 (InAt w w.heap.size P Q Wd T gb (q0 :: qs) (h0 :: ws) n wr2 v ops (opOf (idxB h0) xs)) ∧ Aside0 (xs.length = j ∧ j ≤ 3) ∧ Aside0 ((ws.take j).mapM numS = some xs))
        case atStart => exact ⟨0, [], rfl, rfl, ⟨by omega⟩, ⟨by omega⟩, HIN, ⟨⟨rfl, by omega⟩⟩, ⟨rfl⟩⟩
        case round =>
         clear HIN
         obtain ⟨j, xs, rfl, rfl, HJ, HJ2, HIN, HXL, HXM⟩ := hrel
         by_cases cj : j < ws.length
         ·have cjb : decide ((j : Int) < (ws.length : Int)) = true := decide_eq_true (by omega)
          have cjb2 : decide (j < ws.length) = true := decide_eq_true cj
          have pj : (j < ws.length) = True := eq_true cj
          obtain ⟨x, hx⟩ : ∃ x, x = ws[j] := ⟨_, rfl⟩
          have xc : wr.cell? ⟨Wd, 1 + j, none⟩ = some (.string x) := by have := str_cell HIN.out.wrd (j + 1) (by simp; omega); rw [hx, Nat.add_comm 1 j]; exact this
          have HXZ : Aside0 (x.size ≤ 40000) := ⟨HWZ.out x (List.mem_cons_of_mem _ (by rw [hx]; exact List.getElem_mem cj))⟩
          have HXN : Aside0 (∀ y, numS x = some y → (ws.take (j + 1)).mapM numS = some (xs ++ [y])) := ⟨fun y hy => mapM_next cj HXM.out (by rw [← hx]; exact hy)⟩
          have HXS : Aside0 (numS x = none → ws.mapM numS = none) := ⟨fun hy => mapM_stop cj (by rw [← hx]; exact hy)⟩
          have CJ := Aside0.mk cj
          clear hx cj
          obtain ⟨is, his⟩ : ∃ b, (numS x).isSome = b := ⟨_, rfl⟩
          have HIS := Aside0.mk his
          clear his
          by_cases hbb : b0 = true
          rotate_left
          ·obtain rfl : b0 = false := Bool.eq_false_iff.2 hbb
           clear hbb
           obtain ⟨rfl, rfl, rfl⟩ := HF.out (by rw [HPF.out, hb0none HB0.out]; rfl)
           go_wp2_with (first | (go_at_call 48; refine (number_calls x _ (Laid.below HLAY.out HIN.out.ps.below) (by have := HXZ.out; omega)).mono ?_; rintro e w10 ⟨y, rfl, hy, hb⟩; rw [show (numB x.data.toList).isSome = is from HIS.out]; have HY := Aside0.mk hy; have HIN10 := Aside0.mk (HIN.out.later hb); have rs0 : w10.cell? ⟨w.heap.size, 0, none⟩ = some (.int .i64 0) := (blk_cell HIN10.out.ps.res 0).trans rfl; have rs1 : w10.cell? ⟨w.heap.size, 1, none⟩ = some (.slice none 0 0) := (blk_cell HIN10.out.ps.res 1).trans rfl; have rf0 := blk_frozen HIN10.out.ps.res 0; have rf1 := blk_frozen HIN10.out.ps.res 1; clear hy hb))
           obtain ⟨WR, hWR, hRB, e0, e1⟩ := zeroed HIN10.out.ps.below HIN10.out.ps.res
           rw [← hWR]
           refine bodyPost_ret (v := zeroR) (by simp [results, Tryd.results14, go_sem, e0, e1, zeroR]) rfl ?_
           exact ⟨_, rfl, Kd.R_nil _ _ _ _ _, hRB⟩
          subst hbb
          by_cases hii : is = true
          rotate_left
          ·obtain rfl : is = false := Bool.eq_false_iff.2 hii
           clear hii
           obtain ⟨rfl, rfl, rfl⟩ := HF.out (HFAIL.out (by rw [HOPR.out, HXS.out (show numS x = none by cases hn : numS x with | none => rfl | some y => have := HIS.out; rw [hn] at this; cases this)]; split <;> rfl))
           go_wp2_with (first | (go_at_call 48; refine (number_calls x _ (Laid.below HLAY.out HIN.out.ps.below) (by have := HXZ.out; omega)).mono ?_; rintro e w10 ⟨y, rfl, hy, hb⟩; rw [show (numB x.data.toList).isSome = false from HIS.out]; have HY := Aside0.mk hy; have HIN10 := Aside0.mk (HIN.out.later hb); have rs0 : w10.cell? ⟨w.heap.size, 0, none⟩ = some (.int .i64 0) := (blk_cell HIN10.out.ps.res 0).trans rfl; have rs1 : w10.cell? ⟨w.heap.size, 1, none⟩ = some (.slice none 0 0) := (blk_cell HIN10.out.ps.res 1).trans rfl; have rf0 := blk_frozen HIN10.out.ps.res 0; have rf1 := blk_frozen HIN10.out.ps.res 1; clear hy hb))
           obtain ⟨WR, hWR, hRB, e0, e1⟩ := zeroed HIN10.out.ps.below HIN10.out.ps.res
           rw [← hWR]
           refine bodyPost_ret (v := zeroR) (by simp [results, Tryd.results14, go_sem, e0, e1, zeroR]) rfl ?_
           exact ⟨_, rfl, Kd.R_nil _ _ _ _ _, hRB⟩
          subst hii
          by_cases hj3 : j < 3
          rotate_left
          ·have h3 : decide ((j : Int) < 3) = false := decide_eq_false (by omega)
           have h3b : decide (j < 3) = false := decide_eq_false hj3
           have HJ3 : Aside0 (3 < ws.length) := ⟨by have := CJ.out; omega⟩
           clear hj3
           obtain ⟨rfl, rfl, rfl⟩ := HF.out (HFAIL.out (by rw [HOPR.out, if_pos HJ3.out]))
           go_wp2_with (first | (go_at_call 48; refine (number_calls x _ (Laid.below HLAY.out HIN.out.ps.below) (by have := HXZ.out; omega)).mono ?_; rintro e w10 ⟨y, rfl, hy, hb⟩; rw [show (numB x.data.toList).isSome = true from HIS.out]; have HY := Aside0.mk hy; have HIN10 := Aside0.mk (HIN.out.later hb); have rs0 : w10.cell? ⟨w.heap.size, 0, none⟩ = some (.int .i64 0) := (blk_cell HIN10.out.ps.res 0).trans rfl; have rs1 : w10.cell? ⟨w.heap.size, 1, none⟩ = some (.slice none 0 0) := (blk_cell HIN10.out.ps.res 1).trans rfl; have rf0 := blk_frozen HIN10.out.ps.res 0; have rf1 := blk_frozen HIN10.out.ps.res 1; clear hy hb))
           obtain ⟨WR, hWR, hRB, e0, e1⟩ := zeroed HIN10.out.ps.below HIN10.out.ps.res
           rw [← hWR]
           refine bodyPost_ret (v := zeroR) (by simp [results, Tryd.results14, go_sem, e0, e1, zeroR]) rfl ?_
           exact ⟨_, rfl, Kd.R_nil _ _ _ _ _, hRB⟩
          have h3 : decide ((j : Int) < 3) = true := decide_eq_true (by omega)
          have h3b : decide (j < 3) = true := decide_eq_true hj3
          have h3c : (j < 3) = True := eq_true hj3
          have h3d : ((j : Int) < 3) = True := eq_true (by omega)
          have HJ3 := Aside0.mk hj3
          clear hj3
          go_wp2_with (first | (go_at_call 48; refine (number_calls x _ (Laid.below HLAY.out HIN.out.ps.below) (by have := HXZ.out; omega)).mono ?_; rintro e w10 ⟨y, rfl, hy, hb⟩; rw [show (numB x.data.toList).isSome = true from HIS.out]; have HY := Aside0.mk hy; have HIN10 := Aside0.mk (HIN.out.later hb); obtain ⟨old, s0, s1, s2⟩ := HIN10.out.cell j HJ3.out; clear hy hb))
          have HPUT := Aside0.mk (HIN10.out.put j HJ3.out y)
          have HYY : Aside0 (numS x = some y) := ⟨by cases hn : numS x with | none => have := HIS.out; rw [hn] at this; cases this | some y' => rw [HY.out y' hn]⟩
          go_roundg (ws.length - (j + 1))
          case measure => have := HJ2.out; have := CJ.out; omega
          case rel =>
           have := CJ.out; have := HJ3.out
           refine ⟨j + 1, xs ++ [y], rfl, ?_, ⟨by omega⟩, ⟨by omega⟩, ⟨by have h1 := HPUT.out; have h2 := opOf_next (idxB h0) xs y (by have := HXL.out.1; omega); rw [HXL.out.1] at h2; rw [h2] at h1; exact h1⟩, ⟨by rw [List.length_append, HXL.out.1]; exact ⟨rfl, by omega⟩⟩, ⟨HXN.out y HYY.out⟩⟩
           (first | rw [show wrap64 ((j : Int) + 1) = ((j + 1 : Nat) : Int) by have := HWN.out; unfold wrap64; omega] | rfl)
         ·have cjb : decide ((j : Int) < (ws.length : Int)) = false := decide_eq_false (by omega)
          have cjb2 : decide (j < ws.length) = false := decide_eq_false cj
          have HJE : Aside0 (j = ws.length) := ⟨by have := HJ.out; omega⟩
          have HOO : Aside0 (opR p = some (opOf (idxB h0) xs)) := ⟨by
           have h1 := HXM.out; rw [HJE.out, List.take_length] at h1
           rw [HOPR.out, if_neg (by have := HXL.out; have := HJE.out; omega), h1]; rfl⟩
          clear cj
          obtain ⟨Ao, co, ev⟩ := Kd.R_slice HIN.out.ps.row
          subst ev
          have v1 : wr.cell? ⟨Q, 1, none⟩ = some (.slice Ao ops.length co) := (blk_cell HIN.out.ps.cur 1).trans rfl
          have vf1 := blk_frozen HIN.out.ps.cur 1
          obtain ⟨O, hO⟩ : ∃ O, O = opOf (idxB h0) xs := ⟨_, rfl⟩
          rw [← hO] at HIN HOO
          clear hO
          have o0 : wr.cell? ⟨gb, 0, none⟩ = some (.int .i64 O.f0) := (blk_cell HIN.out.op 0).trans rfl
          have o1 : wr.cell? ⟨gb, 1, none⟩ = some (.int .i64 O.f1) := (blk_cell HIN.out.op 1).trans rfl
          have o2 : wr.cell? ⟨gb, 2, none⟩ = some (.int .i64 O.f2) := (blk_cell HIN.out.op 2).trans rfl
          have o3 : wr.cell? ⟨gb, 3, none⟩ = some (.int .i64 O.f3) := (blk_cell HIN.out.op 3).trans rfl
          have HOPS : Aside0 (ops.length ≤ 40000) := ⟨by have := HOL.out; have := HQN.out; have := HI.out; omega⟩
          go_wp2_with (first | (at_builtin; refine Kd.R_append k67 (w0 := w) w.heap.size rfl (.tmp 85) (.tmp 87) 23 67 (.agg #[(.int .i64 0), (.int .i64 0), (.int .i64 0), (.int .i64 0)]) 32 rfl Tryd.underlying23 info67 rfl (by decide) (by omega) (.slice Ao ops.length co) ops O [.int .i64 O.f0, .int .i64 O.f1, .int .i64 O.f2, .int .i64 O.f3] (fun _ => True) (fun _ => False) rfl rfl ?aP (fun _ hk => hk.elim) ?aF ?aO ?aB ?aS ?aL ?_; (case aP => exact k67_mkM _ _ _ O); (case aF => exact fun _ _ => trivial); (case aO => exact HIN.out.ps.row); (case aB => exact HIN.out.ps.below); (case aS => exact HIN.out.ps.below.size); (case aL => have := HOPS.out; omega); intro v' w11 ho hb hg hat; obtain ⟨A2, c2, ev2⟩ := Kd.R_slice ho; subst ev2; have hl2 : (ops ++ [O]).length = ops.length + 1 := (by simp); rw [hl2]; have HRO := Aside0.mk ho; have HBB := Aside0.mk hb; have HGG := Aside0.mk hg; have hc11 := blk_grown (g := Q) (o := .cells #[.int .i64 n, .slice Ao ops.length co] 25 (0, 0)) HIN.out.ps.cur hg (Kd.R_ne HIN.out.ps.row HIN.out.ps.cur (by decide)); have HC11 := Aside0.mk hc11; have v11 : w11.cell? ⟨Q, 1, none⟩ = some (.slice Ao ops.length co) := (blk_cell hc11 1).trans rfl; have vf11 := blk_frozen hc11 1; clear ho hb hg hat hl2 hc11))
          have HPN := Aside0.mk (PsAt.stored HIN.out.ps HGG.out HRO.out HBB.out)
          go_roundg (qs.length - (i + 1))
          case measure => have := HG2.out; have := CI.out; omega
          case rel =>
           have := CI.out
           have hl2 : (ops ++ [O]).length = ops.length + 1 := by simp
           refine ⟨i + 1, _, ops ++ [O], rfl, ?_, ⟨by omega⟩, ⟨by omega⟩, ⟨by have h1 := HPN.out; rw [hl2] at h1; exact h1⟩, ⟨by rw [hl2, HOL.out]⟩, ⟨fun hb => HNEXT.out O HOO.out hb⟩⟩
           rw [show wrap64 ((i : Int) + 1) = ((i + 1 : Nat) : Int) by have := HQN.out; unfold wrap64; omega]
      ·skip
       have HUP : Aside0 (W6.heap.size ≤ w7.heap.size) := ⟨HUPn.out⟩
       refine box_step ?hg (N := 11) ?hd (cs := #[.int .i64 0, .int .i64 0, .int .i64 0, .int .i64 0]) (t := 67) ?hr ?_; (case hd => rfl); (case hg => rfl); (case hr => first | (go_simp; done) | (go_simp; rfl))
       intro gb hg w8 hbox hb
       have HGB : Aside0 (w7.heap.size ≤ gb) := ⟨by omega⟩
       have q1 := Aside0.mk (HPS6.out.later hb)
       have q2 := Aside0.mk ((hb.block _ (lt_of_blk HWRD6.out)).trans HWRD6.out)
       have q4 := Aside0.mk ((hb.block _ (lt_of_blk HNM.out)).trans HNM.out)
       clear HPS6 HWRD6 HNM
       have HPS6 := q1
       have HWRD6 := q2
       have HNM := q4
       clear q1 q2 q4
       have HOB := Aside0.mk hbox
       have HAW : Aside0 (w.heap.size ≤ gb ∧ v.ownBlock ≠ some gb) := ⟨by have := HGB.out; have := HSZ0.out; have := HUP.out; omega, fun e => by have := HVO.out gb e; have := HGB.out; have := HUP.out; omega⟩
       clear hbox hb hg
       refine hK.out _ _ ((blk_cell HWRD6.out 0).trans rfl) (fun hHeld => ?_)
       clear hK K
       refine norm_ (a' := ?_) ?_ ?_
       rotate_left
       ·show Act.put _ (some 11) _ = _
        simp only [Act.put, List.setIfInBounds_toArray, List.set_cons_zero, List.set_cons_succ, i64_w, i32_w]
        rfl
       refine one_ (i := 4) (N := some 45) #[true, true, true, true, true, false, true, false] rfl rfl (one_of HT_.out (by kernel_rfl)) (by decide) (fun K hK => ?_)
       refine goes_ Tryd.func49 (by kernel_rfl) rfl #[.slice (some ⟨g, 0, none⟩) namesL.length 4, .string h0] (by rfl) rfl rfl (by (try simp only [List.map_toArray, List.map_cons, List.map_nil]); first | done | rfl) ?_
       refine (slices_Index_string_string.calls 6 (some ⟨g, 0, none⟩) 4 namesL h0 (idxB h0) w8 (reads_str HNM.out (by decide)) (by decide) (idx_f h0)).mono ?_
       rintro e w9 ⟨rfl, nd, hnd⟩
       refine ⟨_, rfl, ?_⟩
       have hb : Below w8.heap.size w8 w9 := by rw [hnd]; exact pw_below_drewN (Below.refl _ _) _
       have q1 := Aside0.mk (HPS6.out.later hb)
       have q2 := Aside0.mk ((hb.block _ (lt_of_blk HWRD6.out)).trans HWRD6.out)
       have q3 := Aside0.mk ((hb.block _ (lt_of_blk HOB.out)).trans HOB.out)
       have q4 := Aside0.mk ((hb.block _ (lt_of_blk HNM.out)).trans HNM.out)
       clear HPS6 HWRD6 HOB HNM
       have HPS6 := q1
       have HWRD6 := q2
       have HOB := q3
       have HNM := q4
       clear q1 q2 q3 q4
       clear hnd hb
       refine hK.out _ _ ((blk_cell HWRD6.out 0).trans rfl) (fun hHeld => ?_)
       clear hK K
       refine norm_ (a' := ?_) ?_ ?_
       rotate_left
       ·show Act.put _ (some 45) _ = _
        simp only [Act.put, List.setIfInBounds_toArray, List.set_cons_zero, List.set_cons_succ, i64_w, i32_w]
        rfl
       refine pure_ (i := 5) (N := some 46) (v := ?_) (a' := ?_) #[true, true, true, true, true, true, true, false] rfl rfl (any_of HT_.out (by kernel_rfl)) (fun _ _ _ h => h) (Or.inl ⟨by rfl, ?_⟩) ?_ ?_
       rotate_left
       ·intro w'
        go_simp
        with_reducible rfl
       rotate_left
       ·simp only [Act.put, List.setIfInBounds_toArray, List.set_cons_zero, List.set_cons_succ, i64_w, i32_w]
        rfl
       refine last_ (i := 7) (N := none) #[true, true, true, true, true, true, true, true] rfl rfl (one_of HT_.out (by kernel_rfl)) (by decide) (fun K hK => ?_)
       have z0 : w9.cell? ⟨gb, 0, none⟩ = some (.int .i64 0) := (blk_cell HOB.out 0).trans rfl
       have z1 : w9.cell? ⟨gb, 1, none⟩ = some (.int .i64 0) := (blk_cell HOB.out 1).trans rfl
       have z2 : w9.cell? ⟨gb, 2, none⟩ = some (.int .i64 0) := (blk_cell HOB.out 2).trans rfl
       have z3 : w9.cell? ⟨gb, 3, none⟩ = some (.int .i64 0) := (blk_cell HOB.out 3).trans rfl
       have f0 := blk_frozen HOB.out 0
       have f1 := blk_frozen HOB.out 1
       have f2 := blk_frozen HOB.out 2
       have f3 := blk_frozen HOB.out 3
       refine skip_ (w1 := ?_) (by rfl) rfl ?_ ?_
       rotate_left
       ·go_simp
        rfl
       refine hK.out _ _ ?_
       clear hK K
       obtain ⟨hs1, hs2⟩ := set4 HOB.out (.int .i64 (idxB h0)) (.int .i64 0) (.int .i64 0) (.int .i64 0)
       generalize ((((w9.setCell ⟨gb, 0, none⟩ (.int .i64 (idxB h0))).setCell ⟨gb, 1, none⟩ (.int .i64 0)).setCell ⟨gb, 2, none⟩ (.int .i64 0)).setCell ⟨gb, 3, none⟩ (.int .i64 0)) = W8 at hs1 hs2 ⊢
       have HOP8 : Aside0 (W8.heap[gb]? = some (.cells #[.int .i64 (opOf (idxB h0) []).f0, .int .i64 (opOf (idxB h0) []).f1, .int .i64 (opOf (idxB h0) []).f2, .int .i64 (opOf (idxB h0) []).f3] 67 (0, 0))) := ⟨hs1⟩
       have HPS8 := Aside0.mk (HPS6.out.grown hs2 HOB.out HAW.out.1 HAW.out.2)
       have HWRD8 : Aside0 (W8.heap[Wd]? = some (.cells ((h0 :: ws).map Value.string).toArray 9 (0, 0))) := ⟨(hs2.block Wd (lt_of_blk HWRD6.out) (fun e => blk_ne HWRD6.out HOB.out (by decide) (Option.some.inj e))).trans HWRD6.out⟩
       clear z0 z1 z2 z3 f0 f1 f2 f3 hs1 hs2 HPS6 HWRD6 HOB HNM
       refine done_ (done_of HT_.out (by kernel_rfl)) ?_
       have HIN : Aside0 (InAt w w.heap.size P Q Wd W8.heap.size gb (q0 :: qs) (h0 :: ws) n (W8.alloc (.cells #[.pointer (some ⟨gb, 1, none⟩), .pointer (some ⟨gb, 2, none⟩), .pointer (some ⟨gb, 3, none⟩)] 74)) v ops (opOf (idxB h0) [])) := ⟨by
        have hb := below_alloc (Below.refl W8.heap.size W8) (.cells #[.pointer (some ⟨gb, 1, none⟩), .pointer (some ⟨gb, 2, none⟩), .pointer (some ⟨gb, 3, none⟩)] 74)
        exact ⟨HPS8.out.later hb, (hb.block _ (lt_of_blk HWRD8.out)).trans HWRD8.out, box_heap _ _, (hb.block _ (lt_of_blk HOP8.out)).trans HOP8.out, HAW.out.2, HAW.out.1⟩⟩
       have hlt1 : (0 ≤ (ws.length : Int)) = True := eq_true (Int.natCast_nonneg _)
       go_wp2
       ·have HW0 := Aside0.mk h
        clear h
        generalize (W8.alloc (.cells #[.pointer (some ⟨gb, 1, none⟩), .pointer (some ⟨gb, 2, none⟩), .pointer (some ⟨gb, 3, none⟩)] 74)) = WI at HIN ⊢
        generalize W8.heap.size = T at HIN ⊢
        clear HPS8 HWRD8 HOP8
        obtain ⟨wo, rfl⟩ : ∃ wo, wo = wr := ⟨_, rfl⟩
        go_loopg [6, 54] ws.length (fun gi s6 s54 wr2 => ∃ (j : Nat) (xs : List Int), s6 = .bool b0 ∧ s54 = .int .i64 (j : Int) ∧ Aside0 (j ≤ ws.length) ∧ Aside0 (ws.length - j = gi) ∧ Aside0 (InAt w w.heap.size P Q Wd T gb (q0 :: qs) (h0 :: ws) n wr2 v ops (opOf (idxB h0) xs)) ∧ Aside0 (xs.length = j ∧ j ≤ 3) ∧ Aside0 ((ws.take j).mapM numS = some xs))
        case atStart => exact ⟨0, [], rfl, rfl, ⟨by omega⟩, ⟨by omega⟩, HIN, ⟨⟨rfl, by omega⟩⟩, ⟨rfl⟩⟩
        case round =>
         clear HIN
         obtain ⟨j, xs, rfl, rfl, HJ, HJ2, HIN, HXL, HXM⟩ := hrel
         by_cases cj : j < ws.length
         ·exact absurd cj (by rw [HW0.out]; simp)
         ·have hj0 : j = 0 := by have := HJ.out; rw [HW0.out] at this; simpa using this
          subst hj0
          have cjb2 : decide (0 < ws.length) = false := decide_eq_false cj
          have HJE : Aside0 (0 = ws.length) := ⟨by have := HJ.out; omega⟩
          have HOO : Aside0 (opR p = some (opOf (idxB h0) xs)) := ⟨by
           have h1 := HXM.out; rw [HJE.out, List.take_length] at h1
           rw [HOPR.out, if_neg (by have := HXL.out; have := HJE.out; omega), h1]; rfl⟩
          clear cj
          obtain ⟨Ao, co, ev⟩ := Kd.R_slice HIN.out.ps.row
          subst ev
          have v1 : wr.cell? ⟨Q, 1, none⟩ = some (.slice Ao ops.length co) := (blk_cell HIN.out.ps.cur 1).trans rfl
          have vf1 := blk_frozen HIN.out.ps.cur 1
          obtain ⟨O, hO⟩ : ∃ O, O = opOf (idxB h0) xs := ⟨_, rfl⟩
          rw [← hO] at HIN HOO
          clear hO
          have o0 : wr.cell? ⟨gb, 0, none⟩ = some (.int .i64 O.f0) := (blk_cell HIN.out.op 0).trans rfl
          have o1 : wr.cell? ⟨gb, 1, none⟩ = some (.int .i64 O.f1) := (blk_cell HIN.out.op 1).trans rfl
          have o2 : wr.cell? ⟨gb, 2, none⟩ = some (.int .i64 O.f2) := (blk_cell HIN.out.op 2).trans rfl
          have o3 : wr.cell? ⟨gb, 3, none⟩ = some (.int .i64 O.f3) := (blk_cell HIN.out.op 3).trans rfl
          have HOPS : Aside0 (ops.length ≤ 40000) := ⟨by have := HOL.out; have := HQN.out; have := HI.out; omega⟩
          go_wp2_with (first | (at_builtin; refine Kd.R_append k67 (w0 := w) w.heap.size rfl (.tmp 85) (.tmp 87) 23 67 (.agg #[(.int .i64 0), (.int .i64 0), (.int .i64 0), (.int .i64 0)]) 32 rfl Tryd.underlying23 info67 rfl (by decide) (by omega) (.slice Ao ops.length co) ops O [.int .i64 O.f0, .int .i64 O.f1, .int .i64 O.f2, .int .i64 O.f3] (fun _ => True) (fun _ => False) rfl rfl ?aP (fun _ hk => hk.elim) ?aF ?aO ?aB ?aS ?aL ?_; (case aP => exact k67_mkM _ _ _ O); (case aF => exact fun _ _ => trivial); (case aO => exact HIN.out.ps.row); (case aB => exact HIN.out.ps.below); (case aS => exact HIN.out.ps.below.size); (case aL => have := HOPS.out; omega); intro v' w11 ho hb hg hat; obtain ⟨A2, c2, ev2⟩ := Kd.R_slice ho; subst ev2; have hl2 : (ops ++ [O]).length = ops.length + 1 := (by simp); rw [hl2]; have HRO := Aside0.mk ho; have HBB := Aside0.mk hb; have HGG := Aside0.mk hg; have hc11 := blk_grown (g := Q) (o := .cells #[.int .i64 n, .slice Ao ops.length co] 25 (0, 0)) HIN.out.ps.cur hg (Kd.R_ne HIN.out.ps.row HIN.out.ps.cur (by decide)); have HC11 := Aside0.mk hc11; have v11 : w11.cell? ⟨Q, 1, none⟩ = some (.slice Ao ops.length co) := (blk_cell hc11 1).trans rfl; have vf11 := blk_frozen hc11 1; clear ho hb hg hat hl2 hc11))
          have HPN := Aside0.mk (PsAt.stored HIN.out.ps HGG.out HRO.out HBB.out)
          go_roundg (qs.length - (i + 1))
          case measure => have := HG2.out; have := CI.out; omega
          case rel =>
           have := CI.out
           have hl2 : (ops ++ [O]).length = ops.length + 1 := by simp
           refine ⟨i + 1, _, ops ++ [O], rfl, ?_, ⟨by omega⟩, ⟨by omega⟩, ⟨by have h1 := HPN.out; rw [hl2] at h1; exact h1⟩, ⟨by rw [hl2, HOL.out]⟩, ⟨fun hb => HNEXT.out O HOO.out hb⟩⟩
           rw [show wrap64 ((i : Int) + 1) = ((i + 1 : Nat) : Int) by have := HQN.out; unfold wrap64; omega]
       ·clear h
        generalize (W8.alloc (.cells #[.pointer (some ⟨gb, 1, none⟩), .pointer (some ⟨gb, 2, none⟩), .pointer (some ⟨gb, 3, none⟩)] 74)) = WI at HIN ⊢
        generalize W8.heap.size = T at HIN ⊢
        clear HPS8 HWRD8 HOP8
        obtain ⟨wo, rfl⟩ : ∃ wo, wo = wr := ⟨_, rfl⟩
        go_loopg [6, 54] ws.length (fun gi s6 s54 wr2 => ∃ (j : Nat) (xs : List Int), s6 = .bool b0 ∧ s54 = .int .i64 (j : Int) ∧ Aside0 (j ≤ ws.length) ∧ Aside0 (ws.length - j = gi) ∧ Aside0 (InAt w w.heap.size P Q Wd T gb (q0 :: qs) (h0 :: ws) n wr2 v ops (opOf (idxB h0) xs)) ∧ Aside0 (xs.length = j ∧ j ≤ 3) ∧ Aside0 ((ws.take j).mapM numS = some xs))
        case atStart => exact ⟨0, [], rfl, rfl, ⟨by omega⟩, ⟨by omega⟩, HIN, ⟨⟨rfl, by omega⟩⟩, ⟨rfl⟩⟩
        case round =>
         clear HIN
         obtain ⟨j, xs, rfl, rfl, HJ, HJ2, HIN, HXL, HXM⟩ := hrel
         by_cases cj : j < ws.length
         ·have cjb : decide ((j : Int) < (ws.length : Int)) = true := decide_eq_true (by omega)
          have cjb2 : decide (j < ws.length) = true := decide_eq_true cj
          have pj : (j < ws.length) = True := eq_true cj
          obtain ⟨x, hx⟩ : ∃ x, x = ws[j] := ⟨_, rfl⟩
          have xc : wr.cell? ⟨Wd, 1 + j, none⟩ = some (.string x) := by have := str_cell HIN.out.wrd (j + 1) (by simp; omega); rw [hx, Nat.add_comm 1 j]; exact this
          have HXZ : Aside0 (x.size ≤ 40000) := ⟨HWZ.out x (List.mem_cons_of_mem _ (by rw [hx]; exact List.getElem_mem cj))⟩
          have HXN : Aside0 (∀ y, numS x = some y → (ws.take (j + 1)).mapM numS = some (xs ++ [y])) := ⟨fun y hy => mapM_next cj HXM.out (by rw [← hx]; exact hy)⟩
          have HXS : Aside0 (numS x = none → ws.mapM numS = none) := ⟨fun hy => mapM_stop cj (by rw [← hx]; exact hy)⟩
          have CJ := Aside0.mk cj
          clear hx cj
          obtain ⟨is, his⟩ : ∃ b, (numS x).isSome = b := ⟨_, rfl⟩
          have HIS := Aside0.mk his
          clear his
          by_cases hbb : b0 = true
          rotate_left
          ·obtain rfl : b0 = false := Bool.eq_false_iff.2 hbb
           clear hbb
           obtain ⟨rfl, rfl, rfl⟩ := HF.out (by rw [HPF.out, hb0none HB0.out]; rfl)
           go_wp2_with (first | (go_at_call 48; refine (number_calls x _ (Laid.below HLAY.out HIN.out.ps.below) (by have := HXZ.out; omega)).mono ?_; rintro e w10 ⟨y, rfl, hy, hb⟩; rw [show (numB x.data.toList).isSome = is from HIS.out]; have HY := Aside0.mk hy; have HIN10 := Aside0.mk (HIN.out.later hb); have rs0 : w10.cell? ⟨w.heap.size, 0, none⟩ = some (.int .i64 0) := (blk_cell HIN10.out.ps.res 0).trans rfl; have rs1 : w10.cell? ⟨w.heap.size, 1, none⟩ = some (.slice none 0 0) := (blk_cell HIN10.out.ps.res 1).trans rfl; have rf0 := blk_frozen HIN10.out.ps.res 0; have rf1 := blk_frozen HIN10.out.ps.res 1; clear hy hb))
           obtain ⟨WR, hWR, hRB, e0, e1⟩ := zeroed HIN10.out.ps.below HIN10.out.ps.res
           rw [← hWR]
           refine bodyPost_ret (v := zeroR) (by simp [results, Tryd.results14, go_sem, e0, e1, zeroR]) rfl ?_
           exact ⟨_, rfl, Kd.R_nil _ _ _ _ _, hRB⟩
          subst hbb
          by_cases hii : is = true
          rotate_left
          ·obtain rfl : is = false := Bool.eq_false_iff.2 hii
           clear hii
           obtain ⟨rfl, rfl, rfl⟩ := HF.out (HFAIL.out (by rw [HOPR.out, HXS.out (show numS x = none by cases hn : numS x with | none => rfl | some y => have := HIS.out; rw [hn] at this; cases this)]; split <;> rfl))
           go_wp2_with (first | (go_at_call 48; refine (number_calls x _ (Laid.below HLAY.out HIN.out.ps.below) (by have := HXZ.out; omega)).mono ?_; rintro e w10 ⟨y, rfl, hy, hb⟩; rw [show (numB x.data.toList).isSome = false from HIS.out]; have HY := Aside0.mk hy; have HIN10 := Aside0.mk (HIN.out.later hb); have rs0 : w10.cell? ⟨w.heap.size, 0, none⟩ = some (.int .i64 0) := (blk_cell HIN10.out.ps.res 0).trans rfl; have rs1 : w10.cell? ⟨w.heap.size, 1, none⟩ = some (.slice none 0 0) := (blk_cell HIN10.out.ps.res 1).trans rfl; have rf0 := blk_frozen HIN10.out.ps.res 0; have rf1 := blk_frozen HIN10.out.ps.res 1; clear hy hb))
           obtain ⟨WR, hWR, hRB, e0, e1⟩ := zeroed HIN10.out.ps.below HIN10.out.ps.res
           rw [← hWR]
           refine bodyPost_ret (v := zeroR) (by simp [results, Tryd.results14, go_sem, e0, e1, zeroR]) rfl ?_
           exact ⟨_, rfl, Kd.R_nil _ _ _ _ _, hRB⟩
          subst hii
          by_cases hj3 : j < 3
          rotate_left
          ·have h3 : decide ((j : Int) < 3) = false := decide_eq_false (by omega)
           have h3b : decide (j < 3) = false := decide_eq_false hj3
           have HJ3 : Aside0 (3 < ws.length) := ⟨by have := CJ.out; omega⟩
           clear hj3
           obtain ⟨rfl, rfl, rfl⟩ := HF.out (HFAIL.out (by rw [HOPR.out, if_pos HJ3.out]))
           go_wp2_with (first | (go_at_call 48; refine (number_calls x _ (Laid.below HLAY.out HIN.out.ps.below) (by have := HXZ.out; omega)).mono ?_; rintro e w10 ⟨y, rfl, hy, hb⟩; rw [show (numB x.data.toList).isSome = true from HIS.out]; have HY := Aside0.mk hy; have HIN10 := Aside0.mk (HIN.out.later hb); have rs0 : w10.cell? ⟨w.heap.size, 0, none⟩ = some (.int .i64 0) := (blk_cell HIN10.out.ps.res 0).trans rfl; have rs1 : w10.cell? ⟨w.heap.size, 1, none⟩ = some (.slice none 0 0) := (blk_cell HIN10.out.ps.res 1).trans rfl; have rf0 := blk_frozen HIN10.out.ps.res 0; have rf1 := blk_frozen HIN10.out.ps.res 1; clear hy hb))
           obtain ⟨WR, hWR, hRB, e0, e1⟩ := zeroed HIN10.out.ps.below HIN10.out.ps.res
           rw [← hWR]
           refine bodyPost_ret (v := zeroR) (by simp [results, Tryd.results14, go_sem, e0, e1, zeroR]) rfl ?_
           exact ⟨_, rfl, Kd.R_nil _ _ _ _ _, hRB⟩
          have h3 : decide ((j : Int) < 3) = true := decide_eq_true (by omega)
          have h3b : decide (j < 3) = true := decide_eq_true hj3
          have h3c : (j < 3) = True := eq_true hj3
          have h3d : ((j : Int) < 3) = True := eq_true (by omega)
          have HJ3 := Aside0.mk hj3
          clear hj3
          go_wp2_with (first | (go_at_call 48; refine (number_calls x _ (Laid.below HLAY.out HIN.out.ps.below) (by have := HXZ.out; omega)).mono ?_; rintro e w10 ⟨y, rfl, hy, hb⟩; rw [show (numB x.data.toList).isSome = true from HIS.out]; have HY := Aside0.mk hy; have HIN10 := Aside0.mk (HIN.out.later hb); obtain ⟨old, s0, s1, s2⟩ := HIN10.out.cell j HJ3.out; clear hy hb))
          have HPUT := Aside0.mk (HIN10.out.put j HJ3.out y)
          have HYY : Aside0 (numS x = some y) := ⟨by cases hn : numS x with | none => have := HIS.out; rw [hn] at this; cases this | some y' => rw [HY.out y' hn]⟩
          go_roundg (ws.length - (j + 1))
          case measure => have := HJ2.out; have := CJ.out; omega
          case rel =>
           have := CJ.out; have := HJ3.out
           refine ⟨j + 1, xs ++ [y], rfl, ?_, ⟨by omega⟩, ⟨by omega⟩, ⟨by have h1 := HPUT.out; have h2 := opOf_next (idxB h0) xs y (by have := HXL.out.1; omega); rw [HXL.out.1] at h2; rw [h2] at h1; exact h1⟩, ⟨by rw [List.length_append, HXL.out.1]; exact ⟨rfl, by omega⟩⟩, ⟨HXN.out y HYY.out⟩⟩
           (first | rw [show wrap64 ((j : Int) + 1) = ((j + 1 : Nat) : Int) by have := HWN.out; unfold wrap64; omega] | rfl)
         ·have cjb : decide ((j : Int) < (ws.length : Int)) = false := decide_eq_false (by omega)
          have cjb2 : decide (j < ws.length) = false := decide_eq_false cj
          have HJE : Aside0 (j = ws.length) := ⟨by have := HJ.out; omega⟩
          have HOO : Aside0 (opR p = some (opOf (idxB h0) xs)) := ⟨by
           have h1 := HXM.out; rw [HJE.out, List.take_length] at h1
           rw [HOPR.out, if_neg (by have := HXL.out; have := HJE.out; omega), h1]; rfl⟩
          clear cj
          obtain ⟨Ao, co, ev⟩ := Kd.R_slice HIN.out.ps.row
          subst ev
          have v1 : wr.cell? ⟨Q, 1, none⟩ = some (.slice Ao ops.length co) := (blk_cell HIN.out.ps.cur 1).trans rfl
          have vf1 := blk_frozen HIN.out.ps.cur 1
          obtain ⟨O, hO⟩ : ∃ O, O = opOf (idxB h0) xs := ⟨_, rfl⟩
          rw [← hO] at HIN HOO
          clear hO
          have o0 : wr.cell? ⟨gb, 0, none⟩ = some (.int .i64 O.f0) := (blk_cell HIN.out.op 0).trans rfl
          have o1 : wr.cell? ⟨gb, 1, none⟩ = some (.int .i64 O.f1) := (blk_cell HIN.out.op 1).trans rfl
          have o2 : wr.cell? ⟨gb, 2, none⟩ = some (.int .i64 O.f2) := (blk_cell HIN.out.op 2).trans rfl
          have o3 : wr.cell? ⟨gb, 3, none⟩ = some (.int .i64 O.f3) := (blk_cell HIN.out.op 3).trans rfl
          have HOPS : Aside0 (ops.length ≤ 40000) := ⟨by have := HOL.out; have := HQN.out; have := HI.out; omega⟩
          go_wp2_with (first | (at_builtin; refine Kd.R_append k67 (w0 := w) w.heap.size rfl (.tmp 85) (.tmp 87) 23 67 (.agg #[(.int .i64 0), (.int .i64 0), (.int .i64 0), (.int .i64 0)]) 32 rfl Tryd.underlying23 info67 rfl (by decide) (by omega) (.slice Ao ops.length co) ops O [.int .i64 O.f0, .int .i64 O.f1, .int .i64 O.f2, .int .i64 O.f3] (fun _ => True) (fun _ => False) rfl rfl ?aP (fun _ hk => hk.elim) ?aF ?aO ?aB ?aS ?aL ?_; (case aP => exact k67_mkM _ _ _ O); (case aF => exact fun _ _ => trivial); (case aO => exact HIN.out.ps.row); (case aB => exact HIN.out.ps.below); (case aS => exact HIN.out.ps.below.size); (case aL => have := HOPS.out; omega); intro v' w11 ho hb hg hat; obtain ⟨A2, c2, ev2⟩ := Kd.R_slice ho; subst ev2; have hl2 : (ops ++ [O]).length = ops.length + 1 := (by simp); rw [hl2]; have HRO := Aside0.mk ho; have HBB := Aside0.mk hb; have HGG := Aside0.mk hg; have hc11 := blk_grown (g := Q) (o := .cells #[.int .i64 n, .slice Ao ops.length co] 25 (0, 0)) HIN.out.ps.cur hg (Kd.R_ne HIN.out.ps.row HIN.out.ps.cur (by decide)); have HC11 := Aside0.mk hc11; have v11 : w11.cell? ⟨Q, 1, none⟩ = some (.slice Ao ops.length co) := (blk_cell hc11 1).trans rfl; have vf11 := blk_frozen hc11 1; clear ho hb hg hat hl2 hc11))
          have HPN := Aside0.mk (PsAt.stored HIN.out.ps HGG.out HRO.out HBB.out)
          go_roundg (qs.length - (i + 1))
          case measure => have := HG2.out; have := CI.out; omega
          case rel =>
           have := CI.out
           have hl2 : (ops ++ [O]).length = ops.length + 1 := by simp
           refine ⟨i + 1, _, ops ++ [O], rfl, ?_, ⟨by omega⟩, ⟨by omega⟩, ⟨by have h1 := HPN.out; rw [hl2] at h1; exact h1⟩, ⟨by rw [hl2, HOL.out]⟩, ⟨fun hb => HNEXT.out O HOO.out hb⟩⟩
           rw [show wrap64 ((i : Int) + 1) = ((i + 1 : Nat) : Int) by have := HQN.out; unfold wrap64; omega]
     ·skip
      have HUP : Aside0 (W6.heap.size ≤ W6.heap.size) := ⟨Nat.le_refl _⟩
      refine box_step ?hg (N := 11) ?hd (cs := #[.int .i64 0, .int .i64 0, .int .i64 0, .int .i64 0]) (t := 67) ?hr ?_; (case hd => rfl); (case hg => rfl); (case hr => first | (go_simp; done) | (go_simp; rfl))
      intro gb hg w7 hbox hb
      have HGB : Aside0 (W6.heap.size ≤ gb) := ⟨by omega⟩
      have q1 := Aside0.mk (HPS6.out.later hb)
      have q2 := Aside0.mk ((hb.block _ (lt_of_blk HWRD6.out)).trans HWRD6.out)
      clear HPS6 HWRD6
      have HPS6 := q1
      have HWRD6 := q2
      clear q1 q2
      have HOB := Aside0.mk hbox
      have HAW : Aside0 (w.heap.size ≤ gb ∧ v.ownBlock ≠ some gb) := ⟨by have := HGB.out; have := HSZ0.out; have := HUP.out; omega, fun e => by have := HVO.out gb e; have := HGB.out; have := HUP.out; omega⟩
      clear hbox hb hg
      refine hK.out _ _ ((blk_cell HWRD6.out 0).trans rfl) (fun hHeld => ?_)
      clear hK K
      refine norm_ (a' := ?_) ?_ ?_
      rotate_left
      ·show Act.put _ (some 11) _ = _
       simp only [Act.put, List.setIfInBounds_toArray, List.set_cons_zero, List.set_cons_succ, i64_w, i32_w]
       rfl
      refine one_ (i := 0) (N := some 41) #[true, true, true, true, false, false, true, false] rfl rfl (one_of HT_.out (by kernel_rfl)) (by decide) (fun K hK => ?_)
      refine goes_ Tryd.func50 (by kernel_rfl) rfl #[.string namesS] (by rfl) rfl rfl (by (try simp only [List.map_toArray, List.map_cons, List.map_nil]); first | done | rfl) ?_
      refine (names_calls' w7 (Laid.below HLAY.out HPS6.out.below)).mono ?_
      rintro e w8 ⟨g, rfl, hnm, hb⟩
      refine ⟨_, rfl, ?_⟩
      have q1 := Aside0.mk (HPS6.out.later hb)
      have q2 := Aside0.mk ((hb.block _ (lt_of_blk HWRD6.out)).trans HWRD6.out)
      have q3 := Aside0.mk ((hb.block _ (lt_of_blk HOB.out)).trans HOB.out)
      clear HPS6 HWRD6 HOB
      have HPS6 := q1
      have HWRD6 := q2
      have HOB := q3
      clear q1 q2 q3
      have HNM := Aside0.mk hnm
      clear hnm hb
      refine hK.out _ _ ((blk_cell HWRD6.out 0).trans rfl) (fun hHeld => ?_)
      clear hK K
      refine norm_ (a' := ?_) ?_ ?_
      rotate_left
      ·show Act.put _ (some 41) _ = _
       simp only [Act.put, List.setIfInBounds_toArray, List.set_cons_zero, List.set_cons_succ, i64_w, i32_w]
       rfl
      refine one_ (i := 4) (N := some 45) #[true, true, true, true, true, false, true, false] rfl rfl (one_of HT_.out (by kernel_rfl)) (by decide) (fun K hK => ?_)
      refine goes_ Tryd.func49 (by kernel_rfl) rfl #[.slice (some ⟨g, 0, none⟩) namesL.length 4, .string h0] (by rfl) rfl rfl (by (try simp only [List.map_toArray, List.map_cons, List.map_nil]); first | done | rfl) ?_
      refine (slices_Index_string_string.calls 6 (some ⟨g, 0, none⟩) 4 namesL h0 (idxB h0) w8 (reads_str HNM.out (by decide)) (by decide) (idx_f h0)).mono ?_
      rintro e w9 ⟨rfl, nd, hnd⟩
      refine ⟨_, rfl, ?_⟩
      have hb : Below w8.heap.size w8 w9 := by rw [hnd]; exact pw_below_drewN (Below.refl _ _) _
      have q1 := Aside0.mk (HPS6.out.later hb)
      have q2 := Aside0.mk ((hb.block _ (lt_of_blk HWRD6.out)).trans HWRD6.out)
      have q3 := Aside0.mk ((hb.block _ (lt_of_blk HOB.out)).trans HOB.out)
      have q4 := Aside0.mk ((hb.block _ (lt_of_blk HNM.out)).trans HNM.out)
      clear HPS6 HWRD6 HOB HNM
      have HPS6 := q1
      have HWRD6 := q2
      have HOB := q3
      have HNM := q4
      clear q1 q2 q3 q4
      clear hnd hb
      refine hK.out _ _ ((blk_cell HWRD6.out 0).trans rfl) (fun hHeld => ?_)
      clear hK K
      refine norm_ (a' := ?_) ?_ ?_
      rotate_left
      ·show Act.put _ (some 45) _ = _
       simp only [Act.put, List.setIfInBounds_toArray, List.set_cons_zero, List.set_cons_succ, i64_w, i32_w]
       rfl
      refine pure_ (i := 5) (N := some 46) (v := ?_) (a' := ?_) #[true, true, true, true, true, true, true, false] rfl rfl (any_of HT_.out (by kernel_rfl)) (fun _ _ _ h => h) (Or.inl ⟨by rfl, ?_⟩) ?_ ?_
      rotate_left
      ·intro w'
       go_simp
       with_reducible rfl
      rotate_left
      ·simp only [Act.put, List.setIfInBounds_toArray, List.set_cons_zero, List.set_cons_succ, i64_w, i32_w]
       rfl
      refine last_ (i := 7) (N := none) #[true, true, true, true, true, true, true, true] rfl rfl (one_of HT_.out (by kernel_rfl)) (by decide) (fun K hK => ?_)
      have z0 : w9.cell? ⟨gb, 0, none⟩ = some (.int .i64 0) := (blk_cell HOB.out 0).trans rfl
      have z1 : w9.cell? ⟨gb, 1, none⟩ = some (.int .i64 0) := (blk_cell HOB.out 1).trans rfl
      have z2 : w9.cell? ⟨gb, 2, none⟩ = some (.int .i64 0) := (blk_cell HOB.out 2).trans rfl
      have z3 : w9.cell? ⟨gb, 3, none⟩ = some (.int .i64 0) := (blk_cell HOB.out 3).trans rfl
      have f0 := blk_frozen HOB.out 0
      have f1 := blk_frozen HOB.out 1
      have f2 := blk_frozen HOB.out 2
      have f3 := blk_frozen HOB.out 3
      refine skip_ (w1 := ?_) (by rfl) rfl ?_ ?_
      rotate_left
      ·go_simp
       rfl
      refine hK.out _ _ ?_
      clear hK K
      obtain ⟨hs1, hs2⟩ := set4 HOB.out (.int .i64 (idxB h0)) (.int .i64 0) (.int .i64 0) (.int .i64 0)
      generalize ((((w9.setCell ⟨gb, 0, none⟩ (.int .i64 (idxB h0))).setCell ⟨gb, 1, none⟩ (.int .i64 0)).setCell ⟨gb, 2, none⟩ (.int .i64 0)).setCell ⟨gb, 3, none⟩ (.int .i64 0)) = W8 at hs1 hs2 ⊢
      have HOP8 : Aside0 (W8.heap[gb]? = some (.cells #[.int .i64 (opOf (idxB h0) []).f0, .int .i64 (opOf (idxB h0) []).f1, .int .i64 (opOf (idxB h0) []).f2, .int .i64 (opOf (idxB h0) []).f3] 67 (0, 0))) := ⟨hs1⟩
      have HPS8 := Aside0.mk (HPS6.out.grown hs2 HOB.out HAW.out.1 HAW.out.2)
      have HWRD8 : Aside0 (W8.heap[Wd]? = some (.cells ((h0 :: ws).map Value.string).toArray 9 (0, 0))) := ⟨(hs2.block Wd (lt_of_blk HWRD6.out) (fun e => blk_ne HWRD6.out HOB.out (by decide) (Option.some.inj e))).trans HWRD6.out⟩
      clear z0 z1 z2 z3 f0 f1 f2 f3 hs1 hs2 HPS6 HWRD6 HOB HNM
      refine done_ (done_of HT_.out (by kernel_rfl)) ?_
      have HIN : Aside0 (InAt w w.heap.size P Q Wd W8.heap.size gb (q0 :: qs) (h0 :: ws) n (W8.alloc (.cells #[.pointer (some ⟨gb, 1, none⟩), .pointer (some ⟨gb, 2, none⟩), .pointer (some ⟨gb, 3, none⟩)] 74)) v ops (opOf (idxB h0) [])) := ⟨by
       have hb := below_alloc (Below.refl W8.heap.size W8) (.cells #[.pointer (some ⟨gb, 1, none⟩), .pointer (some ⟨gb, 2, none⟩), .pointer (some ⟨gb, 3, none⟩)] 74)
       exact ⟨HPS8.out.later hb, (hb.block _ (lt_of_blk HWRD8.out)).trans HWRD8.out, box_heap _ _, (hb.block _ (lt_of_blk HOP8.out)).trans HOP8.out, HAW.out.2, HAW.out.1⟩⟩
      have hlt1 : (0 ≤ (ws.length : Int)) = True := eq_true (Int.natCast_nonneg _)
      go_wp2
      ·have HW0 := Aside0.mk h
       clear h
       generalize (W8.alloc (.cells #[.pointer (some ⟨gb, 1, none⟩), .pointer (some ⟨gb, 2, none⟩), .pointer (some ⟨gb, 3, none⟩)] 74)) = WI at HIN ⊢
       generalize W8.heap.size = T at HIN ⊢
       clear HPS8 HWRD8 HOP8
       obtain ⟨wo, rfl⟩ : ∃ wo, wo = wr := ⟨_, rfl⟩
       go_loopg [6, 54] ws.length (fun gi s6 s54 wr2 => ∃ (j : Nat) (xs : List Int), s6 = .bool b0 ∧ s54 = .int .i64 (j : Int) ∧ Aside0 (j ≤ ws.length) ∧ Aside0 (ws.length - j = gi) ∧ Aside0 (InAt w w.heap.size P Q Wd T gb (q0 :: qs) (h0 :: ws) n wr2 v ops (opOf (idxB h0) xs)) ∧ Aside0 (xs.length = j ∧ j ≤ 3) ∧ Aside0 ((ws.take j).mapM numS = some xs))
       case atStart => exact ⟨0, [], rfl, rfl, ⟨by omega⟩, ⟨by omega⟩, HIN, ⟨⟨rfl, by omega⟩⟩, ⟨rfl⟩⟩
       case round =>
        clear HIN
        obtain ⟨j, xs, rfl, rfl, HJ, HJ2, HIN, HXL, HXM⟩ := hrel
        by_cases cj : j < ws.length
        ·exact absurd cj (by rw [HW0.out]; simp)
        ·have hj0 : j = 0 := by have := HJ.out; rw [HW0.out] at this; simpa using this
         subst hj0
         have cjb2 : decide (0 < ws.length) = false := decide_eq_false cj
         have HJE : Aside0 (0 = ws.length) := ⟨by have := HJ.out; omega⟩
         have HOO : Aside0 (opR p = some (opOf (idxB h0) xs)) := ⟨by
          have h1 := HXM.out; rw [HJE.out, List.take_length] at h1
          rw [HOPR.out, if_neg (by have := HXL.out; have := HJE.out; omega), h1]; rfl⟩
         clear cj
         obtain ⟨Ao, co, ev⟩ := Kd.R_slice HIN.out.ps.row
         subst ev
         have v1 : wr.cell? ⟨Q, 1, none⟩ = some (.slice Ao ops.length co) := (blk_cell HIN.out.ps.cur 1).trans rfl
         have vf1 := blk_frozen HIN.out.ps.cur 1
         obtain ⟨O, hO⟩ : ∃ O, O = opOf (idxB h0) xs := ⟨_, rfl⟩
         rw [← hO] at HIN HOO
         clear hO
         have o0 : wr.cell? ⟨gb, 0, none⟩ = some (.int .i64 O.f0) := (blk_cell HIN.out.op 0).trans rfl
         have o1 : wr.cell? ⟨gb, 1, none⟩ = some (.int .i64 O.f1) := (blk_cell HIN.out.op 1).trans rfl
         have o2 : wr.cell? ⟨gb, 2, none⟩ = some (.int .i64 O.f2) := (blk_cell HIN.out.op 2).trans rfl
         have o3 : wr.cell? ⟨gb, 3, none⟩ = some (.int .i64 O.f3) := (blk_cell HIN.out.op 3).trans rfl
         have HOPS : Aside0 (ops.length ≤ 40000) := ⟨by have := HOL.out; have := HQN.out; have := HI.out; omega⟩
         go_wp2_with (first | (at_builtin; refine Kd.R_append k67 (w0 := w) w.heap.size rfl (.tmp 85) (.tmp 87) 23 67 (.agg #[(.int .i64 0), (.int .i64 0), (.int .i64 0), (.int .i64 0)]) 32 rfl Tryd.underlying23 info67 rfl (by decide) (by omega) (.slice Ao ops.length co) ops O [.int .i64 O.f0, .int .i64 O.f1, .int .i64 O.f2, .int .i64 O.f3] (fun _ => True) (fun _ => False) rfl rfl ?aP (fun _ hk => hk.elim) ?aF ?aO ?aB ?aS ?aL ?_; (case aP => exact k67_mkM _ _ _ O); (case aF => exact fun _ _ => trivial); (case aO => exact HIN.out.ps.row); (case aB => exact HIN.out.ps.below); (case aS => exact HIN.out.ps.below.size); (case aL => have := HOPS.out; omega); intro v' w11 ho hb hg hat; obtain ⟨A2, c2, ev2⟩ := Kd.R_slice ho; subst ev2; have hl2 : (ops ++ [O]).length = ops.length + 1 := (by simp); rw [hl2]; have HRO := Aside0.mk ho; have HBB := Aside0.mk hb; have HGG := Aside0.mk hg; have hc11 := blk_grown (g := Q) (o := .cells #[.int .i64 n, .slice Ao ops.length co] 25 (0, 0)) HIN.out.ps.cur hg (Kd.R_ne HIN.out.ps.row HIN.out.ps.cur (by decide)); have HC11 := Aside0.mk hc11; have v11 : w11.cell? ⟨Q, 1, none⟩ = some (.slice Ao ops.length co) := (blk_cell hc11 1).trans rfl; have vf11 := blk_frozen hc11 1; clear ho hb hg hat hl2 hc11))
         have HPN := Aside0.mk (PsAt.stored HIN.out.ps HGG.out HRO.out HBB.out)
         go_roundg (qs.length - (i + 1))
         case measure => have := HG2.out; have := CI.out; omega
         case rel =>
          have := CI.out
          have hl2 : (ops ++ [O]).length = ops.length + 1 := by simp
          refine ⟨i + 1, _, ops ++ [O], rfl, ?_, ⟨by omega⟩, ⟨by omega⟩, ⟨by have h1 := HPN.out; rw [hl2] at h1; exact h1⟩, ⟨by rw [hl2, HOL.out]⟩, ⟨fun hb => HNEXT.out O HOO.out hb⟩⟩
          rw [show wrap64 ((i : Int) + 1) = ((i + 1 : Nat) : Int) by have := HQN.out; unfold wrap64; omega]
      ·clear h
       generalize (W8.alloc (.cells #[.pointer (some ⟨gb, 1, none⟩), .pointer (some ⟨gb, 2, none⟩), .pointer (some ⟨gb, 3, none⟩)] 74)) = WI at HIN ⊢
       generalize W8.heap.size = T at HIN ⊢
       clear HPS8 HWRD8 HOP8
       obtain ⟨wo, rfl⟩ : ∃ wo, wo = wr := ⟨_, rfl⟩
       go_loopg [6, 54] ws.length (fun gi s6 s54 wr2 => ∃ (j : Nat) (xs : List Int), s6 = .bool b0 ∧ s54 = .int .i64 (j : Int) ∧ Aside0 (j ≤ ws.length) ∧ Aside0 (ws.length - j = gi) ∧ Aside0 (InAt w w.heap.size P Q Wd T gb (q0 :: qs) (h0 :: ws) n wr2 v ops (opOf (idxB h0) xs)) ∧ Aside0 (xs.length = j ∧ j ≤ 3) ∧ Aside0 ((ws.take j).mapM numS = some xs))
       case atStart => exact ⟨0, [], rfl, rfl, ⟨by omega⟩, ⟨by omega⟩, HIN, ⟨⟨rfl, by omega⟩⟩, ⟨rfl⟩⟩
       case round =>
        clear HIN
        obtain ⟨j, xs, rfl, rfl, HJ, HJ2, HIN, HXL, HXM⟩ := hrel
        by_cases cj : j < ws.length
        ·have cjb : decide ((j : Int) < (ws.length : Int)) = true := decide_eq_true (by omega)
         have cjb2 : decide (j < ws.length) = true := decide_eq_true cj
         have pj : (j < ws.length) = True := eq_true cj
         obtain ⟨x, hx⟩ : ∃ x, x = ws[j] := ⟨_, rfl⟩
         have xc : wr.cell? ⟨Wd, 1 + j, none⟩ = some (.string x) := by have := str_cell HIN.out.wrd (j + 1) (by simp; omega); rw [hx, Nat.add_comm 1 j]; exact this
         have HXZ : Aside0 (x.size ≤ 40000) := ⟨HWZ.out x (List.mem_cons_of_mem _ (by rw [hx]; exact List.getElem_mem cj))⟩
         have HXN : Aside0 (∀ y, numS x = some y → (ws.take (j + 1)).mapM numS = some (xs ++ [y])) := ⟨fun y hy => mapM_next cj HXM.out (by rw [← hx]; exact hy)⟩
         have HXS : Aside0 (numS x = none → ws.mapM numS = none) := ⟨fun hy => mapM_stop cj (by rw [← hx]; exact hy)⟩
         have CJ := Aside0.mk cj
         clear hx cj
         obtain ⟨is, his⟩ : ∃ b, (numS x).isSome = b := ⟨_, rfl⟩
         have HIS := Aside0.mk his
         clear his
         by_cases hbb : b0 = true
         rotate_left
         ·obtain rfl : b0 = false := Bool.eq_false_iff.2 hbb
          clear hbb
          obtain ⟨rfl, rfl, rfl⟩ := HF.out (by rw [HPF.out, hb0none HB0.out]; rfl)
          go_wp2_with (first | (go_at_call 48; refine (number_calls x _ (Laid.below HLAY.out HIN.out.ps.below) (by have := HXZ.out; omega)).mono ?_; rintro e w10 ⟨y, rfl, hy, hb⟩; rw [show (numB x.data.toList).isSome = is from HIS.out]; have HY := Aside0.mk hy; have HIN10 := Aside0.mk (HIN.out.later hb); have rs0 : w10.cell? ⟨w.heap.size, 0, none⟩ = some (.int .i64 0) := (blk_cell HIN10.out.ps.res 0).trans rfl; have rs1 : w10.cell? ⟨w.heap.size, 1, none⟩ = some (.slice none 0 0) := (blk_cell HIN10.out.ps.res 1).trans rfl; have rf0 := blk_frozen HIN10.out.ps.res 0; have rf1 := blk_frozen HIN10.out.ps.res 1; clear hy hb))
          obtain ⟨WR, hWR, hRB, e0, e1⟩ := zeroed HIN10.out.ps.below HIN10.out.ps.res
          rw [← hWR]
          refine bodyPost_ret (v := zeroR) (by simp [results, Tryd.results14, go_sem, e0, e1, zeroR]) rfl ?_
          exact ⟨_, rfl, Kd.R_nil _ _ _ _ _, hRB⟩
         subst hbb
         by_cases hii : is = true
         rotate_left
         ·obtain rfl : is = false := Bool.eq_false_iff.2 hii
          clear hii
          obtain ⟨rfl, rfl, rfl⟩ := HF.out (HFAIL.out (by rw [HOPR.out, HXS.out (show numS x = none by cases hn : numS x with | none => rfl | some y => have := HIS.out; rw [hn] at this; cases this)]; split <;> rfl))
          go_wp2_with (first | (go_at_call 48; refine (number_calls x _ (Laid.below HLAY.out HIN.out.ps.below) (by have := HXZ.out; omega)).mono ?_; rintro e w10 ⟨y, rfl, hy, hb⟩; rw [show (numB x.data.toList).isSome = false from HIS.out]; have HY := Aside0.mk hy; have HIN10 := Aside0.mk (HIN.out.later hb); have rs0 : w10.cell? ⟨w.heap.size, 0, none⟩ = some (.int .i64 0) := (blk_cell HIN10.out.ps.res 0).trans rfl; have rs1 : w10.cell? ⟨w.heap.size, 1, none⟩ = some (.slice none 0 0) := (blk_cell HIN10.out.ps.res 1).trans rfl; have rf0 := blk_frozen HIN10.out.ps.res 0; have rf1 := blk_frozen HIN10.out.ps.res 1; clear hy hb))
          obtain ⟨WR, hWR, hRB, e0, e1⟩ := zeroed HIN10.out.ps.below HIN10.out.ps.res
          rw [← hWR]
          refine bodyPost_ret (v := zeroR) (by simp [results, Tryd.results14, go_sem, e0, e1, zeroR]) rfl ?_
          exact ⟨_, rfl, Kd.R_nil _ _ _ _ _, hRB⟩
         subst hii
         by_cases hj3 : j < 3
         rotate_left
         ·have h3 : decide ((j : Int) < 3) = false := decide_eq_false (by omega)
          have h3b : decide (j < 3) = false := decide_eq_false hj3
          have HJ3 : Aside0 (3 < ws.length) := ⟨by have := CJ.out; omega⟩
          clear hj3
          obtain ⟨rfl, rfl, rfl⟩ := HF.out (HFAIL.out (by rw [HOPR.out, if_pos HJ3.out]))
          go_wp2_with (first | (go_at_call 48; refine (number_calls x _ (Laid.below HLAY.out HIN.out.ps.below) (by have := HXZ.out; omega)).mono ?_; rintro e w10 ⟨y, rfl, hy, hb⟩; rw [show (numB x.data.toList).isSome = true from HIS.out]; have HY := Aside0.mk hy; have HIN10 := Aside0.mk (HIN.out.later hb); have rs0 : w10.cell? ⟨w.heap.size, 0, none⟩ = some (.int .i64 0) := (blk_cell HIN10.out.ps.res 0).trans rfl; have rs1 : w10.cell? ⟨w.heap.size, 1, none⟩ = some (.slice none 0 0) := (blk_cell HIN10.out.ps.res 1).trans rfl; have rf0 := blk_frozen HIN10.out.ps.res 0; have rf1 := blk_frozen HIN10.out.ps.res 1; clear hy hb))
          obtain ⟨WR, hWR, hRB, e0, e1⟩ := zeroed HIN10.out.ps.below HIN10.out.ps.res
          rw [← hWR]
          refine bodyPost_ret (v := zeroR) (by simp [results, Tryd.results14, go_sem, e0, e1, zeroR]) rfl ?_
          exact ⟨_, rfl, Kd.R_nil _ _ _ _ _, hRB⟩
         have h3 : decide ((j : Int) < 3) = true := decide_eq_true (by omega)
         have h3b : decide (j < 3) = true := decide_eq_true hj3
         have h3c : (j < 3) = True := eq_true hj3
         have h3d : ((j : Int) < 3) = True := eq_true (by omega)
         have HJ3 := Aside0.mk hj3
         clear hj3
         go_wp2_with (first | (go_at_call 48; refine (number_calls x _ (Laid.below HLAY.out HIN.out.ps.below) (by have := HXZ.out; omega)).mono ?_; rintro e w10 ⟨y, rfl, hy, hb⟩; rw [show (numB x.data.toList).isSome = true from HIS.out]; have HY := Aside0.mk hy; have HIN10 := Aside0.mk (HIN.out.later hb); obtain ⟨old, s0, s1, s2⟩ := HIN10.out.cell j HJ3.out; clear hy hb))
         have HPUT := Aside0.mk (HIN10.out.put j HJ3.out y)
         have HYY : Aside0 (numS x = some y) := ⟨by cases hn : numS x with | none => have := HIS.out; rw [hn] at this; cases this | some y' => rw [HY.out y' hn]⟩
         go_roundg (ws.length - (j + 1))
         case measure => have := HJ2.out; have := CJ.out; omega
         case rel =>
          have := CJ.out; have := HJ3.out
          refine ⟨j + 1, xs ++ [y], rfl, ?_, ⟨by omega⟩, ⟨by omega⟩, ⟨by have h1 := HPUT.out; have h2 := opOf_next (idxB h0) xs y (by have := HXL.out.1; omega); rw [HXL.out.1] at h2; rw [h2] at h1; exact h1⟩, ⟨by rw [List.length_append, HXL.out.1]; exact ⟨rfl, by omega⟩⟩, ⟨HXN.out y HYY.out⟩⟩
          (first | rw [show wrap64 ((j : Int) + 1) = ((j + 1 : Nat) : Int) by have := HWN.out; unfold wrap64; omega] | rfl)
        ·have cjb : decide ((j : Int) < (ws.length : Int)) = false := decide_eq_false (by omega)
         have cjb2 : decide (j < ws.length) = false := decide_eq_false cj
         have HJE : Aside0 (j = ws.length) := ⟨by have := HJ.out; omega⟩
         have HOO : Aside0 (opR p = some (opOf (idxB h0) xs)) := ⟨by
          have h1 := HXM.out; rw [HJE.out, List.take_length] at h1
          rw [HOPR.out, if_neg (by have := HXL.out; have := HJE.out; omega), h1]; rfl⟩
         clear cj
         obtain ⟨Ao, co, ev⟩ := Kd.R_slice HIN.out.ps.row
         subst ev
         have v1 : wr.cell? ⟨Q, 1, none⟩ = some (.slice Ao ops.length co) := (blk_cell HIN.out.ps.cur 1).trans rfl
         have vf1 := blk_frozen HIN.out.ps.cur 1
         obtain ⟨O, hO⟩ : ∃ O, O = opOf (idxB h0) xs := ⟨_, rfl⟩
         rw [← hO] at HIN HOO
         clear hO
         have o0 : wr.cell? ⟨gb, 0, none⟩ = some (.int .i64 O.f0) := (blk_cell HIN.out.op 0).trans rfl
         have o1 : wr.cell? ⟨gb, 1, none⟩ = some (.int .i64 O.f1) := (blk_cell HIN.out.op 1).trans rfl
         have o2 : wr.cell? ⟨gb, 2, none⟩ = some (.int .i64 O.f2) := (blk_cell HIN.out.op 2).trans rfl
         have o3 : wr.cell? ⟨gb, 3, none⟩ = some (.int .i64 O.f3) := (blk_cell HIN.out.op 3).trans rfl
         have HOPS : Aside0 (ops.length ≤ 40000) := ⟨by have := HOL.out; have := HQN.out; have := HI.out; omega⟩
         go_wp2_with (first | (at_builtin; refine Kd.R_append k67 (w0 := w) w.heap.size rfl (.tmp 85) (.tmp 87) 23 67 (.agg #[(.int .i64 0), (.int .i64 0), (.int .i64 0), (.int .i64 0)]) 32 rfl Tryd.underlying23 info67 rfl (by decide) (by omega) (.slice Ao ops.length co) ops O [.int .i64 O.f0, .int .i64 O.f1, .int .i64 O.f2, .int .i64 O.f3] (fun _ => True) (fun _ => False) rfl rfl ?aP (fun _ hk => hk.elim) ?aF ?aO ?aB ?aS ?aL ?_; (case aP => exact k67_mkM _ _ _ O); (case aF => exact fun _ _ => trivial); (case aO => exact HIN.out.ps.row); (case aB => exact HIN.out.ps.below); (case aS => exact HIN.out.ps.below.size); (case aL => have := HOPS.out; omega); intro v' w11 ho hb hg hat; obtain ⟨A2, c2, ev2⟩ := Kd.R_slice ho; subst ev2; have hl2 : (ops ++ [O]).length = ops.length + 1 := (by simp); rw [hl2]; have HRO := Aside0.mk ho; have HBB := Aside0.mk hb; have HGG := Aside0.mk hg; have hc11 := blk_grown (g := Q) (o := .cells #[.int .i64 n, .slice Ao ops.length co] 25 (0, 0)) HIN.out.ps.cur hg (Kd.R_ne HIN.out.ps.row HIN.out.ps.cur (by decide)); have HC11 := Aside0.mk hc11; have v11 : w11.cell? ⟨Q, 1, none⟩ = some (.slice Ao ops.length co) := (blk_cell hc11 1).trans rfl; have vf11 := blk_frozen hc11 1; clear ho hb hg hat hl2 hc11))
         have HPN := Aside0.mk (PsAt.stored HIN.out.ps HGG.out HRO.out HBB.out)
         go_roundg (qs.length - (i + 1))
         case measure => have := HG2.out; have := CI.out; omega
         case rel =>
          have := CI.out
          have hl2 : (ops ++ [O]).length = ops.length + 1 := by simp
          refine ⟨i + 1, _, ops ++ [O], rfl, ?_, ⟨by omega⟩, ⟨by omega⟩, ⟨by have h1 := HPN.out; rw [hl2] at h1; exact h1⟩, ⟨by rw [hl2, HOL.out]⟩, ⟨fun hb => HNEXT.out O HOO.out hb⟩⟩
          rw [show wrap64 ((i : Int) + 1) = ((i + 1 : Nat) : Int) by have := HQN.out; unfold wrap64; omega]
    ·have cib : decide ((i : Int) < (qs.length : Int)) = false := decide_eq_false (by omega)
     have cib2 : decide (i < qs.length) = false := decide_eq_false ci
     have HIE : Aside0 (i = qs.length) := ⟨by have := HI.out; omega⟩
     clear ci
     obtain ⟨Ao, co, ev⟩ := Kd.R_slice HPS.out.row
     subst ev
     have HRD := Aside0.mk (Kd.R_reads' HPS.out.row)
     have HCL : Aside0 (ops.length ≤ co) := ⟨own_cap HPS.out.row⟩
     have y0 : wr.cell? ⟨Q, 0, none⟩ = some (.int .i64 n) := (blk_cell HPS.out.cur 0).trans rfl
     have y1 : wr.cell? ⟨Q, 1, none⟩ = some (.slice Ao ops.length co) := (blk_cell HPS.out.cur 1).trans rfl
     by_cases hbb : b0 = true
     rotate_left
     ·obtain rfl : b0 = false := Bool.eq_false_iff.2 hbb
      clear hbb
      have rs0 : wr.cell? ⟨w.heap.size, 0, none⟩ = some (.int .i64 0) := (blk_cell HPS.out.res 0).trans rfl
      have rs1 : wr.cell? ⟨w.heap.size, 1, none⟩ = some (.slice none 0 0) := (blk_cell HPS.out.res 1).trans rfl
      have rf0 := blk_frozen HPS.out.res 0
      have rf1 := blk_frozen HPS.out.res 1
      obtain ⟨rfl, rfl, rfl⟩ := HF.out (by rw [HPF.out, hb0none HB0.out]; rfl)
      go_wp2
      obtain ⟨WR, hWR, hRB, e0, e1⟩ := zeroed HPS.out.below HPS.out.res
      rw [← hWR]
      refine bodyPost_ret (v := zeroR) (by simp [results, Tryd.results14, go_sem, e0, e1, zeroR]) rfl ?_
      exact ⟨_, rfl, Kd.R_nil _ _ _ _ _, hRB⟩
     subst hbb
     have HNN : Aside0 (numS q0 = some n) := ⟨by cases hn : numS q0 with | none => have := HB0.out; rw [show numB q0.data.toList = none from hn] at this; cases this | some y' => rw [HN.out y' hn]⟩
     have HOM : Aside0 (qs.mapM opR = some ops) := ⟨by have h1 := HOK.out rfl; rw [HIE.out, List.take_length] at h1; exact h1⟩
     have HPF2 : Aside0 (parseF a0 = if validB n ops = true ∧ writeB n ops = a0.data.toList then some (n, ops) else none) := ⟨by rw [HPF.out, HNN.out, HOM.out]; rfl⟩
     cases hv : validB n ops with
     | false =>
      have hvf : undo_Valid.f n ops = some false := congrArg some hv
      have HV := Aside0.mk hv
      clear hv
      obtain ⟨rfl, rfl, rfl⟩ := HF.out (by rw [HPF2.out, if_neg (by rw [HV.out]; simp)])
      go_wp2_with (first | (go_at_call 28; refine (undo_Valid.calls n Ao co ops false _ HRD.out.2.2 HCL.out hvf).mono ?_; rintro e w12 ⟨rfl, hb⟩; have HPS12 := Aside0.mk (HPS.out.later hb); have y0' : w12.cell? ⟨Q, 0, none⟩ = some (.int .i64 n) := (blk_cell HPS12.out.cur 0).trans rfl; have y1' : w12.cell? ⟨Q, 1, none⟩ = some (.slice Ao ops.length co) := (blk_cell HPS12.out.cur 1).trans rfl; have rs0 : w12.cell? ⟨w.heap.size, 0, none⟩ = some (.int .i64 0) := (blk_cell HPS12.out.res 0).trans rfl; have rs1 : w12.cell? ⟨w.heap.size, 1, none⟩ = some (.slice none 0 0) := (blk_cell HPS12.out.res 1).trans rfl; have rf0 := blk_frozen HPS12.out.res 0; have rf1 := blk_frozen HPS12.out.res 1; clear hb))
      obtain ⟨WR, hWR, hRB, e0, e1⟩ := zeroed HPS12.out.below HPS12.out.res
      rw [← hWR]
      refine bodyPost_ret (v := zeroR) (by simp [results, Tryd.results14, go_sem, e0, e1, zeroR]) rfl ?_
      exact ⟨_, rfl, Kd.R_nil _ _ _ _ _, hRB⟩
     | true =>
      have hvf : undo_Valid.f n ops = some true := congrArg some hv
      obtain ⟨TX, hTX⟩ : ∃ TX : ByteArray, TX = ⟨(writeB n ops).toArray⟩ := ⟨_, rfl⟩
      have HWR : Aside0 (undo_write.f n ops = some TX) := ⟨by rw [hTX]; exact if_pos hv⟩
      have HTX : Aside0 (TX.toList = a0.toList ↔ writeB n ops = a0.data.toList) := ⟨by rw [hTX]; exact toList_iff _ _⟩
      clear hTX
      have HV := Aside0.mk hv
      clear hv
      by_cases hw : writeB n ops = a0.data.toList
      rotate_left
      ·have e1 : (TX.toList != a0.toList) = true := bne_iff_ne.2 (fun e => hw (HTX.out.1 e))
       have e2 : (TX.toList == a0.toList) = false := beq_eq_false_iff_ne.2 (fun e => hw (HTX.out.1 e))
       have HW := Aside0.mk hw
       clear hw
       obtain ⟨rfl, rfl, rfl⟩ := HF.out (by rw [HPF2.out, if_neg (fun h => HW.out h.2)])
       go_wp2_with (first | (go_at_call 28; refine (undo_Valid.calls n Ao co ops true _ HRD.out.2.2 HCL.out hvf).mono ?_; rintro e w12 ⟨rfl, hb⟩; have HPS12 := Aside0.mk (HPS.out.later hb); have y0' : w12.cell? ⟨Q, 0, none⟩ = some (.int .i64 n) := (blk_cell HPS12.out.cur 0).trans rfl; have y1' : w12.cell? ⟨Q, 1, none⟩ = some (.slice Ao ops.length co) := (blk_cell HPS12.out.cur 1).trans rfl; skip; clear hb) | (go_at_call 51; refine (undo_write.calls n Ao co ops TX _ (Kd.R_reads' HPS12.out.row).2.2 HCL.out (Laid.below HLAY.out HPS12.out.below) HWR.out).mono ?_; rintro e w13 ⟨rfl, hb⟩; have HPS13 := Aside0.mk (HPS12.out.later hb); have y0'' : w13.cell? ⟨Q, 0, none⟩ = some (.int .i64 n) := (blk_cell HPS13.out.cur 0).trans rfl; have y1'' : w13.cell? ⟨Q, 1, none⟩ = some (.slice Ao ops.length co) := (blk_cell HPS13.out.cur 1).trans rfl; have rs0 : w13.cell? ⟨w.heap.size, 0, none⟩ = some (.int .i64 0) := (blk_cell HPS13.out.res 0).trans rfl; have rs1 : w13.cell? ⟨w.heap.size, 1, none⟩ = some (.slice none 0 0) := (blk_cell HPS13.out.res 1).trans rfl; have rf0 := blk_frozen HPS13.out.res 0; have rf1 := blk_frozen HPS13.out.res 1; clear hb))
       obtain ⟨WR, hWR, hRB, e0, e1⟩ := zeroed HPS13.out.below HPS13.out.res
       rw [← hWR]
       refine bodyPost_ret (v := zeroR) (by simp [results, Tryd.results14, go_sem, e0, e1, zeroR]) rfl ?_
       exact ⟨_, rfl, Kd.R_nil _ _ _ _ _, hRB⟩
      have e1 : (TX.toList != a0.toList) = false := bne_eq_false_iff_eq.2 (HTX.out.2 hw)
      have e2 : (TX.toList == a0.toList) = true := beq_iff_eq.2 (HTX.out.2 hw)
      obtain ⟨rfl, rfl, rfl⟩ := HG.out n ops (by rw [HPF2.out, if_pos ⟨HV.out, hw⟩])
      clear hw
      go_wp2_with (first | (go_at_call 28; refine (undo_Valid.calls r1 Ao co r2 true _ HRD.out.2.2 HCL.out hvf).mono ?_; rintro e w12 ⟨rfl, hb⟩; have HPS12 := Aside0.mk (HPS.out.later hb); have y0' : w12.cell? ⟨Q, 0, none⟩ = some (.int .i64 r1) := (blk_cell HPS12.out.cur 0).trans rfl; have y1' : w12.cell? ⟨Q, 1, none⟩ = some (.slice Ao r2.length co) := (blk_cell HPS12.out.cur 1).trans rfl; skip; clear hb) | (go_at_call 51; refine (undo_write.calls r1 Ao co r2 TX _ (Kd.R_reads' HPS12.out.row).2.2 HCL.out (Laid.below HLAY.out HPS12.out.below) HWR.out).mono ?_; rintro e w13 ⟨rfl, hb⟩; have HPS13 := Aside0.mk (HPS12.out.later hb); have y0'' : w13.cell? ⟨Q, 0, none⟩ = some (.int .i64 r1) := (blk_cell HPS13.out.cur 0).trans rfl; have y1'' : w13.cell? ⟨Q, 1, none⟩ = some (.slice Ao r2.length co) := (blk_cell HPS13.out.cur 1).trans rfl; have rs0 : w13.cell? ⟨w.heap.size, 0, none⟩ = some (.int .i64 0) := (blk_cell HPS13.out.res 0).trans rfl; have rs1 : w13.cell? ⟨w.heap.size, 1, none⟩ = some (.slice none 0 0) := (blk_cell HPS13.out.res 1).trans rfl; have rf0 := blk_frozen HPS13.out.res 0; have rf1 := blk_frozen HPS13.out.res 1; clear hb))
      have HFIN := Aside0.mk (PsAt.done HPS13.out)
      have hrb := blk_set (blk_set HPS13.out.res 0 (.int .i64 r1)) 1 (.slice Ao r2.length co)
      have g0 : ((w13.setCell ⟨w.heap.size, 0, none⟩ (.int .i64 r1)).setCell ⟨w.heap.size, 1, none⟩ (.slice Ao r2.length co)).cell? ⟨w.heap.size, 0, none⟩ = some (.int .i64 r1) := (blk_cell hrb 0).trans rfl
      have g1 : ((w13.setCell ⟨w.heap.size, 0, none⟩ (.int .i64 r1)).setCell ⟨w.heap.size, 1, none⟩ (.slice Ao r2.length co)).cell? ⟨w.heap.size, 1, none⟩ = some (.slice Ao r2.length co) := (blk_cell hrb 1).trans rfl
      clear hrb
      generalize ((w13.setCell ⟨w.heap.size, 0, none⟩ (.int .i64 r1)).setCell ⟨w.heap.size, 1, none⟩ (.slice Ao r2.length co)) = WR at HFIN g0 g1 ⊢
      refine bodyPost_ret (v := .tuple #[.agg #[.int .i64 r1, .slice Ao r2.length co], .int .i64 0]) (by simp [results, Tryd.results14, go_sem, g0, g1]) rfl ?_
      exact ⟨_, rfl, HFIN.out.1, HFIN.out.2⟩
end Go.Proofs.YthfhnkpipdbekaaDoor.Giv
