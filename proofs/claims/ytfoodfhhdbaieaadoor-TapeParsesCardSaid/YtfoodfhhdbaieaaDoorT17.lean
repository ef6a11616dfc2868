-- CUT by a program of this session: what the claim does not use is left out
import Derived.Test.YtfoodfhhdbaieaaDoorT16
namespace Go.Proofs.YtfoodfhhdbaieaaDoor.Giv
set_option maxRecDepth 100000
set_option linter.unusedSimpArgs false
set_option linter.unusedVariables false
open Go.RowKit Go.Shelf Go.Proofs.YtfoodfhhdbaieaaDoorW.PrintWords Go.Proofs.YtfoodfhhdbaieaaDoorW.PrintLast Go.Proofs.YtfoodfhhdbaieaaDoorW.PrintMore
open Go.Proofs.YtfoodfhhdbaieaaDoor.Ka (S40 k40 z40 rd_T40 at_T40 k40_open k40_mk rd_L1 at_L1 info3 info38 info40)

def RunBad (w : World) (er : Int) (e : Ending) (w' : World) : Prop := e = .returned (.tuple #[.pointer none, .int .i64 0, .int .i64 er]) ∧ Below w.heap.size w w'
theorem start_in {a0 a1 a2 : Int} {A : Option Addr} {c : Nat} {l : List S40} {A5 : Option Addr} {c5 : Nat} {inp : List Int} {w : World} (hr : Kd.C k40 w A l.length l) (h5 : Kd.C (Kd.int .i64) w A5 inp.length inp) (hlc : inp.length ≤ c5) (o : Obj) :
  Calls Tryd.prog 46 #[.agg #[.int .i64 a0, .int .i64 a1, .int .i64 a2, .slice A l.length c], .slice A5 inp.length c5] (w.alloc o) fun e w' => ∃ A1 c1 A2 c2, e = .returned (.tuple #[.agg #[.int .i64 (startF a0 a1 a2 l inp).1, .slice A1 (startF a0 a1 a2 l inp).2.1.length c1, .slice A2 (startF a0 a1 a2 l inp).2.2.1.length c2], .int .i64 (startF a0 a1 a2 l inp).2.2.2]) ∧
   Kd.C (Kd.int .i64) w' A1 (startF a0 a1 a2 l inp).2.1.length (startF a0 a1 a2 l inp).2.1 ∧ Kd.C (Kd.slice 3 (Kd.int .i64)) w' A2 (startF a0 a1 a2 l inp).2.2.1.length (startF a0 a1 a2 l inp).2.2.1 ∧ Below (w.heap.size + 1) (w.alloc o) w' := by
 have hb : Below w.heap.size w (w.alloc o) := (Below.refl _ _).alloc (Nat.le_refl _) _
 refine (start_walk a0 a1 a2 A c l A5 c5 inp (w.alloc o) (Kd.C_below hr hb) (Kd.C_below h5 hb) hlc).mono ?_
 rintro e w' ⟨v, rfl, ⟨A1, c1, A2, c2, rfl, _, g1, _, g2⟩, hb'⟩
 exact ⟨A1, c1, A2, c2, rfl, g1, g2, by simpa using hb'⟩
set_option maxHeartbeats 1000000 in
set_option maxRecDepth 100000 in
theorem run_start_err (a0 a1 a2 : Int) (A : Option Addr) (c : Nat) (l : List S40) (A5 : Option Addr) (c5 : Nat) (inp : List Int) (most : Int) (g : Nat) (lb : Array Value) (w : World) (hr : Kd.C k40 w A l.length l) (h5 : Kd.C (Kd.int .i64) w A5 inp.length inp) (hlc : inp.length ≤ c5) (er : Int) (he : (startF a0 a1 a2 l inp).2.2.2 = er) (h0 : er ≠ 0) :
  Calls Tryd.prog 30 #[.agg #[.int .i64 a0, .int .i64 a1, .int .i64 a2, .slice A l.length c], .slice A5 inp.length c5, .int .i64 most, .func (.func g) #[] lb] w (RunBad w er) := by
 have HS := Aside0.mk (start_in (a0 := a0) (a1 := a1) (a2 := a2) (c := c) hr h5 hlc (.cells #[.int .i64 a0, .int .i64 a1, .int .i64 a2, .slice A l.length c] 24))
 have HE := Aside0.mk he
 have d0 : (er != 0) = true := by simpa using h0
 clear hr h5 hlc he h0
 go_enter Tryd.func30, Tryd.ntmps30
 go_wp2_with (go_at_call 46; refine HS.out.mono ?_; rintro e w1 ⟨A1, c1, A2, c2, rfl, g1, g2, hb⟩; rw [HE.out]; have HB := Aside0.mk hb; clear hb g1 g2)
 refine bodyPost_ret (v := .tuple #[.pointer none, .int .i64 0, .int .i64 er]) (by simp [results, Tryd.results30, go_sem]) rfl ?_
 exact ⟨rfl, by
  have := HB.out
  have h1 : Below w.heap.size w w1 := ((Below.refl w.heap.size w).alloc (Nat.le_refl _) _).trans (this.mono (by omega))
  exact h1.alloc h1.size _⟩
set_option maxHeartbeats 1000000 in
set_option maxRecDepth 100000 in
theorem run_many_err (a0 a1 a2 : Int) (A : Option Addr) (c : Nat) (l : List S40) (A5 : Option Addr) (c5 : Nat) (inp : List Int) (most : Int) (g : Nat) (lb : Array Value) (w : World) (hr : Kd.C k40 w A l.length l) (h5 : Kd.C (Kd.int .i64) w A5 inp.length inp) (hlc : inp.length ≤ c5) (he : (startF a0 a1 a2 l inp).2.2.2 = 0) (h0 : most < 0 ∨ 20000 < most) :
  Calls Tryd.prog 30 #[.agg #[.int .i64 a0, .int .i64 a1, .int .i64 a2, .slice A l.length c], .slice A5 inp.length c5, .int .i64 most, .func (.func g) #[] lb] w (RunBad w 2) := by
 have HS := Aside0.mk (start_in (a0 := a0) (a1 := a1) (a2 := a2) (c := c) hr h5 hlc (.cells #[.int .i64 a0, .int .i64 a1, .int .i64 a2, .slice A l.length c] 24))
 have HE := Aside0.mk he
 clear hr h5 hlc he
 by_cases hm : most < 0
 ·have d0 : decide (most < 0) = true := decide_eq_true hm
  clear h0 hm
  go_enter Tryd.func30, Tryd.ntmps30
  go_wp2_with (go_at_call 46; refine HS.out.mono ?_; rintro e w1 ⟨A1, c1, A2, c2, rfl, g1, g2, hb⟩; rw [HE.out]; have HB := Aside0.mk hb; clear hb g1 g2)
  refine bodyPost_ret (v := .tuple #[.pointer none, .int .i64 0, .int .i64 2]) (by simp [results, Tryd.results30, go_sem]) rfl ?_
  exact ⟨rfl, by
   have := HB.out
   have h1 : Below w.heap.size w w1 := ((Below.refl w.heap.size w).alloc (Nat.le_refl _) _).trans (this.mono (by omega))
   exact h1.alloc h1.size _⟩
 ·have d0 : decide (most < 0) = false := decide_eq_false hm
  have d1 : decide ((20000 : Int) < most) = true := decide_eq_true (by omega)
  clear h0 hm
  go_enter Tryd.func30, Tryd.ntmps30
  go_wp2_with (go_at_call 46; refine HS.out.mono ?_; rintro e w1 ⟨A1, c1, A2, c2, rfl, g1, g2, hb⟩; rw [HE.out]; have HB := Aside0.mk hb; clear hb g1 g2)
  refine bodyPost_ret (v := .tuple #[.pointer none, .int .i64 0, .int .i64 2]) (by simp [results, Tryd.results30, go_sem]) rfl ?_
  exact ⟨rfl, by
   have := HB.out
   have h1 : Below w.heap.size w w1 := ((Below.refl w.heap.size w).alloc (Nat.le_refl _) _).trans (this.mono (by omega))
   exact h1.alloc h1.size _⟩
theorem RunAt.seen {w w' : World} {base br bm : Nat} {s : Int} {v1 v2 : Value} {at_ : List Int} {vs us : List Value} {tp : List (List Int)} {L : List (Value × Value)} {gf : Option Nat} (h : RunAt w base br bm s v1 at_ v2 vs us tp L) (hg : w.grownBy w' gf) (hlt : ∀ k, gf = some k → k < base) : RunAt w' base br bm s v1 at_ v2 vs us tp L := by
 refine h.kept hg (fun k hk => ?_)
 have hk' := hlt k hk
 refine ⟨by have := h.hbr; omega, by have := h.hbm; omega, fun e => ?_, fun e => ?_, fun i u hu e => ?_⟩
 ·have := own_base h.row1 k e; omega
 ·have := own_base h.row2 k e; omega
 ·have hx : i < tp.length := by rw [← h.len1]; exact (List.getElem?_eq_some_iff.1 hu).1
  have := own_base (h.inner i u _ hu (List.getElem?_eq_getElem hx)) k e; omega
theorem RunAt.le {w : World} {base br bm : Nat} {s : Int} {v1 v2 : Value} {at_ : List Int} {vs us : List Value} {tp : List (List Int)} {L : List (Value × Value)} (h : RunAt w base br bm s v1 at_ v2 vs us tp L) : br < w.heap.size := (Array.getElem?_eq_some_iff.1 h.cells).1
def StepRun (rs : List S40) (c : Sc) (wr : World) (B br bm : Nat) (v1 v2 : Value) (L : List (Value × Value)) (D : Option Sc) (e : Ending) (w' : World) : Prop :=
 match D with
 | none => e = .returned (.bool false) ∧ Below wr.heap.size wr w'
 | some d => e = .returned (.bool true) ∧ Kept1 B none wr w' ∧ ∃ vs', RunAt w' B br bm d.s v1 d.at_ v2 vs' vs' d.tp L
theorem step_run {a0 a1 : Int} {n b M : Nat} {wM wr : World} {B br bm : Nat} {v1 v2 : Value} {vs : List Value} {c : Sc} {L : List (Value × Value)} {rs : List S40} (hM : Below wM.heap.size wM wr) (hMB : wM.heap.size ≤ B) (H : RunAt wr B br bm c.s v1 c.at_ v2 vs vs c.tp L) (hK : AreKeys L) (hR : RulesAt wM rs L) (hn : (keysL rs).Nodup) (hG : Good a0 a1 n b M c) (hb : b ≤ 100000) (hm : M ≤ 200000) (h0 : a0 ≤ 64) (h1 : 1 ≤ a1 ∧ a1 ≤ 8) (hn1 : 1 ≤ n ∧ n ≤ 3) (hrs : ∀ r ∈ rs, RuleOk a0 a1 n r) (D : Option Sc) (hD : stepS rs c = D) :
  Calls Tryd.prog 48 #[.pointer (some ⟨br, 0, none⟩)] wr (StepRun rs c wr B br bm v1 v2 L D) := by
 have hw : B ≤ wr.heap.size := by have := H.le; have := H.hbr; omega
 have hs := trunc_size hw
 have hla := hG.la
 have hlt := hG.lt
 have key := step_walk (trunc wr B) wr br bm c.s v1 v2 c.at_ vs c.tp L rs (by rw [hs]; exact H) (trunc_below hw) hK (hR.below (below_trunc hM hMB hw)) hn (good_small hG h0 h1) (by omega) (by omega) (by omega) (fun i => by have := hG.pos i; omega) (fun i => by have := hG.len i; omega) (fun r hr => by have := hrs r hr; exact ⟨by rw [this.l3, hla], by rw [this.l4, hla], this.moves⟩) _ ⟨rfl⟩
 refine key.mono ?_
 intro e w' h
 unfold stepS at hD
 unfold StepOut at h
 cases hf : findR rs c.s (readL c.at_ c.tp) with
 | none => rw [hf] at hD h; subst hD; exact h
 | some r =>
  rw [hf] at hD h
  subst hD
  obtain ⟨h1, h2, vs', h3⟩ := h
  rw [hs] at h3
  refine ⟨h1, ⟨h2.os, h2.tape, h2.output, by have := h2.size; omega, fun k hk _ => trunc_block hw h2 k hk⟩, vs', h3⟩
def RunInv {σ : Type} (rs : List S40) (a0 a1 : Int) (n : Nat) (J : World → σ → Prop) (f : σ → List Int → σ) (gf : Option Nat) (w : World) (c0 : Sc) (st0 : σ) (most : Nat) (B br bm : Nat) (v1 v2 : Value) (L : List (Value × Value)) (i : Nat) (wr : World) : Prop :=
 ∃ c st vs M, i ≤ most ∧ runS rs most c0 = ((runS rs (most - i) c).1, (runS rs (most - i) c).2 + i) ∧ farS f rs most c0 st0 = farS f rs (most - i) c st ∧ M ≤ 20001 ∧ Good a0 a1 n i M c ∧ RunAt wr B br bm c.s v1 c.at_ v2 vs vs c.tp L ∧ J wr st ∧ Kept1 w.heap.size gf w wr
def RunOut {σ : Type} (rs : List S40) (a0 a1 : Int) (n : Nat) (J : World → σ → Prop) (gf : Option Nat) (wM w : World) (C : Sc) (N : Nat) (st : σ) (e : Ending) (w' : World) : Prop :=
 ∃ B br bm v1 v2 vs L M, e = .returned (.tuple #[.pointer (some ⟨br, 0, none⟩), .int .i64 N, .int .i64 0]) ∧ w.heap.size ≤ B ∧ RunAt w' B br bm C.s v1 C.at_ v2 vs vs C.tp L ∧ AreKeys L ∧ RulesAt wM rs L ∧ Kept1 w.heap.size gf w w' ∧ J w' st ∧ M ≤ 20001 ∧ N ≤ 20000 ∧ Good a0 a1 n N M C
section
variable {σ : Type} {rs : List S40} {a0 a1 : Int} {n : Nat} {J : World → σ → Prop} {f : σ → List Int → σ} {gf : Option Nat} {wM w : World} {c0 : Sc} {st0 : σ} {most : Nat} {B br bm : Nat} {v1 v2 : Value} {L : List (Value × Value)} {i : Nat} {wr : World}
theorem run_over {c : Sc} {st : σ} {m : Nat} (h : m = 0 ∨ stepS rs c = none) : runS rs m c = (c, 0) ∧ farS f rs m c st = st := by
 cases m with
 | zero => exact ⟨rfl, rfl⟩
 | succ m =>
  rcases h with h | h
  ·omega
  ·constructor
   ·simp only [runS, h]
   ·simp only [farS, h]
theorem run_on {c d : Sc} {st : σ} {m : Nat} (h : stepS rs c = some d) (h0 : 0 < m) : runS rs m c = ((runS rs (m - 1) d).1, (runS rs (m - 1) d).2 + 1) ∧ farS f rs m c st = farS f rs (m - 1) d (f st d.at_) := by
 cases m with
 | zero => omega
 | succ m =>
  constructor
  ·simp only [runS, h, Nat.add_sub_cancel]
  ·simp only [farS, h, Nat.add_sub_cancel]
theorem run_end {g : Nat} {lb : Array Value} {E : Nat} (HO : SeeOk g lb J f gf n E) (hE : E ≤ w.heap.size) (hBw : w.heap.size ≤ B) (hm : most ≤ 20000) (hK : AreKeys L) (hRA : RulesAt wM rs L) {c : Sc} {st : σ} {vs : List Value} {M : Nat} (hi : i ≤ most) (e1 : runS rs most c0 = ((runS rs (most - i) c).1, (runS rs (most - i) c).2 + i)) (e2 : farS f rs most c0 st0 = farS f rs (most - i) c st) (hM : M ≤ 20001) (hG : Good a0 a1 n i M c) (hR : RunAt wr B br bm c.s v1 c.at_ v2 vs vs c.tp L) (hJ : J wr st) (hKp : Kept1 w.heap.size gf w wr)
  (h : most - i = 0 ∨ stepS rs c = none) {w' : World} (hb : Below wr.heap.size wr w') {x : Int} (hx : x = i) : RunOut rs a0 a1 n J gf wM w (runS rs most c0).1 (runS rs most c0).2 (farS f rs most c0 st0) (.returned (.tuple #[.pointer (some ⟨br, 0, none⟩), .int .i64 x, .int .i64 0])) w' := by
 obtain ⟨o1, o2⟩ := run_over (f := f) (st := st) h
 rw [o1] at e1
 rw [o2] at e2
 rw [e1, e2]
 simp only [Nat.zero_add]
 subst hx
 have hs := hKp.size
 exact ⟨B, br, bm, v1, v2, vs, L, M, rfl, hBw, hR.below hb, hK, hRA, hKp.trans ((Kept1.of_below hb).mono hs), HO.keep wr w' st hJ (fun k hk => hb.block k (by omega)), hM, by omega, hG⟩
theorem run_next (hle : w.heap.size ≤ B) (hgf : ∀ k, gf = some k → k < B) {c d : Sc} {st : σ} {M : Nat} (hi : i < most) (hmost : most ≤ 20000) (e1 : runS rs most c0 = ((runS rs (most - i) c).1, (runS rs (most - i) c).2 + i)) (e2 : farS f rs most c0 st0 = farS f rs (most - i) c st) (hM : M ≤ 20001) (hG : Good a0 a1 n i M c) (hKp : Kept1 w.heap.size gf w wr)
  (hrs : ∀ r ∈ rs, RuleOk a0 a1 n r) (hd : stepS rs c = some d) {w4 w5 : World} (hk4 : Kept1 B none wr w4) {vs' : List Value} (hR : RunAt w4 B br bm d.s v1 d.at_ v2 vs' vs' d.tp L) (hg : w4.grownBy w5 gf) (hJ : J w5 (f st d.at_)) :
  RunInv rs a0 a1 n J f gf w c0 st0 most B br bm v1 v2 L (i + 1) w5 := by
 obtain ⟨o1, o2⟩ := run_on (f := f) (st := st) hd (show 0 < most - i by omega)
 rw [o1] at e1
 rw [o2] at e2
 have hB4 : B ≤ w4.heap.size := hk4.size
 refine ⟨d, _, vs', max M (i + 1), hi, ?_, ?_, by omega, good_step hG hrs hd, hR.seen hg hgf, hJ, ?_⟩
 ·rw [e1, show most - i - 1 = most - (i + 1) by omega]
  simp only [Prod.mk.injEq, true_and]
  omega
 ·rw [e2, show most - i - 1 = most - (i + 1) by omega]
 ·refine (hKp.trans (w2 := w4) ?_).trans ((Kept1.of_grown hg).mono (by omega))
  exact ⟨hk4.os, hk4.tape, hk4.output, by omega, fun k hk _ => hk4.block k (by omega) (by simp)⟩
end
theorem seen_cells {w : World} {k : Nat} {a b c d : Value} {t : TypeId} (h : w.heap[k]? = some (.cells #[a, b, c, d] t (0, 0))) : w.cell? ⟨k, 0, none⟩ = some a ∧ w.cell? ⟨k, 1, none⟩ = some b ∧ w.cell? ⟨k, 2, none⟩ = some c := ⟨(run_cells4 h).1, (run_cells4 h).2.1, (run_cells4 h).2.2.1⟩
set_option maxHeartbeats 2000000 in
set_option maxRecDepth 100000 in
theorem run_ok {σ : Type} (a0 a1 a2 : Int) (A : Option Addr) (c : Nat) (l : List S40) (A5 : Option Addr) (c5 : Nat) (inp : List Int) (most : Int) (g : Nat) (lb : Array Value) (J : World → σ → Prop) (f : σ → List Int → σ) (gf : Option Nat) (n E : Nat) (HO : SeeOk g lb J f gf n E) (wM w : World) (hM : Below wM.heap.size wM w) (hE : E ≤ w.heap.size) (hME : wM.heap.size ≤ E) (hgf : ∀ k, gf = some k → wM.heap.size ≤ k ∧ k < E)
    (hr : Kd.C k40 wM A l.length l) (h5 : Kd.C (Kd.int .i64) w A5 inp.length inp) (hlc : inp.length ≤ c5) (c0 : Sc) (hq : startF a0 a1 a2 l inp = (c0.s, c0.at_, c0.tp, 0)) (hG : Good a0 a1 n 0 20001 c0) (b0 : a0 ≤ 64) (b1 : 1 ≤ a1 ∧ a1 ≤ 8) (b2 : 1 ≤ n ∧ n ≤ 3) (hrs : ∀ r ∈ l, RuleOk a0 a1 n r) (hnd : (keysL l).Nodup) (hsm : ∀ r ∈ l, Small (keyL r.f0 r.f1) ∧ r.f1.length ≤ 3) (m0 : 0 ≤ most) (m1 : most ≤ 20000) (st0 : σ) (hJ : J w st0) :
    Calls Tryd.prog 30 #[.agg #[.int .i64 a0, .int .i64 a1, .int .i64 a2, .slice A l.length c], .slice A5 inp.length c5, .int .i64 most, .func (.func g) #[] lb] w (RunOut l a0 a1 n J gf wM w (runS l most.toNat c0).1 (runS l most.toNat c0).2 (farS f l most.toNat c0 (f st0 c0.at_))) := by
  obtain ⟨W, hW⟩ : ∃ W, w.alloc (Obj.cells #[.int .i64 a0, .int .i64 a1, .int .i64 a2, .slice A l.length c] 24) = W := ⟨_, rfl⟩
  have hBW : Below w.heap.size w W := by rw [← hW]; exact (Below.refl _ _).alloc (Nat.le_refl _) _
  have hrw : Kd.C k40 w A l.length l := Kd.C_below hr hM
  have hS : Calls Tryd.prog 46 #[.agg #[.int .i64 a0, .int .i64 a1, .int .i64 a2, .slice A l.length c], .slice A5 inp.length c5] W fun e w' => ∃ A1 c1 A2 c2, e = .returned (.tuple #[.agg #[.int .i64 c0.s, .slice A1 c0.at_.length c1, .slice A2 c0.tp.length c2], .int .i64 0]) ∧
      Kd.C (Kd.int .i64) w' A1 c0.at_.length c0.at_ ∧ Kd.C (Kd.slice 3 (Kd.int .i64)) w' A2 c0.tp.length c0.tp ∧ Below W.heap.size W w' := by
    refine (start_walk a0 a1 a2 A c l A5 c5 inp W (Kd.C_below hrw hBW) (Kd.C_below h5 hBW) hlc).mono ?_
    rintro e w' ⟨v, rfl, ⟨A1, c1, A2, c2, rfl, _, g1, _, g2⟩, hb'⟩
    rw [hq] at g1 g2 ⊢
    exact ⟨A1, c1, A2, c2, rfl, g1, g2, hb'⟩
  have HS := Aside0.mk hS
  have HBW := Aside0.mk hBW
  have z0 : w.heap.size < W.heap.size := by rw [← hW]; simp
  have k0 : W.cell? ⟨w.heap.size, 0, none⟩ = some (.int .i64 a0) := by subst hW; go_simp
  have k1 : W.cell? ⟨w.heap.size, 1, none⟩ = some (.int .i64 a1) := by subst hW; go_simp
  have k2 : W.cell? ⟨w.heap.size, 2, none⟩ = some (.int .i64 a2) := by subst hW; go_simp
  have k3 : W.cell? ⟨w.heap.size, 3, none⟩ = some (.slice A l.length c) := by subst hW; go_simp
  have HW := Aside0.mk hW
  have HRR := Aside0.mk hr
  have HGD := Aside0.mk hG
  have HMM := Aside0.mk hM
  have HSM := Aside0.mk hsm
  have HND := Aside0.mk hnd
  have HRS := Aside0.mk hrs
  have HJ := Aside0.mk hJ
  have HME := Aside0.mk hME
  have HEE := Aside0.mk hE
  have HGF := Aside0.mk hgf
  have B0 := Aside0.mk b0
  have B1 := Aside0.mk b1
  have B2 := Aside0.mk b2
  have M1 := Aside0.mk m1
  have M0 := Aside0.mk m0
  have HOO := Aside0.mk HO
  have eg := HO.eg
  have d0 : decide (most < 0) = false := decide_eq_false (by omega)
  have d1 : decide ((20000 : Int) < most) = false := decide_eq_false (by omega)
  clear hr h5 hlc hq hG hM hS hBW hW hrw hsm hnd hrs hJ hME hE hgf b0 b1 b2 m0 m1 HO
  go_enter Tryd.func30, Tryd.ntmps30
  go_wp2_with fail
  rw [HW.out]
  go_wp2_with (first
    | (go_at_call 46; refine HS.out.mono ?_; rintro e w1 ⟨A1, c1, A2, c2, rfl, g1, g2, hb⟩; obtain ⟨hcc, hff⟩ := bcell hb; have zz := Nat.lt_of_lt_of_le z0 hb.size; have HB := Aside0.mk hb; have HG1 := Aside0.mk g1; have HG2 := Aside0.mk g2; clear hb g1 g2)
    | (go_at_call 47
       have hz1 : w.heap.size ≤ w1.heap.size := by omega
       obtain ⟨W2, hW2⟩ : ∃ W2, w1.alloc (Obj.cells #[.int .i64 c0.s, .slice A1 c0.at_.length c1, .slice A2 c0.tp.length c2] 43) = W2 := ⟨_, rfl⟩
       rw [hW2]
       have hb1 : Below w1.heap.size w1 W2 := by rw [← hW2]; exact (Below.refl _ _).alloc (Nat.le_refl _) _
       have hb2 : Below w.heap.size w W2 := (HBW.out.trans (HB.out.mono (by omega))).trans (hb1.mono hz1)
       have hz2 : w.heap.size ≤ W2.heap.size := hb2.size
       clear hW2
       refine (new_walk a0 a1 a2 A c l c0.s A1 c1 c0.at_ A2 c2 c0.tp wM W2 (HMM.out.trans (hb2.mono HMM.out.size)) HRR.out (Kd.C_below HG1.out hb1) (Kd.C_below HG2.out hb1) (by have := HGD.out.la; have := B2.out; omega) (by have := HGD.out.lt; have := B2.out; omega) (fun i => by have := HGD.out.len i; omega) HSM.out HND.out).mono ?_
       rintro e w2 ⟨br, bm, v1, v2, us, L, rfl, hR, hK, hRA, hb3⟩
       obtain ⟨A1', c1', e1, hlc1, hC1⟩ := own_C hR.row1
       obtain ⟨A2', c2', e2, hlc2, hC2⟩ := own_C2 hR.row2 (hR.len2.trans hR.len1) hR.inner
       subst e1
       subst e2
       have hzr := hR.le
       obtain ⟨r0, r1, r2⟩ := seen_cells hR.cells
       have hb4 : Below w.heap.size w w2 := hb2.trans (hb3.mono hz2)
       have HB4 := Aside0.mk hb4
       have HR := Aside0.mk hR
       have HK := Aside0.mk hK
       have HRA := Aside0.mk hRA
       have HC1 := Aside0.mk hC1
       have HZ2 := Aside0.mk hz2
       have HZ4 : Aside0 (E ≤ w2.heap.size) := ⟨Nat.le_trans HEE.out hb4.size⟩
       have HJ2 : Aside0 (J w2 st0) := ⟨HOO.out.keep w w2 st0 HJ.out (fun k hk => hb4.block k (Nat.lt_of_lt_of_le hk HEE.out))⟩
       clear hR hK hRA hC1 hC2 hlc1 hlc2 hb4 hb3 hb2 hb1 hz2 hz1 hcc hff zz HG1 HG2 HB)
    | (go_at_fn g
       refine (HOO.out.call w2 st0 c0.s A1' c1' c0.at_ A2' _ c2' HJ2.out HZ4.out HGD.out.la (fun i => by have := HGD.out.pos i; omega) (own_C_agree HR.out.row1 (by have := HEE.out; have := HZ2.out; omega))).mono ?_
       rintro e w3 ⟨rfl, hJ3, hg3⟩
       have HJ3 := Aside0.mk hJ3
       have HG3 := Aside0.mk hg3
       clear hJ3 hg3))
  have HBI : Aside0 (W2.heap.size ≤ w2.heap.size) := ⟨by have := HR.out.hbr; omega⟩
  have HGFB : Aside0 (∀ k, gf = some k → k < W2.heap.size) := ⟨fun k hk => by have := HGF.out k hk; have := HEE.out; have := HZ2.out; omega⟩
  have HST : Aside0 (RunInv l a0 a1 n J f gf w c0 (f st0 c0.at_) most.toNat W2.heap.size br bm (.slice A1' c0.at_.length c1') (.slice A2' c0.tp.length c2') L 0 w3) := ⟨by
    refine ⟨c0, _, us, 20001, by omega, rfl, rfl, by omega, HGD.out, HR.out.seen HG3.out HGFB.out, HJ3.out, ?_⟩
    exact (Kept1.of_below HB4.out).trans ((Kept1.of_grown HG3.out).mono HB4.out.size)⟩
  clear r0 r1 r2 hzr HR HJ3 HG3 HJ2 HC1 HS HW HB4 k0 k1 k2 k3 d0 d1
  go_loopg [14] most.toNat (fun gg s14 wr => ∃ i : Int, s14 = .int .i64 i ∧ Aside0 (0 ≤ i) ∧ Aside0 (most - i = gg) ∧ Aside0 (RunInv l a0 a1 n J f gf w c0 (f st0 c0.at_) most.toNat W2.heap.size br bm (.slice A1' c0.at_.length c1') (.slice A2' c0.tp.length c2') L i.toNat wr))
  case atStart => exact ⟨0, rfl, ⟨by omega⟩, ⟨by have := M0.out; omega⟩, HST⟩
  case round =>
    obtain ⟨i, rfl, HI, HG, HIV⟩ := hrel
    clear HST
    obtain ⟨d, st, vs, M, hi, e1, e2, hM, hGd, hRd, hJd, hKp⟩ := HIV.out
    have hMwr : Below wM.heap.size wM wr := hKp.below HMM.out (Nat.le_trans HME.out HEE.out) (fun k hk => (HGF.out k hk).1)
    have E1 := Aside0.mk e1
    have E2 := Aside0.mk e2
    have HM' := Aside0.mk hM
    have HGd := Aside0.mk hGd
    have HRd := Aside0.mk hRd
    have HJd := Aside0.mk hJd
    have HKp := Aside0.mk hKp
    have HIm := Aside0.mk hi
    have i0 := HI.out
    have hzr := hRd.le
    by_cases cl : i < most
    · have clb : decide (i < most) = true := decide_eq_true cl
      have CL := Aside0.mk cl
      cases hst : stepS l d with
      | none =>
        have HS := Aside0.mk (step_run hMwr (by have := HME.out; have := HEE.out; have := HZ2.out; omega) hRd HK.out HRA.out HND.out hGd (by have := M1.out; omega) (by omega) B0.out B1.out B2.out HRS.out none hst)
        have HN := Aside0.mk hst
        clear e1 e2 hM hGd hRd hJd hKp hMwr HIV hi cl hst
        go_wp2_with (go_at_call 48; refine HS.out.mono ?_; rintro e w4 ⟨rfl, hb⟩; have HB := Aside0.mk hb; clear hb)
        refine bodyPost_ret (v := .tuple #[.pointer (some ⟨br, 0, none⟩), .int .i64 i, .int .i64 0]) (by simp [results, Tryd.results30, go_sem]) rfl ?_
        exact run_end HOO.out HEE.out HZ2.out (by have := M1.out; omega) HK.out HRA.out HIm.out E1.out E2.out HM'.out HGd.out HRd.out HJd.out HKp.out (.inr HN.out) HB.out (by omega)
      | some d' =>
        have HS := Aside0.mk (step_run hMwr (by have := HME.out; have := HEE.out; have := HZ2.out; omega) hRd HK.out HRA.out HND.out hGd (by have := M1.out; omega) (by omega) B0.out B1.out B2.out HRS.out (some d') hst)
        have HN := Aside0.mk hst
        have HD := Aside0.mk (good_step hGd HRS.out hst)
        clear e1 e2 hM hGd hRd hJd hKp hMwr HIV hi cl hst
        go_wp2_with (first
          | (go_at_call 48
             refine HS.out.mono ?_
             rintro e w4 ⟨rfl, hk4, vs', hR4⟩
             obtain ⟨A1x, c1x, e1, hlc1, hC1⟩ := own_C hR4.row1
             injection e1 with e1 e2 e3
             subst e1
             obtain ⟨r0, r1, r2⟩ := seen_cells hR4.cells
             have hzr4 := hR4.le
             have hcall := HOO.out.call w4 (st) d'.s A1' c1' d'.at_ A2' c0.tp.length c2' (HOO.out.keep wr w4 st HJd.out (fun k hk => hk4.block k (by have := HEE.out; have := HZ2.out; omega) (by simp))) (by have := HEE.out; have := HZ2.out; have := hR4.hbr; omega) HD.out.la (fun j => by have := HD.out.pos j; have := CL.out; have := M1.out; omega) (own_C_agree hR4.row1 (by have := HEE.out; have := HZ2.out; omega))
             rw [← e2] at hcall
             have HCALL := Aside0.mk hcall
             have HK4 := Aside0.mk hk4
             have HR4 := Aside0.mk hR4
             clear hcall hk4 hR4 hC1 hlc1 e2 e3)
          | (go_at_fn g
             refine HCALL.out.mono ?_
             rintro e w5 ⟨rfl, hJ5, hg5⟩
             have HJ5 := Aside0.mk hJ5
             have HG5 := Aside0.mk hg5
             clear hJ5 hg5))
        have HNX := Aside0.mk (run_next HZ2.out HGFB.out (by have := CL.out; omega) (by have := M1.out; omega) E1.out E2.out HM'.out HGd.out HKp.out HRS.out HN.out HK4.out HR4.out HG5.out HJ5.out)
        go_roundg (most - (i + 1)).toNat
        case measure => have := HG.out; have := CL.out; omega
        case rel =>
          have i1 := CL.out
          have i2 := M1.out
          have g1 := HG.out
          have := HNX.out
          rw [show i.toNat + 1 = (i + 1).toNat by omega] at this
          refine ⟨i + 1, ?_, ⟨by omega⟩, ⟨by omega⟩, ⟨this⟩⟩
          first | rfl | (rw [show wrap64 (i + 1) = i + 1 by unfold wrap64; omega])
    · have clb : decide (i < most) = false := decide_eq_false cl
      have CL := Aside0.mk cl
      clear e1 e2 hM hGd hRd hJd hKp hMwr HIV hi cl
      go_wp2
      refine bodyPost_ret (v := .tuple #[.pointer (some ⟨br, 0, none⟩), .int .i64 i, .int .i64 0]) (by simp [results, Tryd.results30, go_sem]) rfl ?_
      exact run_end HOO.out HEE.out HZ2.out (by have := M1.out; omega) HK.out HRA.out HIm.out E1.out E2.out HM'.out HGd.out HRd.out HJd.out HKp.out (.inl (by have := CL.out; omega)) (Below.refl _ _) (by omega)
end Go.Proofs.YtfoodfhhdbaieaaDoor.Giv
