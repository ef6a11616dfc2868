-- CUT by a program of this session: what the claim does not use is left out
import Derived.Test.YtfoodfhhdbaieaaDoorM14
import Derived.Test.YtfoodfhhdbaieaaDoorTxx1
namespace Go.Proofs.YtfoodfhhdbaieaaDoor.Giv
def bytesOf (l : List UInt8) : ByteArray := ⟨l.toArray⟩
end Go.Proofs.YtfoodfhhdbaieaaDoor.Giv
namespace Go.Proofs.YtfoodfhhdbaieaaDoor.Pure
set_option maxRecDepth 100000
set_option linter.unusedVariables false
set_option linter.unusedSimpArgs false
open Go.RowKit Go.Proofs.YtfoodfhhdbaieaaDoorW.PrintWords Go.Proofs.YtfoodfhhdbaieaaDoorW.PrintLast Go.Proofs.YtfoodfhhdbaieaaDoorW.PrintMore
open Go.Proofs.YtfoodfhhdbaieaaDoor.Ka Go.Proofs.YtfoodfhhdbaieaaDoor.Giv Go.Proofs.YtfoodfhhdbaieaaDoor.Tx
theorem Ev1 {α : Type} {g f : Nat → Option α} {r : α} (k : Ev f r) (h : ∀ k, g (k + 1) = f k) : Ev g r := Ev.step h k
theorem EvC {α : Type} {g f : Nat → Option α} {r : α} (k : Ev f r) (h : ∀ k, g k = f k) : Ev g r := Ev.congr h k
theorem EvS {α : Type} {g : Nat → Option α} {r : α} (h : ∀ k, g (k + 1) = some r) : Ev g r := Ev.step h (Ev.now r)
theorem dg_str (u : Nat) : strOfNums [(wrap64 (48 + Int.tmod (u : Int) 10)) % 256] = Giv.bytesOf [UInt8.ofNat (48 + u % 10)] := by
 have e : Int.tmod (u : Int) 10 = ((u % 10 : Nat) : Int) := by rw [Int.tmod_eq_emod_of_nonneg (by omega)]; rfl
 have e2 : (wrap64 (48 + ((u % 10 : Nat) : Int))) % 256 = ((48 + u % 10 : Nat) : Int) := by
  have : u % 10 < 10 := Nat.mod_lt _ (by decide)
  generalize u % 10 = z at *
  unfold wrap64; omega
 rw [e, e2]
 show (⟨#[UInt8.ofNat ((48 + u % 10 : Nat) : Int).toNat]⟩ : ByteArray) = ⟨#[UInt8.ofNat (48 + u % 10)]⟩
 rw [Int.toNat_natCast]
theorem bytesOf_app (l m : List UInt8) : Giv.bytesOf l ++ Giv.bytesOf m = Giv.bytesOf (l ++ m) := by
 apply ByteArray.ext
 apply Array.toList_inj.1
 simp [Giv.bytesOf, ByteArray.data_append]
theorem tdiv10 (u : Nat) (h : u < 2 ^ 62) : wrap64 (Int.tdiv (u : Int) 10) = ((u / 10 : Nat) : Int) := by
 have e : Int.tdiv (u : Int) 10 = ((u / 10 : Nat) : Int) := by rw [Int.tdiv_eq_ediv_of_nonneg (by omega)]; rfl
 have : u / 10 ≤ u := Nat.div_le_self _ _
 rw [e]
 generalize u / 10 = z at *
 unfold wrap64; omega
theorem bytesOf_size (l : List UInt8) : (Giv.bytesOf l).size = l.length := size_toArray l
theorem dec_l0 : ∀ (u : Nat), u < 2 ^ 62 → ∀ (out : List UInt8), out.length + u ≤ 2 ^ 62 → Ev (fun k => commodatumref09_Decimal.l0 k (u : Int) (Giv.bytesOf out)) (Giv.bytesOf ((if u = 0 then [] else Lib.decDigits u) ++ out)) := by
 intro u
 induction u using Nat.strongRecOn with
 | _ u ih =>
  intro hu out ho
  by_cases e : u = 0
  ·subst e
   rw [if_pos rfl, List.nil_append]
   refine EvS fun k => ?_
   simp only [commodatumref09_Decimal.l0]
   rw [if_neg (by omega)]
  ·rw [if_neg e]
   have hd : u / 10 < u := Nat.div_lt_self (by omega) (by decide)
   have i := ih (u / 10) hd (by omega) (UInt8.ofNat (48 + u % 10) :: out) (by simp; omega)
   have e3 : (if u / 10 = 0 then [] else Lib.decDigits (u / 10)) ++ UInt8.ofNat (48 + u % 10) :: out = Lib.decDigits u ++ out := by
    by_cases hs : u < 10
    ·rw [if_pos (by omega), Lib.decDigits_one hs, Nat.mod_eq_of_lt hs]; rfl
    ·rw [if_neg (by omega)]
     conv => rhs; rw [Lib.decDigits, dif_neg hs]
     simp
   rw [e3] at i
   refine Ev1 i fun k => ?_
   simp only [commodatumref09_Decimal.l0]
   rw [if_pos (by omega)]
   simp only [Option.bind_some]
   rw [dg_str, bytesOf_app, tdiv10 u hu, if_pos (by rw [bytesOf_size, bytesOf_size]; simp; omega)]
   rfl
theorem decimal_ev {y : Int} (h : 0 ≤ y) (h2 : y < 10000) : Ev (fun k => commodatumref12_Decimal.f k y) (itoaS y) := by
 obtain ⟨u, rfl⟩ : ∃ u : Nat, y = (u : Int) := ⟨y.toNat, by omega⟩
 have i := dec_l0 (u / 10) (by omega) [UInt8.ofNat (48 + u % 10)] (by simp; omega)
 have e3 : (if u / 10 = 0 then [] else Lib.decDigits (u / 10)) ++ [UInt8.ofNat (48 + u % 10)] = Lib.decDigits u := by
  by_cases hs : u < 10
  ·rw [if_pos (by omega), Lib.decDigits_one hs, Nat.mod_eq_of_lt hs]; rfl
  ·rw [if_neg (by omega)]
   conv => rhs; rw [Lib.decDigits, dif_neg hs]
 rw [e3] at i
 have e4 : itoaS (u : Int) = Giv.bytesOf (Lib.decDigits u) := by unfold itoaS Giv.bytesOf; rw [itoa_nn h, Int.toNat_natCast]
 rw [e4]
 refine Ev.bind (r := Giv.bytesOf (Lib.decDigits u)) ?_ (Ev.now _)
 refine EvC i fun k => ?_
 unfold commodatumref09_Decimal.f
 rw [dg_str, tdiv10 u (by omega)]
end Go.Proofs.YtfoodfhhdbaieaaDoor.Pure
namespace Go.Proofs.YtfoodfhhdbaieaaDoor.Giv
open Go.RowKit Go.Shelf Go.Proofs.YtfoodfhhdbaieaaDoorW.PrintWords Go.Proofs.YtfoodfhhdbaieaaDoorW.PrintLast Go.Proofs.YtfoodfhhdbaieaaDoorW.PrintMore
open Go.Proofs.YtfoodfhhdbaieaaDoor.Ka (S40 k40 z40 rd_T40 at_T40 k40_open k40_mk rd_L1 at_L1 info3 info38 info40)
set_option maxRecDepth 100000
theorem dec_calls (y : Int) (w : World) (h0 : 0 ≤ y) (h1 : y < 10000) : Calls Tryd.prog 22 #[.int .i64 y] w fun e w' => e = .returned (.string (itoaS y)) ∧ Below w.heap.size w w' := by
 obtain ⟨k, hk⟩ := Pure.decimal_ev h0 h1
 exact Tx.commodatumref12_Decimal.calls k y _ w (hk k (Nat.le_refl _))
theorem Moved.trans {w w1 w2 : World} {v v1 v2 : Value} (h : Moved w w1 v v1) (k : Moved w1 w2 v1 v2) : Moved w w2 v v2 :=
 ⟨fun j hj hn => (k.keep j (Nat.lt_of_lt_of_le hj h.size) (h.own j hj hn)).trans (h.keep j hj hn), fun j hj hn => k.own j (Nat.lt_of_lt_of_le hj h.size) (h.own j hj hn), Nat.le_trans h.size k.size⟩
theorem Moved.of_below {w w1 : World} (v : Value) (h : Below w.heap.size w w1) : Moved w w1 v v := ⟨fun j hj _ => h.block j hj, fun j _ hn => hn, h.size⟩
def Src (w0 w : World) (v : Value) (A : Option Addr) (l : List Int) : Prop := Kd.C (Kd.int .i64) w0 A l.length l ∨ ∃ g, A = some ⟨g, 0, none⟩ ∧ RowAt w g l ∧ some g ≠ v.ownBlock
theorem Src.moved {w0 w w' : World} {v v' : Value} {A : Option Addr} {l : List Int} (h : Src w0 w v A l) (hm : Moved w w' v v') : Src w0 w' v' A l := by
 rcases h with h | ⟨g, e, ⟨cs, fr, h1, h2⟩, hn⟩
 ·exact .inl h
 ·have hl : g < w.heap.size := (Array.getElem?_eq_some_iff.1 h1).1
  exact .inr ⟨g, e, ⟨cs, fr, (hm.keep g hl hn).trans h1, h2⟩, hm.own g hl hn⟩
theorem Src.cell {w0 w : World} {v : Value} {A : Option Addr} {l : List Int} (h : Src w0 w v A l) (hb : Below w0.heap.size w0 w) {i : Nat} (hi : i < l.length) : ∃ ad, A = some ad ∧ w.cell? (ad.add i) = some (.int .i64 l[i]) := by
 rcases h with h | ⟨g, e, h1, _⟩
 ·obtain ⟨ad, e, hc⟩ := (C_cells (Kd.C_below h hb)).2 (by omega)
  exact ⟨ad, e, hc i _ (by simp [hi])⟩
 ·refine ⟨_, e, ?_⟩
  rw [show (⟨g, 0, none⟩ : Addr).add i = ⟨g, i, none⟩ by unfold Addr.add; split <;> simp_all]
  exact h1.cell hi
def listB (l : List Int) : List UInt8 := (l.map fun y => 32 :: Lib.itoa y).flatten
theorem listB_next {l : List Int} {i : Nat} (h : i < l.length) : listB (l.take (i + 1)) = listB (l.take i) ++ 32 :: Lib.itoa l[i] := by
 unfold listB
 rw [List.take_succ_eq_append_getElem h, List.map_append, List.flatten_append]
 simp
theorem listB_len : ∀ (l : List Int), numLen l → (listB l).length ≤ 5 * l.length := by
 intro l
 induction l with
 | nil => intro _; simp [listB]
 | cons y l ih =>
  intro h
  have h1 := ih (fun z hz => h z (List.mem_cons_of_mem _ hz))
  have h2 := itoa_small (h y List.mem_cons_self).1 (h y List.mem_cons_self).2
  simp only [listB, List.map_cons, List.flatten_cons, List.length_append, List.length_cons] at h1 ⊢
  omega
theorem itoa_neg {y : Int} (h : y < 0) : Lib.itoa y = 45 :: Lib.itoa (-y) := by
 unfold Lib.itoa
 rw [if_pos h, if_neg (by omega), show y.natAbs = (-y).toNat by omega]
set_option maxHeartbeats 8000000 in
theorem listed_calls (w0 w : World) (v : Value) (x : List UInt8) (A : Option Addr) (c : Nat) (l : List Int) (hO : OwnM w0 w v x) (hS : Src w0 w v A l) (hl : numLen l) (hn : l.length ≤ 100) (hx : x.length ≤ 100000000) :
  Calls Tryd.prog 21 #[v, .slice A l.length c] w fun e w' => ∃ v', e = .returned v' ∧ OwnM w0 w' v' (x ++ listB l) ∧ Moved w w' v v' := by
 have HO := Aside0.mk hO
 have HS := Aside0.mk hS
 have HL := Aside0.mk hl
 have HN := Aside0.mk hn
 have HX : Aside0 (∀ i, (x ++ listB (l.take i)).length ≤ 100001000) := ⟨fun i => by
  have h1 := listB_len (l.take i) (fun y hy => hl y (List.mem_of_mem_take hy))
  have h2 := List.length_take_le' i l
  rw [List.length_append]; omega⟩
 clear hO hS hl hn hx
 go_enter Tryd.func21, Tryd.ntmps21
 go_wp2
 go_loopg [0, 5] l.length (fun gg s0 s5 W => ∃ (i : Nat), s5 = .int .i64 (i : Int) ∧ Aside0 (i ≤ l.length) ∧ Aside0 (l.length - i = gg) ∧ Aside0 (OwnM w0 W s0 (x ++ listB (l.take i))) ∧ Aside0 (Moved w W v s0))
 case atStart => exact ⟨0, rfl, ⟨by omega⟩, ⟨by omega⟩, ⟨by simpa [listB] using HO.out⟩, ⟨Moved.of_below v (Below.refl _ _)⟩⟩
 case round =>
  obtain ⟨i, rfl, HI, HG2, HAT, HMV⟩ := hrel
  by_cases cl : i < l.length
  ·have clb : decide ((i : Int) < (l.length : Int)) = true := decide_eq_true (by omega)
   have clb2 : decide (i < l.length) = true := decide_eq_true cl
   have p1 : (0 ≤ (i : Int)) = True := eq_true (by omega)
   have q1 : ((i : Int) < (l.length : Int)) = True := eq_true (by omega)
   have q2 : (i < l.length) = True := eq_true cl
   have b1 : (0 : Int) ≤ (i : Int) := by omega
   have b2 : (i : Int) ≤ 100 := by have := HN.out; omega
   have HSW := Aside0.mk (HS.out.moved HMV.out)
   obtain ⟨ad, eA, hc⟩ := HSW.out.cell HAT.out.below cl
   subst eA
   have HN1 := Aside0.mk (listB_next cl)
   have hy := HL.out l[i] (List.getElem_mem cl)
   obtain ⟨y, ey⟩ : ∃ y, y = l[i] := ⟨_, rfl⟩
   rw [← ey] at hc HN1 hy
   have CL := Aside0.mk cl
   clear ey cl
   have HY := Aside0.mk hy
   clear hy
   obtain ⟨X, hX⟩ : ∃ X, X = x ++ listB (l.take i) := ⟨_, rfl⟩
   have HXL : Aside0 (X.length ≤ 100001000) := ⟨by rw [hX]; exact HX.out i⟩
   have HXN : Aside0 (x ++ listB (l.take (i + 1)) = X ++ 32 :: Lib.itoa y) := ⟨by rw [HN1.out, hX, List.append_assoc]⟩
   rw [← hX] at HAT
   clear hX HN1
   by_cases c0 : y < 0
   ·have d0 : decide (y < 0) = true := decide_eq_true c0
    have HC0 := Aside0.mk c0
    have e1 : y = -1 := by have := HY.out; omega
    subst e1
    clear c0
    have HT : Aside0 (((⟨#[32, 45]⟩ : ByteArray) ++ itoaS 1).data.toList = 32 :: Lib.itoa (-1)) := ⟨by rw [itoa_neg (by omega)]; simp [itoaS, ByteArray.data_append]⟩
    have HIL : Aside0 ((itoaS 1).size ≤ 4) := ⟨by rw [itoaS, size_toArray]; exact itoa_small (by omega) (by omega)⟩
    have z1 : (9223372036854775807 < 2 + (itoaS 1).size) = False := eq_false (by have := HIL.out; omega)
    have HSZ : Aside0 (((⟨#[32, 45]⟩ : ByteArray) ++ itoaS 1).size ≤ 6) := ⟨by rw [size_list, HT.out]; have := itoa_small (y := -1) (by omega) (by omega); simp only [List.length_cons]; omega⟩
    go_wp2_with (first
     | (go_at_call 22; refine (dec_calls 1 _ (by omega) (by omega)).mono ?_; rintro e w2 ⟨rfl, hb⟩; have HB2 := Aside0.mk hb; clear hb)
     | ((with_reducible refine gate_dst (N := 25) rfl ?_); go_must (refine appM_event (w0 := w0) (l := X) (s := (⟨#[32, 45]⟩ : ByteArray) ++ itoaS 1) rfl (.tmp 17) (.tmp 24) rfl rfl rfl (HAT.out.later HB2.out) (by have := HXL.out; have := HSZ.out; omega) ?_; intro v3 w3 hO3 hM3; have HO3 := Aside0.mk hO3; have HM3 := Aside0.mk hM3; clear hO3 hM3)))
    go_roundg (l.length - (i + 1))
    case measure => have := HG2.out; have := CL.out; omega
    case rel =>
     have := CL.out
     refine ⟨i + 1, by simp, ⟨by omega⟩, ⟨by omega⟩, ⟨?_⟩, ⟨HMV.out.trans ((Moved.of_below _ HB2.out).trans HM3.out)⟩⟩
     rw [HXN.out, ← HT.out]; exact HO3.out
   ·have d0 : decide (y < 0) = false := decide_eq_false c0
    have HC0 := Aside0.mk c0
    clear c0
    have HT : Aside0 (((⟨#[32]⟩ : ByteArray) ++ itoaS y).data.toList = 32 :: Lib.itoa y) := ⟨by simp [itoaS, ByteArray.data_append]⟩
    have HIL : Aside0 ((itoaS y).size ≤ 4) := ⟨by rw [itoaS, size_toArray]; exact itoa_small HY.out.1 HY.out.2⟩
    have z1 : (9223372036854775807 < 1 + (itoaS y).size) = False := eq_false (by have := HIL.out; omega)
    have HSZ : Aside0 (((⟨#[32]⟩ : ByteArray) ++ itoaS y).size ≤ 6) := ⟨by rw [size_list, HT.out]; have := itoa_small HY.out.1 HY.out.2; simp only [List.length_cons]; omega⟩
    go_wp2_with (first
     | (go_at_call 22; refine (dec_calls y _ (by have := HC0.out; omega) HY.out.2).mono ?_; rintro e w2 ⟨rfl, hb⟩; have HB2 := Aside0.mk hb; clear hb)
     | ((with_reducible refine gate_dst (N := 33) rfl ?_); go_must (refine appM_event (w0 := w0) (l := X) (s := (⟨#[32]⟩ : ByteArray) ++ itoaS y) rfl (.tmp 26) (.tmp 32) rfl rfl rfl (HAT.out.later HB2.out) (by have := HXL.out; have := HSZ.out; omega) ?_; intro v3 w3 hO3 hM3; have HO3 := Aside0.mk hO3; have HM3 := Aside0.mk hM3; clear hO3 hM3)))
    go_roundg (l.length - (i + 1))
    case measure => have := HG2.out; have := CL.out; omega
    case rel =>
     have := CL.out
     refine ⟨i + 1, by simp, ⟨by omega⟩, ⟨by omega⟩, ⟨?_⟩, ⟨HMV.out.trans ((Moved.of_below _ HB2.out).trans HM3.out)⟩⟩
     rw [HXN.out, ← HT.out]; exact HO3.out
  ·have clb : decide ((i : Int) < (l.length : Int)) = false := decide_eq_false (by omega)
   have clb2 : decide (i < l.length) = false := decide_eq_false cl
   have HFIN : Aside0 (listB (l.take i) = listB l) := ⟨by rw [List.take_of_length_le (by omega)]⟩
   clear cl
   rw [HFIN.out] at HAT
   go_wp2
   go_ret
   exact ⟨u0, by simp [results, Tryd.results21, go_sem], HAT.out, HMV.out⟩
end Go.Proofs.YtfoodfhhdbaieaaDoor.Giv
