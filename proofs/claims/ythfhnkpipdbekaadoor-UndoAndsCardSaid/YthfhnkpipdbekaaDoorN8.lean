-- CUT by a program of this session: what the claim does not use is left out
import Derived.Test.YthfhnkpipdbekaaDoorN7
import Derived.Test.YthfhnkpipdbekaaDoorN5
import Derived.Test.YthfhnkpipdbekaaDoorQ3
namespace Go.Proofs.YthfhnkpipdbekaaDoor.Giv
set_option linter.unusedVariables false
set_option linter.unusedSimpArgs false
open Go.RowKit Go.Shelf Go.Proofs.YthfhnkpipdbekaaDoorW.PrintWords Go.Proofs.YthfhnkpipdbekaaDoorW.PrintLast Go.Proofs.YthfhnkpipdbekaaDoorW.PrintMore
open Go.Proofs.YthfhnkpipdbekaaDoor.Ua (S67 k67 z67 rd_T67 at_T67 k67_open k67_openM k67_mkM)
theorem pSn8 {α : Type} : (∀ (l : List α) (i : Nat) (a : α), l.toArray.setIfInBounds i a = (l.set i a).toArray) ∧ (∀ (l : List α) (x y : α), (x :: l).set 0 y = y :: l) ∧ (∀ (l : List α) (x y : α) (n : Nat), (x :: l).set (n + 1) y = x :: l.set n y) :=
 ⟨fun _ _ _ => List.setIfInBounds_toArray .., fun _ _ _ => rfl, fun _ _ _ _ => rfl⟩
open Bool renaming true → T, false → F
abbrev z0n8 : Array Bool := #[F,F,F,F,F,F,F,F,F,F,F,F]
abbrev z1n8 : Array Bool := #[F,T,F,F,F,F,F,F,F,F,F,F]
abbrev z2n8 : Array Bool := #[F,T,T,F,F,F,F,F,F,F,F,F]
abbrev z3n8 : Array Bool := #[F,T,T,F,F,F,F,T,F,F,F,F]
abbrev z4n8 : Array Bool := #[F,T,T,F,F,F,F,T,T,F,F,F]
abbrev z5n8 : Array Bool := #[T,T,T,F,F,F,F,T,T,F,F,F]
abbrev z6n8 : Array Bool := #[T,T,T,T,F,F,F,T,T,F,F,F]
abbrev z7n8 : Array Bool := #[T,T,T,T,T,F,F,T,T,F,F,F]
abbrev z8n8 : Array Bool := #[T,T,T,T,F,F,F,T,T,T,F,F]
abbrev z9n8 : Array Bool := #[T,T,T,T,T,T,F,T,T,F,F,F]
abbrev z10n8 : Array Bool := #[T,T,T,T,T,T,T,T,T,F,F,F]
abbrev z11n8 : Array Bool := #[T,T,T,T,T,T,T,T,T,T,F,F]
abbrev z12n8 : Array Bool := #[T,T,T,T,T,T,T,T,T,T,T,F]
abbrev z13n8 : Array Bool := #[T,T,T,T,T,T,T,T,T,T,T,T]
abbrev z14n8 : Array Bool := #[T,T,T,T,T,F,F,T,T,T,F,F]
abbrev z15n8 : Array Bool := #[T,T,T,T,T,T,F,T,T,T,F,F]
def wordL : List (List UInt8) := [[110, 111, 116], [99, 110, 111, 116], [116, 111, 102, 102, 111, 108, 105], [115, 119, 97, 112]]
def wordB (k : Int) : List UInt8 := wordL.getD k.toNat []
def opA (o : S67) : List UInt8 := [59, 32] ++ wordB o.f0 ++ [32] ++ Lib.itoa o.f1
def opX (o : S67) : List UInt8 := if o.f0 = 0 then [] else 32 :: Lib.itoa o.f2
def opY (o : S67) : List UInt8 := if o.f0 = 2 then 32 :: Lib.itoa o.f3 else []
def opB (o : S67) : List UInt8 := opA o ++ opX o ++ opY o
def writeB (n : Int) (l : List S67) : List UInt8 := Lib.itoa n ++ (l.map opB).flatten
def itoaS (y : Int) : ByteArray := ⟨(Lib.itoa y).toArray⟩
def wordS (k : Int) : ByteArray := ⟨(wordB k).toArray⟩
theorem writeB_next {n : Int} {l : List S67} {i : Nat} (h : i < l.length) : writeB n (l.take (i + 1)) = writeB n (l.take i) ++ opB l[i] := by
 unfold writeB
 rw [List.take_succ_eq_append_getElem h, List.map_append, List.flatten_append, List.append_assoc]
 simp only [List.map_cons, List.map_nil, List.flatten_cons, List.flatten_nil, List.append_nil]
theorem nDig_small {u : Nat} (h : u < 10000) : Lib.nDigits u ≤ 4 := by
 by_cases h1 : u < 10
 ·rw [Lib.nDigits_small h1]; omega
 ·rw [Lib.nDigits_big h1]
  by_cases h2 : u / 10 < 10
  ·rw [Lib.nDigits_small h2]; omega
  ·rw [Lib.nDigits_big h2]
   by_cases h3 : u / 10 / 10 < 10
   ·rw [Lib.nDigits_small h3]; omega
   ·rw [Lib.nDigits_big h3, Lib.nDigits_small (by omega)]; decide
theorem itoa_nn {y : Int} (h : 0 ≤ y) : Lib.itoa y = Lib.decDigits y.toNat := by unfold Lib.itoa; rw [if_neg (by omega)]
theorem itoa_len {y : Int} (h : 0 ≤ y) (h2 : y < 10000) : (Lib.itoa y).length ≤ 4 := by
 rw [itoa_nn h, Lib.decDigits_length]; exact nDig_small (by omega)
theorem wordB_len {k : Int} (h : k = 0 ∨ k = 1 ∨ k = 2 ∨ k = 3) : (wordB k).length ≤ 7 := by
 rcases h with rfl | rfl | rfl | rfl <;> decide
theorem op_lens {n : Int} {o : S67} (hn : n ≤ 1024) (h : rightB n o = true) : (opA o).length ≤ 20 ∧ (opX o).length ≤ 5 ∧ (opY o).length ≤ 5 := by
 obtain ⟨⟨a0, a1⟩, hb, hc, hk⟩ := rightB_in h
 have e1 := itoa_len a0 (by omega)
 have e2 := wordB_len hk
 refine ⟨by simp [opA]; omega, ?_, ?_⟩
 ·unfold opX; split
  ·simp
  ·rename_i hz; have := hb hz; have e3 := itoa_len this.1 (by omega); simp; omega
 ·unfold opY; split
  ·rename_i hz; have := hc hz; have e3 := itoa_len this.1 (by omega); simp; omega
  ·simp
theorem write_len {n : Int} (hn0 : 0 ≤ n) (hn : n ≤ 1024) : ∀ l : List S67, (∀ o ∈ l, rightB n o = true) → (writeB n l).length ≤ 4 + 30 * l.length
 | [], _ => by have := itoa_len hn0 (by omega); simpa [writeB] using this
 | o :: l, h => by
  have h1 := op_lens hn (h o List.mem_cons_self)
  have h2 := write_len hn0 hn l (fun p hp => h p (List.mem_cons_of_mem _ hp))
  simp only [writeB, List.length_append, List.map_cons, List.flatten_cons, opB, List.length_cons] at h2 ⊢
  omega
theorem itoa_calls (y : Int) (w : World) (hlay : Laid w) (h0 : 0 ≤ y) (h1 : y < 10000) : Calls Tryd.prog 83 #[.int .i64 y] w fun e w' => e = .returned (.string (itoaS y)) ∧ Below w.heap.size w w' := by
 refine (Tryd.strconv_Itoa y (by omega) (by omega) w hlay.pow).mono ?_
 rintro e w' ⟨rfl, k, os, rfl⟩
 refine ⟨rfl, rfl, rfl, rfl, by simp [Go.Sort.grow], fun j hj => ?_⟩
 simp [Go.Sort.grow, Array.getElem?_append_left hj]
def namesS : ByteArray := ⟨#[110, 111, 116, 32, 99, 110, 111, 116, 32, 116, 111, 102, 102, 111, 108, 105, 32, 115, 119, 97, 112]⟩
theorem fields_names : Lib.fields namesS.data.toList = wordL := by decide +kernel
theorem names_calls (w : World) (hlay : Laid w) : Calls Tryd.prog 50 #[.string namesS] w fun e w' => e = .returned (.slice (some ⟨w.heap.size, 0, none⟩) 4 4) ∧ w' = w.alloc (.cells #[.string (wordS 0), .string (wordS 1), .string (wordS 2), .string (wordS 3)] 9) := by
 refine (Tryd.strings_Fields_laid namesS w (by decide) ?_ hlay.spc).mono ?_
 ·have : ∀ b ∈ namesS.data.toList, b.toNat < 128 := by decide +kernel
  exact fun j b h => this b (List.mem_of_getElem? h)
 rintro e w' ⟨rfl, rfl⟩
 rw [fields_names]
 exact ⟨rfl, rfl⟩
theorem names_cell {w : World} {k : Int} (hk : k = 0 ∨ k = 1 ∨ k = 2 ∨ k = 3) : (w.alloc (.cells #[.string (wordS 0), .string (wordS 1), .string (wordS 2), .string (wordS 3)] 9)).cell? ⟨w.heap.size, k.toNat, none⟩ = some (.string (wordS k)) := by
 rcases hk with rfl | rfl | rfl | rfl <;> simp
theorem isB_below {B b : Nat} {bs : List Value} {w w' : World} (h : Lib.IsBuilder 111 5 B b bs w) (hb : Below w.heap.size w w') : Lib.IsBuilder 111 5 B b bs w' := by
 have key : ∀ p, Lib.BuilderAt 111 5 B b p bs w → Lib.BuilderAt 111 5 B b p bs w' := fun p ⟨h1, v, h2, h3, h4⟩ => ⟨h1, v, (hb.block b (Array.getElem?_eq_some_iff.1 h2).1).trans h2, by
  obtain ⟨q1, q2 | ⟨g, cap, cur, e, hg, hh, q3, q4, q5, q6⟩⟩ := h3
  ·exact ⟨q1, .inl q2⟩
  ·exact ⟨q1, .inr ⟨g, cap, cur, e, hg, (hb.block g (Array.getElem?_eq_some_iff.1 hh).1).trans hh, q3, q4, q5, q6⟩⟩, h4⟩
 exact h.elim (fun h => .inl (key _ h)) (fun h => .inr (key _ h))
theorem box_at (w : World) (o : Obj) : (w.alloc o).heap[w.heap.size]? = some o := by
 unfold World.alloc; exact Array.getElem?_push_size
theorem isB_new (w : World) (o : Obj) : Lib.IsBuilder 111 5 w.heap.size (w.heap.size + 1) [] ((w.alloc o).alloc (.cells #[.pointer none, .slice none 0 0] 111)) := by
 refine .inl ⟨Nat.le_succ _, .slice none 0 0, ?_, ⟨rfl, .inl ⟨rfl, rfl⟩⟩, by simp [Value.ownBlock]⟩
 have := box_at (w.alloc o) (.cells #[.pointer none, .slice none 0 0] 111)
 rw [show (w.alloc o).heap.size = w.heap.size + 1 by simp] at this
 exact this
structure WrAt (w wr : World) (l : List UInt8) : Prop where
 isb : Lib.IsBuilder 111 5 w.heap.size (w.heap.size + 1) (Lib.byteCells l) wr
 below : Below w.heap.size w wr
theorem WrAt.later {w wr W : World} {l : List UInt8} (h : WrAt w wr l) (hb : Below wr.heap.size wr W) : WrAt w W l := ⟨isB_below h.isb hb, below_step h.below hb⟩
theorem WrAt.drew {w wr : World} {l : List UInt8} (h : WrAt w wr l) : WrAt w wr.drew l := h.later (below_drew (Below.refl _ _))
theorem WrAt.write {w wr : World} {l : List UInt8} (h : WrAt w wr l) (s : ByteArray) (hl : l.length + s.size ≤ 140737488355328) :
  Calls Tryd.prog 86 #[.pointer (some ⟨w.heap.size + 1, 0, none⟩), .string s] wr fun e w' => e = .returned (.tuple #[.int .i64 s.size, .nilIface]) ∧ WrAt w w' (l ++ s.data.toList) ∧ Keep5 (w.heap.size + 1) wr w' := by
 refine (writeString_calls w.heap.size (w.heap.size + 1) (Lib.byteCells l) s wr h.isb (by rw [Lib.byteCells_length]; exact hl) h.below.size).mono ?_
 rintro e w' ⟨rfl, h1, h2, h3⟩
 refine ⟨rfl, ⟨?_, ?_⟩, h3⟩
 ·have e : Lib.byteCells (l ++ s.data.toList) = Lib.byteCells l ++ Lib.strCells s := by simp [Lib.byteCells, Lib.strCells]
  rw [e]; exact h1
 ·exact ⟨h2.os.trans h.below.os, h2.tape.trans h.below.tape, h2.output.trans h.below.output, Nat.le_trans h.below.size h2.size, fun k hk => (h2.block k hk).trans (h.below.block k hk)⟩
def undo_write.f (a0_0 : Int) (l0_1 : List S67) : Option ByteArray := if validB a0_0 l0_1 = true then some ⟨(writeB a0_0 l0_1).toArray⟩ else none
theorem size_list (s : ByteArray) : s.size = s.data.toList.length := by rw [Array.length_toList]; rfl
theorem size_toArray (l : List UInt8) : (⟨l.toArray⟩ : ByteArray).size = l.length := by simp [ByteArray.size]
def reg51_6.T : Bool × List (List Nat × List Nat) := (true, [([], []), ([], []), ([1], [1]), ([0, 2], [0, 2]), ([3], [3]), ([4], [4]), ([5], [5]), ([], []), ([7], [7]), ([8, 0], [8]), ([6, 9], [6, 9]), ([10, 9], [10])])
def reg51_6.B : List Nat := [0, 0, 2, 7, 15, 31, 63, 0, 128, 385, 1023, 2047]
theorem reg51_6.tab : rtab .any (opsOf Tryd.f51 6) = reg51_6.T := by kernel_rfl
theorem reg51_6.bits : waitsOk reg51_6.T.2 reg51_6.B = true := by kernel_rfl
set_option maxHeartbeats 16000000 in
set_option maxRecDepth 100000 in
theorem undo_write.calls (a0_0 : Int) (A0_1 : Option Addr) (c0_1 : Nat) (l0_1 : List S67) (r : ByteArray) (w : World) (hr0_1 : Kd.C k67 w A0_1 l0_1.length l0_1) (hc0_1 : l0_1.length ≤ c0_1) (hlay : Laid w) (h : undo_write.f a0_0 l0_1 = some r) :
  Calls Tryd.prog 51 #[.agg #[.int .i64 a0_0, .slice A0_1 l0_1.length c0_1]] w fun e w' => e = .returned (.string r) ∧ Below w.heap.size w w' := by
 have HB := Aside0.mk (Below.refl w.heap.size w)
 have HC := Aside0.mk hr0_1
 have HLAY := Aside0.mk hlay
 unfold undo_write.f at h
 cases hv : validB a0_0 l0_1 with
 | false => rw [hv, if_neg (by simp)] at h; cases h
 | true =>
 rw [hv, if_pos rfl] at h
 obtain rfl := Option.some.inj h
 obtain ⟨⟨hv1, hv2, hv3⟩, hv4⟩ := validB_all hv
 have HRT := Aside0.mk hv4
 have HV := Aside0.mk (And.intro hv1 (And.intro hv2 hv3))
 have HWL : Aside0 (∀ i, (writeB a0_0 (l0_1.take i)).length ≤ 6000004) := ⟨fun i => by
  have := write_len (n := a0_0) (by omega) hv2 (l0_1.take i) (fun o ho => hv4 o (List.mem_of_mem_take ho))
  have h2 := List.length_take_le' i l0_1
  omega⟩
 clear hr0_1 hc0_1 h hv hlay hv1 hv2 hv3 hv4
 have HL3 : Aside0 (l0_1.length ≤ 200000) := ⟨HV.out.2.2⟩
 have HN0 : Aside0 (WrAt w ((w.alloc (.cells #[.int .i64 a0_0, .slice A0_1 l0_1.length c0_1] 25)).alloc (.cells #[.pointer none, .slice none 0 0] 111)) []) := ⟨⟨isB_new w _, by repeat (first | exact HB.out | apply below_alloc)⟩⟩
 have HBX0 : Aside0 (((w.alloc (.cells #[.int .i64 a0_0, .slice A0_1 l0_1.length c0_1] 25)).alloc (.cells #[.pointer none, .slice none 0 0] 111)).heap[w.heap.size]? = some (.cells #[.int .i64 a0_0, .slice A0_1 l0_1.length c0_1] 25 (0, 0))) := ⟨by
  have e1 := box_at w (.cells #[.int .i64 a0_0, .slice A0_1 l0_1.length c0_1] 25)
  have e2 : ((w.alloc (.cells #[.int .i64 a0_0, .slice A0_1 l0_1.length c0_1] 25)).alloc (.cells #[.pointer none, .slice none 0 0] 111)).heap[w.heap.size]? = (w.alloc (.cells #[.int .i64 a0_0, .slice A0_1 l0_1.length c0_1] 25)).heap[w.heap.size]? := (below_alloc (Below.refl _ _) _).block _ (Array.getElem?_eq_some_iff.1 e1).1
  exact e2.trans e1⟩
 go_enter Tryd.func51, Tryd.ntmps51
 go_wp2_with (first
  | (go_at_call 83; refine (itoa_calls a0_0 _ (Laid.below HLAY.out HN0.out.below) (by have := HV.out; omega) (by have := HV.out; omega)).mono ?_; rintro e w2 ⟨rfl, hb⟩; have HN2 := Aside0.mk (HN0.out.later hb); have HBX2 := Aside0.mk ((hb.block _ (Array.getElem?_eq_some_iff.1 HBX0.out).1).trans HBX0.out); clear hb)
  | (go_at_call 86; refine (HN2.out.write (itoaS a0_0) (by have := itoa_len (y := a0_0) (by have := HV.out; omega) (by have := HV.out; omega); rw [itoaS, size_toArray]; simp; omega)).mono ?_; rintro e w3 ⟨rfl, hw3, hk3⟩; have HN3 := Aside0.mk hw3; have hbx3 := hk3 _ _ _ _ (by omega) HBX2.out (by decide); have hz0 : w3.cell? ⟨w.heap.size, 0, none⟩ = some (.int .i64 a0_0) := (blk_cell hbx3 0).trans rfl; have hz1 : w3.cell? ⟨w.heap.size, 1, none⟩ = some (.slice A0_1 l0_1.length c0_1) := (blk_cell hbx3 1).trans rfl; clear hw3 hk3 hbx3))
 have HST : Aside0 (WrAt w w3 (writeB a0_0 (l0_1.take 0))) := ⟨by have := HN3.out; simpa [writeB, itoaS] using this⟩
 clear HN0 HN2 HN3 HBX0 HBX2 hz0 hz1
 go_loopg [5, 13] l0_1.length (fun gg _ s8 wr => ∃ i : Nat, s8 = .int .i64 (i : Int) ∧ Aside0 (i ≤ l0_1.length) ∧ Aside0 (l0_1.length - i = gg) ∧ Aside0 (WrAt w wr (writeB a0_0 (l0_1.take i))))
 case atStart => exact ⟨0, rfl, ⟨by omega⟩, ⟨by omega⟩, HST⟩
 case round =>
  clear HST
  obtain ⟨i, rfl, HI, HG2, HAT⟩ := hrel
  by_cases cl : i < l0_1.length
  ·have clb : decide ((i : Int) < (l0_1.length : Int)) = true := decide_eq_true (by omega)
   obtain ⟨ad, e1, h0, h1, h2, h3⟩ := at_T67 (Kd.C_below HC.out HAT.out.below) (i : Int) (by omega) (by omega)
   rw [rd_T67_at l0_1 i cl] at h0 h1 h2 h3
   subst e1
   have p1 : (0 ≤ (i : Int)) = True := eq_true (by omega)
   have q1 : ((i : Int) < (l0_1.length : Int)) = True := eq_true (by omega)
   rw [Int.toNat_natCast] at h0 h1 h2 h3
   have HM := Aside0.mk (List.getElem_mem cl)
   have HN := Aside0.mk (writeB_next (n := a0_0) cl)
   obtain ⟨o, ho⟩ : ∃ o, o = l0_1[i] := ⟨_, rfl⟩
   rw [← ho] at h0 h1 h2 h3 HN HM
   clear ho
   have HO := Aside0.mk (HRT.out o HM.out)
   have CL := Aside0.mk cl
   clear cl
   have HOL := Aside0.mk (op_lens HV.out.2.1 HO.out)
   have HRI0 := Aside0.mk (rightB_in HO.out)
   obtain ⟨k, a, b, cc⟩ := o
   have HRI : Aside0 ((0 ≤ a ∧ a < a0_0) ∧ (k ≠ 0 → 0 ≤ b ∧ b < a0_0) ∧ (k = 2 → 0 ≤ cc ∧ cc < a0_0) ∧ (k = 0 ∨ k = 1 ∨ k = 2 ∨ k = 3)) := HRI0
   clear HRI0
   dsimp only at h0 h1 h2 h3
   obtain ⟨X, hX⟩ : ∃ X, X = writeB a0_0 (l0_1.take i) := ⟨_, rfl⟩
   have HXL : Aside0 (X.length ≤ 6000004) := ⟨by rw [hX]; exact HWL.out i⟩
   rw [← hX] at HAT HN
   clear hX
   have HK : Aside0 (k = 0 ∨ k = 1 ∨ k = 2 ∨ k = 3) := ⟨HRI.out.2.2.2⟩
   have HPA : Aside0 (0 ≤ a ∧ a < 10000) := ⟨by have := HRI.out.1; have := HV.out; exact ⟨by omega, by omega⟩⟩
   have pk : (0 ≤ k) = True := eq_true (by have := HK.out; omega)
   have qk : (k < 4) = True := eq_true (by have := HK.out; omega)
   have HLA : Aside0 (((((⟨#[59, 32]⟩ : ByteArray) ++ wordS k) ++ (⟨#[32]⟩ : ByteArray)) ++ itoaS a).data.toList = opA ⟨k, a, b, cc⟩) := ⟨by simp [opA, wordS, itoaS, ByteArray.data_append]⟩
   have HSA : Aside0 (((((⟨#[59, 32]⟩ : ByteArray) ++ wordS k) ++ (⟨#[32]⟩ : ByteArray)) ++ itoaS a).size ≤ 20) := ⟨by rw [size_list, HLA.out]; exact HOL.out.1⟩
   have HWK : Aside0 ((wordS k).size ≤ 7 ∧ (itoaS a).size ≤ 4) := ⟨⟨by rw [wordS, size_toArray]; exact wordB_len HK.out, by rw [itoaS, size_toArray]; exact itoa_len HPA.out.1 HPA.out.2⟩⟩
   have z1 : (9223372036854775807 < 2 + (wordS k).size) = False := eq_false (by have := HWK.out; omega)
   have z2 : (9223372036854775807 < 2 + (wordS k).size + 1) = False := eq_false (by have := HWK.out; omega)
   have z3 : (9223372036854775807 < 2 + (wordS k).size + 1 + (itoaS a).size) = False := eq_false (by have := HWK.out; omega)
   go_wp2_with (first | ((with_reducible refine gate_dst (N := 5) rfl ?_); refine box_event ?hg (N := 5) ?hd (cs := #[.int .i64 0, .int .i64 0, .int .i64 0, .int .i64 0]) (t := 67) ?hr ?_; (case hd => rfl); (case hg => rfl); (case hr => first | (go_simp; done) | (go_simp; rfl)); intro gb hgb w9 hbox hb; have hcz0 : w9.cell? ⟨gb, 0, none⟩ = some (.int .i64 0) := (blk_cell hbox 0).trans rfl; have hcz1 : w9.cell? ⟨gb, 1, none⟩ = some (.int .i64 0) := (blk_cell hbox 1).trans rfl; have hcz2 : w9.cell? ⟨gb, 2, none⟩ = some (.int .i64 0) := (blk_cell hbox 2).trans rfl; have hcz3 : w9.cell? ⟨gb, 3, none⟩ = some (.int .i64 0) := (blk_cell hbox 3).trans rfl; have hfz0 := blk_frozen hbox 0; have hfz1 := blk_frozen hbox 1; have hfz2 := blk_frozen hbox 2; have hfz3 := blk_frozen hbox 3; have HBX := Aside0.mk hbox; have HGB := Aside0.mk hgb; have HB9 := Aside0.mk hb; clear hbox hgb hb))
   obtain ⟨hw1, hw2⟩ := opSet_at HBX.out HGB.out HB9.out (.int .i64 k) (.int .i64 a) (.int .i64 b) (.int .i64 cc)
   generalize ((((w9.setCell ⟨gb, 0, none⟩ (.int .i64 k)).setCell ⟨gb, 1, none⟩ (.int .i64 a)).setCell ⟨gb, 2, none⟩ (.int .i64 b)).setCell ⟨gb, 3, none⟩ (.int .i64 cc)) = W at hw1 hw2 ⊢
   clear hcz0 hcz1 hcz2 hcz3 hfz0 hfz1 hfz2 hfz3 HBX HB9
   have HAW := Aside0.mk (HAT.out.later hw2)
   have o0 : W.cell? ⟨gb, 0, none⟩ = some (.int .i64 k) := (blk_cell hw1 0).trans rfl
   have o1 : W.cell? ⟨gb, 1, none⟩ = some (.int .i64 a) := (blk_cell hw1 1).trans rfl
   have HBO := Aside0.mk hw1
   have HGW : Aside0 (gb < W.heap.size) := ⟨(Array.getElem?_eq_some_iff.1 hw1).1⟩
   have HGE : Aside0 (gb ≠ w.heap.size + 1) := ⟨by
    have h1 := HGB.out
    have h2 : w.heap.size + 1 < wr.heap.size := by rcases HAT.out.isb with h | h <;> exact h.lt
    omega⟩
   clear hw1 hw2
   refine start_ (n := 12) (S := fun w' => w'.cell? ⟨gb, 0, none⟩ = some (.int .i64 k) ∧ w'.cell? ⟨gb, 1, none⟩ = some (.int .i64 a)) (ds := [11]) z0n8 (by kernel_rfl) rfl rfl ⟨o0, o1⟩ (fun hHeld => ?_); refine with_tabW reg51_6.tab reg51_6.bits (fun HT_ HW_ => ?_)
   have HAW0 := Aside0.mk HAW.out.drew
   have HBO0 : Aside0 (W.drew.heap[gb]? = some (.cells #[.int .i64 k, .int .i64 a, .int .i64 b, .int .i64 cc] 67 (0, 0))) := HBO
   generalize W.drew = W0 at HAW0 HBO0 hHeld ⊢
   clear HAW HBO o0 o1
   refine pure_ (i := 1) (N := some 18) (v := ?_) (a' := ?_) z1n8 rfl rfl (any_of HT_.out (by kernel_rfl)) (fun _ _ _ h => h) (Or.inl ⟨by rfl, ?_⟩) ?_ ?_
   rotate_left
   ·intro w'
    go_simp
    with_reducible rfl
   rotate_left
   ·simp only [Act.put, pSn8, i64_w]
    rfl
   refine take_ (i := 2) (N := some 19) (v := ?_) (a' := ?_) z2n8 rfl rfl (take_ofW HT_.out HW_.out (by kernel_rfl)) (fun _ _ _ h => h) (Or.inl ⟨by rfl, ?_⟩) hHeld ?_ ?_
   rotate_left
   ·rintro w' ⟨s1, s2⟩
    go_simp
    with_reducible rfl
   rotate_left
   ·simp only [Act.put, pSn8, i64_w]
    rfl
   refine pure_ (i := 7) (N := some 24) (v := ?_) (a' := ?_) z3n8 rfl rfl (any_of HT_.out (by kernel_rfl)) (fun _ _ _ h => h) (Or.inl ⟨by rfl, ?_⟩) ?_ ?_
   rotate_left
   ·intro w'
    go_simp
    with_reducible rfl
   rotate_left
   ·simp only [Act.put, pSn8, i64_w]
    rfl
   refine take_ (i := 8) (N := some 25) (v := ?_) (a' := ?_) z4n8 rfl rfl (take_ofW HT_.out HW_.out (by kernel_rfl)) (fun _ _ _ h => h) (Or.inl ⟨by rfl, ?_⟩) hHeld ?_ ?_
   rotate_left
   ·rintro w' ⟨s1, s2⟩
    go_simp
    with_reducible rfl
   rotate_left
   ·simp only [Act.put, pSn8, i64_w]
    rfl
   refine one_ (i := 0) (N := some 17) z5n8 rfl rfl (one_of HT_.out (by kernel_rfl)) (by decide) (fun K hK => ?_)
   refine goes_ Tryd.func50 (by kernel_rfl) rfl #[.string namesS] (by rfl) rfl rfl (by (try simp only [List.map_toArray, List.map_cons, List.map_nil]); first | done | rfl) ?_
   refine (names_calls W0 (Laid.below HLAY.out HAW0.out.below)).mono ?_
   rintro e w' ⟨rfl, hw'⟩
   refine ⟨_, rfl, ?_⟩
   have HAW1 : Aside0 (WrAt w w' X) := ⟨by rw [hw']; exact HAW0.out.later (below_alloc (Below.refl _ _) _)⟩
   have HBO1 : Aside0 (w'.heap[gb]? = some (.cells #[.int .i64 k, .int .i64 a, .int .i64 b, .int .i64 cc] 67 (0, 0))) := ⟨by rw [hw']; exact ((below_alloc (Below.refl _ _) _).block gb (Array.getElem?_eq_some_iff.1 HBO0.out).1).trans HBO0.out⟩
   have hnm : w'.cell? ⟨W0.heap.size, k.toNat, none⟩ = some (.string (wordS k)) := by rw [hw']; exact names_cell HK.out
   clear hw'
   generalize W0.heap.size = gn at hnm ⊢
   refine hK.out _ _ ⟨(blk_cell HBO1.out 0).trans rfl, (blk_cell HBO1.out 1).trans rfl⟩ (fun hHeld => ?_)
   clear hK K
   refine norm_ (a' := ?_) ?_ ?_
   rotate_left
   ·show Act.put _ (some 17) _ = _
    simp only [Act.put, pSn8, i64_w]
    rfl
   refine pure_ (i := 3) (N := some 20) (v := ?_) (a' := ?_) z6n8 rfl rfl (any_of HT_.out (by kernel_rfl)) (fun _ _ _ h => h) (Or.inl ⟨by rfl, ?_⟩) ?_ ?_
   rotate_left
   ·intro w'
    go_simp
    with_reducible rfl
   rotate_left
   ·simp only [Act.put, pSn8, i64_w]
    rfl
   refine two_ (i := 4) (j := 9) (Ni := some 21) (Nj := some 26) z7n8 z8n8 rfl rfl rfl rfl (two_of HT_.out (by kernel_rfl)) (by decide) (by decide) (fun K hK => ?_) (fun K hK => ?_)
   ·skip
    refine event_step (v := .string (wordS k)) (w1 := w') (by rfl) ?hr ?_; (case hr => first | (go_simp; done) | (go_simp; rfl))
    refine hK.out _ _ hHeld (fun hHeld => ?_)
    clear hK K
    refine norm_ (a' := ?_) ?_ ?_
    rotate_left
    ·show Act.put _ (some 21) _ = _
     simp only [Act.put, pSn8, i64_w]
     rfl
    refine pure_ (i := 5) (N := some 22) (v := ?_) (a' := ?_) z9n8 rfl rfl (any_of HT_.out (by kernel_rfl)) (fun _ _ _ h => h) (Or.inl ⟨by rfl, ?_⟩) ?_ ?_
    rotate_left
    ·intro w'
     go_simp
     with_reducible rfl
    rotate_left
    ·simp only [Act.put, pSn8, i64_w]
     rfl
    refine pure_ (i := 6) (N := some 23) (v := ?_) (a' := ?_) z10n8 rfl rfl (any_of HT_.out (by kernel_rfl)) (fun _ _ _ h => h) (Or.inl ⟨by rfl, ?_⟩) ?_ ?_
    rotate_left
    ·intro w'
     go_simp
     with_reducible rfl
    rotate_left
    ·simp only [Act.put, pSn8, i64_w]
     rfl
    refine one_ (i := 9) (N := some 26) z11n8 rfl rfl (one_of HT_.out (by kernel_rfl)) (by decide) (fun K hK => ?_)
    refine goes_ Tryd.func83 (by kernel_rfl) rfl #[.int .i64 a] (by rfl) rfl rfl (by (try simp only [List.map_toArray, List.map_cons, List.map_nil]); first | done | rfl) ?_
    refine (itoa_calls a w' (Laid.below HLAY.out HAW1.out.below) HPA.out.1 HPA.out.2).mono ?_
    rintro e w4 ⟨rfl, hb4⟩
    refine ⟨_, rfl, ?_⟩
    have HAW4 := Aside0.mk (HAW1.out.later hb4)
    have HBO4 := Aside0.mk ((hb4.block gb (Array.getElem?_eq_some_iff.1 HBO1.out).1).trans HBO1.out)
    have hnm4 := pw_cell_below hb4 hnm
    clear hb4
    refine hK.out _ _ ⟨(blk_cell HBO4.out 0).trans rfl, (blk_cell HBO4.out 1).trans rfl⟩ (fun hHeld => ?_)
    clear hK K
    refine norm_ (a' := ?_) ?_ ?_
    rotate_left
    ·show Act.put _ (some 26) _ = _
     simp only [Act.put, pSn8, i64_w]
     rfl
    refine pure_ (i := 10) (N := some 27) (v := ?_) (a' := ?_) z12n8 rfl rfl (any_of HT_.out (by kernel_rfl)) (fun _ _ _ h => h) (Or.inl ⟨by rfl, ?_⟩) ?_ ?_
    rotate_left
    ·intro w'
     go_simp
     with_reducible rfl
    rotate_left
    ·simp only [Act.put, pSn8, i64_w]
     rfl
    refine last_ (i := 11) (N := some 28) z13n8 rfl rfl (one_of HT_.out (by kernel_rfl)) (by decide) (fun K hK => ?_)
    refine goes_ Tryd.func86 (by kernel_rfl) rfl #[.pointer (some ⟨w.heap.size + 1, 0, none⟩), .string ((((⟨#[59, 32]⟩ : ByteArray) ++ wordS k) ++ (⟨#[32]⟩ : ByteArray)) ++ itoaS a)] (by rfl) rfl rfl (by (try simp only [List.map_toArray, List.map_cons, List.map_nil]); first | done | rfl) ?_
    refine (HAW4.out.write _ (by have := HSA.out; have := HXL.out; omega)).mono ?_
    rintro e w5 ⟨rfl, hw5, hk5⟩
    refine ⟨_, rfl, ?_⟩
    have HAW5 : Aside0 (WrAt w w5 (X ++ opA ⟨k, a, b, cc⟩)) := ⟨by rw [← HLA.out]; exact hw5⟩
    have hbo5 := hk5 _ _ _ _ HGE.out HBO4.out (by decide)
    have HBO5 := Aside0.mk hbo5
    have o0 : w5.cell? ⟨gb, 0, none⟩ = some (.int .i64 k) := (blk_cell hbo5 0).trans rfl
    have o2 : w5.cell? ⟨gb, 2, none⟩ = some (.int .i64 b) := (blk_cell hbo5 2).trans rfl
    have o3 : w5.cell? ⟨gb, 3, none⟩ = some (.int .i64 cc) := (blk_cell hbo5 3).trans rfl
    clear hw5 hk5 hbo5
    refine hK.out _ _ ?_
    clear hK K
    refine norm_ (a' := ?_) ?_ ?_
    rotate_left
    ·show Act.put _ (some 28) _ = _
     simp only [Act.put, pSn8, i64_w]
     rfl
    refine done_ (done_of HT_.out (by kernel_rfl)) ?_
    skip
    by_cases k0 : k = 0
    ·subst k0
     have HF : Aside0 (WrAt w w5 (X ++ opB ⟨0, a, b, cc⟩)) := ⟨by rw [show opB ⟨0, a, b, cc⟩ = opA ⟨0, a, b, cc⟩ by simp [opB, opX, opY]]; exact HAW5.out⟩
     go_wp2
     go_roundg (l0_1.length - (i + 1))
     case measure => have := HG2.out; have := CL.out; omega
     case rel =>
      have := CL.out
      refine ⟨i + 1, ?_, ⟨by omega⟩, ⟨by omega⟩, ⟨by rw [HN.out]; exact HF.out⟩⟩
      rw [show wrap64 ((i : Int) + 1) = ((i + 1 : Nat) : Int) by have := HL3.out; unfold wrap64; omega]
    have k0b : (k == 0) = false := beq_eq_false_iff_ne.2 k0
    have k0n : (k != 0) = true := bne_iff_ne.2 k0
    have HPY : Aside0 (0 ≤ b ∧ b < 10000) := ⟨by have := HRI.out.2.1 k0; have := HV.out; exact ⟨by omega, by omega⟩⟩
    have HLY : Aside0 (((⟨#[32]⟩ : ByteArray) ++ itoaS b).data.toList = opX ⟨k, a, b, cc⟩) := ⟨by simp [opX, itoaS, ByteArray.data_append, k0]⟩
    have HSY : Aside0 (((⟨#[32]⟩ : ByteArray) ++ itoaS b).size ≤ 5) := ⟨by rw [size_list, HLY.out]; exact HOL.out.2.1⟩
    have HIY : Aside0 ((itoaS b).size ≤ 4) := ⟨by rw [itoaS, size_toArray]; exact itoa_len HPY.out.1 HPY.out.2⟩
    have y1 : (9223372036854775807 < 1 + (itoaS b).size) = False := eq_false (by have := HIY.out; omega)
    have HXY : Aside0 (((X ++ opA ⟨k, a, b, cc⟩)).length ≤ 6000030) := ⟨by have := HXL.out; have := HOL.out; simp only [List.length_append]; omega⟩
    have HK0 := Aside0.mk k0
    clear k0
    by_cases k2 : k = 2
    ·have k2b : (k == 2) = true := beq_iff_eq.2 k2
     have HK2 := Aside0.mk k2
     clear k2
     have HPB := HPY
     have HSB := HSY
     have HLB := HLY
     clear HPY
     have HPC : Aside0 (0 ≤ cc ∧ cc < 10000) := ⟨by have := HRI.out.2.2.1 HK2.out; have := HV.out; exact ⟨by omega, by omega⟩⟩
     have HLC : Aside0 (((⟨#[32]⟩ : ByteArray) ++ itoaS cc).data.toList = opY ⟨k, a, b, cc⟩) := ⟨by simp [opY, itoaS, ByteArray.data_append, HK2.out]⟩
     have HSC : Aside0 (((⟨#[32]⟩ : ByteArray) ++ itoaS cc).size ≤ 5) := ⟨by rw [size_list, HLC.out]; exact HOL.out.2.2⟩
     have HIC : Aside0 ((itoaS cc).size ≤ 4) := ⟨by rw [itoaS, size_toArray]; exact itoa_len HPC.out.1 HPC.out.2⟩
     have y2 : (9223372036854775807 < 1 + (itoaS cc).size) = False := eq_false (by have := HIC.out; omega)
     have HXC : Aside0 (((X ++ opA ⟨k, a, b, cc⟩) ++ opX ⟨k, a, b, cc⟩).length ≤ 6000040) := ⟨by have := HXL.out; have := HOL.out; simp only [List.length_append]; omega⟩
     go_wp2_with (first | (go_at_call 86; refine (HAW8.out.write ((⟨#[32]⟩ : ByteArray) ++ itoaS cc) (by have := HSC.out; have := HXC.out; omega)).mono ?_; rintro e w9' ⟨rfl, hw5, _⟩; have HAW9 : Aside0 (WrAt w w9' ((X ++ opA ⟨k, a, b, cc⟩) ++ opX ⟨k, a, b, cc⟩ ++ opY ⟨k, a, b, cc⟩)) := ⟨by rw [← HLC.out]; exact hw5⟩; clear hw5) | (go_at_call 83; refine (itoa_calls cc _ (Laid.below HLAY.out HAW6.out.below) HPC.out.1 HPC.out.2).mono ?_; rintro e w8 ⟨rfl, hb⟩; have HAW8 := Aside0.mk (HAW6.out.later hb); clear hb) | (go_at_call 86; refine (HAW5a.out.write ((⟨#[32]⟩ : ByteArray) ++ itoaS b) (by have := HSB.out; have := HXY.out; omega)).mono ?_; rintro e w7 ⟨rfl, hw5, hk5⟩; have hbo5 := hk5 _ _ _ _ HGE.out HBOa.out (by decide); have HAW6 : Aside0 (WrAt w w7 ((X ++ opA ⟨k, a, b, cc⟩) ++ opX ⟨k, a, b, cc⟩)) := ⟨by rw [← HLB.out]; exact hw5⟩; have o0' : w7.cell? ⟨gb, 0, none⟩ = some (.int .i64 k) := (blk_cell hbo5 0).trans rfl; have o3' : w7.cell? ⟨gb, 3, none⟩ = some (.int .i64 cc) := (blk_cell hbo5 3).trans rfl; have HBO6 := Aside0.mk hbo5; clear hw5 hk5 hbo5) | (go_at_call 83; refine (itoa_calls b _ (Laid.below HLAY.out HAW5.out.below) HPB.out.1 HPB.out.2).mono ?_; rintro e w6 ⟨rfl, hb⟩; have HAW5a := Aside0.mk (HAW5.out.later hb); have HBOa := Aside0.mk ((hb.block gb (Array.getElem?_eq_some_iff.1 HBO5.out).1).trans HBO5.out); clear hb))
     have HF : Aside0 (WrAt w w9' (X ++ opB ⟨k, a, b, cc⟩)) := ⟨by rw [show X ++ opB ⟨k, a, b, cc⟩ = X ++ opA ⟨k, a, b, cc⟩ ++ opX ⟨k, a, b, cc⟩ ++ opY ⟨k, a, b, cc⟩ by simp [opB]]; exact HAW9.out⟩
     go_roundg (l0_1.length - (i + 1))
     case measure => have := HG2.out; have := CL.out; omega
     case rel =>
      have := CL.out
      refine ⟨i + 1, ?_, ⟨by omega⟩, ⟨by omega⟩, ⟨by rw [HN.out]; exact HF.out⟩⟩
      rw [show wrap64 ((i : Int) + 1) = ((i + 1 : Nat) : Int) by have := HL3.out; unfold wrap64; omega]
    ·have k2b : (k == 2) = false := beq_eq_false_iff_ne.2 k2
     have HK2 := Aside0.mk k2
     clear k2
     go_wp2_with (first | (go_at_call 86; refine (HAW5a.out.write ((⟨#[32]⟩ : ByteArray) ++ itoaS b) (by have := HSY.out; have := HXY.out; omega)).mono ?_; rintro e w7 ⟨rfl, hw5, hk5⟩; have hbo5 := hk5 _ _ _ _ HGE.out HBOa.out (by decide); have HAW6 : Aside0 (WrAt w w7 ((X ++ opA ⟨k, a, b, cc⟩) ++ opX ⟨k, a, b, cc⟩)) := ⟨by rw [← HLY.out]; exact hw5⟩; have o0' : w7.cell? ⟨gb, 0, none⟩ = some (.int .i64 k) := (blk_cell hbo5 0).trans rfl; have o3' : w7.cell? ⟨gb, 3, none⟩ = some (.int .i64 cc) := (blk_cell hbo5 3).trans rfl; have HBO6 := Aside0.mk hbo5; clear hw5 hk5 hbo5) | (go_at_call 83; refine (itoa_calls b _ (Laid.below HLAY.out HAW5.out.below) HPY.out.1 HPY.out.2).mono ?_; rintro e w6 ⟨rfl, hb⟩; have HAW5a := Aside0.mk (HAW5.out.later hb); have HBOa := Aside0.mk ((hb.block gb (Array.getElem?_eq_some_iff.1 HBO5.out).1).trans HBO5.out); clear hb))
     have HF : Aside0 (WrAt w w7 (X ++ opB ⟨k, a, b, cc⟩)) := ⟨by rw [show X ++ opB ⟨k, a, b, cc⟩ = X ++ opA ⟨k, a, b, cc⟩ ++ opX ⟨k, a, b, cc⟩ by simp [opB, opY, HK2.out]]; exact HAW6.out⟩
     go_roundg (l0_1.length - (i + 1))
     case measure => have := HG2.out; have := CL.out; omega
     case rel =>
      have := CL.out
      refine ⟨i + 1, ?_, ⟨by omega⟩, ⟨by omega⟩, ⟨by rw [HN.out]; exact HF.out⟩⟩
      rw [show wrap64 ((i : Int) + 1) = ((i + 1 : Nat) : Int) by have := HL3.out; unfold wrap64; omega]
   ·skip
    refine goes_ Tryd.func83 (by kernel_rfl) rfl #[.int .i64 a] (by rfl) rfl rfl (by (try simp only [List.map_toArray, List.map_cons, List.map_nil]); first | done | rfl) ?_
    refine (itoa_calls a w' (Laid.below HLAY.out HAW1.out.below) HPA.out.1 HPA.out.2).mono ?_
    rintro e w4 ⟨rfl, hb4⟩
    refine ⟨_, rfl, ?_⟩
    have HAW4 := Aside0.mk (HAW1.out.later hb4)
    have HBO4 := Aside0.mk ((hb4.block gb (Array.getElem?_eq_some_iff.1 HBO1.out).1).trans HBO1.out)
    have hnm4 := pw_cell_below hb4 hnm
    clear hb4
    refine hK.out _ _ ⟨(blk_cell HBO4.out 0).trans rfl, (blk_cell HBO4.out 1).trans rfl⟩ (fun hHeld => ?_)
    clear hK K
    refine norm_ (a' := ?_) ?_ ?_
    rotate_left
    ·show Act.put _ (some 26) _ = _
     simp only [Act.put, pSn8, i64_w]
     rfl
    refine one_ (i := 4) (N := some 21) z14n8 rfl rfl (one_of HT_.out (by kernel_rfl)) (by decide) (fun K hK => ?_)
    refine event_step (v := .string (wordS k)) (w1 := w4) (by rfl) ?hr ?_; (case hr => first | (go_simp; done) | (go_simp; rfl))
    refine hK.out _ _ hHeld (fun hHeld => ?_)
    clear hK K
    refine norm_ (a' := ?_) ?_ ?_
    rotate_left
    ·show Act.put _ (some 21) _ = _
     simp only [Act.put, pSn8, i64_w]
     rfl
    refine pure_ (i := 5) (N := some 22) (v := ?_) (a' := ?_) z15n8 rfl rfl (any_of HT_.out (by kernel_rfl)) (fun _ _ _ h => h) (Or.inl ⟨by rfl, ?_⟩) ?_ ?_
    rotate_left
    ·intro w'
     go_simp
     with_reducible rfl
    rotate_left
    ·simp only [Act.put, pSn8, i64_w]
     rfl
    refine pure_ (i := 6) (N := some 23) (v := ?_) (a' := ?_) z11n8 rfl rfl (any_of HT_.out (by kernel_rfl)) (fun _ _ _ h => h) (Or.inl ⟨by rfl, ?_⟩) ?_ ?_
    rotate_left
    ·intro w'
     go_simp
     with_reducible rfl
    rotate_left
    ·simp only [Act.put, pSn8, i64_w]
     rfl
    refine pure_ (i := 10) (N := some 27) (v := ?_) (a' := ?_) z12n8 rfl rfl (any_of HT_.out (by kernel_rfl)) (fun _ _ _ h => h) (Or.inl ⟨by rfl, ?_⟩) ?_ ?_
    rotate_left
    ·intro w'
     go_simp
     with_reducible rfl
    rotate_left
    ·simp only [Act.put, pSn8, i64_w]
     rfl
    refine last_ (i := 11) (N := some 28) z13n8 rfl rfl (one_of HT_.out (by kernel_rfl)) (by decide) (fun K hK => ?_)
    refine goes_ Tryd.func86 (by kernel_rfl) rfl #[.pointer (some ⟨w.heap.size + 1, 0, none⟩), .string ((((⟨#[59, 32]⟩ : ByteArray) ++ wordS k) ++ (⟨#[32]⟩ : ByteArray)) ++ itoaS a)] (by rfl) rfl rfl (by (try simp only [List.map_toArray, List.map_cons, List.map_nil]); first | done | rfl) ?_
    refine (HAW4.out.write _ (by have := HSA.out; have := HXL.out; omega)).mono ?_
    rintro e w5 ⟨rfl, hw5, hk5⟩
    refine ⟨_, rfl, ?_⟩
    have HAW5 : Aside0 (WrAt w w5 (X ++ opA ⟨k, a, b, cc⟩)) := ⟨by rw [← HLA.out]; exact hw5⟩
    have hbo5 := hk5 _ _ _ _ HGE.out HBO4.out (by decide)
    have HBO5 := Aside0.mk hbo5
    have o0 : w5.cell? ⟨gb, 0, none⟩ = some (.int .i64 k) := (blk_cell hbo5 0).trans rfl
    have o2 : w5.cell? ⟨gb, 2, none⟩ = some (.int .i64 b) := (blk_cell hbo5 2).trans rfl
    have o3 : w5.cell? ⟨gb, 3, none⟩ = some (.int .i64 cc) := (blk_cell hbo5 3).trans rfl
    clear hw5 hk5 hbo5
    refine hK.out _ _ ?_
    clear hK K
    refine norm_ (a' := ?_) ?_ ?_
    rotate_left
    ·show Act.put _ (some 28) _ = _
     simp only [Act.put, pSn8, i64_w]
     rfl
    refine done_ (done_of HT_.out (by kernel_rfl)) ?_
    skip
    by_cases k0 : k = 0
    ·subst k0
     have HF : Aside0 (WrAt w w5 (X ++ opB ⟨0, a, b, cc⟩)) := ⟨by rw [show opB ⟨0, a, b, cc⟩ = opA ⟨0, a, b, cc⟩ by simp [opB, opX, opY]]; exact HAW5.out⟩
     go_wp2
     go_roundg (l0_1.length - (i + 1))
     case measure => have := HG2.out; have := CL.out; omega
     case rel =>
      have := CL.out
      refine ⟨i + 1, ?_, ⟨by omega⟩, ⟨by omega⟩, ⟨by rw [HN.out]; exact HF.out⟩⟩
      rw [show wrap64 ((i : Int) + 1) = ((i + 1 : Nat) : Int) by have := HL3.out; unfold wrap64; omega]
    have k0b : (k == 0) = false := beq_eq_false_iff_ne.2 k0
    have k0n : (k != 0) = true := bne_iff_ne.2 k0
    have HPY : Aside0 (0 ≤ b ∧ b < 10000) := ⟨by have := HRI.out.2.1 k0; have := HV.out; exact ⟨by omega, by omega⟩⟩
    have HLY : Aside0 (((⟨#[32]⟩ : ByteArray) ++ itoaS b).data.toList = opX ⟨k, a, b, cc⟩) := ⟨by simp [opX, itoaS, ByteArray.data_append, k0]⟩
    have HSY : Aside0 (((⟨#[32]⟩ : ByteArray) ++ itoaS b).size ≤ 5) := ⟨by rw [size_list, HLY.out]; exact HOL.out.2.1⟩
    have HIY : Aside0 ((itoaS b).size ≤ 4) := ⟨by rw [itoaS, size_toArray]; exact itoa_len HPY.out.1 HPY.out.2⟩
    have y1 : (9223372036854775807 < 1 + (itoaS b).size) = False := eq_false (by have := HIY.out; omega)
    have HXY : Aside0 (((X ++ opA ⟨k, a, b, cc⟩)).length ≤ 6000030) := ⟨by have := HXL.out; have := HOL.out; simp only [List.length_append]; omega⟩
    have HK0 := Aside0.mk k0
    clear k0
    by_cases k2 : k = 2
    ·have k2b : (k == 2) = true := beq_iff_eq.2 k2
     have HK2 := Aside0.mk k2
     clear k2
     have HPB := HPY
     have HSB := HSY
     have HLB := HLY
     clear HPY
     have HPC : Aside0 (0 ≤ cc ∧ cc < 10000) := ⟨by have := HRI.out.2.2.1 HK2.out; have := HV.out; exact ⟨by omega, by omega⟩⟩
     have HLC : Aside0 (((⟨#[32]⟩ : ByteArray) ++ itoaS cc).data.toList = opY ⟨k, a, b, cc⟩) := ⟨by simp [opY, itoaS, ByteArray.data_append, HK2.out]⟩
     have HSC : Aside0 (((⟨#[32]⟩ : ByteArray) ++ itoaS cc).size ≤ 5) := ⟨by rw [size_list, HLC.out]; exact HOL.out.2.2⟩
     have HIC : Aside0 ((itoaS cc).size ≤ 4) := ⟨by rw [itoaS, size_toArray]; exact itoa_len HPC.out.1 HPC.out.2⟩
     have y2 : (9223372036854775807 < 1 + (itoaS cc).size) = False := eq_false (by have := HIC.out; omega)
     have HXC : Aside0 (((X ++ opA ⟨k, a, b, cc⟩) ++ opX ⟨k, a, b, cc⟩).length ≤ 6000040) := ⟨by have := HXL.out; have := HOL.out; simp only [List.length_append]; omega⟩
     go_wp2_with (first | (go_at_call 86; refine (HAW8.out.write ((⟨#[32]⟩ : ByteArray) ++ itoaS cc) (by have := HSC.out; have := HXC.out; omega)).mono ?_; rintro e w9' ⟨rfl, hw5, _⟩; have HAW9 : Aside0 (WrAt w w9' ((X ++ opA ⟨k, a, b, cc⟩) ++ opX ⟨k, a, b, cc⟩ ++ opY ⟨k, a, b, cc⟩)) := ⟨by rw [← HLC.out]; exact hw5⟩; clear hw5) | (go_at_call 83; refine (itoa_calls cc _ (Laid.below HLAY.out HAW6.out.below) HPC.out.1 HPC.out.2).mono ?_; rintro e w8 ⟨rfl, hb⟩; have HAW8 := Aside0.mk (HAW6.out.later hb); clear hb) | (go_at_call 86; refine (HAW5a.out.write ((⟨#[32]⟩ : ByteArray) ++ itoaS b) (by have := HSB.out; have := HXY.out; omega)).mono ?_; rintro e w7 ⟨rfl, hw5, hk5⟩; have hbo5 := hk5 _ _ _ _ HGE.out HBOa.out (by decide); have HAW6 : Aside0 (WrAt w w7 ((X ++ opA ⟨k, a, b, cc⟩) ++ opX ⟨k, a, b, cc⟩)) := ⟨by rw [← HLB.out]; exact hw5⟩; have o0' : w7.cell? ⟨gb, 0, none⟩ = some (.int .i64 k) := (blk_cell hbo5 0).trans rfl; have o3' : w7.cell? ⟨gb, 3, none⟩ = some (.int .i64 cc) := (blk_cell hbo5 3).trans rfl; have HBO6 := Aside0.mk hbo5; clear hw5 hk5 hbo5) | (go_at_call 83; refine (itoa_calls b _ (Laid.below HLAY.out HAW5.out.below) HPB.out.1 HPB.out.2).mono ?_; rintro e w6 ⟨rfl, hb⟩; have HAW5a := Aside0.mk (HAW5.out.later hb); have HBOa := Aside0.mk ((hb.block gb (Array.getElem?_eq_some_iff.1 HBO5.out).1).trans HBO5.out); clear hb))
     have HF : Aside0 (WrAt w w9' (X ++ opB ⟨k, a, b, cc⟩)) := ⟨by rw [show X ++ opB ⟨k, a, b, cc⟩ = X ++ opA ⟨k, a, b, cc⟩ ++ opX ⟨k, a, b, cc⟩ ++ opY ⟨k, a, b, cc⟩ by simp [opB]]; exact HAW9.out⟩
     go_roundg (l0_1.length - (i + 1))
     case measure => have := HG2.out; have := CL.out; omega
     case rel =>
      have := CL.out
      refine ⟨i + 1, ?_, ⟨by omega⟩, ⟨by omega⟩, ⟨by rw [HN.out]; exact HF.out⟩⟩
      rw [show wrap64 ((i : Int) + 1) = ((i + 1 : Nat) : Int) by have := HL3.out; unfold wrap64; omega]
    ·have k2b : (k == 2) = false := beq_eq_false_iff_ne.2 k2
     have HK2 := Aside0.mk k2
     clear k2
     go_wp2_with (first | (go_at_call 86; refine (HAW5a.out.write ((⟨#[32]⟩ : ByteArray) ++ itoaS b) (by have := HSY.out; have := HXY.out; omega)).mono ?_; rintro e w7 ⟨rfl, hw5, hk5⟩; have hbo5 := hk5 _ _ _ _ HGE.out HBOa.out (by decide); have HAW6 : Aside0 (WrAt w w7 ((X ++ opA ⟨k, a, b, cc⟩) ++ opX ⟨k, a, b, cc⟩)) := ⟨by rw [← HLY.out]; exact hw5⟩; have o0' : w7.cell? ⟨gb, 0, none⟩ = some (.int .i64 k) := (blk_cell hbo5 0).trans rfl; have o3' : w7.cell? ⟨gb, 3, none⟩ = some (.int .i64 cc) := (blk_cell hbo5 3).trans rfl; have HBO6 := Aside0.mk hbo5; clear hw5 hk5 hbo5) | (go_at_call 83; refine (itoa_calls b _ (Laid.below HLAY.out HAW5.out.below) HPY.out.1 HPY.out.2).mono ?_; rintro e w6 ⟨rfl, hb⟩; have HAW5a := Aside0.mk (HAW5.out.later hb); have HBOa := Aside0.mk ((hb.block gb (Array.getElem?_eq_some_iff.1 HBO5.out).1).trans HBO5.out); clear hb))
     have HF : Aside0 (WrAt w w7 (X ++ opB ⟨k, a, b, cc⟩)) := ⟨by rw [show X ++ opB ⟨k, a, b, cc⟩ = X ++ opA ⟨k, a, b, cc⟩ ++ opX ⟨k, a, b, cc⟩ by simp [opB, opY, HK2.out]]; exact HAW6.out⟩
     go_roundg (l0_1.length - (i + 1))
     case measure => have := HG2.out; have := CL.out; omega
     case rel =>
      have := CL.out
      refine ⟨i + 1, ?_, ⟨by omega⟩, ⟨by omega⟩, ⟨by rw [HN.out]; exact HF.out⟩⟩
      rw [show wrap64 ((i : Int) + 1) = ((i + 1 : Nat) : Int) by have := HL3.out; unfold wrap64; omega]
  ·have clb : decide ((i : Int) < (l0_1.length : Int)) = false := decide_eq_false (by omega)
   have clb2 : decide (i < l0_1.length) = false := decide_eq_false cl
   have HFIN : Aside0 (writeB a0_0 (l0_1.take i) = writeB a0_0 l0_1) := ⟨by rw [List.take_of_length_le (by omega)]⟩
   clear cl
   go_wp2_with (go_at_call 87; refine (Tryd.Builder_String_any w.heap.size (w.heap.size + 1) _ _ HAT.out.isb HAT.out.below.size).mono ?_; rintro e w2 ⟨rfl, hb⟩; have HB2 := Aside0.mk hb; clear hb)
   go_ret
   refine ⟨by rw [← HFIN.out]; simp [results, Tryd.results51, go_sem], ?_⟩
   have h2 := HB2.out
   have h1 := HAT.out.below
   exact ⟨h2.os.trans h1.os, h2.tape.trans h1.tape, h2.output.trans h1.output, Nat.le_trans h1.size h2.size, fun k hk => (h2.block k hk).trans (h1.block k hk)⟩
end Go.Proofs.YthfhnkpipdbekaaDoor.Giv
