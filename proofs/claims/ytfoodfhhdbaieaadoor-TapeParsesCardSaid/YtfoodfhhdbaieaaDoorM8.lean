-- CUT by a program of this session: what the claim does not use is left out
import Derived.Test.YtfoodfhhdbaieaaDoorM7
import Derived.Test.YtfoodfhhdbaieaaDoorT1
import Derived.Great.Walk
namespace Go.Proofs.YtfoodfhhdbaieaaDoor.Giv
set_option maxRecDepth 100000
set_option linter.unusedVariables false
set_option linter.unusedSimpArgs false
open Go.RowKit Go.Shelf Go.Proofs.YtfoodfhhdbaieaaDoorW.PrintWords Go.Proofs.YtfoodfhhdbaieaaDoorW.PrintLast Go.Proofs.YtfoodfhhdbaieaaDoorW.PrintMore
open Go.Proofs.YtfoodfhhdbaieaaDoor.Ka (S40 k40 z40 rd_T40 at_T40 k40_open k40_mk rd_L1 at_L1 info3 info38 info40)
def itoaS (y : Int) : ByteArray := ⟨(Lib.itoa y).toArray⟩
theorem itoa_any (y : Int) (w : World) (hlay : Laid w) (h0 : -9223372036854775808 ≤ y) (h1 : y ≤ 9223372036854775807) : Calls Tryd.prog 39 #[.int .i64 y] w fun e w' => e = .returned (.string (itoaS y)) ∧ Below w.heap.size w w' := by
 refine (Tryd.strconv_Itoa y (by omega) (by omega) w hlay.pow).mono ?_
 rintro e w' ⟨rfl, k, os, rfl⟩
 refine ⟨rfl, rfl, rfl, rfl, by simp [Go.Sort.grow], fun j hj => ?_⟩
 simp [Go.Sort.grow, Array.getElem?_append_left hj]
theorem isB_below {B b : Nat} {bs : List Value} {w w' : World} (h : Lib.IsBuilder 76 5 B b bs w) (hb : Below w.heap.size w w') : Lib.IsBuilder 76 5 B b bs w' := by
 have key : ∀ p, Lib.BuilderAt 76 5 B b p bs w → Lib.BuilderAt 76 5 B b p bs w' := fun p ⟨h1, v, h2, h3, h4⟩ => ⟨h1, v, (hb.block b (Array.getElem?_eq_some_iff.1 h2).1).trans h2, by
  obtain ⟨q1, q2 | ⟨g, cap, cur, e, hg, hh, q3, q4, q5, q6⟩⟩ := h3
  ·exact ⟨q1, .inl q2⟩
  ·exact ⟨q1, .inr ⟨g, cap, cur, e, hg, (hb.block g (Array.getElem?_eq_some_iff.1 hh).1).trans hh, q3, q4, q5, q6⟩⟩, h4⟩
 exact h.elim (fun h => .inl (key _ h)) (fun h => .inr (key _ h))
theorem box_at (w : World) (o : Obj) : (w.alloc o).heap[w.heap.size]? = some o := by
 unfold World.alloc; exact Array.getElem?_push_size
theorem isB_new (w : World) (o : Obj) : Lib.IsBuilder 76 5 w.heap.size (w.heap.size + 1) [] ((w.alloc o).alloc (.cells #[.pointer none, .slice none 0 0] 76)) := by
 refine .inl ⟨Nat.le_succ _, .slice none 0 0, ?_, ⟨rfl, .inl ⟨rfl, rfl⟩⟩, by simp [Value.ownBlock]⟩
 have := box_at (w.alloc o) (.cells #[.pointer none, .slice none 0 0] 76)
 rw [show (w.alloc o).heap.size = w.heap.size + 1 by simp] at this
 exact this
structure WrAt (w wr : World) (l : List UInt8) : Prop where
 isb : Lib.IsBuilder 76 5 w.heap.size (w.heap.size + 1) (Lib.byteCells l) wr
 below : Below w.heap.size w wr
theorem WrAt.later {w wr W : World} {l : List UInt8} (h : WrAt w wr l) (hb : Below wr.heap.size wr W) : WrAt w W l := ⟨isB_below h.isb hb, below_step h.below hb⟩
theorem WrAt.write {w wr : World} {l : List UInt8} (h : WrAt w wr l) (s : ByteArray) (hl : l.length + s.size ≤ 140737488355328) :
  Calls Tryd.prog 38 #[.pointer (some ⟨w.heap.size + 1, 0, none⟩), .string s] wr fun e w' => e = .returned (.tuple #[.int .i64 s.size, .nilIface]) ∧ WrAt w w' (l ++ s.data.toList) ∧ Keep5 (w.heap.size + 1) wr w' := by
 refine (writeString_calls w.heap.size (w.heap.size + 1) (Lib.byteCells l) s wr h.isb (by rw [Lib.byteCells_length]; exact hl) h.below.size).mono ?_
 rintro e w' ⟨rfl, h1, h2, h3⟩
 refine ⟨rfl, ⟨?_, ?_⟩, h3⟩
 ·have e : Lib.byteCells (l ++ s.data.toList) = Lib.byteCells l ++ Lib.strCells s := by simp [Lib.byteCells, Lib.strCells]
  rw [e]; exact h1
 ·exact ⟨h2.os.trans h.below.os, h2.tape.trans h.below.tape, h2.output.trans h.below.output, Nat.le_trans h.below.size h2.size, fun k hk => (h2.block k hk).trans (h.below.block k hk)⟩
theorem WrAt.byte {w wr : World} {l : List UInt8} (h : WrAt w wr l) (c : UInt8) (hl : l.length + 1 ≤ 140737488355328) :
  Calls Tryd.prog 37 #[.pointer (some ⟨w.heap.size + 1, 0, none⟩), .int .u8 c.toNat] wr fun e w' => e = .returned .nilIface ∧ WrAt w w' (l ++ [c]) ∧ Keep5 (w.heap.size + 1) wr w' := by
 refine (writeByte_calls w.heap.size (w.heap.size + 1) (Lib.byteCells l) c.toNat wr h.isb (by rw [Lib.byteCells_length]; exact hl) h.below.size).mono ?_
 rintro e w' ⟨rfl, h1, h2, h3⟩
 refine ⟨rfl, ⟨?_, ?_⟩, h3⟩
 ·have e : Lib.byteCells (l ++ [c]) = Lib.byteCells l ++ [.int .u8 c.toNat] := by simp [Lib.byteCells]
  rw [e]; exact h1
 ·exact ⟨h2.os.trans h.below.os, h2.tape.trans h.below.tape, h2.output.trans h.below.output, Nat.le_trans h.below.size h2.size, fun k hk => (h2.block k hk).trans (h.below.block k hk)⟩
theorem size_list (s : ByteArray) : s.size = s.data.toList.length := by rw [Array.length_toList]; rfl
theorem size_toArray (l : List UInt8) : (⟨l.toArray⟩ : ByteArray).size = l.length := by simp [ByteArray.size]
def numB (i : Nat) (y : Int) : List UInt8 := (if i = 0 then [] else [32]) ++ Lib.itoa y
def numsB (l : List Int) : List UInt8 := (l.mapIdx fun i y => numB i y).flatten
theorem numsB_next {l : List Int} {i : Nat} (h : i < l.length) : numsB (l.take (i + 1)) = numsB (l.take i) ++ numB i l[i] := by
 unfold numsB
 rw [List.take_succ_eq_append_getElem h, List.mapIdx_append, List.flatten_append]
 simp [Nat.min_eq_left (Nat.le_of_lt h)]
def RowAt (W : World) (g : Nat) (l : List Int) : Prop := ∃ cs fr, W.heap[g]? = some (.cells cs 3 fr) ∧ ∀ j (h : j < l.length), cs[j]? = some (.int .i64 l[j])
theorem RowAt.keep {W W' : World} {g b : Nat} {l : List Int} (h : RowAt W g l) (hk : Keep5 b W W') (hg : g ≠ b) : RowAt W' g l := by
 obtain ⟨cs, fr, h1, h2⟩ := h
 exact ⟨cs, fr, hk g cs 3 fr hg h1 (by decide), h2⟩
theorem RowAt.cell {W : World} {g : Nat} {l : List Int} (h : RowAt W g l) {j : Nat} (hj : j < l.length) : W.cell? ⟨g, j, none⟩ = some (.int .i64 l[j]) := by
 obtain ⟨cs, fr, h1, h2⟩ := h
 rw [Lib.cell_of_heap h1]; exact h2 j hj
theorem RowAt.lt {W : World} {g : Nat} {l : List Int} (h : RowAt W g l) : g < W.heap.size := by
 obtain ⟨cs, fr, h1, h2⟩ := h
 exact (Array.getElem?_eq_some_iff.1 h1).1
theorem RowAt.below {W W' : World} {g : Nat} {l : List Int} (h : RowAt W g l) (hb : Below W.heap.size W W') : RowAt W' g l := by
 obtain ⟨cs, fr, h1, h2⟩ := h
 exact ⟨cs, fr, (hb.block g (Array.getElem?_eq_some_iff.1 h1).1).trans h1, h2⟩
def numLen (l : List Int) : Prop := ∀ y ∈ l, -1 ≤ y ∧ y < 10000
theorem nDig_small {u : Nat} (h : u < 10000) : Lib.nDigits u ≤ 4 := by
 by_cases h1 : u < 10
 ·rw [Lib.nDigits_small h1]; omega
 ·rw [Lib.nDigits_big h1]
  by_cases h2 : u / 10 < 10
  ·rw [Lib.nDigits_small h2]; omega
  ·rw [Lib.nDigits_big h2]
   by_cases h3 : u / 10 / 10 < 10
   ·rw [Lib.nDigits_small h3]; omega
   ·rw [Lib.nDigits_big h3, Lib.nDigits_small (by omega)]; decide
theorem itoa_nn {y : Int} (h : 0 ≤ y) : Lib.itoa y = Lib.decDigits y.toNat := by unfold Lib.itoa; rw [if_neg (by omega)]
theorem itoa_len {y : Int} (h : 0 ≤ y) (h2 : y < 10000) : (Lib.itoa y).length ≤ 4 := by
 rw [itoa_nn h, Lib.decDigits_length]; exact nDig_small (by omega)
theorem itoa_small {y : Int} (h : -1 ≤ y) (h2 : y < 10000) : (Lib.itoa y).length ≤ 4 := by
 by_cases h0 : 0 ≤ y
 ·exact itoa_len h0 h2
 ·have e : y = -1 := by omega
  subst e
  decide +kernel
theorem numsB_len : ∀ (l : List Int), numLen l → (numsB l).length ≤ 5 * l.length := by
 intro l hl
 have key : ∀ i, i ≤ l.length → (numsB (l.take i)).length ≤ 5 * i := by
  intro i
  induction i with
  | zero => intro _; simp [numsB]
  | succ i ih =>
   intro hi
   rw [numsB_next (by omega), List.length_append]
   have h1 := ih (by omega)
   have h2 := hl l[i] (List.getElem_mem _)
   have h3 := itoa_small h2.1 h2.2
   have h4 : (numB i l[i]).length ≤ 1 + (Lib.itoa l[i]).length := by
    unfold numB; rw [List.length_append]; split <;> simp
   omega
 have := key l.length (Nat.le_refl _)
 rwa [List.take_length] at this
set_option maxHeartbeats 4000000 in
theorem numbers_calls (w w1 : World) (x : List UInt8) (g c : Nat) (l : List Int) (hlay : Laid w) (hw : WrAt w w1 x) (hrow : RowAt w1 g l) (hg : g ≠ w.heap.size + 1) (hl : numLen l) (hn : l.length ≤ 100) (hx : x.length ≤ 100000000) :
  Calls Tryd.prog 36 #[.slice (some ⟨g, 0, none⟩) l.length c, .pointer (some ⟨w.heap.size + 1, 0, none⟩)] w1 fun e w' => e = .returned (.tuple #[]) ∧ WrAt w w' (x ++ numsB l) ∧ Keep5 (w.heap.size + 1) w1 w' := by
 have HLAY := Aside0.mk hlay
 have HW := Aside0.mk hw
 have HR := Aside0.mk hrow
 have HG := Aside0.mk hg
 have HL := Aside0.mk hl
 have HN := Aside0.mk hn
 have HX : Aside0 (∀ i, (x ++ numsB (l.take i)).length ≤ 100001000) := ⟨fun i => by
  have h1 := numsB_len (l.take i) (fun y hy => hl y (List.mem_of_mem_take hy))
  have h2 := List.length_take_le' i l
  rw [List.length_append]; omega⟩
 clear hlay hw hrow hg hl hn hx
 go_enter Tryd.func36, Tryd.ntmps36
 go_wp2
 go_loopg [7] l.length (fun gg s7 W => ∃ i : Nat, s7 = .int .i64 (i : Int) ∧ Aside0 (i ≤ l.length) ∧ Aside0 (l.length - i = gg) ∧ Aside0 (WrAt w W (x ++ numsB (l.take i)) ∧ Keep5 (w.heap.size + 1) w1 W))
 case atStart => exact ⟨0, rfl, ⟨by omega⟩, ⟨by omega⟩, ⟨by simpa [numsB] using HW.out, Keep5.refl _ _⟩⟩
 case round =>
  obtain ⟨i, rfl, HI, HG2, HAT⟩ := hrel
  by_cases cl : i < l.length
  ·have clb : decide ((i : Int) < (l.length : Int)) = true := decide_eq_true (by omega)
   have p1 : (0 ≤ (i : Int)) = True := eq_true (by omega)
   have q1 : ((i : Int) < (l.length : Int)) = True := eq_true (by omega)
   have b1 : (0 : Int) ≤ (i : Int) := by omega
   have b2 : (i : Int) ≤ 100 := by have := HN.out; omega
   have HR1 : Aside0 (RowAt wr g l) := ⟨HR.out.keep HAT.out.2 HG.out⟩
   have hc : wr.cell? ⟨g, i, none⟩ = some (.int .i64 l[i]) := HR1.out.cell cl
   have HN1 := Aside0.mk (numsB_next cl)
   have hy := HL.out l[i] (List.getElem_mem cl)
   obtain ⟨y, ey⟩ : ∃ y, y = l[i] := ⟨_, rfl⟩
   rw [← ey] at hc HN1 hy
   clear ey
   have HY := Aside0.mk hy
   clear hy
   obtain ⟨X, hX⟩ : ∃ X, X = x ++ numsB (l.take i) := ⟨_, rfl⟩
   have HXL : Aside0 (X.length ≤ 100001000) := ⟨by rw [hX]; exact HX.out i⟩
   have HXN : Aside0 (x ++ numsB (l.take (i + 1)) = X ++ numB i y) := ⟨by rw [HN1.out, hX, List.append_assoc]⟩
   rw [← hX] at HAT
   clear hX HN1
   by_cases c0 : i = 0
   ·subst c0
    go_wp2_with (first
     | (go_at_call 39; refine (itoa_any y _ (HLAY.out.below HAT.out.1.below) (by have := HY.out; omega) (by have := HY.out; omega)).mono ?_; rintro e w2 ⟨rfl, hb⟩; have HB2 := Aside0.mk hb; clear hb)
     | (go_at_call 38; refine (WrAt.write (HAT.out.1.later HB2.out) (itoaS y) (by rw [itoaS, size_toArray]; have := HXL.out; have := itoa_small HY.out.1 HY.out.2; omega)).mono ?_; rintro e w3 ⟨rfl, hw3, hk3⟩; have HW3 := Aside0.mk hw3; have HK3 := Aside0.mk hk3; clear hw3 hk3))
    go_roundg (l.length - (0 + 1))
    case measure => have := HG2.out; omega
    case rel =>
     refine ⟨0 + 1, by simp, ⟨by omega⟩, ⟨by omega⟩, ⟨?_, ?_⟩⟩
     ·rw [HXN.out]
      simpa [numB, itoaS] using HW3.out
     ·exact HAT.out.2.trans ((Keep5.of_below HB2.out).trans HK3.out)
   ·have c0b : decide ((0 : Int) < (i : Int)) = true := decide_eq_true (by omega)
    have C0 := Aside0.mk c0
    clear c0
    go_wp2_with (first
     | (go_at_call 37; refine (WrAt.byte HAT.out.1 32 (by have := HXL.out; omega)).mono ?_; rintro e w2 ⟨rfl, hw2, hk2⟩; have HW2 := Aside0.mk hw2; have HK2 := Aside0.mk hk2; clear hw2 hk2)
     | (go_at_call 39; first | (exfalso; have h0 := C0.out; omega) | (refine (itoa_any y _ (HLAY.out.below HW2.out.below) (by have := HY.out; omega) (by have := HY.out; omega)).mono ?_; rintro e w3 ⟨rfl, hb⟩; have HB3 := Aside0.mk hb; clear hb))
     | (go_at_call 38; refine (WrAt.write (HW2.out.later HB3.out) (itoaS y) (by rw [itoaS, size_toArray, List.length_append]; have := HXL.out; have := itoa_small HY.out.1 HY.out.2; simp; omega)).mono ?_; rintro e w4 ⟨rfl, hw4, hk4⟩; have HW4 := Aside0.mk hw4; have HK4 := Aside0.mk hk4; clear hw4 hk4))
    go_roundg (l.length - (i + 1))
    case measure => have := HG2.out; omega
    case rel =>
     refine ⟨i + 1, by simp, ⟨by omega⟩, ⟨by omega⟩, ⟨?_, ?_⟩⟩
     ·rw [HXN.out]
      have := HW4.out
      simpa [numB, itoaS, C0.out] using this
     ·exact HAT.out.2.trans (HK2.out.trans ((Keep5.of_below HB3.out).trans HK4.out))
  ·have clb : decide ((i : Int) < (l.length : Int)) = false := decide_eq_false (by omega)
   have e : i = l.length := by have := HI.out; omega
   subst e
   go_wp2
   refine Go.Great.bodyPost_end0 rfl rfl ?_
   refine ⟨rfl, ?_, HAT.out.2⟩
   simpa using HAT.out.1
end Go.Proofs.YtfoodfhhdbaieaaDoor.Giv
