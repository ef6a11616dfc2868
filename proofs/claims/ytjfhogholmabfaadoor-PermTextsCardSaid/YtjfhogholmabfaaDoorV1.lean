-- CUT by a program of this session: what the claim does not use is left out
import Derived.Test.YtjfhogholmabfaaDoorProg
import Derived.Below
import Derived.WalkKit
import Derived.Outline
import Derived.Deep.LoopGhost
import Derived.Deep.QuietTactic
import Derived.BigQuiet
import Derived.RowKit3
import Derived.RowKit
import Derived.Test.YtjfhogholmabfaaDoorWAll
import Derived.Test.YtjfhogholmabfaaDoorTh
namespace Go.Proofs.YtjfhogholmabfaaDoor.Giv
open Go.RowKit Go.Proofs.YtjfhogholmabfaaDoorW.PrintWords Go.Proofs.YtjfhogholmabfaaDoorW.PrintLast Go.Proofs.YtjfhogholmabfaaDoorW.PrintMore

def Good (l : List Int) (i : Int) : Prop := i ≤ l.length ∧ (∀ x ∈ l.take i.toNat, 0 ≤ x ∧ x < (l.length : Int)) ∧ (l.take i.toNat).Nodup
theorem good_zero (l : List Int) : Good l 0 := by simp [Good]
def Marks (w : World) (B : Nat) (p : List Int) : Prop := ∀ j : Nat, j < 7 → w.cell? ⟨B, j, none⟩ = some (.int .i8 (if (j : Int) ∈ p then 1 else 0)) ∧ w.frozen? ⟨B, j, none⟩ = false
theorem marks_zero (w : World) (l : List Int) : Marks (w.alloc (Obj.cells #[Value.int IntKind.i8 0, Value.int IntKind.i8 0, Value.int IntKind.i8 0, Value.int IntKind.i8 0, Value.int IntKind.i8 0, Value.int IntKind.i8 0, Value.int IntKind.i8 0] 61)) w.heap.size (l.take (0 : Int).toNat) := by
  intro j hj
  have : j = 0 ∨ j = 1 ∨ j = 2 ∨ j = 3 ∨ j = 4 ∨ j = 5 ∨ j = 6 := by omega
  rcases this with rfl | rfl | rfl | rfl | rfl | rfl | rfl <;> (simp only [Int.toNat_zero, List.take_zero, List.not_mem_nil, if_false]; constructor <;> (go_simp; try rfl))
theorem not_valid_of {l : List Int} {i : Nat} {x : Int} (h : l[i]? = some x) (hx : x < 0 ∨ (l.length : Int) ≤ x) : validB l = false := by
  refine decide_eq_false fun hv => ?_
  have := hv.2.2.1 x (List.mem_of_getElem? h)
  omega
theorem not_valid_dup {l : List Int} {i : Nat} {x : Int} (h : l[i]? = some x) (hx : x ∈ l.take i) : validB l = false := by
  refine decide_eq_false fun hv => ?_
  obtain ⟨j, hj⟩ := List.getElem?_of_mem hx
  have hlt : j < i := by
    rcases Nat.lt_or_ge j i with h1 | h1
    · exact h1
    · rw [List.getElem?_take_eq_none h1] at hj; simp at hj
  rw [List.getElem?_take_of_lt hlt] at hj
  have hi : i < l.length := (List.getElem?_eq_some_iff.1 h).1
  have := List.pairwise_iff_getElem.1 hv.2.2.2 j i (by omega) hi hlt
  rw [List.getElem?_eq_getElem (by omega)] at hj h
  exact this (by rw [Option.some.inj hj, Option.some.inj h])
theorem good_step {l : List Int} {i x : Int} (hi : 0 ≤ i) (hg : Good l i) (hx : l[i.toNat]? = some x) (h0 : 0 ≤ x) (h1 : x < l.length) (hn : x ∉ l.take i.toNat) : Good l (i + 1) := by
  obtain ⟨a, b, c⟩ := hg
  have hlt := (List.getElem?_eq_some_iff.1 hx).1
  have e : l.take (i + 1).toNat = l.take i.toNat ++ [x] := by
    rw [show (i + 1).toNat = i.toNat + 1 by omega, List.take_add_one, hx]; rfl
  refine ⟨by omega, ?_, ?_⟩
  · rw [e]; intro y hy
    rcases List.mem_append.1 hy with h | h
    · exact b y h
    · rw [List.mem_singleton.1 h]; exact ⟨h0, h1⟩
  · rw [e]; exact List.nodup_append.2 ⟨c, by simp, by intro y hy z hz; rw [List.mem_singleton.1 hz]; rintro rfl; exact hn hy⟩
theorem valid_of {l : List Int} {i : Int} (h1 : 1 ≤ l.length) (h7 : l.length ≤ 7) (hg : Good l i) (hi : ¬ i < (l.length : Int)) : validB l = true := by
  obtain ⟨a, b, c⟩ := hg
  have : l.take i.toNat = l := List.take_of_length_le (by omega)
  rw [this] at b c
  exact decide_eq_true ⟨h1, h7, b, c⟩
theorem marks_step {w : World} {B : Nat} {l : List Int} {i x : Int} (hi : 0 ≤ i) (hx : l[i.toNat]? = some x) (p : (0 ≤ x) = True) (q : (x < 7) = True) (h : Marks w B (l.take i.toNat)) : Marks (w.setCell ⟨B, x.toNat, none⟩ (.int .i8 1)) B (l.take (i + 1).toNat) := by
  have p := of_eq_true p
  have q := of_eq_true q
  have e : l.take (i + 1).toNat = l.take i.toNat ++ [x] := by
    rw [show (i + 1).toNat = i.toNat + 1 by omega, List.take_add_one, hx]; rfl
  intro j hj
  rw [e]
  obtain ⟨h1, h2⟩ := h j hj
  obtain ⟨g1, g2⟩ := h x.toNat (by omega)
  constructor
  · by_cases c : j = x.toNat
    · subst c
      rw [if_pos (by simp; omega)]
      exact World.cell?_setCell_same _ _ _ g1
    · have : ((j : Int) ∈ l.take i.toNat ++ [x]) = ((j : Int) ∈ l.take i.toNat) := by
        rw [eq_iff_iff, List.mem_append, List.mem_singleton]
        exact ⟨fun h => h.elim id (fun h => by omega), .inl⟩
      simp only [this]
      rw [← h1]
      exact World.cell?_setCell_other _ _ _ _ (by intro h; injection h with _ h _; omega)
  · rw [World.frozen?_setCell]; exact h2
set_option maxHeartbeats 1000000 in
set_option maxRecDepth 100000 in
theorem valid_walk (A0 : Option Addr) (c0 : Nat) (l0 : List Int) (r : Bool) (w : World) (hr0 : Kd.C (Kd.int .i64) w A0 l0.length l0) (hc0 : l0.length ≤ c0) (h1 : Aside0 (1 ≤ l0.length)) (h7 : Aside0 (l0.length ≤ 7)) (HR : Aside0 (validB l0 = r)) :
    Calls Tryd.prog 21 #[.slice A0 l0.length c0] w fun e w' => e = .returned (.bool r) ∧ Below w.heap.size w w' := by
  have HR0 := Aside0.mk hr0
  have HC0 := Aside0.mk hc0
  clear hr0 hc0
  have t1 : decide ((l0.length : Int) < 1) = false := decide_eq_false (by have := h1.out; omega)
  have t2 : decide ((7 : Int) < (l0.length : Int)) = false := decide_eq_false (by have := h7.out; omega)
  have hr : ∀ {b : Bool}, validB l0 = b → r = b := fun h => HR.out.symm.trans h
  have HRR := Aside0.mk @hr
  clear hr
  go_enter Tryd.func21, Tryd.ntmps21
  go_wp2
  go_loopg [16] l0.length (fun kq v16 w' => ∃ (i : Int), v16 = .int .i64 i ∧ Aside0 (0 ≤ i) ∧ Aside0 ((l0.length : Int) - i = kq) ∧ Aside0 (Good l0 i) ∧ Aside0 (Marks w' w.heap.size (l0.take i.toNat)) ∧ Aside0 (Below w.heap.size w w'))
  case atStart => exact ⟨0, rfl, ⟨by omega⟩, ⟨by omega⟩, ⟨good_zero _⟩, ⟨marks_zero _ _⟩, ⟨(Below.refl _ _).alloc (Nat.le_refl _) _⟩⟩
  case round =>
    obtain ⟨i, rfl, HI, HM, HG, HK, HB⟩ := hrel
    have hi := HI.out
    have hr := @HRR.out
    have hm := HM.out
    by_cases c1 : i < (l0.length : Int)
    · have c1b : decide (i < (l0.length : Int)) = true := decide_eq_true c1
      obtain ⟨ad, e101, hx⟩ := Kd.at_int (Kd.C_below HR0.out HB.out) i hi c1
      cases e101
      have p1 := eq_true hi
      have q1 := eq_true c1
      clear hi c1 hm
      have HX : Aside0 (l0[i.toNat]? = some (rd l0 i)) := ⟨by
        have := HI.out; simp only [rd, List.getD_eq_getElem?_getD]
        rw [List.getElem?_eq_getElem (by have := of_eq_true q1; omega)]; rfl⟩
      by_cases c2 : rd l0 i < 0
      · have c2b : decide (rd l0 i < 0) = true := decide_eq_true c2
        have hF := hr (not_valid_of HX.out (by omega))
        subst hF
        clear hr
        clear c2
        go_wp2
        go_ret
        exact ⟨rfl, HB.out⟩
      · have c2b : decide (rd l0 i < 0) = false := decide_eq_false c2
        by_cases c3 : (l0.length : Int) ≤ rd l0 i
        · have c3b : decide ((l0.length : Int) ≤ rd l0 i) = true := decide_eq_true c3
          have hF := hr (not_valid_of HX.out (by omega))
          subst hF
          clear hr
          clear c3 c2
          go_wp2
          go_ret
          exact ⟨rfl, HB.out⟩
        · have c3b : decide ((l0.length : Int) ≤ rd l0 i) = false := decide_eq_false c3
          have HX0 : Aside0 (0 ≤ rd l0 i ∧ rd l0 i < l0.length) := ⟨by omega⟩
          have p2 : (0 ≤ rd l0 i) = True := eq_true (by omega)
          have q2 : (rd l0 i < 7) = True := eq_true (by have := h7.out; omega)
          obtain ⟨hx2, hz2⟩ := HK.out (rd l0 i).toNat (by have := h7.out; omega)
          rw [show (((rd l0 i).toNat : Nat) : Int) = rd l0 i by omega] at hx2
          clear c3 c2
          by_cases c4 : rd l0 i ∈ l0.take i.toNat
          · rw [if_pos c4] at hx2
            have hF := hr (not_valid_dup HX.out c4)
            subst hF
            clear hr
            clear c4
            go_wp2
            go_ret
            exact ⟨rfl, HB.out⟩
          · rw [if_neg c4] at hx2
            have HN := Aside0.mk c4
            clear c4 hr
            obtain ⟨k1, rfl⟩ : ∃ k1, gk = k1 + 1 := ⟨gk - 1, by have := HM.out; have := of_eq_true q1; omega⟩
            go_wp2
            go_roundg k1
            case measure => omega
            case rel =>
              have hi := HI.out
              have hq := of_eq_true q1
              refine ⟨i + 1, ?_, ⟨by omega⟩, ⟨by have := HM.out; omega⟩, ⟨good_step HI.out HG.out HX.out HX0.out.1 HX0.out.2 HN.out⟩, ⟨?_⟩, ⟨?_⟩⟩
              · rw [show wrap64 (i + 1) = i + 1 by have := h7.out; unfold wrap64; omega]
              · exact marks_step HI.out HX.out p2 q2 HK.out
              · exact HB.out.setCell (Nat.le_refl _) _
    · have c1b : decide (i < (l0.length : Int)) = false := decide_eq_false c1
      have hF := hr (valid_of h1.out h7.out HG.out (by omega))
      subst hF
      clear hr
      clear hi c1 hm
      go_wp2
      go_ret
      exact ⟨rfl, HB.out⟩

def perm_Valid.f (l0 : List Int) : Option Bool := some (validB l0)
set_option maxHeartbeats 1000000 in
theorem perm_Valid.calls (A0 : Option Addr) (c0 : Nat) (l0 : List Int) (r : Bool) (w : World) (hr0 : Kd.C (Kd.int .i64) w A0 l0.length l0) (hc0 : l0.length ≤ c0) (h : perm_Valid.f l0 = some r) :
    Calls Tryd.prog 21 #[.slice A0 l0.length c0] w fun e w' => e = .returned (.bool r) ∧ Below w.heap.size w w' := by
  have h := Option.some.inj h
  by_cases h1 : 1 ≤ l0.length
  · by_cases h7 : l0.length ≤ 7
    · exact valid_walk A0 c0 l0 r w hr0 hc0 ⟨h1⟩ ⟨h7⟩ ⟨h⟩
    · have hF : r = false := h.symm.trans (decide_eq_false (by omega))
      subst hF
      clear h hr0 hc0
      have t1 : decide ((l0.length : Int) < 1) = false := decide_eq_false (by omega)
      have t2 : decide ((7 : Int) < (l0.length : Int)) = true := decide_eq_true (by omega)
      clear h1 h7
      go_enter Tryd.func21, Tryd.ntmps21
      go_wp2
      go_ret
      exact ⟨rfl, Below.refl _ _⟩
  · have hF : r = false := h.symm.trans (decide_eq_false (by omega))
    subst hF
    clear h hr0 hc0
    have t1 : decide ((l0.length : Int) < 1) = true := decide_eq_true (by omega)
    clear h1
    go_enter Tryd.func21, Tryd.ntmps21
    go_wp2
    go_ret
    exact ⟨rfl, Below.refl _ _⟩
end Go.Proofs.YtjfhogholmabfaaDoor.Giv
