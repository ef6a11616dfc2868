-- CUT by a program of this session: what the claim does not use is left out
import Derived.Test.YtfoodfhhdbaieaaDoorT2

namespace Go.Proofs.YtfoodfhhdbaieaaDoor.Giv
set_option maxRecDepth 100000
set_option linter.unusedVariables false
set_option linter.unusedSimpArgs false
open Go.RowKit Go.Proofs.YtfoodfhhdbaieaaDoorW.PrintWords Go.Proofs.YtfoodfhhdbaieaaDoorW.PrintLast Go.Proofs.YtfoodfhhdbaieaaDoorW.PrintMore
open Go.Proofs.YtfoodfhhdbaieaaDoor.Ka (S40 k40 z40 rd_T40 at_T40 k40_open k40_mk rd_L1 at_L1 info3 info38 info40)

def inR (n lo hi : Int) : Bool := decide (lo ≤ n) && decide (n ≤ hi)
theorem inR_lo {n lo hi : Int} (h : n < lo) : inR n lo hi = false := by unfold inR; rw [decide_eq_false (by omega)]; rfl
theorem within_calls (n lo hi : Int) (w : World) : Calls Tryd.prog 23 #[.int .i64 n, .int .i64 lo, .int .i64 hi] w fun e w' => e = .returned (.bool (inR n lo hi)) ∧ w = w' := by
 go_enter Tryd.func23, Tryd.ntmps23
 by_cases h1 : lo ≤ n
 ·by_cases h2 : n ≤ hi
  ·go_wp2
   go_ret
   exact ⟨by simp [inR, h1, h2], rfl⟩
  ·go_wp2
   go_ret
   exact ⟨by simp [inR, h1, h2], rfl⟩
 ·go_wp2
  go_ret
  exact ⟨by rw [inR_lo h1]; rfl, rfl⟩
theorem inR_bd {n lo hi : Int} (h : inR n lo hi = true) : lo ≤ n ∧ n ≤ hi := by
 unfold inR at h; simp at h; exact h
theorem within_same (n lo hi : Int) (w : World) : Calls Tryd.prog 23 #[.int .i64 n, .int .i64 lo, .int .i64 hi] w fun e w' => e = .returned (.bool (inR n lo hi)) ∧ w' = w := (within_calls n lo hi w).mono fun _ _ h => ⟨h.1, h.2.symm⟩
theorem headB_bd {a0 a1 a2 : Int} (h : (inR a0 3 64 && inR a1 2 8 && inR a2 1 3) = true) : (3 ≤ a0 ∧ a0 ≤ 64) ∧ (2 ≤ a1 ∧ a1 ≤ 8) ∧ (1 ≤ a2 ∧ a2 ≤ 3) := by
 simp only [Bool.and_eq_true] at h
 exact ⟨inR_bd h.1.1, inR_bd h.1.2, inR_bd h.2⟩
def headB (a0 a1 a2 : Int) : Bool := inR a0 3 64 && inR a1 2 8 && inR a2 1 3
def cellB (a1 : Int) (r : S40) (i : Nat) : Bool := inR (rd r.f1 i) 0 (a1 - 1) && inR (rd r.f3 i) 0 (a1 - 1) && inR (rd r.f4 i) (-1) 1
def ruleB (a0 a1 a2 : Int) (r : S40) : Bool := inR r.f0 0 (a0 - 1) && !(r.f0 == 1) && !(r.f0 == 2) && inR r.f2 0 (a0 - 1) && ((r.f1.length : Int) == a2) && ((r.f3.length : Int) == a2) && ((r.f4.length : Int) == a2) && (List.range a2.toNat).all (cellB a1 r)
def rulesB (a0 a1 a2 : Int) : List (List Int) → List S40 → Bool
 | _, [] => true
 | seen, r :: rs => ruleB a0 a1 a2 r && !(seen.contains (keyL r.f0 r.f1)) && rulesB a0 a1 a2 (seen ++ [keyL r.f0 r.f1]) rs
def validM (a0 a1 a2 : Int) (l : List S40) : Bool := headB a0 a1 a2 && rulesB a0 a1 a2 [] l

theorem valid_head (a0 a1 a2 : Int) (A : Option Addr) (c : Nat) (l : List S40) (w : World) (H : headB a0 a1 a2 = false) :
  Calls Tryd.prog 10 #[.agg #[.int .i64 a0, .int .i64 a1, .int .i64 a2, .slice A l.length c]] w fun e w' => e = .returned (.bool false) ∧ Below w.heap.size w w' := by
 cases c1 : inR a0 3 64 with
 | false =>
  clear H
  go_enter Tryd.func10, Tryd.ntmps10
  go_wp2_with (go_at_call 23; refine (within_calls _ _ _ _).mono ?_; rintro e w' ⟨rfl, rfl⟩)
  go_ret
  exact ⟨rfl, (Below.refl _ _).alloc (Nat.le_refl _) _⟩
 | true =>
  cases c2 : inR a1 2 8 with
  | false =>
   clear H
   go_enter Tryd.func10, Tryd.ntmps10
   go_wp2_with (go_at_call 23; refine (within_calls _ _ _ _).mono ?_; rintro e w' ⟨rfl, rfl⟩)
   go_ret
   exact ⟨rfl, (Below.refl _ _).alloc (Nat.le_refl _) _⟩
  | true =>
   have c3 : inR a2 1 3 = false := by simpa [headB, c1, c2] using H
   clear H
   go_enter Tryd.func10, Tryd.ntmps10
   go_wp2_with (go_at_call 23; refine (within_calls _ _ _ _).mono ?_; rintro e w' ⟨rfl, rfl⟩)
   go_ret
   exact ⟨rfl, (Below.refl _ _).alloc (Nat.le_refl _) _⟩

def seenL (rs : List S40) : List (Value × Value) := rs.map fun r => (keyV r.f0 r.f1, .bool true)
def keysL (rs : List S40) : List (List Int) := rs.map fun r => keyL r.f0 r.f1
theorem ruleB_false {a0 a1 a2 : Int} {r : S40} (h : ((inR r.f0 0 (a0 - 1) && !(r.f0 == 1) && !(r.f0 == 2) && inR r.f2 0 (a0 - 1) && ((r.f1.length : Int) == a2) && ((r.f3.length : Int) == a2) && ((r.f4.length : Int) == a2)) = false)) : ruleB a0 a1 a2 r = false := by
 unfold ruleB; rw [h]; rfl
theorem rulesB_stop {a0 a1 a2 : Int} {seen : List (List Int)} {l : List S40} {k : Nat} {b : Bool} (h : rulesB a0 a1 a2 seen (l.drop k) = b) (hk : k < l.length) (hr : ruleB a0 a1 a2 (rd_T40 l k) = false) : b = false := by
 rw [List.drop_eq_getElem_cons hk] at h
 have e : l[k] = rd_T40 l k := by simp [rd_T40, hk]
 rw [e] at h
 simp only [rulesB, hr, Bool.false_and] at h
 exact h.symm
theorem six {p : Prop} {c1 c2 c3 c4 c5 c6 c7 : Bool} (h : (c1 && !c2 && !c3 && c4 && c5 && c6 && c7) = false) (k1 : c1 = false → p) (k2 : c1 = true → c2 = true → p) (k3 : c1 = true → c2 = false → c3 = true → p) (k4 : c1 = true → c2 = false → c3 = false → c4 = false → p)
  (k5 : c1 = true → c2 = false → c3 = false → c4 = true → c5 = false → p) (k6 : c1 = true → c2 = false → c3 = false → c4 = true → c5 = true → c6 = false → p) (k7 : c1 = true → c2 = false → c3 = false → c4 = true → c5 = true → c6 = true → c7 = false → p) : p := by
 cases c1 <;> cases c2 <;> cases c3 <;> cases c4 <;> cases c5 <;> cases c6 <;> cases c7 <;> simp_all
theorem cellB_false {a1 j : Int} {r : S40} (hj : 0 ≤ j) (h : (inR (rd r.f1 j) 0 (a1 - 1) && inR (rd r.f3 j) 0 (a1 - 1) && inR (rd r.f4 j) (-1) 1) = false) : cellB a1 r j.toNat = false := by
 unfold cellB; rw [show ((j.toNat : Nat) : Int) = j by omega]; exact h
theorem cellB_next {a1 j : Int} {r : S40} (hj : 0 ≤ j) (h : (inR (rd r.f1 j) 0 (a1 - 1) && inR (rd r.f3 j) 0 (a1 - 1) && inR (rd r.f4 j) (-1) 1) = true) (hA : ∀ n : Nat, (n : Int) < j → cellB a1 r n = true) : ∀ n : Nat, (n : Int) < j + 1 → cellB a1 r n = true := by
 intro n hn
 by_cases e : (n : Int) = j
 ·unfold cellB; rw [e]; exact h
 ·exact hA n (by omega)
theorem ruleB_true {a0 a1 a2 : Int} {r : S40} (h : ((inR r.f0 0 (a0 - 1) && !(r.f0 == 1) && !(r.f0 == 2) && inR r.f2 0 (a0 - 1) && ((r.f1.length : Int) == a2) && ((r.f3.length : Int) == a2) && ((r.f4.length : Int) == a2)) = true)) (hA : ∀ n : Nat, (n : Int) < a2 → cellB a1 r n = true) : ruleB a0 a1 a2 r = true := by
 unfold ruleB
 rw [h, Bool.true_and, List.all_eq_true]
 intro n hn
 exact hA n (by simp at hn; omega)
theorem rd_bd {l : List Int} {a2 lo hi : Int} (hl : (l.length : Int) = a2) (h0 : lo ≤ 0) (h1 : 0 ≤ hi) (hA : ∀ n : Nat, (n : Int) < a2 → lo ≤ rd l n ∧ rd l n ≤ hi) (j : Nat) : lo ≤ rd l j ∧ rd l j ≤ hi := by
 by_cases e : (j : Int) < a2
 ·exact hA j e
 ·have : rd l j = 0 := by unfold rd; rw [List.getD_eq_getElem?_getD, List.getElem?_eq_none (by simp; omega)]; rfl
  omega
theorem cellB_bd {a1 : Int} {r : S40} {n : Nat} (h : cellB a1 r n = true) : (0 ≤ rd r.f1 n ∧ rd r.f1 n ≤ a1 - 1) ∧ (0 ≤ rd r.f3 n ∧ rd r.f3 n ≤ a1 - 1) ∧ (-1 ≤ rd r.f4 n ∧ rd r.f4 n ≤ 1) := by
 unfold cellB at h
 simp only [Bool.and_eq_true] at h
 exact ⟨inR_bd h.1.1, inR_bd h.1.2, inR_bd h.2⟩
theorem small_key {a1 a2 s : Int} {r : S40} (h1 : a1 ≤ 8) (hs : 0 ≤ s ∧ s ≤ 64) (h2 : 2 ≤ a1) (hl : (r.f1.length : Int) = a2) (hA : ∀ n : Nat, (n : Int) < a2 → cellB a1 r n = true) : Small (keyL s r.f1) := by
 have hb := rd_bd (l := r.f1) (lo := 0) (hi := a1 - 1) hl (by omega) (by omega) (fun n hn => (cellB_bd (hA n hn)).1)
 intro x hx
 simp only [keyL, List.mem_cons, List.not_mem_nil, or_false] at hx
 rcases hx with rfl | rfl | rfl | rfl
 ·omega
 ·have := hb 0; simp at this; omega
 ·have := hb 1; simp at this; omega
 ·have := hb 2; simp at this; omega
theorem look_seen {w : World} {b : Nat} {rs : List S40} {s : Int} {l : List Int} (h : MapAt w b (seenL rs)) (hK : AreKeys (seenL rs)) (hs : Small (keyL s l)) :
  (Instr.lookup 55 (.map (some b)) (keyV s l) false).run Tryd.prog w = .ok (.bool ((keysL rs).contains (keyL s l))) w := by
 obtain ⟨kl, hkl⟩ := keyOf_key hs
 rcases run_look Tryd.underlying55 (Tryd.zeroValue4 w) h hK hkl false with ⟨h1, h2⟩ | ⟨v, h1, h2⟩
 ·rw [show (keysL rs).contains (keyL s l) = false from ?_]
  ·exact h2
  ·rw [Bool.eq_false_iff]
   intro hc
   rw [List.contains_iff_mem] at hc
   obtain ⟨r, hr, he⟩ := List.mem_map.1 hc
   exact h1 (keyV r.f0 r.f1, .bool true) (List.mem_map.2 ⟨r, hr, rfl⟩) (keyV_of he)
 ·obtain ⟨r, hr, he⟩ := List.mem_map.1 h1
  injection he with he1 he2
  subst he2
  rw [show (keysL rs).contains (keyL s l) = true from ?_]
  ·exact h2
  ·rw [List.contains_iff_mem]
   exact List.mem_map.2 ⟨r, hr, keyV_inj he1⟩
theorem store_seen {w : World} {b : Nat} {rs : List S40} {r : S40} (h : MapAt w b (seenL rs)) (hK : AreKeys (seenL rs)) (hs : Small (keyL r.f0 r.f1)) (hn : (keysL rs).contains (keyL r.f0 r.f1) = false) :
  ∃ w', (Instr.mapUpdate 55 (.map (some b)) (keyV r.f0 r.f1) (.bool true)).run Tryd.prog w = .ok () w' ∧ MapAt w' b (seenL (rs ++ [r])) ∧ AreKeys (seenL (rs ++ [r])) ∧ w.grownBy w' (some b) := by
 obtain ⟨kl, hkl⟩ := keyOf_key hs
 obtain ⟨w', h1, h2, h3⟩ := run_store (val := .bool true) Tryd.underlying55 h hK hkl (fun p hp he => by
  obtain ⟨q, hq, rfl⟩ := List.mem_map.1 hp
  rw [Bool.eq_false_iff] at hn
  exact hn (List.contains_iff_mem.2 (List.mem_map.2 ⟨q, hq, keyV_inj he⟩)))
 refine ⟨w', h1, by simpa [seenL] using h2, fun p hp => ?_, h3⟩
 rw [seenL, List.map_append, List.mem_append] at hp
 rcases hp with hp | hp
 ·exact hK p hp
 ·simp at hp; subst hp; exact ⟨kl, hkl⟩
theorem rulesB_seen {a0 a1 a2 : Int} {l : List S40} {k : Nat} {b : Bool} {x : S40} (h : rulesB a0 a1 a2 (keysL (l.take k)) (l.drop k) = b) (hk : k < l.length) (hx : rd_T40 l k = x) (hc : (keysL (l.take k)).contains (keyL x.f0 x.f1) = true) : b = false := by
 rw [List.drop_eq_getElem_cons hk] at h
 have e : l[k] = x := by rw [← hx]; simp [rd_T40, hk]
 rw [e] at h
 simp only [rulesB, hc, Bool.not_true, Bool.and_false, Bool.false_and] at h
 exact h.symm
theorem rulesB_next {a0 a1 a2 : Int} {l : List S40} {k : Nat} {b : Bool} {x : S40} (h : rulesB a0 a1 a2 (keysL (l.take k)) (l.drop k) = b) (hk : k < l.length) (hx : rd_T40 l k = x) (hr : ruleB a0 a1 a2 x = true) (hc : (keysL (l.take k)).contains (keyL x.f0 x.f1) = false) :
  rulesB a0 a1 a2 (keysL (l.take (k + 1))) (l.drop (k + 1)) = b := by
 rw [List.drop_eq_getElem_cons hk] at h
 have e : l[k] = x := by rw [← hx]; simp [rd_T40, hk]
 rw [e] at h
 simp only [rulesB, hc, hr, Bool.not_false, Bool.true_and] at h
 rw [← h, List.take_succ_eq_append_getElem hk, e]
 simp [keysL]
theorem take_next {l : List S40} {k : Nat} {x : S40} (hk : k < l.length) (hx : rd_T40 l k = x) : l.take (k + 1) = l.take k ++ [x] := by
 have e : l[k] = x := by rw [← hx]; simp [rd_T40, hk]
 rw [List.take_succ_eq_append_getElem hk, e]
theorem rulesB_done {a0 a1 a2 : Int} {l : List S40} {k : Nat} {b : Bool} {seen : List (List Int)} (h : rulesB a0 a1 a2 seen (l.drop k) = b) (hk : l.length ≤ k) : b = true := by
 rw [List.drop_eq_nil_of_le hk] at h
 exact h.symm
theorem seven {c1 c2 c3 c4 c5 c6 c7 : Bool} (h : (c1 && !c2 && !c3 && c4 && c5 && c6 && c7) = true) : c1 = true ∧ c2 = false ∧ c3 = false ∧ c4 = true ∧ c5 = true ∧ c6 = true ∧ c7 = true := by
 cases c1 <;> cases c2 <;> cases c3 <;> cases c4 <;> cases c5 <;> cases c6 <;> cases c7 <;> simp_all
theorem ruleB_cell {a0 a1 a2 : Int} {r : S40} {j : Nat} (hj : (j : Int) < a2) (h : cellB a1 r j = false) : ruleB a0 a1 a2 r = false := by
 unfold ruleB
 rw [Bool.and_eq_false_iff]
 right
 rw [List.all_eq_false]
 exact ⟨j, by simp; omega, by simp [h]⟩
end Go.Proofs.YtfoodfhhdbaieaaDoor.Giv
