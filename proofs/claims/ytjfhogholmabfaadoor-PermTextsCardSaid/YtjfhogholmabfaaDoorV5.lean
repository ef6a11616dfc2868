-- CUT by a program of this session: what the claim does not use is left out
import Derived.RangeFuncNested
import Derived.RangeFuncBound
import Derived.RangeFuncCalls
import Derived.RangeFuncLeaves
import Derived.OwnWalkIn
import Derived.TacticsInMore
import Derived.LoopNIn
import Derived.LoopIn
import Derived.Sort.LoopGhostIn
import Derived.Outline
import Derived.WalkSpells
import Derived.Maps.AppendAt
import Derived.Test.YtjfhogholmabfaaDoorV1
import Derived.Test.YtjfhogholmabfaaDoorPbx0
namespace Go.Proofs.YtjfhogholmabfaaDoor.Giv
set_option linter.unusedVariables false
set_option linter.unusedSimpArgs false
open Go.RowKit Go.Proofs.YtjfhogholmabfaaDoorW.PrintWords Go.Proofs.YtjfhogholmabfaaDoorW.PrintLast Go.Proofs.YtjfhogholmabfaaDoorW.PrintMore

structure Same (M : Nat) (A B : World) : Prop where
  size : A.heap.size ≤ B.heap.size
  same : ∀ k, k < A.heap.size → k ≠ M → B.heap[k]? = A.heap[k]?
  os : B.os = A.os
  tape : B.tape = A.tape
  output : B.output = A.output

theorem Same.refl (M : Nat) (A : World) : Same M A A := ⟨Nat.le_refl _, fun _ _ _ => rfl, rfl, rfl, rfl⟩
theorem Same.trans {M : Nat} {A B C : World} (h : Same M A B) (k : Same M B C) : Same M A C :=
  ⟨Nat.le_trans h.size k.size, fun i hi hm => (k.same i (Nat.lt_of_lt_of_le hi h.size) hm).trans (h.same i hi hm), k.os.trans h.os, k.tape.trans h.tape, k.output.trans h.output⟩
theorem Same.of_below {M : Nat} {A B : World} (h : Below A.heap.size A B) : Same M A B := ⟨h.size, fun k hk _ => h.block k hk, h.os, h.tape, h.output⟩
theorem Same.cell {M : Nat} {A B : World} (h : Same M A B) {q : Addr} {v : Value} (hq : A.cell? q = some v) (hm : q.block ≠ M) : B.cell? q = some v :=
  (World.cell?_of_block (h.same q.block (World.block_lt_of_cell? A q hq) hm)).trans hq
def orbL (p : List Int) : Nat → Int → List Int → List Int
  | 0, _, _ => []
  | f + 1, x, vis => if x ∈ vis then [] else x :: orbL p f (p.getD x.toNat 0) (vis ++ [x])
def cycS (p : List Int) : Nat → Nat → List Int → List (List Int)
  | 0, _, _ => []
  | d + 1, i, vis => (if 1 < (orbL p 8 i vis).length then [orbL p 8 i vis] else []) ++ cycS p d (i + 1) (vis ++ orbL p 8 i vis)
def cycL (p : List Int) : List (List Int) := cycS p p.length 0 []
theorem vis_le {vis : List Int} (hn : vis.Nodup) (hi : Into vis 7) : vis.length ≤ 7 := by
  have := nodup_len vis (idn 7) hn (fun x hx => by
    have := hi x hx
    simp only [idn, List.mem_map, List.mem_range]
    exact ⟨x.toNat, by omega, by simp; omega⟩)
  simpa [idn] using this

theorem cell_new_set (w : World) (a : Addr) (v : Value) (x : Value) (t : TypeId) : ∀ j u, [x][j]? = some u → ((w.setCell a v).alloc (.cells #[x] t)).cell? ((⟨w.heap.size, 0, none⟩ : Addr).add j) = some u := fun j u hj => by
  have h := cell_one_new (w.setCell a v) x t j u hj
  have e : (w.setCell a v).heap.size = w.heap.size := by simp [World.setCell]
  rw [e] at h
  exact h
theorem wr_step (i : Nat) (h : i < 1000) : wrap64 ((i : Int) + 1) = ((i + 1 : Nat) : Int) := by unfold wrap64; omega
theorem same_step {M off : Nat} {wo wr w1 : World} {v : Value} {o : Obj} {row : Option Nat} (hS : Same M wo wr) (hg : ((wr.setCell ⟨M, off, none⟩ v).alloc o).grownBy w1 row) (hrow : ∀ k, row = some k → wo.heap.size ≤ k) : Same M wo w1 := by
  have hs := hg.size
  simp [World.setCell] at hs
  refine ⟨by have := hS.size; omega, fun k hk hm => ?_, hg.os.trans hS.os, hg.tape.trans hS.tape, hg.output.trans hS.output⟩
  have hk2 : k < wr.heap.size := Nat.lt_of_lt_of_le hk hS.size
  rw [hg.block k (by simp [World.setCell]; omega) (by intro he; have := hrow k he.symm; omega), Below.heap_alloc _ _ _ (by simp [World.setCell]; omega), Below.heap_setCell _ _ _ _ hm]
  exact hS.same k hk hm
theorem marks_of_block {A B : World} {M : Nat} {vis : List Int} (h : B.heap[M]? = A.heap[M]?) (hm : Marks A M vis) : Marks B M vis := fun j hj => by
  obtain ⟨h1, h2⟩ := hm j hj
  exact ⟨(World.cell?_of_block (w := A) h).trans h1, (World.frozen?_of_block (w := A) h).trans h2⟩
theorem marks_add {w : World} {B : Nat} {vis : List Int} {x : Int} (p : 0 ≤ x) (q : x < 7) (h : Marks w B vis) : Marks (w.setCell ⟨B, x.toNat, none⟩ (.int .i8 1)) B (vis ++ [x]) := by
  intro j hj
  obtain ⟨h1, h2⟩ := h j hj
  obtain ⟨g1, g2⟩ := h x.toNat (by omega)
  constructor
  · by_cases c : j = x.toNat
    · subst c
      rw [if_pos (by simp; omega)]
      exact World.cell?_setCell_same _ _ _ g1
    · have : ((j : Int) ∈ vis ++ [x]) = ((j : Int) ∈ vis) := by
        rw [eq_iff_iff, List.mem_append, List.mem_singleton]
        exact ⟨fun h => h.elim id (fun h => by omega), .inl⟩
      simp only [this]
      rw [← h1]
      exact World.cell?_setCell_other _ _ _ _ (by intro h; injection h with _ h _; omega)
  · rw [World.frozen?_setCell]; exact h2
theorem marks_step2 {M : Nat} {wr w1 : World} {vis : List Int} {x : Int} {o : Obj} {row : Option Nat} (p : 0 ≤ x) (q : x < 7) (hm : Marks wr M vis) (hg : ((wr.setCell ⟨M, x.toNat, none⟩ (.int .i8 1)).alloc o).grownBy w1 row) (hM : M < wr.heap.size) (hrow : ∀ k, row = some k → M < k) : Marks w1 M (vis ++ [x]) := by
  refine marks_of_block ?_ (marks_add p q hm)
  rw [hg.block M (by simp [World.setCell]; omega) (by intro he; have := hrow M he.symm; omega), Below.heap_alloc _ _ _ (by simp [World.setCell]; omega)]
set_option maxHeartbeats 1000000 in
set_option maxRecDepth 100000 in
theorem cyc_iter (n l Bp cp : Nat) (Ap : Option Addr) (p : List Int) (J : List (List Int) → World → Prop) (W : World)
    (hv : Aside0 (validB p = true)) (hJp : Aside0 (∀ pre A, J pre A → A.cell? ⟨Bp, 0, none⟩ = some (.slice Ap p.length cp) ∧ Kd.C (Kd.int .i64) A Ap p.length p))
    (hlt : Bp < W.heap.size)
    (hJs : Aside0 (∀ pre A B, J pre A → Same W.heap.size A B → J pre B))
    (hY : Aside0 (∀ pre x v A0 A rest, cycL p = pre ++ x :: rest → J pre A0 → Same W.heap.size A0 A → W.heap.size < A0.heap.size → Kd.R (Kd.int .i64) 3 A A0.heap.size (fun _ => True) v x → YieldAt Fence.wide (n - 1) Tryd.prog l #[v] A fun e B => e = .returned (.bool true) ∧ J (pre ++ [x]) B ∧ B.heap[W.heap.size]? = A.heap[W.heap.size]? ∧ A.heap.size ≤ B.heap.size))
    (h0 : Aside0 (J [] W)) :
    CallsIn Fence.wide n Tryd.prog 35 #[.func (.yield l) #[] #[], .pointer (some ⟨Bp, 0, none⟩)] W fun e W' => (∃ v, e = .returned v) ∧ J (cycL p) W' := by
  refine callsIn_of_wp Tryd.func35 rfl trivial ?_ rfl
  simp only [Tryd.ntmps35, List.size_toArray, List.length_cons, List.length_nil, Nat.reduceAdd, Nat.reduceSub, Array.replicate_succ, Array.replicate_zero, List.push_toArray, List.append_toArray, List.nil_append, List.cons_append]
  obtain ⟨hb1, hb2⟩ := hJp.out [] W h0.out
  have HB2 := Aside0.mk hb2
  clear hb2
  obtain ⟨hp1, hp2, hp3, hp4⟩ := valid_into hv.out
  have HP := Aside0.mk hp1
  have HP3 := Aside0.mk hp3
  clear hp1 hp2 hp3 hp4
  gi_wp2
  gi_loopg [9] p.length (fun kq v9 wr => ∃ (i : Nat) (vis : List Int) (out : List (List Int)), v9 = .int .i64 i ∧ Aside0 (i + kq = p.length) ∧ Aside0 (out ++ cycS p (p.length - i) i vis = cycL p) ∧ Aside0 (vis.Nodup ∧ Into vis p.length) ∧ Aside0 (Marks wr W.heap.size vis) ∧ Aside0 (J out wr) ∧ Aside0 (W.heap.size < wr.heap.size))
  case atStart =>
    refine ⟨0, [], [], rfl, ⟨by omega⟩, ⟨by rw [List.nil_append, Nat.sub_zero]; rfl⟩, ⟨List.nodup_nil, fun x hx => by cases hx⟩, ⟨marks_zero W []⟩, ⟨hJs.out [] W _ h0.out (Same.of_below ((Below.refl _ _).alloc (Nat.le_refl _) _))⟩, ⟨by simp⟩⟩
  case round =>
    obtain ⟨i, vis, out, rfl, HI, HO, HV, HM, HJ, HZ⟩ := hrel
    obtain ⟨hb1', hb2'⟩ := hJp.out out wr HJ.out
    have HB := Aside0.mk hb2'
    clear hb2'
    by_cases c1 : (i : Int) < (p.length : Int)
    · have c1b : decide (i < p.length) = true := decide_eq_true (by omega)
      have HC1 := Aside0.mk c1
      obtain ⟨ko, rfl⟩ : ∃ ko, gk = ko + 1 := ⟨gk - 1, by have := HI.out; omega⟩
      clear c1
      obtain ⟨wo, rfl⟩ : ∃ wo : World, wo = wr := ⟨_, rfl⟩
      gi_wp2
      gi_loopg [5, 6] 8 (fun f v5 v6 wr => ∃ (x : Int) (c : List Int), v6 = .int .i64 x ∧ Aside0 (c.length + f = 8) ∧ Aside0 (c ++ orbL p f x (vis ++ c) = orbL p 8 i vis) ∧ Aside0 ((vis ++ c).Nodup ∧ Into (vis ++ c) p.length) ∧ Aside0 (0 ≤ x ∧ x < (p.length : Int)) ∧ Aside0 (Marks wr W.heap.size (vis ++ c)) ∧ Aside0 (Same W.heap.size wo wr) ∧ Aside0 (wr.ownsRow wo.heap.size 3 1 v5 c.length (c.map (Value.int .i64))))
      case atStart =>
        exact ⟨i, [], rfl, ⟨rfl⟩, ⟨by rw [List.nil_append, List.append_nil]⟩, ⟨by rw [List.append_nil]; exact HV.out⟩, ⟨by omega, HC1.out⟩, ⟨by rw [List.append_nil]; exact HM.out⟩, ⟨Same.refl _ _⟩, ⟨World.ownsRow_nil _ _ _ _⟩⟩
      case round =>
        obtain ⟨x, c, rfl, HF, HE, HN, HX, HMM, HS, HR⟩ := hrel
        obtain ⟨hx1, hx2⟩ := HX.out
        obtain ⟨hm1, hm2⟩ := HMM.out x.toNat (by have := HP3.out; omega)
        rw [show ((x.toNat : Nat) : Int) = x by omega] at hm1
        have p2 : (0 ≤ x) = True := eq_true hx1
        have q2 : (x < 7) = True := eq_true (by have := HP3.out; omega)
        have hb3 := HS.out.cell hb1' (by intro h; simp at h; omega)
        obtain ⟨ad, e101, hx3⟩ := Kd.at_int (hJp.out out wr (hJs.out out wo wr HJ.out HS.out)).2 x hx1 hx2
        cases e101
        have q3 : (x < (p.length : Int)) = True := eq_true hx2
        clear hx1 hx2
        by_cases c2 : x ∈ vis ++ c
        · rw [if_pos c2] at hm1
          have HC2 := Aside0.mk c2
          clear c2
          have HCL : Aside0 (c.length ≤ 7) := ⟨vis_le (List.nodup_append.1 HN.out.1).2.1 (fun y hy => by have := HN.out.2 y (List.mem_append.2 (.inr hy)); have := HP3.out; omega)⟩
          have HFULL : Aside0 (orbL p 8 i vis = c) := ⟨by
            rw [← HE.out]
            obtain ⟨k1, rfl⟩ : ∃ k1, gk = k1 + 1 := ⟨gk - 1, by have := HF.out; have := HCL.out; omega⟩
            rw [orbL, if_pos HC2.out, List.append_nil]⟩
          obtain ⟨A5, c5, rfl⟩ := own_slice HR.out
          have HPM : Aside0 (p.length - i = (p.length - (i + 1)) + 1) := ⟨by have := HC1.out; omega⟩
          by_cases c3 : 1 < c.length
          · have c3b : decide ((1 : Int) < (c.length : Int)) = true := decide_eq_true (by omega)
            have HC3 := Aside0.mk c3
            clear c3
            have hpre : cycL p = out ++ c :: cycS p (p.length - (i + 1)) (i + 1) (vis ++ c) := by
              rw [← HO.out, HPM.out, cycS, HFULL.out, if_pos HC3.out]; rfl
            obtain ⟨fn, tmps, assign, body, hy, hRR⟩ := hY.out out c (.slice A5 c.length c5) wo wr _ hpre HJ.out HS.out HZ.out (Kd.R_of_own HR.out (fun _ _ => trivial))
            have HRR := Aside0.mk hRR
            have HPRE := Aside0.mk hpre
            clear hRR hpre
            gi_wp2
            refine ⟨fun h => (by cases h), ?_⟩
            refine HRR.out.mono ?_
            rintro e W3 ⟨rfl, hJ3, hM3, hs3⟩
            gi_wp2
            gi_roundg ko
            case measure => omega
            case rel =>
              refine ⟨i + 1, vis ++ c, out ++ [c], ?_, ⟨by have := HI.out; omega⟩, ⟨?_⟩, HN, ⟨marks_of_block hM3 HMM.out⟩, ⟨hJ3⟩, ⟨by have := HZ.out; have := HS.out.size; omega⟩⟩
              · rw [wr_step i (by have := HC1.out; have := HP3.out; omega)]
              · rw [HPRE.out, List.append_assoc]; rfl
          · have c3b : decide ((1 : Int) < (c.length : Int)) = false := decide_eq_false (by omega)
            have HC3 := Aside0.mk c3
            clear c3
            gi_wp2
            refine ⟨fun _ h => (by cases h), ?_⟩
            gi_wp2
            gi_roundg ko
            case measure => omega
            case rel =>
              refine ⟨i + 1, vis ++ c, out, ?_, ⟨by have := HI.out; omega⟩, ⟨?_⟩, HN, ⟨HMM.out⟩, ⟨hJs.out out wo wr HJ.out HS.out⟩, ⟨by have := HZ.out; have := HS.out.size; omega⟩⟩
              · rw [wr_step i (by have := HC1.out; have := HP3.out; omega)]
              · rw [← HO.out, HPM.out, cycS, HFULL.out, if_neg HC3.out]; rfl
        · rw [if_neg c2] at hm1
          have HC2 := Aside0.mk c2
          clear c2
          obtain ⟨i0, hi, hz0, hz1, hz2⟩ := info_parts Pb.info3
          have HI0 := Aside0.mk (And.intro hi (And.intro hz0 (And.intro hz1 hz2)))
          clear hi hz0 hz1 hz2
          have hown : Aside0 ((wr.setCell ⟨W.heap.size, x.toNat, none⟩ (.int .i8 1)).ownsRow wo.heap.size 3 1 u5 c.length (c.map (Value.int .i64))) := ⟨own_move HR.out (fun k hk => Below.heap_setCell _ _ _ _ (by have := own_base HR.out k hk; have := HZ.out; simp; omega))⟩
          have HCL : Aside0 (c.length ≤ 7) := ⟨by
            have := vis_le (List.nodup_append.1 HN.out.1).2.1 (fun y hy => by have := HN.out.2 y (List.mem_append.2 (.inr hy)); have := HP3.out; omega)
            exact this⟩
          gi_wp2_with (gi_at_builtin; go_must (refine wpListIn_append_own _ rfl (.tmp 23) (.tmp 25) 22 rfl wo.heap.size 3 i0 (.int .i64 0) 1 8 Tryd.underlying22 HI0.out.1 HI0.out.2.1 HI0.out.2.2.1 HI0.out.2.2.2 rfl (by decide) u5 c.length (c.map (Value.int .i64)) rfl (hown.out.alloc _) ⟨wr.heap.size, 0, none⟩ 1 1 [.int .i64 x] rfl rfl ?o2 ?o3 ?o4 ?o5 ?o6 ?_; (case o2 => exact cell_new_set _ _ _ _ _); (case o3 => simp [Value.oneCell']); (case o4 => have := HCL.out; unfold maxLen; omega); (case o5 => have := HCL.out; omega); (case o6 => have := HS.out.size; simp [World.setCell]; omega); intro v' w1 hown' hgrow _; have HS1 := Aside0.mk (same_step HS.out hgrow (fun k hk => own_base HR.out k hk)); have HM1 := Aside0.mk (marks_step2 (of_eq_true p2) (of_eq_true q2) HMM.out hgrow (Nat.lt_of_lt_of_le HZ.out HS.out.size) (fun k hk => Nat.lt_of_lt_of_le HZ.out (own_base HR.out k hk))); have HO1 := Aside0.mk hown'; clear hown' hgrow; obtain ⟨hb5, hC5⟩ := hJp.out out w1 (hJs.out out wo w1 HJ.out HS1.out); obtain ⟨ad5, e5, hx5⟩ := Kd.at_int hC5 x (of_eq_true p2) (of_eq_true q3); cases e5; clear hC5))
          obtain ⟨k1, rfl⟩ : ∃ k1, gk = k1 + 1 := ⟨gk - 1, by have := HF.out; have := HCL.out; omega⟩
          gi_roundg k1
          case measure => omega
          case rel =>
            have hx := of_eq_true p2
            have hq := of_eq_true q3
            have hN := HN.out
            have hnew : Into (vis ++ c ++ [x]) p.length := fun y hy => by
              rcases List.mem_append.1 hy with h | h
              · exact hN.2 y h
              · rw [List.mem_singleton.1 h]; exact ⟨hx, hq⟩
            have hrd : rd p x = p.getD x.toNat 0 := rfl
            refine ⟨rd p x, c ++ [x], rfl, ⟨by have := HF.out; simp; omega⟩, ⟨?_⟩, ⟨?_, ?_⟩, ⟨?_⟩, ⟨?_⟩, HS1, ⟨?_⟩⟩
            · rw [← HE.out, orbL, if_neg HC2.out, hrd, List.append_assoc, List.append_assoc]; rfl
            · rw [← List.append_assoc]
              exact List.nodup_append.2 ⟨hN.1, by simp, by intro y hy z hz; rw [List.mem_singleton.1 hz]; rintro rfl; exact HC2.out hy⟩
            · rw [← List.append_assoc]; exact hnew
            · rw [hrd]; exact HP.out.at x.toNat (by omega)
            · rw [← List.append_assoc]; exact HM1.out
            · have := HO1.out
              simpa using this
    · have c1b : decide (i < p.length) = false := decide_eq_false (by omega)
      have HC1 := Aside0.mk c1
      clear c1
      gi_wp2
      go_end0
      refine ⟨⟨_, rfl⟩, ?_⟩
      have h1 : p.length - i = 0 := by have := HC1.out; omega
      have h2 := HO.out
      rw [h1, cycS, List.append_nil] at h2
      rw [← h2]
      exact HJ.out
end Go.Proofs.YtjfhogholmabfaaDoor.Giv
