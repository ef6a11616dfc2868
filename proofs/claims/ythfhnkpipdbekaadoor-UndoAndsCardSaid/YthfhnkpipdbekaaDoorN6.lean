-- CUT by a program of this session: what the claim does not use is left out
import Derived.Test.YthfhnkpipdbekaaDoorN5
import Derived.Test.YthfhnkpipdbekaaDoorUix1
namespace Go.Proofs.YthfhnkpipdbekaaDoor.Giv
set_option linter.unusedVariables false
set_option linter.unusedSimpArgs false
open Go.RowKit Go.Shelf Go.Proofs.YthfhnkpipdbekaaDoorW.PrintWords Go.Proofs.YthfhnkpipdbekaaDoorW.PrintLast Go.Proofs.YthfhnkpipdbekaaDoorW.PrintMore
open Go.Proofs.YthfhnkpipdbekaaDoor.Ua (S67 k67 z67 rd_T67 at_T67 k67_open k67_openM k67_mkM info4)
open Go.Proofs.YthfhnkpipdbekaaDoor.Ui (bits_Input.f bits_Input.calls slices_Equal_bool_bool.f slices_Equal_bool_bool.calls)
theorem pSn6 {α : Type} : (∀ (l : List α) (i : Nat) (a : α), l.toArray.setIfInBounds i a = (l.set i a).toArray) ∧ (∀ (l : List α) (x y : α), (x :: l).set 0 y = y :: l) ∧ (∀ (l : List α) (x y : α) (n : Nat), (x :: l).set (n + 1) y = x :: l.set n y) :=
 ⟨fun _ _ _ => List.setIfInBounds_toArray .., fun _ _ _ => rfl, fun _ _ _ _ => rfl⟩
open Bool renaming true → T, false → F
abbrev z0n6 : Array Bool := #[F,F,F,F,F,F,F,F,F,F]
abbrev z1n6 : Array Bool := #[T,F,F,F,F,F,F,F,F,F]
abbrev z2n6 : Array Bool := #[T,T,F,F,F,F,F,F,F,F]
abbrev z3n6 : Array Bool := #[T,T,T,F,F,F,F,F,F,F]
abbrev z4n6 : Array Bool := #[T,T,T,T,F,F,F,F,F,F]
abbrev z5n6 : Array Bool := #[T,T,T,T,T,F,F,F,F,F]
abbrev z6n6 : Array Bool := #[T,T,T,T,T,T,F,F,F,F]
abbrev z7n6 : Array Bool := #[T,T,T,T,T,T,T,F,F,F]
abbrev z8n6 : Array Bool := #[T,T,T,T,T,T,T,T,F,F]
abbrev z9n6 : Array Bool := #[T,T,T,T,T,T,T,T,T,F]
abbrev z10n6 : Array Bool := #[T,T,T,T,T,T,T,T,T,T]
def undo_Clean.l0 : Nat → Int → List S67 → Int → List Bool → Int → Int → Option (List Bool × Int)
 | 0, _, _, _, _, _, _ => none
 | k + 1, a0, l, n, out, hi, i =>
  if i < hi then (bits_Input.f k i a0).bind fun x =>
   if (x.length : Int) = a0 then
    if 0 ≤ Go.bits .and .i64 i (out.length - 1) ∧ Go.bits .and .i64 i (out.length - 1) < out.length then
     if shr .i64 i n = 0 then
      (slices_Equal_bool_bool.f k x ((runL x l).set n.toNat (rdOf false x n))).bind fun q => if q = true then undo_Clean.l0 k a0 l n (out.set (Go.bits .and .i64 i (out.length - 1)).toNat (!(rdOf false x n == rdOf false (runL x l) n))) hi (i + 1) else some ([], 6)
     else if (rdOf false out (Go.bits .and .i64 i (out.length - 1)) != (!(rdOf false x n == rdOf false (runL x l) n))) = true then some ([], 6)
      else (slices_Equal_bool_bool.f k x ((runL x l).set n.toNat (rdOf false x n))).bind fun q => if q = true then undo_Clean.l0 k a0 l n out hi (i + 1) else some ([], 6)
    else none
   else none
  else some (out, 0)
def undo_Clean.f (k : Nat) (a0_0 : Int) (l0_1 : List S67) (a1 : Int) : Option (List Bool × Int) :=
 if validB a0_0 l0_1 = true then if 0 ≤ a1 ∧ a1 < a0_0 then if a1 ≤ 12 ∧ (1 + (l0_1.length : Int)) * 2 ^ (a1 + 1).toNat ≤ 16777216 then undo_Clean.l0 k a0_0 l0_1 a1 (List.replicate (2 ^ a1.toNat) false) (2 ^ (a1 + 1).toNat) 0 else some ([], 5) else some ([], 2) else some ([], 1)
theorem R_only {W : World} {base g n c : Nat} {xs : List Bool} (h : Kd.R Kd.bool 4 W base (fun _ => True) (.slice (some ⟨g, 0, none⟩) n c) xs) : Kd.R Kd.bool 4 W base (fun k => k = g) (.slice (some ⟨g, 0, none⟩) n c) xs :=
 ⟨fun k hk => by simpa [Value.ownBlock] using hk.symm, h.2⟩
theorem R_same {W W1 : World} {base g n c : Nat} {xs : List Bool} (h : Kd.R Kd.bool 4 W base (fun _ => True) (.slice (some ⟨g, 0, none⟩) n c) xs) (he : W1.heap[g]? = W.heap[g]?) : Kd.R Kd.bool 4 W1 base (fun _ => True) (.slice (some ⟨g, 0, none⟩) n c) xs :=
 Kd.R_mono (Kd.R_step (R_only h) (fun k hk _ => by subst hk; exact he)) (fun _ _ => trivial)
theorem R_cellb {W : World} {base g n c : Nat} {xs : List Bool} (h : Kd.R Kd.bool 4 W base (fun _ => True) (.slice (some ⟨g, 0, none⟩) n c) xs) (i : Int) (h0 : 0 ≤ i) (h1 : i < n) : W.cell? ⟨g, i.toNat, none⟩ = some (.bool (rdOf false xs i)) ∧ W.frozen? ⟨g, i.toNat, none⟩ = false := Kd.R_celln (enc := Value.bool) false h i h0 h1
theorem R_putb {W : World} {base g n c : Nat} {xs : List Bool} (h : Kd.R Kd.bool 4 W base (fun _ => True) (.slice (some ⟨g, 0, none⟩) n c) xs) (i : Int) (b : Bool) : Kd.R Kd.bool 4 (W.setCell ⟨g, i.toNat, none⟩ (.bool b)) base (fun _ => True) (.slice (some ⟨g, 0, none⟩) n c) (xs.set i.toNat b) := Kd.R_putn (enc := Value.bool) h i b
theorem box_heap (w : World) (o : Obj) : (w.alloc o).heap[w.heap.size]? = some o := by
 unfold World.alloc; exact Array.getElem?_push_size
theorem pow_small {a : Int} (h0 : 0 ≤ a) (h1 : a ≤ 13) : ∃ N : Nat, 1 ≤ N ∧ N ≤ 8192 ∧ (2 : Int) ^ a.toNat = (N : Int) ∧ 2 ^ a.toNat = N :=
 ⟨2 ^ a.toNat, Nat.one_le_two_pow, Nat.le_trans (Nat.pow_le_pow_right (by decide) (show a.toNat ≤ 13 by omega)) (by decide), by simp, rfl⟩
theorem w64_small {x : Int} (h0 : -9000000000000000000 ≤ x) (h1 : x ≤ 9000000000000000000) : wrap64 x = x := by unfold wrap64; omega
def reg23.T : Bool × List (List Nat × List Nat) := (true, [([], []), ([], []), ([0, 1], [0, 1]), ([2], [2]), ([], []), ([], []), ([4, 5], [4, 5]), ([6], [6]), ([3, 7], [3, 7]), ([8, 0, 1, 2, 3, 4, 5, 6, 7, 8], [8])])
def reg23.B : List Nat := [0, 0, 3, 7, 0, 0, 48, 112, 255, 511]
theorem reg23.tab : rtab .any (opsOf Tryd.f23 14) = reg23.T := by kernel_rfl
theorem reg23.bits : waitsOk reg23.T.2 reg23.B = true := by kernel_rfl
set_option maxHeartbeats 16000000 in
set_option maxRecDepth 100000 in
theorem undo_Clean.calls (k : Nat) (a0_0 : Int) (A0_1 : Option Addr) (c0_1 : Nat) (l0_1 : List S67) (a1 : Int) (r1 : List Bool) (r2 : Int) (w : World) (hr0_1 : Kd.C k67 w A0_1 l0_1.length l0_1) (hc0_1 : l0_1.length ≤ c0_1) (h : undo_Clean.f k a0_0 l0_1 a1 = some (r1, r2)) :
    Calls Tryd.prog 23 #[.agg #[.int .i64 a0_0, .slice A0_1 l0_1.length c0_1], .int .i64 a1] w fun e w' => ∃ v0_ : Value, e = .returned (.tuple #[v0_, .int .i64 r2]) ∧ Kd.R Kd.bool 4 w' w.heap.size (fun _ => True) v0_ r1 ∧ Below w.heap.size w w' := by
  have HB := Aside0.mk (Below.refl w.heap.size w)
  have HC := Aside0.mk hr0_1
  have HL := Aside0.mk hc0_1
  clear hr0_1 hc0_1
  unfold undo_Clean.f at h
  cases hv : validB a0_0 l0_1 with
  | false =>
    rw [hv, if_neg (by simp)] at h
    obtain ⟨rfl, rfl⟩ := Prod.mk.inj (Option.some.inj h)
    have hvf : undo_Valid.f a0_0 l0_1 = some false := congrArg some hv
    go_enter Tryd.func23, Tryd.ntmps23
    go_wp2_with (go_at_call 28; refine (undo_Valid.calls a0_0 A0_1 c0_1 l0_1 false _ (Kd.C_alloc HC.out _) HL.out hvf).mono ?_; rintro e w2 ⟨rfl, hb⟩; have HB2 := Aside0.mk (below_step (by repeat (first | exact HB.out | apply below_alloc) : Below w.heap.size w _) hb); have hz0 := pw_cell_below hb (box25 w a0_0 A0_1 l0_1.length c0_1).1; have hz1 := pw_cell_below hb (box25 w a0_0 A0_1 l0_1.length c0_1).2; have HBX2 := Aside0.mk ((hb.block w.heap.size (by simp)).trans (box_heap w (.cells #[.int .i64 a0_0, .slice A0_1 l0_1.length c0_1] 25 (0, 0)))); clear hb)
    refine bodyPost_ret (v := .tuple #[.slice none 0 0, .int .i64 1]) (by simp [results, Tryd.results23, go_sem]) rfl ?_
    exact ⟨_, rfl, Kd.R_nil _ _ _ _ _, HB2.out⟩
  | true =>
    rw [hv, if_pos rfl] at h
    have hvf : undo_Valid.f a0_0 l0_1 = some true := congrArg some hv
    have HV := Aside0.mk (validB_all hv)
    clear hv
    by_cases hn : 0 ≤ a1 ∧ a1 < a0_0
    · rw [if_pos hn] at h
      have HN := Aside0.mk hn
      have d1 : decide (a1 < 0) = false := decide_eq_false (by omega)
      have d2 : decide (a0_0 ≤ a1) = false := decide_eq_false (by omega)
      have hlen : l0_1.length ≤ 200000 := HV.out.1.2.2
      have hnn : 0 ≤ a1 := hn.1
      clear hn
      by_cases h12 : a1 ≤ 12
      · have d3 : decide (12 < a1) = false := decide_eq_false (by omega)
        obtain ⟨M, hM1, hM2, eM, eM'⟩ := pow_small (a := a1 + 1) (by omega) (by omega)
        obtain ⟨N, hN1, hN2, eN, eN'⟩ := pow_small (a := a1) (by omega) (by omega)
        have hsz : (1 + (l0_1.length : Int)) * (M : Int) ≤ 200001 * 8192 := Int.mul_le_mul (by omega) (by omega) (by omega) (by omega)
        have hsz0 : 0 ≤ (1 + (l0_1.length : Int)) * (M : Int) := Int.mul_nonneg (by omega) (by omega)
        obtain ⟨X, hX⟩ : ∃ X, (1 + (l0_1.length : Int)) * (M : Int) = X := ⟨_, rfl⟩
        rw [eM, eN', hX] at h
        rw [hX] at hsz hsz0
        have b1 : -9000000000000000000 ≤ X := by omega
        have b2 : X ≤ 9000000000000000000 := by omega
        have b3 : -9000000000000000000 ≤ (M : Int) := by omega
        have b4 : (M : Int) ≤ 9000000000000000000 := by omega
        have b5 : -9000000000000000000 ≤ (N : Int) := by omega
        have b6 : (N : Int) ≤ 9000000000000000000 := by omega
        have WX := Aside0.mk (w64_small b1 b2)
        have WM := Aside0.mk (w64_small b3 b4)
        have WN := Aside0.mk (w64_small b5 b6)
        clear b1 b2 b3 b4 b5 b6
        have HM := Aside0.mk (And.intro hM1 hM2)
        have HN2 := Aside0.mk (And.intro hN1 hN2)
        have HX0 := Aside0.mk (And.intro hsz0 hsz)
        clear hM1 hM2 hN1 hN2 hsz hsz0 eM' eN'
        by_cases hs : X ≤ 16777216
        · rw [if_pos ⟨h12, hs⟩] at h
          have d4 : decide (16777216 < X) = false := decide_eq_false (by omega)
          have H' := Aside0.mk h
          have H12 := Aside0.mk h12
          clear hs h
          have pN : Aside0 (0 ≤ (N : Int)) := ⟨Int.natCast_nonneg _⟩
          have pN2 : Aside0 ((N : Int).toNat * 1 ≤ 281474976710656) := ⟨by have := HN2.out; omega⟩
          have pN3 : Aside0 (0 < (List.replicate N false).length) := ⟨by have := HN2.out; rw [List.length_replicate]; omega⟩
          have wX := WX.out
          have wM := WM.out
          have wN := WN.out
          go_enter Tryd.func23, Tryd.ntmps23
          go_wp2_with (first
            | (go_at_call 28; refine (undo_Valid.calls a0_0 A0_1 c0_1 l0_1 true _ (Kd.C_alloc HC.out _) HL.out hvf).mono ?_; rintro e w2 ⟨rfl, hb⟩; have HB2 := Aside0.mk (below_step (by repeat (first | exact HB.out | apply below_alloc) : Below w.heap.size w _) hb); have hz0 := pw_cell_below hb (box25 w a0_0 A0_1 l0_1.length c0_1).1; have hz1 := pw_cell_below hb (box25 w a0_0 A0_1 l0_1.length c0_1).2; have HBX2 := Aside0.mk ((hb.block w.heap.size (by simp)).trans (box_heap w (.cells #[.int .i64 a0_0, .slice A0_1 l0_1.length c0_1] 25 (0, 0)))); clear hb)
            | ((with_reducible refine gate_dst (N := 40) rfl ?_); refine Kd.R_make Kd.bool _ 4 rfl (N := 40) rfl 34 _ _ rfl (wrap64 (N : Int)) rfl rfl Tryd.underlying34 (.bool false) 1 info4 rfl (by decide) (by omega) false (ok := fun _ => True) (okp := fun _ => True) rfl (fun _ hk => hk) trivial (by rw [wN]; exact pN.out) (by rw [wN]; exact pN2.out) (Below.refl _ _) (Nat.le_refl _) ?_; intro v5 w5 ho5 hb hg_ hnew_; clear hg_ hnew_; rw [wN, Int.toNat_natCast] at ho5; have HB5 := Aside0.mk (below_step HB2.out hb); have HBX5 := Aside0.mk ((hb.block _ (World.block_lt_of_cell? _ _ hz0)).trans HBX2.out); replace hz0 := pw_cell_below hb hz0; replace hz1 := pw_cell_below hb hz1; have HO5 := Aside0.mk (Kd.R_lower ho5 (below_size HB2.out)); clear ho5 hb; obtain ⟨gO, cO, e5, hg3, hg4, _⟩ := Kd.R_form HO5.out pN3.out; rw [List.length_replicate] at e5; subst e5; have HGO := Aside0.mk hg3; have HGL := Aside0.mk hg4; clear hg3 hg4))
          clear wX wN
          have HNB : Aside0 (gO ≠ w.heap.size) := ⟨fun e => by have := Kd.R_ne HO5.out HBX5.out (by decide); simp [Value.ownBlock] at this; exact this e.symm⟩
          go_loopg [44] k (fun kq v44 wr => ∃ (out : List Bool) (i : Int), v44 = .int .i64 i ∧ Aside0 (undo_Clean.l0 kq a0_0 l0_1 a1 out (M : Int) i = some (r1, r2)) ∧ Aside0 (kq ≤ k) ∧ Aside0 (Kd.R Kd.bool 4 wr w.heap.size (fun _ => True) (.slice (some ⟨gO, 0, none⟩) out.length cO) out ∧ Below w.heap.size w wr ∧ wr.heap[w.heap.size]? = some (.cells #[.int .i64 a0_0, .slice A0_1 l0_1.length c0_1] 25 (0, 0)) ∧ 0 ≤ i ∧ out.length = N ∧ i ≤ (M : Int) ∧ gO < wr.heap.size))
          case atStart => exact ⟨List.replicate N false, 0, rfl, H', ⟨Nat.le_refl _⟩, ⟨by rw [List.length_replicate]; exact HO5.out, HB5.out, HBX5.out, Int.le_refl _, List.length_replicate, by omega, HGL.out⟩⟩
          case round =>
            clear H' HO5 HB5 HBX5 hz0 hz1
            obtain ⟨out, i, rfl, HA, HK1, HI⟩ := hrel
            cases gk with
            | zero => exact absurd HA.out (by simp [undo_Clean.l0])
            | succ k1 =>
              have H := HA.out
              clear HA
              simp only [undo_Clean.l0] at H
              by_cases ci : i < (M : Int)
              · rw [if_pos ci] at H
                have cib : decide (i < (M : Int)) = true := decide_eq_true ci
                obtain ⟨x, hx, H⟩ := Option.bind_eq_some_iff.mp H
                have HX := Aside0.mk hx
                have HCI := Aside0.mk ci
                clear hx ci
                by_cases cx : (x.length : Int) = a0_0
                rotate_left
                · rw [if_neg cx] at H
                  exact absurd H (by simp)
                rw [if_pos cx] at H
                have HLN : Aside0 ((out.length : Int) = (N : Int)) := ⟨by have := HI.out.2.2.2.2.1; omega⟩
                rw [HLN.out] at H
                obtain ⟨t, ht⟩ : ∃ t, Go.bits .and .i64 i ((N : Int) - 1) = t := ⟨_, rfl⟩
                rw [ht] at H
                by_cases ct : 0 ≤ t ∧ t < (N : Int)
                rotate_left
                · rw [if_neg ct] at H
                  exact absurd H (by simp)
                rw [if_pos ct] at H
                have qt : (t < (N : Int)) = True := eq_true ct.2
                have HAT : Aside0 (0 ≤ t ∧ t < (out.length : Int)) := ⟨by have := HLN.out; omega⟩
                clear ct
                obtain ⟨sh, hsh⟩ : ∃ j, shr .i64 i a1 = j := ⟨_, rfl⟩
                rw [hsh] at H
                have hsh_ : i / 2 ^ min a1.toNat 64 = sh := hsh
                have hshz : a1 ≤ 64 → i / 2 ^ a1.toNat = sh := shr_small hsh
                have hshy : i / (N : Int) = sh := by rw [← eN]; exact hshz (by have := H12.out; omega)
                have HXP : Aside0 (0 < x.length) := ⟨by have := HN.out; omega⟩
                have HXN : Aside0 (a1 < (x.length : Int)) := ⟨by have := HN.out; omega⟩
                have HCL : Aside0 (slices_Clone_bools.f x = some x) := ⟨if_pos (by have := HV.out.1; omega)⟩
                have HRT : Aside0 (∀ o ∈ l0_1, rightB x.length o = true) := ⟨by rw [cx]; exact HV.out.2⟩
                have pa : (0 ≤ a1) = True := eq_true HN.out.1
                have qa : (a1 < (x.length : Int)) = True := eq_true HXN.out
                have pt : (0 ≤ t) = True := eq_true HAT.out.1
                have hol : N ≤ 8192 := HN2.out.2
                have hol1 : 1 ≤ N := HN2.out.1
                have hol2 : wrap64 ((N : Int) - 1) = (N : Int) - 1 := w64_small (by omega) (by omega)
                have hz0 : wr.cell? ⟨w.heap.size, 0, none⟩ = some (.int .i64 a0_0) := (blk_cell HI.out.2.2.1 0).trans rfl
                have hz1 : wr.cell? ⟨w.heap.size, 1, none⟩ = some (.slice A0_1 l0_1.length c0_1) := (blk_cell HI.out.2.2.1 1).trans rfl
                have HCX := Aside0.mk cx
                clear cx hol hol1
                have H0 := Aside0.mk H
                clear H
                go_wp2_with (first | (go_at_call 54; refine (bits_Input.calls k1 i a0_0 x _ HX.out).mono ?_; rintro e w2 ⟨v2, rfl, ho, hb⟩; have HO2 := Aside0.mk ho; have HB2 := Aside0.mk hb; replace hz0 := pw_cell_below hb hz0; replace hz1 := pw_cell_below hb hz1; obtain ⟨g2, c2, e2, g2a, g2b, _⟩ := Kd.R_form ho HXP.out; subst e2; have HG2 := Aside0.mk (And.intro g2a g2b); clear ho hb g2a g2b) | (go_at_call 55; refine (slices_Clone_bools.calls _ c2 x x _ (Kd.R_reads' HO2.out).2.2 (Kd.R_reads' HO2.out).2.1 HCL.out).mono ?_; rintro e w3 ⟨v3, rfl, ho, hb⟩; have HO3 := Aside0.mk ho; have HB3 := Aside0.mk hb; replace hz0 := pw_cell_below hb hz0; replace hz1 := pw_cell_below hb hz1; obtain ⟨g3, c3, e3, g3a, g3b, _⟩ := Kd.R_form ho HXP.out; subst e3; have HG3 := Aside0.mk (And.intro g3a g3b); clear ho hb g3a g3b; have HB03 : Aside0 (Below w.heap.size w w3) := ⟨below_step (below_step HI.out.2.1 HB2.out) HB3.out⟩; have HLE : Aside0 (w.heap.size ≤ wr.heap.size ∧ wr.heap.size ≤ w2.heap.size ∧ w2.heap.size ≤ w3.heap.size) := ⟨⟨HI.out.2.1.size, HB2.out.size, HB3.out.size⟩⟩; have HGL3 : Aside0 (w.heap.size ≤ g3) := ⟨by have := HLE.out; have := HG3.out; omega⟩) | (go_at_call 56; refine (run_walk A0_1 c0_1 l0_1 g3 c3 x w w3 HC.out (Kd.R_lower HO3.out (Nat.le_trans HLE.out.1 HLE.out.2.1)) HB03.out HGL3.out HG3.out.2 HRT.out).mono ?_; rintro e W ⟨rfl, hrun⟩; have HRUN := Aside0.mk hrun; clear hrun hz0 hz1))
                have HNE1 : Aside0 (g2 ≠ gO) := ⟨by have := HI.out.2.2.2.2.2.2; have := HG2.out; omega⟩
                have HNE2 : Aside0 (g3 ≠ gO) := ⟨by have := HI.out.2.2.2.2.2.2; have := HG3.out; have := HLE.out; omega⟩
                have HNE3 : Aside0 (g2 ≠ g3) := ⟨by have := HG2.out; have := HG3.out; omega⟩
                have HNE4 : Aside0 (w.heap.size ≠ gO) := ⟨fun e => HNB.out e.symm⟩
                have HNE5 : Aside0 (w.heap.size ≠ g3) := ⟨by have hlt := World.block_lt_of_cell? wr ⟨w.heap.size, 0, none⟩ ((blk_cell HI.out.2.2.1 0).trans rfl); have hlt2 : w.heap.size < wr.heap.size := hlt; have := HG3.out; have := HLE.out; omega⟩
                have HY4 : Aside0 (Kd.R Kd.bool 4 W.drew w.heap.size (fun _ => True) (.slice (some ⟨g3, 0, none⟩) x.length c3) (runL x l0_1)) := ⟨Kd.R_drew (by have := HRUN.out.row; rw [runL_len] at this; exact this)⟩
                have HX4 : Aside0 (Kd.R Kd.bool 4 W.drew w.heap.size (fun _ => True) (.slice (some ⟨g2, 0, none⟩) x.length c2) x) := ⟨Kd.R_drew (R_same (Kd.R_lower (Kd.R_below HO2.out HB3.out) HLE.out.1) (HRUN.out.grown.block g2 (Nat.lt_of_lt_of_le HG2.out.2 HLE.out.2.2) (by intro e; injection e with e; exact HNE3.out e)))⟩
                have HO4 : Aside0 (Kd.R Kd.bool 4 W.drew w.heap.size (fun _ => True) (.slice (some ⟨gO, 0, none⟩) out.length cO) out) := ⟨Kd.R_drew (R_same (Kd.R_below (Kd.R_below HI.out.1 HB2.out) HB3.out) (HRUN.out.grown.block gO (by have := HI.out.2.2.2.2.2.2; have := HLE.out; omega) (by intro e; injection e with e; exact HNE2.out e.symm)))⟩
                have HBX4 : Aside0 (W.drew.heap[w.heap.size]? = some (.cells #[.int .i64 a0_0, .slice A0_1 l0_1.length c0_1] 25 (0, 0))) := ⟨(HRUN.out.grown.block w.heap.size (Nat.lt_of_lt_of_le (World.block_lt_of_cell? wr ⟨w.heap.size, 0, none⟩ ((blk_cell HI.out.2.2.1 0).trans rfl)) (Nat.le_trans HLE.out.2.1 HLE.out.2.2)) (by intro e; injection e with e; exact HNE5.out e)).trans (((HB3.out.block _ (Nat.lt_of_lt_of_le (World.block_lt_of_cell? wr ⟨w.heap.size, 0, none⟩ ((blk_cell HI.out.2.2.1 0).trans rfl)) HLE.out.2.1)).trans (HB2.out.block _ (World.block_lt_of_cell? wr ⟨w.heap.size, 0, none⟩ ((blk_cell HI.out.2.2.1 0).trans rfl)))).trans HI.out.2.2.1)⟩
                have HB4 : Aside0 (Below w.heap.size w W.drew) := ⟨below_drew HRUN.out.below⟩
                have HG3 := HGL3
                have x0 : W.cell? ⟨g2, a1.toNat, none⟩ = some (.bool (rdOf false x a1)) := (R_cellb HX4.out a1 HN.out.1 HXN.out).1
                have y0 : W.cell? ⟨g3, a1.toNat, none⟩ = some (.bool (rdOf false (runL x l0_1) a1)) := (R_cellb HY4.out a1 HN.out.1 HXN.out).1
                refine start_ (n := 10) (S := fun w' => w'.cell? ⟨g2, a1.toNat, none⟩ = some (.bool (rdOf false x a1)) ∧ w'.cell? ⟨g3, a1.toNat, none⟩ = some (.bool (rdOf false (runL x l0_1) a1))) (ds := []) z0n6 (by kernel_rfl) rfl rfl ⟨x0, y0⟩ (fun hHeld => ?_); refine with_tabW reg23.tab reg23.bits (fun HT_ HW_ => ?_)
                clear x0 y0 HRUN
                generalize W.drew = W4 at HY4 HX4 HO4 HBX4 HB4 hHeld ⊢
                refine pure_ (i := 0) (N := some 57) (v := ?_) (a' := ?_) z1n6 rfl rfl (any_of HT_.out (by kernel_rfl)) (fun _ _ _ h => h) (Or.inl ⟨by rfl, ?_⟩) ?_ ?_
                rotate_left
                · intro w'
                  go_simp
                  with_reducible rfl
                rotate_left
                · simp only [Act.put, pSn6, i64_w]
                  rfl
                refine pure_ (i := 1) (N := some 58) (v := ?_) (a' := ?_) z2n6 rfl rfl (any_of HT_.out (by kernel_rfl)) (fun _ _ _ h => h) (Or.inl ⟨by rfl, ?_⟩) ?_ ?_
                rotate_left
                · intro w'
                  go_simp
                  with_reducible rfl
                rotate_left
                · simp only [Act.put, pSn6, i64_w]
                  rfl
                refine pure_ (i := 2) (N := some 59) (v := ?_) (a' := ?_) z3n6 rfl rfl (any_of HT_.out (by kernel_rfl)) (fun _ _ _ h => h) (Or.inl ⟨by rfl, ?_⟩) ?_ ?_
                rotate_left
                · intro w'
                  go_simp
                  with_reducible rfl
                rotate_left
                · simp only [Act.put, pSn6, i64_w]
                  rfl
                refine take_ (i := 3) (N := some 60) (v := ?_) (a' := ?_) z4n6 rfl rfl (take_ofW HT_.out HW_.out (by kernel_rfl)) (fun _ _ _ h => h) (Or.inl ⟨by rfl, ?_⟩) hHeld ?_ ?_
                rotate_left
                · rintro w' ⟨s1, s2⟩
                  go_simp
                  with_reducible rfl
                rotate_left
                · simp only [Act.put, pSn6, i64_w]
                  rfl
                refine pure_ (i := 4) (N := some 61) (v := ?_) (a' := ?_) z5n6 rfl rfl (any_of HT_.out (by kernel_rfl)) (fun _ _ _ h => h) (Or.inl ⟨by rfl, ?_⟩) ?_ ?_
                rotate_left
                · intro w'
                  go_simp
                  with_reducible rfl
                rotate_left
                · simp only [Act.put, pSn6, i64_w]
                  rfl
                refine pure_ (i := 5) (N := some 62) (v := ?_) (a' := ?_) z6n6 rfl rfl (any_of HT_.out (by kernel_rfl)) (fun _ _ _ h => h) (Or.inl ⟨by rfl, ?_⟩) ?_ ?_
                rotate_left
                · intro w'
                  go_simp
                  with_reducible rfl
                rotate_left
                · simp only [Act.put, pSn6, i64_w]
                  rfl
                refine pure_ (i := 6) (N := some 63) (v := ?_) (a' := ?_) z7n6 rfl rfl (any_of HT_.out (by kernel_rfl)) (fun _ _ _ h => h) (Or.inl ⟨by rfl, ?_⟩) ?_ ?_
                rotate_left
                · intro w'
                  go_simp
                  with_reducible rfl
                rotate_left
                · simp only [Act.put, pSn6, i64_w]
                  rfl
                refine take_ (i := 7) (N := some 64) (v := ?_) (a' := ?_) z8n6 rfl rfl (take_ofW HT_.out HW_.out (by kernel_rfl)) (fun _ _ _ h => h) (Or.inl ⟨by rfl, ?_⟩) hHeld ?_ ?_
                rotate_left
                · rintro w' ⟨s1, s2⟩
                  go_simp
                  with_reducible rfl
                rotate_left
                · simp only [Act.put, pSn6, i64_w]
                  rfl
                refine pure_ (i := 8) (N := some 65) (v := ?_) (a' := ?_) z9n6 rfl rfl (any_of HT_.out (by kernel_rfl)) (fun _ _ _ h => h) (Or.inl ⟨by rfl, ?_⟩) ?_ ?_
                rotate_left
                · intro w'
                  go_simp
                  with_reducible rfl
                rotate_left
                · simp only [Act.put, pSn6, i64_w]
                  rfl
                refine pure_ (i := 9) (N := some 10) (v := ?_) (a' := ?_) z10n6 rfl rfl (any_of HT_.out (by kernel_rfl)) (fun _ _ _ h => h) (Or.inl ⟨by rfl, ?_⟩) ?_ ?_
                rotate_left
                · intro w'
                  go_simp
                  with_reducible rfl
                rotate_left
                · simp only [Act.put, pSn6, i64_w]
                  rfl
                refine done_ (done_of HT_.out (by kernel_rfl)) ?_
                have H := H0.out
                clear H0
                have HLY : Aside0 (((runL x l0_1).set a1.toNat (rdOf false x a1)).length = x.length) := ⟨by rw [List.length_set, runL_len]⟩
                have x5 := (R_cellb HX4.out a1 HN.out.1 HXN.out).1
                obtain ⟨y5, y5f⟩ := R_cellb HY4.out a1 HN.out.1 HXN.out
                obtain ⟨o5, o5f⟩ := R_cellb HO4.out t HAT.out.1 HAT.out.2
                by_cases hs0 : sh = 0
                · rw [if_pos hs0] at H
                  have hsb : (sh == 0) = true := beq_iff_eq.2 hs0
                  clear hs0
                  have HRD : Aside0 (rdOf false (out.set t.toNat (!(rdOf false x a1 == rdOf false (runL x l0_1) a1))) t = (!(rdOf false x a1 == rdOf false (runL x l0_1) a1))) := ⟨by simp [rdOf, List.getD_eq_getElem?_getD, List.getElem?_set, show t.toNat < out.length by have := HAT.out; omega]⟩
                  have nb : ((!(rdOf false x a1 == rdOf false (runL x l0_1) a1)) != (!(rdOf false x a1 == rdOf false (runL x l0_1) a1))) = false := by simp
                  obtain ⟨q, hq, H⟩ := Option.bind_eq_some_iff.mp H
                  have HQ := Aside0.mk hq
                  clear hq
                  cases q with
                  | true =>
                    rw [if_pos rfl] at H
                    have H' := Aside0.mk H
                    clear H
                    go_wp2_with (first | ((with_reducible refine gate_store (t := 4) (p := 78) rfl ?_); refine store_event (t := 4) (p := 78) (v := ?vo_w5) (w1 := (W4.setCell ⟨gO, t.toNat, none⟩ (.bool (!(rdOf false x a1 == rdOf false (runL x l0_1) a1))))) ?hg ?ho ?hn ?hr ?_; (case ho => rfl); (case hg => rfl); (case hn => rfl); (case hr => first | (go_simp; done) | (go_simp; rfl)); intro W5 hw; have HO5 : Aside0 (Kd.R Kd.bool 4 W5 w.heap.size (fun _ => True) (.slice (some ⟨gO, 0, none⟩) out.length cO) (out.set t.toNat (!(rdOf false x a1 == rdOf false (runL x l0_1) a1)))) := ⟨by rw [hw]; exact R_putb HO4.out t (!(rdOf false x a1 == rdOf false (runL x l0_1) a1))⟩; have HX5 : Aside0 (Kd.R Kd.bool 4 W5 w.heap.size (fun _ => True) (.slice (some ⟨g2, 0, none⟩) x.length c2) x) := ⟨R_same HX4.out (by rw [hw]; exact Below.heap_setCell _ _ _ _ HNE1.out)⟩; have HY5 : Aside0 (Kd.R Kd.bool 4 W5 w.heap.size (fun _ => True) (.slice (some ⟨g3, 0, none⟩) x.length c3) (runL x l0_1)) := ⟨R_same HY4.out (by rw [hw]; exact Below.heap_setCell _ _ _ _ HNE2.out)⟩; have HB5 : Aside0 (Below w.heap.size w W5) := ⟨by rw [hw]; exact below_set HB4.out HGO.out⟩; have HBX5 : Aside0 (W5.heap[w.heap.size]? = some (.cells #[.int .i64 a0_0, .slice A0_1 l0_1.length c0_1] 25 (0, 0))) := ⟨by rw [hw]; exact (Below.heap_setCell _ _ _ _ HNE4.out).trans HBX4.out⟩; clear hw; have x5 := (R_cellb HX5.out a1 HN.out.1 HXN.out).1; have y5 := R_cellb HY5.out a1 HN.out.1 HXN.out; obtain ⟨y5, y5f⟩ := y5; have o5 := (R_cellb HO5.out t HAT.out.1 HAT.out.2).1; rw [HRD.out] at o5) | ((with_reducible refine gate_store (t := 4) (p := 85) rfl ?_); refine store_event (t := 4) (p := 85) (v := ?vo_w6) (w1 := (W5.setCell ⟨g3, a1.toNat, none⟩ (.bool (rdOf false x a1)))) ?hg ?ho ?hn ?hr ?_; (case ho => rfl); (case hg => rfl); (case hn => rfl); (case hr => first | (go_simp; done) | (go_simp; rfl)); intro W6 hw; have HO6 : Aside0 (Kd.R Kd.bool 4 W6 w.heap.size (fun _ => True) (.slice (some ⟨gO, 0, none⟩) out.length cO) (out.set t.toNat (!(rdOf false x a1 == rdOf false (runL x l0_1) a1)))) := ⟨R_same HO5.out (by rw [hw]; exact Below.heap_setCell _ _ _ _ HNE2.out.symm)⟩; have HX6 : Aside0 (Kd.R Kd.bool 4 W6 w.heap.size (fun _ => True) (.slice (some ⟨g2, 0, none⟩) x.length c2) x) := ⟨R_same HX5.out (by rw [hw]; exact Below.heap_setCell _ _ _ _ HNE3.out)⟩; have HY6 : Aside0 (Kd.R Kd.bool 4 W6 w.heap.size (fun _ => True) (.slice (some ⟨g3, 0, none⟩) x.length c3) ((runL x l0_1).set a1.toNat (rdOf false x a1))) := ⟨by rw [hw]; exact R_putb HY5.out a1 (rdOf false x a1)⟩; have HB6 : Aside0 (Below w.heap.size w W6) := ⟨by rw [hw]; exact below_set HB5.out HG3.out⟩; have HBX6 : Aside0 (W6.heap[w.heap.size]? = some (.cells #[.int .i64 a0_0, .slice A0_1 l0_1.length c0_1] 25 (0, 0))) := ⟨by rw [hw]; exact (Below.heap_setCell _ _ _ _ HNE5.out).trans HBX5.out⟩; clear hw; have o6 := (R_cellb HO6.out t HAT.out.1 HAT.out.2).1; rw [HRD.out] at o6) | (go_at_call 57; have hC := slices_Equal_bool_bool.calls k1 (some ⟨g2, 0, none⟩) c2 x (some ⟨g3, 0, none⟩) c3 ((runL x l0_1).set a1.toNat (rdOf false x a1)) true W6 (Kd.R_reads' HX6.out).2.2 (Kd.R_reads' HX6.out).2.1 (Kd.R_reads' HY6.out).2.2 (by rw [HLY.out]; exact (Kd.R_reads' HY6.out).2.1) HQ.out; rw [HLY.out] at hC; refine hC.mono ?_; clear hC; rintro e w' ⟨rfl, ⟨nd, rfl⟩⟩))
                    go_roundg k1
                    case measure => have := HK1.out; omega
                    case rel =>
                      have hlen2 : ((out.set t.toNat (!(rdOf false x a1 == rdOf false (runL x l0_1) a1)))).length = out.length := by simp
                      have hgo : gO < W6.heap.size := World.block_lt_of_cell? W6 _ o6
                      have hie : i + 1 ≤ (M : Int) := by have := HCI.out; omega
                      have hi0 : 0 ≤ i + 1 := by have := HI.out.2.2.2.1; omega
                      have hm1 : i ≤ 8192 := by have := HCI.out; have := HM.out; omega
                      refine ⟨(out.set t.toNat (!(rdOf false x a1 == rdOf false (runL x l0_1) a1))), i + 1, ?_, H', ⟨by have := HK1.out; omega⟩, ⟨⟨by rw [hlen2]; first | exact HO6.out | exact Kd.R_drewN HO6.out _, by first | exact HB6.out | (apply pw_below_drewN; exact HB6.out), HBX6.out, hi0, by rw [hlen2]; exact HI.out.2.2.2.2.1, hie, hgo⟩⟩⟩
                      clear hlen2 hgo hie
                      rw [w64_small (by omega) (by omega)]
                  | false =>
                    rw [if_neg (by simp)] at H
                    obtain ⟨rfl, rfl⟩ := Prod.mk.inj (Option.some.inj H)
                    clear H
                    go_wp2_with (first | ((with_reducible refine gate_store (t := 4) (p := 78) rfl ?_); refine store_event (t := 4) (p := 78) (v := ?vo_w5) (w1 := (W4.setCell ⟨gO, t.toNat, none⟩ (.bool (!(rdOf false x a1 == rdOf false (runL x l0_1) a1))))) ?hg ?ho ?hn ?hr ?_; (case ho => rfl); (case hg => rfl); (case hn => rfl); (case hr => first | (go_simp; done) | (go_simp; rfl)); intro W5 hw; have HO5 : Aside0 (Kd.R Kd.bool 4 W5 w.heap.size (fun _ => True) (.slice (some ⟨gO, 0, none⟩) out.length cO) (out.set t.toNat (!(rdOf false x a1 == rdOf false (runL x l0_1) a1)))) := ⟨by rw [hw]; exact R_putb HO4.out t (!(rdOf false x a1 == rdOf false (runL x l0_1) a1))⟩; have HX5 : Aside0 (Kd.R Kd.bool 4 W5 w.heap.size (fun _ => True) (.slice (some ⟨g2, 0, none⟩) x.length c2) x) := ⟨R_same HX4.out (by rw [hw]; exact Below.heap_setCell _ _ _ _ HNE1.out)⟩; have HY5 : Aside0 (Kd.R Kd.bool 4 W5 w.heap.size (fun _ => True) (.slice (some ⟨g3, 0, none⟩) x.length c3) (runL x l0_1)) := ⟨R_same HY4.out (by rw [hw]; exact Below.heap_setCell _ _ _ _ HNE2.out)⟩; have HB5 : Aside0 (Below w.heap.size w W5) := ⟨by rw [hw]; exact below_set HB4.out HGO.out⟩; have HBX5 : Aside0 (W5.heap[w.heap.size]? = some (.cells #[.int .i64 a0_0, .slice A0_1 l0_1.length c0_1] 25 (0, 0))) := ⟨by rw [hw]; exact (Below.heap_setCell _ _ _ _ HNE4.out).trans HBX4.out⟩; clear hw; have x5 := (R_cellb HX5.out a1 HN.out.1 HXN.out).1; have y5 := R_cellb HY5.out a1 HN.out.1 HXN.out; obtain ⟨y5, y5f⟩ := y5; have o5 := (R_cellb HO5.out t HAT.out.1 HAT.out.2).1; rw [HRD.out] at o5) | ((with_reducible refine gate_store (t := 4) (p := 85) rfl ?_); refine store_event (t := 4) (p := 85) (v := ?vo_w6) (w1 := (W5.setCell ⟨g3, a1.toNat, none⟩ (.bool (rdOf false x a1)))) ?hg ?ho ?hn ?hr ?_; (case ho => rfl); (case hg => rfl); (case hn => rfl); (case hr => first | (go_simp; done) | (go_simp; rfl)); intro W6 hw; have HO6 : Aside0 (Kd.R Kd.bool 4 W6 w.heap.size (fun _ => True) (.slice (some ⟨gO, 0, none⟩) out.length cO) (out.set t.toNat (!(rdOf false x a1 == rdOf false (runL x l0_1) a1)))) := ⟨R_same HO5.out (by rw [hw]; exact Below.heap_setCell _ _ _ _ HNE2.out.symm)⟩; have HX6 : Aside0 (Kd.R Kd.bool 4 W6 w.heap.size (fun _ => True) (.slice (some ⟨g2, 0, none⟩) x.length c2) x) := ⟨R_same HX5.out (by rw [hw]; exact Below.heap_setCell _ _ _ _ HNE3.out)⟩; have HY6 : Aside0 (Kd.R Kd.bool 4 W6 w.heap.size (fun _ => True) (.slice (some ⟨g3, 0, none⟩) x.length c3) ((runL x l0_1).set a1.toNat (rdOf false x a1))) := ⟨by rw [hw]; exact R_putb HY5.out a1 (rdOf false x a1)⟩; have HB6 : Aside0 (Below w.heap.size w W6) := ⟨by rw [hw]; exact below_set HB5.out HG3.out⟩; have HBX6 : Aside0 (W6.heap[w.heap.size]? = some (.cells #[.int .i64 a0_0, .slice A0_1 l0_1.length c0_1] 25 (0, 0))) := ⟨by rw [hw]; exact (Below.heap_setCell _ _ _ _ HNE5.out).trans HBX5.out⟩; clear hw; have o6 := (R_cellb HO6.out t HAT.out.1 HAT.out.2).1; rw [HRD.out] at o6) | (go_at_call 57; have hC := slices_Equal_bool_bool.calls k1 (some ⟨g2, 0, none⟩) c2 x (some ⟨g3, 0, none⟩) c3 ((runL x l0_1).set a1.toNat (rdOf false x a1)) false W6 (Kd.R_reads' HX6.out).2.2 (Kd.R_reads' HX6.out).2.1 (Kd.R_reads' HY6.out).2.2 (by rw [HLY.out]; exact (Kd.R_reads' HY6.out).2.1) HQ.out; rw [HLY.out] at hC; refine hC.mono ?_; clear hC; rintro e w' ⟨rfl, ⟨nd, rfl⟩⟩))
                    refine bodyPost_ret (v := .tuple #[.slice none 0 0, .int .i64 6]) (by simp [results, Tryd.results23, go_sem]) rfl ?_
                    exact ⟨_, rfl, Kd.R_nil _ _ _ _ _, by first | exact HB6.out | (apply pw_below_drewN; exact HB6.out)⟩
                · rw [if_neg hs0] at H
                  have hsb : (sh == 0) = false := beq_eq_false_iff_ne.2 hs0
                  clear hs0
                  by_cases nb : (rdOf false out t != (!(rdOf false x a1 == rdOf false (runL x l0_1) a1))) = true
                  · rw [if_pos nb] at H
                    have nb2 : (!(rdOf false out t == (!(rdOf false x a1 == rdOf false (runL x l0_1) a1)))) = true := nb
                    obtain ⟨rfl, rfl⟩ := Prod.mk.inj (Option.some.inj H)
                    clear H
                    go_wp2_with (first | ((with_reducible refine gate_store (t := 4) (p := 85) rfl ?_); refine store_event (t := 4) (p := 85) (v := ?vo_w6) (w1 := (W4.setCell ⟨g3, a1.toNat, none⟩ (.bool (rdOf false x a1)))) ?hg ?ho ?hn ?hr ?_; (case ho => rfl); (case hg => rfl); (case hn => rfl); (case hr => first | (go_simp; done) | (go_simp; rfl)); intro W6 hw; have HO6 : Aside0 (Kd.R Kd.bool 4 W6 w.heap.size (fun _ => True) (.slice (some ⟨gO, 0, none⟩) out.length cO) out) := ⟨R_same HO4.out (by rw [hw]; exact Below.heap_setCell _ _ _ _ HNE2.out.symm)⟩; have HX6 : Aside0 (Kd.R Kd.bool 4 W6 w.heap.size (fun _ => True) (.slice (some ⟨g2, 0, none⟩) x.length c2) x) := ⟨R_same HX4.out (by rw [hw]; exact Below.heap_setCell _ _ _ _ HNE3.out)⟩; have HY6 : Aside0 (Kd.R Kd.bool 4 W6 w.heap.size (fun _ => True) (.slice (some ⟨g3, 0, none⟩) x.length c3) ((runL x l0_1).set a1.toNat (rdOf false x a1))) := ⟨by rw [hw]; exact R_putb HY4.out a1 (rdOf false x a1)⟩; have HB6 : Aside0 (Below w.heap.size w W6) := ⟨by rw [hw]; exact below_set HB4.out HG3.out⟩; have HBX6 : Aside0 (W6.heap[w.heap.size]? = some (.cells #[.int .i64 a0_0, .slice A0_1 l0_1.length c0_1] 25 (0, 0))) := ⟨by rw [hw]; exact (Below.heap_setCell _ _ _ _ HNE5.out).trans HBX4.out⟩; clear hw; have o6 := (R_cellb HO6.out t HAT.out.1 HAT.out.2).1; skip))
                    refine bodyPost_ret (v := .tuple #[.slice none 0 0, .int .i64 6]) (by simp [results, Tryd.results23, go_sem]) rfl ?_
                    exact ⟨_, rfl, Kd.R_nil _ _ _ _ _, by first | exact HB6.out | (apply pw_below_drewN; exact HB6.out)⟩
                  · rw [if_neg nb] at H
                    replace nb := Bool.eq_false_iff.2 nb
                    have nb2 : (!(rdOf false out t == (!(rdOf false x a1 == rdOf false (runL x l0_1) a1)))) = false := nb
                    obtain ⟨q, hq, H⟩ := Option.bind_eq_some_iff.mp H
                    have HQ := Aside0.mk hq
                    clear hq
                    cases q with
                    | true =>
                      rw [if_pos rfl] at H
                      have H' := Aside0.mk H
                      clear H
                      go_wp2_with (first | ((with_reducible refine gate_store (t := 4) (p := 85) rfl ?_); refine store_event (t := 4) (p := 85) (v := ?vo_w6) (w1 := (W4.setCell ⟨g3, a1.toNat, none⟩ (.bool (rdOf false x a1)))) ?hg ?ho ?hn ?hr ?_; (case ho => rfl); (case hg => rfl); (case hn => rfl); (case hr => first | (go_simp; done) | (go_simp; rfl)); intro W6 hw; have HO6 : Aside0 (Kd.R Kd.bool 4 W6 w.heap.size (fun _ => True) (.slice (some ⟨gO, 0, none⟩) out.length cO) out) := ⟨R_same HO4.out (by rw [hw]; exact Below.heap_setCell _ _ _ _ HNE2.out.symm)⟩; have HX6 : Aside0 (Kd.R Kd.bool 4 W6 w.heap.size (fun _ => True) (.slice (some ⟨g2, 0, none⟩) x.length c2) x) := ⟨R_same HX4.out (by rw [hw]; exact Below.heap_setCell _ _ _ _ HNE3.out)⟩; have HY6 : Aside0 (Kd.R Kd.bool 4 W6 w.heap.size (fun _ => True) (.slice (some ⟨g3, 0, none⟩) x.length c3) ((runL x l0_1).set a1.toNat (rdOf false x a1))) := ⟨by rw [hw]; exact R_putb HY4.out a1 (rdOf false x a1)⟩; have HB6 : Aside0 (Below w.heap.size w W6) := ⟨by rw [hw]; exact below_set HB4.out HG3.out⟩; have HBX6 : Aside0 (W6.heap[w.heap.size]? = some (.cells #[.int .i64 a0_0, .slice A0_1 l0_1.length c0_1] 25 (0, 0))) := ⟨by rw [hw]; exact (Below.heap_setCell _ _ _ _ HNE5.out).trans HBX4.out⟩; clear hw; have o6 := (R_cellb HO6.out t HAT.out.1 HAT.out.2).1; skip) | (go_at_call 57; have hC := slices_Equal_bool_bool.calls k1 (some ⟨g2, 0, none⟩) c2 x (some ⟨g3, 0, none⟩) c3 ((runL x l0_1).set a1.toNat (rdOf false x a1)) true W6 (Kd.R_reads' HX6.out).2.2 (Kd.R_reads' HX6.out).2.1 (Kd.R_reads' HY6.out).2.2 (by rw [HLY.out]; exact (Kd.R_reads' HY6.out).2.1) HQ.out; rw [HLY.out] at hC; refine hC.mono ?_; clear hC; rintro e w' ⟨rfl, ⟨nd, rfl⟩⟩))
                      go_roundg k1
                      case measure => have := HK1.out; omega
                      case rel =>
                        have hlen2 : (out).length = out.length := by simp
                        have hgo : gO < W6.heap.size := World.block_lt_of_cell? W6 _ o6
                        have hie : i + 1 ≤ (M : Int) := by have := HCI.out; omega
                        have hi0 : 0 ≤ i + 1 := by have := HI.out.2.2.2.1; omega
                        have hm1 : i ≤ 8192 := by have := HCI.out; have := HM.out; omega
                        refine ⟨out, i + 1, ?_, H', ⟨by have := HK1.out; omega⟩, ⟨⟨by rw [hlen2]; first | exact HO6.out | exact Kd.R_drewN HO6.out _, by first | exact HB6.out | (apply pw_below_drewN; exact HB6.out), HBX6.out, hi0, by rw [hlen2]; exact HI.out.2.2.2.2.1, hie, hgo⟩⟩⟩
                        clear hlen2 hgo hie
                        rw [w64_small (by omega) (by omega)]
                    | false =>
                      rw [if_neg (by simp)] at H
                      obtain ⟨rfl, rfl⟩ := Prod.mk.inj (Option.some.inj H)
                      clear H
                      go_wp2_with (first | ((with_reducible refine gate_store (t := 4) (p := 85) rfl ?_); refine store_event (t := 4) (p := 85) (v := ?vo_w6) (w1 := (W4.setCell ⟨g3, a1.toNat, none⟩ (.bool (rdOf false x a1)))) ?hg ?ho ?hn ?hr ?_; (case ho => rfl); (case hg => rfl); (case hn => rfl); (case hr => first | (go_simp; done) | (go_simp; rfl)); intro W6 hw; have HO6 : Aside0 (Kd.R Kd.bool 4 W6 w.heap.size (fun _ => True) (.slice (some ⟨gO, 0, none⟩) out.length cO) out) := ⟨R_same HO4.out (by rw [hw]; exact Below.heap_setCell _ _ _ _ HNE2.out.symm)⟩; have HX6 : Aside0 (Kd.R Kd.bool 4 W6 w.heap.size (fun _ => True) (.slice (some ⟨g2, 0, none⟩) x.length c2) x) := ⟨R_same HX4.out (by rw [hw]; exact Below.heap_setCell _ _ _ _ HNE3.out)⟩; have HY6 : Aside0 (Kd.R Kd.bool 4 W6 w.heap.size (fun _ => True) (.slice (some ⟨g3, 0, none⟩) x.length c3) ((runL x l0_1).set a1.toNat (rdOf false x a1))) := ⟨by rw [hw]; exact R_putb HY4.out a1 (rdOf false x a1)⟩; have HB6 : Aside0 (Below w.heap.size w W6) := ⟨by rw [hw]; exact below_set HB4.out HG3.out⟩; have HBX6 : Aside0 (W6.heap[w.heap.size]? = some (.cells #[.int .i64 a0_0, .slice A0_1 l0_1.length c0_1] 25 (0, 0))) := ⟨by rw [hw]; exact (Below.heap_setCell _ _ _ _ HNE5.out).trans HBX4.out⟩; clear hw; have o6 := (R_cellb HO6.out t HAT.out.1 HAT.out.2).1; skip) | (go_at_call 57; have hC := slices_Equal_bool_bool.calls k1 (some ⟨g2, 0, none⟩) c2 x (some ⟨g3, 0, none⟩) c3 ((runL x l0_1).set a1.toNat (rdOf false x a1)) false W6 (Kd.R_reads' HX6.out).2.2 (Kd.R_reads' HX6.out).2.1 (Kd.R_reads' HY6.out).2.2 (by rw [HLY.out]; exact (Kd.R_reads' HY6.out).2.1) HQ.out; rw [HLY.out] at hC; refine hC.mono ?_; clear hC; rintro e w' ⟨rfl, ⟨nd, rfl⟩⟩))
                      refine bodyPost_ret (v := .tuple #[.slice none 0 0, .int .i64 6]) (by simp [results, Tryd.results23, go_sem]) rfl ?_
                      exact ⟨_, rfl, Kd.R_nil _ _ _ _ _, by first | exact HB6.out | (apply pw_below_drewN; exact HB6.out)⟩
              · rw [if_neg ci] at H
                have cib : decide (i < (M : Int)) = false := decide_eq_false ci
                obtain ⟨rfl, rfl⟩ := Prod.mk.inj (Option.some.inj H)
                clear H ci
                go_wp2
                refine bodyPost_ret (v := .tuple #[.slice (some ⟨gO, 0, none⟩) N cO, .int .i64 0]) (by simp [results, Tryd.results23, go_sem]) rfl ?_
                exact ⟨_, rfl, by have := HI.out.1; rw [HI.out.2.2.2.2.1] at this; exact this, HI.out.2.1⟩

        · rw [if_neg (by omega)] at h
          obtain ⟨rfl, rfl⟩ := Prod.mk.inj (Option.some.inj h)
          have d4 : decide (16777216 < X) = true := decide_eq_true (by omega)
          have wX := WX.out
          have wM := WM.out
          have wN := WN.out
          clear hs h
          go_enter Tryd.func23, Tryd.ntmps23
          go_wp2_with (go_at_call 28; refine (undo_Valid.calls a0_0 A0_1 c0_1 l0_1 true _ (Kd.C_alloc HC.out _) HL.out hvf).mono ?_; rintro e w2 ⟨rfl, hb⟩; have HB2 := Aside0.mk (below_step (by repeat (first | exact HB.out | apply below_alloc) : Below w.heap.size w _) hb); have hz0 := pw_cell_below hb (box25 w a0_0 A0_1 l0_1.length c0_1).1; have hz1 := pw_cell_below hb (box25 w a0_0 A0_1 l0_1.length c0_1).2; have HBX2 := Aside0.mk ((hb.block w.heap.size (by simp)).trans (box_heap w (.cells #[.int .i64 a0_0, .slice A0_1 l0_1.length c0_1] 25 (0, 0)))); clear hb)
          all_goals first
            | (refine bodyPost_ret (v := .tuple #[.slice none 0 0, .int .i64 5]) (by simp [results, Tryd.results23, go_sem]) rfl ?_
               exact ⟨_, rfl, Kd.R_nil _ _ _ _ _, HB2.out⟩)
      · rw [if_neg (by omega)] at h
        obtain ⟨rfl, rfl⟩ := Prod.mk.inj (Option.some.inj h)
        have d3 : decide (12 < a1) = true := decide_eq_true (by omega)
        clear h12 h
        go_enter Tryd.func23, Tryd.ntmps23
        go_wp2_with (go_at_call 28; refine (undo_Valid.calls a0_0 A0_1 c0_1 l0_1 true _ (Kd.C_alloc HC.out _) HL.out hvf).mono ?_; rintro e w2 ⟨rfl, hb⟩; have HB2 := Aside0.mk (below_step (by repeat (first | exact HB.out | apply below_alloc) : Below w.heap.size w _) hb); have hz0 := pw_cell_below hb (box25 w a0_0 A0_1 l0_1.length c0_1).1; have hz1 := pw_cell_below hb (box25 w a0_0 A0_1 l0_1.length c0_1).2; have HBX2 := Aside0.mk ((hb.block w.heap.size (by simp)).trans (box_heap w (.cells #[.int .i64 a0_0, .slice A0_1 l0_1.length c0_1] 25 (0, 0)))); clear hb)
        all_goals first
          | (refine bodyPost_ret (v := .tuple #[.slice none 0 0, .int .i64 5]) (by simp [results, Tryd.results23, go_sem]) rfl ?_
             exact ⟨_, rfl, Kd.R_nil _ _ _ _ _, HB2.out⟩)
    · rw [if_neg hn] at h
      obtain ⟨rfl, rfl⟩ := Prod.mk.inj (Option.some.inj h)
      by_cases h0 : 0 ≤ a1
      · have d1 : decide (a1 < 0) = false := decide_eq_false (by omega)
        have d2 : decide (a0_0 ≤ a1) = true := decide_eq_true (by omega)
        clear hn h0
        go_enter Tryd.func23, Tryd.ntmps23
        go_wp2_with (go_at_call 28; refine (undo_Valid.calls a0_0 A0_1 c0_1 l0_1 true _ (Kd.C_alloc HC.out _) HL.out hvf).mono ?_; rintro e w2 ⟨rfl, hb⟩; have HB2 := Aside0.mk (below_step (by repeat (first | exact HB.out | apply below_alloc) : Below w.heap.size w _) hb); have hz0 := pw_cell_below hb (box25 w a0_0 A0_1 l0_1.length c0_1).1; have hz1 := pw_cell_below hb (box25 w a0_0 A0_1 l0_1.length c0_1).2; have HBX2 := Aside0.mk ((hb.block w.heap.size (by simp)).trans (box_heap w (.cells #[.int .i64 a0_0, .slice A0_1 l0_1.length c0_1] 25 (0, 0)))); clear hb)
        refine bodyPost_ret (v := .tuple #[.slice none 0 0, .int .i64 2]) (by simp [results, Tryd.results23, go_sem]) rfl ?_
        exact ⟨_, rfl, Kd.R_nil _ _ _ _ _, HB2.out⟩
      · have d1 : decide (a1 < 0) = true := decide_eq_true (by omega)
        clear hn h0
        go_enter Tryd.func23, Tryd.ntmps23
        go_wp2_with (go_at_call 28; refine (undo_Valid.calls a0_0 A0_1 c0_1 l0_1 true _ (Kd.C_alloc HC.out _) HL.out hvf).mono ?_; rintro e w2 ⟨rfl, hb⟩; have HB2 := Aside0.mk (below_step (by repeat (first | exact HB.out | apply below_alloc) : Below w.heap.size w _) hb); have hz0 := pw_cell_below hb (box25 w a0_0 A0_1 l0_1.length c0_1).1; have hz1 := pw_cell_below hb (box25 w a0_0 A0_1 l0_1.length c0_1).2; have HBX2 := Aside0.mk ((hb.block w.heap.size (by simp)).trans (box_heap w (.cells #[.int .i64 a0_0, .slice A0_1 l0_1.length c0_1] 25 (0, 0)))); clear hb)
        refine bodyPost_ret (v := .tuple #[.slice none 0 0, .int .i64 2]) (by simp [results, Tryd.results23, go_sem]) rfl ?_
        exact ⟨_, rfl, Kd.R_nil _ _ _ _ _, HB2.out⟩
end Go.Proofs.YthfhnkpipdbekaaDoor.Giv
