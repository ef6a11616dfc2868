-- CUT by a program of this session: what the claim does not use is left out
import Derived.Test.YtjfhogholmabfaaPax12
import Derived.Test.YtjfhogholmabfaaPureA
import Derived.Test.YtjfhogholmabfaaV8
import Derived.Deep.CutBlock
namespace Go.Proofs.Ytjfhogholmabfaa.Giv
set_option linter.unusedVariables false
set_option linter.unusedSimpArgs false
open Go.RowKit Go.Proofs.YtjfhogholmabfaaW.PrintWords Go.Proofs.YtjfhogholmabfaaW.PrintLast Go.Proofs.YtjfhogholmabfaaW.PrintMore
open Go.Proofs.Ytjfhogholmabfaa.Pure (Ev1 EvC EvS w64)
open Go.Proofs.Ytjfhogholmabfaa.Pa (commodatumlaw01_SpoilInts.f commodatumlaw01_SpoilInts.l0 commodatumlaw01_SpoilInts.calls commodatumlaw01_Spoil.f commodatumlaw01_Spoil.calls)

def Mine (w : World) (lo hi : Nat) (v : Value) (xs : List Int) : Prop := Kd.R (Kd.int .i64) 3 w lo (fun k => lo ≤ k ∧ k < hi) v xs
theorem Mine.move {w w1 : World} {lo hi : Nat} {v : Value} {xs : List Int} (h : Mine w lo hi v xs) (hm : ∀ k, lo ≤ k → k < hi → w1.heap[k]? = w.heap[k]?) : Mine w1 lo hi v xs := Kd.R_move h (fun k hk => hm k hk.1 hk.2)
theorem Mine.of {w w1 : World} {ok : Nat → Prop} {v : Value} {xs : List Int} (h : Kd.R (Kd.int .i64) 3 w1 w.heap.size ok v xs) : Mine w1 w.heap.size w1.heap.size v xs :=
  Kd.R_mono (Kd.R_bound h) (fun k hk => ⟨hk.2.1, hk.2.2.1⟩)
theorem Mine.reads {w : World} {lo hi : Nat} {v : Value} {xs : List Int} (h : Mine w lo hi v xs) : ∃ A c, v = .slice A xs.length c ∧ xs.length ≤ c ∧ Kd.C (Kd.int .i64) w A xs.length xs := Kd.R_reads h

def ListsAt (w0 w : World) (ok : Nat → Prop) (f : Nat → Nat) (g : Nat) (xs : List (List Int)) (c : Nat → Value) (k : Nat) (wr : World) : Prop :=
  Below w0.heap.size w0 wr ∧ Kept w wr ok ∧ ∀ j, k ≤ j → j < xs.length → wr.cell? ⟨g, j, none⟩ = some (c j) ∧ wr.frozen? ⟨g, j, none⟩ = false ∧
    Kd.R (Kd.int .i64) 3 wr w0.heap.size (fun b => (ok b ∧ b ≠ g) ∧ f b = j) (c j) (xs.getD j [])
theorem frozen_kept {W W2 : World} {S : Nat → Prop} {a : Addr} {u : Value} (hf : W.frozen? a = false) (hc : W.cell? a = some u) (hk : Kept W W2 S) (hne : ¬ S a.block) : W2.frozen? a = false := by
  have h1 := hk.2 a.block (World.block_lt_of_cell? W a hc) hne
  simpa [World.frozen?, h1] using hf
theorem ListsAt.step {w0 w wr w1 : World} {ok : Nat → Prop} {f : Nat → Nat} {g : Nat} {xs : List (List Int)} {c : Nat → Value} {k : Nat} (h : ListsAt w0 w ok f g xs c k wr)
    (hb : Below w0.heap.size w0 w1) (hk : Kept wr w1 (fun b => (ok b ∧ b ≠ g) ∧ f b = k)) (hg : ok g) (hgs : w0.heap.size ≤ g) : ListsAt w0 w ok f g xs c (k + 1) w1 := by
  refine ⟨hb, h.2.1.then_ hk (fun b hb => .inl hb.1.1), fun j hj hl => ?_⟩
  obtain ⟨h1, h2, h3⟩ := h.2.2 j (by omega) hl
  have hne : ¬ ((ok g ∧ g ≠ g) ∧ f g = k) := fun h => h.1.2 rfl
  have hbk : w1.heap[g]? = wr.heap[g]? := hk.2 g (World.block_lt_of_cell? wr ⟨g, j, none⟩ h1) hne
  refine ⟨Go.Proofs.YtjfhogholmabfaaW.PrintWords.cell_kept h1 hk hne, ?_, Kd.R_kept h3 hk (fun b hb hb2 => by have := hb.2; have := hb2.2; omega)⟩
  simpa [World.frozen?, hbk] using h2
theorem ListsAt.set {w0 w wr : World} {ok : Nat → Prop} {f : Nat → Nat} {g : Nat} {xs : List (List Int)} {c : Nat → Value} {k i : Nat} (h : ListsAt w0 w ok f g xs c k wr) (hi : i < k) (hg : ok g) (hgs : w0.heap.size ≤ g) (u : Value) : ListsAt w0 w ok f g xs c k (wr.setCell ⟨g, i, none⟩ u) := by
  refine ⟨h.1.setCell (p := ⟨g, i, none⟩) hgs u, h.2.1.setCell (p := ⟨g, i, none⟩) (.inl hg) u, fun j hj hl => ?_⟩
  obtain ⟨h1, h2, h3⟩ := h.2.2 j hj hl
  refine ⟨?_, ?_, Kd.R_far h3 (fun b hb => hb.1.2) u⟩
  · rw [World.cell?_setCell_other]
    · exact h1
    · intro e; injection e with _ e; omega
  · simpa using h2
theorem spoilInts_l0 : ∀ d (x : List Int) (i : Nat), i + d = x.length → x.length < 100000000 → Ev (fun k => commodatumlaw01_SpoilInts.l0 k x i) ()
  | 0, x, i, h, hn => by
    refine EvS (fun k => ?_)
    simp only [commodatumlaw01_SpoilInts.l0]
    rw [if_neg (by omega), if_pos (by omega), if_pos (by simp)]
  | d + 1, x, i, h, hn => by
    have ih := spoilInts_l0 d (x.set i (-7)) (i + 1) (by simp; omega) (by simpa using hn)
    refine Ev1 ih (fun k => ?_)
    simp only [commodatumlaw01_SpoilInts.l0]
    rw [if_pos (by omega), if_pos (by omega), w64 i (by omega), Int.toNat_natCast]
theorem spoilInts (x : List Int) (hn : x.length < 100000000) : Ev (fun k => commodatumlaw01_SpoilInts.f k x) () := by
  unfold commodatumlaw01_SpoilInts.f; exact spoilInts_l0 x.length x 0 (by omega) hn
theorem spoil (x : List Int) (hn : x.length < 100000000) : Ev (fun k => commodatumlaw01_Spoil.f k x) () := by
  have := spoilInts x hn
  unfold commodatumlaw01_Spoil.f
  exact Ev.bind this (Ev.now _)
theorem spoilLists_loop (w0 w : World) (ok : Nat → Prop) (f : Nat → Nat) (A : Option Addr) (g cap : Nat) (xs : List (List Int)) (c : Nat → Value) (hA : 0 < xs.length → A = some ⟨g, 0, none⟩ ∧ ok g ∧ w0.heap.size ≤ g) (hL : ListsAt w0 w ok f g xs c 0 w) (hn : xs.length ≤ 1000000) (K : Nat) (hx : ∀ x ∈ xs, commodatumlaw01_SpoilInts.f K x = some ()) :
    Calls Try.prog 48 #[.slice A xs.length cap] w fun e w' => e = .returned (.tuple #[]) ∧ Below w0.heap.size w0 w' ∧ Kept w w' ok := by
  have HL := Aside0.mk hL
  have HA := Aside0.mk hA
  have HX := Aside0.mk hx
  have HN := Aside0.mk hn
  clear hL hA hx hn
  go_enter Try.func48, Try.ntmps48
  go_wp2
  go_loopg [2] xs.length (fun gg s2 wr => ∃ i : Nat, s2 = .int .i64 i ∧ Aside0 ((xs.length : Int) - i = gg) ∧ Aside0 (ListsAt w0 w ok f g xs c i wr))
  case atStart => exact ⟨0, rfl, ⟨by omega⟩, HL⟩
  case round =>
    obtain ⟨i, rfl, HG, HI⟩ := hrel
    clear HL
    by_cases cl : i < xs.length
    · have clb : decide (i < xs.length) = true := decide_eq_true cl
      have clb2 : decide ((i : Int) < (xs.length : Int)) = true := decide_eq_true (by omega)
      obtain ⟨hA, hok, hgs⟩ := HA.out (by omega)
      subst hA
      have HOK := Aside0.mk hok
      have HGS := Aside0.mk hgs
      obtain ⟨h1, h2, h3⟩ := HI.out.2.2 i (Nat.le_refl _) cl
      obtain ⟨u, hu⟩ : ∃ u, c i = u := ⟨_, rfl⟩
      rw [hu] at h1 h3
      have H3 := Aside0.mk h3
      have p1 : (i : Int) < (xs.length : Int) := by omega
      have p2 : (xs.length : Int) ≤ 1000000 := by have := HN.out; omega
      have HS := HX.out (xs.getD i []) (by rw [List.getD_eq_getElem?_getD, List.getElem?_eq_getElem cl]; exact List.getElem_mem _)
      have HSP := Aside0.mk HS
      clear HS h3 hok hgs hu
      go_wp2_with (go_at_call 59; refine (commodatumlaw01_SpoilInts.calls K _ u (xs.getD i []) w0 _ HI.out.1 H3.out HSP.out).mono ?_; rintro e w1 ⟨rfl, hb, hk⟩; have q1 := Go.Proofs.YtjfhogholmabfaaW.PrintWords.cell_kept h1 hk (fun h => h.1.2 rfl); have q2 := frozen_kept h2 h1 hk (fun h => h.1.2 rfl); have HB1 := Aside0.mk hb; have HK1 := Aside0.mk hk; clear hb hk)
      go_roundg (xs.length - (i + 1))
      case measure => have := HG.out; omega
      case rel => exact ⟨i + 1, rfl, ⟨by omega⟩, ⟨(HI.out.step HB1.out HK1.out HOK.out HGS.out).set (by omega) HOK.out HGS.out _⟩⟩
    · have clb : decide (i < xs.length) = false := decide_eq_false cl
      have clb2 : decide ((i : Int) < (xs.length : Int)) = false := decide_eq_false (by omega)
      go_wp2
      go_end0
      exact ⟨rfl, HI.out.1, HI.out.2.1⟩
theorem spoilLists_walk (w0 w : World) (ok : Nat → Prop) (v : Value) (xs : List (List Int)) (hB : Below w0.heap.size w0 w) (hS : Kd.S (Kd.slice 3 (Kd.int .i64)) 22 w w0.heap.size ok v xs) (hn : xs.length ≤ 1000000) (K : Nat) (hx : ∀ x ∈ xs, commodatumlaw01_SpoilInts.f K x = some ()) :
    Calls Try.prog 48 #[v] w fun e w' => e = .returned (.tuple #[]) ∧ Below w0.heap.size w0 w' ∧ Kept w w' ok := by
  obtain ⟨f, h0, inner, ho, hr⟩ := hS
  obtain ⟨hil, ho⟩ := ho
  have hsz : (Kd.tag f (Kd.slice 3 (Kd.int .i64))).sz = 1 := rfl
  rw [List.length_zipIdx, hsz, Nat.mul_one] at hil
  rw [List.length_zipIdx] at ho
  rcases ho with ⟨rfl, hx0⟩ | ⟨g, cap, cur, rfl, hg, hblk, hcap, hmax, hcs, htk⟩
  · have : xs = [] := List.eq_nil_of_length_eq_zero hx0
    subst this
    exact spoilLists_loop w0 w ok f none 0 0 [] (fun _ => undef) (fun h => absurd h (by simp)) ⟨hB, Kept.refl _ _, fun j _ h => absurd h (by simp)⟩ hn K hx
  · have hok : ok g := h0 g rfl
    rw [hsz, Nat.mul_one] at hcs htk
    refine spoilLists_loop w0 w ok f (some ⟨g, 0, none⟩) g cap xs (fun j => inner.getD j undef) (fun _ => ⟨rfl, hok, hg⟩) ⟨hB, Kept.refl _ _, fun j _ hj => ?_⟩ hn K hx
    have hjl : j < inner.length := by omega
    have hcur : cur[j]? = some (inner.getD j undef) := by
      have h1 : j < cur.toList.length := by simp; omega
      rw [← htk, List.getD_eq_getElem?_getD, List.getElem?_take, if_pos hj, ← Array.getElem?_toList, List.getElem?_eq_getElem h1]
      rfl
    refine ⟨by simp [World.cell?, hblk, hcur], by simp [World.frozen?, hblk], ?_⟩
    have hM := hr.2 j (xs.getD j [], j) (by rw [List.getElem?_zipIdx, List.getD_eq_getElem?_getD, List.getElem?_eq_getElem hj]; simp)
    obtain ⟨u, hu, hR⟩ := hM
    rw [hsz] at hu
    have hu2 : inner.getD j undef = u := by
      rw [List.getD_eq_getElem?_getD, List.getElem?_eq_getElem hjl]
      rw [Nat.mul_one, List.drop_eq_getElem_cons hjl, List.take_succ_cons, List.take_zero] at hu
      injection hu with hu _
    show Kd.R (Kd.int .i64) 3 w w0.heap.size _ (inner.getD j undef) _
    rw [hu2]
    exact Kd.R_mono hR (fun b hb => ⟨⟨hb.1.1, fun e => hb.1.2 (by rw [e]; rfl)⟩, hb.2⟩)
end Go.Proofs.Ytjfhogholmabfaa.Giv
