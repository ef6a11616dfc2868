-- CUT by a program of this session: what the claim does not use is left out
import Derived.Test.YtjfhogholmabfaaDoorV2
import Derived.Test.YtjfhogholmabfaaDoorTh
namespace Go.Proofs.YtjfhogholmabfaaDoor.Giv
set_option linter.unusedVariables false
set_option linter.unusedSimpArgs false
open Go.RowKit Go.Proofs.YtjfhogholmabfaaDoorW.PrintWords Go.Proofs.YtjfhogholmabfaaDoorW.PrintLast Go.Proofs.YtjfhogholmabfaaDoorW.PrintMore
open Go.Proofs.YtjfhogholmabfaaDoor.Pb (perm_identity.calls perm_factorial.calls perm_identity.f perm_factorial.f)

def perm_unrank.f (a0 a1 : Int) : Option (List Int) :=
  if 1 ≤ a0 ∧ a0 ≤ 7 ∧ 0 ≤ a1 ∧ a1 < fact a0.toNat then some (unr a0.toNat a1.toNat (idn a0.toNat)) else none

theorem fact_f (n : Nat) (h : n ≤ 7) : Pb.perm_factorial.f 9 n = some (fact n : Int) := by
  have : n = 0 ∨ n = 1 ∨ n = 2 ∨ n = 3 ∨ n = 4 ∨ n = 5 ∨ n = 6 ∨ n = 7 := by omega
  rcases this with rfl | rfl | rfl | rfl | rfl | rfl | rfl | rfl <;> decide +kernel
theorem identity_f (n : Nat) (h : n ≤ 7) : Pb.perm_identity.f 9 n = some (idn n) := by
  have : n = 0 ∨ n = 1 ∨ n = 2 ∨ n = 3 ∨ n = 4 ∨ n = 5 ∨ n = 6 ∨ n = 7 := by omega
  rcases this with rfl | rfl | rfl | rfl | rfl | rfl | rfl | rfl <;> decide +kernel

theorem cap_le {α : Type} {d : Kd α} {e n c base : Nat} {w : World} {ok : Nat → Prop} {A : Option Addr} {xs : List α} (h : Kd.R d e w base ok (.slice A n c) xs) : c ≤ 9223372036854775807 := by
  obtain ⟨inner, ho⟩ := Kd.R_own h
  rcases ho.2 with ⟨h1, _⟩ | ⟨g, cap, cur, h1, _, _, _, h2, _⟩
  · injection h1 with _ _ h3; omega
  · injection h1 with _ _ h3; rw [h3]; exact h2
set_option maxHeartbeats 1000000 in
set_option maxRecDepth 100000 in
theorem unrank_walk (n : Nat) (r0 : Nat) (w : World) (hn1 : Aside0 (1 ≤ n)) (hn7 : Aside0 (n ≤ 7)) (hr0 : Aside0 (r0 < fact n)) :
    Calls Tryd.prog 33 #[.int .i64 n, .int .i64 r0] w fun e w' => ∃ v0_ : Value, e = .returned (v0_) ∧ Kd.R (Kd.int .i64) 3 w' w.heap.size (fun _ => True) v0_ (unr n r0 (idn n)) ∧ Below w.heap.size w w' := by
  have HB0 := Aside0.mk (Below.refl w.heap.size w)
  have HI := Aside0.mk (identity_f n hn7.out)
  go_enter Tryd.func33, Tryd.ntmps33
  go_wp2_with (go_at_call 25; refine (perm_identity.calls 9 n (idn n) _ HI.out).mono ?_; rintro e w1 ⟨v5, rfl, HL, HB⟩)
  obtain ⟨g, c5, rfl, hg1, hg2, cl, hgc⟩ := Kd.R_form HL (by simp [idn]; exact hn1.out)
  have HG1 := Aside0.mk hg1
  have hlen : (idn n).length = n := by simp [idn]
  rw [hlen] at HL
  have HLL := Aside0.mk HL
  clear hg1 hg2 hgc HL hlen
  have HBB := Aside0.mk HB
  have hc5 : Aside0 (c5 ≤ 9223372036854775807) := ⟨cap_le HLL.out⟩
  clear HB
  go_loopg [1, 5, 6] n (fun kq v1 v5 v6 w' => ∃ (rk : Nat) (xs ys : List Int), v1 = .int .i64 rk ∧ v5 = .slice (some ⟨g, 0, none⟩) xs.length c5 ∧ Aside0 (xs.length = kq ∧ kq ≤ n) ∧ Aside0 (ys.length + xs.length = n) ∧ Aside0 (rk < fact xs.length) ∧ Aside0 (ys ++ unr xs.length rk xs = unr n r0 (idn n)) ∧ Aside0 (Kd.R (Kd.int .i64) 3 w' w.heap.size (fun k => k = g) (.slice (some ⟨g, 0, none⟩) xs.length c5) xs) ∧ Aside0 (Kd.R (Kd.int .i64) 3 w' w.heap.size (fun k => k ≠ g) v6 ys) ∧ Aside0 (Below w.heap.size w w') ∧ Aside0 (g < w'.heap.size))
  case atStart => exact ⟨r0, idn n, [], rfl, by simp [idn], ⟨by simp [idn], Nat.le_refl _⟩, ⟨by simp [idn]⟩, ⟨by simp [idn]; exact hr0.out⟩, ⟨by simp [idn]⟩, ⟨by rw [show (idn n).length = n by simp [idn]]; exact ⟨fun k hk => by simpa [Value.ownBlock] using hk.symm, HLL.out.2⟩⟩, ⟨Kd.R_nil _ _ _ _ _⟩, HBB, ⟨Kd.R_lt HLL.out g (by simp [Value.ownBlock])⟩⟩
  case round =>
    obtain ⟨rk, xs, ys, rfl, rfl, HK, HN, HRK, HE, HX, HY, HB, HGS⟩ := hrel
    cases xs with
    | nil =>
      go_wp2
      go_ret
      exact ⟨_, rfl, by have := HE.out; simp [unr] at this; rw [← this]; exact Kd.R_mono HY.out (fun _ _ => trivial), HB.out⟩
    | cons x0 xs0 =>
      obtain ⟨xs, hxs⟩ : ∃ xs, xs = x0 :: xs0 := ⟨_, rfl⟩
      rw [← hxs] at HK HN HRK HE HX ⊢
      have hpos : 0 < xs.length := by rw [hxs]; simp
      clear hxs
      obtain ⟨m, hm⟩ : ∃ m, xs.length = m + 1 := ⟨xs.length - 1, by omega⟩
      have c1 : decide ((0 : Int) < (xs.length : Int)) = true := decide_eq_true (by omega)
      have HM := Aside0.mk hm
      clear hm hpos
      have hm7 : (xs.length : Int) ≤ 7 := by have := hn7.out; have := HK.out; omega
      have HF : Aside0 (Pb.perm_factorial.f 9 ((xs.length : Int) - 1) = some (fact m : Int)) := ⟨by rw [show (xs.length : Int) - 1 = (m : Int) by have := HM.out; omega]; exact fact_f m (by have := HM.out; omega)⟩
      obtain ⟨f, hf⟩ : ∃ f, f = fact m := ⟨_, rfl⟩
      have hf1 : 1 ≤ f := by rw [hf]; exact fact_pos m
      have hrk : rk < xs.length * f := by have := HRK.out; rw [HM.out] at this; rw [HM.out, hf]; exact this
      have hq : rk / f < xs.length := (Nat.div_lt_iff_lt_mul hf1).2 hrk
      rw [← hf] at HF
      have HFM := Aside0.mk hf
      have hF1 : (1 : Int) ≤ (f : Int) := by omega
      have hF2 : (f : Int) ≤ 5040 := by have := fact_le m (by have := HM.out; omega); omega
      have HRL : rk < 100000 := by
        have h7 : xs.length * f ≤ 7 * 5040 := Nat.mul_le_mul (by omega) (by omega)
        omega
      obtain ⟨q, hqq⟩ : ∃ q, q = rk / f := ⟨_, rfl⟩
      have hw : wrap64 ((rk : Int) / (f : Int)) = (q : Int) := by
        have h1 : rk / f ≤ rk := Nat.div_le_self _ _
        rw [← Int.natCast_ediv, ← hqq]; rw [← hqq] at h1; unfold wrap64; omega
      rw [← hqq] at hq
      obtain ⟨s, hss⟩ : ∃ s, s = rk % f := ⟨_, rfl⟩
      have hmod : (rk : Int) % (f : Int) = (s : Int) := by rw [hss]; simp
      have HSS := Aside0.mk hss
      clear hss
      have HQQ := Aside0.mk hqq
      obtain ⟨hx, hz⟩ := Kd.R_celln 0 HX.out (q : Int) (by omega) (by omega)
      rw [show ((q : Nat) : Int).toNat = q from rfl] at hx
      have HQ := Aside0.mk hq
      have hq8 : (q : Int) ≤ 7 := by omega
      clear hf hf1 hrk hqq HRL hz
      have HC5 : Aside0 (c5 ≤ 9223372036854775807) := ⟨hc5.out⟩
      go_wp2_with (
        first
        | (go_at_call 32; refine (perm_factorial.calls 9 _ f _ HF.out).mono ?_; rintro e w2 ⟨rfl, ⟨nd, rfl⟩⟩)
        | (at_builtin; refine Kd.R_append (Kd.int .i64) (w0 := w) w.heap.size rfl (.tmp 24) (.tmp 29) 23 3 (.int .i64 0) 8 rfl Tryd.underlying23 Pb.info3 rfl (by decide) (by omega) u6 ys (rdOf 0 xs q) [.int .i64 (rdOf 0 xs q)] (fun k => k ≠ g) (fun _ => False) rfl rfl ?aP (fun _ hk => hk.elim) ?aF ?aO ?aB ?aS ?aL ?_; (case aP => exact rfl); (case aB => exact HB.out.trans (pw_below_drewN (Below.refl _ _) _)); (case aF => exact fun k hk => by have := HGS.out; rw [heap_drewN] at hk; omega); (case aO => exact Kd.R_step HY.out (fun k _ _ => by rw [heap_drewN])); (case aS => rw [heap_drewN]; exact HB.out.size); (case aL => have := HN.out; have := hn7.out; omega); intro v30 w20 ho hb hg hat)
        | (go_at_call 40; refine (delete_calls (w := w20) (B := w.heap.size) (g := g) (n := xs.length) (c := c5) (ok := fun k => k = g) (xs := xs) ?hX q HQ.out HC5.out).mono ?_; (case hX => exact Kd.R_grown (Kd.R_step HX.out (fun k _ _ => by rw [heap_drewN])) hg (fun k hk he => HY.out.1 k he.symm hk)); rintro e w3 ⟨rfl, hX3, hh3, hb3⟩))
      have hl1 : (xs.eraseIdx q).length = xs.length - 1 := by rw [List.length_eraseIdx_of_lt HQ.out]
      have HL1 := Aside0.mk hl1
      obtain ⟨k1, rfl⟩ : ∃ k1, gk = k1 + 1 := ⟨gk - 1, by have := HK.out; have := HM.out; omega⟩
      clear hl1
      go_roundg k1
      case measure => omega
      case rel =>
        have hl1 := HL1.out
        have hm := HM.out
        refine ⟨s, xs.eraseIdx q, ys ++ [rdOf 0 xs q], rfl, by rw [hl1], ⟨by have := HK.out; omega, by have := HK.out; omega⟩, ⟨by have := HN.out; simp; omega⟩, ⟨?_⟩, ⟨?_⟩, ⟨by rw [hl1]; exact hX3⟩, ⟨?_⟩, ⟨?_⟩, ⟨?_⟩⟩
        · rw [hl1, show xs.length - 1 = m by omega, HSS.out, ← HFM.out]
          exact Nat.mod_lt _ (by omega)
        · have hrd : rdOf 0 xs (q : Int) = xs.getD q 0 := rfl
          rw [← HE.out, hl1, hm, Nat.add_sub_cancel, List.append_assoc, hrd]
          simp only [unr, List.singleton_append]
          rw [HSS.out, HQQ.out, HFM.out]
        · exact Kd.R_step ho (fun k hk _ => hh3 k hk)
        · exact hb3 _ _ HG1.out hb
        · exact Kd.R_lt hX3 g (by simp [Value.ownBlock])

theorem perm_unrank.calls (a0 a1 : Int) (r : List Int) (w : World) (h : perm_unrank.f a0 a1 = some r) :
    Calls Tryd.prog 33 #[.int .i64 a0, .int .i64 a1] w fun e w' => ∃ v0_ : Value, e = .returned (v0_) ∧ Kd.R (Kd.int .i64) 3 w' w.heap.size (fun _ => True) v0_ r ∧ Below w.heap.size w w' := by
  unfold perm_unrank.f at h
  split at h
  · rename_i hc
    obtain ⟨n, rfl⟩ : ∃ n : Nat, a0 = n := ⟨a0.toNat, by omega⟩
    obtain ⟨r0, rfl⟩ : ∃ n : Nat, a1 = n := ⟨a1.toNat, by omega⟩
    have h := Option.some.inj h
    subst h
    exact unrank_walk n r0 w ⟨by omega⟩ ⟨by omega⟩ ⟨by have := hc.2.2.2; simp at this; exact_mod_cast this⟩
  · cases h
end Go.Proofs.YtjfhogholmabfaaDoor.Giv
