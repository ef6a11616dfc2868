-- CUT by a program of this session: what the claim does not use is left out
import Derived.Test.YtjfhogholmabfaaDoorPbx1
import Derived.Test.YtjfhogholmabfaaDoorShelf
import Derived.Outline
namespace Go.Proofs.YtjfhogholmabfaaDoor.Giv
set_option linter.unusedVariables false
set_option linter.unusedSimpArgs false
open Go.RowKit Go.Proofs.YtjfhogholmabfaaDoorW.PrintWords Go.Proofs.YtjfhogholmabfaaDoorW.PrintLast Go.Proofs.YtjfhogholmabfaaDoorW.PrintMore

theorem heap_drewN (w : World) (n : Nat) : (w.drewN n).heap = w.heap := by
  induction n generalizing w with
  | zero => rfl
  | succ n ih => simp [World.drewN, ih]

theorem heap_setCells (b : Nat) : ∀ (vs : List Value) (o : Nat) (w : World) (k : Nat), k ≠ b → (w.setCells b o vs).heap[k]? = w.heap[k]?
  | [], _, _, _, _ => rfl
  | v :: r, o, w, k, h => by
    simp only [World.setCells]
    rw [heap_setCells b r (o + 1) _ k h]
    exact Below.heap_setCell w ⟨b, o, none⟩ v k h
theorem below_setCells (b : Nat) : ∀ (vs : List Value) (o : Nat) (w0 w : World) (B : Nat), B ≤ b → Below B w0 w → Below B w0 (w.setCells b o vs)
  | [], _, _, _, _, _, h => h
  | v :: r, o, w0, w, B, hb, h => below_setCells b r (o + 1) w0 _ B hb (h.setCell (p := ⟨b, o, none⟩) hb v)
theorem R_setCells {k : IntKind} {e base g n cap : Nat} {ok : Nat → Prop} : ∀ (ys : List Int) (o : Nat) (xs : List Int) (w : World), o + ys.length ≤ xs.length → Kd.R (Kd.int k) e w base ok (.slice (some ⟨g, 0, none⟩) n cap) xs →
    Kd.R (Kd.int k) e (w.setCells g o (ys.map (Value.int k))) base ok (.slice (some ⟨g, 0, none⟩) n cap) (xs.take o ++ ys ++ xs.drop (o + ys.length))
  | [], o, xs, w, _, h => by simpa [World.setCells] using h
  | y :: r, o, xs, w, hl, h => by
    simp only [List.length_cons] at hl
    have h1 := (Kd.R_putg h (o : Int) y).1
    rw [show ((o : Int)).toNat = o from rfl] at h1
    have h2 := R_setCells r (o + 1) (xs.set o y) (w.setCell ⟨g, o, none⟩ (.int k y)) (by simp; omega) h1
    simp only [List.map_cons, World.setCells, List.length_cons]
    have e : (xs.set o y).take (o + 1) ++ r ++ (xs.set o y).drop (o + 1 + r.length) = xs.take o ++ y :: r ++ xs.drop (o + (r.length + 1)) := by
      rw [List.drop_set_of_lt (by omega), show o + 1 + r.length = o + (r.length + 1) by omega, List.take_add_one, List.take_set_of_le (Nat.le_refl _), List.getElem?_set_self (by omega)]
      simp
    rw [e] at h2
    exact h2

theorem delete_calls {w : World} {B g n c : Nat} {ok : Nat → Prop} {xs : List Int} (hR : Kd.R (Kd.int .i64) 3 w B ok (.slice (some ⟨g, 0, none⟩) n c) xs) (i : Nat) (hi : i < xs.length) (hc : c ≤ 9223372036854775807) :
    Calls Tryd.prog 40 #[.slice (some ⟨g, 0, none⟩) n c, .int .i64 i, .int .i64 (i + 1 : Nat)] w fun e w' => e = .returned (.slice (some ⟨g, 0, none⟩) (n - 1) c) ∧ Kd.R (Kd.int .i64) 3 w' B ok (.slice (some ⟨g, 0, none⟩) (n - 1) c) (xs.eraseIdx i) ∧ (∀ k, k ≠ g → w'.heap[k]? = w.heap[k]?) ∧ (∀ w0 B, B ≤ g → Below B w0 w → Below B w0 w') := by
  obtain ⟨rfl, hcap, hC⟩ := Kd.R_reads' hR
  refine (Tryd.slices_Delete_int_cells g 0 xs.length c i (i + 1) xs w (Nat.le_refl _) hcap hc (by omega) (by omega) (fun j hj => ?_) (fun j hj => ?_)).mono ?_
  · have := (Kd.R_celln 0 hR (j : Int) (by omega) (by omega)).1
    simpa [rdOf] using this
  · have := (Kd.R_celln 0 hR (j : Int) (by omega) (by omega)).2
    simpa using this
  · rintro e w' ⟨rfl, q, rfl⟩
    rw [List.take_length, show i + 1 - i = 1 by omega]
    have hR1 : Kd.R (Kd.int .i64) 3 (w.drewN q) B ok (.slice (some ⟨g, 0, none⟩) xs.length c) xs := Kd.R_step hR (fun k _ _ => by rw [heap_drewN])
    have hlen : (xs.take i ++ xs.drop (i + 1) ++ List.replicate 1 (0 : Int)).length = xs.length := by simp; omega
    have h2 := Kd.R_take (m := xs.length - 1) (R_setCells (xs.take i ++ xs.drop (i + 1) ++ List.replicate 1 (0 : Int)) 0 xs _ (by omega) hR1) (by simp; omega)
    have e2 : ((xs.take 0 ++ (xs.take i ++ xs.drop (i + 1) ++ List.replicate 1 (0 : Int)) ++ xs.drop (0 + (xs.take i ++ xs.drop (i + 1) ++ List.replicate 1 (0 : Int)).length))).take (xs.length - 1) = xs.eraseIdx i := by
      rw [List.eraseIdx_eq_take_drop_succ, List.take_zero, List.nil_append, List.take_append_of_le_length (by omega), List.take_append_of_le_length (by simp; omega), List.take_of_length_le (by simp; omega)]
    rw [e2] at h2
    refine ⟨rfl, h2, fun k hk => ?_, fun w0 B hB hb => ?_⟩
    · rw [heap_setCells _ _ _ _ _ hk, heap_drewN]
    · exact below_setCells _ _ _ _ _ _ hB (hb.trans (pw_below_drewN (Below.refl _ _) _))
end Go.Proofs.YtjfhogholmabfaaDoor.Giv
