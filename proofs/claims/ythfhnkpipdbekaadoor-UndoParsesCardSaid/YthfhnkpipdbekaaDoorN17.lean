-- CUT by a program of this session: what the claim does not use is left out
import Derived.Test.YthfhnkpipdbekaaDoorN16
import Derived.Test.YthfhnkpipdbekaaDoorQ5
import Derived.Test.YthfhnkpipdbekaaDoorQ4
import Derived.Test.YthfhnkpipdbekaaDoorTxx2
namespace Go.Proofs.YthfhnkpipdbekaaDoor.Pure
set_option linter.unusedVariables false
set_option linter.unusedSimpArgs false
open Go.RowKit Go.Proofs.YthfhnkpipdbekaaDoorW.PrintWords Go.Proofs.YthfhnkpipdbekaaDoorW.PrintLast Go.Proofs.YthfhnkpipdbekaaDoorW.PrintMore
open Ua Ta Giv Tx
theorem dg_str (u : Nat) : strOfNums [(wrap64 (48 + Int.tmod (u : Int) 10)) % 256] = Giv.bytesOf [UInt8.ofNat (48 + u % 10)] := by
 have e : Int.tmod (u : Int) 10 = ((u % 10 : Nat) : Int) := by rw [Int.tmod_eq_emod_of_nonneg (by omega)]; rfl
 have e2 : (wrap64 (48 + ((u % 10 : Nat) : Int))) % 256 = ((48 + u % 10 : Nat) : Int) := by
  have : u % 10 < 10 := Nat.mod_lt _ (by decide)
  generalize u % 10 = z at *
  unfold wrap64; omega
 rw [e, e2]
 show (⟨#[UInt8.ofNat ((48 + u % 10 : Nat) : Int).toNat]⟩ : ByteArray) = ⟨#[UInt8.ofNat (48 + u % 10)]⟩
 rw [Int.toNat_natCast]
theorem bytesOf_app (l m : List UInt8) : Giv.bytesOf l ++ Giv.bytesOf m = Giv.bytesOf (l ++ m) := by
 apply ByteArray.ext
 apply Array.toList_inj.1
 simp [Giv.bytesOf, ByteArray.data_append]
theorem tdiv10 (u : Nat) (h : u < 2 ^ 62) : wrap64 (Int.tdiv (u : Int) 10) = ((u / 10 : Nat) : Int) := by
 have e : Int.tdiv (u : Int) 10 = ((u / 10 : Nat) : Int) := by rw [Int.tdiv_eq_ediv_of_nonneg (by omega)]; rfl
 have : u / 10 ≤ u := Nat.div_le_self _ _
 rw [e]
 generalize u / 10 = z at *
 unfold wrap64; omega
theorem bytesOf_size (l : List UInt8) : (Giv.bytesOf l).size = l.length := size_toArray l
theorem dec_l0 : ∀ (u : Nat), u < 2 ^ 62 → ∀ (out : List UInt8), out.length + u ≤ 2 ^ 62 → Ev (fun k => commodatumref09_Decimal.l0 k (u : Int) (Giv.bytesOf out)) (Giv.bytesOf ((if u = 0 then [] else Lib.decDigits u) ++ out)) := by
 intro u
 induction u using Nat.strongRecOn with
 | _ u ih =>
  intro hu out ho
  by_cases e : u = 0
  ·subst e
   rw [if_pos rfl, List.nil_append]
   refine EvS fun k => ?_
   simp only [commodatumref09_Decimal.l0]
   rw [if_neg (by omega)]
  ·rw [if_neg e]
   have hd : u / 10 < u := Nat.div_lt_self (by omega) (by decide)
   have i := ih (u / 10) hd (by omega) (UInt8.ofNat (48 + u % 10) :: out) (by simp; omega)
   have e3 : (if u / 10 = 0 then [] else Lib.decDigits (u / 10)) ++ UInt8.ofNat (48 + u % 10) :: out = Lib.decDigits u ++ out := by
    by_cases hs : u < 10
    ·rw [if_pos (by omega), Lib.decDigits_one hs, Nat.mod_eq_of_lt hs]; rfl
    ·rw [if_neg (by omega)]
     conv => rhs; rw [Lib.decDigits, dif_neg hs]
     simp
   rw [e3] at i
   refine Ev1 i fun k => ?_
   simp only [commodatumref09_Decimal.l0]
   rw [if_pos (by omega)]
   simp only [Option.bind_some]
   rw [dg_str, bytesOf_app, tdiv10 u hu, if_pos (by rw [bytesOf_size, bytesOf_size]; simp; omega)]
   rfl
theorem decimal_ev {y : Int} (h : 0 ≤ y) (h2 : y < 10000) : Ev (fun k => commodatumref12_Decimal.f k y) (itoaS y) := by
 obtain ⟨u, rfl⟩ : ∃ u : Nat, y = (u : Int) := ⟨y.toNat, by omega⟩
 have i := dec_l0 (u / 10) (by omega) [UInt8.ofNat (48 + u % 10)] (by simp; omega)
 have e3 : (if u / 10 = 0 then [] else Lib.decDigits (u / 10)) ++ [UInt8.ofNat (48 + u % 10)] = Lib.decDigits u := by
  by_cases hs : u < 10
  ·rw [if_pos (by omega), Lib.decDigits_one hs, Nat.mod_eq_of_lt hs]; rfl
  ·rw [if_neg (by omega)]
   conv => rhs; rw [Lib.decDigits, dif_neg hs]
 rw [e3] at i
 have e4 : itoaS (u : Int) = Giv.bytesOf (Lib.decDigits u) := by unfold itoaS Giv.bytesOf; rw [itoa_nn h, Int.toNat_natCast]
 rw [e4]
 refine Ev.bind (r := Giv.bytesOf (Lib.decDigits u)) ?_ (Ev.now _)
 refine EvC i fun k => ?_
 unfold commodatumref09_Decimal.f
 rw [dg_str, tdiv10 u (by omega)]
theorem word_f {k : Int} (hk : k = 0 ∨ k = 1 ∨ k = 2 ∨ k = 3) : commodatumref12_word.f k = some (wordS k) := by
 rcases hk with rfl | rfl | rfl | rfl <;> rfl
theorem used_ev {o : S67} (hk : o.f0 = 0 ∨ o.f0 = 1 ∨ o.f0 = 2 ∨ o.f0 = 3) : Ev (fun k => commodatumref12_used.f k o.f0 o.f1 o.f2 o.f3) (numsOf o) := by
 unfold commodatumref12_used.f
 simp only [Option.bind_some]
 refine Ev.bind (fields_f o.f0) (EvSome fun k => ?_)
 unfold numsOf
 rcases hk with e | e | e | e <;> simp [e]
end Go.Proofs.YthfhnkpipdbekaaDoor.Pure
