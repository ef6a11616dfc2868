-- CUT by a program of this session: what the claim does not use is left out
import Derived.Test.YthfhnkpipdbekaaDoorQ6
import Derived.Test.YthfhnkpipdbekaaDoorTax3
import Derived.Test.YthfhnkpipdbekaaDoorUax0
import Derived.Test.YthfhnkpipdbekaaDoorProg
import Derived.Below
import Derived.Deep.Draws
import Derived.Deep.AppendLies
import Derived.Maps.AppendAt
import Derived.OwnWalk
import Derived.Laws.BytesArg
import Derived.Laws.MakeOwn
import Derived.Laws.OwnMore
import Derived.Deep.OwnRows
import Derived.Tactics
import Derived.Lib.ConvBytes
import Derived.Laws.Slices
import Derived.WalkKit
import Derived.KernelRfl
import Derived.RowKit3
import Derived.Deep.LoopGhost
import Derived.Deep.QuietTactic
import Derived.BigQuiet
import Derived.WideLaws
import Derived.Deep.DeepCutAuto
import Derived.Deep.CutBlock
import Derived.Deep.RegionHeld3
import Derived.Laws.Rows
import Derived.Lib.AppendStr
import Derived.ArgAppend
import Derived.Laws.IdiomCopy
import Derived.OrdersHeld
import Derived.Laws.BitsLemmas
import Derived.RowKit
import Derived.Test.YthfhnkpipdbekaaDoorN12
import Derived.Test.YthfhnkpipdbekaaDoorN6
import Derived.Test.YthfhnkpipdbekaaDoorWAll
import Derived.Test.YthfhnkpipdbekaaDoorTax5
import Derived.Test.YthfhnkpipdbekaaDoorTax6
import Derived.Test.YthfhnkpipdbekaaDoorTax1
import Derived.Test.YthfhnkpipdbekaaDoorTax13
import Derived.Test.YthfhnkpipdbekaaDoorTax2
import Derived.Test.YthfhnkpipdbekaaDoorTax4
import Derived.Test.YthfhnkpipdbekaaDoorTax7
import Derived.Test.YthfhnkpipdbekaaDoorTxx1
import Derived.Test.YthfhnkpipdbekaaDoorTxx2
import Derived.Test.YthfhnkpipdbekaaDoorTbx1
namespace Go.Proofs.YthfhnkpipdbekaaDoor.Pure
set_option linter.unusedVariables false
set_option linter.unusedSimpArgs false
open Go.RowKit Go.Proofs.YthfhnkpipdbekaaDoorW.PrintWords Go.Proofs.YthfhnkpipdbekaaDoorW.PrintLast Go.Proofs.YthfhnkpipdbekaaDoorW.PrintMore
open Ua Ta Giv Tb
def Half (l x : List S67) (i : Nat) : Prop := x.length = l.length ∧ ∀ t, t < l.length → x[t]? = if t < i ∨ l.length ≤ t + i then l[l.length - 1 - t]? else l[t]?
theorem half_end {l x : List S67} {i : Nat} (h : Half l x i) (hi : l.length ≤ 2 * i + 1) : x = l.reverse := by
 apply List.ext_getElem?
 intro t
 by_cases ht : t < l.length
 ·rw [h.2 t ht, List.getElem?_reverse ht]
  by_cases hc : t < i ∨ l.length ≤ t + i
  ·rw [if_pos hc]
  ·rw [if_neg hc]
   have : t = l.length - 1 - t := by omega
   rw [← this]
 ·rw [List.getElem?_eq_none (by have := h.1; omega), List.getElem?_eq_none (by simp; omega)]
theorem half_next {l x : List S67} {i : Nat} (h : Half l x i) (hi : i < l.length - 1 - i) : Half l ((x.set i (x.getD (l.length - 1 - i) z67)).set (l.length - 1 - i) (x.getD i z67)) (i + 1) := by
 obtain ⟨h1, h2⟩ := h
 refine ⟨by simp [h1], fun t ht => ?_⟩
 have e1 : x.getD (l.length - 1 - i) z67 = l[l.length - 1 - i] := by
  rw [List.getD_eq_getElem?_getD, h2 _ (by omega), if_neg (by omega), List.getElem?_eq_getElem (by omega)]; rfl
 have e2 : x.getD i z67 = l[i] := by
  rw [List.getD_eq_getElem?_getD, h2 _ (by omega), if_neg (by omega), List.getElem?_eq_getElem (by omega)]; rfl
 rw [e1, e2, List.getElem?_set, List.getElem?_set, List.length_set]
 by_cases c1 : l.length - 1 - i = t
 ·subst c1
  rw [if_pos rfl, if_pos (by omega), if_pos (by omega), ← List.getElem?_eq_getElem]
  congr 1; omega
 ·rw [if_neg c1]
  by_cases c2 : i = t
  ·subst c2
   rw [if_pos rfl, if_pos (by omega), if_pos (by omega), ← List.getElem?_eq_getElem]
  ·rw [if_neg c2, h2 t ht]
   by_cases c3 : t < i ∨ l.length ≤ t + i
   ·rw [if_pos c3, if_pos (by omega)]
   ·rw [if_neg c3, if_neg (by omega)]
theorem rev_l0 (l : List S67) (hl : l.length < 10000000) : ∀ d i x, l.length - i ≤ d → i ≤ l.length → Half l x i → Ev (fun k => api_RevOp_68.l0 k x (i : Int) ((l.length : Int) - 1 - i)) l.reverse
 | 0, i, x, hd, hi, hx => by
  have e := half_end hx (by omega)
  subst e
  refine EvS fun k => ?_
  simp only [api_RevOp_68.l0]
  rw [if_neg (by omega)]
 | d + 1, i, x, hd, hi, hx => by
  by_cases hc : (i : Int) < (l.length : Int) - 1 - i
  ·have ih := rev_l0 l hl d (i + 1) _ (by omega) (by omega) (half_next hx (by omega))
   have hxl := hx.1
   refine Ev1 ih fun k => ?_
   simp only [api_RevOp_68.l0]
   rw [if_pos hc, if_pos (by omega), if_pos (by omega), if_pos (by omega), if_pos (by omega)]
   have e1 : wrap64 ((i : Int) + 1) = ((i + 1 : Nat) : Int) := w64 _ (by omega)
   have e2 : wrap64 ((l.length : Int) - 1 - i - 1) = (l.length : Int) - 1 - ((i + 1 : Nat) : Int) := by unfold wrap64; omega
   have e3 : ((l.length : Int) - 1 - i).toNat = l.length - 1 - i := by omega
   rw [e1, e2, e3, Int.toNat_natCast]
   have r1 : rd_T67 x ((l.length : Int) - 1 - i) = x.getD (l.length - 1 - i) z67 := by unfold rd_T67; rw [e3]
   have r2 : rd_T67 x (i : Int) = x.getD i z67 := by unfold rd_T67; rw [Int.toNat_natCast]
   rw [r1, r2]
  ·have e := half_end hx (by omega)
   subst e
   refine EvS fun k => ?_
   simp only [api_RevOp_68.l0]
   rw [if_neg hc]
theorem rev_ev (l : List S67) (hl : l.length < 10000000) : Ev (fun k => api_RevOp_68.f k l) l.reverse := by
 unfold api_RevOp_68.f
 have h := rev_l0 l hl l.length 0 l (by omega) (by omega) ⟨rfl, fun t ht => by rw [if_neg (by omega)]⟩
 refine EvC h fun k => ?_
 rw [show wrap64 ((l.length : Int) - 1) = (l.length : Int) - 1 - ((0 : Nat) : Int) by unfold wrap64; omega]; rfl
end Go.Proofs.YthfhnkpipdbekaaDoor.Pure
