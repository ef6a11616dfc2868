-- CUT by a program of this session: what the claim does not use is left out
import Derived.Test.YthfhnkpipdbekaaDoorN7
import Derived.Test.YthfhnkpipdbekaaDoorRows
import Derived.Test.YthfhnkpipdbekaaDoorWAll
import Derived.Test.YthfhnkpipdbekaaDoorHand
import Derived.Lib.LaidTab
import Derived.LaidSub
import Derived.LaidByTextLater
import Derived.Deep.Slices
import Derived.Lib.SmallJoins
namespace Go.Proofs.YthfhnkpipdbekaaDoor.Giv
set_option linter.unusedVariables false
set_option linter.unusedSimpArgs false
open Go.ChangeShapes Go.WideShapes Go.RowKit Go.Shelf Go.Proofs.YthfhnkpipdbekaaDoorW.PrintWords Go.Proofs.YthfhnkpipdbekaaDoorW.PrintLast Go.Proofs.YthfhnkpipdbekaaDoorW.PrintMore
open Go.Proofs.YthfhnkpipdbekaaDoor.Ua (S67 k67 z67 rd_T67 at_T67 k67_open k67_mk k67_mkM)
theorem tab_of {W : World} {l : List (String × DataW Unit)} {name : String} {k : IntKind} {zs : List Int} {g : Nat} {t e : TypeId} {n : Nat} (hl : laidMetH Tryd.prog l W)
  (hf : l.filter (fun x => x.1 == name) = [(name, Lib.tabData k zs)]) (hh : (Lib.tabData k zs : DataW Unit).handleName? = none)
  (hg : Tryd.prog.globalNamed name = some g) (hty : (Tryd.prog.globals[g]?).map (·.type) = some t) (ht : Tryd.prog.underlying t = some (.array n e)) (he : Tryd.prog.underlying e = some (.int k)) (hce : Tryd.prog.cellsOf e = 1) (hct : Tryd.prog.cellsOf t = n) : Lib.TabIs Tryd.prog W name k zs := by
 have h1 := hl.filter (fun x => x.1 == name)
 rw [hf] at h1
 rw [MakeChecks.laidMetH_plain _ _ _ (by simp [hh])] at h1
 exact Lib.tabIs_of_head hg hty ht he hce hct h1
theorem iface_of {W : World} {l : List (String × DataW Unit)} {name s : String} {d : DataW Unit} {g : Nat} {t : TypeId} {ms : Array (String × TypeId)} (hl : laidMetH Tryd.prog l W)
  (hf : l.filter (fun x => x.1 == name) = [(name, .iface s d)]) (hh : (DataW.iface s d : DataW Unit).handleName? = none)
  (hg : Tryd.prog.globalNamed name = some g) (hty : (Tryd.prog.globals[g]?).map (·.type) = some t) (ht : Tryd.prog.underlying t = some (.interface ms)) : ∃ ev, W.cell? ⟨g, 0, none⟩ = some ev ∧ (ev = .nilIface ∨ ∃ te pe, ev = .iface te pe) := by
 have h1 := hl.filter (fun x => x.1 == name)
 rw [hf] at h1
 rw [MakeChecks.laidMetH_plain _ _ _ (by simp [hh])] at h1
 obtain ⟨ps, ⟨g', t', cs, fuel, p, q, hg', ht', hvar, hd, _, _⟩, _⟩ := h1
 obtain rfl := Option.some.inj (hg.symm.trans hg')
 obtain rfl := Option.some.inj (hty.symm.trans ht')
 obtain ⟨f', u, v, e, _, _⟩ := iface_of_trod ht hd
 have hc := World.var?_cell hg hvar 0
 have e2 : cs[0]? = some (.iface u v) := by rw [← Array.getElem?_toList, e]; rfl
 exact ⟨_, hc.trans e2, .inr ⟨u, v, rfl⟩⟩
theorem laid_of {W : World} {l : List (String × DataW Unit)} (hl : laidMetH Tryd.prog l W) (hsh : W.ShapedOpen Tryd.prog)
  (h1 : l.filter (fun x => x.1 == "internal/strconv.uint64pow10") = [("internal/strconv.uint64pow10", Lib.tabData .u64 Lib.pow10Tab)])
  (h2 : l.filter (fun x => x.1 == "strings.asciiSpace") = [("strings.asciiSpace", Lib.tabData .u8 Lib.asciiSpaceTab)])
  (h3 : l.filter (fun x => x.1 == "strconv.ErrSyntax") = [("strconv.ErrSyntax", Rows.laid_strconv_ErrSyntax)]) (h4 : l.filter (fun x => x.1 == "strconv.ErrRange") = [("strconv.ErrRange", Rows.laid_strconv_ErrRange)]) : Laid W where
 pow := tab_of (g := 7) (t := 177) (n := 20) (e := 153) hl h1 (by kernel_rfl) (by kernel_rfl) (by kernel_rfl) (by kernel_rfl) (by kernel_rfl) (by kernel_rfl) (by kernel_rfl)
 spc := tab_of (g := 0) (t := 106) (n := 256) (e := 5) hl h2 (by kernel_rfl) (by kernel_rfl) (by kernel_rfl) (by kernel_rfl) (by kernel_rfl) (by kernel_rfl) (by kernel_rfl)
 len := cell_of_shapedOpen_int (zero := #[.int .i64 0]) (t := 3) hsh (of_decide_eq_true (by kernel_rfl)) (by kernel_rfl) rfl (by kernel_rfl) (by kernel_rfl) Tryd.underlying3
 syn := iface_of (g := 3) (t := 103) hl h3 (by kernel_rfl) (by kernel_rfl) (by kernel_rfl) Tryd.underlying103
 ran := iface_of (g := 4) (t := 103) hl h4 (by kernel_rfl) (by kernel_rfl) (by kernel_rfl) Tryd.underlying103
theorem pow_filter : Rows.undoNumbersRow.laid.filter (fun x => x.1 == "internal/strconv.uint64pow10") = [("internal/strconv.uint64pow10", Lib.tabData .u64 Lib.pow10Tab)] := by kernel_rfl
theorem spc_filter : Rows.undoNumbersRow.laid.filter (fun x => x.1 == "strings.asciiSpace") = [("strings.asciiSpace", Lib.tabData .u8 Lib.asciiSpaceTab)] := by kernel_rfl
theorem syn_filter : Rows.undoNumbersRow.laid.filter (fun x => x.1 == "strconv.ErrSyntax") = [("strconv.ErrSyntax", Rows.laid_strconv_ErrSyntax)] := by kernel_rfl
theorem ran_filter : Rows.undoNumbersRow.laid.filter (fun x => x.1 == "strconv.ErrRange") = [("strconv.ErrRange", Rows.laid_strconv_ErrRange)] := by kernel_rfl
theorem laid_all {W : World} (hl : laidMetH Tryd.prog Rows.undoNumbersRow.laid W) (hsh : W.ShapedOpen Tryd.prog) : Laid W := laid_of hl hsh pow_filter spc_filter syn_filter ran_filter
theorem list_of {α : Type} {P : Nat → α → Prop} : ∀ n : Nat, (∀ i, i < n → ∃ r, P i r) → ∃ l : List α, l.length = n ∧ ∀ i r, l[i]? = some r → P i r
 | 0, _ => ⟨[], rfl, fun i r h => by simp at h⟩
 | n + 1, h => by
  obtain ⟨l, hl, hp⟩ := list_of n (fun i hi => h i (by omega))
  obtain ⟨r, hr⟩ := h n (by omega)
  refine ⟨l ++ [r], by simp [hl], fun i x hx => ?_⟩
  rcases Nat.lt_or_ge i n with hi | hi
  ·rw [List.getElem?_append_left (by omega)] at hx
   exact hp i x hx
  ·rw [List.getElem?_append_right (by omega)] at hx
   have hi2 : i - l.length = 0 := by
    rcases Nat.eq_zero_or_pos (i - l.length) with h0 | h0
    ·exact h0
    ·rw [List.getElem?_eq_none (by simp; omega)] at hx; cases hx
   rw [hi2] at hx
   simp at hx
   subst hx
   have : i = n := by omega
   subst this
   exact hr
theorem cellsO67 : Tryd.prog.cellsOf 67 = 4 := by kernel_rfl
theorem cellsO23 : Tryd.prog.cellsOf 23 = 1 := by kernel_rfl
theorem cellsO3 : Tryd.prog.cellsOf 3 = 1 := by kernel_rfl
theorem list4 {α : Type} {l : List α} (h : l.length = 4) : ∃ a b c d, l = [a, b, c, d] := by
 match l, h with
 | [a, b, c, d], _ => exact ⟨a, b, c, d, rfl⟩
theorem list2 {α : Type} {l : List α} (h : l.length = 2) : ∃ a b, l = [a, b] := by
 match l, h with
 | [a, b], _ => exact ⟨a, b, rfl⟩
theorem open_op {H : Type} {enc : TypeId × Value → H} {W : World} {base : Nat} {held : Bool} {fuel : Nat} {cs : List Value} {x : DataW H × List MemPlace} (h : DataW.trod enc Tryd.prog W base (fun _ => true) held fuel 67 cs = some x) : ∃ r : S67, k67.K W r cs := by
 obtain ⟨z0, z1, z2, z3, n', rfl, hl, m0, m1, m2, m3⟩ := Go.Joins.trod_struct4 Tryd.underlying67 h
 rw [cellsO67] at hl
 obtain ⟨c0, c1, c2, c3, rfl⟩ := list4 hl
 simp only [cellsO3, List.drop_zero, List.drop_succ_cons, List.take_succ_cons, List.take_zero] at m0 m1 m2 m3
 obtain ⟨n0, e0, _⟩ := DataW.trod_int Tryd.underlying3 m0
 obtain ⟨n1, e1, _⟩ := DataW.trod_int Tryd.underlying3 m1
 obtain ⟨n2, e2, _⟩ := DataW.trod_int Tryd.underlying3 m2
 obtain ⟨n3, e3, _⟩ := DataW.trod_int Tryd.underlying3 m3
 injection e0 with e0 _
 injection e1 with e1 _
 injection e2 with e2 _
 injection e3 with e3 _
 subst e0; subst e1; subst e2; subst e3
 exact ⟨⟨n0, n1, n2, n3⟩, k67_mk W _⟩
theorem open_ops {H : Type} {enc : TypeId × Value → H} {W : World} {base : Nat} {held : Bool} {fuel : Nat} {cs : List Value} {x : DataW H × List MemPlace} (h : DataW.trod enc Tryd.prog W base (fun _ => true) held fuel 23 cs = some x) :
  ∃ A l c, cs = [.slice A (l : List S67).length c] ∧ l.length ≤ c ∧ l.length ≤ maxLen ∧ Kd.C k67 W A l.length l := by
 rcases Go.Deep.open_slice Tryd.underlying23 h with ⟨rfl, rfl⟩ | ⟨a, len, cap, m, n, D, Pl, rfl, hb, hl, hm, hmm, rfl, hel⟩
 ·exact ⟨none, [], 0, rfl, Nat.le_refl _, Nat.zero_le _, ⟨rfl, by simp, fun h0 => absurd h0 (by simp)⟩⟩
 ·simp only [if_true] at hmm
  rw [cellsO67] at hel
  obtain ⟨l, hln, hP⟩ := list_of (P := fun i r => ∃ cs', W.cells? base (a.add (i * 4)) 4 = some cs' ∧ k67.K W r cs') len (fun i hi => by
   obtain ⟨cs', h1, h2⟩ := hel i (by omega)
   obtain ⟨r, k1⟩ := open_op h2
   exact ⟨r, cs', h1, k1⟩)
  subst hln
  refine ⟨some a, l, cap, rfl, hl, Nat.le_trans hl hm, ⟨rfl, (by unfold maxLen at hm; omega), fun _ => ⟨a, rfl, fun j p hj => ?_⟩⟩⟩
  obtain ⟨cs', h1, h2⟩ := hP j p hj
  obtain ⟨_, h3, h4⟩ := World.cells?_some h1
  refine ⟨cs', h3, h2, fun i u hu => ?_⟩
  have hi : i < 4 := by have := (List.getElem?_eq_some_iff.1 hu).1; omega
  have := h4 i hi
  rw [hu] at this
  rw [← this]
  show W.cell? (a.add (j * 4 + i)) = _
  rw [Go.Proofs.YthfhnkpipdbekaaDoorW.PrintWords.add_add]
theorem agg2_value {v : Value} {a b : Value} (h : v.cells.toList = [a, b]) : v = .agg #[a, b] := by
 cases v
 case agg cs => simp [Value.cells] at h; exact congrArg Value.agg (Array.toList_inj.1 h)
 all_goals simp [Value.cells] at h
theorem open_prog {H : Type} {enc : TypeId × Value → H} {W : World} {base : Nat} {held : Bool} {fuel : Nat} {v : Value} {x : DataW H × List MemPlace} (h : DataW.trod enc Tryd.prog W base (fun _ => true) held fuel 25 v.cells.toList = some x) :
  ∃ n A l c, v = .agg #[.int .i64 n, .slice A (l : List S67).length c] ∧ l.length ≤ c ∧ l.length ≤ maxLen ∧ Kd.C k67 W A l.length l := by
 obtain ⟨y0, y1, n, rfl, hl, h0, h1⟩ := trod_struct2 Tryd.underlying25 h
 rw [show Tryd.prog.cellsOf 25 = 2 by kernel_rfl] at hl
 generalize hcs : v.cells.toList = cs at *
 obtain ⟨c0, c1, rfl⟩ := list2 hl
 simp only [cellsO3, cellsO23, List.drop_zero, List.drop_succ_cons, List.take_succ_cons, List.take_zero] at h0 h1
 obtain ⟨n0, e0, _⟩ := DataW.trod_int Tryd.underlying3 h0
 obtain ⟨A, l, c, e1, k1, k2, k3⟩ := open_ops h1
 injection e0 with e0 _
 injection e1 with e1 _
 subst e0; subst e1
 exact ⟨n0, A, l, c, agg2_value hcs, k1, k2, k3⟩
end Go.Proofs.YthfhnkpipdbekaaDoor.Giv
