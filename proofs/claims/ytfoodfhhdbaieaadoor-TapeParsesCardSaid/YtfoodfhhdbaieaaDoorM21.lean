-- CUT by a program of this session: what the claim does not use is left out
import Derived.Test.YtfoodfhhdbaieaaDoorM7
import Derived.Test.YtfoodfhhdbaieaaDoorKax1
import Derived.Test.YtfoodfhhdbaieaaDoorRows
import Derived.Test.YtfoodfhhdbaieaaDoorWAll
import Derived.Test.YtfoodfhhdbaieaaDoorHand
import Derived.Lib.LaidTab
import Derived.LaidSub
import Derived.LaidByTextLater
import Derived.Deep.Slices
import Derived.Lib.SmallJoins
import Derived.Shelf.Vars
namespace Go.Proofs.YtfoodfhhdbaieaaDoor.Giv
set_option maxRecDepth 100000
set_option linter.unusedVariables false
set_option linter.unusedSimpArgs false
open Go.ChangeShapes Go.WideShapes Go.RowKit Go.Shelf Go.Proofs.YtfoodfhhdbaieaaDoorW.PrintWords Go.Proofs.YtfoodfhhdbaieaaDoorW.PrintLast Go.Proofs.YtfoodfhhdbaieaaDoorW.PrintMore
open Go.Proofs.YtfoodfhhdbaieaaDoor.Ka (S40 k40 z40 rd_T40 at_T40 k40_open k40_mk)
theorem tab_of {W : World} {l : List (String × DataW Unit)} {name : String} {k : IntKind} {zs : List Int} {g : Nat} {t e : TypeId} {n : Nat} (hl : laidMetH Tryd.prog l W)
  (hf : l.filter (fun x => x.1 == name) = [(name, Lib.tabData k zs)]) (hh : (Lib.tabData k zs : DataW Unit).handleName? = none)
  (hg : Tryd.prog.globalNamed name = some g) (hty : (Tryd.prog.globals[g]?).map (·.type) = some t) (ht : Tryd.prog.underlying t = some (.array n e)) (he : Tryd.prog.underlying e = some (.int k)) (hce : Tryd.prog.cellsOf e = 1) (hct : Tryd.prog.cellsOf t = n) : Lib.TabIs Tryd.prog W name k zs := by
 have h1 := hl.filter (fun x => x.1 == name)
 rw [hf] at h1
 rw [MakeChecks.laidMetH_plain _ _ _ (by simp [hh])] at h1
 exact Lib.tabIs_of_head hg hty ht he hce hct h1
theorem iface_of {W : World} {l : List (String × DataW Unit)} {name s : String} {d : DataW Unit} {g : Nat} {t : TypeId} {ms : Array (String × TypeId)} (hl : laidMetH Tryd.prog l W)
  (hf : l.filter (fun x => x.1 == name) = [(name, .iface s d)]) (hh : (DataW.iface s d : DataW Unit).handleName? = none)
  (hg : Tryd.prog.globalNamed name = some g) (hty : (Tryd.prog.globals[g]?).map (·.type) = some t) (ht : Tryd.prog.underlying t = some (.interface ms)) : ∃ ev, W.cell? ⟨g, 0, none⟩ = some ev ∧ (ev = .nilIface ∨ ∃ te pe, ev = .iface te pe) := by
 have h1 := hl.filter (fun x => x.1 == name)
 rw [hf] at h1
 rw [MakeChecks.laidMetH_plain _ _ _ (by simp [hh])] at h1
 obtain ⟨ps, ⟨g', t', cs, fuel, p, q, hg', ht', hvar, hd, _, _⟩, _⟩ := h1
 obtain rfl := Option.some.inj (hg.symm.trans hg')
 obtain rfl := Option.some.inj (hty.symm.trans ht')
 obtain ⟨f', u, v, e, _, _⟩ := iface_of_trod ht hd
 have hc := World.var?_cell hg hvar 0
 have e2 : cs[0]? = some (.iface u v) := by rw [← Array.getElem?_toList, e]; rfl
 exact ⟨_, hc.trans e2, .inr ⟨u, v, rfl⟩⟩
theorem laid_of {W : World} {l : List (String × DataW Unit)} (hl : laidMetH Tryd.prog l W)
  (h1 : l.filter (fun x => x.1 == "internal/strconv.uint64pow10") = [("internal/strconv.uint64pow10", Lib.tabData .u64 Lib.pow10Tab)]) : Laid W where
 pow := tab_of (g := 1) (t := 123) (n := 20) (e := 109) hl h1 (by kernel_rfl) (by kernel_rfl) (by kernel_rfl) (by kernel_rfl) (by kernel_rfl) (by kernel_rfl) (by kernel_rfl)
end Go.Proofs.YtfoodfhhdbaieaaDoor.Giv
-- CUT by a program of this session: what the claim does not use is left out
namespace Go.Proofs.YtfoodfhhdbaieaaDoor.Giv
set_option maxRecDepth 100000
set_option linter.unusedVariables false
set_option linter.unusedSimpArgs false
open Go.ChangeShapes Go.WideShapes Go.RowKit Go.Shelf
theorem laidP_of {W : World} {l : List (String × DataW Unit)} (hl : laidMetH Tryd.prog l W) (hsh : W.ShapedOpen Tryd.prog)
  (h1 : l.filter (fun x => x.1 == "internal/strconv.uint64pow10") = [("internal/strconv.uint64pow10", Lib.tabData .u64 Lib.pow10Tab)])
  (h3 : l.filter (fun x => x.1 == "strconv.ErrSyntax") = [("strconv.ErrSyntax", Rows.laid_strconv_ErrSyntax)]) (h4 : l.filter (fun x => x.1 == "strconv.ErrRange") = [("strconv.ErrRange", Rows.laid_strconv_ErrRange)]) : LaidP W where
 lay := laid_of hl h1
 len := cell_of_shapedOpen_int (zero := #[.int .i64 0]) (t := 3) hsh (of_decide_eq_true (by kernel_rfl)) (by kernel_rfl) rfl (by kernel_rfl) (by kernel_rfl) Tryd.underlying3
 syn := iface_of (g := 4) (t := 78) hl h3 (by kernel_rfl) (by kernel_rfl) (by kernel_rfl) Tryd.underlying78
 ran := iface_of (g := 5) (t := 78) hl h4 (by kernel_rfl) (by kernel_rfl) (by kernel_rfl) Tryd.underlying78
theorem laid_parses {W : World} (hl : laidMetH Tryd.prog Rows.tapeParsesRow.laid W) (hsh : W.ShapedOpen Tryd.prog) : LaidP W := laidP_of hl hsh (by kernel_rfl) (by kernel_rfl) (by kernel_rfl)
end Go.Proofs.YtfoodfhhdbaieaaDoor.Giv
