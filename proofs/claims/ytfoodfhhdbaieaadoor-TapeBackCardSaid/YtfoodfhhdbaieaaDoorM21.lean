-- CUT by a program of this session: what the claim does not use is left out
import Derived.Test.YtfoodfhhdbaieaaDoorM7
import Derived.Test.YtfoodfhhdbaieaaDoorM18
import Derived.Test.YtfoodfhhdbaieaaDoorRows
import Derived.Test.YtfoodfhhdbaieaaDoorWAll
import Derived.Test.YtfoodfhhdbaieaaDoorHand
import Derived.Lib.LaidTab
import Derived.LaidSub
import Derived.LaidByTextLater
import Derived.Deep.Slices
import Derived.Lib.SmallJoins
namespace Go.Proofs.YtfoodfhhdbaieaaDoor.Giv
set_option maxRecDepth 100000
set_option linter.unusedVariables false
set_option linter.unusedSimpArgs false
open Go.ChangeShapes Go.WideShapes Go.RowKit Go.Shelf Go.Proofs.YtfoodfhhdbaieaaDoorW.PrintWords Go.Proofs.YtfoodfhhdbaieaaDoorW.PrintLast Go.Proofs.YtfoodfhhdbaieaaDoorW.PrintMore
open Go.Proofs.YtfoodfhhdbaieaaDoor.Ka (S40 k40 z40 rd_T40 at_T40 k40_open k40_mk)
theorem tab_of {W : World} {l : List (String × DataW Unit)} {name : String} {k : IntKind} {zs : List Int} {g : Nat} {t e : TypeId} {n : Nat} (hl : laidMetH Tryd.prog l W)
  (hf : l.filter (fun x => x.1 == name) = [(name, Lib.tabData k zs)]) (hh : (Lib.tabData k zs : DataW Unit).handleName? = none)
  (hg : Tryd.prog.globalNamed name = some g) (hty : (Tryd.prog.globals[g]?).map (·.type) = some t) (ht : Tryd.prog.underlying t = some (.array n e)) (he : Tryd.prog.underlying e = some (.int k)) (hce : Tryd.prog.cellsOf e = 1) (hct : Tryd.prog.cellsOf t = n) : Lib.TabIs Tryd.prog W name k zs := by
 have h1 := hl.filter (fun x => x.1 == name)
 rw [hf] at h1
 rw [MakeChecks.laidMetH_plain _ _ _ (by simp [hh])] at h1
 exact Lib.tabIs_of_head hg hty ht he hce hct h1
theorem iface_of {W : World} {l : List (String × DataW Unit)} {name s : String} {d : DataW Unit} {g : Nat} {t : TypeId} {ms : Array (String × TypeId)} (hl : laidMetH Tryd.prog l W)
  (hf : l.filter (fun x => x.1 == name) = [(name, .iface s d)]) (hh : (DataW.iface s d : DataW Unit).handleName? = none)
  (hg : Tryd.prog.globalNamed name = some g) (hty : (Tryd.prog.globals[g]?).map (·.type) = some t) (ht : Tryd.prog.underlying t = some (.interface ms)) : ∃ ev, W.cell? ⟨g, 0, none⟩ = some ev ∧ (ev = .nilIface ∨ ∃ te pe, ev = .iface te pe) := by
 have h1 := hl.filter (fun x => x.1 == name)
 rw [hf] at h1
 rw [MakeChecks.laidMetH_plain _ _ _ (by simp [hh])] at h1
 obtain ⟨ps, ⟨g', t', cs, fuel, p, q, hg', ht', hvar, hd, _, _⟩, _⟩ := h1
 obtain rfl := Option.some.inj (hg.symm.trans hg')
 obtain rfl := Option.some.inj (hty.symm.trans ht')
 obtain ⟨f', u, v, e, _, _⟩ := iface_of_trod ht hd
 have hc := World.var?_cell hg hvar 0
 have e2 : cs[0]? = some (.iface u v) := by rw [← Array.getElem?_toList, e]; rfl
 exact ⟨_, hc.trans e2, .inr ⟨u, v, rfl⟩⟩
theorem laid_of {W : World} {l : List (String × DataW Unit)} (hl : laidMetH Tryd.prog l W)
  (h1 : l.filter (fun x => x.1 == "internal/strconv.uint64pow10") = [("internal/strconv.uint64pow10", Lib.tabData .u64 Lib.pow10Tab)]) : Laid W where
 pow := tab_of (g := 1) (t := 123) (n := 20) (e := 109) hl h1 (by kernel_rfl) (by kernel_rfl) (by kernel_rfl) (by kernel_rfl) (by kernel_rfl) (by kernel_rfl) (by kernel_rfl)
theorem lits_length {H : Type} (k : IntKind) (l : List Int) : (lits (H := H) k l).length = l.length := by simp [lits]
theorem open_row {H : Type} {enc : TypeId × Value → H} {W : World} {base : Nat} {held : Bool} {fuel : Nat} {cs : List Value} {x : DataW H × List MemPlace} (h : DataW.trod enc Tryd.prog W base (fun _ => true) held fuel 38 cs = some x) :
  ∃ A l c, cs = [.slice A (l : List Int).length c] ∧ l.length ≤ c ∧ Kd.C (Kd.int .i64) W A l.length l ∧ ((∀ m ∈ x.1.weights Tryd.prog 38, m ≤ reachBytes) → l.length * 8 ≤ reachBytes) := by
 rcases open_ints Tryd.underlying38 Tryd.underlying3 (by kernel_rfl) h with ⟨rfl, rfl⟩ | ⟨ad, len, cap, zs, rfl, _, hl, hm, hz, rfl, hcell, hwz⟩
 ·exact ⟨none, [], 0, rfl, Nat.le_refl _, ⟨rfl, by simp, fun h0 => absurd h0 (by simp)⟩, fun _ => by simp⟩
 ·simp only [if_true] at hz
  obtain ⟨l, e, hr, h1, h2, h3⟩ := ReadsInt.ofRowC (k := .i64) (w := W) (a := some ad) (len := len) (cap := cap) (zs := zs) (.inr ⟨ad, rfl, hl, hm, hz, hcell, hwz⟩)
  subst e
  refine ⟨some ad, l, cap, rfl, h3, Kd.C_of_reads (d := (0 : Int)) (h1 := fun _ => rfl) hr, fun hw => ?_⟩
  have := hw (((lits (H := H) .i64 (zs.take l.length)).length + (lits (H := H) .i64 (zs.drop l.length)).length) * Tryd.prog.bytesOf 3) (by simp [DataW.weights, Tryd.underlying38])
  rw [show Tryd.prog.bytesOf 3 = 8 by kernel_rfl, lits_length, lits_length, List.length_take, List.length_drop] at this
  omega
theorem list_of {α : Type} {P : Nat → α → Prop} : ∀ n : Nat, (∀ i, i < n → ∃ r, P i r) → ∃ l : List α, l.length = n ∧ ∀ i r, l[i]? = some r → P i r
 | 0, _ => ⟨[], rfl, fun i r h => by simp at h⟩
 | n + 1, h => by
  obtain ⟨l, hl, hp⟩ := list_of n (fun i hi => h i (by omega))
  obtain ⟨r, hr⟩ := h n (by omega)
  refine ⟨l ++ [r], by simp [hl], fun i x hx => ?_⟩
  rcases Nat.lt_or_ge i n with hi | hi
  ·rw [List.getElem?_append_left (by omega)] at hx
   exact hp i x hx
  ·rw [List.getElem?_append_right (by omega)] at hx
   have hi2 : i - l.length = 0 := by
    rcases Nat.eq_zero_or_pos (i - l.length) with h0 | h0
    ·exact h0
    ·rw [List.getElem?_eq_none (by simp; omega)] at hx; cases hx
   rw [hi2] at hx
   simp at hx
   subst hx
   have : i = n := by omega
   subst this
   exact hr
theorem cellsO40 : Tryd.prog.cellsOf 40 = 5 := by kernel_rfl
theorem cellsO38 : Tryd.prog.cellsOf 38 = 1 := by kernel_rfl
theorem cellsO3 : Tryd.prog.cellsOf 3 = 1 := by kernel_rfl
theorem list5 {α : Type} {l : List α} (h : l.length = 5) : ∃ a b c d e, l = [a, b, c, d, e] := by
 match l, h with
 | [a, b, c, d, e], _ => exact ⟨a, b, c, d, e, rfl⟩
theorem fits_of {n : Nat} (h : n * 8 ≤ reachBytes) : n ≤ 18000000000000 := by
 have : reachBytes < 2 ^ 47 := by decide
 omega
theorem open_rule {H : Type} {enc : TypeId × Value → H} {W : World} {base : Nat} {held : Bool} {fuel : Nat} {cs : List Value} {x : DataW H × List MemPlace} (h : DataW.trod enc Tryd.prog W base (fun _ => true) held fuel 40 cs = some x) :
  ∃ r : S40, k40.K W r cs ∧ ((∀ m ∈ x.1.weights Tryd.prog 40, m ≤ reachBytes) → Fits r) := by
 obtain ⟨xs, n, _, rfl, hl, hlen, hf⟩ := DataW.trod_struct Tryd.underlying40 h
 rw [cellsO40] at hl
 obtain ⟨c0, c1, c2, c3, c4, rfl⟩ := list5 hl
 obtain ⟨y0, y1, y2, y3, y4, rfl⟩ := list5 (hlen.trans rfl)
 have h0 := hf 0 _ rfl
 have h1 := hf 1 _ rfl
 have h2 := hf 2 _ rfl
 have h3 := hf 3 _ rfl
 have h4 := hf 4 _ rfl
 simp only [cellsO38, cellsO3, List.drop_zero, List.drop_succ_cons, List.take_succ_cons, List.take_zero, List.getElem?_cons_zero, List.getElem?_cons_succ] at h0 h1 h2 h3 h4
 obtain ⟨n0, e0, _⟩ := DataW.trod_int Tryd.underlying3 h0
 obtain ⟨n2, e2, _⟩ := DataW.trod_int Tryd.underlying3 h2
 obtain ⟨A1, l1, d1, e1, k1, g1, w1⟩ := open_row h1
 obtain ⟨A3, l3, d3, e3, k3, g3, w3⟩ := open_row h3
 obtain ⟨A4, l4, d4, e4, k4, g4, w4⟩ := open_row h4
 injection e0 with e0 _
 injection e1 with e1 _
 injection e2 with e2 _
 injection e3 with e3 _
 injection e4 with e4 _
 subst e0; subst e1; subst e2; subst e3; subst e4
 refine ⟨⟨n0, l1, n2, l3, l4⟩, k40_mk W ⟨n0, l1, n2, l3, l4⟩ k1 g1 k3 g3 k4 g4, fun hw => ?_⟩
 simp only [DataW.weights, Tryd.underlying40, List.map_cons, List.map_nil, DataW.weightsEach, List.mem_append] at hw
 refine ⟨fits_of (w1 fun m hm => hw m ?_), fits_of (w3 fun m hm => hw m ?_), fits_of (w4 fun m hm => hw m ?_)⟩
 ·exact .inr (.inl hm)
 ·exact .inr (.inr (.inr (.inl hm)))
 ·exact .inr (.inr (.inr (.inr (.inl hm))))
theorem weightsAll_mem {H : Type} {P : Program} {e : TypeId} {m : Nat} {d : DataW H} (hm : m ∈ d.weights P e) : ∀ {ds : List (DataW H)}, d ∈ ds → m ∈ DataW.weightsAll P e ds
 | d0 :: ds, hd => by
  simp only [DataW.weightsAll, List.mem_append]
  rcases List.mem_cons.1 hd with rfl | hd
  ·exact .inl hm
  ·exact .inr (weightsAll_mem hm hd)
theorem open_rules {H : Type} {enc : TypeId × Value → H} {W : World} {base : Nat} {held : Bool} {fuel : Nat} {cs : List Value} {x : DataW H × List MemPlace} (h : DataW.trod enc Tryd.prog W base (fun _ => true) held fuel 22 cs = some x) :
  ∃ A l c, cs = [.slice A (l : List S40).length c] ∧ l.length ≤ c ∧ Kd.C k40 W A l.length l ∧ ((∀ m ∈ x.1.weights Tryd.prog 22, m ≤ reachBytes) → ∀ r ∈ l, Fits r) := by
 rcases Go.Deep.open_slice Tryd.underlying22 h with ⟨rfl, rfl⟩ | ⟨a, len, cap, m, n, D, Pl, rfl, hb, hl, hm, hmm, rfl, hel⟩
 ·exact ⟨none, [], 0, rfl, Nat.le_refl _, ⟨rfl, by simp, fun h0 => absurd h0 (by simp)⟩, fun _ r hr => by cases hr⟩
 ·simp only [if_true] at hmm
  rw [cellsO40] at hel
  obtain ⟨l, hln, hP⟩ := list_of (P := fun i r => ∃ cs', W.cells? base (a.add (i * 5)) 5 = some cs' ∧ k40.K W r cs' ∧ ((∀ m ∈ (D i).weights Tryd.prog 40, m ≤ reachBytes) → Fits r)) len (fun i hi => by
   obtain ⟨cs', h1, h2⟩ := hel i (by omega)
   obtain ⟨r, k1, k2⟩ := open_rule h2
   exact ⟨r, cs', h1, k1, k2⟩)
  subst hln
  refine ⟨some a, l, cap, rfl, hl, ⟨rfl, by unfold maxLen at hm; omega, fun _ => ⟨a, rfl, fun j p hj => ?_⟩⟩, fun hw r hr => ?_⟩
  ·obtain ⟨cs', h1, h2, _⟩ := hP j p hj
   obtain ⟨_, h3, h4⟩ := World.cells?_some h1
   refine ⟨cs', h3, h2, fun i u hu => ?_⟩
   have hi : i < 5 := by have := (List.getElem?_eq_some_iff.1 hu).1; omega
   have := h4 i hi
   rw [hu] at this
   rw [← this]
   show W.cell? (a.add (j * 5 + i)) = _
   rw [Go.Proofs.YtfoodfhhdbaieaaDoorW.PrintWords.add_add]
  ·obtain ⟨j, hj, rfl⟩ := List.getElem_of_mem hr
   obtain ⟨cs', _, _, h3⟩ := hP j _ (List.getElem?_eq_getElem hj)
   refine h3 (fun m hm' => hw m ?_)
   simp only [DataW.weights, Tryd.underlying22, List.mem_cons, List.mem_append]
   exact .inr (.inl (weightsAll_mem hm' (List.mem_map.2 ⟨j, List.mem_range.2 hj, rfl⟩)))
theorem cellsO24 : Tryd.prog.cellsOf 24 = 4 := by kernel_rfl
theorem cellsO22 : Tryd.prog.cellsOf 22 = 1 := by kernel_rfl
theorem open_machine {H : Type} {enc : TypeId × Value → H} {W : World} {base : Nat} {held : Bool} {fuel : Nat} {cs : List Value} {x : DataW H × List MemPlace} (hM : DataW.trod enc Tryd.prog W base (fun _ => true) held fuel 24 cs = some x) :
  ∃ a0 a1 a2 A l c, cs = [.int .i64 a0, .int .i64 a1, .int .i64 a2, .slice A (l : List S40).length c] ∧ l.length ≤ c ∧ Kd.C k40 W A l.length l ∧ ((∀ m ∈ x.1.weights Tryd.prog 24, m ≤ reachBytes) → ∀ r ∈ l, Fits r) := by
 obtain ⟨_, _, _, _, hl, _, _⟩ := DataW.trod_struct Tryd.underlying24 hM
 rw [cellsO24] at hl
 match cs, hl with
 | [c0, c1, c2, c3], _ =>
  obtain ⟨z0, z1, z2, z3, n', rfl, _, m0, m1, m2, m3⟩ := Go.Joins.trod_struct4 Tryd.underlying24 hM
  simp only [cellsO3, cellsO22, List.drop_zero, List.drop_succ_cons, List.take_succ_cons, List.take_zero] at m0 m1 m2 m3
  obtain ⟨n0, e0, _⟩ := DataW.trod_int Tryd.underlying3 m0
  obtain ⟨n1, e1, _⟩ := DataW.trod_int Tryd.underlying3 m1
  obtain ⟨n2, e2, _⟩ := DataW.trod_int Tryd.underlying3 m2
  obtain ⟨A, l, d3, e3, k3, g3, w3⟩ := open_rules m3
  injection e0 with e0 _
  injection e1 with e1 _
  injection e2 with e2 _
  injection e3 with e3 _
  subst e0; subst e1; subst e2; subst e3
  refine ⟨n0, n1, n2, A, l, d3, rfl, k3, g3, fun hw => w3 (fun m hm => hw m ?_)⟩
  simp only [DataW.weights, Tryd.underlying24, List.map_cons, List.map_nil, DataW.weightsEach, List.mem_append]
  exact .inr (.inr (.inr (.inl hm)))
theorem machine_value {v : Value} {a b c d : Value} (h : v.cells.toList = [a, b, c, d]) : v = .agg #[a, b, c, d] := by
 cases v
 case agg cs => simp [Value.cells] at h; exact congrArg Value.agg (Array.toList_inj.1 h)
 all_goals simp [Value.cells] at h
end Go.Proofs.YtfoodfhhdbaieaaDoor.Giv
