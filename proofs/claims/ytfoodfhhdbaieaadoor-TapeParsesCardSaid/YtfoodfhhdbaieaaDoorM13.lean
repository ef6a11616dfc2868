-- CUT by a program of this session: what the claim does not use is left out
import Derived.Test.YtfoodfhhdbaieaaDoorM12
import Derived.Test.YtfoodfhhdbaieaaDoorM9
namespace Go.Proofs.YtfoodfhhdbaieaaDoor.Giv
set_option maxRecDepth 100000
set_option linter.unusedVariables false
set_option linter.unusedSimpArgs false
open Go.RowKit Go.Shelf Go.Proofs.YtfoodfhhdbaieaaDoorW.PrintWords Go.Proofs.YtfoodfhhdbaieaaDoorW.PrintLast Go.Proofs.YtfoodfhhdbaieaaDoorW.PrintMore
open Go.Proofs.YtfoodfhhdbaieaaDoor.Ka (S40 k40 z40 rd_T40 at_T40 k40_open k40_mk rd_L1 at_L1 info3 info38 info40)
theorem mapM_next {α β : Type} {f : α → Option β} {l : List α} {j : Nat} {xs : List β} {x : β} (hj : j < l.length) (h : (l.take j).mapM f = some xs) (hx : f l[j] = some x) : (l.take (j + 1)).mapM f = some (xs ++ [x]) := by
 rw [List.take_succ_eq_append_getElem hj, List.mapM_append, h]
 simp [hx]
theorem mapM_stop {α β : Type} {f : α → Option β} {l : List α} {j : Nat} (hj : j < l.length) (hx : f l[j] = none) : l.mapM f = none := by
 have e : l = l.take j ++ l[j] :: l.drop (j + 1) := by
  rw [← List.drop_eq_getElem_cons hj, List.take_append_drop]
 rw [e, List.mapM_append]
 cases (l.take j).mapM f with
 | none => rfl
 | some y => rw [List.mapM_cons, hx]; rfl
theorem mapM_len {α β : Type} {f : α → Option β} : ∀ {l : List α} {xs : List β}, l.mapM f = some xs → xs.length = l.length
 | [], xs, h => by simp at h; subst h; rfl
 | a :: l, xs, h => by
  rw [List.mapM_cons] at h
  cases h1 : f a with
  | none => rw [h1] at h; cases h
  | some y =>
   cases h2 : l.mapM f with
   | none => rw [h1, h2] at h; cases h
   | some ys =>
    rw [h1, h2] at h
    obtain rfl := Option.some.inj h
    simp [mapM_len h2]
theorem number_some (s : ByteArray) (y : Int) (w : World) (hlay : LaidP w) (hs : s.size ≤ 100000) (h : numR s.data.toList = some y) : Calls Tryd.prog 45 #[.string s] w fun e w' => e = .returned (.tuple #[.int .i64 y, .bool true]) ∧ Below w.heap.size w w' := by
 refine (number_calls s w hlay hs).mono ?_
 rintro e w' ⟨n, rfl, h1, hb⟩
 rw [h1 y h, h]
 exact ⟨rfl, hb⟩
theorem number_none (s : ByteArray) (w : World) (hlay : LaidP w) (hs : s.size ≤ 100000) (h : numR s.data.toList = none) : Calls Tryd.prog 45 #[.string s] w fun e w' => ∃ n, e = .returned (.tuple #[.int .i64 n, .bool false]) ∧ Below w.heap.size w w' := by
 refine (number_calls s w hlay hs).mono ?_
 rintro e w' ⟨n, rfl, h1, hb⟩
 rw [h]
 exact ⟨n, rfl, hb⟩
theorem number_either (s : ByteArray) (w : World) (hlay : LaidP w) (hs : s.size ≤ 100000) : Calls Tryd.prog 45 #[.string s] w fun e w' => ∃ n b, e = .returned (.tuple #[.int .i64 n, .bool b]) ∧ Below w.heap.size w w' := by
 refine (number_calls s w hlay hs).mono ?_
 rintro e w' ⟨n, rfl, h1, hb⟩
 exact ⟨n, _, rfl, hb⟩
def wordR (x : ByteArray) : Option Int := if x.toList = [45, 49] then some (-1) else numR x.data.toList
def intsR (s : ByteArray) : Option (List Int) := (cutB s blank).mapM wordR
theorem str_at {W : World} {P : Nat} {l : List ByteArray} (h : W.heap[P]? = some (.cells (l.map Value.string).toArray 9 (0, 0))) {i : Nat} (hi : i < l.length) : W.cell? ⟨P, i, none⟩ = some (.string l[i]) := by
 rw [Lib.cell_of_heap h]; simp [hi]
theorem app_keep {w W w2 w3 : World} {v : Value} {n P : Nat} {vs : List Value} {cs : Array Value} (hO : W.ownsRow w.heap.size 3 1 v n vs) (hb : Below w.heap.size w W) (hb2 : Below W.heap.size W w2) (hg : w2.grownBy w3 v.ownBlock) (hP : W.heap[P]? = some (.cells cs 9 (0, 0))) :
  w3.heap[P]? = some (.cells cs 9 (0, 0)) ∧ Below w.heap.size w w3 := by
 have hl : P < W.heap.size := (Array.getElem?_eq_some_iff.1 hP).1
 have hl2 := hb2.size
 constructor
 ·refine (hg.block P (by omega) (fun e => ?_)).trans ((hb2.block P hl).trans hP)
  obtain ⟨cells, hc⟩ := own_typed hO P e.symm
  rw [hP] at hc
  cases hc
 ·have h1 := below_step hb hb2
  exact h1.grown hg h1.size (fun k hk => (hO.lt k hk).1)
set_option maxHeartbeats 8000000 in
theorem integers_calls (s : ByteArray) (w : World) (hlay : LaidP w) (hs : s.size ≤ 100000) (hc : (cutB s blank).length ≤ 100001) :
  Calls Tryd.prog 29 #[.string s] w fun e w' => ∃ v, e = .returned (.tuple #[v, .bool (intsR s).isSome]) ∧ (intsR s = none → v = .slice none 0 0) ∧ (∀ l, intsR s = some l → w'.ownsRow w.heap.size 3 1 v l.length (l.map (Value.int .i64))) ∧ Below w.heap.size w w' := by
 have HLAY := Aside0.mk hlay
 have HS := Aside0.mk hs
 have HCN := Aside0.mk hc
 clear hlay hs hc
 go_enter Tryd.func29, Tryd.ntmps29
 go_wp2_with (go_at_call 28; refine (split_calls s blank w HLAY.out HS.out (by decide)).mono ?_; rintro e w1 ⟨P, rfl, hP, hPb, hb1⟩; have HP := Aside0.mk hP; have HPB := Aside0.mk hPb; have HB1 := Aside0.mk hb1; clear hP hPb hb1)
 obtain ⟨L, hL⟩ : ∃ L, cutB s blank = L := ⟨_, rfl⟩
 have HLX : Aside0 (∀ x ∈ L, x.size ≤ 100000) := ⟨fun x hx => by rw [← hL] at hx; exact Nat.le_trans (cutB_size hx) HS.out⟩
 have HIR : Aside0 (intsR s = L.mapM wordR) := ⟨by unfold intsR; rw [hL]⟩
 rw [hL] at HP HCN ⊢
 clear hL
 go_loopg [4, 12] L.length (fun gg s4 s12 W => ∃ (i : Nat) (xs : List Int), s12 = .int .i64 (i : Int) ∧ Aside0 (i ≤ L.length) ∧ Aside0 (L.length - i = gg) ∧ Aside0 ((L.take i).mapM wordR = some xs) ∧ Aside0 (xs.length = i) ∧ Aside0 (W.ownsRow w.heap.size 3 1 s4 i (xs.map (Value.int .i64))) ∧ Aside0 (W.heap[P]? = some (.cells (L.map Value.string).toArray 9 (0, 0))) ∧ Aside0 (Below w.heap.size w W))
 case atStart => exact ⟨0, [], rfl, ⟨by omega⟩, ⟨by omega⟩, ⟨rfl⟩, ⟨rfl⟩, ⟨World.ownsRow_nil _ _ _ _⟩, HP, HB1⟩
 case round =>
  clear HP HB1
  obtain ⟨i, xs, rfl, HI, HG2, HXS, HXL, HO, HP, HB⟩ := hrel
  by_cases cl : i < L.length
  ·have clb : decide ((i : Int) < (L.length : Int)) = true := decide_eq_true (by omega)
   have clb2 : decide (i < L.length) = true := decide_eq_true cl
   have p1 : (0 ≤ (i : Int)) = True := eq_true (by omega)
   have q1 : ((i : Int) < (L.length : Int)) = True := eq_true (by omega)
   have q2 : (i < L.length) = True := eq_true cl
   have b1 : (0 : Int) ≤ (i : Int) := by omega
   have b2 : (i : Int) ≤ 100001 := by have := HCN.out; omega
   have hx := str_at HP.out cl
   have HM := Aside0.mk (HLX.out _ (List.getElem_mem cl))
   have CL := Aside0.mk cl
   have HNX : Aside0 (∀ y, wordR L[i] = some y → (L.take (i + 1)).mapM wordR = some (xs ++ [y])) := ⟨fun y hy => mapM_next cl HXS.out hy⟩
   have HST : Aside0 (wordR L[i] = none → L.mapM wordR = none) := ⟨fun hy => mapM_stop cl hy⟩
   obtain ⟨x, ex⟩ : ∃ x, x = L[i] := ⟨_, rfl⟩
   rw [← ex] at hx HM HNX HST
   clear ex cl
   obtain ⟨q, hq⟩ : ∃ q, (x.toList == [45, 49]) = q := ⟨_, rfl⟩
   have HQ := Aside0.mk hq
   cases q with
   | true =>
    have HW : Aside0 (wordR x = some (-1)) := ⟨by unfold wordR; rw [if_pos (beq_iff_eq.1 HQ.out)]⟩
    go_wp2_with (first
     | (go_at_call 45; refine (number_either x _ (HLAY.out.below HB.out) HM.out).mono ?_; rintro e w2 ⟨n, b, rfl, hb⟩; have HB2 := Aside0.mk hb; clear hb)
     | ((with_reducible refine gate_dst (N := 28) rfl ?_); go_must (refine wpList_append_one w.heap.size rfl (.tmp 25) (.tmp 27) 38 3 (.int .i64 0) 8 rfl Tryd.underlying38 info3 rfl (by decide) u4 i _ _ rfl rfl rfl (pw_own_below HO.out HB2.out) ?hb ?hbase ?_; (case hb => have := CL.out; have := HCN.out; omega); (case hbase => exact (below_step HB.out HB2.out).size); intro v1 w3 ho1 hg1 hat1; have HO1 := Aside0.mk ho1; have HG1 := Aside0.mk hg1; clear ho1 hg1 hat1)))
    go_roundg (L.length - (i + 1))
    case measure => have := HG2.out; have := CL.out; omega
    case rel =>
     have := CL.out
     refine ⟨i + 1, xs ++ [-1], ?_, ⟨by omega⟩, ⟨by omega⟩, ⟨HNX.out _ HW.out⟩, ⟨by rw [List.length_append, HXL.out]; rfl⟩, ⟨by rw [List.map_append]; exact HO1.out⟩, ⟨?_⟩, ⟨?_⟩⟩
     ·simp
     ·exact (app_keep HO.out HB.out HB2.out HG1.out HP.out).1
     ·exact (app_keep HO.out HB.out HB2.out HG1.out HP.out).2
   | false =>
    cases hv : wordR x with
    | some y =>
     have HV : Aside0 (numR x.data.toList = some y) := ⟨by have := hv; unfold wordR at this; rwa [if_neg (fun h => by rw [h] at hq; cases hq)] at this⟩
     have HW := Aside0.mk hv
     clear hv
     go_wp2_with (first
      | (go_at_call 45; refine (number_some x y _ (HLAY.out.below HB.out) HM.out HV.out).mono ?_; rintro e w2 ⟨rfl, hb⟩; have HB2 := Aside0.mk hb; clear hb)
      | ((with_reducible refine gate_dst (N := 28) rfl ?_); go_must (refine wpList_append_one w.heap.size rfl (.tmp 25) (.tmp 27) 38 3 (.int .i64 0) 8 rfl Tryd.underlying38 info3 rfl (by decide) u4 i _ _ rfl rfl rfl (pw_own_below HO.out HB2.out) ?hb ?hbase ?_; (case hb => have := CL.out; have := HCN.out; omega); (case hbase => exact (below_step HB.out HB2.out).size); intro v1 w3 ho1 hg1 hat1; have HO1 := Aside0.mk ho1; have HG1 := Aside0.mk hg1; clear ho1 hg1 hat1)))
     go_roundg (L.length - (i + 1))
     case measure => have := HG2.out; have := CL.out; omega
     case rel =>
      have := CL.out
      refine ⟨i + 1, xs ++ [y], ?_, ⟨by omega⟩, ⟨by omega⟩, ⟨HNX.out _ HW.out⟩, ⟨by rw [List.length_append, HXL.out]; rfl⟩, ⟨by rw [List.map_append]; exact HO1.out⟩, ⟨?_⟩, ⟨?_⟩⟩
      ·simp
      ·exact (app_keep HO.out HB.out HB2.out HG1.out HP.out).1
      ·exact (app_keep HO.out HB.out HB2.out HG1.out HP.out).2
    | none =>
     have HV : Aside0 (numR x.data.toList = none) := ⟨by have := hv; unfold wordR at this; rwa [if_neg (fun h => by rw [h] at hq; cases hq)] at this⟩
     have HW := Aside0.mk hv
     clear hv
     go_wp2_with (go_at_call 45; refine (number_none x _ (HLAY.out.below HB.out) HM.out HV.out).mono ?_; rintro e w2 ⟨n, rfl, hb⟩; have HB2 := Aside0.mk hb; clear hb)
     have HN : intsR s = none := by rw [HIR.out]; exact HST.out HW.out
     refine bodyPost_ret (v := .tuple #[.slice none 0 0, .bool false]) (by simp [results, Tryd.results29, go_sem]) rfl ?_
     exact ⟨_, by rw [HN]; rfl, fun _ => rfl, (fun l h => by rw [HN] at h; cases h), below_step HB.out HB2.out⟩
  ·have clb : decide ((i : Int) < (L.length : Int)) = false := decide_eq_false (by omega)
   have clb2 : decide (i < L.length) = false := decide_eq_false cl
   have HFI : Aside0 (intsR s = some xs) := ⟨by rw [HIR.out, ← HXS.out, List.take_of_length_le (by omega)]⟩
   clear cl
   go_wp2
   refine bodyPost_ret (v := .tuple #[u4, .bool true]) (by simp [results, Tryd.results29, go_sem]) rfl ?_
   refine ⟨_, by rw [HFI.out]; rfl, (fun h => by rw [HFI.out] at h; cases h), fun l h => ?_, HB.out⟩
   rw [HFI.out] at h
   obtain rfl := Option.some.inj h
   rw [HXL.out]; exact HO.out
end Go.Proofs.YtfoodfhhdbaieaaDoor.Giv
