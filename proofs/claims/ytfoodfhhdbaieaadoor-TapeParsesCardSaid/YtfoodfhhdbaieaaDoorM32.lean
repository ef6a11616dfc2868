-- CUT by a program of this session: what the claim does not use is left out
import Derived.Test.YtfoodfhhdbaieaaDoorM31
import Derived.Test.YtfoodfhhdbaieaaDoorM30
namespace Go.Proofs.YtfoodfhhdbaieaaDoor.Pure
set_option maxRecDepth 100000
set_option linter.unusedVariables false
set_option linter.unusedSimpArgs false
open Go.RowKit Go.Proofs.YtfoodfhhdbaieaaDoorW.PrintWords Go.Proofs.YtfoodfhhdbaieaaDoorW.PrintLast Go.Proofs.YtfoodfhhdbaieaaDoorW.PrintMore
open Go.Proofs.YtfoodfhhdbaieaaDoor.Giv Go.Proofs.YtfoodfhhdbaieaaDoor.Tx
def readIntV (x : ByteArray) : Int × Bool :=
 if 0 < x.size ∧ (bt x 0 == 45) = true then (wrap64 (-(readV (x.extract 1 x.size).data.toList)), decide (readV (x.extract 1 x.size).data.toList > 0)) else (readV x.data.toList, decide (readV x.data.toList ≥ 0))
theorem readInt_ev (x : ByteArray) : Ev (fun k => commodatumref20_readInt.f k x) (readIntV x) := by
 unfold readIntV
 by_cases h0 : 0 < x.size
 ·cases hb : (bt x 0 == 45) with
  | true =>
   rw [if_pos ⟨h0, rfl⟩]
   have i := read_ev (x.extract 1 x.size)
   refine Ev1 (Ev.bind (f := fun _ (t : Int) => some (wrap64 (-t), decide (t > 0))) i (Ev.now _)) fun k => ?_
   unfold commodatumref20_readInt.f
   rw [if_pos (by omega), if_pos (by omega), hb]
   simp only [commodatumref20_readInt.j0]
   rw [if_pos trivial, if_pos (by omega)]
  | false =>
   rw [if_neg (fun h => by cases h.2)]
   have i := read_ev x
   refine Ev1 (Ev.bind (f := fun _ (t : Int) => some (t, decide (t ≥ 0))) i (Ev.now _)) fun k => ?_
   unfold commodatumref20_readInt.f
   rw [if_pos (by omega), if_pos (by omega), hb]
   simp only [commodatumref20_readInt.j0]
   rw [if_neg (by decide)]
 ·rw [if_neg (fun h => h0 h.1)]
  have i := read_ev x
  refine Ev1 (Ev.bind (f := fun _ (t : Int) => some (t, decide (t ≥ 0))) i (Ev.now _)) fun k => ?_
  unfold commodatumref20_readInt.f
  rw [if_neg (by omega)]
  simp only [commodatumref20_readInt.j0]
  rw [if_neg (by decide)]
def wordQ (x : ByteArray) : Option Int := if (readIntV x).2 = true then some (readIntV x).1 else none
def numsQ (s : ByteArray) : Option (List Int) := (splR s Giv.blank 0 0).mapM wordQ
def outQ (xs : List Int) : Option (List Int) → List Int × Bool
 | some ys => (xs ++ ys, true)
 | none => ([], false)
theorem nums_l0 (ws : List ByteArray) (hl : ws.length ≤ 1000000) : ∀ (d j : Nat) (xs : List Int), j + d = ws.length → xs.length ≤ j → Ev (fun k => commodatumref20_numbers.l0 k ws xs (j : Int)) (outQ xs ((ws.drop j).mapM wordQ)) := by
 intro d
 induction d with
 | zero =>
  intro j xs hj hx
  rw [List.drop_eq_nil_of_le (by omega)]
  refine EvS fun k => ?_
  simp only [commodatumref20_numbers.l0]
  rw [if_neg (by omega)]
  simp [outQ]
 | succ d ih =>
  intro j xs hj hx
  have hlt : j < ws.length := by omega
  rw [List.drop_eq_getElem_cons hlt, List.mapM_cons]
  have i := readInt_ev ws[j]
  have er : rdOf ByteArray.empty ws (j : Int) = ws[j] := by simp [rdOf, List.getD_eq_getElem?_getD, List.getElem?_eq_getElem hlt]
  cases hb : (readIntV ws[j]).2 with
  | true =>
   have hw : wordQ ws[j] = some (readIntV ws[j]).1 := by unfold wordQ; rw [if_pos hb]
   rw [hw]
   have i2 := ih (j + 1) (xs ++ [(readIntV ws[j]).1]) (by omega) (by simp; omega)
   have e : outQ (xs ++ [(readIntV ws[j]).1]) ((ws.drop (j + 1)).mapM wordQ) = outQ xs ((some (readIntV ws[j]).1).bind fun y => ((ws.drop (j + 1)).mapM wordQ).bind fun ys => some (y :: ys)) := by
    cases (ws.drop (j + 1)).mapM wordQ with
    | none => rfl
    | some ys => simp [outQ]
   have eq : (some (readIntV ws[j]).1 >>= fun y => (ws.drop (j + 1)).mapM wordQ >>= fun ys => pure (y :: ys)) = ((some (readIntV ws[j]).1).bind fun y => ((ws.drop (j + 1)).mapM wordQ).bind fun ys => some (y :: ys)) := rfl
   rw [eq, ← e]
   refine Ev1 (Ev.bind (f := fun k (bt : Int × Bool) => if bt.2 = true then (if xs.length < 17592186044416 then (commodatumref20_numbers.l0 k ws (xs ++ [bt.1]) (wrap64 ((j : Int) + 1))) else none) else some ([], false)) i ?_) fun k => ?_
   ·refine EvC i2 fun k => ?_
    rw [if_pos hb, if_pos (by omega), w64 j (by omega)]
   ·simp only [commodatumref20_numbers.l0]
    rw [if_pos (by omega), if_pos (by omega), er]
  | false =>
   have hw : wordQ ws[j] = none := by unfold wordQ; rw [if_neg (by rw [hb]; decide)]
   rw [hw]
   refine Ev1 (Ev.bind (f := fun k (bt : Int × Bool) => if bt.2 = true then (if xs.length < 17592186044416 then (commodatumref20_numbers.l0 k ws (xs ++ [bt.1]) (wrap64 ((j : Int) + 1))) else none) else some ([], false)) i ?_) fun k => ?_
   ·refine EvC (Ev.now _) fun k => ?_
    rw [if_neg (by rw [hb]; decide)]
    rfl
   ·simp only [commodatumref20_numbers.l0]
    rw [if_pos (by omega), if_pos (by omega), er]
theorem numbers_ev (s : ByteArray) (hs : s.size ≤ 100000) : Ev (fun k => commodatumref20_numbers.f k s) (outQ [] (numsQ s)) := by
 have i := split_ev s Giv.blank hs (by decide) (by decide)
 have hl := splR_len s Giv.blank 0 0 (by omega)
 have i2 := nums_l0 (splR s Giv.blank 0 0) (by omega) (splR s Giv.blank 0 0).length 0 [] (by omega) (by simp)
 rw [List.drop_zero] at i2
 refine EvC (Ev.bind (f := fun k (t : List ByteArray) => commodatumref20_numbers.l0 k t ([] : List Int) 0) i i2) fun k => rfl
theorem readV_nn {y : Int} (h : 0 ≤ y) (h2 : y < 10000) : readIntV (Giv.bytesOf (Lib.itoa y)) = (y, true) := by
 have hd : (Giv.bytesOf (Lib.itoa y)).data.toList = Lib.itoa y := by simp [Giv.bytesOf]
 unfold readIntV
 rw [if_neg, hd, readV_itoa h h2, decide_eq_true h]
 rintro ⟨h0, h1⟩
 have hb := bt_at (Giv.bytesOf (Lib.itoa y)) 0 h0
 rw [beq_iff_eq] at h1
 rw [h1] at hb
 have hm : (Giv.bytesOf (Lib.itoa y))[(0 : Int).toNat] ∈ (Giv.bytesOf (Lib.itoa y)).data.toList := Array.mem_toList_iff.2 (Array.getElem_mem _)
 generalize (Giv.bytesOf (Lib.itoa y))[(0 : Int).toNat] = z at hm hb
 rw [hd, itoa_nn h] at hm
 have := (dec_digits _ hm).1
 omega
theorem wordQ_itoa {y : Int} (h0 : -1 ≤ y) (h1 : y < 10000) : wordQ (Giv.bytesOf (Lib.itoa y)) = some y := by
 by_cases e : y = -1
 ·subst e
  decide +kernel
 ·unfold wordQ
  rw [readV_nn (by omega) h1]
  rfl
theorem numsQ_reads : ReadsB numsQ := by
 intro l hl hn
 cases l with
 | nil => exact absurd rfl hl
 | cons y l =>
  unfold numsQ
  rw [splR_join (sep := Giv.blank) (c := 32) (t := []) rfl (l.map Lib.itoa) (Lib.itoa y) 0]
  ·rw [show (Lib.itoa y :: l.map Lib.itoa) = (y :: l).map Lib.itoa from rfl, List.map_map]
   exact mapM_all (g := Giv.bytesOf ∘ Lib.itoa) (y :: l) (fun z hz => wordQ_itoa (hn z hz).1 (hn z hz).2)
  ·rw [List.drop_zero, show (Giv.bytesOf (numsB (y :: l))).data.toList = numsB (y :: l) by simp [Giv.bytesOf], numsB_join]
  ·intro x hx
   rw [show (Lib.itoa y :: l.map Lib.itoa) = (y :: l).map Lib.itoa from rfl] at hx
   obtain ⟨z, _, rfl⟩ := List.mem_map.1 hx
   exact itoa_no 32 (.inl rfl)
theorem spl_write (a0 a1 a2 : Int) (l : List Ka.S40) : splR (Giv.bytesOf (writeT a0 a1 a2 l)) Giv.semi 0 0 = piecesB a0 a1 a2 l := by
 rw [splR_join (sep := Giv.semi) (c := 59) (t := [32]) rfl (l.map fun r => numsB (ruleN r)) (numsB [a0, a1, a2]) 0]
 ·rfl
 ·rw [List.drop_zero, show (Giv.bytesOf (writeT a0 a1 a2 l)).data.toList = writeT a0 a1 a2 l by simp [Giv.bytesOf], writeT_join]
 ·exact pieces_no a0 a1 a2 l
theorem parse_same (s : ByteArray) : parseP numsQ (splR s Giv.semi 0 0) s = parseP intsR (cutB s Giv.semi) s := by
 cases h : parseP numsQ (splR s Giv.semi 0 0) s with
 | some m =>
  obtain ⟨a0, a1, a2, l⟩ := m
  obtain ⟨h1, h2⟩ := parseP_sound h
  have e := bytes_of_data s h2
  have := parseP_write intsR_reads h1
  rw [← cut_write, ← e] at this
  exact this.symm
 | none =>
  cases k : parseP intsR (cutB s Giv.semi) s with
  | none => rfl
  | some m =>
   obtain ⟨a0, a1, a2, l⟩ := m
   obtain ⟨h1, h2⟩ := parseP_sound k
   have e := bytes_of_data s h2
   have := parseP_write numsQ_reads h1
   rw [← spl_write, ← e, h] at this
   cases this
end Go.Proofs.YtfoodfhhdbaieaaDoor.Pure
