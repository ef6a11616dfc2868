-- CUT by a program of this session: what the claim does not use is left out
import Derived.Test.YtfoodfhhdbaieaaDoorM13
import Derived.Test.YtfoodfhhdbaieaaDoorM16
import Derived.Test.YtfoodfhhdbaieaaDoorM11
import Derived.Test.YtfoodfhhdbaieaaDoorM29
namespace Go.Proofs.YtfoodfhhdbaieaaDoor.Giv
set_option maxRecDepth 100000
set_option linter.unusedVariables false
set_option linter.unusedSimpArgs false
open Go.RowKit Go.Shelf Go.Proofs.YtfoodfhhdbaieaaDoorW.PrintWords Go.Proofs.YtfoodfhhdbaieaaDoorW.PrintLast Go.Proofs.YtfoodfhhdbaieaaDoorW.PrintMore
open Go.Proofs.YtfoodfhhdbaieaaDoor.Ka (S40 k40 z40 rd_T40 at_T40 k40_open k40_mk rd_L1 at_L1 info3 info38 info40)
theorem bytes_back {xs : List ByteArray} {ys : List (List UInt8)} (h : xs.map (fun s => s.data.toList) = ys) : xs = ys.map bytesOf := by
 subst h
 rw [List.map_map]
 refine (List.map_id xs).symm.trans (List.map_congr_left fun s _ => ?_)
 simp [bytesOf]
theorem cutB_eq (s sep : ByteArray) : cutB s sep = (Lib.split s.data.toList sep.data.toList).map bytesOf :=
 bytes_back (Lib.splitB_data sep 0 _ s)
theorem bytes_of_data (s : ByteArray) {l : List UInt8} (h : l = s.data.toList) : s = bytesOf l := by
 subst h; simp [bytesOf]
theorem mapM_all {α β : Type} {f : α → Option β} {g : β → α} : ∀ (l : List β), (∀ x ∈ l, f (g x) = some x) → (l.map g).mapM f = some l
 | [], _ => rfl
 | x :: l, h => by
  rw [List.map_cons, List.mapM_cons, h x List.mem_cons_self, mapM_all l (fun y hy => h y (List.mem_cons_of_mem _ hy))]; rfl
theorem itoa_bytes {y : Int} : ∀ b ∈ Lib.itoa y, b = 45 ∨ (48 ≤ b.toNat ∧ b.toNat ≤ 57) := by
 intro b hb
 by_cases h : y < 0
 ·rw [itoa_neg h] at hb
  rcases List.mem_cons.1 hb with rfl | hb
  ·exact .inl rfl
  ·rw [itoa_nn (by omega)] at hb
   exact .inr (dec_digits b hb)
 ·rw [itoa_nn (by omega)] at hb
  exact .inr (dec_digits b hb)
theorem itoa_no {y : Int} (c : UInt8) (hc : c = 32 ∨ c = 59) : ∀ b ∈ Lib.itoa y, b ≠ c := by
 intro b hb e
 subst e
 rcases itoa_bytes b hb with h | h
 ·rcases hc with rfl | rfl <;> cases h
 ·rcases hc with rfl | rfl
  ·exact absurd h.1 (by decide)
  ·exact absurd h.2 (by decide)
theorem numsB_join (y : Int) (l : List Int) : numsB (y :: l) = Lib.itoa y ++ ((l.map Lib.itoa).map fun x => ([32] : List UInt8) ++ x).flatten := by
 rw [numsB_cons, listB, List.map_map]; rfl
theorem numsB_no (l : List Int) : ∀ b ∈ numsB l, b ≠ 59 := by
 cases l with
 | nil => intro b hb; simp [numsB] at hb
 | cons y l =>
  intro b hb
  rw [numsB_join] at hb
  simp only [List.mem_append, List.mem_flatten, List.mem_map] at hb
  rcases hb with hb | ⟨z, ⟨x, ⟨q, _, rfl⟩, rfl⟩, hb⟩
  ·exact itoa_no 59 (.inr rfl) b hb
  ·rcases List.mem_append.1 hb with hb | hb
   ·rw [List.mem_singleton.1 hb]; decide
   ·exact itoa_no 59 (.inr rfl) b hb
def piecesB (a0 a1 a2 : Int) (l : List S40) : List ByteArray := (numsB [a0, a1, a2] :: l.map fun r => numsB (ruleN r)).map bytesOf
theorem writeT_join (a0 a1 a2 : Int) (l : List S40) : writeT a0 a1 a2 l = numsB [a0, a1, a2] ++ ((l.map fun r => numsB (ruleN r)).map fun x => (59 :: [32]) ++ x).flatten := by
 unfold writeT ruleT
 rw [List.map_map]; rfl
theorem pieces_no (a0 a1 a2 : Int) (l : List S40) : ∀ x ∈ numsB [a0, a1, a2] :: l.map (fun r => numsB (ruleN r)), ∀ b ∈ x, b ≠ 59 := by
 intro x hx
 rcases List.mem_cons.1 hx with rfl | hx
 ·exact numsB_no _
 ·obtain ⟨r, _, rfl⟩ := List.mem_map.1 hx
  exact numsB_no _
theorem cut_write (a0 a1 a2 : Int) (l : List S40) : cutB (bytesOf (writeT a0 a1 a2 l)) semi = piecesB a0 a1 a2 l := by
 rw [cutB_eq, show (bytesOf (writeT a0 a1 a2 l)).data.toList = writeT a0 a1 a2 l by simp [bytesOf], writeT_join, show semi.data.toList = 59 :: [32] from rfl, split_join (pieces_no a0 a1 a2 l)]
 rfl
def ReadsB (nr : ByteArray → Option (List Int)) : Prop := ∀ l, l ≠ [] → numLen l → nr (bytesOf (numsB l)) = some l
theorem wordR_itoa {y : Int} (h0 : -1 ≤ y) (h1 : y < 10000) : wordR (bytesOf (Lib.itoa y)) = some y := by
 unfold wordR
 by_cases e : y = -1
 ·subst e
  rw [if_pos (by rw [ByteArray.toList_eq]; decide +kernel)]
 ·have h00 : 0 ≤ y := by omega
  have hd : (bytesOf (Lib.itoa y)).data.toList = Lib.itoa y := by simp [bytesOf]
  rw [if_neg]
  ·rw [hd]
   unfold numR
   have hl : (Lib.decDigits y.toNat).length ≤ 18 := by have := itoa_len h00 h1; rw [itoa_nn h00] at this; omega
   have e : Lib.atoiAll (Lib.itoa y) = .ok y := by rw [itoa_nn h00, atoi_dec hl, Int.toNat_of_nonneg h00]
   rw [e]
   exact if_pos ⟨h00, rfl⟩
  ·rw [ByteArray.toList_eq, hd, itoa_nn h00]
   intro hh
   have : (45 : UInt8) ∈ Lib.decDigits y.toNat := by rw [hh]; simp
   have := dec_digits _ this
   exact absurd this.1 (by decide)
theorem intsR_reads : ReadsB intsR := by
 intro l hl hn
 cases l with
 | nil => exact absurd rfl hl
 | cons y l =>
  unfold intsR
  rw [cutB_eq, show (bytesOf (numsB (y :: l))).data.toList = numsB (y :: l) by simp [bytesOf], numsB_join, show blank.data.toList = 32 :: [] from rfl, show (fun x : List UInt8 => ([32] : List UInt8) ++ x) = fun x => (32 :: []) ++ x from rfl, split_join (c := 32) (t := [])]
  ·rw [show (Lib.itoa y :: l.map Lib.itoa) = (y :: l).map Lib.itoa from rfl, List.map_map]
   exact mapM_all (g := bytesOf ∘ Lib.itoa) (y :: l) (fun z hz => wordR_itoa (hn z hz).1 (hn z hz).2)
  ·intro x hx
   rw [show (Lib.itoa y :: l.map Lib.itoa) = (y :: l).map Lib.itoa from rfl] at hx
   obtain ⟨z, _, rfl⟩ := List.mem_map.1 hx
   exact itoa_no 32 (.inl rfl)
def ruleOf (k : Nat) (l : List Int) : S40 := ⟨rd l 0, (l.drop 1).take k, rd l ((k + 1 : Nat) : Int), (l.drop (k + 2)).take k, l.drop (2 * k + 2)⟩
def ruleR (nr : ByteArray → Option (List Int)) (k : Nat) (p : ByteArray) : Option S40 := (nr p).bind fun l => if l.length = 2 + 3 * k then some (ruleOf k l) else none
def readM (nr : ByteArray → Option (List Int)) (ps : List ByteArray) : Option (Int × Int × Int × List S40) :=
 (nr (ps.headD ByteArray.empty)).bind fun h => if h.length = 3 ∧ 1 ≤ rd h 2 ∧ rd h 2 ≤ 3 then (ps.tail.mapM (ruleR nr (rd h 2).toNat)).bind fun rs => some (rd h 0, rd h 1, rd h 2, rs) else none
def parseP (nr : ByteArray → Option (List Int)) (ps : List ByteArray) (s : ByteArray) : Option (Int × Int × Int × List S40) :=
 (readM nr ps).bind fun m => if validM m.1 m.2.1 m.2.2.1 m.2.2.2 = true ∧ writeT m.1 m.2.1 m.2.2.1 m.2.2.2 = s.data.toList then some m else none
theorem ruleOf_N {k : Nat} {r : S40} (h1 : r.f1.length = k) (h3 : r.f3.length = k) (h4 : r.f4.length = k) : (ruleN r).length = 2 + 3 * k ∧ ruleOf k (ruleN r) = r := by
 obtain ⟨f0, f1, f2, f3, f4⟩ := r
 dsimp only at h1 h3 h4
 have e : ruleN ⟨f0, f1, f2, f3, f4⟩ = f0 :: (f1 ++ f2 :: (f3 ++ f4)) := by unfold ruleN; simp
 rw [e]
 refine ⟨by simp; omega, ?_⟩
 unfold ruleOf
 congr 1
 ·simp [← h1]
 ·simp [rd, List.getD_eq_getElem?_getD, ← h1]
 ·rw [show k + 2 = (f1.length + 1) + 1 by omega, List.drop_succ_cons, List.drop_append]
  rw [List.drop_eq_nil_of_le (by omega), ← h3]
  simp
 ·rw [show 2 * k + 2 = (f1.length + (f3.length + 1)) + 1 by omega, List.drop_succ_cons, List.drop_append]
  simp
theorem parseP_write {nr : ByteArray → Option (List Int)} (hn : ReadsB nr) {a0 a1 a2 : Int} {l : List S40} (hv : validM a0 a1 a2 l = true) : parseP nr (piecesB a0 a1 a2 l) (bytesOf (writeT a0 a1 a2 l)) = some (a0, a1, a2, l) := by
 obtain ⟨⟨h0, h1, h2⟩, hs, hl⟩ := valid_neat hv
 have hlen : ∀ r ∈ l, r.f1.length = a2.toNat ∧ r.f3.length = a2.toNat ∧ r.f4.length = a2.toNat := by
  intro r hr
  have hv' := hv
  unfold validM at hv'
  rw [Bool.and_eq_true] at hv'
  have := rulesB_all _ _ hv'.2 r hr
  unfold ruleB at this
  simp only [Bool.and_eq_true, beq_iff_eq] at this
  obtain ⟨⟨⟨⟨_, q3⟩, q4⟩, q5⟩, _⟩ := this
  omega
 have hr : ((l.map fun r => numsB (ruleN r)).map bytesOf).mapM (ruleR nr a2.toNat) = some l := by
  rw [List.map_map]
  refine mapM_all (g := bytesOf ∘ fun r => numsB (ruleN r)) l (fun r hr => ?_)
  show (nr (bytesOf (numsB (ruleN r)))).bind _ = _
  rw [hn _ (by unfold ruleN; simp) (hl r hr).small]
  obtain ⟨q1, q2⟩ := ruleOf_N (hlen r hr).1 (hlen r hr).2.1 (hlen r hr).2.2
  simp only [Option.bind_some]
  rw [if_pos q1, q2]
 have hm : readM nr (piecesB a0 a1 a2 l) = some (a0, a1, a2, l) := by
  unfold readM piecesB
  rw [List.map_cons, List.headD_cons, hn _ (by simp) hs]
  simp only [Option.bind_some]
  rw [if_pos ⟨rfl, h2.1, h2.2⟩]
  show ((((l.map fun r => numsB (ruleN r)).map bytesOf)).mapM (ruleR nr a2.toNat)).bind _ = _
  rw [hr]
  rfl
 unfold parseP
 rw [hm]
 simp only [Option.bind_some]
 rw [if_pos ⟨hv, by simp [bytesOf]⟩]
theorem parseP_sound {nr : ByteArray → Option (List Int)} {ps : List ByteArray} {s : ByteArray} {m : Int × Int × Int × List S40} (h : parseP nr ps s = some m) : validM m.1 m.2.1 m.2.2.1 m.2.2.2 = true ∧ writeT m.1 m.2.1 m.2.2.1 m.2.2.2 = s.data.toList := by
 unfold parseP at h
 cases hm : readM nr ps with
 | none => rw [hm] at h; cases h
 | some q =>
  rw [hm] at h
  simp only [Option.bind_some] at h
  split at h
  ·rename_i hh; obtain rfl := Option.some.inj h; exact hh
  ·cases h
end Go.Proofs.YtfoodfhhdbaieaaDoor.Giv
