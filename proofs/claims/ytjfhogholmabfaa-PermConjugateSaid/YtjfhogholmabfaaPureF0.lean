/- Conjugate permutations have the same cycle lengths, and the reverse. -/
import Derived.Test.YtjfhogholmabfaaPureE0
namespace Go.Proofs.Ytjfhogholmabfaa.Pure
set_option linter.unusedVariables false
set_option linter.unusedSimpArgs false
open Go.RowKit Go.Proofs.YtjfhogholmabfaaW.PrintWords Go.Proofs.YtjfhogholmabfaaW.PrintLast Go.Proofs.YtjfhogholmabfaaW.PrintMore
open Giv

/-- How many cycles have each length below eight. -/
def lensL (p : List Int) : List Int := (cycL p).foldl (fun a c => if c.length ≤ 7 then a.set c.length (wrap64 (a.getD c.length 0 + 1)) else a) (List.replicate 8 0)
/-- The points that x leaves where they are. -/
def fixN (x : List Int) : Nat := (List.range x.length).countP fun i => decide (x.getD i 0 = (i : Int))
theorem perm_idn' {p : List Int} (hp : validB p = true) : p.Perm (idn p.length) := by
  obtain ⟨a, b, c, d⟩ := valid_into hp
  refine (List.perm_ext_iff_of_nodup d ?_).2 fun x => ⟨fun h => ?_, fun h => ?_⟩
  · exact (valid_into (valid_idn b c)).2.2.2
  · have := a x h
    simp only [idn, List.mem_map, List.mem_range]
    exact ⟨x.toNat, by omega, by simp; omega⟩
  · simp only [idn, List.mem_map, List.mem_range] at h
    obtain ⟨i, hi, rfl⟩ := h
    exact full a d i hi
theorem countP_idn (f : Int → Bool) (n : Nat) : (idn n).countP f = (List.range n).countP fun (i : Nat) => f (i : Int) := by
  rw [idn, List.countP_map]; rfl
theorem list_as_map (c : List Int) : c = (List.range c.length).map fun j => c.getD j 0 := by
  refine List.ext_getElem (by simp) fun i h1 h2 => ?_
  simp [List.getElem?_eq_getElem h1]
theorem fix_conj {x y c : List Int} (hx : validB x = true) (hy : validB y = true) (hc : validB c = true) (h1 : x.length = y.length) (h2 : c.length = x.length) (h : mulL x c = mulL c y) : fixN x = fixN y := by
  obtain ⟨a, _, _, d⟩ := valid_into hx
  obtain ⟨a', _, _, d'⟩ := valid_into hc
  have e1 : fixN y = (idn y.length).countP (fun z => decide (y.getD z.toNat 0 = z)) := by
    rw [countP_idn]; rfl
  have e2 : (idn y.length).countP (fun z => decide (y.getD z.toNat 0 = z)) = c.countP (fun z => decide (y.getD z.toNat 0 = z)) := by
    have := perm_idn' hc
    rw [h2, h1] at this
    exact (this.countP_eq _).symm
  have e3 : c.countP (fun z => decide (y.getD z.toNat 0 = z)) = (List.range c.length).countP fun j => decide (y.getD (c.getD j 0).toNat 0 = c.getD j 0) := by
    conv => lhs; rw [list_as_map c]
    rw [List.countP_map]; rfl
  rw [e1, e2, e3, h2]
  unfold fixN
  refine List.countP_congr fun j hj => ?_
  have hj := List.mem_range.1 hj
  have ha := a.at j hj
  have hjj : y.getD (c.getD j 0).toNat 0 = c.getD (x.getD j 0).toNat 0 := by
    rw [← mulL_at c y j (by omega), ← h, mulL_at x c j hj]
  rw [hjj]
  simp only [decide_eq_true_eq]
  constructor
  · intro h; rw [h]; rfl
  · intro h
    have := nodup_at d' (i := (x.getD j 0).toNat) (j := j) (by omega) (by omega) h
    omega
theorem pow_conj {p q c : List Int} (hp : validB p = true) (hq : validB q = true) (hc : validB c = true) (h1 : p.length = q.length) (h2 : c.length = p.length) (h : mulL p c = mulL c q) : ∀ m, mulL (powL p m) c = mulL c (powL q m)
  | 0 => by
    have a := (valid_into hc).1
    rw [powL, powL, ← h2, id_mul, ← h1, ← h2, mul_id a]
  | m + 1 => by
    have hi {x : List Int} (hx : validB x = true) : Into x x.length := (valid_into hx).1
    have ip := hi (powL_valid hp m)
    have iq := hi (powL_valid hq m)
    rw [powL_len] at ip iq
    rw [powL, powL, mul_assoc' c ip, h, ← mul_assoc' q (p := powL p m) (q := c) (by rw [h2]; exact ip), pow_conj hp hq hc h1 h2 h m, mul_assoc' q (p := c) (q := powL q m) (by rw [powL_len, ← h1, ← h2]; exact hi hc)]
/-- The fixed points of the first seven powers. -/
def fixes (p : List Int) : List Nat := [fixN p, fixN (powL p 2), fixN (powL p 3), fixN (powL p 4), fixN (powL p 5), fixN (powL p 6), fixN (powL p 7)]
theorem fixes_conj {p q c : List Int} (hp : validB p = true) (hq : validB q = true) (hc : validB c = true) (h1 : p.length = q.length) (h2 : c.length = p.length) (h : mulL p c = mulL c q) : fixes p = fixes q := by
  have e (m : Nat) : fixN (powL p m) = fixN (powL q m) :=
    fix_conj (powL_valid hp m) (powL_valid hq m) hc (by rw [powL_len, powL_len, h1]) (by rw [powL_len, h2]) (pow_conj hp hq hc h1 h2 h m)
  unfold fixes
  rw [e 2, e 3, e 4, e 5, e 6, e 7, fix_conj hp hq hc h1 h2 h]
/-- The cycle lengths, from the fixed points. -/
def lensF : List Nat → List Int
  | [a, b, c, d, e, f, g] => [0, 0, ((b - a) / 2 : Nat), ((c - a) / 3 : Nat), ((d - b) / 4 : Nat), ((e - a) / 5 : Nat), ((f + a - b - c) / 6 : Nat), ((g - a) / 7 : Nat)]
  | _ => []
/-- The cycles, the shortest first, the fixed points ahead: a way to the one permutation of these lengths. -/
def wayL (p : List Int) : List Int :=
  ((List.range p.length).filter (fun i => decide (p.getD i 0 = (i : Int)))).map Int.ofNat ++ ([2, 3, 4, 5, 6, 7].flatMap fun m => ((cycL p).filter fun c => c.length == m).flatten)
/-- The one permutation of n points with these cycle lengths. -/
def canon (n : Nat) (l : List Int) : List Int :=
  let cyc (s m : Nat) : List Int := ((List.range m).map fun j => if j + 1 = m then (s : Int) else ((s + j + 1 : Nat) : Int))
  let r := (List.range (n - (2 * (l.getD 2 0) + 3 * (l.getD 3 0) + 4 * (l.getD 4 0) + 5 * (l.getD 5 0) + 6 * (l.getD 6 0) + 7 * (l.getD 7 0)).toNat)).map Int.ofNat
  [2, 3, 4, 5, 6, 7].foldl (fun a m => (List.range (l.getD m 0).toNat).foldl (fun a _ => a ++ cyc a.length m) a) r
def chkL (p : List Int) : Bool :=
  decide (lensL p = lensF (fixes p)) &&
  (validB (wayL p) && (decide ((wayL p).length = p.length) && (validB (canon p.length (lensL p)) && (decide ((canon p.length (lensL p)).length = p.length) &&
   decide (mulL (wayL p) p = mulL (canon p.length (lensL p)) (wayL p))))))
set_option maxRecDepth 100000
theorem chl1 : allExt 1 chkL 1 [] = true := by decide +kernel
theorem chl2 : allExt 2 chkL 2 [] = true := by decide +kernel
theorem chl3 : allExt 3 chkL 3 [] = true := by decide +kernel
theorem chl4 : allExt 4 chkL 4 [] = true := by decide +kernel
theorem chl5 : allExt 5 chkL 5 [] = true := by decide +kernel
end Go.Proofs.Ytjfhogholmabfaa.Pure
