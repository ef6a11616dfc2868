-- CUT by a program of this session: what the claim does not use is left out
import Derived.Test.YtjfhogholmabfaaDoorD1
import Derived.Test.YtjfhogholmabfaaDoorPbx1
import Derived.Deep.CutBlock
import Derived.Lib.ConvBytes
namespace Go.Proofs.YtjfhogholmabfaaDoor.Giv
set_option linter.unusedVariables false
set_option linter.unusedSimpArgs false
open Go.RowKit Go.Shelf Go.Proofs.YtjfhogholmabfaaDoorW.PrintWords Go.Proofs.YtjfhogholmabfaaDoorW.PrintLast Go.Proofs.YtjfhogholmabfaaDoorW.PrintMore
open Go.Proofs.YtjfhogholmabfaaDoor.Pb (perm_identity.f perm_identity.calls)

def putN (c : List Int) : Nat → List Int → List Int
  | 0, p => p
  | i + 1, p => (putN c i p).set (rd c i).toNat (rd c (((i + 1) % c.length : Nat) : Int))
theorem putN_len (c : List Int) : ∀ i p, (putN c i p).length = p.length
  | 0, _ => rfl
  | i + 1, p => by rw [putN, List.length_set, putN_len c i p]
def stepP (n : Nat) (st : List Int × List Int) (b : Nat) : List Int × List Int :=
  if 48 ≤ b ∧ b < 48 + n then (st.1, st.2 ++ [((b - 48 : Nat) : Int)]) else if b = 41 then (putN st.2 st.2.length st.1, []) else st
def parseN (n : Nat) (s : ByteArray) (i : Nat) : List Int × List Int := ((s.data.toList.take i).map UInt8.toNat).foldl (stepP n) (idn n, [])
def parseP (n : Nat) (s : ByteArray) : List Int := (parseN n s s.size).1
theorem parseN_succ (n : Nat) (s : ByteArray) (i : Nat) (h : i < s.size) : parseN n s (i + 1) = stepP n (parseN n s i) (s.data.toList.getD i 0).toNat := by
  have h' : i < s.data.toList.length := by simpa using h
  unfold parseN
  rw [List.take_succ_eq_append_getElem h', List.map_append, List.foldl_append, List.getD_eq_getElem?_getD, List.getElem?_eq_getElem h']
  rfl
def perm_Parse.f (s : ByteArray) (n : Int) : Option (List Int × Int) := if s.size ≤ 100000 then some (if n < 1 ∨ 7 < n then ([], 2) else if validB (parseP n.toNat s) = true ∧ textR (parseP n.toNat s) = s then (parseP n.toNat s, 0) else ([], 3)) else none
def Points (n : Nat) (st : List Int × List Int) (i : Nat) : Prop := st.1.length = n ∧ Into st.2 n ∧ st.2.length ≤ i
theorem points_step {n : Nat} {st : List Int × List Int} {i : Nat} (h : Points n st i) (b : Nat) : Points n (stepP n st b) (i + 1) := by
  obtain ⟨h1, h2, h3⟩ := h
  unfold stepP
  split
  · rename_i hb
    refine ⟨h1, fun y hy => ?_, by simp; omega⟩
    rcases List.mem_append.1 hy with hy | hy
    · exact h2 y hy
    · rw [List.mem_singleton.1 hy]; omega
  · split
    · exact ⟨by rw [putN_len]; exact h1, (fun y hy => by cases hy), by simp⟩
    · exact ⟨h1, h2, by omega⟩
theorem points_parse (n : Nat) (s : ByteArray) : ∀ i, i ≤ s.size → Points n (parseN n s i) i
  | 0, _ => by unfold parseN; exact ⟨by simp [idn_len], fun y hy => by simp at hy, by simp⟩
  | i + 1, h => by rw [parseN_succ n s i (by omega)]; exact points_step (points_parse n s i (by omega)) _
theorem identity_ex {n : Nat} (h1 : 1 ≤ n) (h7 : n ≤ 7) : ∃ k, perm_identity.f k n = some (idn n) := by
  obtain rfl | rfl | rfl | rfl | rfl | rfl | rfl : n = 1 ∨ n = 2 ∨ n = 3 ∨ n = 4 ∨ n = 5 ∨ n = 6 ∨ n = 7 := by omega
  all_goals exact ⟨20, by decide +kernel⟩
structure PAt (w : World) (g cp n : Nat) (b5 : Nat) (s : ByteArray) (st : List Int × List Int) (v7 : Value) (wr : World) : Prop where
  below : Below w.heap.size w wr
  ge : w.heap.size ≤ g
  gb : g < b5
  p : Kd.R (Kd.int .i64) 3 wr w.heap.size (fun k => k = g) (.slice (some ⟨g, 0, none⟩) n cp) st.1
  c : wr.ownsRow (b5 + 1) 3 1 v7 st.2.length (st.2.map (Value.int .i64))
  bytes : ∀ j, j < s.size → wr.cell? ⟨b5, j, none⟩ = some (.int .u8 (s.data.toList.getD j 0).toNat)
  lt : b5 < wr.heap.size
theorem PAt.grown {w : World} {g cp n b5 : Nat} {s : ByteArray} {st : List Int × List Int} {v7 v' : Value} {wr w1 : World} {x : Int} {o : Obj} (h : PAt w g cp n b5 s st v7 wr) (hg : (wr.alloc o).grownBy w1 v7.ownBlock) (hown : w1.ownsRow (b5 + 1) 3 1 v' (st.2 ++ [x]).length ((st.2 ++ [x]).map (Value.int .i64))) : PAt w g cp n b5 s (st.1, st.2 ++ [x]) v' w1 := by
  have hsz := hg.size
  have hlt := h.lt
  have hle := h.below.size
  have hge := h.ge
  have hgb := h.gb
  have hne : ∀ k, k ≤ b5 → some k ≠ v7.ownBlock := fun k hk e => by have := own_base h.c k e.symm; omega
  have hblk : ∀ k, k ≤ b5 → w1.heap[k]? = wr.heap[k]? := fun k hk => (hg.block k (by simp; omega) (hne k hk)).trans (Below.heap_alloc _ _ _ (by omega))
  refine ⟨(h.below.alloc hle o).grown hg (by simp; omega) (fun k hk => by have := own_base h.c k hk; omega), h.ge, h.gb, Kd.R_move h.p (fun k hk => by rw [hk]; exact hblk g (by omega)), hown, fun j hj => ?_, by simp at hsz; omega⟩
  have := h.bytes j hj
  simpa [World.cell?, hblk b5 (Nat.le_refl _)] using this
theorem PAt.set {w : World} {g cp n b5 : Nat} {s : ByteArray} {st : List Int × List Int} {v7 : Value} {wr : World} (h : PAt w g cp n b5 s st v7 wr) (i : Int) (x : Int) : PAt w g cp n b5 s (st.1.set i.toNat x, st.2) v7 (wr.setCell ⟨g, i.toNat, none⟩ (.int .i64 x)) := by
  have hgb := h.gb
  refine ⟨h.below.setCell (p := ⟨g, i.toNat, none⟩) h.ge _, h.ge, h.gb, Kd.R_putn h.p i x, own_move h.c (fun k hk => Below.heap_setCell _ _ _ _ (by have := own_base h.c k hk; show k ≠ g; omega)), fun j hj => ?_, by simpa using h.lt⟩
  rw [World.cell?_setCell_other]
  · exact h.bytes j hj
  · intro e; injection e with e; omega
theorem PAt.nil {w : World} {g cp n b5 : Nat} {s : ByteArray} {st : List Int × List Int} {v7 : Value} {wr : World} (h : PAt w g cp n b5 s st v7 wr) : PAt w g cp n b5 s (st.1, []) (.slice none 0 0) wr :=
  ⟨h.below, h.ge, h.gb, h.p, World.ownsRow_nil _ _ _ _, h.bytes, h.lt⟩
def POut (n : Nat) (s : ByteArray) (w : World) (e : Ending) (w' : World) : Prop := ∃ v, e = .returned (.tuple #[v, .int .i64 (if validB (parseP n s) = true ∧ textR (parseP n s) = s then 0 else 3)]) ∧ Kd.R (Kd.int .i64) 3 w' w.heap.size (fun _ => True) v (if validB (parseP n s) = true ∧ textR (parseP n s) = s then parseP n s else []) ∧ Below w.heap.size w w'
theorem POut.yes {n : Nat} {s : ByteArray} {w : World} {w' : World} {v : Value} (h : validB (parseP n s) = true ∧ textR (parseP n s) = s) (hv : Kd.R (Kd.int .i64) 3 w' w.heap.size (fun _ => True) v (parseP n s)) (hb : Below w.heap.size w w') : POut n s w (.returned (.tuple #[v, .int .i64 0])) w' :=
  ⟨v, by rw [if_pos h], by rw [if_pos h]; exact hv, hb⟩
theorem POut.no {n : Nat} {s : ByteArray} {w : World} {w' : World} (h : ¬ (validB (parseP n s) = true ∧ textR (parseP n s) = s)) (hb : Below w.heap.size w w') : POut n s w (.returned (.tuple #[.slice none 0 0, .int .i64 3])) w' :=
  ⟨.slice none 0 0, by rw [if_neg h], by rw [if_neg h]; exact Kd.R_nil _ _ _ _ _, hb⟩
set_option maxHeartbeats 2000000 in
set_option maxRecDepth 100000 in
theorem parse_walk (s : ByteArray) (n : Nat) (h1 : 1 ≤ n) (h7 : n ≤ 7) (hs : s.size ≤ 100000) (w : World) :
    Calls Tryd.prog 8 #[.string s, .int .i64 n] w (POut n s w) := by
  obtain ⟨K, hK⟩ := identity_ex h1 h7
  have HID := Aside0.mk (perm_identity.calls K n (idn n) w hK)
  have HS := Aside0.mk hs
  have p1 : (1 : Int) ≤ n := by omega
  have p7 : (n : Int) ≤ 7 := by omega
  have H1 := Aside0.mk h1
  have H7 := Aside0.mk h7
  obtain ⟨i0, hi, hz0, hz1, hz2⟩ := info_parts Pb.info3
  have HI0 := Aside0.mk (And.intro hi (And.intro hz0 (And.intro hz1 hz2)))
  have dd1 : decide ((n : Int) < 1) = false := decide_eq_false (by omega)
  have dd2 : decide ((7 : Int) < n) = false := decide_eq_false (by omega)
  have dd3 : decide (n < 1) = false := decide_eq_false (by omega)
  have dd4 : decide (7 < n) = false := decide_eq_false (by omega)
  clear hi hz0 hz1 hz2 hK hs h1 h7
  have hconv : ∀ W : World, (convert 9 51 (.string s)).run Tryd.prog W = .ok (.slice (some ⟨W.heap.size, 0, none⟩) s.size (grownCap W s.size 0 5)) (Lib.bytesWorld W 5 s) := fun W => Lib.run_convert_string_bytes W 9 51 5 s Tryd.underlying9 Tryd.underlying51 Tryd.underlying5
  go_enter Tryd.func8, Tryd.ntmps8
  go_upto_block 0 with (go_at_call 25; refine HID.out.mono ?_; rintro e w1 ⟨v0, rfl, hv, hb⟩; have HV := Aside0.mk hv; have HB1 := Aside0.mk hb; clear hv hb)
  obtain ⟨g, cp, e0, hge, hgl, -⟩ := Kd.R_form HV.out (by rw [idn_len]; exact H1.out)
  rw [idn_len] at e0
  subst e0
  have HP0 : Aside0 (PAt w g cp n w1.heap.size s (parseN n s 0) (.slice none 0 0) (Lib.bytesWorld w1 5 s)) := ⟨by
    refine ⟨?_, hge, hgl, ?_, World.ownsRow_nil _ _ _ _, fun j hj => Lib.bytesWorld_cell w1 5 s j hj, by rw [Lib.bytesWorld_size]; omega⟩
    · refine ⟨HB1.out.os, HB1.out.tape, HB1.out.output, by have := HB1.out.size; rw [Lib.bytesWorld_size]; omega, fun k hk => ?_⟩
      rw [Lib.bytesWorld_at_old w1 5 s k (by have := HB1.out.size; omega)]
      exact HB1.out.block k hk
    · exact Kd.R_move (Kd.R_mono (Kd.R_bound HV.out |> fun h => Kd.R_tight rfl h) (fun k hk => by simpa [Value.ownBlock] using hk)) (fun k hk => Lib.bytesWorld_at_old w1 5 s k (by omega))⟩
  have HGL : Aside0 (g < w1.heap.size) := ⟨hgl⟩
  obtain ⟨b5, hb5⟩ : ∃ b, w1.heap.size = b := ⟨_, rfl⟩
  obtain ⟨c5, hc5⟩ : ∃ c, grownCap w1 s.size 0 5 = c := ⟨_, rfl⟩
  obtain ⟨W1, hW1⟩ : ∃ W, Lib.bytesWorld w1 5 s = W := ⟨_, rfl⟩
  rw [hW1, hb5] at HP0
  rw [hW1, hb5, hc5]
  clear hW1 hb5 hc5 HV HB1 HGL hge hgl hconv HID
  go_wp2
  go_loopg [7, 25] s.size (fun gg s7 s25 wr => ∃ i : Nat, s25 = .int .i64 i ∧ Aside0 ((s.size : Int) - i = gg) ∧ Aside0 (PAt w g cp n b5 s (parseN n s i) s7 wr))
  case atStart => exact ⟨0, rfl, ⟨by omega⟩, HP0⟩
  case round =>
    clear HP0
    obtain ⟨i, rfl, HG, HP⟩ := hrel
    by_cases cl : i < s.size
    · have clb : decide (i < s.size) = true := decide_eq_true cl
      have clb2 : decide ((i : Int) < (s.size : Int)) = true := decide_eq_true (by omega)
      have p2 : (i : Int) < (s.size : Int) := by omega
      have p3 : (s.size : Int) ≤ 100000 := by have := HS.out; omega
      have hx := HP.out.bytes i cl
      obtain ⟨b, hb⟩ : ∃ b : Nat, (s.data.toList.getD i 0).toNat = b := ⟨_, rfl⟩
      have HN : Aside0 (parseN n s (i + 1) = stepP n (parseN n s i) b) := ⟨by rw [← hb]; exact parseN_succ n s i cl⟩
      rw [hb] at hx
      have hb256 : b < 256 := by rw [← hb]; exact UInt8.toNat_lt _
      have CL := Aside0.mk cl
      obtain ⟨st, hst⟩ : ∃ st, parseN n s i = st := ⟨_, rfl⟩
      have HPT := Aside0.mk (hst ▸ points_parse n s i (by omega))
      rw [hst] at HP HN
      clear cl hb hst
      by_cases cd : 48 ≤ b ∧ b < 48 + n
      · have HN' : Aside0 (parseN n s (i + 1) = (st.1, st.2 ++ [(b : Int) - 48])) := ⟨by rw [HN.out, stepP, if_pos cd, show ((b - 48 : Nat) : Int) = (b : Int) - 48 by omega]⟩
        have q0 : (48 : Int) ≤ b := by omega
        have q1 : (b : Int) - 48 < n := by omega
        have q2 : decide ((b : Int) - 48 < n) = true := decide_eq_true q1
        have q3 : (b : Int) ≤ 255 := by omega
        have HLC := HPT.out.2.2
        have HL7 : Aside0 (st.2.length ≤ 100000) := ⟨by have := HS.out; have := CL.out; omega⟩
        clear cd HN HLC
        go_wp2_with (at_builtin; refine wpList_append_own _ rfl (.tmp 39) (.tmp 43) 22 rfl (b5 + 1) 3 i0 (.int .i64 0) 1 8 Tryd.underlying22 HI0.out.1 HI0.out.2.1 HI0.out.2.2.1 HI0.out.2.2.2 rfl (by decide) u7 st.2.length (st.2.map (Value.int .i64)) rfl (HP.out.c.alloc _) ⟨wr.heap.size, 0, none⟩ 1 1 [.int .i64 ((b : Int) - 48)] rfl rfl ?o2 ?o3 ?o4 ?o5 ?o6 ?_; (case o2 => exact cell_one_new _ _ _); (case o3 => simp [Value.oneCell']); (case o4 => have := HL7.out; unfold maxLen; omega); (case o5 => have := HL7.out; omega); (case o6 => have := HP.out.lt; simp; omega); intro v' w1' hown' hgrow _; have HP1 := Aside0.mk (HP.out.grown hgrow (by simpa using hown')); clear hown' hgrow)
        go_roundg (s.size - (i + 1))
        case measure => have := HG.out; have := CL.out; omega
        case rel => exact ⟨i + 1, (by first | rfl | (simp; done)), ⟨by have := CL.out; omega⟩, ⟨by rw [HN'.out]; exact HP1.out⟩⟩
      · by_cases c41 : b = 41
        · subst c41
          have HN' : Aside0 (parseN n s (i + 1) = (putN st.2 st.2.length st.1, [])) := ⟨by rw [HN.out, stepP, if_neg (by omega), if_pos rfl]⟩
          obtain ⟨Ac, cc, e7⟩ := own_slice HP.out.c
          subst e7
          clear HN cd hb256
          obtain ⟨wo, rfl⟩ : ∃ wo : World, wo = wr := ⟨_, rfl⟩
          go_wp2
          go_loopg [50] st.2.length (fun gg s50 wr => ∃ j : Nat, s50 = .int .i64 j ∧ Aside0 ((st.2.length : Int) - j = gg) ∧ Aside0 (PAt w g cp n b5 s (putN st.2 j st.1, st.2) (.slice Ac st.2.length cc) wr))
          case atStart => exact ⟨0, rfl, ⟨by omega⟩, HP⟩
          case round =>
            clear HP
            obtain ⟨j, rfl, HGj, HP⟩ := hrel
            by_cases cj : j < st.2.length
            · have cjb : decide (j < st.2.length) = true := decide_eq_true cj
              have cjb2 : decide ((j : Int) < (st.2.length : Int)) = true := decide_eq_true (by omega)
              have hL0 : 0 < st.2.length := by omega
              have HC := Kd.R_of_own (h1 := fun _ => rfl) (ok := fun _ => True) HP.out.c (fun _ _ => trivial)
              obtain ⟨gc, cc', ec, hgc, hgcl, -⟩ := Kd.R_form HC hL0
              injection ec with ec1 _ ec2
              subst ec1; subst ec2
              obtain ⟨m, hm⟩ : ∃ m, (j + 1) % st.2.length = m := ⟨_, rfl⟩
              have hml : m < st.2.length := by rw [← hm]; exact Nat.mod_lt _ hL0
              obtain ⟨a1, -⟩ := Kd.R_celln 0 HC (j : Int) (by omega) (by omega)
              obtain ⟨a2, -⟩ := Kd.R_celln 0 HC (m : Int) (by omega) (by omega)
              have hmod : ((j : Int) + 1) % (st.2.length : Int) = (m : Int) := by rw [← hm]; simp
              obtain ⟨x, hx⟩ : ∃ x, rd st.2 j = x := ⟨_, rfl⟩
              obtain ⟨y, hy⟩ : ∃ y, rd st.2 m = y := ⟨_, rfl⟩
              have hx2 := HPT.out.2.1 (rd st.2 j) (by unfold rd; rw [Int.toNat_natCast, List.getD_eq_getElem?_getD, List.getElem?_eq_getElem cj]; exact List.getElem_mem _)
              rw [hx] at hx2
              have hpn : (putN st.2 (j + 1) st.1) = (putN st.2 j st.1).set x.toNat y := by rw [putN, hx, hm, hy]
              have HPN := Aside0.mk hpn
              have q1 : 0 ≤ x := hx2.1
              have q2 : x < (n : Int) := hx2.2
              obtain ⟨a3, a4⟩ := Kd.R_celln 0 HP.out.p x q1 q2
              have r1 : (rdOf 0 st.2 (j : Int)) = x := hx
              have r2 : (rdOf 0 st.2 (m : Int)) = y := hy
              rw [r1] at a1
              rw [r2] at a2
              rw [Int.toNat_natCast] at a1 a2
              have HS2 := Aside0.mk (HP.out.set x y)
              have q3 : (0 : Int) < (st.2.length : Int) := by omega
              have q4 : (st.2.length : Int) ≤ 100000 := by have := HPT.out.2.2; have := HS.out; have := CL.out; omega
              have q5 : (m : Int) < (st.2.length : Int) := by omega
              have q6 : (j : Int) < (st.2.length : Int) := by omega
              have CJ := Aside0.mk cj
              clear hx hy hm hml HC hx2 hpn r1 r2 cj hgc hgcl hL0
              go_wp2
              go_roundg (st.2.length - (j + 1))
              case measure => have := HGj.out; have := CJ.out; omega
              case rel => exact ⟨j + 1, (by first | rfl | (simp; done)), ⟨by have := CJ.out; omega⟩, ⟨by rw [HPN.out]; exact HS2.out⟩⟩
            · have cjb : decide (j < st.2.length) = false := decide_eq_false cj
              have cjb2 : decide ((j : Int) < (st.2.length : Int)) = false := decide_eq_false (by omega)
              obtain rfl : j = st.2.length := by have := HGj.out; omega
              clear cj HGj
              go_wp2
              go_roundg (s.size - (i + 1))
              case measure => have := HG.out; have := CL.out; omega
              case rel => exact ⟨i + 1, (by first | rfl | (simp; done)), ⟨by have := CL.out; omega⟩, ⟨by rw [HN'.out]; exact HP.out.nil⟩⟩
        · have HN' : Aside0 (parseN n s (i + 1) = st) := ⟨by rw [HN.out, stepP, if_neg cd, if_neg c41]⟩
          have e41 : ((b : Int) == 41) = false := by simpa using (show ¬ (b : Int) = 41 by omega)
          have q3 : (b : Int) ≤ 255 := by omega
          by_cases c48 : 48 ≤ b
          · have q0 : (48 : Int) ≤ b := by omega
            have q2 : decide ((b : Int) - 48 < n) = false := decide_eq_false (by omega)
            clear HN cd c41 c48
            go_wp2
            go_roundg (s.size - (i + 1))
            case measure => have := HG.out; have := CL.out; omega
            case rel => exact ⟨i + 1, (by first | rfl | (simp; done)), ⟨by have := CL.out; omega⟩, ⟨by rw [HN'.out]; exact HP.out⟩⟩
          · have q0 : (b : Int) < 48 := by omega
            clear HN cd c41 c48
            go_wp2
            go_roundg (s.size - (i + 1))
            case measure => have := HG.out; have := CL.out; omega
            case rel => exact ⟨i + 1, (by first | rfl | (simp; done)), ⟨by have := CL.out; omega⟩, ⟨by rw [HN'.out]; exact HP.out⟩⟩
    · have clb : decide (i < s.size) = false := decide_eq_false cl
      have clb2 : decide ((i : Int) < (s.size : Int)) = false := decide_eq_false (by omega)
      obtain rfl : i = s.size := by have := HG.out; omega
      clear cl HG
      obtain ⟨P, hP⟩ : ∃ P, parseP n s = P := ⟨_, rfl⟩
      have hP' : (parseN n s s.size).1 = P := hP
      have hPT := points_parse n s s.size (Nat.le_refl _)
      have HPL : Aside0 (P.length = n) := ⟨by rw [← hP']; exact hPT.1⟩
      have HPP : Aside0 (Kd.R (Kd.int .i64) 3 wr w.heap.size (fun _ => True) (.slice (some ⟨g, 0, none⟩) n cp) P) := ⟨by rw [← hP']; exact Kd.R_mono HP.out.p (fun _ _ => trivial)⟩
      have HB := Aside0.mk HP.out.below
      have HCC : Aside0 (n ≤ cp ∧ Kd.C (Kd.int .i64) wr (some ⟨g, 0, none⟩) n P) := ⟨by
        have := Kd.R_reads' HPP.out
        rw [HPL.out] at this
        exact this.2⟩
      have HPE := Aside0.mk hP
      clear hP hP' hPT HP
      have HVAL := Aside0.mk (fun r (h : validB P = r) => perm_Valid.calls (some ⟨g, 0, none⟩) cp P r wr (by rw [HPL.out]; exact HCC.out.2) (by rw [HPL.out]; exact HCC.out.1) (by unfold perm_Valid.f; rw [h]))
      rw [HPL.out] at HVAL
      cases hv : validB P with
      | false =>
        have HE : Aside0 (¬ (validB (parseP n s) = true ∧ textR (parseP n s) = s)) := ⟨by rw [HPE.out, hv]; simp⟩
        go_wp2_with (go_at_call 21; refine (HVAL.out false hv).mono ?_; rintro e w5 ⟨rfl, hb⟩; have HB5 := Aside0.mk hb; clear hb)
        go_ret2
        exact POut.no HE.out (below_step HB.out HB5.out)
      | true =>
        have HTX := Aside0.mk (fun W (hb : Below wr.heap.size wr W) => perm_Text.calls (some ⟨g, 0, none⟩) cp P (textR P) 0 W (by rw [HPL.out]; exact Kd.C_below HCC.out.2 hb) (by rw [HPL.out]; exact HCC.out.1) (by unfold perm_Text.f; rw [if_pos hv]))
        rw [HPL.out] at HTX
        obtain ⟨T, hT⟩ : ∃ T, textR P = T := ⟨_, rfl⟩
        rw [hT] at HTX
        by_cases he : T = s
        · have HE : Aside0 (validB (parseP n s) = true ∧ textR (parseP n s) = s) := ⟨by rw [HPE.out, hv, hT]; exact ⟨rfl, he⟩⟩
          subst he
          clear hT
          go_wp2_with (first
            | (go_at_call 21; refine (HVAL.out true hv).mono ?_; rintro e w5 ⟨rfl, hb⟩; have HB5 := Aside0.mk hb; clear hb)
            | (go_at_call 7; refine (HTX.out _ HB5.out).mono ?_; rintro e w6 ⟨rfl, hb⟩; have HB6 := Aside0.mk hb; clear hb))
          go_ret2
          exact POut.yes HE.out (by rw [HPE.out]; exact Kd.R_below (Kd.R_below HPP.out HB5.out) HB6.out) (below_step (below_step HB.out HB5.out) HB6.out)
        · have HE : Aside0 (¬ (validB (parseP n s) = true ∧ textR (parseP n s) = s)) := ⟨by rw [HPE.out, hT]; exact fun h => he h.2⟩
          have t1 : (T.toList == s.toList) = false := by
            rw [beq_eq_false_iff_ne]
            intro h
            rw [ByteArray.toList_eq, ByteArray.toList_eq] at h
            exact he (ByteArray.ext (Array.toList_inj.mp h))
          clear hT he
          go_wp2_with (first
            | (go_at_call 21; refine (HVAL.out true hv).mono ?_; rintro e w5 ⟨rfl, hb⟩; have HB5 := Aside0.mk hb; clear hb)
            | (go_at_call 7; refine (HTX.out _ HB5.out).mono ?_; rintro e w6 ⟨rfl, hb⟩; have HB6 := Aside0.mk hb; clear hb))
          go_ret2
          exact POut.no HE.out (below_step (below_step HB.out HB5.out) HB6.out)
set_option maxHeartbeats 1000000 in
theorem perm_Parse.calls (a0 : ByteArray) (a1 : Int) (r1 : List Int) (r2 : Int) (w : World) (h : perm_Parse.f a0 a1 = some (r1, r2)) :
    Calls Tryd.prog 8 #[.string a0, .int .i64 a1] w fun e w' => ∃ v0_ : Value, e = .returned (.tuple #[v0_, .int .i64 r2]) ∧ Kd.R (Kd.int .i64) 3 w' w.heap.size (fun _ => True) v0_ r1 ∧ Below w.heap.size w w' := by
  unfold perm_Parse.f at h
  by_cases hs : a0.size ≤ 100000
  · rw [if_pos hs] at h
    have h := Option.some.inj h
    by_cases hn : a1 < 1 ∨ 7 < a1
    · rw [if_pos hn] at h
      injection h with h1 h2
      subst h1; subst h2
      have HN := Aside0.mk hn
      clear hn hs
      by_cases c1 : a1 < 1
      · have c1b : decide (a1 < 1) = true := decide_eq_true c1
        clear HN
        go_enter Tryd.func8, Tryd.ntmps8
        go_wp2
        go_ret2
        exact ⟨_, rfl, Kd.R_nil _ _ _ _ _, Below.refl _ _⟩
      · have c1b : decide (a1 < 1) = false := decide_eq_false c1
        have c2b : decide (7 < a1) = true := decide_eq_true (by have := HN.out; omega)
        clear HN
        go_enter Tryd.func8, Tryd.ntmps8
        go_wp2
        go_ret2
        exact ⟨_, rfl, Kd.R_nil _ _ _ _ _, Below.refl _ _⟩
    · rw [if_neg hn] at h
      obtain ⟨n, rfl⟩ : ∃ n : Nat, a1 = n := ⟨a1.toNat, by omega⟩
      rw [Int.toNat_natCast] at h
      refine (parse_walk a0 n (by omega) (by omega) hs w).mono ?_
      rintro e w' ⟨v, he, hv, hb⟩
      by_cases hc : validB (parseP n a0) = true ∧ textR (parseP n a0) = a0
      · rw [if_pos hc] at h he hv
        injection h with h1 h2
        subst h1; subst h2
        exact ⟨v, he, hv, hb⟩
      · rw [if_neg hc] at h he hv
        injection h with h1 h2
        subst h1; subst h2
        exact ⟨v, he, hv, hb⟩
  · rw [if_neg hs] at h
    cases h
end Go.Proofs.YtjfhogholmabfaaDoor.Giv
