-- CUT by a program of this session: what the claim does not use is left out
import Derived.Test.YtjfhogholmabfaaDoorV6
import Derived.Test.YtjfhogholmabfaaDoorShelf
import Derived.Shelf.Abstract
import Derived.RangeFuncCalls
import Derived.Stop.RegionWithIn
namespace Go.Proofs.YtjfhogholmabfaaDoor.Giv
set_option linter.unusedVariables false
set_option linter.unusedSimpArgs false
open Go.RowKit Go.Shelf Go.Proofs.YtjfhogholmabfaaDoorW.PrintWords Go.Proofs.YtjfhogholmabfaaDoorW.PrintLast Go.Proofs.YtjfhogholmabfaaDoorW.PrintMore
attribute [local go_sem] Oper.semAt_some

def cycB (c : List Int) : List UInt8 := 40 :: (Lib.join (c.map fun x => Lib.decDigits x.toNat) [32] ++ [41])
def textB (l : List (List Int)) : List UInt8 := (l.map cycB).flatten
theorem textB_snoc (l : List (List Int)) (c : List Int) : textB (l ++ [c]) = textB l ++ cycB c := by simp [textB]
def textR (p : List Int) : ByteArray := if textB (cycL p) = [] then ⟨#[40, 41]⟩ else ⟨(textB (cycL p)).toArray⟩
def perm_Text.f (l0 : List Int) : Option (ByteArray × Int) := some (if validB l0 = true then (textR l0, 0) else (⟨#[]⟩, 1))
theorem orb_len (p : List Int) : ∀ f x vis, (orbL p f x vis).length ≤ f
  | 0, _, _ => Nat.le_refl _
  | f + 1, x, vis => by
    unfold orbL
    split
    · simp
    · have := orb_len p f (p.getD x.toNat 0) (vis ++ [x]); simp only [List.length_cons]; omega
theorem cyc_len (p : List Int) : ∀ d i vis c, c ∈ cycS p d i vis → c.length ≤ 8
  | 0, _, _, c, h => by simp [cycS] at h
  | d + 1, i, vis, c, h => by
    unfold cycS at h
    rcases List.mem_append.1 h with h | h
    · split at h
      · rw [List.mem_singleton.1 h]; exact orb_len _ _ _ _
      · cases h
    · exact cyc_len p d (i + 1) _ c h
theorem cyc_two (p : List Int) : ∀ d i vis c, c ∈ cycS p d i vis → 1 < c.length
  | 0, _, _, c, h => by simp [cycS] at h
  | d + 1, i, vis, c, h => by
    unfold cycS at h
    rcases List.mem_append.1 h with h | h
    · split at h
      · rename_i h1; rw [List.mem_singleton.1 h]; exact h1
      · cases h
    · exact cyc_two p d (i + 1) _ c h
theorem own_cells {W : World} {base e n : Nat} {v : Value} {xs : List Value} (h : W.ownsRow base e 1 v n xs) (hn : 0 < n) : ∃ g c, v = .slice (some ⟨g, 0, none⟩) n c ∧ base ≤ g ∧ g < W.heap.size ∧ n ≤ c ∧ ∀ (j : Nat) x, xs[j]? = some x → W.cell? ⟨g, 0 + j, none⟩ = some x := by
  obtain ⟨h1, h2 | ⟨g, cap, cur, rfl, hg, hh, h3, h4, h5, h6⟩⟩ := h
  · omega
  · refine ⟨g, cap, rfl, hg, (Array.getElem?_eq_some_iff.1 hh).1, h3, fun j x hx => ?_⟩
    rw [← h6, List.getElem?_take] at hx
    split at hx
    · rw [Array.getElem?_toList] at hx
      simp [World.cell?, hh, hx]
    · cases hx
theorem orb_into (p : List Int) (hp : Into p p.length) : ∀ f x vis, (0 ≤ x ∧ x < (p.length : Int)) → Into (orbL p f x vis) p.length
  | 0, _, _, _ => fun y hy => by simp [orbL] at hy
  | f + 1, x, vis, hx => fun y hy => by
    unfold orbL at hy
    split at hy
    · cases hy
    · rcases List.mem_cons.1 hy with rfl | hy
      · exact hx
      · refine orb_into p hp f _ _ ?_ y hy
        have : p.getD x.toNat 0 ∈ p := by
          rw [List.getD_eq_getElem?_getD, List.getElem?_eq_getElem (by omega)]
          exact List.getElem_mem _
        exact hp _ this
theorem cyc_into (p : List Int) (hp : Into p p.length) : ∀ d i vis c, d + i = p.length → c ∈ cycS p d i vis → Into c p.length
  | 0, _, _, c, _, h => by simp [cycS] at h
  | d + 1, i, vis, c, hd, h => by
    unfold cycS at h
    rcases List.mem_append.1 h with h | h
    · split at h
      · rw [List.mem_singleton.1 h]; exact orb_into p hp 8 i vis (by omega)
      · cases h
    · exact cyc_into p hp d (i + 1) _ c (by omega) h
def At (w : World) (b : Nat) (v : Value) (t : Nat) : Prop := w.heap[b]? = some (.cells #[v] t (0, 0))
theorem At.cell {w : World} {b : Nat} {v : Value} {t : Nat} (h : At w b v t) : w.cell? ⟨b, 0, none⟩ = some v := by simp [World.cell?, show w.heap[b]? = _ from h]
theorem At.frozen {w : World} {b : Nat} {v : Value} {t : Nat} (h : At w b v t) : w.frozen? ⟨b, 0, none⟩ = false := by simp [World.frozen?, show w.heap[b]? = _ from h]
theorem At.lt {w : World} {b : Nat} {v : Value} {t : Nat} (h : At w b v t) : b < w.heap.size := (Array.getElem?_eq_some_iff.1 h).1
theorem At.off {S : Nat → Prop} {A B : World} {b : Nat} {v : Value} {t : Nat} (h : At A b v t) (ho : Off S A B) (hb : ¬ S b) : At B b v t := (ho.same b h.lt hb).trans h
theorem At.set {w : World} {b : Nat} {v u : Value} {t : Nat} (h : At w b v t) : At (w.setCell ⟨b, 0, none⟩ u) b u t := by
  unfold At at h ⊢
  simp [World.setCell, Array.getElem?_modify, h]
theorem below_off {S : Nat → Prop} {w A B : World} (hS : ∀ k, S k → w.heap.size ≤ k) (h : Below w.heap.size w A) (ho : Off S A B) : Below w.heap.size w B :=
  ⟨ho.os.trans h.os, ho.tape.trans h.tape, ho.output.trans h.output, Nat.le_trans h.size ho.size, fun k hk => (ho.same k (Nat.lt_of_lt_of_le hk h.size) (fun hs => by have := hS k hs; omega)).trans (h.block k hk)⟩
theorem cycles_calls (A0 : Option Addr) (n0 c0 : Nat) (w : World) : Calls Tryd.prog 22 #[.slice A0 n0 c0] w fun e w' => e = .returned (.func (.func 35) #[] #[.pointer (some ⟨w.heap.size, 0, none⟩)]) ∧ w' = w.alloc (.cells #[.slice A0 n0 c0] 23) := by
  go_enter Tryd.func22, Tryd.ntmps22
  go_wp2
  go_ret
  exact ⟨rfl, rfl⟩

theorem join_len (sep : List UInt8) (N : Nat) : ∀ l : List (List UInt8), (∀ x ∈ l, x.length ≤ N) → (Lib.join l sep).length ≤ l.length * (N + sep.length)
  | [], _ => by simp [Lib.join]
  | [x], h => by have := h x List.mem_cons_self; simp [Lib.join]; omega
  | x :: y :: l, h => by
    have h1 := h x List.mem_cons_self
    have h2 := join_len sep N (y :: l) (fun z hz => h z (List.mem_cons_of_mem _ hz))
    have e : Lib.join (x :: y :: l) sep = x ++ sep ++ Lib.join (y :: l) sep := by simp [Lib.join]
    rw [e, List.length_append, List.length_append, List.length_cons, Nat.add_mul, Nat.one_mul]
    omega
theorem dec_small {y : Nat} (h : y < 10) : Lib.decDigits y = [UInt8.ofNat (48 + y)] := by rw [Lib.decDigits, dif_pos h]
theorem dec_one (y : Nat) (h : y < 7) : (Lib.decDigits y).length = 1 := by rw [dec_small (by omega)]; rfl
theorem words_len {c : List Int} (hi : Into c 7) : ∀ l ∈ c.map (fun y => Lib.decDigits y.toNat), l.length ≤ 1 := fun l hl => by
  obtain ⟨y, hy, rfl⟩ := List.mem_map.1 hl
  rw [dec_one _ (by have := hi y hy; omega)]
  exact Nat.le_refl _
theorem cycJ_len {c : List Int} (hi : Into c 7) (h8 : c.length ≤ 8) : (Lib.join (c.map fun y => Lib.decDigits y.toNat) [32]).length ≤ 16 := by
  have := join_len [32] 1 _ (words_len hi)
  simp at this
  omega
theorem textB_len : ∀ l : List (List Int), (∀ c ∈ l, Into c 7 ∧ c.length ≤ 8) → (textB l).length ≤ 18 * l.length
  | [], _ => by simp [textB]
  | c :: l, h => by
    have h1 := h c List.mem_cons_self
    have h2 := textB_len l (fun x hx => h x (List.mem_cons_of_mem _ hx))
    have h3 := cycJ_len h1.1 h1.2
    have e : textB (c :: l) = cycB c ++ textB l := by simp [textB]
    have e2 : (cycB c).length = (Lib.join (c.map fun y => Lib.decDigits y.toNat) [32]).length + 2 := by simp [cycB]
    rw [e, List.length_append, e2, List.length_cons]
    omega
theorem cyc_count (p : List Int) : ∀ d i vis, (cycS p d i vis).length ≤ d
  | 0, _, _ => Nat.le_refl _
  | d + 1, i, vis => by
    unfold cycS
    have := cyc_count p d (i + 1) (vis ++ orbL p 8 i vis)
    rw [List.length_append]
    split <;> simp <;> omega
theorem cyc_all {p : List Int} (hv : validB p = true) : (cycL p).length ≤ 7 ∧ ∀ c ∈ cycL p, Into c 7 ∧ c.length ≤ 8 := by
  obtain ⟨q1, q2, q3, q4⟩ := valid_into hv
  exact ⟨Nat.le_trans (cyc_count p _ _ _) q3, fun c hc => ⟨fun y hy => by have := cyc_into p q1 p.length 0 [] c (by omega) hc y hy; omega, cyc_len p _ _ _ c hc⟩⟩
theorem frozen_below {w w' : World} {a : Addr} {v : Value} (hb : Below w.heap.size w w') (hc : w.cell? a = some v) (hf : w.frozen? a = false) : w'.frozen? a = false := (hb.frozen (World.block_lt_of_cell? w a hc)).trans hf
def digS (y : Int) : ByteArray := ⟨(Lib.decDigits y.toNat).toArray⟩
theorem info9 : (Tryd.prog.info? 9).map (fun i => (i.zero, i.size, i.bytes)) = some (some (.string ⟨#[]⟩), 1, 16) := by kernel_rfl
set_option maxHeartbeats 1000000 in
set_option maxRecDepth 100000 in
theorem text_walk (A0 : Option Addr) (c0 : Nat) (p : List Int) (w : World) (hr0 : Kd.C (Kd.int .i64) w A0 p.length p) (hc0 : p.length ≤ c0) (hv : Aside0 (validB p = true)) :
    Calls Tryd.prog 7 #[.slice A0 p.length c0] w fun e w' => e = .returned (.tuple #[.string (textR p), .int .i64 0]) ∧ Below w.heap.size w w' := by
  have HR0 := Aside0.mk hr0
  have HC0 := Aside0.mk hc0
  have HV := Aside0.mk (perm_Valid.calls A0 c0 p true w hr0 hc0 (by unfold perm_Valid.f; rw [hv.out]))
  clear hr0 hc0
  refine (callsIn_wide (n := 5)).1 ?_
  refine callsIn_of_wp_marks Tryd.func7 rfl trivial ?_ rfl
  simp only [Tryd.ntmps7, List.size_toArray, List.length_cons, List.length_nil, Nat.reduceAdd, Nat.reduceSub, Array.replicate_succ, Array.replicate_zero, List.push_toArray, List.append_toArray, List.nil_append, List.cons_append]
  gi_wp2_with (
    first
    | (refine ⟨trivial, ?_⟩; gi_at_call 21; refine (callsIn_wide.2 HV.out).mono ?_; rintro e w1 ⟨rfl, hB1⟩; have HB1 := Aside0.mk hB1; clear hB1)
    | (refine ⟨trivial, ?_⟩; gi_at_call 22; refine (callsIn_wide.2 (cycles_calls _ _ _ _)).mono ?_; rintro e w2 ⟨rfl, rfl⟩))
  obtain ⟨ws, hws⟩ : ∃ ws, ((w1.alloc (Obj.cells #[Value.string ⟨#[]⟩] 9)).alloc (Obj.cells #[Value.slice A0 p.length c0] 23)) = ws := ⟨_, rfl⟩
  have hsz : ws.heap.size = w1.heap.size + 2 := by rw [← hws]; simp
  have hle : w.heap.size ≤ w1.heap.size := HB1.out.size
  have hb : Below w.heap.size w ws := by rw [← hws]; exact (HB1.out.alloc hle _).alloc (by simp; omega) _
  have hn : At ws w1.heap.size (.string ⟨#[]⟩) 9 := by
    rw [← hws]; exact (Below.heap_alloc _ _ _ (by simp)).trans (World.alloc_heap_new _ _)
  have hbx : At ws (w1.heap.size + 1) (.slice A0 p.length c0) 23 := by
    rw [← hws]; have := World.alloc_heap_new (w1.alloc (Obj.cells #[Value.string ⟨#[]⟩] 9)) (Obj.cells #[Value.slice A0 p.length c0] 23); rwa [World.size_alloc] at this
  try rw [hws]
  clear hws
  have HSZ := Aside0.mk hsz
  refine wpIn_cycles (w1.heap.size + 1) c0 A0 p hv.out rfl (enters_of Tryd.func35 (by kernel_rfl) rfl) rfl (by omega)
    (fun pre W => Below w.heap.size w W ∧ At W w1.heap.size (.string ⟨(textB pre).toArray⟩) 9 ∧ At W (w1.heap.size + 1) (.slice A0 p.length c0) 23)
    (fun pre A h => ⟨h.2.2.cell, Kd.C_below HR0.out h.1⟩)
    (fun pre A B h ho => ⟨below_off (fun k hk => by omega) h.1 ho, h.2.1.off ho (by omega), h.2.2.off ho (by omega)⟩)
    ⟨hb, hn, hbx⟩
    (fun v => { tmps := #[.slice A0 p.length c0, undef, .string ⟨#[]⟩, .int .i64 0, .pointer (some { block := w1.heap.size, off := 0 }), v, undef, undef, undef, .slice A0 p.length c0, .bool true, .bool false, .slice A0 p.length c0, .func (Fn.func 35) #[] #[.pointer (some { block := w1.heap.size + 1, off := 0 })], v, undef, undef, undef, undef, undef, undef, undef, undef, undef, undef, undef, undef, undef, undef, undef, undef, undef, undef, undef, undef, undef], defers := [] }) ?assign ?body ?done
  case assign =>
    intro l v W K hK
    gi_wp2
    exact hK
  case body =>
    rintro l pre x v W0 W rest hc ⟨h1, h2, h3⟩ ho hz hR
    replace h1 := below_off (fun k hk => by omega) h1 ho
    replace h2 := h2.off ho (by omega)
    replace h3 := h3.off ho (by omega)
    have HZ : Aside0 (ws.heap.size + 2 < W.heap.size) := ⟨Nat.lt_of_lt_of_le hz ho.size⟩
    clear ho hz
    obtain ⟨A5, c5, rfl, hl5, hC5⟩ := Kd.R_reads hR
    have hx8 : (x.length : Int) ≤ 8 := by
      have := cyc_len p p.length 0 [] x (by show x ∈ cycL p; rw [hc]; simp)
      omega
    have HI5 : Aside0 (Into x 7) := ⟨fun y hy => by
      obtain ⟨q1, q2, q3, q4⟩ := valid_into hv.out
      have := cyc_into p q1 p.length 0 [] x (by omega) (by show x ∈ cycL p; rw [hc]; simp) y hy
      omega⟩
    have HC5 := Aside0.mk hC5
    have H1 := Aside0.mk h1
    have H2 := Aside0.mk h2
    have H3 := Aside0.mk h3
    clear h1 h2 h3 hC5 hR hl5
    obtain ⟨i0, hi, hz0, hz1, hz2⟩ := info_parts info9
    have HI0 := Aside0.mk (And.intro hi (And.intro hz0 (And.intro hz1 hz2)))
    clear hi hz0 hz1 hz2
    gi_wp2
    gi_loopg [6, 17] x.length (fun gg s6 s17 wr => ∃ i : Nat, s17 = .int .i64 i ∧ Aside0 (x.length - i = gg) ∧ Aside0 (i ≤ x.length) ∧ Aside0 (Below W.heap.size W wr) ∧ Aside0 (wr.ownsRow W.heap.size 9 1 s6 i ((x.take i).map fun y => .string (digS y))))
    case atStart => exact ⟨0, rfl, ⟨rfl⟩, ⟨by omega⟩, ⟨Below.refl _ _⟩, ⟨World.ownsRow_nil _ _ _ _⟩⟩
    case round =>
      obtain ⟨i, rfl, HG, HL, HBi, HOi⟩ := hrel
      by_cases cl : i < x.length
      · have clb : decide (i < x.length) = true := decide_eq_true cl
        have clb2 : decide ((i : Int) < (x.length : Int)) = true := decide_eq_true (by omega)
        have q2 : (i : Int) < (x.length : Int) := by omega
        have q1 : (i : Int) ≤ 8 := by omega
        obtain ⟨ad, e1, hx⟩ := Kd.at_int (Kd.C_below HC5.out HBi.out) i (by omega) q2
        cases e1
        have HY := HI5.out (rd x i) (by unfold rd; rw [Int.toNat_natCast, List.getD_eq_getElem?_getD, List.getElem?_eq_getElem cl]; exact List.getElem_mem _)
        obtain ⟨y, hy⟩ : ∃ y : Nat, rd x i = y := ⟨(rd x i).toNat, by omega⟩
        rw [hy] at hx HY
        rw [Int.toNat_natCast] at hx
        have HYY : Aside0 (y < 100) := ⟨by omega⟩
        have HTK : Aside0 ((x.take (i + 1)).map (fun y => Value.string (digS y)) = (x.take i).map (fun y => Value.string (digS y)) ++ [.string ⟨(Lib.decDigits y).toArray⟩]) := ⟨by
          rw [List.take_succ_eq_append_getElem cl, List.map_append]
          have : x[i] = (y : Int) := by rw [← hy]; unfold rd; rw [Int.toNat_natCast, List.getD_eq_getElem?_getD, List.getElem?_eq_getElem cl]; rfl
          rw [this]
          rfl⟩
        have CL := Aside0.mk cl
        have hlen : Aside0 (((x.take i).map fun y => Value.string (digS y)).length = i) := ⟨by simp; omega⟩
        clear HY hy cl
        gi_wp2_with (first
          | (refine ⟨trivial, ?_⟩; gi_at_call 23; refine (CallsIn.inRound l (callsIn_wide.2 (Tryd.strconv_Itoa_small y HYY.out _))).mono ?_; rintro e w' ⟨rfl, hw⟩; rw [hw]; clear hw w')
          | (gi_at_builtin; go_must (refine wpListIn_append_own _ rfl (.tmp 21) (.tmp 24) 47 rfl W.heap.size 9 i0 (.string ⟨#[]⟩) 1 16 Tryd.underlying47 HI0.out.1 HI0.out.2.1 HI0.out.2.2.1 HI0.out.2.2.2 rfl (by decide) u6 i ((x.take i).map fun y => .string (digS y)) rfl (HOi.out.alloc _) ⟨wr.heap.size, 0, none⟩ 1 1 [.string ⟨(Lib.decDigits y).toArray⟩] rfl rfl ?o2 ?o3 ?o4 ?o5 ?o6 ?_; (case o2 => exact cell_one_new _ _ _); (case o3 => simp [Value.oneCell']); (case o4 => have := CL.out; unfold maxLen; omega); (case o5 => have := CL.out; omega); (case o6 => have := HBi.out.size; simp; omega); intro v' w1' hown' hgrow _; have HO1 := Aside0.mk hown'; have HB1' := Aside0.mk (Below.grown (HBi.out.alloc HBi.out.size _) hgrow (by have := HBi.out.size; simp; omega) (fun k hk => own_base HOi.out k hk)); clear hown' hgrow)))
        gi_roundg (x.length - (i + 1))
        case measure => have := HG.out; have := CL.out; omega
        case rel => exact ⟨i + 1, (by first | rfl | (simp; done)), ⟨by omega⟩, ⟨CL.out⟩, HB1', ⟨by rw [HTK.out]; exact HO1.out⟩⟩
      · have clb : decide (i < x.length) = false := decide_eq_false cl
        have clb2 : decide ((i : Int) < (x.length : Int)) = false := decide_eq_false (by omega)
        obtain rfl : i = x.length := by have := HL.out; omega
        clear cl HG HL
        have hn2 := H2.out.off (Off.of_below (S := fun _ => False) HBi.out) (fun h => h)
        have hc2 := hn2.cell
        have hf2 := hn2.frozen
        have HN2 := Aside0.mk hn2
        clear hn2
        have hx1 : 0 < x.length := by
          have := cyc_two p p.length 0 [] x (by show x ∈ cycL p; rw [hc]; simp)
          omega
        obtain ⟨g6, c6, rfl, hg6, hgl6, hcap6, hcell6⟩ := own_cells HOi.out hx1
        have hcell6' : ∀ (j : Nat) (s : ByteArray), (x.map digS)[j]? = some s → wr.cell? ⟨g6, 0 + j, none⟩ = some (.string s) := fun j s hj => hcell6 j (.string s) (by
          rw [List.take_length]
          rw [List.getElem?_map, Option.map_eq_some_iff] at hj ⊢
          obtain ⟨y, hy, rfl⟩ := hj
          exact ⟨y, hy, rfl⟩)
        have hlenJ : (Lib.join ((x.map digS).map (·.data.toList)) (⟨#[32]⟩ : ByteArray).data.toList).length ≤ 140737488355328 := by
          have := cycJ_len HI5.out (by omega)
          rw [List.map_map]
          exact Nat.le_trans this (by omega)
        obtain ⟨J, hJ⟩ : ∃ J : ByteArray, (⟨(Lib.join (x.map fun y => Lib.decDigits y.toNat) [32]).toArray⟩ : ByteArray) = J := ⟨_, rfl⟩
        have HJOIN : Aside0 (∀ W' : World, Below wr.heap.size wr W' → Calls Tryd.prog 24 #[.slice (some ⟨g6, 0, none⟩) x.length c6, .string ⟨#[32]⟩] W' fun e w' => e = .returned (.string J) ∧ Below W'.heap.size W' w') := ⟨fun W' hb => by
          have := Tryd.strings_Join g6 0 c6 (x.map digS) ⟨#[32]⟩ W' (fun j s hj => pw_cell_below hb (hcell6' j s hj)) (Nat.lt_of_lt_of_le hgl6 hb.size) (by simp; omega) (by simpa using hcap6) hlenJ
          rw [List.length_map, List.map_map] at this
          rw [← hJ]
          exact this⟩
        have hJs : J.size ≤ 1000 := by
          have := cycJ_len HI5.out (by omega)
          rw [← hJ]
          show (Lib.join _ _).toArray.size ≤ _
          simp only [List.size_toArray]
          omega
        obtain ⟨S0, hS0⟩ : ∃ S : ByteArray, (⟨(textB pre).toArray⟩ : ByteArray) = S := ⟨_, rfl⟩
        have hSs : S0.size ≤ 1000 := by
          obtain ⟨k1, k2⟩ := cyc_all hv.out
          rw [hc] at k1 k2
          have := textB_len pre (fun c hc => k2 c (List.mem_append.2 (.inl hc)))
          rw [← hS0]
          show (textB pre).toArray.size ≤ _
          simp only [List.size_toArray]
          simp at k1
          omega
        rw [hS0] at hc2
        have d1 : ¬ (9223372036854775807 < 1 + J.size) := by omega
        have d2 : ¬ (9223372036854775807 < 1 + J.size + 1) := by omega
        have d3 : ¬ (9223372036854775807 < S0.size + (1 + J.size + 1)) := by omega
        have HS1 : Aside0 (S0 ++ ((⟨#[40]⟩ : ByteArray) ++ J ++ ⟨#[41]⟩) = ⟨(textB (pre ++ [x])).toArray⟩) := ⟨by
          rw [← hS0, ← hJ, textB_snoc]
          apply ByteArray.ext
          simp [ByteArray.data_append, cycB]⟩
        clear hcell6 hcell6' hlenJ hcap6 hJ hJs hS0 hSs
        gi_wp2
        gi_region_with (refine ⟨trivial, ?_⟩; gi_at_call 24; refine (CallsIn.inRound l (callsIn_wide.2 (HJOIN.out _ (by exact below_drew (Below.refl _ _))))).mono ?_; rintro e w7 ⟨rfl, hb7⟩; have hc7 := pw_cell_below hb7 hc2; have hf7 := frozen_below hb7 hc2 hf2)
        all_goals
          gi_wp2
          have hb7' : Below wr.heap.size wr w7 := Below.trans (below_drew (Below.refl wr.heap.size wr)) hb7
          have hbW : Below W.heap.size W w7 := HBi.out.trans (hb7'.mono HBi.out.size)
          have hlt2 := H2.out.lt
          refine ⟨⟨by simp only [World.setCell, Array.size_modify]; exact hbW.size, fun k hk1 hk2 => ?_⟩, ?_, ?_, ?_⟩
          · have := HSZ.out
            have h3 := H3.out.lt
            refine (Below.heap_setCell _ _ _ _ (by show k ≠ w1.heap.size; omega)).trans ?_
            exact hbW.block k (by have := HZ.out; omega)
          · exact (below_step H1.out hbW).setCell hle _
          · rw [HS1.out]
            exact (At.off (HN2.out) (Off.of_below (S := fun _ => False) hb7') (fun h => h)).set
          · exact (Below.heap_setCell _ _ _ _ (by simp)).trans ((hbW.block _ H3.out.lt).trans H3.out)
  case done =>
    rintro W ⟨h1, h2, h3⟩ hK
    have hc1 := h2.cell
    have hf1 := h2.frozen
    have H1 := Aside0.mk h1
    clear h1
    by_cases he : textB (cycL p) = []
    · have HE : Aside0 (textR p = ⟨#[40, 41]⟩) := ⟨if_pos he⟩
      rw [he] at hc1
      clear he
      gi_wp2
      refine ⟨by simp, .inl ⟨_, _, rfl, run_takeDeferred (by rw [Below.heap_setCell _ _ _ _ (by have := HSZ.out; simp; omega)]; exact hK), ?_⟩⟩
      refine ⟨_, results_tmp2 rfl _ _ _, by rw [HE.out]; rfl, ?_⟩
      exact below_off (S := fun k => k = ws.heap.size) (fun k hk => by omega) (H1.out.setCell hle _) (Off.put (S := fun k => k = ws.heap.size) (l := ws.heap.size) rfl _ _)
    · have HE : Aside0 (textR p = ⟨(textB (cycL p)).toArray⟩) := ⟨if_neg he⟩
      have t1 : (textB (cycL p)).isEmpty = false := by cases h : textB (cycL p) <;> simp_all
      clear he
      gi_wp2
      refine ⟨by simp, .inl ⟨_, _, rfl, run_takeDeferred hK, ?_⟩⟩
      refine ⟨_, results_tmp2 rfl _ _ _, by rw [HE.out]; rfl, ?_⟩
      exact below_off (S := fun k => k = ws.heap.size) (fun k hk => by omega) H1.out (Off.put (S := fun k => k = ws.heap.size) (l := ws.heap.size) rfl _ _)

set_option maxHeartbeats 1000000 in
theorem perm_Text.calls (A0 : Option Addr) (c0 : Nat) (l0 : List Int) (r1 : ByteArray) (r2 : Int) (w : World) (hr0 : Kd.C (Kd.int .i64) w A0 l0.length l0) (hc0 : l0.length ≤ c0) (h : perm_Text.f l0 = some (r1, r2)) :
    Calls Tryd.prog 7 #[.slice A0 l0.length c0] w fun e w' => e = .returned (.tuple #[.string r1, .int .i64 r2]) ∧ Below w.heap.size w w' := by
  have h := Option.some.inj h
  by_cases hv : validB l0 = true
  · rw [if_pos hv] at h
    injection h with h1 h2
    rw [← h1, ← h2]
    exact text_walk A0 c0 l0 w hr0 hc0 ⟨hv⟩
  · rw [if_neg hv] at h
    injection h with h1 h2
    subst h1; subst h2
    have HV := Aside0.mk (perm_Valid.calls A0 c0 l0 false w hr0 hc0 (by unfold perm_Valid.f; simp only [Bool.not_eq_true] at hv; rw [hv]))
    clear hr0 hc0 hv
    go_enter Tryd.func7, Tryd.ntmps7
    go_wp2_with (go_at_call 21; refine HV.out.mono ?_; rintro e w1 ⟨rfl, hB1⟩)
    go_ret2
    exact ⟨rfl, hB1⟩
end Go.Proofs.YtjfhogholmabfaaDoor.Giv
