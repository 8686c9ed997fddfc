-- Written by this session's own program (wip/pp_patch.py, wip/pp.sh) out of the given translation. Not trusted: Lean checks it.
import Derived.Test.YtnolkgfdokijjaaQFnExactPrimesOfx0
import Derived.Test.YtnolkgfdokijjaaQFnExactPrimesOfx4
import Derived.Test.YtnolkgfdokijjaaQFnExactPrimesOfx6
import Derived.Test.YtnolkgfdokijjaaQFnExactPrimesOfx7
namespace Go.Proofs.Ytnolkgfdokijjaa.QFnExactPrimesOf
open Go.RowKit Go.Proofs.YtnolkgfdokijjaaW.PrintWords Go.Proofs.YtnolkgfdokijjaaW.PrintLast Go.Proofs.YtnolkgfdokijjaaW.PrintMore
attribute [local go_sem] max2_int min2_int max_two min_two max_three min_three max_four min_four   -- for this text's walks alone
open Go.Proofs.Ytnolkgfdokijjaa.Ext
attribute [local go_sem high] ext_gtr ext_leq
set_option linter.unusedVariables false
set_option linter.unusedSimpArgs false

/-! ### impl_terms: function 60 (by hand) -/
def impl_terms.f (a0 a1 : Int) : Option (List (List Int)) := if 0 ≤ a0 ∧ a0 ≤ 8 ∧ 0 ≤ a1 ∧ a1 ≤ 3 then some (allL a1 a0.toNat) else none
set_option maxHeartbeats 8000000 in
set_option maxRecDepth 100000 in
theorem impl_terms.calls (a0 : Int) (a1 : Int) (r : List (List Int)) (w : World) (h : impl_terms.f a0 a1 = some r) :
  Calls Try.prog 60 #[.int .i64 a0, .int .i64 a1] w fun e w' => ∃ v0_ : Value, e = .returned (v0_) ∧ Kd.S (Kd.slice 3 (Kd.int .i64)) 49 w' w.heap.size (fun _ => True) v0_ r ∧ Below w.heap.size w w' := by
 unfold impl_terms.f at h
 by_cases hc : 0 ≤ a0 ∧ a0 ≤ 8 ∧ 0 ≤ a1 ∧ a1 ≤ 3
 rotate_left
 ·rw [if_neg hc] at h
  exact absurd h (by simp)
 rw [if_pos hc] at h
 have HRR := Aside0.mk (Option.some.inj h)
 have HC := Aside0.mk hc
 have HB := Aside0.mk (Below.refl w.heap.size w)
 clear h hc
 go_enter Try.func60, Try.ntmps60
 go_wp2_with (first | ((with_reducible refine gate_dst (N := 10) rfl ?_); refine Kd.S_lit (Kd.slice 3 (Kd.int .i64)) _ 49 ?hg (N := 10) ?hd (xs := ([[]] : List (List Int))) (inner := [.slice none 0 0]) (ok := fun _ => True) (okp := fun _ => True) ?hr ?hp (fun _ hk => hk) trivial (Below.refl _ _) (Nat.le_refl _) (by simp) ?_; (case hd => rfl); (case hg => rfl); (case hr => first | (go_simp; done) | (go_simp; rfl)); (case hp => exact (Reps.one (show Kd.M (Kd.slice 3 (Kd.int .i64)) _ _ _ [] [.slice none 0 0] from ⟨_, rfl, Kd.R_nil _ _ _ _ _⟩) (Reps.none _ _))); intro v162 w3 ho4 hb hg_ hnew_; clear hg_ hnew_; have HO5 := Aside0.mk ho4; have HB3 := Aside0.mk hb; clear ho4 hb))
 go_loopg [5, 12] a0.toNat (fun kq v5 v12 w' => ∃ (i : Nat) (x6 : Int), v12 = .int .i64 x6 ∧ Aside0 (x6 = i) ∧ Aside0 (i + kq = a0.toNat) ∧ Aside0 (Kd.S (Kd.slice 3 (Kd.int .i64)) 49 w' w.heap.size (fun _ => True) v5 (allL a1 i)) ∧ Aside0 (Below w.heap.size w w'))
 case atStart => exact ⟨0, 0, rfl, ⟨rfl⟩, ⟨by simp⟩, HO5, HB3⟩
 case round =>
  clear HO5 HB3 HB
  obtain ⟨i, x6, rfl, H6, HI, HO5, HB⟩ := hrel
  cases gk with
  | zero =>
   have c1 : decide (x6 < a0) = false := decide_eq_false (by have := HI.out; have := H6.out; have := HC.out; omega)
   have HE := Aside0.mk (show i = a0.toNat by have := HI.out; omega)
   go_wp2
   go_ret
   have ho := HO5.out
   rw [HE.out, HRR.out] at ho
   exact ⟨_, rfl, ho, HB.out⟩
  | succ k1 =>
   have hc := HC.out
   have h6 := H6.out
   have hi := HI.out
   have c1 : decide (x6 < a0) = true := decide_eq_true (by omega)
   obtain ⟨wS, hwS⟩ : ∃ wS : World, wS = wr := ⟨_, rfl⟩
   have HLS := Aside0.mk (allL_small a1 hc.2.2.1 i (by omega))
   obtain ⟨A5, c5, rfl, hl5, hC5⟩ := Kd.S_reads HO5.out
   have HW6 := Aside0.mk (show wrap64 (x6 + 1) = x6 + 1 from by unfold wrap64; omega)
   clear hl5 hC5 hc h6 hi
   rw [← hwS] at HO5 HB ⊢
   have HWS := Aside0.mk hwS
   clear hwS HWS
   go_wp2
   go_loopg [6, 16] (allL a1 i).length (fun kq v7 v19 w' => ∃ (j : Nat) (x19 : Int), v19 = .int .i64 x19 ∧ Aside0 (x19 = j) ∧ Aside0 (j + kq = (allL a1 i).length) ∧ Aside0 (Kd.S (Kd.slice 3 (Kd.int .i64)) 49 w' wS.heap.size (fun _ => True) v7 (nextL a1 ((allL a1 i).take j))) ∧ Aside0 (Below wS.heap.size wS w'))
   case atStart => exact ⟨0, 0, rfl, ⟨rfl⟩, ⟨by simp⟩, ⟨by rw [List.take_zero]; exact Kd.S_nil _ _ _ _ _⟩, ⟨Below.refl _ _⟩⟩
   case round =>
    obtain ⟨j, x19, rfl, H19, HJ, HN, HBS⟩ := hrel
    cases gk with
    | zero =>
     have c2 : decide (x19 < ((allL a1 i).length : Int)) = false := decide_eq_false (by have := HJ.out; have := H19.out; omega)
     have HN2 := Aside0.mk (show Kd.S (Kd.slice 3 (Kd.int .i64)) 49 wr w.heap.size (fun _ => True) u6 (allL a1 (i + 1)) from by have h_ := HN.out; rw [show j = (allL a1 i).length by have := HJ.out; omega, List.take_length] at h_; exact Kd.S_lower h_ HB.out.size)
     have HB2 := Aside0.mk (below_step HB.out HBS.out)
     clear HN HBS HB HO5
     go_wp2
     go_roundg k1
     case measure => omega
     case rel => exact ⟨i + 1, x6 + 1, by rw [HW6.out], ⟨by have := H6.out; omega⟩, ⟨by have := HI.out; omega⟩, HN2, HB2⟩
    | succ k2 =>
     have hc := HC.out
     have hls := HLS.out
     have h19 := H19.out
     have hj := HJ.out
     have p1 : x19 < ((allL a1 i).length : Int) := by omega
     have p0 : 0 ≤ x19 := by omega
     have c2 : decide (x19 < ((allL a1 i).length : Int)) = true := decide_eq_true p1
     have c0 : decide (0 ≤ x19) = true := decide_eq_true p0
     obtain ⟨g, cp, e1, _, _, _⟩ := Kd.S_form HO5.out (by omega)
     injection e1 with e1 e3 e2
     clear e3
     subst e1; subst e2
     obtain ⟨t, ht⟩ : ∃ t, (allL a1 i)[j]? = some t := ⟨_, List.getElem?_eq_getElem (by omega)⟩
     obtain ⟨cs, hcl, hM, hcc⟩ := Kd.S_get HO5.out [] x19 p0 p1
     rw [show x19.toNat = j by omega, List.getD_eq_getElem?_getD, ht, Option.getD_some] at hM
     obtain ⟨vt, rfl, hRt⟩ := hM
     obtain ⟨At, ct, rfl, hlt, hCt⟩ := Kd.R_reads hRt
     have hcell := hcc 0 _ rfl
     rw [Nat.add_zero, show ((Kd.slice 3 (Kd.int .i64))).sz = 1 from rfl, Nat.mul_one, add_plain] at hcell
     replace hcell := (HBS.out.cell (World.block_lt_of_cell? wS _ hcell)).trans hcell
     have HCT := Aside0.mk hCt
     have HCL := Aside0.mk hlt
     have HTL := Aside0.mk (show t.length ≤ 8 by have h1 := allL_mem a1 i t (List.mem_of_getElem? ht); have h2 := HI.out; omega)
     have HTK := Aside0.mk (nextL_take a1 (allL a1 i) j t ht)
     have HW19 := Aside0.mk (show wrap64 (x19 + 1) = x19 + 1 from by unfold wrap64; omega)
     have HNL := Aside0.mk (show (nextL a1 ((allL a1 i).take j)).length ≤ 6561 * 3 by rw [nextL_length, List.length_take]; exact Nat.mul_le_mul (by omega) (by omega))
     clear hcl hcc hRt hlt hCt ht hc hls h19 hj
     go_wp2
     go_loopg [6, 9] (3 - a1).toNat (fun kq v7 v10 w' => ∃ (m : Nat) (x10 : Int), v10 = .int .i64 x10 ∧ Aside0 (x10 = a1 + m) ∧ Aside0 (m + kq = (3 - a1).toNat) ∧ Aside0 (Kd.S (Kd.slice 3 (Kd.int .i64)) 49 w' wS.heap.size (fun _ => True) v7 (nextL a1 ((allL a1 i).take j) ++ ((valsL a1).take m).map fun n => t ++ [n])) ∧ Aside0 (Below wS.heap.size wS w'))
     case atStart => exact ⟨0, a1, rfl, ⟨by simp⟩, ⟨by simp⟩, ⟨by simpa using HN.out⟩, HBS⟩
     case round =>
      clear HN HBS
      obtain ⟨m, x10, rfl, H10, HMK, HN, HBS⟩ := hrel
      cases gk with
      | zero =>
       have c3 : decide (x10 ≤ 2) = false := decide_eq_false (by have := HMK.out; have := H10.out; have := HC.out; omega)
       have HN2 := Aside0.mk (show Kd.S (Kd.slice 3 (Kd.int .i64)) 49 wr wS.heap.size (fun _ => True) u6 (nextL a1 ((allL a1 i).take (j + 1))) from by have h_ := HN.out; rw [show m = (valsL a1).length by rw [valsL_length]; have := HMK.out; omega, List.take_length, ← HTK.out] at h_; exact h_)
       clear HN
       go_wp2
       go_roundg k2
       case measure => omega
       case rel => exact ⟨j + 1, x19 + 1, by rw [HW19.out], ⟨by have := H19.out; omega⟩, ⟨by have := HJ.out; omega⟩, HN2, HBS⟩
      | succ k3 =>
       have h10 := H10.out
       have hmk := HMK.out
       have hc := HC.out
       have c3 : decide (x10 ≤ 2) = true := decide_eq_true (by omega)
       have HW10 := Aside0.mk (show wrap64 (x10 + 1) = x10 + 1 from by unfold wrap64; omega)
       have HT1 := Aside0.mk (show (((valsL a1).take (m + 1)).map fun n => t ++ [n]) = (((valsL a1).take m).map fun n => t ++ [n]) ++ [t ++ [x10]] from by rw [valsL_take a1 m (by omega), List.map_append, h10]; rfl)
       have HTm := Aside0.mk (show (((valsL a1).take m).map fun n => t ++ [n]).length ≤ 3 by rw [List.length_map, List.length_take, valsL_length]; omega)
       clear h10 hmk hc
       go_wp2_with fail
       (with_reducible refine (slices_Clone_int_int.calls _ _ t t _ ?s1 ?s2 ?s3).mono ?_)
       case s1 => exact Kd.C_below HCT.out HBS.out
       case s2 => exact HCL.out
       case s3 => unfold slices_Clone_int_int.f; have := HTL.out; simp; omega
       rintro e w5 ⟨v2, rfl, ho, hb⟩
       have HN2 := Aside0.mk (Kd.S_elder' HN.out (Kd.R_base ho) hb)
       have HBS2 := Aside0.mk (below_step HBS.out hb)
       have HR2 := Aside0.mk (Kd.R_lower ho HBS.out.size)
       clear HN HBS ho hb
       go_wp2_with (first | ((with_reducible refine gate_builtin (b := .append) (xs := #[.tmp 27, .tmp 29]) rfl ?_); at_builtin; refine Kd.R_append (Kd.int .i64) (w0 := wS) wS.heap.size rfl (.tmp 27) (.tmp 29) 49 3 (.int .i64 0) 8 rfl Try.underlying49 info3 rfl (by decide) (by omega) v2 t x10 [.int .i64 x10] (fun _ => True) (fun _ => False) rfl rfl rfl (fun _ hk => hk.elim) (fun _ _ => trivial) HR2.out HBS2.out HBS2.out.size ?aL ?_; (case aL => have := HTL.out; omega); intro v3 w6 ho hb hg hat; obtain ⟨y9, hy9⟩ : ∃ y : List Int, y = t ++ [x10] := ⟨_, rfl⟩; rw [← hy9] at ho; have HY9 := Aside0.mk hy9; clear hy9; have HN3 := Aside0.mk (Kd.S_after (ok := fun _ => True) HN2.out hg hat); have HBS3 := Aside0.mk hb; have HR3 := Aside0.mk ho; clear HN2 HBS2 HR2 ho hb hg hat; obtain ⟨A9, c9, e9⟩ := Kd.R_slice HR3.out; subst e9) | ((with_reducible refine gate_builtin (b := .append) (xs := #[.tmp 25, .tmp 31]) rfl ?_); at_builtin; refine Kd.S_append (Kd.slice 3 (Kd.int .i64)) (w0 := wS) wS.heap.size rfl (.tmp 25) (.tmp 31) 30 49 (.slice none 0 0) 24 rfl Try.underlying30 info49 rfl (by decide) (by omega) u6 (nextL a1 ((allL a1 i).take j) ++ ((valsL a1).take m).map fun n => t ++ [n]) y9 [.slice A9 y9.length c9] (fun _ => True) (fun k_ => some k_ = (.slice A9 y9.length c9 : Value).ownBlock) rfl rfl ?aP ?aK (fun _ _ => trivial) ?aO HBS3.out HBS3.out.size ?aL ?_; (case aP => exact Kd.M_row (Kd.R_mono (Kd.R_tight rfl HR3.out) (fun _ h_ => h_))); (case aK => exact fun k_ hk_ => ⟨trivial, (Kd.R_apart' HR3.out (Kd.S_typed HN3.out) (by decide)).1 k_ hk_.symm |>.2⟩); (case aO => exact Kd.S_mono HN3.out (fun k_ hk => ⟨trivial, fun e_ => hk.2 e_⟩)); (case aL => have := HNL.out; have := HTm.out; simp only [List.length_append]; omega); intro v4 w7 ho hb hg hat; have HBS4 := Aside0.mk hb; have HN4 := Aside0.mk ho; clear HN3 HBS3 HR3 ho hb hg hat))
       go_roundg k3
       case measure => omega
       case rel => exact ⟨m + 1, x10 + 1, by rw [HW10.out], ⟨by have := H10.out; omega⟩, ⟨by have := HMK.out; omega⟩, ⟨by have h_ := HN4.out; rw [HY9.out] at h_; rw [HT1.out]; simpa using h_⟩, HBS4⟩

/-! ### slices_Index_string_string: function 101 -/
def slices_Index_string_string.l0 : Nat → List ByteArray → ByteArray → Int → Int → Option (Int)
 | 0, _, _, _, _ => none
 | k + 1, x0, x1, x7, x8 => if x8 < x7 then (if 0 ≤ x8 then (if x8 < (x0.length : Int) then (if x1.toList = (rdOf ByteArray.empty x0 x8).toList then (some x8) else (slices_Index_string_string.l0 k x0 x1 x7 (wrap64 (x8 + 1)))) else (none)) else (none)) else (some (-1))
def slices_Index_string_string.f (k : Nat) (l0 : List ByteArray) (a1 : ByteArray) : Option (Int) := slices_Index_string_string.l0 k l0 a1 (l0.length : Int) 0
theorem slices_Index_string_string.mono_l : ∀ k, (∀ y0 y1 y2 y3, LeO (slices_Index_string_string.l0 k y0 y1 y2 y3) (slices_Index_string_string.l0 (k + 1) y0 y1 y2 y3))
 | 0 => fun _ _ _ _ r h => by simp [slices_Index_string_string.l0] at h
 | k + 1 => by
  have ih0 := slices_Index_string_string.mono_l k
  ·intro y0 y1 y2 y3
   unfold slices_Index_string_string.l0
   repeat' first
   | (with_reducible exact ih0 _ _ _ _)
   | (with_reducible exact LeO.refl _)
   | (with_reducible exact LeO.none _)
   | (with_reducible refine LeO.ite ?_ ?_)
   | (with_reducible refine LeO.bind ?_ (fun _ => ?_))
   | exact ih0 _ _ _ _
   | exact LeO.none _
   | refine LeO.ite ?_ ?_
   | refine LeO.bind ?_ (fun _ => ?_)
theorem slices_Index_string_string.mono : ∀ a0 a1 k, LeO (slices_Index_string_string.f k a0 a1) (slices_Index_string_string.f (k + 1) a0 a1) := by
 intro a0 a1 k
 have ih0 := slices_Index_string_string.mono_l k
 unfold slices_Index_string_string.f
 repeat' first
   | (with_reducible exact ih0 _ _ _ _)
   | (with_reducible exact LeO.refl _)
   | (with_reducible exact LeO.none _)
   | (with_reducible refine LeO.ite ?_ ?_)
   | (with_reducible refine LeO.bind ?_ (fun _ => ?_))
   | exact ih0 _ _ _ _
   | exact LeO.none _
   | refine LeO.ite ?_ ?_
   | refine LeO.bind ?_ (fun _ => ?_)
set_option maxHeartbeats 8000000 in
set_option maxRecDepth 100000 in
theorem slices_Index_string_string.calls (k : Nat) (A0 : Option Addr) (c0 : Nat) (l0 : List ByteArray) (a1 : ByteArray) (r : Int) (w : World) (hr0 : Kd.C Kd.string w A0 l0.length l0) (hc0 : l0.length ≤ c0) (h : slices_Index_string_string.f k l0 a1 = some r) :
  Calls Try.prog 101 #[.slice A0 l0.length c0, .string a1] w fun e w' => e = .returned (.int .i64 r) ∧ Drawn0 w w' := by
 have HR0 := Aside0.mk hr0
 have HC0 := Aside0.mk hc0
 clear hr0 hc0
 have H : (slices_Index_string_string.l0 k l0 a1 (l0.length : Int) 0) = some r := h
 clear h
 have H' := Aside0.mk H
 clear H
 go_enter Try.func101, Try.ntmps101
 go_wp2
 go_loopg [8] k (fun kq v8 w' => ∃ (x8_1 : Int), v8 = .int .i64 x8_1 ∧ Aside0 (slices_Index_string_string.l0 kq l0 a1 (l0.length : Int) x8_1 = some r) ∧ Aside0 (kq ≤ k) ∧ Drawn0 w w')
 case atStart => exact ⟨(0), sq_e, H', ⟨Nat.le_refl _⟩, by repeat (first | exact Drawn0.refl _ | apply Drawn0.step)⟩
 case round =>
  clear H'
  (try clear c1); (try clear p2)
  obtain ⟨x8_1, rfl, HA, HK1, ⟨m1, rfl⟩⟩ := hrel
  cases gk with
  | zero => exact absurd HA.out (by simp [slices_Index_string_string.l0])
  | succ k1 =>
   have H := HA.out
   clear HA
   simp only [slices_Index_string_string.l0] at H
   by_cases c3 : x8_1 < (l0.length : Int)
   ·rw [if_pos c3] at H
    have c3b0 : decide (x8_1 < (l0.length : Int)) = true := decide_eq_true c3
    clear c3
    by_cases c4 : 0 ≤ x8_1
    rotate_left
    ·rw [if_neg c4] at H
     exact absurd H (by simp)
    rw [if_pos c4] at H
    have c4b0 : decide (0 ≤ x8_1) = true := decide_eq_true c4
    clear c4
    by_cases c5 : x8_1 < (l0.length : Int)
    rotate_left
    ·rw [if_neg c5] at H
     exact absurd H (by simp)
    rw [if_pos c5] at H
    have c5b0 : decide (x8_1 < (l0.length : Int)) = true := decide_eq_true c5
    clear c5
    by_cases c6 : a1.toList = (rdOf ByteArray.empty l0 x8_1).toList
    ·rw [if_pos c6] at H
     have c6b0 : (a1.toList == (rdOf ByteArray.empty l0 x8_1).toList) = true := beq_iff_eq.mpr c6
     have c6b1 : (a1.toList != (rdOf ByteArray.empty l0 x8_1).toList) = false := bne_eq_false_iff_eq.mpr c6
     clear c6
     obtain rfl := Option.some.inj H
     have p263 : 0 ≤ (x8_1 : Int) := sq_d
     have q263 : x8_1 < (l0.length : Int) := sq_d
     obtain ⟨ad263, e263, hx263_0⟩ := Kd.at_string HR0.out x8_1 p263 q263
     cases e263
     replace p263 := eq_true p263
     replace q263 := eq_true q263
     go_wp2
     go_ret
     exact ⟨by first | rfl | (simp; done) | (simp [ext_bne_nil, ext_beq_nil]; done) | (simp [*]; done), by repeat (first | exact Drawn0.refl _ | apply Drawn0.step)⟩
    ·rw [if_neg c6] at H
     have c6b0 : (a1.toList == (rdOf ByteArray.empty l0 x8_1).toList) = false := beq_eq_false_iff_ne.mpr c6
     have c6b1 : (a1.toList != (rdOf ByteArray.empty l0 x8_1).toList) = true := bne_iff_ne.mpr c6
     have H' := Aside0.mk H
     clear H
     have p263 : 0 ≤ (x8_1 : Int) := sq_d
     have q263 : x8_1 < (l0.length : Int) := sq_d
     obtain ⟨ad263, e263, hx263_0⟩ := Kd.at_string HR0.out x8_1 p263 q263
     cases e263
     replace p263 := eq_true p263
     replace q263 := eq_true q263
     go_wp2
     go_roundg k1
     case measure => have := HK1.out; omega
     case rel => exact ⟨(wrap64 (x8_1 + 1)), sq_e, H', ⟨by have := HK1.out; omega⟩, by repeat (first | exact Drawn0.refl _ | apply Drawn0.step)⟩
   ·rw [if_neg c3] at H
    have c3b0 : decide (x8_1 < (l0.length : Int)) = false := decide_eq_false c3
    clear c3
    obtain rfl := Option.some.inj H
    go_wp2
    go_ret
    exact ⟨by first | rfl | (simp; done) | (simp [ext_bne_nil, ext_beq_nil]; done) | (simp [*]; done), by repeat (first | exact Drawn0.refl _ | apply Drawn0.step)⟩

/-! ### slices_Contains_string_string: function 90 -/
def slices_Contains_string_string.f (k : Nat) (l0 : List ByteArray) (a1 : ByteArray) : Option (Bool) := (slices_Index_string_string.f k l0 a1).bind fun t264 => (some (decide (t264 ≥ 0)))
theorem slices_Contains_string_string.mono : ∀ a0 a1 k, LeO (slices_Contains_string_string.f k a0 a1) (slices_Contains_string_string.f (k + 1) a0 a1) := by
 intro a0 a1 k
 unfold slices_Contains_string_string.f
 repeat' first
   | (with_reducible exact slices_Index_string_string.mono _ _ _)
   | (with_reducible exact LeO.refl _)
   | (with_reducible exact LeO.none _)
   | (with_reducible refine LeO.ite ?_ ?_)
   | (with_reducible refine LeO.bind ?_ (fun _ => ?_))
   | exact slices_Index_string_string.mono _ _ _
   | exact LeO.none _
   | refine LeO.ite ?_ ?_
   | refine LeO.bind ?_ (fun _ => ?_)
set_option maxHeartbeats 8000000 in
set_option maxRecDepth 100000 in
theorem slices_Contains_string_string.calls (k : Nat) (A0 : Option Addr) (c0 : Nat) (l0 : List ByteArray) (a1 : ByteArray) (r : Bool) (w : World) (hr0 : Kd.C Kd.string w A0 l0.length l0) (hc0 : l0.length ≤ c0) (h : slices_Contains_string_string.f k l0 a1 = some r) :
  Calls Try.prog 90 #[.slice A0 l0.length c0, .string a1] w fun e w' => e = .returned (.bool r) ∧ Drawn0 w w' := by
 have HR0 := Aside0.mk hr0
 have HC0 := Aside0.mk hc0
 clear hr0 hc0
 have H : ((slices_Index_string_string.f k l0 a1).bind fun t264 => (some (decide (t264 ≥ 0)))) = some r := h
 clear h
 replace H := Option.bind_eq_some_iff.mp H
 obtain ⟨t264, A30, H⟩ := H
 replace H : (some (decide (t264 ≥ 0))) = some r := H
 have A3 := Aside0.mk A30
 clear A30
 obtain rfl := Option.some.inj H
 go_enter Try.func90, Try.ntmps90
 go_wp2_with (first | ((with_reducible refine gate_callee (f := 101) rfl ?_); refine goesL_ (some 7) rfl rfl Try.func101 (by kernel_rfl) rfl #[.slice A0 l0.length c0, .string a1] rfl (by (try simp only [List.map_toArray, List.map_cons, List.map_nil]); first | done | rfl | (simp only [List.length_drop, List.length_take]; rfl)) ?_; (with_reducible refine (slices_Index_string_string.calls k _ _ l0 a1 t264 _ ?side1 ?side2 A3.out).mono ?_); (case side1 => repeat (first | exact HR0.out | (with_reducible refine Kd.C_alloc ?_ _) | (with_reducible refine Kd.C_drewN ?_ _) | (with_reducible refine Kd.C_drew ?_))); (case side2 => exact HC0.out); rintro e w' ⟨rfl, ⟨nd, rfl⟩⟩; refine ⟨_, rfl, ?_⟩))
 go_ret
 exact ⟨by first | rfl | (simp; done) | (simp [ext_bne_nil, ext_beq_nil]; done) | (simp [*]; done), by repeat (first | exact Drawn0.refl _ | apply Drawn0.step)⟩

/-! ### impl_holds: function 68 -/
def impl_holds.l0 : Nat → List (S46) → List ByteArray → List Bool → List (S46) → Int → Int → Option (Bool)
 | 0, _, _, _, _, _, _ => none
 | k + 1, x0, x1, x5, x11, x12, x13 => if x13 < x12 then (if 0 ≤ x13 then (if x13 < (x11.length : Int) then (if ((rd_T46 x11 x13).f0) = 1 then ((slices_Contains_string_string.f k x1 ((rd_T46 x11 x13).f1)).bind fun t271 => (if x13 < (x5.length : Int) then (impl_holds.l0 k x0 x1 (x5.set (x13 : Int).toNat t271) x11 x12 (wrap64 (x13 + 1))) else (none))) else (if ((rd_T46 x11 x13).f0) = 2 then (if 0 ≤ ((rd_T46 x11 x13).f2) then (if ((rd_T46 x11 x13).f2) < (x5.length : Int) then (if rdOf false x5 ((rd_T46 x11 x13).f2) = true then (if 0 ≤ ((rd_T46 x11 x13).f3) then (if ((rd_T46 x11 x13).f3) < (x5.length : Int) then (if x13 < (x5.length : Int) then (impl_holds.l0 k x0 x1 (x5.set (x13 : Int).toNat (rdOf false x5 ((rd_T46 x11 x13).f3))) x11 x12 (wrap64 (x13 + 1))) else (none)) else (none)) else (none)) else (if x13 < (x5.length : Int) then (impl_holds.l0 k x0 x1 (x5.set (x13 : Int).toNat false) x11 x12 (wrap64 (x13 + 1))) else (none))) else (none)) else (none)) else (if ((rd_T46 x11 x13).f0) = 3 then (if 0 ≤ ((rd_T46 x11 x13).f2) then (if ((rd_T46 x11 x13).f2) < (x5.length : Int) then (if rdOf false x5 ((rd_T46 x11 x13).f2) = true then (if x13 < (x5.length : Int) then (impl_holds.l0 k x0 x1 (x5.set (x13 : Int).toNat true) x11 x12 (wrap64 (x13 + 1))) else (none)) else (if 0 ≤ ((rd_T46 x11 x13).f3) then (if ((rd_T46 x11 x13).f3) < (x5.length : Int) then (if x13 < (x5.length : Int) then (impl_holds.l0 k x0 x1 (x5.set (x13 : Int).toNat (rdOf false x5 ((rd_T46 x11 x13).f3))) x11 x12 (wrap64 (x13 + 1))) else (none)) else (none)) else (none))) else (none)) else (none)) else (if 0 ≤ ((rd_T46 x11 x13).f2) then (if ((rd_T46 x11 x13).f2) < (x5.length : Int) then (if x13 < (x5.length : Int) then (impl_holds.l0 k x0 x1 (x5.set (x13 : Int).toNat (!(rdOf false x5 ((rd_T46 x11 x13).f2)))) x11 x12 (wrap64 (x13 + 1))) else (none)) else (none)) else (none))))) else (none)) else (none)) else (if 0 ≤ (wrap64 ((x0.length : Int) - 1)) then (if (wrap64 ((x0.length : Int) - 1)) < (x5.length : Int) then (some (rdOf false x5 (wrap64 ((x0.length : Int) - 1)))) else (none)) else (none))
def impl_holds.f (k : Nat) (l0 : List (S46)) (l1 : List ByteArray) : Option (Bool) := if 0 ≤ (l0.length : Int) then (if ((l0.length : Int) : Int).toNat ≤ 281474976710656 then (impl_holds.l0 k l0 l1 (List.replicate ((l0.length : Int) : Int).toNat false) l0 (l0.length : Int) 0) else (none)) else (none)
theorem impl_holds.mono_l : ∀ k, (∀ y0 y1 y2 y3 y4 y5, LeO (impl_holds.l0 k y0 y1 y2 y3 y4 y5) (impl_holds.l0 (k + 1) y0 y1 y2 y3 y4 y5))
 | 0 => fun _ _ _ _ _ _ r h => by simp [impl_holds.l0] at h
 | k + 1 => by
  have ih0 := impl_holds.mono_l k
  ·intro y0 y1 y2 y3 y4 y5
   unfold impl_holds.l0
   repeat' first
   | (with_reducible exact ih0 _ _ _ _ _ _)
   | (with_reducible exact slices_Contains_string_string.mono _ _ _)
   | (with_reducible exact LeO.refl _)
   | (with_reducible exact LeO.none _)
   | (with_reducible refine LeO.ite ?_ ?_)
   | (with_reducible refine LeO.bind ?_ (fun _ => ?_))
   | exact ih0 _ _ _ _ _ _
   | exact slices_Contains_string_string.mono _ _ _
   | exact LeO.none _
   | refine LeO.ite ?_ ?_
   | refine LeO.bind ?_ (fun _ => ?_)
theorem impl_holds.mono : ∀ a0 a1 k, LeO (impl_holds.f k a0 a1) (impl_holds.f (k + 1) a0 a1) := by
 intro a0 a1 k
 have ih0 := impl_holds.mono_l k
 unfold impl_holds.f
 repeat' first
   | (with_reducible exact ih0 _ _ _ _ _ _)
   | (with_reducible exact slices_Contains_string_string.mono _ _ _)
   | (with_reducible exact LeO.refl _)
   | (with_reducible exact LeO.none _)
   | (with_reducible refine LeO.ite ?_ ?_)
   | (with_reducible refine LeO.bind ?_ (fun _ => ?_))
   | exact ih0 _ _ _ _ _ _
   | exact slices_Contains_string_string.mono _ _ _
   | exact LeO.none _
   | refine LeO.ite ?_ ?_
   | refine LeO.bind ?_ (fun _ => ?_)
set_option maxHeartbeats 8000000 in
set_option maxRecDepth 100000 in
theorem impl_holds.calls (k : Nat) (A0 : Option Addr) (c0 : Nat) (l0 : List (S46)) (A1 : Option Addr) (c1 : Nat) (l1 : List ByteArray) (r : Bool) (w : World) (hr0 : Kd.C k46 w A0 l0.length l0) (hc0 : l0.length ≤ c0) (hr1 : Kd.C Kd.string w A1 l1.length l1) (hc1 : l1.length ≤ c1) (h : impl_holds.f k l0 l1 = some r) :
  Calls Try.prog 68 #[.slice A0 l0.length c0, .slice A1 l1.length c1] w fun e w' => e = .returned (.bool r) ∧ Below w.heap.size w w' := by
 have hu46 := Try.underlying46
 have HR0 := Aside0.mk hr0
 have HC0 := Aside0.mk hc0
 clear hr0 hc0
 have HR1 := Aside0.mk hr1
 have HC1 := Aside0.mk hc1
 clear hr1 hc1
 have HB := Aside0.mk (Below.refl w.heap.size w)
 have H : (if 0 ≤ (l0.length : Int) then (if ((l0.length : Int) : Int).toNat ≤ 281474976710656 then (impl_holds.l0 k l0 l1 (List.replicate ((l0.length : Int) : Int).toNat false) l0 (l0.length : Int) 0) else (none)) else (none)) = some r := h
 clear h
 by_cases c3 : 0 ≤ (l0.length : Int)
 ·rw [if_pos c3] at H
  have c3b0 := eq_true c3
  have c3b1 : decide (0 ≤ (l0.length : Int)) = true := decide_eq_true c3
  clear c3
  by_cases c4 : ((l0.length : Int) : Int).toNat ≤ 281474976710656
  rotate_left
  ·rw [if_neg c4] at H
   exact absurd H (by simp)
  rw [if_pos c4] at H
  have c4b0 := eq_true c4
  have c4b1 : decide (((l0.length : Int) : Int).toNat ≤ 281474976710656) = true := decide_eq_true c4
  clear c4
  obtain ⟨y265, hy265⟩ : ∃ y_ : List Bool, y_ = (List.replicate ((l0.length : Int) : Int).toNat false) := ⟨_, rfl⟩
  replace H : (impl_holds.l0 k l0 l1 y265 l0 (l0.length : Int) 0) = some r := by first | (rw [hy265]; with_reducible exact H) | (have H2_ := (Option.bind_some _ _).symm.trans H; rw [hy265]; with_reducible exact H2_) | (have H2_ := (Option.bind_some _ _).symm.trans H; with_reducible exact H2_) | with_reducible exact H | (rw [hy265]; exact H) | exact H
  have Ny265 := Aside0.mk hy265
  clear hy265
  have H' := Aside0.mk H
  clear H
  go_enter Try.func68, Try.ntmps68
  go_wp2_with (first | ((with_reducible refine gate_dst (N := 10) rfl ?_); refine Kd.R_make Kd.bool _ 4 rfl (N := 10) rfl 95 _ _ rfl (l0.length : Int) rfl rfl Try.underlying95 (.bool false) 1 info4 rfl (by decide) (by omega) false (ok := fun _ => True) (okp := fun _ => True) rfl (fun _ hk => hk) trivial (sq_d) (Nat.le_trans (Nat.mul_le_mul_right _ (sq_d : (l0.length : Int).toNat ≤ 281474976710656)) (by omega)) (Below.refl _ _) (Nat.le_refl _) ?_; intro v266 w5 ho6 hb hg_ hnew_; clear hg_ hnew_; (first | rw [← Ny265.out] at ho6 | (simp only [Int.reduceToNat] at ho6; rw [← Ny265.out] at ho6)); have n0_ := Aside0.mk (Kd.R_lower ho6 (below_size sq_b)); have n1_ := Aside0.mk (below_step sq_b hb); clear HB; have HO267 := n0_; have HB := n1_; clear n0_ n1_; clear hb ho6))
  go_loopg [13] k (fun kq v13 w' => ∃ (x5_1 : List Bool) (x13_1 : Int), v13 = .int .i64 x13_1 ∧ Aside0 (impl_holds.l0 kq l0 l1 x5_1 l0 (l0.length : Int) x13_1 = some r) ∧ Aside0 (kq ≤ k) ∧ Aside0 (Kd.R Kd.bool 4 w' w.heap.size (fun _ => True) v266 x5_1) ∧ Aside0 (Below w.heap.size w w'))
  case atStart => exact ⟨(y265), (0), sq_e, H', ⟨Nat.le_refl _⟩, ⟨by (with_reducible repeat (first | apply Kd.R_alloc | apply Kd.R_drewN | apply Kd.R_drew)); exact HO267.out⟩, ⟨sq_b⟩⟩
  case round =>
   clear H'
   (try clear c1); (try clear p2); (try clear c3); (try clear c3b0); (try clear c3b1); (try clear c4); (try clear c4b0); (try clear c4b1); (try clear c6)
   obtain ⟨x5_1, x13_1, rfl, HA, HK1, HO_5, HB⟩ := hrel
   cases gk with
   | zero => exact absurd HA.out (by simp [impl_holds.l0])
   | succ k1 =>
    have H := HA.out
    clear HA
    simp only [impl_holds.l0] at H
    by_cases c7 : x13_1 < (l0.length : Int)
    ·rw [if_pos c7] at H
     have c7b0 : decide (x13_1 < (l0.length : Int)) = true := decide_eq_true c7
     clear c7
     by_cases c8 : 0 ≤ x13_1
     rotate_left
     ·rw [if_neg c8] at H
      exact absurd H (by simp)
     rw [if_pos c8] at H
     have c8b0 : decide (0 ≤ x13_1) = true := decide_eq_true c8
     clear c8
     by_cases c9 : x13_1 < (l0.length : Int)
     rotate_left
     ·rw [if_neg c9] at H
      exact absurd H (by simp)
     rw [if_pos c9] at H
     have c9b0 : decide (x13_1 < (l0.length : Int)) = true := decide_eq_true c9
     clear c9
     by_cases c10 : ((rd_T46 l0 x13_1).f0) = 1
     ·rw [if_pos c10] at H
      have c10b0 : (((rd_T46 l0 x13_1).f0) == 1) = true := beq_iff_eq.mpr c10
      have c10b1 : (((rd_T46 l0 x13_1).f0) != 1) = false := bne_eq_false_iff_eq.mpr c10
      clear c10
      replace H := Option.bind_eq_some_iff.mp H
      obtain ⟨t271, A110, H⟩ := H
      replace H : (if x13_1 < (x5_1.length : Int) then (impl_holds.l0 k1 l0 l1 (x5_1.set (x13_1 : Int).toNat t271) l0 (l0.length : Int) (wrap64 (x13_1 + 1))) else (none)) = some r := H
      have A11 := Aside0.mk A110
      clear A110
      by_cases c12 : x13_1 < (x5_1.length : Int)
      rotate_left
      ·rw [if_neg c12] at H
       exact absurd H (by simp)
      rw [if_pos c12] at H
      have c12b0 : decide (x13_1 < (x5_1.length : Int)) = true := decide_eq_true c12
      clear c12
      obtain ⟨y272, hy272⟩ : ∃ y_ : List Bool, y_ = (x5_1.set (x13_1 : Int).toNat t271) := ⟨_, rfl⟩
      replace H : (impl_holds.l0 k1 l0 l1 y272 l0 (l0.length : Int) (wrap64 (x13_1 + 1))) = some r := by first | (rw [hy272]; with_reducible exact H) | (have H2_ := (Option.bind_some _ _).symm.trans H; rw [hy272]; with_reducible exact H2_) | (have H2_ := (Option.bind_some _ _).symm.trans H; with_reducible exact H2_) | with_reducible exact H | (rw [hy272]; exact H) | exact H
      have Ny272 := Aside0.mk hy272
      clear hy272
      have H' := Aside0.mk H
      clear H
      have p269 : 0 ≤ (x13_1 : Int) := sq_d
      have q269 : x13_1 < (l0.length : Int) := sq_d
      obtain ⟨ad269, e269, hx269_0, hx269_1, hx269_2, hx269_3⟩ := at_T46 HR0.out x13_1 p269 q269
      cases e269
      replace hx269_0 := (HB.out.cell (World.block_lt_of_cell? w _ hx269_0)).trans hx269_0
      replace hx269_1 := (HB.out.cell (World.block_lt_of_cell? w _ hx269_1)).trans hx269_1
      replace hx269_2 := (HB.out.cell (World.block_lt_of_cell? w _ hx269_2)).trans hx269_2
      replace hx269_3 := (HB.out.cell (World.block_lt_of_cell? w _ hx269_3)).trans hx269_3
      replace p269 := eq_true p269
      replace q269 := eq_true q269
      go_wp2_with (first | ((with_reducible refine gate_dst (N := 7) rfl ?_); refine box_event ?hg (N := 7) ?hd (cs := #[.int .i64 0, .string (⟨#[]⟩ : ByteArray), .int .i64 0, .int .i64 0]) (t := 46) ?hr ?_; (case hd => rfl); (case hg => rfl); (case hr => first | (go_simp; done) | (go_simp; rfl)); intro gb270 hg w14 hbox hb; have n0_ := Aside0.mk (Kd.R_below (sq_r HO_5) hb); have n1_ := Aside0.mk (below_step sq_b hb); have n2_ := Aside0.mk (hbox); have n3_ := Aside0.mk ((by rw [hg]; exact (below_size sq_b) : w.heap.size ≤ gb270)); have n4_ := Aside0.mk ((by rw [hg]; exact (below_size sq_b) : w.heap.size ≤ gb270)); clear HO_5; clear HB; have HO_5 := n0_; have HB := n1_; have BK270 := n2_; have GW270 := n3_; have GE270 := n4_; clear n0_ n1_ n2_ n3_ n4_; clear hb hbox hg; have hcz15_0 : w14.cell? ⟨gb270, 0, none⟩ = some (.int .i64 0) := (blk_cell BK270.out 0).trans rfl; have hcz15_1 : w14.cell? ⟨gb270, 1, none⟩ = some (.string (⟨#[]⟩ : ByteArray)) := (blk_cell BK270.out 1).trans rfl; have hcz15_2 : w14.cell? ⟨gb270, 2, none⟩ = some (.int .i64 0) := (blk_cell BK270.out 2).trans rfl; have hcz15_3 : w14.cell? ⟨gb270, 3, none⟩ = some (.int .i64 0) := (blk_cell BK270.out 3).trans rfl; have hfz15_0 := blk_frozen BK270.out 0; have hfz15_1 := blk_frozen BK270.out 1; have hfz15_2 := blk_frozen BK270.out 2; have hfz15_3 := blk_frozen BK270.out 3) | ((with_reducible refine gate_store (t := 46) (p := 7) rfl ?_); refine store_event (t := 46) (p := 7) (v := ?vo_w16) (w1 := ((((w14.setCell ⟨gb270, 0, none⟩ (.int .i64 ((rd_T46 l0 x13_1).f0))).setCell ⟨gb270, 1, none⟩ (.string ((rd_T46 l0 x13_1).f1))).setCell ⟨gb270, 2, none⟩ (.int .i64 ((rd_T46 l0 x13_1).f2))).setCell ⟨gb270, 3, none⟩ (.int .i64 ((rd_T46 l0 x13_1).f3)))) ?hg ?ho ?hn ?hr ?_; (case ho => rfl); (case hg => rfl); (case hn => rfl); (case hr => first | (go_simp; done) | (go_simp; rfl)); intro w16 hw; have n0_ : Aside0 (Kd.R Kd.bool 4 w16 w.heap.size (fun _ => True) v266 x5_1) := ⟨(by rw [hw]; exact (by (with_reducible repeat (first | apply Kd.R_alloc | apply Kd.R_drewN | apply Kd.R_drew)); exact Kd.R_mono (Kd.R_far (p := ⟨gb270, 3, none⟩) (Kd.R_far (p := ⟨gb270, 2, none⟩) (Kd.R_far (p := ⟨gb270, 1, none⟩) (Kd.R_far (p := ⟨gb270, 0, none⟩) (Kd.R_types HO_5.out BK270.out (by decide)) (fun _ hk => hk.2) (.int .i64 ((rd_T46 l0 x13_1).f0))) (fun _ hk => hk.2) (.string ((rd_T46 l0 x13_1).f1))) (fun _ hk => hk.2) (.int .i64 ((rd_T46 l0 x13_1).f2))) (fun _ hk => hk.2) (.int .i64 ((rd_T46 l0 x13_1).f3))) (fun _ hk => trivial)))⟩; have n1_ : Aside0 (w16.heap[gb270]? = some (.cells #[.int .i64 ((rd_T46 l0 x13_1).f0), .string ((rd_T46 l0 x13_1).f1), .int .i64 ((rd_T46 l0 x13_1).f2), .int .i64 ((rd_T46 l0 x13_1).f3)] 46 (0, 0))) := ⟨(by rw [hw]; exact (by (with_reducible repeat (first | refine blk_drewN ?_ _ | refine blk_drew ?_ | refine blk_alloc ?_ _)); refine blk_put (cs := #[.int .i64 ((rd_T46 l0 x13_1).f0), .string ((rd_T46 l0 x13_1).f1), .int .i64 ((rd_T46 l0 x13_1).f2), .int .i64 0]) ?_ 3 _ rfl; (with_reducible repeat (first | refine blk_drewN ?_ _ | refine blk_drew ?_ | refine blk_alloc ?_ _)); refine blk_put (cs := #[.int .i64 ((rd_T46 l0 x13_1).f0), .string ((rd_T46 l0 x13_1).f1), .int .i64 0, .int .i64 0]) ?_ 2 _ rfl; (with_reducible repeat (first | refine blk_drewN ?_ _ | refine blk_drew ?_ | refine blk_alloc ?_ _)); refine blk_put (cs := #[.int .i64 ((rd_T46 l0 x13_1).f0), .string (⟨#[]⟩ : ByteArray), .int .i64 0, .int .i64 0]) ?_ 1 _ rfl; (with_reducible repeat (first | refine blk_drewN ?_ _ | refine blk_drew ?_ | refine blk_alloc ?_ _)); refine blk_put (cs := #[.int .i64 0, .string (⟨#[]⟩ : ByteArray), .int .i64 0, .int .i64 0]) ?_ 0 _ rfl; (with_reducible repeat (first | refine blk_drewN ?_ _ | refine blk_drew ?_ | refine blk_alloc ?_ _)); exact BK270.out))⟩; have n2_ : Aside0 (Below w.heap.size w w16) := ⟨(by rw [hw]; exact (by repeat (first | (with_reducible first | exact HB.out | apply below_alloc | apply pw_below_drewN | apply below_drew1 | refine below_set ?_ GE270.out) | exact HB.out)))⟩; clear hw; clear HO_5; clear BK270; clear HB; have HO_5 := n0_; have BK270 := n1_; have HB := n2_; clear n0_ n1_ n2_; have hcz17_0 : w16.cell? ⟨gb270, 0, none⟩ = some (.int .i64 ((rd_T46 l0 x13_1).f0)) := (blk_cell BK270.out 0).trans rfl; have hcz17_1 : w16.cell? ⟨gb270, 1, none⟩ = some (.string ((rd_T46 l0 x13_1).f1)) := (blk_cell BK270.out 1).trans rfl; have hcz17_2 : w16.cell? ⟨gb270, 2, none⟩ = some (.int .i64 ((rd_T46 l0 x13_1).f2)) := (blk_cell BK270.out 2).trans rfl; have hcz17_3 : w16.cell? ⟨gb270, 3, none⟩ = some (.int .i64 ((rd_T46 l0 x13_1).f3)) := (blk_cell BK270.out 3).trans rfl; have hfz17_0 := blk_frozen BK270.out 0; have hfz17_1 := blk_frozen BK270.out 1; have hfz17_2 := blk_frozen BK270.out 2; have hfz17_3 := blk_frozen BK270.out 3) | ((with_reducible refine gate_callee (f := 90) rfl ?_); refine goesL_ (some 36) rfl rfl Try.func90 (by kernel_rfl) rfl #[.slice A1 l1.length c1, .string ((rd_T46 l0 x13_1).f1)] rfl (by (try simp only [List.map_toArray, List.map_cons, List.map_nil]); first | done | rfl | (simp only [List.length_drop, List.length_take]; rfl)) ?_; (with_reducible refine (slices_Contains_string_string.calls k1 _ _ l1 ((rd_T46 l0 x13_1).f1) t271 _ ?side1 ?side2 A11.out).mono ?_); (case side1 => repeat (first | exact (Kd.C_below HR1.out HB.out) | (with_reducible refine Kd.C_alloc ?_ _) | (with_reducible refine Kd.C_drewN ?_ _) | (with_reducible refine Kd.C_drew ?_))); (case side2 => exact HC1.out); rintro e w' ⟨rfl, ⟨nd, rfl⟩⟩; refine ⟨_, rfl, ?_⟩; (try (rw [drewN_self w16]; generalize hq_ : World.drewN w16 _ = w16; have n0_ : Aside0 (Kd.R Kd.bool 4 w16 w.heap.size (fun _ => True) v266 x5_1) := ⟨by rw [← hq_]; exact (sq_r HO_5)⟩; have n1_ : Aside0 (w16.heap[gb270]? = some (.cells #[.int .i64 ((rd_T46 l0 x13_1).f0), .string ((rd_T46 l0 x13_1).f1), .int .i64 ((rd_T46 l0 x13_1).f2), .int .i64 ((rd_T46 l0 x13_1).f3)] 46 (0, 0))) := ⟨by rw [← hq_]; exact (sq_l BK270)⟩; have n2_ : Aside0 (Below w.heap.size w w16) := ⟨by rw [← hq_]; exact (by repeat (first | (with_reducible first | exact HB.out | apply below_alloc | apply pw_below_drewN | apply below_drew1 | refine below_set ?_ GE270.out) | exact HB.out))⟩; clear HO_5 BK270 HB hq_; have HO_5 := n0_; have BK270 := n1_; have HB := n2_; clear n0_ n1_ n2_)); have p13 : 0 ≤ (x13_1 : Int) := sq_d; have q13 : (x13_1 : Int) < ((x5_1.length : Int) : Int) := sq_d; obtain ⟨go13, co13, eo13, gb13, gl13, cl13, HG13⟩ := Kd.R_form HO_5.out (by omega); (first | cases eo13 | (injection eo13 with ea_ en_ ec_; (first | subst ea_ | (injection ea_ with ea_; subst ea_)); subst ec_; clear en_)); have GB13 := Aside0.mk gb13; have GG13 := Aside0.mk HG13; clear gb13 gl13 HG13; obtain ⟨hx13_0, hf13_0⟩ := Kd.R_celln false HO_5.out (x13_1 : Int) p13 q13; replace p13 := eq_true p13; replace q13 := eq_true q13; obtain ⟨hy18_, hz18_⟩ := Kd.R_celln false HO_5.out (x13_1 : Int) (sq_d) (sq_d); have HP18 := Kd.R_putg HO_5.out (x13_1 : Int) t271) | ((with_reducible refine gate_store (t := 4) (p := 37) rfl ?_); refine store_event (t := 4) (p := 37) (v := ?vo_w19) (w1 := (w16.setCell ⟨go13, (x13_1 : Int).toNat, none⟩ (.bool t271))) ?hg ?ho ?hn ?hr ?_; (case ho => rfl); (case hg => rfl); (case hn => rfl); (case hr => first | (go_simp; done) | (go_simp; rfl)); intro w19 hw; have hg : w16.grownBy w19 (some go13) := (by rw [hw]; exact HP18.2); have hp_ : Kd.R Kd.bool 4 w19 w.heap.size (fun _ => True) (.slice (some ⟨go13, 0, none⟩) x5_1.length co13) y272 := (by rw [hw, Ny272.out]; exact HP18.1); clear HP18; have n0_ := Aside0.mk (hp_); have n1_ := Aside0.mk (blk_grown (g := gb270) (o := .cells #[.int .i64 ((rd_T46 l0 x13_1).f0), .string ((rd_T46 l0 x13_1).f1), .int .i64 ((rd_T46 l0 x13_1).f2), .int .i64 ((rd_T46 l0 x13_1).f3)] 46 (0, 0)) (sq_l BK270) hg (Kd.R_ne HO_5.out BK270.out (by decide))); have n2_ := Aside0.mk ((by rw [hw]; exact below_set (HB.out) GB13.out : Below w.heap.size w w19)); clear HO_5; clear BK270; clear HB; have HO_5 := n0_; have BK270 := n1_; have HB := n2_; clear n0_ n1_ n2_; clear hg hw hp_))
      go_roundg k1
      case measure => have := HK1.out; omega
      case rel => exact ⟨(y272), (wrap64 (x13_1 + 1)), sq_e, H', ⟨by have := HK1.out; omega⟩, ⟨by (with_reducible repeat (first | apply Kd.R_alloc | apply Kd.R_drewN | apply Kd.R_drew)); exact HO_5.out⟩, ⟨by repeat (first | (with_reducible first | exact HB.out | apply below_alloc | apply pw_below_drewN | apply below_drew1 | refine below_set ?_ GE270.out) | exact HB.out)⟩⟩
     ·rw [if_neg c10] at H
      have c10b0 : (((rd_T46 l0 x13_1).f0) == 1) = false := beq_eq_false_iff_ne.mpr c10
      have c10b1 : (((rd_T46 l0 x13_1).f0) != 1) = true := bne_iff_ne.mpr c10
      by_cases c20 : ((rd_T46 l0 x13_1).f0) = 2
      ·rw [if_pos c20] at H
       have c20b0 : (((rd_T46 l0 x13_1).f0) == 2) = true := beq_iff_eq.mpr c20
       have c20b1 : (((rd_T46 l0 x13_1).f0) != 2) = false := bne_eq_false_iff_eq.mpr c20
       clear c20
       by_cases c21 : 0 ≤ ((rd_T46 l0 x13_1).f2)
       rotate_left
       ·rw [if_neg c21] at H
        exact absurd H (by simp)
       rw [if_pos c21] at H
       have c21b0 : decide (0 ≤ ((rd_T46 l0 x13_1).f2)) = true := decide_eq_true c21
       clear c21
       by_cases c22 : ((rd_T46 l0 x13_1).f2) < (x5_1.length : Int)
       rotate_left
       ·rw [if_neg c22] at H
        exact absurd H (by simp)
       rw [if_pos c22] at H
       have c22b0 : decide (((rd_T46 l0 x13_1).f2) < (x5_1.length : Int)) = true := decide_eq_true c22
       clear c22
       obtain ⟨bq23, hbq23⟩ : ∃ b_ : Bool, b_ = (rdOf false x5_1 ((rd_T46 l0 x13_1).f2)) := ⟨_, rfl⟩
       replace H : (if bq23 = true then (if 0 ≤ ((rd_T46 l0 x13_1).f3) then (if ((rd_T46 l0 x13_1).f3) < (x5_1.length : Int) then (if x13_1 < (x5_1.length : Int) then (impl_holds.l0 k1 l0 l1 (x5_1.set (x13_1 : Int).toNat (rdOf false x5_1 ((rd_T46 l0 x13_1).f3))) l0 (l0.length : Int) (wrap64 (x13_1 + 1))) else (none)) else (none)) else (none)) else (if x13_1 < (x5_1.length : Int) then (impl_holds.l0 k1 l0 l1 (x5_1.set (x13_1 : Int).toNat false) l0 (l0.length : Int) (wrap64 (x13_1 + 1))) else (none))) = some r := by rw [← hbq23] at H; exact H
       have Nbq23 := Aside0.mk hbq23
       clear hbq23
       by_cases c24 : bq23 = true
       ·subst c24
        have H1 : (if 0 ≤ ((rd_T46 l0 x13_1).f3) then (if ((rd_T46 l0 x13_1).f3) < (x5_1.length : Int) then (if x13_1 < (x5_1.length : Int) then (impl_holds.l0 k1 l0 l1 (x5_1.set (x13_1 : Int).toNat (rdOf false x5_1 ((rd_T46 l0 x13_1).f3))) l0 (l0.length : Int) (wrap64 (x13_1 + 1))) else (none)) else (none)) else (none)) = some r := by rw [if_pos rfl] at H; exact H
        clear H
        have H := H1
        clear H1
        by_cases c25 : 0 ≤ ((rd_T46 l0 x13_1).f3)
        rotate_left
        ·rw [if_neg c25] at H
         exact absurd H (by simp)
        rw [if_pos c25] at H
        have c25b0 : decide (0 ≤ ((rd_T46 l0 x13_1).f3)) = true := decide_eq_true c25
        clear c25
        by_cases c26 : ((rd_T46 l0 x13_1).f3) < (x5_1.length : Int)
        rotate_left
        ·rw [if_neg c26] at H
         exact absurd H (by simp)
        rw [if_pos c26] at H
        have c26b0 : decide (((rd_T46 l0 x13_1).f3) < (x5_1.length : Int)) = true := decide_eq_true c26
        clear c26
        by_cases c27 : x13_1 < (x5_1.length : Int)
        rotate_left
        ·rw [if_neg c27] at H
         exact absurd H (by simp)
        rw [if_pos c27] at H
        have c27b0 : decide (x13_1 < (x5_1.length : Int)) = true := decide_eq_true c27
        clear c27
        obtain ⟨y275, hy275⟩ : ∃ y_ : List Bool, y_ = (x5_1.set (x13_1 : Int).toNat (rdOf false x5_1 ((rd_T46 l0 x13_1).f3))) := ⟨_, rfl⟩
        replace H : (impl_holds.l0 k1 l0 l1 y275 l0 (l0.length : Int) (wrap64 (x13_1 + 1))) = some r := by first | (rw [hy275]; with_reducible exact H) | (have H2_ := (Option.bind_some _ _).symm.trans H; rw [hy275]; with_reducible exact H2_) | (have H2_ := (Option.bind_some _ _).symm.trans H; with_reducible exact H2_) | with_reducible exact H | (rw [hy275]; exact H) | exact H
        have Ny275 := Aside0.mk hy275
        clear hy275
        have H' := Aside0.mk H
        clear H
        have p269 : 0 ≤ (x13_1 : Int) := sq_d
        have q269 : x13_1 < (l0.length : Int) := sq_d
        obtain ⟨ad269, e269, hx269_0, hx269_1, hx269_2, hx269_3⟩ := at_T46 HR0.out x13_1 p269 q269
        cases e269
        replace hx269_0 := (HB.out.cell (World.block_lt_of_cell? w _ hx269_0)).trans hx269_0
        replace hx269_1 := (HB.out.cell (World.block_lt_of_cell? w _ hx269_1)).trans hx269_1
        replace hx269_2 := (HB.out.cell (World.block_lt_of_cell? w _ hx269_2)).trans hx269_2
        replace hx269_3 := (HB.out.cell (World.block_lt_of_cell? w _ hx269_3)).trans hx269_3
        replace p269 := eq_true p269
        replace q269 := eq_true q269
        go_wp2_with (first | ((with_reducible refine gate_dst (N := 7) rfl ?_); refine box_event ?hg (N := 7) ?hd (cs := #[.int .i64 0, .string (⟨#[]⟩ : ByteArray), .int .i64 0, .int .i64 0]) (t := 46) ?hr ?_; (case hd => rfl); (case hg => rfl); (case hr => first | (go_simp; done) | (go_simp; rfl)); intro gb270 hg w29 hbox hb; have n0_ := Aside0.mk (Kd.R_below (sq_r HO_5) hb); have n1_ := Aside0.mk (below_step sq_b hb); have n2_ := Aside0.mk (hbox); have n3_ := Aside0.mk ((by rw [hg]; exact (below_size sq_b) : w.heap.size ≤ gb270)); have n4_ := Aside0.mk ((by rw [hg]; exact (below_size sq_b) : w.heap.size ≤ gb270)); clear HO_5; clear HB; have HO_5 := n0_; have HB := n1_; have BK270 := n2_; have GW270 := n3_; have GE270 := n4_; clear n0_ n1_ n2_ n3_ n4_; clear hb hbox hg; have hcz30_0 : w29.cell? ⟨gb270, 0, none⟩ = some (.int .i64 0) := (blk_cell BK270.out 0).trans rfl; have hcz30_1 : w29.cell? ⟨gb270, 1, none⟩ = some (.string (⟨#[]⟩ : ByteArray)) := (blk_cell BK270.out 1).trans rfl; have hcz30_2 : w29.cell? ⟨gb270, 2, none⟩ = some (.int .i64 0) := (blk_cell BK270.out 2).trans rfl; have hcz30_3 : w29.cell? ⟨gb270, 3, none⟩ = some (.int .i64 0) := (blk_cell BK270.out 3).trans rfl; have hfz30_0 := blk_frozen BK270.out 0; have hfz30_1 := blk_frozen BK270.out 1; have hfz30_2 := blk_frozen BK270.out 2; have hfz30_3 := blk_frozen BK270.out 3) | ((with_reducible refine gate_store (t := 46) (p := 7) rfl ?_); refine store_event (t := 46) (p := 7) (v := ?vo_w31) (w1 := ((((w29.setCell ⟨gb270, 0, none⟩ (.int .i64 ((rd_T46 l0 x13_1).f0))).setCell ⟨gb270, 1, none⟩ (.string ((rd_T46 l0 x13_1).f1))).setCell ⟨gb270, 2, none⟩ (.int .i64 ((rd_T46 l0 x13_1).f2))).setCell ⟨gb270, 3, none⟩ (.int .i64 ((rd_T46 l0 x13_1).f3)))) ?hg ?ho ?hn ?hr ?_; (case ho => rfl); (case hg => rfl); (case hn => rfl); (case hr => first | (go_simp; done) | (go_simp; rfl)); intro w31 hw; have n0_ : Aside0 (Kd.R Kd.bool 4 w31 w.heap.size (fun _ => True) v266 x5_1) := ⟨(by rw [hw]; exact (by (with_reducible repeat (first | apply Kd.R_alloc | apply Kd.R_drewN | apply Kd.R_drew)); exact Kd.R_mono (Kd.R_far (p := ⟨gb270, 3, none⟩) (Kd.R_far (p := ⟨gb270, 2, none⟩) (Kd.R_far (p := ⟨gb270, 1, none⟩) (Kd.R_far (p := ⟨gb270, 0, none⟩) (Kd.R_types HO_5.out BK270.out (by decide)) (fun _ hk => hk.2) (.int .i64 ((rd_T46 l0 x13_1).f0))) (fun _ hk => hk.2) (.string ((rd_T46 l0 x13_1).f1))) (fun _ hk => hk.2) (.int .i64 ((rd_T46 l0 x13_1).f2))) (fun _ hk => hk.2) (.int .i64 ((rd_T46 l0 x13_1).f3))) (fun _ hk => trivial)))⟩; have n1_ : Aside0 (w31.heap[gb270]? = some (.cells #[.int .i64 ((rd_T46 l0 x13_1).f0), .string ((rd_T46 l0 x13_1).f1), .int .i64 ((rd_T46 l0 x13_1).f2), .int .i64 ((rd_T46 l0 x13_1).f3)] 46 (0, 0))) := ⟨(by rw [hw]; exact (by (with_reducible repeat (first | refine blk_drewN ?_ _ | refine blk_drew ?_ | refine blk_alloc ?_ _)); refine blk_put (cs := #[.int .i64 ((rd_T46 l0 x13_1).f0), .string ((rd_T46 l0 x13_1).f1), .int .i64 ((rd_T46 l0 x13_1).f2), .int .i64 0]) ?_ 3 _ rfl; (with_reducible repeat (first | refine blk_drewN ?_ _ | refine blk_drew ?_ | refine blk_alloc ?_ _)); refine blk_put (cs := #[.int .i64 ((rd_T46 l0 x13_1).f0), .string ((rd_T46 l0 x13_1).f1), .int .i64 0, .int .i64 0]) ?_ 2 _ rfl; (with_reducible repeat (first | refine blk_drewN ?_ _ | refine blk_drew ?_ | refine blk_alloc ?_ _)); refine blk_put (cs := #[.int .i64 ((rd_T46 l0 x13_1).f0), .string (⟨#[]⟩ : ByteArray), .int .i64 0, .int .i64 0]) ?_ 1 _ rfl; (with_reducible repeat (first | refine blk_drewN ?_ _ | refine blk_drew ?_ | refine blk_alloc ?_ _)); refine blk_put (cs := #[.int .i64 0, .string (⟨#[]⟩ : ByteArray), .int .i64 0, .int .i64 0]) ?_ 0 _ rfl; (with_reducible repeat (first | refine blk_drewN ?_ _ | refine blk_drew ?_ | refine blk_alloc ?_ _)); exact BK270.out))⟩; have n2_ : Aside0 (Below w.heap.size w w31) := ⟨(by rw [hw]; exact (by repeat (first | (with_reducible first | exact HB.out | apply below_alloc | apply pw_below_drewN | apply below_drew1 | refine below_set ?_ GE270.out) | exact HB.out)))⟩; clear hw; clear HO_5; clear BK270; clear HB; have HO_5 := n0_; have BK270 := n1_; have HB := n2_; clear n0_ n1_ n2_; have hcz32_0 : w31.cell? ⟨gb270, 0, none⟩ = some (.int .i64 ((rd_T46 l0 x13_1).f0)) := (blk_cell BK270.out 0).trans rfl; have hcz32_1 : w31.cell? ⟨gb270, 1, none⟩ = some (.string ((rd_T46 l0 x13_1).f1)) := (blk_cell BK270.out 1).trans rfl; have hcz32_2 : w31.cell? ⟨gb270, 2, none⟩ = some (.int .i64 ((rd_T46 l0 x13_1).f2)) := (blk_cell BK270.out 2).trans rfl; have hcz32_3 : w31.cell? ⟨gb270, 3, none⟩ = some (.int .i64 ((rd_T46 l0 x13_1).f3)) := (blk_cell BK270.out 3).trans rfl; have hfz32_0 := blk_frozen BK270.out 0; have hfz32_1 := blk_frozen BK270.out 1; have hfz32_2 := blk_frozen BK270.out 2; have hfz32_3 := blk_frozen BK270.out 3; obtain ⟨Ao33, co33, eo33⟩ := Kd.R_slice HO_5.out; subst eo33; have p273 : 0 ≤ (((rd_T46 l0 x13_1).f2) : Int) := sq_d; have q273 : ((rd_T46 l0 x13_1).f2) < (x5_1.length : Int) := sq_d; (try (obtain ⟨Aq273, cq273, eq273⟩ := Kd.R_slice HO_5.out; subst eq273)); obtain ⟨ad273, e273, hx273_0⟩ := Kd.at_bool (Kd.R_reads' HO_5.out).2.2 ((rd_T46 l0 x13_1).f2) p273 q273; (try rw [← Nbq23.out] at hx273_0); cases e273; replace p273 := eq_true p273; replace q273 := eq_true q273; have p274 : 0 ≤ (((rd_T46 l0 x13_1).f3) : Int) := sq_d; have q274 : ((rd_T46 l0 x13_1).f3) < (x5_1.length : Int) := sq_d; (try (obtain ⟨Aq274, cq274, eq274⟩ := Kd.R_slice HO_5.out; subst eq274)); obtain ⟨ad274, e274, hx274_0⟩ := Kd.at_bool (Kd.R_reads' HO_5.out).2.2 ((rd_T46 l0 x13_1).f3) p274 q274; (try rw [← Nbq23.out] at hx274_0); obtain rfl : ad273 = ad274 := (by injection e274); replace p274 := eq_true p274; replace q274 := eq_true q274; have p28 : 0 ≤ (x13_1 : Int) := sq_d; have q28 : (x13_1 : Int) < ((x5_1.length : Int) : Int) := sq_d; obtain ⟨go28, co28, eo28, gb28, gl28, cl28, HG28⟩ := Kd.R_form HO_5.out (by omega); (first | cases eo28 | (injection eo28 with ea_ en_ ec_; (first | subst ea_ | (injection ea_ with ea_; subst ea_)); subst ec_; clear en_)); have GB28 := Aside0.mk gb28; have GG28 := Aside0.mk HG28; clear gb28 gl28 HG28; (first | simp only [add_plain] at hx273_0 | skip); (first | simp only [add_plain] at hx274_0 | skip); obtain ⟨hx28_0, hf28_0⟩ := Kd.R_celln false HO_5.out (x13_1 : Int) p28 q28; replace p28 := eq_true p28; replace q28 := eq_true q28; obtain ⟨hy34_, hz34_⟩ := Kd.R_celln false HO_5.out (x13_1 : Int) (sq_d) (sq_d); have HP34 := Kd.R_putg HO_5.out (x13_1 : Int) (rdOf false x5_1 ((rd_T46 l0 x13_1).f3))) | ((with_reducible refine gate_store (t := 4) (p := 54) rfl ?_); refine store_event (t := 4) (p := 54) (v := ?vo_w35) (w1 := (w31.setCell ⟨go28, (x13_1 : Int).toNat, none⟩ (.bool (rdOf false x5_1 ((rd_T46 l0 x13_1).f3))))) ?hg ?ho ?hn ?hr ?_; (case ho => rfl); (case hg => rfl); (case hn => rfl); (case hr => first | (go_simp; done) | (go_simp; rfl)); intro w35 hw; have hg : w31.grownBy w35 (some go28) := (by rw [hw]; exact HP34.2); have hp_ : Kd.R Kd.bool 4 w35 w.heap.size (fun _ => True) (.slice (some ⟨go28, 0, none⟩) x5_1.length co33) y275 := (by rw [hw, Ny275.out]; exact HP34.1); clear HP34; have n0_ := Aside0.mk (hp_); have n1_ := Aside0.mk (blk_grown (g := gb270) (o := .cells #[.int .i64 ((rd_T46 l0 x13_1).f0), .string ((rd_T46 l0 x13_1).f1), .int .i64 ((rd_T46 l0 x13_1).f2), .int .i64 ((rd_T46 l0 x13_1).f3)] 46 (0, 0)) (sq_l BK270) hg (Kd.R_ne HO_5.out BK270.out (by decide))); have n2_ := Aside0.mk ((by rw [hw]; exact below_set (HB.out) GB28.out : Below w.heap.size w w35)); clear HO_5; clear BK270; clear HB; have HO_5 := n0_; have BK270 := n1_; have HB := n2_; clear n0_ n1_ n2_; clear hg hw hp_))
        go_roundg k1
        case measure => have := HK1.out; omega
        case rel => exact ⟨(y275), (wrap64 (x13_1 + 1)), sq_e, H', ⟨by have := HK1.out; omega⟩, ⟨by (with_reducible repeat (first | apply Kd.R_alloc | apply Kd.R_drewN | apply Kd.R_drew)); exact HO_5.out⟩, ⟨by repeat (first | (with_reducible first | exact HB.out | apply below_alloc | apply pw_below_drewN | apply below_drew1 | refine below_set ?_ GE270.out) | exact HB.out)⟩⟩
       ·replace c24 := Bool.eq_false_iff.mpr c24
        subst c24
        have H1 : (if x13_1 < (x5_1.length : Int) then (impl_holds.l0 k1 l0 l1 (x5_1.set (x13_1 : Int).toNat false) l0 (l0.length : Int) (wrap64 (x13_1 + 1))) else (none)) = some r := by rw [if_neg (show ¬ (false = true) by decide)] at H; exact H
        clear H
        have H := H1
        clear H1
        by_cases c36 : x13_1 < (x5_1.length : Int)
        rotate_left
        ·rw [if_neg c36] at H
         exact absurd H (by simp)
        rw [if_pos c36] at H
        have c36b0 : decide (x13_1 < (x5_1.length : Int)) = true := decide_eq_true c36
        clear c36
        obtain ⟨y276, hy276⟩ : ∃ y_ : List Bool, y_ = (x5_1.set (x13_1 : Int).toNat false) := ⟨_, rfl⟩
        replace H : (impl_holds.l0 k1 l0 l1 y276 l0 (l0.length : Int) (wrap64 (x13_1 + 1))) = some r := by first | (rw [hy276]; with_reducible exact H) | (have H2_ := (Option.bind_some _ _).symm.trans H; rw [hy276]; with_reducible exact H2_) | (have H2_ := (Option.bind_some _ _).symm.trans H; with_reducible exact H2_) | with_reducible exact H | (rw [hy276]; exact H) | exact H
        have Ny276 := Aside0.mk hy276
        clear hy276
        have H' := Aside0.mk H
        clear H
        have p269 : 0 ≤ (x13_1 : Int) := sq_d
        have q269 : x13_1 < (l0.length : Int) := sq_d
        obtain ⟨ad269, e269, hx269_0, hx269_1, hx269_2, hx269_3⟩ := at_T46 HR0.out x13_1 p269 q269
        cases e269
        replace hx269_0 := (HB.out.cell (World.block_lt_of_cell? w _ hx269_0)).trans hx269_0
        replace hx269_1 := (HB.out.cell (World.block_lt_of_cell? w _ hx269_1)).trans hx269_1
        replace hx269_2 := (HB.out.cell (World.block_lt_of_cell? w _ hx269_2)).trans hx269_2
        replace hx269_3 := (HB.out.cell (World.block_lt_of_cell? w _ hx269_3)).trans hx269_3
        replace p269 := eq_true p269
        replace q269 := eq_true q269
        go_wp2_with (first | ((with_reducible refine gate_dst (N := 7) rfl ?_); refine box_event ?hg (N := 7) ?hd (cs := #[.int .i64 0, .string (⟨#[]⟩ : ByteArray), .int .i64 0, .int .i64 0]) (t := 46) ?hr ?_; (case hd => rfl); (case hg => rfl); (case hr => first | (go_simp; done) | (go_simp; rfl)); intro gb270 hg w38 hbox hb; have n0_ := Aside0.mk (Kd.R_below (sq_r HO_5) hb); have n1_ := Aside0.mk (below_step sq_b hb); have n2_ := Aside0.mk (hbox); have n3_ := Aside0.mk ((by rw [hg]; exact (below_size sq_b) : w.heap.size ≤ gb270)); have n4_ := Aside0.mk ((by rw [hg]; exact (below_size sq_b) : w.heap.size ≤ gb270)); clear HO_5; clear HB; have HO_5 := n0_; have HB := n1_; have BK270 := n2_; have GW270 := n3_; have GE270 := n4_; clear n0_ n1_ n2_ n3_ n4_; clear hb hbox hg; have hcz39_0 : w38.cell? ⟨gb270, 0, none⟩ = some (.int .i64 0) := (blk_cell BK270.out 0).trans rfl; have hcz39_1 : w38.cell? ⟨gb270, 1, none⟩ = some (.string (⟨#[]⟩ : ByteArray)) := (blk_cell BK270.out 1).trans rfl; have hcz39_2 : w38.cell? ⟨gb270, 2, none⟩ = some (.int .i64 0) := (blk_cell BK270.out 2).trans rfl; have hcz39_3 : w38.cell? ⟨gb270, 3, none⟩ = some (.int .i64 0) := (blk_cell BK270.out 3).trans rfl; have hfz39_0 := blk_frozen BK270.out 0; have hfz39_1 := blk_frozen BK270.out 1; have hfz39_2 := blk_frozen BK270.out 2; have hfz39_3 := blk_frozen BK270.out 3) | ((with_reducible refine gate_store (t := 46) (p := 7) rfl ?_); refine store_event (t := 46) (p := 7) (v := ?vo_w40) (w1 := ((((w38.setCell ⟨gb270, 0, none⟩ (.int .i64 ((rd_T46 l0 x13_1).f0))).setCell ⟨gb270, 1, none⟩ (.string ((rd_T46 l0 x13_1).f1))).setCell ⟨gb270, 2, none⟩ (.int .i64 ((rd_T46 l0 x13_1).f2))).setCell ⟨gb270, 3, none⟩ (.int .i64 ((rd_T46 l0 x13_1).f3)))) ?hg ?ho ?hn ?hr ?_; (case ho => rfl); (case hg => rfl); (case hn => rfl); (case hr => first | (go_simp; done) | (go_simp; rfl)); intro w40 hw; have n0_ : Aside0 (Kd.R Kd.bool 4 w40 w.heap.size (fun _ => True) v266 x5_1) := ⟨(by rw [hw]; exact (by (with_reducible repeat (first | apply Kd.R_alloc | apply Kd.R_drewN | apply Kd.R_drew)); exact Kd.R_mono (Kd.R_far (p := ⟨gb270, 3, none⟩) (Kd.R_far (p := ⟨gb270, 2, none⟩) (Kd.R_far (p := ⟨gb270, 1, none⟩) (Kd.R_far (p := ⟨gb270, 0, none⟩) (Kd.R_types HO_5.out BK270.out (by decide)) (fun _ hk => hk.2) (.int .i64 ((rd_T46 l0 x13_1).f0))) (fun _ hk => hk.2) (.string ((rd_T46 l0 x13_1).f1))) (fun _ hk => hk.2) (.int .i64 ((rd_T46 l0 x13_1).f2))) (fun _ hk => hk.2) (.int .i64 ((rd_T46 l0 x13_1).f3))) (fun _ hk => trivial)))⟩; have n1_ : Aside0 (w40.heap[gb270]? = some (.cells #[.int .i64 ((rd_T46 l0 x13_1).f0), .string ((rd_T46 l0 x13_1).f1), .int .i64 ((rd_T46 l0 x13_1).f2), .int .i64 ((rd_T46 l0 x13_1).f3)] 46 (0, 0))) := ⟨(by rw [hw]; exact (by (with_reducible repeat (first | refine blk_drewN ?_ _ | refine blk_drew ?_ | refine blk_alloc ?_ _)); refine blk_put (cs := #[.int .i64 ((rd_T46 l0 x13_1).f0), .string ((rd_T46 l0 x13_1).f1), .int .i64 ((rd_T46 l0 x13_1).f2), .int .i64 0]) ?_ 3 _ rfl; (with_reducible repeat (first | refine blk_drewN ?_ _ | refine blk_drew ?_ | refine blk_alloc ?_ _)); refine blk_put (cs := #[.int .i64 ((rd_T46 l0 x13_1).f0), .string ((rd_T46 l0 x13_1).f1), .int .i64 0, .int .i64 0]) ?_ 2 _ rfl; (with_reducible repeat (first | refine blk_drewN ?_ _ | refine blk_drew ?_ | refine blk_alloc ?_ _)); refine blk_put (cs := #[.int .i64 ((rd_T46 l0 x13_1).f0), .string (⟨#[]⟩ : ByteArray), .int .i64 0, .int .i64 0]) ?_ 1 _ rfl; (with_reducible repeat (first | refine blk_drewN ?_ _ | refine blk_drew ?_ | refine blk_alloc ?_ _)); refine blk_put (cs := #[.int .i64 0, .string (⟨#[]⟩ : ByteArray), .int .i64 0, .int .i64 0]) ?_ 0 _ rfl; (with_reducible repeat (first | refine blk_drewN ?_ _ | refine blk_drew ?_ | refine blk_alloc ?_ _)); exact BK270.out))⟩; have n2_ : Aside0 (Below w.heap.size w w40) := ⟨(by rw [hw]; exact (by repeat (first | (with_reducible first | exact HB.out | apply below_alloc | apply pw_below_drewN | apply below_drew1 | refine below_set ?_ GE270.out) | exact HB.out)))⟩; clear hw; clear HO_5; clear BK270; clear HB; have HO_5 := n0_; have BK270 := n1_; have HB := n2_; clear n0_ n1_ n2_; have hcz41_0 : w40.cell? ⟨gb270, 0, none⟩ = some (.int .i64 ((rd_T46 l0 x13_1).f0)) := (blk_cell BK270.out 0).trans rfl; have hcz41_1 : w40.cell? ⟨gb270, 1, none⟩ = some (.string ((rd_T46 l0 x13_1).f1)) := (blk_cell BK270.out 1).trans rfl; have hcz41_2 : w40.cell? ⟨gb270, 2, none⟩ = some (.int .i64 ((rd_T46 l0 x13_1).f2)) := (blk_cell BK270.out 2).trans rfl; have hcz41_3 : w40.cell? ⟨gb270, 3, none⟩ = some (.int .i64 ((rd_T46 l0 x13_1).f3)) := (blk_cell BK270.out 3).trans rfl; have hfz41_0 := blk_frozen BK270.out 0; have hfz41_1 := blk_frozen BK270.out 1; have hfz41_2 := blk_frozen BK270.out 2; have hfz41_3 := blk_frozen BK270.out 3; obtain ⟨Ao42, co42, eo42⟩ := Kd.R_slice HO_5.out; subst eo42; have p273 : 0 ≤ (((rd_T46 l0 x13_1).f2) : Int) := sq_d; have q273 : ((rd_T46 l0 x13_1).f2) < (x5_1.length : Int) := sq_d; (try (obtain ⟨Aq273, cq273, eq273⟩ := Kd.R_slice HO_5.out; subst eq273)); obtain ⟨ad273, e273, hx273_0⟩ := Kd.at_bool (Kd.R_reads' HO_5.out).2.2 ((rd_T46 l0 x13_1).f2) p273 q273; (try rw [← Nbq23.out] at hx273_0); cases e273; replace p273 := eq_true p273; replace q273 := eq_true q273; have p37 : 0 ≤ (x13_1 : Int) := sq_d; have q37 : (x13_1 : Int) < ((x5_1.length : Int) : Int) := sq_d; obtain ⟨go37, co37, eo37, gb37, gl37, cl37, HG37⟩ := Kd.R_form HO_5.out (by omega); (first | cases eo37 | (injection eo37 with ea_ en_ ec_; (first | subst ea_ | (injection ea_ with ea_; subst ea_)); subst ec_; clear en_)); have GB37 := Aside0.mk gb37; have GG37 := Aside0.mk HG37; clear gb37 gl37 HG37; (first | simp only [add_plain] at hx273_0 | skip); obtain ⟨hx37_0, hf37_0⟩ := Kd.R_celln false HO_5.out (x13_1 : Int) p37 q37; replace p37 := eq_true p37; replace q37 := eq_true q37; obtain ⟨hy43_, hz43_⟩ := Kd.R_celln false HO_5.out (x13_1 : Int) (sq_d) (sq_d); have HP43 := Kd.R_putg HO_5.out (x13_1 : Int) false) | ((with_reducible refine gate_store (t := 4) (p := 54) rfl ?_); refine store_event (t := 4) (p := 54) (v := ?vo_w44) (w1 := (w40.setCell ⟨go37, (x13_1 : Int).toNat, none⟩ (.bool false))) ?hg ?ho ?hn ?hr ?_; (case ho => rfl); (case hg => rfl); (case hn => rfl); (case hr => first | (go_simp; done) | (go_simp; rfl)); intro w44 hw; have hg : w40.grownBy w44 (some go37) := (by rw [hw]; exact HP43.2); have hp_ : Kd.R Kd.bool 4 w44 w.heap.size (fun _ => True) (.slice (some ⟨go37, 0, none⟩) x5_1.length co42) y276 := (by rw [hw, Ny276.out]; exact HP43.1); clear HP43; have n0_ := Aside0.mk (hp_); have n1_ := Aside0.mk (blk_grown (g := gb270) (o := .cells #[.int .i64 ((rd_T46 l0 x13_1).f0), .string ((rd_T46 l0 x13_1).f1), .int .i64 ((rd_T46 l0 x13_1).f2), .int .i64 ((rd_T46 l0 x13_1).f3)] 46 (0, 0)) (sq_l BK270) hg (Kd.R_ne HO_5.out BK270.out (by decide))); have n2_ := Aside0.mk ((by rw [hw]; exact below_set (HB.out) GB37.out : Below w.heap.size w w44)); clear HO_5; clear BK270; clear HB; have HO_5 := n0_; have BK270 := n1_; have HB := n2_; clear n0_ n1_ n2_; clear hg hw hp_))
        go_roundg k1
        case measure => have := HK1.out; omega
        case rel => exact ⟨(y276), (wrap64 (x13_1 + 1)), sq_e, H', ⟨by have := HK1.out; omega⟩, ⟨by (with_reducible repeat (first | apply Kd.R_alloc | apply Kd.R_drewN | apply Kd.R_drew)); exact HO_5.out⟩, ⟨by repeat (first | (with_reducible first | exact HB.out | apply below_alloc | apply pw_below_drewN | apply below_drew1 | refine below_set ?_ GE270.out) | exact HB.out)⟩⟩
      ·rw [if_neg c20] at H
       have c20b0 : (((rd_T46 l0 x13_1).f0) == 2) = false := beq_eq_false_iff_ne.mpr c20
       have c20b1 : (((rd_T46 l0 x13_1).f0) != 2) = true := bne_iff_ne.mpr c20
       by_cases c45 : ((rd_T46 l0 x13_1).f0) = 3
       ·rw [if_pos c45] at H
        have c45b0 : (((rd_T46 l0 x13_1).f0) == 3) = true := beq_iff_eq.mpr c45
        have c45b1 : (((rd_T46 l0 x13_1).f0) != 3) = false := bne_eq_false_iff_eq.mpr c45
        clear c45
        by_cases c46 : 0 ≤ ((rd_T46 l0 x13_1).f2)
        rotate_left
        ·rw [if_neg c46] at H
         exact absurd H (by simp)
        rw [if_pos c46] at H
        have c46b0 : decide (0 ≤ ((rd_T46 l0 x13_1).f2)) = true := decide_eq_true c46
        clear c46
        by_cases c47 : ((rd_T46 l0 x13_1).f2) < (x5_1.length : Int)
        rotate_left
        ·rw [if_neg c47] at H
         exact absurd H (by simp)
        rw [if_pos c47] at H
        have c47b0 : decide (((rd_T46 l0 x13_1).f2) < (x5_1.length : Int)) = true := decide_eq_true c47
        clear c47
        obtain ⟨bq48, hbq48⟩ : ∃ b_ : Bool, b_ = (rdOf false x5_1 ((rd_T46 l0 x13_1).f2)) := ⟨_, rfl⟩
        replace H : (if bq48 = true then (if x13_1 < (x5_1.length : Int) then (impl_holds.l0 k1 l0 l1 (x5_1.set (x13_1 : Int).toNat true) l0 (l0.length : Int) (wrap64 (x13_1 + 1))) else (none)) else (if 0 ≤ ((rd_T46 l0 x13_1).f3) then (if ((rd_T46 l0 x13_1).f3) < (x5_1.length : Int) then (if x13_1 < (x5_1.length : Int) then (impl_holds.l0 k1 l0 l1 (x5_1.set (x13_1 : Int).toNat (rdOf false x5_1 ((rd_T46 l0 x13_1).f3))) l0 (l0.length : Int) (wrap64 (x13_1 + 1))) else (none)) else (none)) else (none))) = some r := by rw [← hbq48] at H; exact H
        have Nbq48 := Aside0.mk hbq48
        clear hbq48
        by_cases c49 : bq48 = true
        ·subst c49
         have H1 : (if x13_1 < (x5_1.length : Int) then (impl_holds.l0 k1 l0 l1 (x5_1.set (x13_1 : Int).toNat true) l0 (l0.length : Int) (wrap64 (x13_1 + 1))) else (none)) = some r := by rw [if_pos rfl] at H; exact H
         clear H
         have H := H1
         clear H1
         by_cases c50 : x13_1 < (x5_1.length : Int)
         rotate_left
         ·rw [if_neg c50] at H
          exact absurd H (by simp)
         rw [if_pos c50] at H
         have c50b0 : decide (x13_1 < (x5_1.length : Int)) = true := decide_eq_true c50
         clear c50
         obtain ⟨y278, hy278⟩ : ∃ y_ : List Bool, y_ = (x5_1.set (x13_1 : Int).toNat true) := ⟨_, rfl⟩
         replace H : (impl_holds.l0 k1 l0 l1 y278 l0 (l0.length : Int) (wrap64 (x13_1 + 1))) = some r := by first | (rw [hy278]; with_reducible exact H) | (have H2_ := (Option.bind_some _ _).symm.trans H; rw [hy278]; with_reducible exact H2_) | (have H2_ := (Option.bind_some _ _).symm.trans H; with_reducible exact H2_) | with_reducible exact H | (rw [hy278]; exact H) | exact H
         have Ny278 := Aside0.mk hy278
         clear hy278
         have H' := Aside0.mk H
         clear H
         have p269 : 0 ≤ (x13_1 : Int) := sq_d
         have q269 : x13_1 < (l0.length : Int) := sq_d
         obtain ⟨ad269, e269, hx269_0, hx269_1, hx269_2, hx269_3⟩ := at_T46 HR0.out x13_1 p269 q269
         cases e269
         replace hx269_0 := (HB.out.cell (World.block_lt_of_cell? w _ hx269_0)).trans hx269_0
         replace hx269_1 := (HB.out.cell (World.block_lt_of_cell? w _ hx269_1)).trans hx269_1
         replace hx269_2 := (HB.out.cell (World.block_lt_of_cell? w _ hx269_2)).trans hx269_2
         replace hx269_3 := (HB.out.cell (World.block_lt_of_cell? w _ hx269_3)).trans hx269_3
         replace p269 := eq_true p269
         replace q269 := eq_true q269
         go_wp2_with (first | ((with_reducible refine gate_dst (N := 7) rfl ?_); refine box_event ?hg (N := 7) ?hd (cs := #[.int .i64 0, .string (⟨#[]⟩ : ByteArray), .int .i64 0, .int .i64 0]) (t := 46) ?hr ?_; (case hd => rfl); (case hg => rfl); (case hr => first | (go_simp; done) | (go_simp; rfl)); intro gb270 hg w52 hbox hb; have n0_ := Aside0.mk (Kd.R_below (sq_r HO_5) hb); have n1_ := Aside0.mk (below_step sq_b hb); have n2_ := Aside0.mk (hbox); have n3_ := Aside0.mk ((by rw [hg]; exact (below_size sq_b) : w.heap.size ≤ gb270)); have n4_ := Aside0.mk ((by rw [hg]; exact (below_size sq_b) : w.heap.size ≤ gb270)); clear HO_5; clear HB; have HO_5 := n0_; have HB := n1_; have BK270 := n2_; have GW270 := n3_; have GE270 := n4_; clear n0_ n1_ n2_ n3_ n4_; clear hb hbox hg; have hcz53_0 : w52.cell? ⟨gb270, 0, none⟩ = some (.int .i64 0) := (blk_cell BK270.out 0).trans rfl; have hcz53_1 : w52.cell? ⟨gb270, 1, none⟩ = some (.string (⟨#[]⟩ : ByteArray)) := (blk_cell BK270.out 1).trans rfl; have hcz53_2 : w52.cell? ⟨gb270, 2, none⟩ = some (.int .i64 0) := (blk_cell BK270.out 2).trans rfl; have hcz53_3 : w52.cell? ⟨gb270, 3, none⟩ = some (.int .i64 0) := (blk_cell BK270.out 3).trans rfl; have hfz53_0 := blk_frozen BK270.out 0; have hfz53_1 := blk_frozen BK270.out 1; have hfz53_2 := blk_frozen BK270.out 2; have hfz53_3 := blk_frozen BK270.out 3) | ((with_reducible refine gate_store (t := 46) (p := 7) rfl ?_); refine store_event (t := 46) (p := 7) (v := ?vo_w54) (w1 := ((((w52.setCell ⟨gb270, 0, none⟩ (.int .i64 ((rd_T46 l0 x13_1).f0))).setCell ⟨gb270, 1, none⟩ (.string ((rd_T46 l0 x13_1).f1))).setCell ⟨gb270, 2, none⟩ (.int .i64 ((rd_T46 l0 x13_1).f2))).setCell ⟨gb270, 3, none⟩ (.int .i64 ((rd_T46 l0 x13_1).f3)))) ?hg ?ho ?hn ?hr ?_; (case ho => rfl); (case hg => rfl); (case hn => rfl); (case hr => first | (go_simp; done) | (go_simp; rfl)); intro w54 hw; have n0_ : Aside0 (Kd.R Kd.bool 4 w54 w.heap.size (fun _ => True) v266 x5_1) := ⟨(by rw [hw]; exact (by (with_reducible repeat (first | apply Kd.R_alloc | apply Kd.R_drewN | apply Kd.R_drew)); exact Kd.R_mono (Kd.R_far (p := ⟨gb270, 3, none⟩) (Kd.R_far (p := ⟨gb270, 2, none⟩) (Kd.R_far (p := ⟨gb270, 1, none⟩) (Kd.R_far (p := ⟨gb270, 0, none⟩) (Kd.R_types HO_5.out BK270.out (by decide)) (fun _ hk => hk.2) (.int .i64 ((rd_T46 l0 x13_1).f0))) (fun _ hk => hk.2) (.string ((rd_T46 l0 x13_1).f1))) (fun _ hk => hk.2) (.int .i64 ((rd_T46 l0 x13_1).f2))) (fun _ hk => hk.2) (.int .i64 ((rd_T46 l0 x13_1).f3))) (fun _ hk => trivial)))⟩; have n1_ : Aside0 (w54.heap[gb270]? = some (.cells #[.int .i64 ((rd_T46 l0 x13_1).f0), .string ((rd_T46 l0 x13_1).f1), .int .i64 ((rd_T46 l0 x13_1).f2), .int .i64 ((rd_T46 l0 x13_1).f3)] 46 (0, 0))) := ⟨(by rw [hw]; exact (by (with_reducible repeat (first | refine blk_drewN ?_ _ | refine blk_drew ?_ | refine blk_alloc ?_ _)); refine blk_put (cs := #[.int .i64 ((rd_T46 l0 x13_1).f0), .string ((rd_T46 l0 x13_1).f1), .int .i64 ((rd_T46 l0 x13_1).f2), .int .i64 0]) ?_ 3 _ rfl; (with_reducible repeat (first | refine blk_drewN ?_ _ | refine blk_drew ?_ | refine blk_alloc ?_ _)); refine blk_put (cs := #[.int .i64 ((rd_T46 l0 x13_1).f0), .string ((rd_T46 l0 x13_1).f1), .int .i64 0, .int .i64 0]) ?_ 2 _ rfl; (with_reducible repeat (first | refine blk_drewN ?_ _ | refine blk_drew ?_ | refine blk_alloc ?_ _)); refine blk_put (cs := #[.int .i64 ((rd_T46 l0 x13_1).f0), .string (⟨#[]⟩ : ByteArray), .int .i64 0, .int .i64 0]) ?_ 1 _ rfl; (with_reducible repeat (first | refine blk_drewN ?_ _ | refine blk_drew ?_ | refine blk_alloc ?_ _)); refine blk_put (cs := #[.int .i64 0, .string (⟨#[]⟩ : ByteArray), .int .i64 0, .int .i64 0]) ?_ 0 _ rfl; (with_reducible repeat (first | refine blk_drewN ?_ _ | refine blk_drew ?_ | refine blk_alloc ?_ _)); exact BK270.out))⟩; have n2_ : Aside0 (Below w.heap.size w w54) := ⟨(by rw [hw]; exact (by repeat (first | (with_reducible first | exact HB.out | apply below_alloc | apply pw_below_drewN | apply below_drew1 | refine below_set ?_ GE270.out) | exact HB.out)))⟩; clear hw; clear HO_5; clear BK270; clear HB; have HO_5 := n0_; have BK270 := n1_; have HB := n2_; clear n0_ n1_ n2_; have hcz55_0 : w54.cell? ⟨gb270, 0, none⟩ = some (.int .i64 ((rd_T46 l0 x13_1).f0)) := (blk_cell BK270.out 0).trans rfl; have hcz55_1 : w54.cell? ⟨gb270, 1, none⟩ = some (.string ((rd_T46 l0 x13_1).f1)) := (blk_cell BK270.out 1).trans rfl; have hcz55_2 : w54.cell? ⟨gb270, 2, none⟩ = some (.int .i64 ((rd_T46 l0 x13_1).f2)) := (blk_cell BK270.out 2).trans rfl; have hcz55_3 : w54.cell? ⟨gb270, 3, none⟩ = some (.int .i64 ((rd_T46 l0 x13_1).f3)) := (blk_cell BK270.out 3).trans rfl; have hfz55_0 := blk_frozen BK270.out 0; have hfz55_1 := blk_frozen BK270.out 1; have hfz55_2 := blk_frozen BK270.out 2; have hfz55_3 := blk_frozen BK270.out 3; obtain ⟨Ao56, co56, eo56⟩ := Kd.R_slice HO_5.out; subst eo56; have p277 : 0 ≤ (((rd_T46 l0 x13_1).f2) : Int) := sq_d; have q277 : ((rd_T46 l0 x13_1).f2) < (x5_1.length : Int) := sq_d; (try (obtain ⟨Aq277, cq277, eq277⟩ := Kd.R_slice HO_5.out; subst eq277)); obtain ⟨ad277, e277, hx277_0⟩ := Kd.at_bool (Kd.R_reads' HO_5.out).2.2 ((rd_T46 l0 x13_1).f2) p277 q277; (try rw [← Nbq48.out] at hx277_0); cases e277; replace p277 := eq_true p277; replace q277 := eq_true q277; have p51 : 0 ≤ (x13_1 : Int) := sq_d; have q51 : (x13_1 : Int) < ((x5_1.length : Int) : Int) := sq_d; obtain ⟨go51, co51, eo51, gb51, gl51, cl51, HG51⟩ := Kd.R_form HO_5.out (by omega); (first | cases eo51 | (injection eo51 with ea_ en_ ec_; (first | subst ea_ | (injection ea_ with ea_; subst ea_)); subst ec_; clear en_)); have GB51 := Aside0.mk gb51; have GG51 := Aside0.mk HG51; clear gb51 gl51 HG51; (first | simp only [add_plain] at hx277_0 | skip); obtain ⟨hx51_0, hf51_0⟩ := Kd.R_celln false HO_5.out (x13_1 : Int) p51 q51; replace p51 := eq_true p51; replace q51 := eq_true q51; obtain ⟨hy57_, hz57_⟩ := Kd.R_celln false HO_5.out (x13_1 : Int) (sq_d) (sq_d); have HP57 := Kd.R_putg HO_5.out (x13_1 : Int) true) | ((with_reducible refine gate_store (t := 4) (p := 71) rfl ?_); refine store_event (t := 4) (p := 71) (v := ?vo_w58) (w1 := (w54.setCell ⟨go51, (x13_1 : Int).toNat, none⟩ (.bool true))) ?hg ?ho ?hn ?hr ?_; (case ho => rfl); (case hg => rfl); (case hn => rfl); (case hr => first | (go_simp; done) | (go_simp; rfl)); intro w58 hw; have hg : w54.grownBy w58 (some go51) := (by rw [hw]; exact HP57.2); have hp_ : Kd.R Kd.bool 4 w58 w.heap.size (fun _ => True) (.slice (some ⟨go51, 0, none⟩) x5_1.length co56) y278 := (by rw [hw, Ny278.out]; exact HP57.1); clear HP57; have n0_ := Aside0.mk (hp_); have n1_ := Aside0.mk (blk_grown (g := gb270) (o := .cells #[.int .i64 ((rd_T46 l0 x13_1).f0), .string ((rd_T46 l0 x13_1).f1), .int .i64 ((rd_T46 l0 x13_1).f2), .int .i64 ((rd_T46 l0 x13_1).f3)] 46 (0, 0)) (sq_l BK270) hg (Kd.R_ne HO_5.out BK270.out (by decide))); have n2_ := Aside0.mk ((by rw [hw]; exact below_set (HB.out) GB51.out : Below w.heap.size w w58)); clear HO_5; clear BK270; clear HB; have HO_5 := n0_; have BK270 := n1_; have HB := n2_; clear n0_ n1_ n2_; clear hg hw hp_))
         go_roundg k1
         case measure => have := HK1.out; omega
         case rel => exact ⟨(y278), (wrap64 (x13_1 + 1)), sq_e, H', ⟨by have := HK1.out; omega⟩, ⟨by (with_reducible repeat (first | apply Kd.R_alloc | apply Kd.R_drewN | apply Kd.R_drew)); exact HO_5.out⟩, ⟨by repeat (first | (with_reducible first | exact HB.out | apply below_alloc | apply pw_below_drewN | apply below_drew1 | refine below_set ?_ GE270.out) | exact HB.out)⟩⟩
        ·replace c49 := Bool.eq_false_iff.mpr c49
         subst c49
         have H1 : (if 0 ≤ ((rd_T46 l0 x13_1).f3) then (if ((rd_T46 l0 x13_1).f3) < (x5_1.length : Int) then (if x13_1 < (x5_1.length : Int) then (impl_holds.l0 k1 l0 l1 (x5_1.set (x13_1 : Int).toNat (rdOf false x5_1 ((rd_T46 l0 x13_1).f3))) l0 (l0.length : Int) (wrap64 (x13_1 + 1))) else (none)) else (none)) else (none)) = some r := by rw [if_neg (show ¬ (false = true) by decide)] at H; exact H
         clear H
         have H := H1
         clear H1
         by_cases c59 : 0 ≤ ((rd_T46 l0 x13_1).f3)
         rotate_left
         ·rw [if_neg c59] at H
          exact absurd H (by simp)
         rw [if_pos c59] at H
         have c59b0 : decide (0 ≤ ((rd_T46 l0 x13_1).f3)) = true := decide_eq_true c59
         clear c59
         by_cases c60 : ((rd_T46 l0 x13_1).f3) < (x5_1.length : Int)
         rotate_left
         ·rw [if_neg c60] at H
          exact absurd H (by simp)
         rw [if_pos c60] at H
         have c60b0 : decide (((rd_T46 l0 x13_1).f3) < (x5_1.length : Int)) = true := decide_eq_true c60
         clear c60
         by_cases c61 : x13_1 < (x5_1.length : Int)
         rotate_left
         ·rw [if_neg c61] at H
          exact absurd H (by simp)
         rw [if_pos c61] at H
         have c61b0 : decide (x13_1 < (x5_1.length : Int)) = true := decide_eq_true c61
         clear c61
         obtain ⟨y280, hy280⟩ : ∃ y_ : List Bool, y_ = (x5_1.set (x13_1 : Int).toNat (rdOf false x5_1 ((rd_T46 l0 x13_1).f3))) := ⟨_, rfl⟩
         replace H : (impl_holds.l0 k1 l0 l1 y280 l0 (l0.length : Int) (wrap64 (x13_1 + 1))) = some r := by first | (rw [hy280]; with_reducible exact H) | (have H2_ := (Option.bind_some _ _).symm.trans H; rw [hy280]; with_reducible exact H2_) | (have H2_ := (Option.bind_some _ _).symm.trans H; with_reducible exact H2_) | with_reducible exact H | (rw [hy280]; exact H) | exact H
         have Ny280 := Aside0.mk hy280
         clear hy280
         have H' := Aside0.mk H
         clear H
         have p269 : 0 ≤ (x13_1 : Int) := sq_d
         have q269 : x13_1 < (l0.length : Int) := sq_d
         obtain ⟨ad269, e269, hx269_0, hx269_1, hx269_2, hx269_3⟩ := at_T46 HR0.out x13_1 p269 q269
         cases e269
         replace hx269_0 := (HB.out.cell (World.block_lt_of_cell? w _ hx269_0)).trans hx269_0
         replace hx269_1 := (HB.out.cell (World.block_lt_of_cell? w _ hx269_1)).trans hx269_1
         replace hx269_2 := (HB.out.cell (World.block_lt_of_cell? w _ hx269_2)).trans hx269_2
         replace hx269_3 := (HB.out.cell (World.block_lt_of_cell? w _ hx269_3)).trans hx269_3
         replace p269 := eq_true p269
         replace q269 := eq_true q269
         go_wp2_with (first | ((with_reducible refine gate_dst (N := 7) rfl ?_); refine box_event ?hg (N := 7) ?hd (cs := #[.int .i64 0, .string (⟨#[]⟩ : ByteArray), .int .i64 0, .int .i64 0]) (t := 46) ?hr ?_; (case hd => rfl); (case hg => rfl); (case hr => first | (go_simp; done) | (go_simp; rfl)); intro gb270 hg w63 hbox hb; have n0_ := Aside0.mk (Kd.R_below (sq_r HO_5) hb); have n1_ := Aside0.mk (below_step sq_b hb); have n2_ := Aside0.mk (hbox); have n3_ := Aside0.mk ((by rw [hg]; exact (below_size sq_b) : w.heap.size ≤ gb270)); have n4_ := Aside0.mk ((by rw [hg]; exact (below_size sq_b) : w.heap.size ≤ gb270)); clear HO_5; clear HB; have HO_5 := n0_; have HB := n1_; have BK270 := n2_; have GW270 := n3_; have GE270 := n4_; clear n0_ n1_ n2_ n3_ n4_; clear hb hbox hg; have hcz64_0 : w63.cell? ⟨gb270, 0, none⟩ = some (.int .i64 0) := (blk_cell BK270.out 0).trans rfl; have hcz64_1 : w63.cell? ⟨gb270, 1, none⟩ = some (.string (⟨#[]⟩ : ByteArray)) := (blk_cell BK270.out 1).trans rfl; have hcz64_2 : w63.cell? ⟨gb270, 2, none⟩ = some (.int .i64 0) := (blk_cell BK270.out 2).trans rfl; have hcz64_3 : w63.cell? ⟨gb270, 3, none⟩ = some (.int .i64 0) := (blk_cell BK270.out 3).trans rfl; have hfz64_0 := blk_frozen BK270.out 0; have hfz64_1 := blk_frozen BK270.out 1; have hfz64_2 := blk_frozen BK270.out 2; have hfz64_3 := blk_frozen BK270.out 3) | ((with_reducible refine gate_store (t := 46) (p := 7) rfl ?_); refine store_event (t := 46) (p := 7) (v := ?vo_w65) (w1 := ((((w63.setCell ⟨gb270, 0, none⟩ (.int .i64 ((rd_T46 l0 x13_1).f0))).setCell ⟨gb270, 1, none⟩ (.string ((rd_T46 l0 x13_1).f1))).setCell ⟨gb270, 2, none⟩ (.int .i64 ((rd_T46 l0 x13_1).f2))).setCell ⟨gb270, 3, none⟩ (.int .i64 ((rd_T46 l0 x13_1).f3)))) ?hg ?ho ?hn ?hr ?_; (case ho => rfl); (case hg => rfl); (case hn => rfl); (case hr => first | (go_simp; done) | (go_simp; rfl)); intro w65 hw; have n0_ : Aside0 (Kd.R Kd.bool 4 w65 w.heap.size (fun _ => True) v266 x5_1) := ⟨(by rw [hw]; exact (by (with_reducible repeat (first | apply Kd.R_alloc | apply Kd.R_drewN | apply Kd.R_drew)); exact Kd.R_mono (Kd.R_far (p := ⟨gb270, 3, none⟩) (Kd.R_far (p := ⟨gb270, 2, none⟩) (Kd.R_far (p := ⟨gb270, 1, none⟩) (Kd.R_far (p := ⟨gb270, 0, none⟩) (Kd.R_types HO_5.out BK270.out (by decide)) (fun _ hk => hk.2) (.int .i64 ((rd_T46 l0 x13_1).f0))) (fun _ hk => hk.2) (.string ((rd_T46 l0 x13_1).f1))) (fun _ hk => hk.2) (.int .i64 ((rd_T46 l0 x13_1).f2))) (fun _ hk => hk.2) (.int .i64 ((rd_T46 l0 x13_1).f3))) (fun _ hk => trivial)))⟩; have n1_ : Aside0 (w65.heap[gb270]? = some (.cells #[.int .i64 ((rd_T46 l0 x13_1).f0), .string ((rd_T46 l0 x13_1).f1), .int .i64 ((rd_T46 l0 x13_1).f2), .int .i64 ((rd_T46 l0 x13_1).f3)] 46 (0, 0))) := ⟨(by rw [hw]; exact (by (with_reducible repeat (first | refine blk_drewN ?_ _ | refine blk_drew ?_ | refine blk_alloc ?_ _)); refine blk_put (cs := #[.int .i64 ((rd_T46 l0 x13_1).f0), .string ((rd_T46 l0 x13_1).f1), .int .i64 ((rd_T46 l0 x13_1).f2), .int .i64 0]) ?_ 3 _ rfl; (with_reducible repeat (first | refine blk_drewN ?_ _ | refine blk_drew ?_ | refine blk_alloc ?_ _)); refine blk_put (cs := #[.int .i64 ((rd_T46 l0 x13_1).f0), .string ((rd_T46 l0 x13_1).f1), .int .i64 0, .int .i64 0]) ?_ 2 _ rfl; (with_reducible repeat (first | refine blk_drewN ?_ _ | refine blk_drew ?_ | refine blk_alloc ?_ _)); refine blk_put (cs := #[.int .i64 ((rd_T46 l0 x13_1).f0), .string (⟨#[]⟩ : ByteArray), .int .i64 0, .int .i64 0]) ?_ 1 _ rfl; (with_reducible repeat (first | refine blk_drewN ?_ _ | refine blk_drew ?_ | refine blk_alloc ?_ _)); refine blk_put (cs := #[.int .i64 0, .string (⟨#[]⟩ : ByteArray), .int .i64 0, .int .i64 0]) ?_ 0 _ rfl; (with_reducible repeat (first | refine blk_drewN ?_ _ | refine blk_drew ?_ | refine blk_alloc ?_ _)); exact BK270.out))⟩; have n2_ : Aside0 (Below w.heap.size w w65) := ⟨(by rw [hw]; exact (by repeat (first | (with_reducible first | exact HB.out | apply below_alloc | apply pw_below_drewN | apply below_drew1 | refine below_set ?_ GE270.out) | exact HB.out)))⟩; clear hw; clear HO_5; clear BK270; clear HB; have HO_5 := n0_; have BK270 := n1_; have HB := n2_; clear n0_ n1_ n2_; have hcz66_0 : w65.cell? ⟨gb270, 0, none⟩ = some (.int .i64 ((rd_T46 l0 x13_1).f0)) := (blk_cell BK270.out 0).trans rfl; have hcz66_1 : w65.cell? ⟨gb270, 1, none⟩ = some (.string ((rd_T46 l0 x13_1).f1)) := (blk_cell BK270.out 1).trans rfl; have hcz66_2 : w65.cell? ⟨gb270, 2, none⟩ = some (.int .i64 ((rd_T46 l0 x13_1).f2)) := (blk_cell BK270.out 2).trans rfl; have hcz66_3 : w65.cell? ⟨gb270, 3, none⟩ = some (.int .i64 ((rd_T46 l0 x13_1).f3)) := (blk_cell BK270.out 3).trans rfl; have hfz66_0 := blk_frozen BK270.out 0; have hfz66_1 := blk_frozen BK270.out 1; have hfz66_2 := blk_frozen BK270.out 2; have hfz66_3 := blk_frozen BK270.out 3; obtain ⟨Ao67, co67, eo67⟩ := Kd.R_slice HO_5.out; subst eo67; have p277 : 0 ≤ (((rd_T46 l0 x13_1).f2) : Int) := sq_d; have q277 : ((rd_T46 l0 x13_1).f2) < (x5_1.length : Int) := sq_d; (try (obtain ⟨Aq277, cq277, eq277⟩ := Kd.R_slice HO_5.out; subst eq277)); obtain ⟨ad277, e277, hx277_0⟩ := Kd.at_bool (Kd.R_reads' HO_5.out).2.2 ((rd_T46 l0 x13_1).f2) p277 q277; (try rw [← Nbq48.out] at hx277_0); cases e277; replace p277 := eq_true p277; replace q277 := eq_true q277; have p279 : 0 ≤ (((rd_T46 l0 x13_1).f3) : Int) := sq_d; have q279 : ((rd_T46 l0 x13_1).f3) < (x5_1.length : Int) := sq_d; (try (obtain ⟨Aq279, cq279, eq279⟩ := Kd.R_slice HO_5.out; subst eq279)); obtain ⟨ad279, e279, hx279_0⟩ := Kd.at_bool (Kd.R_reads' HO_5.out).2.2 ((rd_T46 l0 x13_1).f3) p279 q279; (try rw [← Nbq48.out] at hx279_0); obtain rfl : ad277 = ad279 := (by injection e279); replace p279 := eq_true p279; replace q279 := eq_true q279; have p62 : 0 ≤ (x13_1 : Int) := sq_d; have q62 : (x13_1 : Int) < ((x5_1.length : Int) : Int) := sq_d; obtain ⟨go62, co62, eo62, gb62, gl62, cl62, HG62⟩ := Kd.R_form HO_5.out (by omega); (first | cases eo62 | (injection eo62 with ea_ en_ ec_; (first | subst ea_ | (injection ea_ with ea_; subst ea_)); subst ec_; clear en_)); have GB62 := Aside0.mk gb62; have GG62 := Aside0.mk HG62; clear gb62 gl62 HG62; (first | simp only [add_plain] at hx277_0 | skip); (first | simp only [add_plain] at hx279_0 | skip); obtain ⟨hx62_0, hf62_0⟩ := Kd.R_celln false HO_5.out (x13_1 : Int) p62 q62; replace p62 := eq_true p62; replace q62 := eq_true q62; obtain ⟨hy68_, hz68_⟩ := Kd.R_celln false HO_5.out (x13_1 : Int) (sq_d) (sq_d); have HP68 := Kd.R_putg HO_5.out (x13_1 : Int) (rdOf false x5_1 ((rd_T46 l0 x13_1).f3))) | ((with_reducible refine gate_store (t := 4) (p := 71) rfl ?_); refine store_event (t := 4) (p := 71) (v := ?vo_w69) (w1 := (w65.setCell ⟨go62, (x13_1 : Int).toNat, none⟩ (.bool (rdOf false x5_1 ((rd_T46 l0 x13_1).f3))))) ?hg ?ho ?hn ?hr ?_; (case ho => rfl); (case hg => rfl); (case hn => rfl); (case hr => first | (go_simp; done) | (go_simp; rfl)); intro w69 hw; have hg : w65.grownBy w69 (some go62) := (by rw [hw]; exact HP68.2); have hp_ : Kd.R Kd.bool 4 w69 w.heap.size (fun _ => True) (.slice (some ⟨go62, 0, none⟩) x5_1.length co67) y280 := (by rw [hw, Ny280.out]; exact HP68.1); clear HP68; have n0_ := Aside0.mk (hp_); have n1_ := Aside0.mk (blk_grown (g := gb270) (o := .cells #[.int .i64 ((rd_T46 l0 x13_1).f0), .string ((rd_T46 l0 x13_1).f1), .int .i64 ((rd_T46 l0 x13_1).f2), .int .i64 ((rd_T46 l0 x13_1).f3)] 46 (0, 0)) (sq_l BK270) hg (Kd.R_ne HO_5.out BK270.out (by decide))); have n2_ := Aside0.mk ((by rw [hw]; exact below_set (HB.out) GB62.out : Below w.heap.size w w69)); clear HO_5; clear BK270; clear HB; have HO_5 := n0_; have BK270 := n1_; have HB := n2_; clear n0_ n1_ n2_; clear hg hw hp_))
         go_roundg k1
         case measure => have := HK1.out; omega
         case rel => exact ⟨(y280), (wrap64 (x13_1 + 1)), sq_e, H', ⟨by have := HK1.out; omega⟩, ⟨by (with_reducible repeat (first | apply Kd.R_alloc | apply Kd.R_drewN | apply Kd.R_drew)); exact HO_5.out⟩, ⟨by repeat (first | (with_reducible first | exact HB.out | apply below_alloc | apply pw_below_drewN | apply below_drew1 | refine below_set ?_ GE270.out) | exact HB.out)⟩⟩
       ·rw [if_neg c45] at H
        have c45b0 : (((rd_T46 l0 x13_1).f0) == 3) = false := beq_eq_false_iff_ne.mpr c45
        have c45b1 : (((rd_T46 l0 x13_1).f0) != 3) = true := bne_iff_ne.mpr c45
        by_cases c70 : 0 ≤ ((rd_T46 l0 x13_1).f2)
        rotate_left
        ·rw [if_neg c70] at H
         exact absurd H (by simp)
        rw [if_pos c70] at H
        have c70b0 : decide (0 ≤ ((rd_T46 l0 x13_1).f2)) = true := decide_eq_true c70
        clear c70
        by_cases c71 : ((rd_T46 l0 x13_1).f2) < (x5_1.length : Int)
        rotate_left
        ·rw [if_neg c71] at H
         exact absurd H (by simp)
        rw [if_pos c71] at H
        have c71b0 : decide (((rd_T46 l0 x13_1).f2) < (x5_1.length : Int)) = true := decide_eq_true c71
        clear c71
        by_cases c72 : x13_1 < (x5_1.length : Int)
        rotate_left
        ·rw [if_neg c72] at H
         exact absurd H (by simp)
        rw [if_pos c72] at H
        have c72b0 : decide (x13_1 < (x5_1.length : Int)) = true := decide_eq_true c72
        clear c72
        obtain ⟨y282, hy282⟩ : ∃ y_ : List Bool, y_ = (x5_1.set (x13_1 : Int).toNat (!(rdOf false x5_1 ((rd_T46 l0 x13_1).f2)))) := ⟨_, rfl⟩
        replace H : (impl_holds.l0 k1 l0 l1 y282 l0 (l0.length : Int) (wrap64 (x13_1 + 1))) = some r := by first | (rw [hy282]; with_reducible exact H) | (have H2_ := (Option.bind_some _ _).symm.trans H; rw [hy282]; with_reducible exact H2_) | (have H2_ := (Option.bind_some _ _).symm.trans H; with_reducible exact H2_) | with_reducible exact H | (rw [hy282]; exact H) | exact H
        have Ny282 := Aside0.mk hy282
        clear hy282
        have H' := Aside0.mk H
        clear H
        have p269 : 0 ≤ (x13_1 : Int) := sq_d
        have q269 : x13_1 < (l0.length : Int) := sq_d
        obtain ⟨ad269, e269, hx269_0, hx269_1, hx269_2, hx269_3⟩ := at_T46 HR0.out x13_1 p269 q269
        cases e269
        replace hx269_0 := (HB.out.cell (World.block_lt_of_cell? w _ hx269_0)).trans hx269_0
        replace hx269_1 := (HB.out.cell (World.block_lt_of_cell? w _ hx269_1)).trans hx269_1
        replace hx269_2 := (HB.out.cell (World.block_lt_of_cell? w _ hx269_2)).trans hx269_2
        replace hx269_3 := (HB.out.cell (World.block_lt_of_cell? w _ hx269_3)).trans hx269_3
        replace p269 := eq_true p269
        replace q269 := eq_true q269
        go_wp2_with (first | ((with_reducible refine gate_dst (N := 7) rfl ?_); refine box_event ?hg (N := 7) ?hd (cs := #[.int .i64 0, .string (⟨#[]⟩ : ByteArray), .int .i64 0, .int .i64 0]) (t := 46) ?hr ?_; (case hd => rfl); (case hg => rfl); (case hr => first | (go_simp; done) | (go_simp; rfl)); intro gb270 hg w74 hbox hb; have n0_ := Aside0.mk (Kd.R_below (sq_r HO_5) hb); have n1_ := Aside0.mk (below_step sq_b hb); have n2_ := Aside0.mk (hbox); have n3_ := Aside0.mk ((by rw [hg]; exact (below_size sq_b) : w.heap.size ≤ gb270)); have n4_ := Aside0.mk ((by rw [hg]; exact (below_size sq_b) : w.heap.size ≤ gb270)); clear HO_5; clear HB; have HO_5 := n0_; have HB := n1_; have BK270 := n2_; have GW270 := n3_; have GE270 := n4_; clear n0_ n1_ n2_ n3_ n4_; clear hb hbox hg; have hcz75_0 : w74.cell? ⟨gb270, 0, none⟩ = some (.int .i64 0) := (blk_cell BK270.out 0).trans rfl; have hcz75_1 : w74.cell? ⟨gb270, 1, none⟩ = some (.string (⟨#[]⟩ : ByteArray)) := (blk_cell BK270.out 1).trans rfl; have hcz75_2 : w74.cell? ⟨gb270, 2, none⟩ = some (.int .i64 0) := (blk_cell BK270.out 2).trans rfl; have hcz75_3 : w74.cell? ⟨gb270, 3, none⟩ = some (.int .i64 0) := (blk_cell BK270.out 3).trans rfl; have hfz75_0 := blk_frozen BK270.out 0; have hfz75_1 := blk_frozen BK270.out 1; have hfz75_2 := blk_frozen BK270.out 2; have hfz75_3 := blk_frozen BK270.out 3) | ((with_reducible refine gate_store (t := 46) (p := 7) rfl ?_); refine store_event (t := 46) (p := 7) (v := ?vo_w76) (w1 := ((((w74.setCell ⟨gb270, 0, none⟩ (.int .i64 ((rd_T46 l0 x13_1).f0))).setCell ⟨gb270, 1, none⟩ (.string ((rd_T46 l0 x13_1).f1))).setCell ⟨gb270, 2, none⟩ (.int .i64 ((rd_T46 l0 x13_1).f2))).setCell ⟨gb270, 3, none⟩ (.int .i64 ((rd_T46 l0 x13_1).f3)))) ?hg ?ho ?hn ?hr ?_; (case ho => rfl); (case hg => rfl); (case hn => rfl); (case hr => first | (go_simp; done) | (go_simp; rfl)); intro w76 hw; have n0_ : Aside0 (Kd.R Kd.bool 4 w76 w.heap.size (fun _ => True) v266 x5_1) := ⟨(by rw [hw]; exact (by (with_reducible repeat (first | apply Kd.R_alloc | apply Kd.R_drewN | apply Kd.R_drew)); exact Kd.R_mono (Kd.R_far (p := ⟨gb270, 3, none⟩) (Kd.R_far (p := ⟨gb270, 2, none⟩) (Kd.R_far (p := ⟨gb270, 1, none⟩) (Kd.R_far (p := ⟨gb270, 0, none⟩) (Kd.R_types HO_5.out BK270.out (by decide)) (fun _ hk => hk.2) (.int .i64 ((rd_T46 l0 x13_1).f0))) (fun _ hk => hk.2) (.string ((rd_T46 l0 x13_1).f1))) (fun _ hk => hk.2) (.int .i64 ((rd_T46 l0 x13_1).f2))) (fun _ hk => hk.2) (.int .i64 ((rd_T46 l0 x13_1).f3))) (fun _ hk => trivial)))⟩; have n1_ : Aside0 (w76.heap[gb270]? = some (.cells #[.int .i64 ((rd_T46 l0 x13_1).f0), .string ((rd_T46 l0 x13_1).f1), .int .i64 ((rd_T46 l0 x13_1).f2), .int .i64 ((rd_T46 l0 x13_1).f3)] 46 (0, 0))) := ⟨(by rw [hw]; exact (by (with_reducible repeat (first | refine blk_drewN ?_ _ | refine blk_drew ?_ | refine blk_alloc ?_ _)); refine blk_put (cs := #[.int .i64 ((rd_T46 l0 x13_1).f0), .string ((rd_T46 l0 x13_1).f1), .int .i64 ((rd_T46 l0 x13_1).f2), .int .i64 0]) ?_ 3 _ rfl; (with_reducible repeat (first | refine blk_drewN ?_ _ | refine blk_drew ?_ | refine blk_alloc ?_ _)); refine blk_put (cs := #[.int .i64 ((rd_T46 l0 x13_1).f0), .string ((rd_T46 l0 x13_1).f1), .int .i64 0, .int .i64 0]) ?_ 2 _ rfl; (with_reducible repeat (first | refine blk_drewN ?_ _ | refine blk_drew ?_ | refine blk_alloc ?_ _)); refine blk_put (cs := #[.int .i64 ((rd_T46 l0 x13_1).f0), .string (⟨#[]⟩ : ByteArray), .int .i64 0, .int .i64 0]) ?_ 1 _ rfl; (with_reducible repeat (first | refine blk_drewN ?_ _ | refine blk_drew ?_ | refine blk_alloc ?_ _)); refine blk_put (cs := #[.int .i64 0, .string (⟨#[]⟩ : ByteArray), .int .i64 0, .int .i64 0]) ?_ 0 _ rfl; (with_reducible repeat (first | refine blk_drewN ?_ _ | refine blk_drew ?_ | refine blk_alloc ?_ _)); exact BK270.out))⟩; have n2_ : Aside0 (Below w.heap.size w w76) := ⟨(by rw [hw]; exact (by repeat (first | (with_reducible first | exact HB.out | apply below_alloc | apply pw_below_drewN | apply below_drew1 | refine below_set ?_ GE270.out) | exact HB.out)))⟩; clear hw; clear HO_5; clear BK270; clear HB; have HO_5 := n0_; have BK270 := n1_; have HB := n2_; clear n0_ n1_ n2_; have hcz77_0 : w76.cell? ⟨gb270, 0, none⟩ = some (.int .i64 ((rd_T46 l0 x13_1).f0)) := (blk_cell BK270.out 0).trans rfl; have hcz77_1 : w76.cell? ⟨gb270, 1, none⟩ = some (.string ((rd_T46 l0 x13_1).f1)) := (blk_cell BK270.out 1).trans rfl; have hcz77_2 : w76.cell? ⟨gb270, 2, none⟩ = some (.int .i64 ((rd_T46 l0 x13_1).f2)) := (blk_cell BK270.out 2).trans rfl; have hcz77_3 : w76.cell? ⟨gb270, 3, none⟩ = some (.int .i64 ((rd_T46 l0 x13_1).f3)) := (blk_cell BK270.out 3).trans rfl; have hfz77_0 := blk_frozen BK270.out 0; have hfz77_1 := blk_frozen BK270.out 1; have hfz77_2 := blk_frozen BK270.out 2; have hfz77_3 := blk_frozen BK270.out 3; obtain ⟨Ao78, co78, eo78⟩ := Kd.R_slice HO_5.out; subst eo78; have p281 : 0 ≤ (((rd_T46 l0 x13_1).f2) : Int) := sq_d; have q281 : ((rd_T46 l0 x13_1).f2) < (x5_1.length : Int) := sq_d; (try (obtain ⟨Aq281, cq281, eq281⟩ := Kd.R_slice HO_5.out; subst eq281)); obtain ⟨ad281, e281, hx281_0⟩ := Kd.at_bool (Kd.R_reads' HO_5.out).2.2 ((rd_T46 l0 x13_1).f2) p281 q281; cases e281; replace p281 := eq_true p281; replace q281 := eq_true q281; have p73 : 0 ≤ (x13_1 : Int) := sq_d; have q73 : (x13_1 : Int) < ((x5_1.length : Int) : Int) := sq_d; obtain ⟨go73, co73, eo73, gb73, gl73, cl73, HG73⟩ := Kd.R_form HO_5.out (by omega); (first | cases eo73 | (injection eo73 with ea_ en_ ec_; (first | subst ea_ | (injection ea_ with ea_; subst ea_)); subst ec_; clear en_)); have GB73 := Aside0.mk gb73; have GG73 := Aside0.mk HG73; clear gb73 gl73 HG73; (first | simp only [add_plain] at hx281_0 | skip); obtain ⟨hx73_0, hf73_0⟩ := Kd.R_celln false HO_5.out (x13_1 : Int) p73 q73; replace p73 := eq_true p73; replace q73 := eq_true q73; obtain ⟨hy79_, hz79_⟩ := Kd.R_celln false HO_5.out (x13_1 : Int) (sq_d) (sq_d); have HP79 := Kd.R_putg HO_5.out (x13_1 : Int) (!(rdOf false x5_1 ((rd_T46 l0 x13_1).f2)))) | ((with_reducible refine gate_store (t := 4) (p := 28) rfl ?_); refine store_event (t := 4) (p := 28) (v := ?vo_w80) (w1 := (w76.setCell ⟨go73, (x13_1 : Int).toNat, none⟩ (.bool (!(rdOf false x5_1 ((rd_T46 l0 x13_1).f2)))))) ?hg ?ho ?hn ?hr ?_; (case ho => rfl); (case hg => rfl); (case hn => rfl); (case hr => first | (go_simp; done) | (go_simp; rfl)); intro w80 hw; have hg : w76.grownBy w80 (some go73) := (by rw [hw]; exact HP79.2); have hp_ : Kd.R Kd.bool 4 w80 w.heap.size (fun _ => True) (.slice (some ⟨go73, 0, none⟩) x5_1.length co78) y282 := (by rw [hw, Ny282.out]; exact HP79.1); clear HP79; have n0_ := Aside0.mk (hp_); have n1_ := Aside0.mk (blk_grown (g := gb270) (o := .cells #[.int .i64 ((rd_T46 l0 x13_1).f0), .string ((rd_T46 l0 x13_1).f1), .int .i64 ((rd_T46 l0 x13_1).f2), .int .i64 ((rd_T46 l0 x13_1).f3)] 46 (0, 0)) (sq_l BK270) hg (Kd.R_ne HO_5.out BK270.out (by decide))); have n2_ := Aside0.mk ((by rw [hw]; exact below_set (HB.out) GB73.out : Below w.heap.size w w80)); clear HO_5; clear BK270; clear HB; have HO_5 := n0_; have BK270 := n1_; have HB := n2_; clear n0_ n1_ n2_; clear hg hw hp_))
        go_roundg k1
        case measure => have := HK1.out; omega
        case rel => exact ⟨(y282), (wrap64 (x13_1 + 1)), sq_e, H', ⟨by have := HK1.out; omega⟩, ⟨by (with_reducible repeat (first | apply Kd.R_alloc | apply Kd.R_drewN | apply Kd.R_drew)); exact HO_5.out⟩, ⟨by repeat (first | (with_reducible first | exact HB.out | apply below_alloc | apply pw_below_drewN | apply below_drew1 | refine below_set ?_ GE270.out) | exact HB.out)⟩⟩
    ·rw [if_neg c7] at H
     have c7b0 : decide (x13_1 < (l0.length : Int)) = false := decide_eq_false c7
     clear c7
     obtain ⟨ji81, hji81⟩ : ∃ j_ : Int, (wrap64 ((l0.length : Int) - 1)) = j_ := ⟨_, rfl⟩
     replace H : (if 0 ≤ (ji81) then (if (ji81) < (x5_1.length : Int) then (some (rdOf false x5_1 (ji81))) else (none)) else (none)) = some r := by first | (rw [hji81] at H; exact H) | (simp only [hji81] at H ⊢; exact H)
     have hji81w : (IntKind.i64.wrap ((l0.length : Int) - 1)) = ji81 := (i64_w _).trans hji81
     by_cases c82 : 0 ≤ (ji81)
     rotate_left
     ·rw [if_neg c82] at H
      exact absurd H (by simp)
     rw [if_pos c82] at H
     have c82b0 : decide (0 ≤ (ji81)) = true := decide_eq_true c82
     clear c82
     by_cases c83 : (ji81) < (x5_1.length : Int)
     rotate_left
     ·rw [if_neg c83] at H
      exact absurd H (by simp)
     rw [if_pos c83] at H
     have c83b0 : decide ((ji81) < (x5_1.length : Int)) = true := decide_eq_true c83
     clear c83
     obtain rfl := Option.some.inj H
     obtain ⟨Ao84, co84, eo84⟩ := Kd.R_slice HO_5.out
     subst eo84
     have p268 : 0 ≤ ((ji81) : Int) := sq_d
     have q268 : (ji81) < (x5_1.length : Int) := sq_d
     (try (obtain ⟨Aq268, cq268, eq268⟩ := Kd.R_slice HO_5.out; subst eq268))
     obtain ⟨ad268, e268, hx268_0⟩ := Kd.at_bool (Kd.R_reads' HO_5.out).2.2 (ji81) p268 q268
     cases e268
     replace p268 := eq_true p268
     replace q268 := eq_true q268
     go_wp2
     go_ret
     exact ⟨by first | rfl | (simp [errW_none, errW_some] <;> rfl) | (simp only [← hji81]; first | rfl | (simp [errW_none, errW_some] <;> rfl)) | (simp [errW_none, errW_some, ext_bne_nil, ext_beq_nil]; done) | (simp [*, errW_none, errW_some] <;> rfl), sq_b⟩
 ·rw [if_neg c3] at H
  exact absurd H (by simp)

/-! ### impl_fullTerms_1: function 85 (by hand) -/
def impl_fullTerms_1.f (k : Nat) (words : List ByteArray) (q : List S46) (l0 : List Int) : Option Bool := (spec_l11There.f k words l0).bind fun th => (impl_holds.f k q th).bind fun b => some (!b)
set_option maxHeartbeats 8000000 in
set_option maxRecDepth 100000 in
theorem impl_fullTerms_1.calls (k : Nat) (A0 : Option Addr) (c0 : Nat) (l0 : List Int) (gw gq : Nat) (Aw : Option Addr) (cw : Nat) (words : List ByteArray) (Aq : Option Addr) (cq : Nat) (q : List S46) (r : Bool) (w : World)
  (hr0 : Kd.C (Kd.int .i64) w A0 l0.length l0) (hc0 : l0.length ≤ c0) (hgw : w.cell? ⟨gw, 0, none⟩ = some (.slice Aw words.length cw)) (hrw : Kd.C Kd.string w Aw words.length words) (hcw : words.length ≤ cw)
  (hgq : w.cell? ⟨gq, 0, none⟩ = some (.slice Aq q.length cq)) (hrq : Kd.C k46 w Aq q.length q) (hcq : q.length ≤ cq) (h : impl_fullTerms_1.f k words q l0 = some r) :
  Calls Try.prog 85 #[.slice A0 l0.length c0, .pointer (some ⟨gw, 0, none⟩), .pointer (some ⟨gq, 0, none⟩)] w fun e w' => e = .returned (.bool r) ∧ Below w.heap.size w w' := by
 unfold impl_fullTerms_1.f at h
 obtain ⟨th, hth, h⟩ := Option.bind_eq_some_iff.mp h
 obtain ⟨b, hb, h⟩ := Option.bind_eq_some_iff.mp h
 injection h with h
 have HR0 := Aside0.mk hr0
 have HC0 := Aside0.mk hc0
 have HRW := Aside0.mk hrw
 have HCW := Aside0.mk hcw
 have HRQ := Aside0.mk hrq
 have HCQ := Aside0.mk hcq
 have HHB := Aside0.mk hb
 have HRB := Aside0.mk h
 have HGW := Aside0.mk hgw
 have HGQ := Aside0.mk hgq
 have HB := Aside0.mk (Below.refl w.heap.size w)
 clear hr0 hc0 hrw hcw hrq hcq hb h hgw hgq
 have H' := Aside0.mk (show (spec_l11There.l0 k words ([] : List ByteArray) l0 (l0.length : Int) 0) = some th from hth)
 clear hth
 go_enter Try.func85, Try.ntmps85
 go_wp2
 go_loopg [5, 10] k (fun kq v5 v10 w' => ∃ (x5_1 : List ByteArray) (x10_1 : Int), v10 = .int .i64 x10_1 ∧ Aside0 (spec_l11There.l0 kq words x5_1 l0 (l0.length : Int) x10_1 = some th) ∧ Aside0 (kq ≤ k) ∧ Aside0 (Kd.R Kd.string 9 w' w.heap.size (fun _ => True) v5 x5_1) ∧ Aside0 (Below w.heap.size w w'))
 case atStart => exact ⟨[], 0, sq_e, H', ⟨Nat.le_refl _⟩, ⟨Kd.R_nil _ _ _ _ _⟩, ⟨sq_b⟩⟩
 case round =>
  clear H'
  obtain ⟨x5_1, x10_1, rfl, HA, HK1, HO_5, HB⟩ := hrel
  cases gk with
  | zero => exact absurd HA.out (by simp [spec_l11There.l0])
  | succ k1 =>
   have H := HA.out
   clear HA
   simp only [spec_l11There.l0] at H
   have hgw := (HB.out.cell (World.block_lt_of_cell? w _ HGW.out)).trans HGW.out
   by_cases c3 : x10_1 < (l0.length : Int)
   ·rw [if_pos c3] at H
    have c3b0 : decide (x10_1 < (l0.length : Int)) = true := decide_eq_true c3
    by_cases c4 : 0 ≤ x10_1
    rotate_left
    ·rw [if_neg c4] at H
     exact absurd H (by simp)
    rw [if_pos c4] at H
    have c4b0 : decide (0 ≤ x10_1) = true := decide_eq_true c4
    rw [if_pos c3] at H
    obtain ⟨ad177, e177, hx177_0⟩ := Kd.at_int HR0.out x10_1 c4 c3
    cases e177
    replace hx177_0 := (HB.out.cell (World.block_lt_of_cell? w _ hx177_0)).trans hx177_0
    have p177 := eq_true c4
    have q177 := eq_true c3
    clear c3
    by_cases c6 : (rd l0 x10_1) = 1
    ·rw [if_pos c6] at H
     have c6b0 : ((rd l0 x10_1) == 1) = true := beq_iff_eq.mpr c6
     clear c6
     by_cases c7 : x10_1 < (words.length : Int)
     rotate_left
     ·rw [if_neg c7] at H
      exact absurd H (by simp)
     rw [if_pos c7] at H
     have c7b0 : decide (x10_1 < (words.length : Int)) = true := decide_eq_true c7
     by_cases c8 : x5_1.length < 8796093022208
     rotate_left
     ·rw [if_neg c8] at H
      exact absurd H (by simp)
     rw [if_pos c8] at H
     have LMc8 := Aside0.mk c8
     clear c8
     obtain ⟨ad178, e178, hx178_0⟩ := Kd.at_string HRW.out x10_1 c4 c7
     cases e178
     replace hx178_0 := (HB.out.cell (World.block_lt_of_cell? w _ hx178_0)).trans hx178_0
     have q178 := eq_true c7
     have H' := Aside0.mk H
     clear H c7 c4
     go_wp2_with (first | ((with_reducible refine gate_builtin (b := .append) (xs := #[.tmp 17, .tmp 22]) rfl ?_); at_builtin; refine Kd.R_append Kd.string (w0 := w) w.heap.size rfl (.tmp 17) (.tmp 22) 38 9 (.string ⟨#[]⟩) 16 rfl Try.underlying38 info9 rfl (by decide) (by omega) u5 x5_1 (rdOf ByteArray.empty words x10_1) [.string (rdOf ByteArray.empty words x10_1)] (fun _ => True) (fun _ => False) rfl rfl ?aP (fun _ hk => hk.elim) ?aF ?aO ?aB ?aS ?aL ?_; (case aP => exact rfl); (case aB => exact sq_b); (case aF => exact (fun _ _ => trivial)); (case aO => exact (sq_r HO_5)); (case aS => exact (below_size sq_b)); (case aL => have := LMc8.out; omega); intro v180 w9 ho hb hg hat; have n0_ := Aside0.mk (hb); have n1_ := Aside0.mk (ho); clear HB; clear HO_5; have HB := n0_; have HO181 := n1_; clear n0_ n1_; clear ho hb hg hat))
     go_roundg k1
     case measure => have := HK1.out; omega
     case rel => exact ⟨_, (wrap64 (x10_1 + 1)), sq_e, H', ⟨by have := HK1.out; omega⟩, ⟨by (with_reducible repeat (first | apply Kd.R_alloc | apply Kd.R_drewN | apply Kd.R_drew)); exact HO181.out⟩, ⟨sq_b⟩⟩
    ·rw [if_neg c6] at H
     have c6b0 : ((rd l0 x10_1) == 1) = false := beq_eq_false_iff_ne.mpr c6
     have H' := Aside0.mk H
     clear H c6 c4
     go_wp2
     go_roundg k1
     case measure => have := HK1.out; omega
     case rel => exact ⟨(x5_1), (wrap64 (x10_1 + 1)), sq_e, H', ⟨by have := HK1.out; omega⟩, ⟨by (with_reducible repeat (first | apply Kd.R_alloc | apply Kd.R_drewN | apply Kd.R_drew)); exact HO_5.out⟩, ⟨sq_b⟩⟩
   ·rw [if_neg c3] at H
    have c3b0 : decide (x10_1 < (l0.length : Int)) = false := decide_eq_false c3
    clear c3
    obtain rfl := Option.some.inj H
    have hgq := (HB.out.cell (World.block_lt_of_cell? w _ HGQ.out)).trans HGQ.out
    obtain ⟨A5, c5, rfl, hl5, hC5⟩ := Kd.R_reads HO_5.out
    have HL5 := Aside0.mk hl5
    have HC5 := Aside0.mk hC5
    clear hl5 hC5 H
    go_wp2_with fail
    (with_reducible refine (impl_holds.calls k _ _ q _ _ x5_1 b _ ?s1 ?s2 ?s3 ?s4 HHB.out).mono ?_)
    case s1 => exact Kd.C_below HRQ.out HB.out
    case s2 => exact HCQ.out
    case s3 => exact HC5.out
    case s4 => exact HL5.out
    rintro e w2 ⟨rfl, hb2⟩
    have HB2 := Aside0.mk (below_step HB.out hb2)
    have HRB' := HRB.out
    clear hb2
    go_wp2
    go_ret
    subst HRB'
    exact ⟨rfl, HB2.out⟩

/-! ### impl_fullTerms: function 50 (by hand) -/
def impl_fullTerms.f (k : Nat) (l0 : List S46) : Option (List (List Int)) := (impl_wordsIn.f k l0).bind fun words => (impl_terms.f (words.length : Int) 1).bind fun ts => delM (impl_fullTerms_1.f k words l0) ts
theorem impl_fullTerms_1.mono : ∀ a0 a1 a2 k, LeO (impl_fullTerms_1.f k a0 a1 a2) (impl_fullTerms_1.f (k + 1) a0 a1 a2) := fun a0 a1 a2 k =>
 LeO.bind (spec_l11There.mono a0 a2 k) (fun _ => LeO.bind (impl_holds.mono _ _ k) (fun _ => LeO.refl _))
theorem impl_fullTerms.mono : ∀ a0 k, LeO (impl_fullTerms.f k a0) (impl_fullTerms.f (k + 1) a0) := fun a0 k =>
 LeO.bind (impl_wordsIn.mono a0 k) (fun _ => LeO.bind (LeO.refl _) (fun _ => delM_mono (fun x => impl_fullTerms_1.mono _ _ x k) _))
set_option maxHeartbeats 8000000 in
set_option maxRecDepth 100000 in
theorem impl_fullTerms.calls (k : Nat) (A0 : Option Addr) (c0 : Nat) (l0 : List S46) (r : List (List Int)) (w : World) (hr0 : Kd.C k46 w A0 l0.length l0) (hc0 : l0.length ≤ c0) (h : impl_fullTerms.f k l0 = some r) :
  Calls Try.prog 50 #[.slice A0 l0.length c0] w fun e w' => ∃ v0_ : Value, e = .returned (v0_) ∧ Kd.S (Kd.slice 3 (Kd.int .i64)) 49 w' w.heap.size (fun _ => True) v0_ r ∧ Below w.heap.size w w' := by
 unfold impl_fullTerms.f at h
 obtain ⟨words, hw, h⟩ := Option.bind_eq_some_iff.mp h
 obtain ⟨ts, ht, h⟩ := Option.bind_eq_some_iff.mp h
 have HR0 := Aside0.mk hr0
 have HC0 := Aside0.mk hc0
 have HW := Aside0.mk hw
 have HT := Aside0.mk ht
 have HD := Aside0.mk h
 clear hr0 hc0 hw ht h
 go_enter Try.func50, Try.ntmps50
 go_wp2_with fail
 (with_reducible refine (impl_wordsIn.calls k _ _ l0 words _ ?s1 ?s2 HW.out).mono ?_)
 case s1 => exact Kd.C_below HR0.out (below_alloc (Below.refl _ _) _)
 case s2 => exact HC0.out
 rintro e w1 ⟨v1, rfl, ho1, hb1⟩
 have HB1 := Aside0.mk (below_step (below_alloc (Below.refl w.heap.size w) _) hb1)
 have HBB := Aside0.mk hb1
 obtain ⟨A1, c1, rfl⟩ := Kd.R_slice ho1
 have HO1 := Aside0.mk ho1
 have hq1 : w1.cell? ⟨w.heap.size, 0, none⟩ = some (.slice A0 l0.length c0) := (hb1.cell (by simp)).trans (by simp)
 clear ho1 hb1
 go_wp2_with fail
 have hX1 : (w1.alloc (.cells #[.slice A1 words.length c1] 38)).cell? ⟨w1.heap.size, 0, none⟩ = some (.slice A1 words.length c1) := by simp
 have hX2 : (w1.alloc (.cells #[.slice A1 words.length c1] 38)).cell? ⟨w.heap.size, 0, none⟩ = some (.slice A0 l0.length c0) := (World.cell?_alloc_lt _ _ _ (World.block_lt_of_cell? w1 _ hq1)).trans hq1
 have hX3 := Kd.C_below (Kd.R_reads' HO1.out).2.2 (below_alloc (Below.refl w1.heap.size w1) (.cells #[.slice A1 words.length c1] 38))
 have hX4 := Kd.C_below HR0.out (below_alloc HB1.out (.cells #[.slice A1 words.length c1] 38))
 have hX5 := below_alloc HB1.out (.cells #[.slice A1 words.length c1] 38)
 have HCW := Aside0.mk (Kd.R_reads' HO1.out).2.1
 obtain ⟨wX, hwX⟩ : ∃ wX, wX = w1.alloc (.cells #[.slice A1 words.length c1] 38) := ⟨_, rfl⟩
 rw [← hwX] at hX1 hX2 hX3 hX4 hX5 ⊢
 have HX1 := Aside0.mk hX1
 have HX2 := Aside0.mk hX2
 have HX3 := Aside0.mk hX3
 have HX4 := Aside0.mk hX4
 have HX5 := Aside0.mk hX5
 clear hX1 hX2 hX3 hX4 hX5 hwX hq1 HB1 HBB HO1
 (with_reducible refine (impl_terms.calls _ _ ts wX HT.out).mono ?_)
 rintro e w2 ⟨v2, rfl, ho2, hb2⟩
 obtain ⟨f, hR2⟩ := ho2
 have HR2 := Aside0.mk hR2
 have HB2 := Aside0.mk hb2
 clear hR2 hb2
 go_wp2_with fail
 (with_reducible refine (slices_DeleteFunc_int_int.calls (Kd.tag f (Kd.slice 3 (Kd.int .i64))) ?z1 ([], 0) ?z2 ?z3 (fun x => (impl_fullTerms_1.f k words l0 x.1).getD false) _ _ (fun _ => True) v2 ts.zipIdx wX w2 HB2.out HR2.out ?z4 ?z5).mono ?_)
 case z1 => rfl
 case z2 => exact fun W base => ⟨_, rfl, Kd.R_nil _ _ _ _ _⟩
 case z3 =>
  rintro W base ok x u ⟨v, hv, hr⟩
  obtain ⟨A, c, rfl⟩ := Kd.R_slice hr
  injection hv with hv _
  exact ⟨_, _, _, hv⟩
 case z4 => exact fun args W => enters_ Try.func85 (by kernel_rfl) rfl args W
 case z5 =>
  rintro x hx u W ⟨v, hv, hr⟩ hK hB
  obtain ⟨A, c, rfl, hl, hC⟩ := Kd.R_reads hr
  injection hv with hv _
  subst hv
  have hm : x.1 ∈ ts := by
   have := List.mem_map_of_mem (f := Prod.fst) hx
   rwa [List.zipIdx_map_fst] at this
  obtain ⟨b, hb⟩ := delM_all _ _ _ HD.out x.1 hm
  refine calls_of_args ?_ ((impl_fullTerms_1.calls k A c x.1 w1.heap.size w.heap.size A1 c1 words A0 c0 l0 b W hC hl ((hB.cell (World.block_lt_of_cell? wX _ HX1.out)).trans HX1.out) (Kd.C_below HX3.out hB) HCW.out ((hB.cell (World.block_lt_of_cell? wX _ HX2.out)).trans HX2.out) (Kd.C_below HX4.out hB) HC0.out hb).mono ?_)
  ·rfl
  ·rintro e w3 ⟨rfl, hb3⟩
   exact ⟨by show Ending.returned (Value.bool b) = _; rw [hb]; rfl, hb3⟩
 rintro e w3 ⟨v3, rfl, ho3, hb3, hk3⟩
 have hS := S_of_tagged ho3 (nodup_filter_zip _ _)
 rw [zip_filter_fst ts (fun t => !((impl_fullTerms_1.f k words l0 t).getD false)), ← delM_eq _ _ ts r HD.out (fun x b hx => by rw [hx]; rfl)] at hS
 have HS := Aside0.mk (Kd.S_lower hS HX5.out.size)
 have HB3 := Aside0.mk (below_step HX5.out hb3)
 clear ho3 hb3 hk3 hS
 go_wp2
 go_ret
 exact ⟨_, rfl, HS.out, HB3.out⟩

end Go.Proofs.Ytnolkgfdokijjaa.QFnExactPrimesOf
