-- Written by this session's own program (wip/pp_patch.py, wip/pp.sh) out of the given translation. Not trusted: Lean checks it.
import Derived.Test.YtkoackkimdanjaaQFnLegsx0
import Derived.Test.YtkoackkimdanjaaQFnLegsx1
import Derived.Test.YtkoackkimdanjaaQFnLegsx2
import Derived.Test.YtkoackkimdanjaaQFnLegsx3
import Derived.Test.YtkoackkimdanjaaQFnLegsx5
import Derived.Test.YtkoackkimdanjaaQFnLegsx6
import Derived.Test.YtkoackkimdanjaaQFnLegsx8
import Derived.Test.YtkoackkimdanjaaQFnLegsx10
import Derived.Test.YtkoackkimdanjaaQFnLegsx11
import Derived.Test.YtkoackkimdanjaaQFnLegsx13
import Derived.Test.YtkoackkimdanjaaQFnLegsx14
import Derived.Test.YtkoackkimdanjaaQFnLegsx15
namespace Go.Proofs.Ytkoackkimdanjaa.QFnLegs
open Go.RowKit Go.Proofs.YtkoackkimdanjaaW.PrintWords Go.Proofs.YtkoackkimdanjaaW.PrintLast Go.Proofs.YtkoackkimdanjaaW.PrintMore
attribute [local go_sem] max2_int min2_int max_two min_two max_three min_three max_four min_four   -- for this text's walks alone
open Go.Proofs.Ytkoackkimdanjaa.Ext
attribute [local go_sem high] ext_gtr ext_leq
set_option linter.unusedVariables false
set_option linter.unusedSimpArgs false

attribute [local go_sem high] eqA48
/-! ### laws_FnLegs: function 8 -/
theorem laws_FnLegs.no_j0 {r : Bool} : ∀ k a0 a1 a2 a3, laws_FnLegs.j0 k a0 a1 a2 a3 true = some r → ¬ r = true
 | 0, a0, a1, a2, a3, h => by simp [laws_FnLegs.j0] at h
 | k + 1, a0, a1, a2, a3, h => by simp [laws_FnLegs.j0] at h; simp [← h]
theorem laws_FnLegs.no_j2 {r : Bool} : ∀ k a0 a1 a2 a3 a4, laws_FnLegs.j2 k a0 a1 a2 true a3 a4 = some r → ¬ r = true
 | 0, a0, a1, a2, a3, a4, h => by simp [laws_FnLegs.j2] at h
 | k + 1, a0, a1, a2, a3, a4, h => by simp [laws_FnLegs.j2] at h; simp [← h]
theorem laws_FnLegs.no_j3 {r : Bool} : ∀ k a0 a1 a2 a3 a4, laws_FnLegs.j3 k a0 a1 a2 true a3 a4 = some r → ¬ r = true
 | 0, a0, a1, a2, a3, a4, h => by simp [laws_FnLegs.j3] at h
 | k + 1, a0, a1, a2, a3, a4, h => by simp [laws_FnLegs.j3] at h; simp [← h]
set_option maxHeartbeats 80000000 in
set_option maxRecDepth 100000 in
theorem laws_FnLegs.calls (k : Nat) (A0 : Option Addr) (c0 : Nat) (l0 : List Int) (A1 : Option Addr) (c1 : Nat) (l1 : List Int) (r : Bool) (hrt : r = true) (w : World) (hr0 : Kd.C (Kd.int .u8) w A0 l0.length l0) (hc0 : l0.length ≤ c0) (hr1 : Kd.C (Kd.int .u8) w A1 l1.length l1) (hc1 : l1.length ≤ c1) (h : laws_FnLegs.f k l0 l1 = some r) :
  Calls Try.prog 8 #[.slice A0 l0.length c0, .slice A1 l1.length c1] w fun e w' => e = .returned (.bool r) ∧ Below w.heap.size w w' := by
 have hu48 := Try.underlying48
 have HR0 := mk_ hr0
 have HC0 := mk_ hc0
 clear hr0 hc0
 have HR1 := mk_ hr1
 have HC1 := mk_ hc1
 clear hr1 hc1
 have HB := mk_ (Below.refl w.heap.size w)
 have H : (if (wrap64 ((l0.length : Int) + (l1.length : Int))) > 1048576 then (some true) else ((spec_DrawBuildLegs.f k l0).bind fun t399 => ((impl_BuildLegs.f k t399).bind fun bt402 => ((spec_BuildLegs.f k t399).bind fun bt406 => (if (bt402.2 != bt406.2) = true then (laws_FnLegs.j0 k l1 t399 bt402.1 bt402.2 true) else ((laws_sameLegs.f k bt402.1 bt406.1).bind fun t410 => (if t410 = true then ((impl_GoodEntries.f k t399).bind fun t411 => ((spec_GoodEntries.f k t399).bind fun t412 => (laws_FnLegs.j0 k l1 t399 bt402.1 bt402.2 (t411 != t412)))) else (laws_FnLegs.j0 k l1 t399 bt402.1 bt402.2 true)))))))) = some r := h
 clear h
 by_cases c3 : (wrap64 ((l0.length : Int) + (l1.length : Int))) > 1048576
 ·rw [if_pos c3] at H
  have c3b0 : decide (1048576 < (wrap64 ((l0.length : Int) + (l1.length : Int)))) = true := decide_eq_true c3
  clear c3
  obtain rfl := Option.some.inj H
  go_enter Try.func8, Try.ntmps8
  go_wp2
  repeat (go_quiet (fail); try go_wp2)
  go_ret
  exact ⟨sq_w, sq_b⟩
 ·rw [if_neg c3] at H
  have c3b0 : decide (1048576 < (wrap64 ((l0.length : Int) + (l1.length : Int)))) = false := decide_eq_false c3
  clear c3
  replace H := Option.bind_eq_some_iff.mp H
  obtain ⟨t399, A40, H⟩ := H
  replace H : ((impl_BuildLegs.f k t399).bind fun bt402 => ((spec_BuildLegs.f k t399).bind fun bt406 => (if (bt402.2 != bt406.2) = true then (laws_FnLegs.j0 k l1 t399 bt402.1 bt402.2 true) else ((laws_sameLegs.f k bt402.1 bt406.1).bind fun t410 => (if t410 = true then ((impl_GoodEntries.f k t399).bind fun t411 => ((spec_GoodEntries.f k t399).bind fun t412 => (laws_FnLegs.j0 k l1 t399 bt402.1 bt402.2 (t411 != t412)))) else (laws_FnLegs.j0 k l1 t399 bt402.1 bt402.2 true)))))) = some r := H
  have A4 := mk_ A40
  clear A40
  replace H := Option.bind_eq_some_iff.mp H
  obtain ⟨⟨t402, t403⟩, A50, H⟩ := H
  replace H : ((spec_BuildLegs.f k t399).bind fun bt406 => (if (t403 != bt406.2) = true then (laws_FnLegs.j0 k l1 t399 t402 t403 true) else ((laws_sameLegs.f k t402 bt406.1).bind fun t410 => (if t410 = true then ((impl_GoodEntries.f k t399).bind fun t411 => ((spec_GoodEntries.f k t399).bind fun t412 => (laws_FnLegs.j0 k l1 t399 t402 t403 (t411 != t412)))) else (laws_FnLegs.j0 k l1 t399 t402 t403 true))))) = some r := H
  have A5 := mk_ A50
  clear A50
  replace H := Option.bind_eq_some_iff.mp H
  obtain ⟨⟨t406, t407⟩, A60, H⟩ := H
  replace H : (if (t403 != t407) = true then (laws_FnLegs.j0 k l1 t399 t402 t403 true) else ((laws_sameLegs.f k t402 t406).bind fun t410 => (if t410 = true then ((impl_GoodEntries.f k t399).bind fun t411 => ((spec_GoodEntries.f k t399).bind fun t412 => (laws_FnLegs.j0 k l1 t399 t402 t403 (t411 != t412)))) else (laws_FnLegs.j0 k l1 t399 t402 t403 true)))) = some r := H
  have A6 := mk_ A60
  clear A60
  have HC7 := mk_ H
  clear H
  go_enter Try.func8, Try.ntmps8
  go_upto_region 6 with (first | (go_at_call 33; (with_reducible refine (spec_DrawBuildLegs.calls k _ _ l0 t399 _ ?side1 ?side2 A4.out).mono ?_); (case side1 => exact sq_c HR0.out); (case side2 => exact HC0.out); rintro e w8 ⟨v400, rfl, ho0, hb⟩; have n0_ := mk_ (Kd.R_lower ho0 (below_size sq_b)); have n1_ := mk_ (below_step sq_b hb); clear HB; have HO401 := n0_; have HB := n1_; clear n0_ n1_; (try clear hb); (try clear ho0); obtain ⟨Ao9, co9, eo9⟩ := Kd.R_slice HO401.out; subst eo9) | (go_at_call 14; (with_reducible refine (impl_BuildLegs.calls k _ _ t399 t402 t403 _ ?side1 ?side2 A5.out).mono ?_); (case side1 => exact sq_c (Kd.R_reads' HO401.out).2.2); (case side2 => exact (Kd.R_reads' HO401.out).2.1); rintro e w10 ⟨v404, rfl, ho0, hb⟩; have n0_ := mk_ (Kd.R_below (sq_r HO401) hb); have n1_ := mk_ (Kd.S_lower ho0 (below_size sq_b)); have n2_ := mk_ (below_step sq_b hb); clear HO401 HB; have HO401 := n0_; have HO405 := n1_; have HB := n2_; clear n0_ n1_ n2_; (try clear hb); (try clear ho0)) | (go_at_call 12; (with_reducible refine (spec_BuildLegs.calls k _ _ t399 t406 t407 _ ?side1 ?side2 A6.out).mono ?_); (case side1 => exact sq_c (Kd.R_reads' HO401.out).2.2); (case side2 => exact (Kd.R_reads' HO401.out).2.1); rintro e w11 ⟨v408, rfl, ho0, hb⟩; have n0_ := mk_ (Kd.R_below (sq_r HO401) hb); have n1_ := mk_ (Kd.S_elder' (sq_s HO405) (Kd.S_base ho0) hb); have n2_ := mk_ (Kd.S_lower (Kd.S_new' ho0 (Kd.S_lt (sq_s HO405))) (below_size sq_b)); have n3_ := mk_ (below_step sq_b hb); clear HO401 HO405 HB; have HO401 := n0_; have HO405 := n1_; have HO409 := n2_; have HB := n3_; clear n0_ n1_ n2_ n3_; (try clear hb); (try clear ho0)))
  repeat (go_quiet (first | (go_at_call 33; (with_reducible refine (spec_DrawBuildLegs.calls k _ _ l0 t399 _ ?side1 ?side2 A4.out).mono ?_); (case side1 => exact sq_c HR0.out); (case side2 => exact HC0.out); rintro e w8 ⟨v400, rfl, ho0, hb⟩; have n0_ := mk_ (Kd.R_lower ho0 (below_size sq_b)); have n1_ := mk_ (below_step sq_b hb); clear HB; have HO401 := n0_; have HB := n1_; clear n0_ n1_; (try clear hb); (try clear ho0); obtain ⟨Ao9, co9, eo9⟩ := Kd.R_slice HO401.out; subst eo9) | (go_at_call 14; (with_reducible refine (impl_BuildLegs.calls k _ _ t399 t402 t403 _ ?side1 ?side2 A5.out).mono ?_); (case side1 => exact sq_c (Kd.R_reads' HO401.out).2.2); (case side2 => exact (Kd.R_reads' HO401.out).2.1); rintro e w10 ⟨v404, rfl, ho0, hb⟩; have n0_ := mk_ (Kd.R_below (sq_r HO401) hb); have n1_ := mk_ (Kd.S_lower ho0 (below_size sq_b)); have n2_ := mk_ (below_step sq_b hb); clear HO401 HB; have HO401 := n0_; have HO405 := n1_; have HB := n2_; clear n0_ n1_ n2_; (try clear hb); (try clear ho0)) | (go_at_call 12; (with_reducible refine (spec_BuildLegs.calls k _ _ t399 t406 t407 _ ?side1 ?side2 A6.out).mono ?_); (case side1 => exact sq_c (Kd.R_reads' HO401.out).2.2); (case side2 => exact (Kd.R_reads' HO401.out).2.1); rintro e w11 ⟨v408, rfl, ho0, hb⟩; have n0_ := mk_ (Kd.R_below (sq_r HO401) hb); have n1_ := mk_ (Kd.S_elder' (sq_s HO405) (Kd.S_base ho0) hb); have n2_ := mk_ (Kd.S_lower (Kd.S_new' ho0 (Kd.S_lt (sq_s HO405))) (below_size sq_b)); have n3_ := mk_ (below_step sq_b hb); clear HO401 HO405 HB; have HO401 := n0_; have HO405 := n1_; have HO409 := n2_; have HB := n3_; clear n0_ n1_ n2_ n3_; (try clear hb); (try clear ho0))); go_upto_region 6 with (first | (go_at_call 33; (with_reducible refine (spec_DrawBuildLegs.calls k _ _ l0 t399 _ ?side1 ?side2 A4.out).mono ?_); (case side1 => exact sq_c HR0.out); (case side2 => exact HC0.out); rintro e w8 ⟨v400, rfl, ho0, hb⟩; have n0_ := mk_ (Kd.R_lower ho0 (below_size sq_b)); have n1_ := mk_ (below_step sq_b hb); clear HB; have HO401 := n0_; have HB := n1_; clear n0_ n1_; (try clear hb); (try clear ho0); obtain ⟨Ao9, co9, eo9⟩ := Kd.R_slice HO401.out; subst eo9) | (go_at_call 14; (with_reducible refine (impl_BuildLegs.calls k _ _ t399 t402 t403 _ ?side1 ?side2 A5.out).mono ?_); (case side1 => exact sq_c (Kd.R_reads' HO401.out).2.2); (case side2 => exact (Kd.R_reads' HO401.out).2.1); rintro e w10 ⟨v404, rfl, ho0, hb⟩; have n0_ := mk_ (Kd.R_below (sq_r HO401) hb); have n1_ := mk_ (Kd.S_lower ho0 (below_size sq_b)); have n2_ := mk_ (below_step sq_b hb); clear HO401 HB; have HO401 := n0_; have HO405 := n1_; have HB := n2_; clear n0_ n1_ n2_; (try clear hb); (try clear ho0)) | (go_at_call 12; (with_reducible refine (spec_BuildLegs.calls k _ _ t399 t406 t407 _ ?side1 ?side2 A6.out).mono ?_); (case side1 => exact sq_c (Kd.R_reads' HO401.out).2.2); (case side2 => exact (Kd.R_reads' HO401.out).2.1); rintro e w11 ⟨v408, rfl, ho0, hb⟩; have n0_ := mk_ (Kd.R_below (sq_r HO401) hb); have n1_ := mk_ (Kd.S_elder' (sq_s HO405) (Kd.S_base ho0) hb); have n2_ := mk_ (Kd.S_lower (Kd.S_new' ho0 (Kd.S_lt (sq_s HO405))) (below_size sq_b)); have n3_ := mk_ (below_step sq_b hb); clear HO401 HO405 HB; have HO401 := n0_; have HO405 := n1_; have HO409 := n2_; have HB := n3_; clear n0_ n1_ n2_ n3_; (try clear hb); (try clear ho0))))
  (try simp only [Act.put, List.setIfInBounds_toArray, List.set_cons_zero, List.set_cons_succ])
  go_cut [67] (fun v67 wc => ∃ (kq : Nat) (x67_6 : Bool), v67 = .bool x67_6 ∧ Aside0 (laws_FnLegs.j0 kq l1 t399 t402 t403 x67_6 = some r) ∧ Aside0 (kq ≤ k) ∧ Aside0 (Kd.R k48 48 wc w.heap.size (fun _ => True) (.slice Ao9 t399.length co9) t399) ∧ Aside0 (Kd.S k59 59 wc w.heap.size (fun _ => True) v404 t402) ∧ Aside0 (Below w.heap.size w wc))
  case first => as_aux_lemma =>
   have H := HC7.out
   clear HC7
   by_cases c12 : (t403 != t407) = true
   ·rw [if_pos c12] at H
    have c12b0 : (t403 != t407) = true := c12
    (try (have c12b1 : decide (t403 = t407) = false := by simpa using c12))
    (try (have c12b2 : (t403 == t407) = false := by simpa using c12))
    (try (have c12b3 : ¬ (t403 = t407) := by simpa using c12))
    clear c12
    (first | rw [c12b0] | (simp only [i64_w, i32_w]; rw [c12b0]) | skip)
    exact absurd hrt (laws_FnLegs.no_j0 _ _ _ _ _ H)
   ·rw [if_neg c12] at H
    have c12b0 : (t403 != t407) = false := by simpa using c12
    (try (have c12b1 : decide (t403 = t407) = true := by simpa using c12))
    (try (have c12b2 : (t403 == t407) = true := by simpa using c12))
    clear c12
    (first | rw [c12b0] | (simp only [i64_w, i32_w]; rw [c12b0]) | skip)
    replace H := Option.bind_eq_some_iff.mp H
    obtain ⟨t410, A130, H⟩ := H
    replace H : (if t410 = true then ((impl_GoodEntries.f k t399).bind fun t411 => ((spec_GoodEntries.f k t399).bind fun t412 => (laws_FnLegs.j0 k l1 t399 t402 t403 (t411 != t412)))) else (laws_FnLegs.j0 k l1 t399 t402 t403 true)) = some r := H
    have A13 := mk_ A130
    clear A130
    by_cases c14 : t410 = true
    ·subst c14
     have H1 : ((impl_GoodEntries.f k t399).bind fun t411 => ((spec_GoodEntries.f k t399).bind fun t412 => (laws_FnLegs.j0 k l1 t399 t402 t403 (t411 != t412)))) = some r := by rw [if_pos rfl] at H; exact H
     clear H
     have H := H1
     clear H1
     replace H := Option.bind_eq_some_iff.mp H
     obtain ⟨t411, A150, H⟩ := H
     replace H : ((spec_GoodEntries.f k t399).bind fun t412 => (laws_FnLegs.j0 k l1 t399 t402 t403 (t411 != t412))) = some r := H
     have A15 := mk_ A150
     clear A150
     replace H := Option.bind_eq_some_iff.mp H
     obtain ⟨t412, A160, H⟩ := H
     replace H : (laws_FnLegs.j0 k l1 t399 t402 t403 (t411 != t412)) = some r := H
     have A16 := mk_ A160
     clear A160
     have H' := mk_ H
     clear H
     obtain ⟨Ao17, co17, eo17⟩ := Kd.S_slice HO405.out
     subst eo17
     obtain ⟨Ao18, co18, eo18⟩ := Kd.S_slice HO409.out
     subst eo18
     go_wp2_with (first | (go_at_call 34; (with_reducible refine (laws_sameLegs.calls k _ _ t402 _ _ t406 true _ ?side1 ?side2 ?side3 ?side4 A13.out).mono ?_); (case side1 => exact sq_c (Kd.S_reads' HO405.out).2.2); (case side2 => exact (Kd.S_reads' HO405.out).2.1); (case side3 => exact sq_c (Kd.S_reads' HO409.out).2.2); (case side4 => exact (Kd.S_reads' HO409.out).2.1); rintro e w19 ⟨rfl, hb⟩; have n0_ := mk_ (Kd.R_below (sq_r HO401) hb); have n1_ := mk_ (Kd.S_below (sq_s HO405) hb); have n2_ := mk_ (Kd.S_below (sq_s HO409) hb); have n3_ := mk_ (below_step sq_b hb); clear HO401 HO405 HO409 HB; have HO401 := n0_; have HO405 := n1_; have HO409 := n2_; have HB := n3_; clear n0_ n1_ n2_ n3_; (try clear hb)) | (go_at_call 35; (with_reducible refine (impl_GoodEntries.calls k _ _ t399 t411 _ ?side1 ?side2 A15.out).mono ?_); (case side1 => exact sq_c (Kd.R_reads' HO401.out).2.2); (case side2 => exact (Kd.R_reads' HO401.out).2.1); rintro e w20 ⟨rfl, hb⟩; have n0_ := mk_ (Kd.R_below (sq_r HO401) hb); have n1_ := mk_ (Kd.S_below (sq_s HO405) hb); have n2_ := mk_ (Kd.S_below (sq_s HO409) hb); have n3_ := mk_ (below_step sq_b hb); clear HO401 HO405 HO409 HB; have HO401 := n0_; have HO405 := n1_; have HO409 := n2_; have HB := n3_; clear n0_ n1_ n2_ n3_; (try clear hb)) | (go_at_call 36; (with_reducible refine (spec_GoodEntries.calls k _ _ t399 t412 _ ?side1 ?side2 A16.out).mono ?_); (case side1 => exact sq_c (Kd.R_reads' HO401.out).2.2); (case side2 => exact (Kd.R_reads' HO401.out).2.1); rintro e w21 ⟨rfl, hb⟩; have n0_ := mk_ (Kd.R_below (sq_r HO401) hb); have n1_ := mk_ (Kd.S_below (sq_s HO405) hb); have n2_ := mk_ (Kd.S_below (sq_s HO409) hb); have n3_ := mk_ (below_step sq_b hb); clear HO401 HO405 HO409 HB; have HO401 := n0_; have HO405 := n1_; have HO409 := n2_; have HB := n3_; clear n0_ n1_ n2_ n3_; (try clear hb)))
     repeat (go_quiet (first | (go_at_call 34; (with_reducible refine (laws_sameLegs.calls k _ _ t402 _ _ t406 true _ ?side1 ?side2 ?side3 ?side4 A13.out).mono ?_); (case side1 => exact sq_c (Kd.S_reads' HO405.out).2.2); (case side2 => exact (Kd.S_reads' HO405.out).2.1); (case side3 => exact sq_c (Kd.S_reads' HO409.out).2.2); (case side4 => exact (Kd.S_reads' HO409.out).2.1); rintro e w19 ⟨rfl, hb⟩; have n0_ := mk_ (Kd.R_below (sq_r HO401) hb); have n1_ := mk_ (Kd.S_below (sq_s HO405) hb); have n2_ := mk_ (Kd.S_below (sq_s HO409) hb); have n3_ := mk_ (below_step sq_b hb); clear HO401 HO405 HO409 HB; have HO401 := n0_; have HO405 := n1_; have HO409 := n2_; have HB := n3_; clear n0_ n1_ n2_ n3_; (try clear hb)) | (go_at_call 35; (with_reducible refine (impl_GoodEntries.calls k _ _ t399 t411 _ ?side1 ?side2 A15.out).mono ?_); (case side1 => exact sq_c (Kd.R_reads' HO401.out).2.2); (case side2 => exact (Kd.R_reads' HO401.out).2.1); rintro e w20 ⟨rfl, hb⟩; have n0_ := mk_ (Kd.R_below (sq_r HO401) hb); have n1_ := mk_ (Kd.S_below (sq_s HO405) hb); have n2_ := mk_ (Kd.S_below (sq_s HO409) hb); have n3_ := mk_ (below_step sq_b hb); clear HO401 HO405 HO409 HB; have HO401 := n0_; have HO405 := n1_; have HO409 := n2_; have HB := n3_; clear n0_ n1_ n2_ n3_; (try clear hb)) | (go_at_call 36; (with_reducible refine (spec_GoodEntries.calls k _ _ t399 t412 _ ?side1 ?side2 A16.out).mono ?_); (case side1 => exact sq_c (Kd.R_reads' HO401.out).2.2); (case side2 => exact (Kd.R_reads' HO401.out).2.1); rintro e w21 ⟨rfl, hb⟩; have n0_ := mk_ (Kd.R_below (sq_r HO401) hb); have n1_ := mk_ (Kd.S_below (sq_s HO405) hb); have n2_ := mk_ (Kd.S_below (sq_s HO409) hb); have n3_ := mk_ (below_step sq_b hb); clear HO401 HO405 HO409 HB; have HO401 := n0_; have HO405 := n1_; have HO409 := n2_; have HB := n3_; clear n0_ n1_ n2_ n3_; (try clear hb))); try go_wp2_with (first | (go_at_call 34; (with_reducible refine (laws_sameLegs.calls k _ _ t402 _ _ t406 true _ ?side1 ?side2 ?side3 ?side4 A13.out).mono ?_); (case side1 => exact sq_c (Kd.S_reads' HO405.out).2.2); (case side2 => exact (Kd.S_reads' HO405.out).2.1); (case side3 => exact sq_c (Kd.S_reads' HO409.out).2.2); (case side4 => exact (Kd.S_reads' HO409.out).2.1); rintro e w19 ⟨rfl, hb⟩; have n0_ := mk_ (Kd.R_below (sq_r HO401) hb); have n1_ := mk_ (Kd.S_below (sq_s HO405) hb); have n2_ := mk_ (Kd.S_below (sq_s HO409) hb); have n3_ := mk_ (below_step sq_b hb); clear HO401 HO405 HO409 HB; have HO401 := n0_; have HO405 := n1_; have HO409 := n2_; have HB := n3_; clear n0_ n1_ n2_ n3_; (try clear hb)) | (go_at_call 35; (with_reducible refine (impl_GoodEntries.calls k _ _ t399 t411 _ ?side1 ?side2 A15.out).mono ?_); (case side1 => exact sq_c (Kd.R_reads' HO401.out).2.2); (case side2 => exact (Kd.R_reads' HO401.out).2.1); rintro e w20 ⟨rfl, hb⟩; have n0_ := mk_ (Kd.R_below (sq_r HO401) hb); have n1_ := mk_ (Kd.S_below (sq_s HO405) hb); have n2_ := mk_ (Kd.S_below (sq_s HO409) hb); have n3_ := mk_ (below_step sq_b hb); clear HO401 HO405 HO409 HB; have HO401 := n0_; have HO405 := n1_; have HO409 := n2_; have HB := n3_; clear n0_ n1_ n2_ n3_; (try clear hb)) | (go_at_call 36; (with_reducible refine (spec_GoodEntries.calls k _ _ t399 t412 _ ?side1 ?side2 A16.out).mono ?_); (case side1 => exact sq_c (Kd.R_reads' HO401.out).2.2); (case side2 => exact (Kd.R_reads' HO401.out).2.1); rintro e w21 ⟨rfl, hb⟩; have n0_ := mk_ (Kd.R_below (sq_r HO401) hb); have n1_ := mk_ (Kd.S_below (sq_s HO405) hb); have n2_ := mk_ (Kd.S_below (sq_s HO409) hb); have n3_ := mk_ (below_step sq_b hb); clear HO401 HO405 HO409 HB; have HO401 := n0_; have HO405 := n1_; have HO409 := n2_; have HB := n3_; clear n0_ n1_ n2_ n3_; (try clear hb))))
     go_meet
     case rel => exact ⟨_, ((t411 != t412)), sq_e, H', ⟨by first | omega | exact Nat.le_refl _⟩, ⟨by (with_reducible repeat (first | apply Kd.R_alloc | apply Kd.R_drewN | apply Kd.R_drew)); exact HO401.out⟩, ⟨by (with_reducible repeat (first | apply Kd.S_alloc | apply Kd.S_drewN | apply Kd.S_drew)); exact Kd.S_mono HO405.out (fun _ hk => trivial)⟩, ⟨sq_b⟩⟩
    ·replace c14 := Bool.eq_false_iff.mpr c14
     subst c14
     have H1 : (laws_FnLegs.j0 k l1 t399 t402 t403 true) = some r := by rw [if_neg (show ¬ (false = true) by decide)] at H; exact H
     clear H
     have H := H1
     clear H1
     exact absurd hrt (laws_FnLegs.no_j0 _ _ _ _ _ H)
  case rest => as_aux_lemma =>
   clear HC7
   (try clear c1); (try clear p2); (try clear c3); (try clear c3b0); (try clear p6); (try clear c8); (try clear c12); (try clear c12b0); (try clear c12b1); (try clear c12b2); (try clear c14)
   obtain ⟨kq, x67_6, rfl, HA, HJ6, HO_5, HO_6, HB⟩ := hcut
   cases kq with
   | zero => exact absurd HA.out (by simp [laws_FnLegs.j0])
   | succ kj6 =>
    have H := HA.out
    clear HA
    simp only [laws_FnLegs.j0] at H
    by_cases c25 : x67_6 = true
    ·subst c25
     have H1 : (some false) = some r := by rw [if_pos rfl] at H; exact H
     clear H
     have H := H1
     clear H1
     obtain rfl := Option.some.inj H
     cases hrt
    ·replace c25 := Bool.eq_false_iff.mpr c25
     subst c25
     have H1 : (if t403 = true then ((impl_EntriesIn.f kj6 t402).bind fun bt413 => ((impl_GoodLegs.f kj6 t402).bind fun t417 => (if t417 = true then (if bt413.2 = true then ((laws_sameEntries.f kj6 bt413.1 t399).bind fun t418 => (if t418 = true then (laws_FnLegs.j1 kj6 l1) else (some false))) else (some false)) else (some false)))) else (laws_FnLegs.j1 kj6 l1)) = some r := by rw [if_neg (show ¬ (false = true) by decide)] at H; exact H
     clear H
     have H := H1
     clear H1
     have HC26 := mk_ H
     clear H
     go_upto_if 68 with (fail)
     repeat (go_quiet (fail); go_upto_if 68 with (fail))
     go_cut [] (fun wc => ∃ (kq : Nat), Aside0 (laws_FnLegs.j1 kq l1 = some r) ∧ Aside0 (kq ≤ kj6) ∧ Aside0 (Below w.heap.size w wc))
     case first => as_aux_lemma =>
      have H := HC26.out
      clear HC26
      by_cases c27 : t403 = true
      ·subst c27
       have H1 : ((impl_EntriesIn.f kj6 t402).bind fun bt413 => ((impl_GoodLegs.f kj6 t402).bind fun t417 => (if t417 = true then (if bt413.2 = true then ((laws_sameEntries.f kj6 bt413.1 t399).bind fun t418 => (if t418 = true then (laws_FnLegs.j1 kj6 l1) else (some false))) else (some false)) else (some false)))) = some r := by rw [if_pos rfl] at H; exact H
       clear H
       have H := H1
       clear H1
       replace H := Option.bind_eq_some_iff.mp H
       obtain ⟨⟨t413, t414⟩, A280, H⟩ := H
       replace H : ((impl_GoodLegs.f kj6 t402).bind fun t417 => (if t417 = true then (if t414 = true then ((laws_sameEntries.f kj6 t413 t399).bind fun t418 => (if t418 = true then (laws_FnLegs.j1 kj6 l1) else (some false))) else (some false)) else (some false))) = some r := H
       have A28 := mk_ A280
       clear A280
       replace H := Option.bind_eq_some_iff.mp H
       obtain ⟨t417, A290, H⟩ := H
       replace H : (if t417 = true then (if t414 = true then ((laws_sameEntries.f kj6 t413 t399).bind fun t418 => (if t418 = true then (laws_FnLegs.j1 kj6 l1) else (some false))) else (some false)) else (some false)) = some r := H
       have A29 := mk_ A290
       clear A290
       by_cases c30 : t417 = true
       ·subst c30
        have H1 : (if t414 = true then ((laws_sameEntries.f kj6 t413 t399).bind fun t418 => (if t418 = true then (laws_FnLegs.j1 kj6 l1) else (some false))) else (some false)) = some r := by rw [if_pos rfl] at H; exact H
        clear H
        have H := H1
        clear H1
        by_cases c31 : t414 = true
        ·subst c31
         have H1 : ((laws_sameEntries.f kj6 t413 t399).bind fun t418 => (if t418 = true then (laws_FnLegs.j1 kj6 l1) else (some false))) = some r := by rw [if_pos rfl] at H; exact H
         clear H
         have H := H1
         clear H1
         replace H := Option.bind_eq_some_iff.mp H
         obtain ⟨t418, A320, H⟩ := H
         replace H : (if t418 = true then (laws_FnLegs.j1 kj6 l1) else (some false)) = some r := H
         have A32 := mk_ A320
         clear A320
         by_cases c33 : t418 = true
         ·subst c33
          have H1 : (laws_FnLegs.j1 kj6 l1) = some r := by rw [if_pos rfl] at H; exact H
          clear H
          have H := H1
          clear H1
          have H' := mk_ H
          clear H
          obtain ⟨Ao34, co34, eo34⟩ := Kd.S_slice HO_6.out
          subst eo34
          go_wp2_with (first | (go_at_call 27; (with_reducible refine (impl_EntriesIn.calls kj6 _ _ t402 t413 true _ ?side1 ?side2 A28.out).mono ?_); (case side1 => exact sq_c (Kd.S_reads' HO_6.out).2.2); (case side2 => exact (Kd.S_reads' HO_6.out).2.1); rintro e w35 ⟨v415, rfl, ho0, hb⟩; have n0_ := mk_ (Kd.R_elder' (sq_r HO_5) (Kd.R_base ho0) hb); have n1_ := mk_ (Kd.S_below (sq_s HO_6) hb); have n2_ := mk_ (Kd.R_lower (Kd.R_new' ho0 (Kd.R_lt (sq_r HO_5))) (below_size sq_b)); have n3_ := mk_ (below_step sq_b hb); clear HO_5 HO_6 HB; have HO_5 := n0_; have HO_6 := n1_; have HO416 := n2_; have HB := n3_; clear n0_ n1_ n2_ n3_; (try clear hb); (try clear ho0)) | (go_at_call 23; (with_reducible refine (impl_GoodLegs.calls kj6 _ _ t402 true _ ?side1 ?side2 A29.out).mono ?_); (case side1 => exact sq_c (Kd.S_reads' HO_6.out).2.2); (case side2 => exact (Kd.S_reads' HO_6.out).2.1); rintro e w36 ⟨rfl, hb⟩; have n0_ := mk_ (Kd.R_below (sq_r HO_5) hb); have n1_ := mk_ (Kd.S_below (sq_s HO_6) hb); have n2_ := mk_ (Kd.R_below (sq_r HO416) hb); have n3_ := mk_ (below_step sq_b hb); clear HO_5 HO_6 HO416 HB; have HO_5 := n0_; have HO_6 := n1_; have HO416 := n2_; have HB := n3_; clear n0_ n1_ n2_ n3_; (try clear hb); obtain ⟨Ao37, co37, eo37⟩ := Kd.R_slice HO416.out; subst eo37) | (go_at_call 37; (with_reducible refine (laws_sameEntries.calls kj6 _ _ t413 _ _ t399 true _ ?side1 ?side2 ?side3 ?side4 A32.out).mono ?_); (case side1 => exact sq_c (Kd.R_reads' HO416.out).2.2); (case side2 => exact (Kd.R_reads' HO416.out).2.1); (case side3 => exact sq_c (Kd.R_reads' HO_5.out).2.2); (case side4 => exact (Kd.R_reads' HO_5.out).2.1); rintro e w' ⟨rfl, ⟨nd, rfl⟩⟩; (try first | exact ⟨rfl, _, World.drewN_drewN _ _ _⟩ | exact ⟨rfl, _, Eq.trans (World.drewN_drewN _ _ _) (congrArg (World.drewN _) (Nat.add_assoc _ _ _))⟩)))
          repeat (go_quiet (first | (go_at_call 27; (with_reducible refine (impl_EntriesIn.calls kj6 _ _ t402 t413 true _ ?side1 ?side2 A28.out).mono ?_); (case side1 => exact sq_c (Kd.S_reads' HO_6.out).2.2); (case side2 => exact (Kd.S_reads' HO_6.out).2.1); rintro e w35 ⟨v415, rfl, ho0, hb⟩; have n0_ := mk_ (Kd.R_elder' (sq_r HO_5) (Kd.R_base ho0) hb); have n1_ := mk_ (Kd.S_below (sq_s HO_6) hb); have n2_ := mk_ (Kd.R_lower (Kd.R_new' ho0 (Kd.R_lt (sq_r HO_5))) (below_size sq_b)); have n3_ := mk_ (below_step sq_b hb); clear HO_5 HO_6 HB; have HO_5 := n0_; have HO_6 := n1_; have HO416 := n2_; have HB := n3_; clear n0_ n1_ n2_ n3_; (try clear hb); (try clear ho0)) | (go_at_call 23; (with_reducible refine (impl_GoodLegs.calls kj6 _ _ t402 true _ ?side1 ?side2 A29.out).mono ?_); (case side1 => exact sq_c (Kd.S_reads' HO_6.out).2.2); (case side2 => exact (Kd.S_reads' HO_6.out).2.1); rintro e w36 ⟨rfl, hb⟩; have n0_ := mk_ (Kd.R_below (sq_r HO_5) hb); have n1_ := mk_ (Kd.S_below (sq_s HO_6) hb); have n2_ := mk_ (Kd.R_below (sq_r HO416) hb); have n3_ := mk_ (below_step sq_b hb); clear HO_5 HO_6 HO416 HB; have HO_5 := n0_; have HO_6 := n1_; have HO416 := n2_; have HB := n3_; clear n0_ n1_ n2_ n3_; (try clear hb); obtain ⟨Ao37, co37, eo37⟩ := Kd.R_slice HO416.out; subst eo37) | (go_at_call 37; (with_reducible refine (laws_sameEntries.calls kj6 _ _ t413 _ _ t399 true _ ?side1 ?side2 ?side3 ?side4 A32.out).mono ?_); (case side1 => exact sq_c (Kd.R_reads' HO416.out).2.2); (case side2 => exact (Kd.R_reads' HO416.out).2.1); (case side3 => exact sq_c (Kd.R_reads' HO_5.out).2.2); (case side4 => exact (Kd.R_reads' HO_5.out).2.1); rintro e w' ⟨rfl, ⟨nd, rfl⟩⟩; (try first | exact ⟨rfl, _, World.drewN_drewN _ _ _⟩ | exact ⟨rfl, _, Eq.trans (World.drewN_drewN _ _ _) (congrArg (World.drewN _) (Nat.add_assoc _ _ _))⟩))); try go_wp2_with (first | (go_at_call 27; (with_reducible refine (impl_EntriesIn.calls kj6 _ _ t402 t413 true _ ?side1 ?side2 A28.out).mono ?_); (case side1 => exact sq_c (Kd.S_reads' HO_6.out).2.2); (case side2 => exact (Kd.S_reads' HO_6.out).2.1); rintro e w35 ⟨v415, rfl, ho0, hb⟩; have n0_ := mk_ (Kd.R_elder' (sq_r HO_5) (Kd.R_base ho0) hb); have n1_ := mk_ (Kd.S_below (sq_s HO_6) hb); have n2_ := mk_ (Kd.R_lower (Kd.R_new' ho0 (Kd.R_lt (sq_r HO_5))) (below_size sq_b)); have n3_ := mk_ (below_step sq_b hb); clear HO_5 HO_6 HB; have HO_5 := n0_; have HO_6 := n1_; have HO416 := n2_; have HB := n3_; clear n0_ n1_ n2_ n3_; (try clear hb); (try clear ho0)) | (go_at_call 23; (with_reducible refine (impl_GoodLegs.calls kj6 _ _ t402 true _ ?side1 ?side2 A29.out).mono ?_); (case side1 => exact sq_c (Kd.S_reads' HO_6.out).2.2); (case side2 => exact (Kd.S_reads' HO_6.out).2.1); rintro e w36 ⟨rfl, hb⟩; have n0_ := mk_ (Kd.R_below (sq_r HO_5) hb); have n1_ := mk_ (Kd.S_below (sq_s HO_6) hb); have n2_ := mk_ (Kd.R_below (sq_r HO416) hb); have n3_ := mk_ (below_step sq_b hb); clear HO_5 HO_6 HO416 HB; have HO_5 := n0_; have HO_6 := n1_; have HO416 := n2_; have HB := n3_; clear n0_ n1_ n2_ n3_; (try clear hb); obtain ⟨Ao37, co37, eo37⟩ := Kd.R_slice HO416.out; subst eo37) | (go_at_call 37; (with_reducible refine (laws_sameEntries.calls kj6 _ _ t413 _ _ t399 true _ ?side1 ?side2 ?side3 ?side4 A32.out).mono ?_); (case side1 => exact sq_c (Kd.R_reads' HO416.out).2.2); (case side2 => exact (Kd.R_reads' HO416.out).2.1); (case side3 => exact sq_c (Kd.R_reads' HO_5.out).2.2); (case side4 => exact (Kd.R_reads' HO_5.out).2.1); rintro e w' ⟨rfl, ⟨nd, rfl⟩⟩; (try first | exact ⟨rfl, _, World.drewN_drewN _ _ _⟩ | exact ⟨rfl, _, Eq.trans (World.drewN_drewN _ _ _) (congrArg (World.drewN _) (Nat.add_assoc _ _ _))⟩))))
          go_meet
          case rel => exact ⟨_, H', ⟨by have := HJ6.out; first | omega | exact Nat.le_refl _⟩, ⟨sq_b⟩⟩
         ·replace c33 := Bool.eq_false_iff.mpr c33
          subst c33
          have H1 : (some false) = some r := by rw [if_neg (show ¬ (false = true) by decide)] at H; exact H
          clear H
          have H := H1
          clear H1
          obtain rfl := Option.some.inj H
          cases hrt
        ·replace c31 := Bool.eq_false_iff.mpr c31
         subst c31
         have H1 : (some false) = some r := by rw [if_neg (show ¬ (false = true) by decide)] at H; exact H
         clear H
         have H := H1
         clear H1
         obtain rfl := Option.some.inj H
         cases hrt
       ·replace c30 := Bool.eq_false_iff.mpr c30
        subst c30
        have H1 : (some false) = some r := by rw [if_neg (show ¬ (false = true) by decide)] at H; exact H
        clear H
        have H := H1
        clear H1
        obtain rfl := Option.some.inj H
        cases hrt
      ·replace c27 := Bool.eq_false_iff.mpr c27
       subst c27
       have H1 : (laws_FnLegs.j1 kj6 l1) = some r := by rw [if_neg (show ¬ (false = true) by decide)] at H; exact H
       clear H
       have H := H1
       clear H1
       have H' := mk_ H
       clear H
       go_wp2
       repeat (go_quiet (fail); try go_wp2)
       go_meet
       case rel => exact ⟨_, H', ⟨by have := HJ6.out; first | omega | exact Nat.le_refl _⟩, ⟨sq_b⟩⟩
     case rest => as_aux_lemma =>
      clear HC26
      (try clear c1); (try clear c2); (try clear p2); (try clear c3); (try clear c3b0); (try clear p6); (try clear c8); (try clear c12); (try clear c12b0); (try clear c12b1); (try clear c12b2); (try clear c14); (try clear c25); (try clear c27); (try clear c30); (try clear c31); (try clear c33); (try clear p2); (try clear p6)
      obtain ⟨kq, HA, HJ25, HB⟩ := hcut
      cases kq with
      | zero => exact absurd HA.out (by simp [laws_FnLegs.j1])
      | succ kj25 =>
       have H := HA.out
       clear HA
       simp only [laws_FnLegs.j1] at H
       replace H := Option.bind_eq_some_iff.mp H
       obtain ⟨t419, A480, H⟩ := H
       replace H : ((impl_EntriesIn.f kj25 t419).bind fun bt422 => ((spec_EntriesIn.f kj25 t419).bind fun bt426 => ((spec_DrawPutEntry.f kj25 l1).bind fun bt430 => ((impl_PutEntry.f kj25 bt430.1 bt430.2.1 bt430.2.2).bind fun bt436 => ((spec_PutEntry.f kj25 bt430.1 bt430.2.1 bt430.2.2).bind fun bt440 => (if (bt422.2 != bt426.2) = true then (laws_FnLegs.j2 kj25 bt430.1 bt436.1 bt436.2 true bt430.2.1 bt430.2.2) else ((laws_sameEntries.f kj25 bt422.1 bt426.1).bind fun t444 => (if t444 = true then ((impl_GoodLegs.f kj25 t419).bind fun t445 => (if (t445 != bt422.2) = true then (laws_FnLegs.j2 kj25 bt430.1 bt436.1 bt436.2 true bt430.2.1 bt430.2.2) else (if (bt436.2 != bt440.2) = true then (laws_FnLegs.j2 kj25 bt430.1 bt436.1 bt436.2 true bt430.2.1 bt430.2.2) else ((laws_sameLegs.f kj25 bt436.1 bt440.1).bind fun t446 => (laws_FnLegs.j2 kj25 bt430.1 bt436.1 bt436.2 (!t446) bt430.2.1 bt430.2.2))))) else (laws_FnLegs.j2 kj25 bt430.1 bt436.1 bt436.2 true bt430.2.1 bt430.2.2))))))))) = some r := H
       have A48 := mk_ A480
       clear A480
       replace H := Option.bind_eq_some_iff.mp H
       obtain ⟨⟨t422, t423⟩, A490, H⟩ := H
       replace H : ((spec_EntriesIn.f kj25 t419).bind fun bt426 => ((spec_DrawPutEntry.f kj25 l1).bind fun bt430 => ((impl_PutEntry.f kj25 bt430.1 bt430.2.1 bt430.2.2).bind fun bt436 => ((spec_PutEntry.f kj25 bt430.1 bt430.2.1 bt430.2.2).bind fun bt440 => (if (t423 != bt426.2) = true then (laws_FnLegs.j2 kj25 bt430.1 bt436.1 bt436.2 true bt430.2.1 bt430.2.2) else ((laws_sameEntries.f kj25 t422 bt426.1).bind fun t444 => (if t444 = true then ((impl_GoodLegs.f kj25 t419).bind fun t445 => (if (t445 != t423) = true then (laws_FnLegs.j2 kj25 bt430.1 bt436.1 bt436.2 true bt430.2.1 bt430.2.2) else (if (bt436.2 != bt440.2) = true then (laws_FnLegs.j2 kj25 bt430.1 bt436.1 bt436.2 true bt430.2.1 bt430.2.2) else ((laws_sameLegs.f kj25 bt436.1 bt440.1).bind fun t446 => (laws_FnLegs.j2 kj25 bt430.1 bt436.1 bt436.2 (!t446) bt430.2.1 bt430.2.2))))) else (laws_FnLegs.j2 kj25 bt430.1 bt436.1 bt436.2 true bt430.2.1 bt430.2.2)))))))) = some r := H
       have A49 := mk_ A490
       clear A490
       replace H := Option.bind_eq_some_iff.mp H
       obtain ⟨⟨t426, t427⟩, A500, H⟩ := H
       replace H : ((spec_DrawPutEntry.f kj25 l1).bind fun bt430 => ((impl_PutEntry.f kj25 bt430.1 bt430.2.1 bt430.2.2).bind fun bt436 => ((spec_PutEntry.f kj25 bt430.1 bt430.2.1 bt430.2.2).bind fun bt440 => (if (t423 != t427) = true then (laws_FnLegs.j2 kj25 bt430.1 bt436.1 bt436.2 true bt430.2.1 bt430.2.2) else ((laws_sameEntries.f kj25 t422 t426).bind fun t444 => (if t444 = true then ((impl_GoodLegs.f kj25 t419).bind fun t445 => (if (t445 != t423) = true then (laws_FnLegs.j2 kj25 bt430.1 bt436.1 bt436.2 true bt430.2.1 bt430.2.2) else (if (bt436.2 != bt440.2) = true then (laws_FnLegs.j2 kj25 bt430.1 bt436.1 bt436.2 true bt430.2.1 bt430.2.2) else ((laws_sameLegs.f kj25 bt436.1 bt440.1).bind fun t446 => (laws_FnLegs.j2 kj25 bt430.1 bt436.1 bt436.2 (!t446) bt430.2.1 bt430.2.2))))) else (laws_FnLegs.j2 kj25 bt430.1 bt436.1 bt436.2 true bt430.2.1 bt430.2.2))))))) = some r := H
       have A50 := mk_ A500
       clear A500
       replace H := Option.bind_eq_some_iff.mp H
       obtain ⟨⟨t430, t433, t434⟩, A510, H⟩ := H
       replace H : ((impl_PutEntry.f kj25 t430 t433 t434).bind fun bt436 => ((spec_PutEntry.f kj25 t430 t433 t434).bind fun bt440 => (if (t423 != t427) = true then (laws_FnLegs.j2 kj25 t430 bt436.1 bt436.2 true t433 t434) else ((laws_sameEntries.f kj25 t422 t426).bind fun t444 => (if t444 = true then ((impl_GoodLegs.f kj25 t419).bind fun t445 => (if (t445 != t423) = true then (laws_FnLegs.j2 kj25 t430 bt436.1 bt436.2 true t433 t434) else (if (bt436.2 != bt440.2) = true then (laws_FnLegs.j2 kj25 t430 bt436.1 bt436.2 true t433 t434) else ((laws_sameLegs.f kj25 bt436.1 bt440.1).bind fun t446 => (laws_FnLegs.j2 kj25 t430 bt436.1 bt436.2 (!t446) t433 t434))))) else (laws_FnLegs.j2 kj25 t430 bt436.1 bt436.2 true t433 t434)))))) = some r := H
       have A51 := mk_ A510
       clear A510
       replace H := Option.bind_eq_some_iff.mp H
       obtain ⟨⟨t436, t439⟩, A520, H⟩ := H
       replace H : ((spec_PutEntry.f kj25 t430 t433 t434).bind fun bt440 => (if (t423 != t427) = true then (laws_FnLegs.j2 kj25 t430 t436 t439 true t433 t434) else ((laws_sameEntries.f kj25 t422 t426).bind fun t444 => (if t444 = true then ((impl_GoodLegs.f kj25 t419).bind fun t445 => (if (t445 != t423) = true then (laws_FnLegs.j2 kj25 t430 t436 t439 true t433 t434) else (if (t439 != bt440.2) = true then (laws_FnLegs.j2 kj25 t430 t436 t439 true t433 t434) else ((laws_sameLegs.f kj25 t436 bt440.1).bind fun t446 => (laws_FnLegs.j2 kj25 t430 t436 t439 (!t446) t433 t434))))) else (laws_FnLegs.j2 kj25 t430 t436 t439 true t433 t434))))) = some r := H
       have A52 := mk_ A520
       clear A520
       replace H := Option.bind_eq_some_iff.mp H
       obtain ⟨⟨t440, t443⟩, A530, H⟩ := H
       replace H : (if (t423 != t427) = true then (laws_FnLegs.j2 kj25 t430 t436 t439 true t433 t434) else ((laws_sameEntries.f kj25 t422 t426).bind fun t444 => (if t444 = true then ((impl_GoodLegs.f kj25 t419).bind fun t445 => (if (t445 != t423) = true then (laws_FnLegs.j2 kj25 t430 t436 t439 true t433 t434) else (if (t439 != t443) = true then (laws_FnLegs.j2 kj25 t430 t436 t439 true t433 t434) else ((laws_sameLegs.f kj25 t436 t440).bind fun t446 => (laws_FnLegs.j2 kj25 t430 t436 t439 (!t446) t433 t434))))) else (laws_FnLegs.j2 kj25 t430 t436 t439 true t433 t434)))) = some r := H
       have A53 := mk_ A530
       clear A530
       have HC54 := mk_ H
       clear H
       go_upto_region 18 with (first | (go_at_call 38; (with_reducible refine (spec_DrawEntriesIn.calls kj25 _ _ l1 t419 _ ?side1 ?side2 A48.out).mono ?_); (case side1 => exact sq_c (Kd.C_below HR1.out HB.out)); (case side2 => exact HC1.out); rintro e w55 ⟨v420, rfl, ho0, hb⟩; have n0_ := mk_ (Kd.S_lower ho0 (below_size sq_b)); have n1_ := mk_ (below_step sq_b hb); clear HB; have HO421 := n0_; have HB := n1_; clear n0_ n1_; (try clear hb); (try clear ho0); obtain ⟨Ao56, co56, eo56⟩ := Kd.S_slice HO421.out; subst eo56) | (go_at_call 27; (with_reducible refine (impl_EntriesIn.calls kj25 _ _ t419 t422 t423 _ ?side1 ?side2 A49.out).mono ?_); (case side1 => exact sq_c (Kd.S_reads' HO421.out).2.2); (case side2 => exact (Kd.S_reads' HO421.out).2.1); rintro e w57 ⟨v424, rfl, ho0, hb⟩; have n0_ := mk_ (Kd.S_below (sq_s HO421) hb); have n1_ := mk_ (Kd.R_lower ho0 (below_size sq_b)); have n2_ := mk_ (below_step sq_b hb); clear HO421 HB; have HO421 := n0_; have HO425 := n1_; have HB := n2_; clear n0_ n1_ n2_; (try clear hb); (try clear ho0)) | (go_at_call 26; (with_reducible refine (spec_EntriesIn.calls kj25 _ _ t419 t426 t427 _ ?side1 ?side2 A50.out).mono ?_); (case side1 => exact sq_c (Kd.S_reads' HO421.out).2.2); (case side2 => exact (Kd.S_reads' HO421.out).2.1); rintro e w58 ⟨v428, rfl, ho0, hb⟩; have n0_ := mk_ (Kd.S_below (sq_s HO421) hb); have n1_ := mk_ (Kd.R_elder' (sq_r HO425) (Kd.R_base ho0) hb); have n2_ := mk_ (Kd.R_lower (Kd.R_new' ho0 (Kd.R_lt (sq_r HO425))) (below_size sq_b)); have n3_ := mk_ (below_step sq_b hb); clear HO421 HO425 HB; have HO421 := n0_; have HO425 := n1_; have HO429 := n2_; have HB := n3_; clear n0_ n1_ n2_ n3_; (try clear hb); (try clear ho0)) | (go_at_call 39; (with_reducible refine (spec_DrawPutEntry.calls kj25 _ _ l1 t430 t433 t434 _ ?side1 ?side2 A51.out).mono ?_); (case side1 => exact sq_c (Kd.C_below HR1.out HB.out)); (case side2 => exact HC1.out); rintro e w59 ⟨v431, rfl, ho0, hb⟩; have n0_ := mk_ (Kd.S_elder' (sq_s HO421) (Kd.S_base ho0) hb); have n1_ := mk_ (Kd.R_below (sq_r HO425) hb); have n2_ := mk_ (Kd.R_below (sq_r HO429) hb); have n3_ := mk_ (Kd.S_lower (Kd.S_new' ho0 (Kd.S_lt (sq_s HO421))) (below_size sq_b)); have n4_ := mk_ (below_step sq_b hb); clear HO421 HO425 HO429 HB; have HO421 := n0_; have HO425 := n1_; have HO429 := n2_; have HO432 := n3_; have HB := n4_; clear n0_ n1_ n2_ n3_ n4_; (try clear hb); (try clear ho0)) | ((with_reducible refine gate_dst (N := 18) rfl ?_); refine box_event sq_0 (N := 18) sq_0 (cs := #[.string (⟨#[]⟩ : ByteArray), .int .i64 0]) (t := 48) sq_h ?_; intro gb435 hg w60 hbox hb; have n0_ := mk_ (Kd.S_below (sq_s HO421) hb); have n1_ := mk_ (Kd.R_below (Kd.R_elderB (sq_r HO425) gb435 (Nat.le_of_eq hg.symm)) hb); have n2_ := mk_ (Kd.R_below (Kd.R_elderB (sq_r HO429) gb435 (Nat.le_of_eq hg.symm)) hb); have n3_ := mk_ (Kd.S_below (sq_s HO432) hb); have n4_ := mk_ (below_step sq_b hb); have n5_ := mk_ (hbox); have n6_ := mk_ ((by rw [hg]; exact (below_size sq_b) : w.heap.size ≤ gb435)); have n7_ := mk_ ((by rw [hg]; exact (below_size sq_b) : w.heap.size ≤ gb435)); clear HO421 HO425 HO429 HO432 HB; have HO421 := n0_; have HO425 := n1_; have HO429 := n2_; have HO432 := n3_; have HB := n4_; have BK435 := n5_; have GW435 := n6_; have GE435 := n7_; clear n0_ n1_ n2_ n3_ n4_ n5_ n6_ n7_; clear hb hbox hg; have hcz61_0 : w60.cell? ⟨gb435, 0, none⟩ = some (.string (⟨#[]⟩ : ByteArray)) := (blk_cell BK435.out 0).trans rfl; have hcz61_1 : w60.cell? ⟨gb435, 1, none⟩ = some (.int .i64 0) := (blk_cell BK435.out 1).trans rfl; have hfz61_0 := blk_frozen BK435.out 0; have hfz61_1 := blk_frozen BK435.out 1; obtain ⟨Ao62, co62, eo62⟩ := Kd.S_slice HO432.out; subst eo62) | (go_at_call 32; (with_reducible refine (impl_PutEntry.calls kj25 _ _ t430 t433 t434 t436 t439 _ ?side1 ?side2 A52.out).mono ?_); (case side1 => refine (Kd.S_reads' (e := 59) (base := w.heap.size) (ok := fun k_ => (True ∧ some k_ ≠ (.slice Ao56 t419.length co56 : Value).ownBlock)) (n := t430.length) (c := co62) ?_).2.2; exact (by (with_reducible repeat (first | apply Kd.S_alloc | apply Kd.S_drewN | apply Kd.S_drew)); exact (Kd.S_mono (Kd.S_far (p := ⟨gb435, 1, none⟩) (Kd.S_far (p := ⟨gb435, 0, none⟩) (Kd.S_types HO432.out BK435.out (by decide)) (fun _ hk => hk.2) (.string t433)) (fun _ hk => hk.2) (.int .i64 t434)) (fun _ h_ => h_.1)))); (case side2 => exact (Kd.S_reads' HO432.out).2.1); rintro e w63 ⟨v437, rfl, ho0, hb⟩; have n0_ := mk_ (Kd.S_elder' (by (with_reducible repeat (first | apply Kd.S_alloc | apply Kd.S_drewN | apply Kd.S_drew)); exact (Kd.S_mono (Kd.S_far (p := ⟨gb435, 1, none⟩) (Kd.S_far (p := ⟨gb435, 0, none⟩) (Kd.S_types HO421.out BK435.out (by decide)) (fun _ hk => hk.2) (.string t433)) (fun _ hk => hk.2) (.int .i64 t434)) (fun _ h_ => h_.1))) (Kd.S_base ho0) hb); have n1_ := mk_ (Kd.R_below (by (with_reducible repeat (first | apply Kd.R_alloc | apply Kd.R_drewN | apply Kd.R_drew)); exact (Kd.R_mono (Kd.R_far (p := ⟨gb435, 1, none⟩) (Kd.R_far (p := ⟨gb435, 0, none⟩) (Kd.R_mono HO425.out (fun k_ hk => (⟨hk, hk.2⟩ : _ ∧ k_ ≠ gb435))) (fun _ hk => hk.2) (.string t433)) (fun _ hk => hk.2) (.int .i64 t434)) (fun _ h_ => h_.1))) hb); have n2_ := mk_ (Kd.R_below (by (with_reducible repeat (first | apply Kd.R_alloc | apply Kd.R_drewN | apply Kd.R_drew)); exact (Kd.R_mono (Kd.R_far (p := ⟨gb435, 1, none⟩) (Kd.R_far (p := ⟨gb435, 0, none⟩) (Kd.R_mono HO429.out (fun k_ hk => (⟨hk, hk.2⟩ : _ ∧ k_ ≠ gb435))) (fun _ hk => hk.2) (.string t433)) (fun _ hk => hk.2) (.int .i64 t434)) (fun _ h_ => h_.1))) hb); have n3_ := mk_ (Kd.S_elder' (by (with_reducible repeat (first | apply Kd.S_alloc | apply Kd.S_drewN | apply Kd.S_drew)); exact (Kd.S_mono (Kd.S_far (p := ⟨gb435, 1, none⟩) (Kd.S_far (p := ⟨gb435, 0, none⟩) (Kd.S_types HO432.out BK435.out (by decide)) (fun _ hk => hk.2) (.string t433)) (fun _ hk => hk.2) (.int .i64 t434)) (fun _ h_ => h_.1))) (Kd.S_base ho0) hb); have n4_ := mk_ (Kd.S_lower (Kd.S_new' (Kd.S_new' ho0 (Kd.S_lt (by (with_reducible repeat (first | apply Kd.S_alloc | apply Kd.S_drewN | apply Kd.S_drew)); exact (Kd.S_mono (Kd.S_far (p := ⟨gb435, 1, none⟩) (Kd.S_far (p := ⟨gb435, 0, none⟩) (Kd.S_types HO421.out BK435.out (by decide)) (fun _ hk => hk.2) (.string t433)) (fun _ hk => hk.2) (.int .i64 t434)) (fun _ h_ => h_.1))))) (Kd.S_lt (by (with_reducible repeat (first | apply Kd.S_alloc | apply Kd.S_drewN | apply Kd.S_drew)); exact (Kd.S_mono (Kd.S_far (p := ⟨gb435, 1, none⟩) (Kd.S_far (p := ⟨gb435, 0, none⟩) (Kd.S_types HO432.out BK435.out (by decide)) (fun _ hk => hk.2) (.string t433)) (fun _ hk => hk.2) (.int .i64 t434)) (fun _ h_ => h_.1))))) (below_size (sq_g GE435.out))); have n5_ := mk_ (blk_below (g := gb435) (o := .cells #[.string t433, .int .i64 t434] 48 (0, 0)) (by (with_reducible repeat (first | refine blk_drewN ?_ _ | refine blk_drew ?_ | refine blk_alloc ?_ _)); refine blk_put (cs := #[.string t433, .int .i64 0]) ?_ 1 _ rfl; (with_reducible repeat (first | refine blk_drewN ?_ _ | refine blk_drew ?_ | refine blk_alloc ?_ _)); refine blk_put (cs := #[.string (⟨#[]⟩ : ByteArray), .int .i64 0]) ?_ 0 _ rfl; (with_reducible repeat (first | refine blk_drewN ?_ _ | refine blk_drew ?_ | refine blk_alloc ?_ _)); exact BK435.out) hb); have n6_ := mk_ (below_step (sq_g GE435.out) hb); clear HO421 HO425 HO429 HO432 BK435 HB; have HO421 := n0_; have HO425 := n1_; have HO429 := n2_; have HO432 := n3_; have HO438 := n4_; have BK435 := n5_; have HB := n6_; clear n0_ n1_ n2_ n3_ n4_ n5_ n6_; (try clear hb); (try clear ho0); have hcz64_0 : w63.cell? ⟨gb435, 0, none⟩ = some (.string t433) := (blk_cell BK435.out 0).trans rfl; have hcz64_1 : w63.cell? ⟨gb435, 1, none⟩ = some (.int .i64 t434) := (blk_cell BK435.out 1).trans rfl; have hfz64_0 := blk_frozen BK435.out 0; have hfz64_1 := blk_frozen BK435.out 1) | (go_at_call 30; (with_reducible refine (spec_PutEntry.calls kj25 _ _ t430 t433 t434 t440 t443 _ ?side1 ?side2 A53.out).mono ?_); (case side1 => exact sq_c (Kd.S_reads' HO432.out).2.2); (case side2 => exact (Kd.S_reads' HO432.out).2.1); rintro e w65 ⟨v441, rfl, ho0, hb⟩; have n0_ := mk_ (Kd.S_elder' (sq_s HO421) (Kd.S_base ho0) hb); have n1_ := mk_ (Kd.R_below (sq_r HO425) hb); have n2_ := mk_ (Kd.R_below (sq_r HO429) hb); have n3_ := mk_ (Kd.S_elder' (sq_s HO432) (Kd.S_base ho0) hb); have n4_ := mk_ (Kd.S_elder' (sq_s HO438) (Kd.S_base ho0) hb); have n5_ := mk_ (Kd.S_lower (Kd.S_new' (Kd.S_new' (Kd.S_new' ho0 (Kd.S_lt (sq_s HO421))) (Kd.S_lt (sq_s HO432))) (Kd.S_lt (sq_s HO438))) (below_size (sq_g GE435.out))); have n6_ := mk_ (blk_below (g := gb435) (o := .cells #[.string t433, .int .i64 t434] 48 (0, 0)) (sq_l BK435) hb); have n7_ := mk_ (below_step (sq_g GE435.out) hb); clear HO421 HO425 HO429 HO432 HO438 BK435 HB; have HO421 := n0_; have HO425 := n1_; have HO429 := n2_; have HO432 := n3_; have HO438 := n4_; have HO442 := n5_; have BK435 := n6_; have HB := n7_; clear n0_ n1_ n2_ n3_ n4_ n5_ n6_ n7_; (try clear hb); (try clear ho0)))
       repeat (go_quiet (first | (go_at_call 38; (with_reducible refine (spec_DrawEntriesIn.calls kj25 _ _ l1 t419 _ ?side1 ?side2 A48.out).mono ?_); (case side1 => exact sq_c (Kd.C_below HR1.out HB.out)); (case side2 => exact HC1.out); rintro e w55 ⟨v420, rfl, ho0, hb⟩; have n0_ := mk_ (Kd.S_lower ho0 (below_size sq_b)); have n1_ := mk_ (below_step sq_b hb); clear HB; have HO421 := n0_; have HB := n1_; clear n0_ n1_; (try clear hb); (try clear ho0); obtain ⟨Ao56, co56, eo56⟩ := Kd.S_slice HO421.out; subst eo56) | (go_at_call 27; (with_reducible refine (impl_EntriesIn.calls kj25 _ _ t419 t422 t423 _ ?side1 ?side2 A49.out).mono ?_); (case side1 => exact sq_c (Kd.S_reads' HO421.out).2.2); (case side2 => exact (Kd.S_reads' HO421.out).2.1); rintro e w57 ⟨v424, rfl, ho0, hb⟩; have n0_ := mk_ (Kd.S_below (sq_s HO421) hb); have n1_ := mk_ (Kd.R_lower ho0 (below_size sq_b)); have n2_ := mk_ (below_step sq_b hb); clear HO421 HB; have HO421 := n0_; have HO425 := n1_; have HB := n2_; clear n0_ n1_ n2_; (try clear hb); (try clear ho0)) | (go_at_call 26; (with_reducible refine (spec_EntriesIn.calls kj25 _ _ t419 t426 t427 _ ?side1 ?side2 A50.out).mono ?_); (case side1 => exact sq_c (Kd.S_reads' HO421.out).2.2); (case side2 => exact (Kd.S_reads' HO421.out).2.1); rintro e w58 ⟨v428, rfl, ho0, hb⟩; have n0_ := mk_ (Kd.S_below (sq_s HO421) hb); have n1_ := mk_ (Kd.R_elder' (sq_r HO425) (Kd.R_base ho0) hb); have n2_ := mk_ (Kd.R_lower (Kd.R_new' ho0 (Kd.R_lt (sq_r HO425))) (below_size sq_b)); have n3_ := mk_ (below_step sq_b hb); clear HO421 HO425 HB; have HO421 := n0_; have HO425 := n1_; have HO429 := n2_; have HB := n3_; clear n0_ n1_ n2_ n3_; (try clear hb); (try clear ho0)) | (go_at_call 39; (with_reducible refine (spec_DrawPutEntry.calls kj25 _ _ l1 t430 t433 t434 _ ?side1 ?side2 A51.out).mono ?_); (case side1 => exact sq_c (Kd.C_below HR1.out HB.out)); (case side2 => exact HC1.out); rintro e w59 ⟨v431, rfl, ho0, hb⟩; have n0_ := mk_ (Kd.S_elder' (sq_s HO421) (Kd.S_base ho0) hb); have n1_ := mk_ (Kd.R_below (sq_r HO425) hb); have n2_ := mk_ (Kd.R_below (sq_r HO429) hb); have n3_ := mk_ (Kd.S_lower (Kd.S_new' ho0 (Kd.S_lt (sq_s HO421))) (below_size sq_b)); have n4_ := mk_ (below_step sq_b hb); clear HO421 HO425 HO429 HB; have HO421 := n0_; have HO425 := n1_; have HO429 := n2_; have HO432 := n3_; have HB := n4_; clear n0_ n1_ n2_ n3_ n4_; (try clear hb); (try clear ho0)) | ((with_reducible refine gate_dst (N := 18) rfl ?_); refine box_event sq_0 (N := 18) sq_0 (cs := #[.string (⟨#[]⟩ : ByteArray), .int .i64 0]) (t := 48) sq_h ?_; intro gb435 hg w60 hbox hb; have n0_ := mk_ (Kd.S_below (sq_s HO421) hb); have n1_ := mk_ (Kd.R_below (Kd.R_elderB (sq_r HO425) gb435 (Nat.le_of_eq hg.symm)) hb); have n2_ := mk_ (Kd.R_below (Kd.R_elderB (sq_r HO429) gb435 (Nat.le_of_eq hg.symm)) hb); have n3_ := mk_ (Kd.S_below (sq_s HO432) hb); have n4_ := mk_ (below_step sq_b hb); have n5_ := mk_ (hbox); have n6_ := mk_ ((by rw [hg]; exact (below_size sq_b) : w.heap.size ≤ gb435)); have n7_ := mk_ ((by rw [hg]; exact (below_size sq_b) : w.heap.size ≤ gb435)); clear HO421 HO425 HO429 HO432 HB; have HO421 := n0_; have HO425 := n1_; have HO429 := n2_; have HO432 := n3_; have HB := n4_; have BK435 := n5_; have GW435 := n6_; have GE435 := n7_; clear n0_ n1_ n2_ n3_ n4_ n5_ n6_ n7_; clear hb hbox hg; have hcz61_0 : w60.cell? ⟨gb435, 0, none⟩ = some (.string (⟨#[]⟩ : ByteArray)) := (blk_cell BK435.out 0).trans rfl; have hcz61_1 : w60.cell? ⟨gb435, 1, none⟩ = some (.int .i64 0) := (blk_cell BK435.out 1).trans rfl; have hfz61_0 := blk_frozen BK435.out 0; have hfz61_1 := blk_frozen BK435.out 1; obtain ⟨Ao62, co62, eo62⟩ := Kd.S_slice HO432.out; subst eo62) | (go_at_call 32; (with_reducible refine (impl_PutEntry.calls kj25 _ _ t430 t433 t434 t436 t439 _ ?side1 ?side2 A52.out).mono ?_); (case side1 => refine (Kd.S_reads' (e := 59) (base := w.heap.size) (ok := fun k_ => (True ∧ some k_ ≠ (.slice Ao56 t419.length co56 : Value).ownBlock)) (n := t430.length) (c := co62) ?_).2.2; exact (by (with_reducible repeat (first | apply Kd.S_alloc | apply Kd.S_drewN | apply Kd.S_drew)); exact (Kd.S_mono (Kd.S_far (p := ⟨gb435, 1, none⟩) (Kd.S_far (p := ⟨gb435, 0, none⟩) (Kd.S_types HO432.out BK435.out (by decide)) (fun _ hk => hk.2) (.string t433)) (fun _ hk => hk.2) (.int .i64 t434)) (fun _ h_ => h_.1)))); (case side2 => exact (Kd.S_reads' HO432.out).2.1); rintro e w63 ⟨v437, rfl, ho0, hb⟩; have n0_ := mk_ (Kd.S_elder' (by (with_reducible repeat (first | apply Kd.S_alloc | apply Kd.S_drewN | apply Kd.S_drew)); exact (Kd.S_mono (Kd.S_far (p := ⟨gb435, 1, none⟩) (Kd.S_far (p := ⟨gb435, 0, none⟩) (Kd.S_types HO421.out BK435.out (by decide)) (fun _ hk => hk.2) (.string t433)) (fun _ hk => hk.2) (.int .i64 t434)) (fun _ h_ => h_.1))) (Kd.S_base ho0) hb); have n1_ := mk_ (Kd.R_below (by (with_reducible repeat (first | apply Kd.R_alloc | apply Kd.R_drewN | apply Kd.R_drew)); exact (Kd.R_mono (Kd.R_far (p := ⟨gb435, 1, none⟩) (Kd.R_far (p := ⟨gb435, 0, none⟩) (Kd.R_mono HO425.out (fun k_ hk => (⟨hk, hk.2⟩ : _ ∧ k_ ≠ gb435))) (fun _ hk => hk.2) (.string t433)) (fun _ hk => hk.2) (.int .i64 t434)) (fun _ h_ => h_.1))) hb); have n2_ := mk_ (Kd.R_below (by (with_reducible repeat (first | apply Kd.R_alloc | apply Kd.R_drewN | apply Kd.R_drew)); exact (Kd.R_mono (Kd.R_far (p := ⟨gb435, 1, none⟩) (Kd.R_far (p := ⟨gb435, 0, none⟩) (Kd.R_mono HO429.out (fun k_ hk => (⟨hk, hk.2⟩ : _ ∧ k_ ≠ gb435))) (fun _ hk => hk.2) (.string t433)) (fun _ hk => hk.2) (.int .i64 t434)) (fun _ h_ => h_.1))) hb); have n3_ := mk_ (Kd.S_elder' (by (with_reducible repeat (first | apply Kd.S_alloc | apply Kd.S_drewN | apply Kd.S_drew)); exact (Kd.S_mono (Kd.S_far (p := ⟨gb435, 1, none⟩) (Kd.S_far (p := ⟨gb435, 0, none⟩) (Kd.S_types HO432.out BK435.out (by decide)) (fun _ hk => hk.2) (.string t433)) (fun _ hk => hk.2) (.int .i64 t434)) (fun _ h_ => h_.1))) (Kd.S_base ho0) hb); have n4_ := mk_ (Kd.S_lower (Kd.S_new' (Kd.S_new' ho0 (Kd.S_lt (by (with_reducible repeat (first | apply Kd.S_alloc | apply Kd.S_drewN | apply Kd.S_drew)); exact (Kd.S_mono (Kd.S_far (p := ⟨gb435, 1, none⟩) (Kd.S_far (p := ⟨gb435, 0, none⟩) (Kd.S_types HO421.out BK435.out (by decide)) (fun _ hk => hk.2) (.string t433)) (fun _ hk => hk.2) (.int .i64 t434)) (fun _ h_ => h_.1))))) (Kd.S_lt (by (with_reducible repeat (first | apply Kd.S_alloc | apply Kd.S_drewN | apply Kd.S_drew)); exact (Kd.S_mono (Kd.S_far (p := ⟨gb435, 1, none⟩) (Kd.S_far (p := ⟨gb435, 0, none⟩) (Kd.S_types HO432.out BK435.out (by decide)) (fun _ hk => hk.2) (.string t433)) (fun _ hk => hk.2) (.int .i64 t434)) (fun _ h_ => h_.1))))) (below_size (sq_g GE435.out))); have n5_ := mk_ (blk_below (g := gb435) (o := .cells #[.string t433, .int .i64 t434] 48 (0, 0)) (by (with_reducible repeat (first | refine blk_drewN ?_ _ | refine blk_drew ?_ | refine blk_alloc ?_ _)); refine blk_put (cs := #[.string t433, .int .i64 0]) ?_ 1 _ rfl; (with_reducible repeat (first | refine blk_drewN ?_ _ | refine blk_drew ?_ | refine blk_alloc ?_ _)); refine blk_put (cs := #[.string (⟨#[]⟩ : ByteArray), .int .i64 0]) ?_ 0 _ rfl; (with_reducible repeat (first | refine blk_drewN ?_ _ | refine blk_drew ?_ | refine blk_alloc ?_ _)); exact BK435.out) hb); have n6_ := mk_ (below_step (sq_g GE435.out) hb); clear HO421 HO425 HO429 HO432 BK435 HB; have HO421 := n0_; have HO425 := n1_; have HO429 := n2_; have HO432 := n3_; have HO438 := n4_; have BK435 := n5_; have HB := n6_; clear n0_ n1_ n2_ n3_ n4_ n5_ n6_; (try clear hb); (try clear ho0); have hcz64_0 : w63.cell? ⟨gb435, 0, none⟩ = some (.string t433) := (blk_cell BK435.out 0).trans rfl; have hcz64_1 : w63.cell? ⟨gb435, 1, none⟩ = some (.int .i64 t434) := (blk_cell BK435.out 1).trans rfl; have hfz64_0 := blk_frozen BK435.out 0; have hfz64_1 := blk_frozen BK435.out 1) | (go_at_call 30; (with_reducible refine (spec_PutEntry.calls kj25 _ _ t430 t433 t434 t440 t443 _ ?side1 ?side2 A53.out).mono ?_); (case side1 => exact sq_c (Kd.S_reads' HO432.out).2.2); (case side2 => exact (Kd.S_reads' HO432.out).2.1); rintro e w65 ⟨v441, rfl, ho0, hb⟩; have n0_ := mk_ (Kd.S_elder' (sq_s HO421) (Kd.S_base ho0) hb); have n1_ := mk_ (Kd.R_below (sq_r HO425) hb); have n2_ := mk_ (Kd.R_below (sq_r HO429) hb); have n3_ := mk_ (Kd.S_elder' (sq_s HO432) (Kd.S_base ho0) hb); have n4_ := mk_ (Kd.S_elder' (sq_s HO438) (Kd.S_base ho0) hb); have n5_ := mk_ (Kd.S_lower (Kd.S_new' (Kd.S_new' (Kd.S_new' ho0 (Kd.S_lt (sq_s HO421))) (Kd.S_lt (sq_s HO432))) (Kd.S_lt (sq_s HO438))) (below_size (sq_g GE435.out))); have n6_ := mk_ (blk_below (g := gb435) (o := .cells #[.string t433, .int .i64 t434] 48 (0, 0)) (sq_l BK435) hb); have n7_ := mk_ (below_step (sq_g GE435.out) hb); clear HO421 HO425 HO429 HO432 HO438 BK435 HB; have HO421 := n0_; have HO425 := n1_; have HO429 := n2_; have HO432 := n3_; have HO438 := n4_; have HO442 := n5_; have BK435 := n6_; have HB := n7_; clear n0_ n1_ n2_ n3_ n4_ n5_ n6_ n7_; (try clear hb); (try clear ho0))); go_upto_region 18 with (first | (go_at_call 38; (with_reducible refine (spec_DrawEntriesIn.calls kj25 _ _ l1 t419 _ ?side1 ?side2 A48.out).mono ?_); (case side1 => exact sq_c (Kd.C_below HR1.out HB.out)); (case side2 => exact HC1.out); rintro e w55 ⟨v420, rfl, ho0, hb⟩; have n0_ := mk_ (Kd.S_lower ho0 (below_size sq_b)); have n1_ := mk_ (below_step sq_b hb); clear HB; have HO421 := n0_; have HB := n1_; clear n0_ n1_; (try clear hb); (try clear ho0); obtain ⟨Ao56, co56, eo56⟩ := Kd.S_slice HO421.out; subst eo56) | (go_at_call 27; (with_reducible refine (impl_EntriesIn.calls kj25 _ _ t419 t422 t423 _ ?side1 ?side2 A49.out).mono ?_); (case side1 => exact sq_c (Kd.S_reads' HO421.out).2.2); (case side2 => exact (Kd.S_reads' HO421.out).2.1); rintro e w57 ⟨v424, rfl, ho0, hb⟩; have n0_ := mk_ (Kd.S_below (sq_s HO421) hb); have n1_ := mk_ (Kd.R_lower ho0 (below_size sq_b)); have n2_ := mk_ (below_step sq_b hb); clear HO421 HB; have HO421 := n0_; have HO425 := n1_; have HB := n2_; clear n0_ n1_ n2_; (try clear hb); (try clear ho0)) | (go_at_call 26; (with_reducible refine (spec_EntriesIn.calls kj25 _ _ t419 t426 t427 _ ?side1 ?side2 A50.out).mono ?_); (case side1 => exact sq_c (Kd.S_reads' HO421.out).2.2); (case side2 => exact (Kd.S_reads' HO421.out).2.1); rintro e w58 ⟨v428, rfl, ho0, hb⟩; have n0_ := mk_ (Kd.S_below (sq_s HO421) hb); have n1_ := mk_ (Kd.R_elder' (sq_r HO425) (Kd.R_base ho0) hb); have n2_ := mk_ (Kd.R_lower (Kd.R_new' ho0 (Kd.R_lt (sq_r HO425))) (below_size sq_b)); have n3_ := mk_ (below_step sq_b hb); clear HO421 HO425 HB; have HO421 := n0_; have HO425 := n1_; have HO429 := n2_; have HB := n3_; clear n0_ n1_ n2_ n3_; (try clear hb); (try clear ho0)) | (go_at_call 39; (with_reducible refine (spec_DrawPutEntry.calls kj25 _ _ l1 t430 t433 t434 _ ?side1 ?side2 A51.out).mono ?_); (case side1 => exact sq_c (Kd.C_below HR1.out HB.out)); (case side2 => exact HC1.out); rintro e w59 ⟨v431, rfl, ho0, hb⟩; have n0_ := mk_ (Kd.S_elder' (sq_s HO421) (Kd.S_base ho0) hb); have n1_ := mk_ (Kd.R_below (sq_r HO425) hb); have n2_ := mk_ (Kd.R_below (sq_r HO429) hb); have n3_ := mk_ (Kd.S_lower (Kd.S_new' ho0 (Kd.S_lt (sq_s HO421))) (below_size sq_b)); have n4_ := mk_ (below_step sq_b hb); clear HO421 HO425 HO429 HB; have HO421 := n0_; have HO425 := n1_; have HO429 := n2_; have HO432 := n3_; have HB := n4_; clear n0_ n1_ n2_ n3_ n4_; (try clear hb); (try clear ho0)) | ((with_reducible refine gate_dst (N := 18) rfl ?_); refine box_event sq_0 (N := 18) sq_0 (cs := #[.string (⟨#[]⟩ : ByteArray), .int .i64 0]) (t := 48) sq_h ?_; intro gb435 hg w60 hbox hb; have n0_ := mk_ (Kd.S_below (sq_s HO421) hb); have n1_ := mk_ (Kd.R_below (Kd.R_elderB (sq_r HO425) gb435 (Nat.le_of_eq hg.symm)) hb); have n2_ := mk_ (Kd.R_below (Kd.R_elderB (sq_r HO429) gb435 (Nat.le_of_eq hg.symm)) hb); have n3_ := mk_ (Kd.S_below (sq_s HO432) hb); have n4_ := mk_ (below_step sq_b hb); have n5_ := mk_ (hbox); have n6_ := mk_ ((by rw [hg]; exact (below_size sq_b) : w.heap.size ≤ gb435)); have n7_ := mk_ ((by rw [hg]; exact (below_size sq_b) : w.heap.size ≤ gb435)); clear HO421 HO425 HO429 HO432 HB; have HO421 := n0_; have HO425 := n1_; have HO429 := n2_; have HO432 := n3_; have HB := n4_; have BK435 := n5_; have GW435 := n6_; have GE435 := n7_; clear n0_ n1_ n2_ n3_ n4_ n5_ n6_ n7_; clear hb hbox hg; have hcz61_0 : w60.cell? ⟨gb435, 0, none⟩ = some (.string (⟨#[]⟩ : ByteArray)) := (blk_cell BK435.out 0).trans rfl; have hcz61_1 : w60.cell? ⟨gb435, 1, none⟩ = some (.int .i64 0) := (blk_cell BK435.out 1).trans rfl; have hfz61_0 := blk_frozen BK435.out 0; have hfz61_1 := blk_frozen BK435.out 1; obtain ⟨Ao62, co62, eo62⟩ := Kd.S_slice HO432.out; subst eo62) | (go_at_call 32; (with_reducible refine (impl_PutEntry.calls kj25 _ _ t430 t433 t434 t436 t439 _ ?side1 ?side2 A52.out).mono ?_); (case side1 => refine (Kd.S_reads' (e := 59) (base := w.heap.size) (ok := fun k_ => (True ∧ some k_ ≠ (.slice Ao56 t419.length co56 : Value).ownBlock)) (n := t430.length) (c := co62) ?_).2.2; exact (by (with_reducible repeat (first | apply Kd.S_alloc | apply Kd.S_drewN | apply Kd.S_drew)); exact (Kd.S_mono (Kd.S_far (p := ⟨gb435, 1, none⟩) (Kd.S_far (p := ⟨gb435, 0, none⟩) (Kd.S_types HO432.out BK435.out (by decide)) (fun _ hk => hk.2) (.string t433)) (fun _ hk => hk.2) (.int .i64 t434)) (fun _ h_ => h_.1)))); (case side2 => exact (Kd.S_reads' HO432.out).2.1); rintro e w63 ⟨v437, rfl, ho0, hb⟩; have n0_ := mk_ (Kd.S_elder' (by (with_reducible repeat (first | apply Kd.S_alloc | apply Kd.S_drewN | apply Kd.S_drew)); exact (Kd.S_mono (Kd.S_far (p := ⟨gb435, 1, none⟩) (Kd.S_far (p := ⟨gb435, 0, none⟩) (Kd.S_types HO421.out BK435.out (by decide)) (fun _ hk => hk.2) (.string t433)) (fun _ hk => hk.2) (.int .i64 t434)) (fun _ h_ => h_.1))) (Kd.S_base ho0) hb); have n1_ := mk_ (Kd.R_below (by (with_reducible repeat (first | apply Kd.R_alloc | apply Kd.R_drewN | apply Kd.R_drew)); exact (Kd.R_mono (Kd.R_far (p := ⟨gb435, 1, none⟩) (Kd.R_far (p := ⟨gb435, 0, none⟩) (Kd.R_mono HO425.out (fun k_ hk => (⟨hk, hk.2⟩ : _ ∧ k_ ≠ gb435))) (fun _ hk => hk.2) (.string t433)) (fun _ hk => hk.2) (.int .i64 t434)) (fun _ h_ => h_.1))) hb); have n2_ := mk_ (Kd.R_below (by (with_reducible repeat (first | apply Kd.R_alloc | apply Kd.R_drewN | apply Kd.R_drew)); exact (Kd.R_mono (Kd.R_far (p := ⟨gb435, 1, none⟩) (Kd.R_far (p := ⟨gb435, 0, none⟩) (Kd.R_mono HO429.out (fun k_ hk => (⟨hk, hk.2⟩ : _ ∧ k_ ≠ gb435))) (fun _ hk => hk.2) (.string t433)) (fun _ hk => hk.2) (.int .i64 t434)) (fun _ h_ => h_.1))) hb); have n3_ := mk_ (Kd.S_elder' (by (with_reducible repeat (first | apply Kd.S_alloc | apply Kd.S_drewN | apply Kd.S_drew)); exact (Kd.S_mono (Kd.S_far (p := ⟨gb435, 1, none⟩) (Kd.S_far (p := ⟨gb435, 0, none⟩) (Kd.S_types HO432.out BK435.out (by decide)) (fun _ hk => hk.2) (.string t433)) (fun _ hk => hk.2) (.int .i64 t434)) (fun _ h_ => h_.1))) (Kd.S_base ho0) hb); have n4_ := mk_ (Kd.S_lower (Kd.S_new' (Kd.S_new' ho0 (Kd.S_lt (by (with_reducible repeat (first | apply Kd.S_alloc | apply Kd.S_drewN | apply Kd.S_drew)); exact (Kd.S_mono (Kd.S_far (p := ⟨gb435, 1, none⟩) (Kd.S_far (p := ⟨gb435, 0, none⟩) (Kd.S_types HO421.out BK435.out (by decide)) (fun _ hk => hk.2) (.string t433)) (fun _ hk => hk.2) (.int .i64 t434)) (fun _ h_ => h_.1))))) (Kd.S_lt (by (with_reducible repeat (first | apply Kd.S_alloc | apply Kd.S_drewN | apply Kd.S_drew)); exact (Kd.S_mono (Kd.S_far (p := ⟨gb435, 1, none⟩) (Kd.S_far (p := ⟨gb435, 0, none⟩) (Kd.S_types HO432.out BK435.out (by decide)) (fun _ hk => hk.2) (.string t433)) (fun _ hk => hk.2) (.int .i64 t434)) (fun _ h_ => h_.1))))) (below_size (sq_g GE435.out))); have n5_ := mk_ (blk_below (g := gb435) (o := .cells #[.string t433, .int .i64 t434] 48 (0, 0)) (by (with_reducible repeat (first | refine blk_drewN ?_ _ | refine blk_drew ?_ | refine blk_alloc ?_ _)); refine blk_put (cs := #[.string t433, .int .i64 0]) ?_ 1 _ rfl; (with_reducible repeat (first | refine blk_drewN ?_ _ | refine blk_drew ?_ | refine blk_alloc ?_ _)); refine blk_put (cs := #[.string (⟨#[]⟩ : ByteArray), .int .i64 0]) ?_ 0 _ rfl; (with_reducible repeat (first | refine blk_drewN ?_ _ | refine blk_drew ?_ | refine blk_alloc ?_ _)); exact BK435.out) hb); have n6_ := mk_ (below_step (sq_g GE435.out) hb); clear HO421 HO425 HO429 HO432 BK435 HB; have HO421 := n0_; have HO425 := n1_; have HO429 := n2_; have HO432 := n3_; have HO438 := n4_; have BK435 := n5_; have HB := n6_; clear n0_ n1_ n2_ n3_ n4_ n5_ n6_; (try clear hb); (try clear ho0); have hcz64_0 : w63.cell? ⟨gb435, 0, none⟩ = some (.string t433) := (blk_cell BK435.out 0).trans rfl; have hcz64_1 : w63.cell? ⟨gb435, 1, none⟩ = some (.int .i64 t434) := (blk_cell BK435.out 1).trans rfl; have hfz64_0 := blk_frozen BK435.out 0; have hfz64_1 := blk_frozen BK435.out 1) | (go_at_call 30; (with_reducible refine (spec_PutEntry.calls kj25 _ _ t430 t433 t434 t440 t443 _ ?side1 ?side2 A53.out).mono ?_); (case side1 => exact sq_c (Kd.S_reads' HO432.out).2.2); (case side2 => exact (Kd.S_reads' HO432.out).2.1); rintro e w65 ⟨v441, rfl, ho0, hb⟩; have n0_ := mk_ (Kd.S_elder' (sq_s HO421) (Kd.S_base ho0) hb); have n1_ := mk_ (Kd.R_below (sq_r HO425) hb); have n2_ := mk_ (Kd.R_below (sq_r HO429) hb); have n3_ := mk_ (Kd.S_elder' (sq_s HO432) (Kd.S_base ho0) hb); have n4_ := mk_ (Kd.S_elder' (sq_s HO438) (Kd.S_base ho0) hb); have n5_ := mk_ (Kd.S_lower (Kd.S_new' (Kd.S_new' (Kd.S_new' ho0 (Kd.S_lt (sq_s HO421))) (Kd.S_lt (sq_s HO432))) (Kd.S_lt (sq_s HO438))) (below_size (sq_g GE435.out))); have n6_ := mk_ (blk_below (g := gb435) (o := .cells #[.string t433, .int .i64 t434] 48 (0, 0)) (sq_l BK435) hb); have n7_ := mk_ (below_step (sq_g GE435.out) hb); clear HO421 HO425 HO429 HO432 HO438 BK435 HB; have HO421 := n0_; have HO425 := n1_; have HO429 := n2_; have HO432 := n3_; have HO438 := n4_; have HO442 := n5_; have BK435 := n6_; have HB := n7_; clear n0_ n1_ n2_ n3_ n4_ n5_ n6_ n7_; (try clear hb); (try clear ho0))))
       (try simp only [Act.put, List.setIfInBounds_toArray, List.set_cons_zero, List.set_cons_succ])
       go_cut [141] (fun v141 wc => ∃ (kq : Nat) (x141_53 : Bool), v141 = .bool x141_53 ∧ Aside0 (laws_FnLegs.j2 kq t430 t436 t439 x141_53 t433 t434 = some r) ∧ Aside0 (kq ≤ kj25) ∧ Aside0 (Kd.S k59 59 wc w.heap.size (fun k_ => some k_ ≠ (v437 : Value).ownBlock) (.slice Ao62 t430.length co62) t430) ∧ Aside0 (Kd.S k59 59 wc w.heap.size (fun k_ => some k_ ≠ ((.slice Ao62 t430.length co62) : Value).ownBlock) v437 t436) ∧ Aside0 (wc.heap[gb435]? = some (.cells #[.string t433, .int .i64 t434] 48 (0, 0))) ∧ Aside0 (Below w.heap.size w wc))
       case first => as_aux_lemma =>
        have H := HC54.out
        clear HC54
        by_cases c66 : (t423 != t427) = true
        ·rw [if_pos c66] at H
         have c66b0 : (t423 != t427) = true := c66
         (try (have c66b1 : decide (t423 = t427) = false := by simpa using c66))
         (try (have c66b2 : (t423 == t427) = false := by simpa using c66))
         (try (have c66b3 : ¬ (t423 = t427) := by simpa using c66))
         clear c66
         (first | rw [c66b0] | (simp only [i64_w, i32_w]; rw [c66b0]) | skip)
         exact absurd hrt (laws_FnLegs.no_j2 _ _ _ _ _ _ H)
        ·rw [if_neg c66] at H
         have c66b0 : (t423 != t427) = false := by simpa using c66
         (try (have c66b1 : decide (t423 = t427) = true := by simpa using c66))
         (try (have c66b2 : (t423 == t427) = true := by simpa using c66))
         clear c66
         (first | rw [c66b0] | (simp only [i64_w, i32_w]; rw [c66b0]) | skip)
         replace H := Option.bind_eq_some_iff.mp H
         obtain ⟨t444, A670, H⟩ := H
         replace H : (if t444 = true then ((impl_GoodLegs.f kj25 t419).bind fun t445 => (if (t445 != t423) = true then (laws_FnLegs.j2 kj25 t430 t436 t439 true t433 t434) else (if (t439 != t443) = true then (laws_FnLegs.j2 kj25 t430 t436 t439 true t433 t434) else ((laws_sameLegs.f kj25 t436 t440).bind fun t446 => (laws_FnLegs.j2 kj25 t430 t436 t439 (!t446) t433 t434))))) else (laws_FnLegs.j2 kj25 t430 t436 t439 true t433 t434)) = some r := H
         have A67 := mk_ A670
         clear A670
         by_cases c68 : t444 = true
         ·subst c68
          have H1 : ((impl_GoodLegs.f kj25 t419).bind fun t445 => (if (t445 != t423) = true then (laws_FnLegs.j2 kj25 t430 t436 t439 true t433 t434) else (if (t439 != t443) = true then (laws_FnLegs.j2 kj25 t430 t436 t439 true t433 t434) else ((laws_sameLegs.f kj25 t436 t440).bind fun t446 => (laws_FnLegs.j2 kj25 t430 t436 t439 (!t446) t433 t434))))) = some r := by rw [if_pos rfl] at H; exact H
          clear H
          have H := H1
          clear H1
          replace H := Option.bind_eq_some_iff.mp H
          obtain ⟨t445, A690, H⟩ := H
          replace H : (if (t445 != t423) = true then (laws_FnLegs.j2 kj25 t430 t436 t439 true t433 t434) else (if (t439 != t443) = true then (laws_FnLegs.j2 kj25 t430 t436 t439 true t433 t434) else ((laws_sameLegs.f kj25 t436 t440).bind fun t446 => (laws_FnLegs.j2 kj25 t430 t436 t439 (!t446) t433 t434)))) = some r := H
          have A69 := mk_ A690
          clear A690
          by_cases c70 : (t445 != t423) = true
          ·rw [if_pos c70] at H
           have c70b0 : (t445 != t423) = true := c70
           (try (have c70b1 : decide (t445 = t423) = false := by simpa using c70))
           (try (have c70b2 : (t445 == t423) = false := by simpa using c70))
           (try (have c70b3 : ¬ (t445 = t423) := by simpa using c70))
           clear c70
           exact absurd hrt (laws_FnLegs.no_j2 _ _ _ _ _ _ H)
          ·rw [if_neg c70] at H
           have c70b0 : (t445 != t423) = false := by simpa using c70
           (try (have c70b1 : decide (t445 = t423) = true := by simpa using c70))
           (try (have c70b2 : (t445 == t423) = true := by simpa using c70))
           clear c70
           by_cases c74 : (t439 != t443) = true
           ·rw [if_pos c74] at H
            have c74b0 : (t439 != t443) = true := c74
            (try (have c74b1 : decide (t439 = t443) = false := by simpa using c74))
            (try (have c74b2 : (t439 == t443) = false := by simpa using c74))
            (try (have c74b3 : ¬ (t439 = t443) := by simpa using c74))
            clear c74
            exact absurd hrt (laws_FnLegs.no_j2 _ _ _ _ _ _ H)
           ·rw [if_neg c74] at H
            have c74b0 : (t439 != t443) = false := by simpa using c74
            (try (have c74b1 : decide (t439 = t443) = true := by simpa using c74))
            (try (have c74b2 : (t439 == t443) = true := by simpa using c74))
            clear c74
            replace H := Option.bind_eq_some_iff.mp H
            obtain ⟨t446, A780, H⟩ := H
            replace H : (laws_FnLegs.j2 kj25 t430 t436 t439 (!t446) t433 t434) = some r := H
            have A78 := mk_ A780
            clear A780
            have H' := mk_ H
            clear H
            obtain ⟨Ao79, co79, eo79⟩ := Kd.R_slice HO425.out
            subst eo79
            obtain ⟨Ao80, co80, eo80⟩ := Kd.R_slice HO429.out
            subst eo80
            go_wp2_with (first | (go_at_call 37; (with_reducible refine (laws_sameEntries.calls kj25 _ _ t422 _ _ t426 true _ ?side1 ?side2 ?side3 ?side4 A67.out).mono ?_); (case side1 => exact sq_c (Kd.R_reads' HO425.out).2.2); (case side2 => exact (Kd.R_reads' HO425.out).2.1); (case side3 => exact sq_c (Kd.R_reads' HO429.out).2.2); (case side4 => exact (Kd.R_reads' HO429.out).2.1); rintro e w' ⟨rfl, ⟨nd, rfl⟩⟩; (try first | exact ⟨rfl, _, World.drewN_drewN _ _ _⟩ | exact ⟨rfl, _, Eq.trans (World.drewN_drewN _ _ _) (congrArg (World.drewN _) (Nat.add_assoc _ _ _))⟩)) | (go_at_call 23; (with_reducible refine (impl_GoodLegs.calls kj25 _ _ t419 t445 _ ?side1 ?side2 A69.out).mono ?_); (case side1 => exact sq_c (Kd.S_reads' HO421.out).2.2); (case side2 => exact (Kd.S_reads' HO421.out).2.1); rintro e w81 ⟨rfl, hb⟩; have n0_ := mk_ (Kd.S_below (sq_s HO421) hb); have n1_ := mk_ (Kd.R_below (sq_r HO425) hb); have n2_ := mk_ (Kd.R_below (sq_r HO429) hb); have n3_ := mk_ (Kd.S_below (sq_s HO432) hb); have n4_ := mk_ (Kd.S_below (sq_s HO438) hb); have n5_ := mk_ (Kd.S_below (sq_s HO442) hb); have n6_ := mk_ (blk_below (g := gb435) (o := .cells #[.string t433, .int .i64 t434] 48 (0, 0)) (sq_l BK435) hb); have n7_ := mk_ (below_step (sq_g GE435.out) hb); clear HO421 HO425 HO429 HO432 HO438 HO442 BK435 HB; have HO421 := n0_; have HO425 := n1_; have HO429 := n2_; have HO432 := n3_; have HO438 := n4_; have HO442 := n5_; have BK435 := n6_; have HB := n7_; clear n0_ n1_ n2_ n3_ n4_ n5_ n6_ n7_; (try clear hb); obtain ⟨Ao82, co82, eo82⟩ := Kd.S_slice HO438.out; subst eo82; obtain ⟨Ao83, co83, eo83⟩ := Kd.S_slice HO442.out; subst eo83) | (go_at_call 34; (with_reducible refine (laws_sameLegs.calls kj25 _ _ t436 _ _ t440 t446 _ ?side1 ?side2 ?side3 ?side4 A78.out).mono ?_); (case side1 => exact sq_c (Kd.S_reads' HO438.out).2.2); (case side2 => exact (Kd.S_reads' HO438.out).2.1); (case side3 => exact sq_c (Kd.S_reads' HO442.out).2.2); (case side4 => exact (Kd.S_reads' HO442.out).2.1); rintro e w84 ⟨rfl, hb⟩; have n0_ := mk_ (Kd.S_below (sq_s HO421) hb); have n1_ := mk_ (Kd.R_below (sq_r HO425) hb); have n2_ := mk_ (Kd.R_below (sq_r HO429) hb); have n3_ := mk_ (Kd.S_below (sq_s HO432) hb); have n4_ := mk_ (Kd.S_below (sq_s HO438) hb); have n5_ := mk_ (Kd.S_below (sq_s HO442) hb); have n6_ := mk_ (blk_below (g := gb435) (o := .cells #[.string t433, .int .i64 t434] 48 (0, 0)) (sq_l BK435) hb); have n7_ := mk_ (below_step (sq_g GE435.out) hb); clear HO421 HO425 HO429 HO432 HO438 HO442 BK435 HB; have HO421 := n0_; have HO425 := n1_; have HO429 := n2_; have HO432 := n3_; have HO438 := n4_; have HO442 := n5_; have BK435 := n6_; have HB := n7_; clear n0_ n1_ n2_ n3_ n4_ n5_ n6_ n7_; (try clear hb)))
            repeat (go_quiet (first | (go_at_call 37; (with_reducible refine (laws_sameEntries.calls kj25 _ _ t422 _ _ t426 true _ ?side1 ?side2 ?side3 ?side4 A67.out).mono ?_); (case side1 => exact sq_c (Kd.R_reads' HO425.out).2.2); (case side2 => exact (Kd.R_reads' HO425.out).2.1); (case side3 => exact sq_c (Kd.R_reads' HO429.out).2.2); (case side4 => exact (Kd.R_reads' HO429.out).2.1); rintro e w' ⟨rfl, ⟨nd, rfl⟩⟩; (try first | exact ⟨rfl, _, World.drewN_drewN _ _ _⟩ | exact ⟨rfl, _, Eq.trans (World.drewN_drewN _ _ _) (congrArg (World.drewN _) (Nat.add_assoc _ _ _))⟩)) | (go_at_call 23; (with_reducible refine (impl_GoodLegs.calls kj25 _ _ t419 t445 _ ?side1 ?side2 A69.out).mono ?_); (case side1 => exact sq_c (Kd.S_reads' HO421.out).2.2); (case side2 => exact (Kd.S_reads' HO421.out).2.1); rintro e w81 ⟨rfl, hb⟩; have n0_ := mk_ (Kd.S_below (sq_s HO421) hb); have n1_ := mk_ (Kd.R_below (sq_r HO425) hb); have n2_ := mk_ (Kd.R_below (sq_r HO429) hb); have n3_ := mk_ (Kd.S_below (sq_s HO432) hb); have n4_ := mk_ (Kd.S_below (sq_s HO438) hb); have n5_ := mk_ (Kd.S_below (sq_s HO442) hb); have n6_ := mk_ (blk_below (g := gb435) (o := .cells #[.string t433, .int .i64 t434] 48 (0, 0)) (sq_l BK435) hb); have n7_ := mk_ (below_step (sq_g GE435.out) hb); clear HO421 HO425 HO429 HO432 HO438 HO442 BK435 HB; have HO421 := n0_; have HO425 := n1_; have HO429 := n2_; have HO432 := n3_; have HO438 := n4_; have HO442 := n5_; have BK435 := n6_; have HB := n7_; clear n0_ n1_ n2_ n3_ n4_ n5_ n6_ n7_; (try clear hb); obtain ⟨Ao82, co82, eo82⟩ := Kd.S_slice HO438.out; subst eo82; obtain ⟨Ao83, co83, eo83⟩ := Kd.S_slice HO442.out; subst eo83) | (go_at_call 34; (with_reducible refine (laws_sameLegs.calls kj25 _ _ t436 _ _ t440 t446 _ ?side1 ?side2 ?side3 ?side4 A78.out).mono ?_); (case side1 => exact sq_c (Kd.S_reads' HO438.out).2.2); (case side2 => exact (Kd.S_reads' HO438.out).2.1); (case side3 => exact sq_c (Kd.S_reads' HO442.out).2.2); (case side4 => exact (Kd.S_reads' HO442.out).2.1); rintro e w84 ⟨rfl, hb⟩; have n0_ := mk_ (Kd.S_below (sq_s HO421) hb); have n1_ := mk_ (Kd.R_below (sq_r HO425) hb); have n2_ := mk_ (Kd.R_below (sq_r HO429) hb); have n3_ := mk_ (Kd.S_below (sq_s HO432) hb); have n4_ := mk_ (Kd.S_below (sq_s HO438) hb); have n5_ := mk_ (Kd.S_below (sq_s HO442) hb); have n6_ := mk_ (blk_below (g := gb435) (o := .cells #[.string t433, .int .i64 t434] 48 (0, 0)) (sq_l BK435) hb); have n7_ := mk_ (below_step (sq_g GE435.out) hb); clear HO421 HO425 HO429 HO432 HO438 HO442 BK435 HB; have HO421 := n0_; have HO425 := n1_; have HO429 := n2_; have HO432 := n3_; have HO438 := n4_; have HO442 := n5_; have BK435 := n6_; have HB := n7_; clear n0_ n1_ n2_ n3_ n4_ n5_ n6_ n7_; (try clear hb))); try go_wp2_with (first | (go_at_call 37; (with_reducible refine (laws_sameEntries.calls kj25 _ _ t422 _ _ t426 true _ ?side1 ?side2 ?side3 ?side4 A67.out).mono ?_); (case side1 => exact sq_c (Kd.R_reads' HO425.out).2.2); (case side2 => exact (Kd.R_reads' HO425.out).2.1); (case side3 => exact sq_c (Kd.R_reads' HO429.out).2.2); (case side4 => exact (Kd.R_reads' HO429.out).2.1); rintro e w' ⟨rfl, ⟨nd, rfl⟩⟩; (try first | exact ⟨rfl, _, World.drewN_drewN _ _ _⟩ | exact ⟨rfl, _, Eq.trans (World.drewN_drewN _ _ _) (congrArg (World.drewN _) (Nat.add_assoc _ _ _))⟩)) | (go_at_call 23; (with_reducible refine (impl_GoodLegs.calls kj25 _ _ t419 t445 _ ?side1 ?side2 A69.out).mono ?_); (case side1 => exact sq_c (Kd.S_reads' HO421.out).2.2); (case side2 => exact (Kd.S_reads' HO421.out).2.1); rintro e w81 ⟨rfl, hb⟩; have n0_ := mk_ (Kd.S_below (sq_s HO421) hb); have n1_ := mk_ (Kd.R_below (sq_r HO425) hb); have n2_ := mk_ (Kd.R_below (sq_r HO429) hb); have n3_ := mk_ (Kd.S_below (sq_s HO432) hb); have n4_ := mk_ (Kd.S_below (sq_s HO438) hb); have n5_ := mk_ (Kd.S_below (sq_s HO442) hb); have n6_ := mk_ (blk_below (g := gb435) (o := .cells #[.string t433, .int .i64 t434] 48 (0, 0)) (sq_l BK435) hb); have n7_ := mk_ (below_step (sq_g GE435.out) hb); clear HO421 HO425 HO429 HO432 HO438 HO442 BK435 HB; have HO421 := n0_; have HO425 := n1_; have HO429 := n2_; have HO432 := n3_; have HO438 := n4_; have HO442 := n5_; have BK435 := n6_; have HB := n7_; clear n0_ n1_ n2_ n3_ n4_ n5_ n6_ n7_; (try clear hb); obtain ⟨Ao82, co82, eo82⟩ := Kd.S_slice HO438.out; subst eo82; obtain ⟨Ao83, co83, eo83⟩ := Kd.S_slice HO442.out; subst eo83) | (go_at_call 34; (with_reducible refine (laws_sameLegs.calls kj25 _ _ t436 _ _ t440 t446 _ ?side1 ?side2 ?side3 ?side4 A78.out).mono ?_); (case side1 => exact sq_c (Kd.S_reads' HO438.out).2.2); (case side2 => exact (Kd.S_reads' HO438.out).2.1); (case side3 => exact sq_c (Kd.S_reads' HO442.out).2.2); (case side4 => exact (Kd.S_reads' HO442.out).2.1); rintro e w84 ⟨rfl, hb⟩; have n0_ := mk_ (Kd.S_below (sq_s HO421) hb); have n1_ := mk_ (Kd.R_below (sq_r HO425) hb); have n2_ := mk_ (Kd.R_below (sq_r HO429) hb); have n3_ := mk_ (Kd.S_below (sq_s HO432) hb); have n4_ := mk_ (Kd.S_below (sq_s HO438) hb); have n5_ := mk_ (Kd.S_below (sq_s HO442) hb); have n6_ := mk_ (blk_below (g := gb435) (o := .cells #[.string t433, .int .i64 t434] 48 (0, 0)) (sq_l BK435) hb); have n7_ := mk_ (below_step (sq_g GE435.out) hb); clear HO421 HO425 HO429 HO432 HO438 HO442 BK435 HB; have HO421 := n0_; have HO425 := n1_; have HO429 := n2_; have HO432 := n3_; have HO438 := n4_; have HO442 := n5_; have BK435 := n6_; have HB := n7_; clear n0_ n1_ n2_ n3_ n4_ n5_ n6_ n7_; (try clear hb))))
            go_meet
            case rel => exact ⟨_, (!t446), sq_e, H', ⟨by have := HJ6.out; have := HJ25.out; first | omega | exact Nat.le_refl _⟩, ⟨by (with_reducible repeat (first | apply Kd.S_alloc | apply Kd.S_drewN | apply Kd.S_drew)); exact Kd.S_mono HO432.out (fun _ hk => hk.1.2)⟩, ⟨by (with_reducible repeat (first | apply Kd.S_alloc | apply Kd.S_drewN | apply Kd.S_drew)); exact Kd.S_mono HO438.out (fun _ hk => hk.1.2)⟩, ⟨by (with_reducible repeat (first | refine blk_drewN ?_ _ | refine blk_drew ?_ | refine blk_alloc ?_ _)); exact BK435.out⟩, ⟨sq_g GE435.out⟩⟩
         ·replace c68 := Bool.eq_false_iff.mpr c68
          subst c68
          have H1 : (laws_FnLegs.j2 kj25 t430 t436 t439 true t433 t434) = some r := by rw [if_neg (show ¬ (false = true) by decide)] at H; exact H
          clear H
          have H := H1
          clear H1
          exact absurd hrt (laws_FnLegs.no_j2 _ _ _ _ _ _ H)
       case rest => as_aux_lemma =>
        clear HC54
        (try clear c1); (try clear c2); (try clear p2); (try clear c3); (try clear c3b0); (try clear c6); (try clear p6); (try clear c7); (try clear c8); (try clear c12); (try clear c12b0); (try clear c12b1); (try clear c12b2); (try clear c14); (try clear c25); (try clear c27); (try clear c30); (try clear c31); (try clear c33); (try clear p64); (try clear c66); (try clear c66b0); (try clear c66b1)
        (try clear c66b2); (try clear c68); (try clear c70); (try clear c70b0); (try clear c70b1); (try clear c70b2); (try clear c74); (try clear c74b0); (try clear c74b1); (try clear c74b2); (try clear hcz61_0); (try clear hcz61_1); (try clear hcz64_0); (try clear hcz64_1); (try clear hfz61_0); (try clear hfz61_1); (try clear hfz64_0); (try clear hfz64_1); (try clear p2); (try clear p6)
        obtain ⟨kq, x141_53, rfl, HA, HJ53, HO_17, HO_19, BK435, HB⟩ := hcut
        cases kq with
        | zero => exact absurd HA.out (by simp [laws_FnLegs.j2])
        | succ kj53 =>
         have H := HA.out
         clear HA
         simp only [laws_FnLegs.j2] at H
         by_cases c87 : x141_53 = true
         ·subst c87
          have H1 : (some false) = some r := by rw [if_pos rfl] at H; exact H
          clear H
          have H := H1
          clear H1
          obtain rfl := Option.some.inj H
          cases hrt
         ·replace c87 := Bool.eq_false_iff.mpr c87
          subst c87
          have H1 : (if t439 = true then ((impl_EntriesIn.f kj53 t430).bind fun bt447 => ((impl_EntriesIn.f kj53 t436).bind fun bt451 => (if bt447.2 = true then (laws_FnLegs.j3 kj53 t436 bt447.1 bt451.1 (!bt451.2) t433 t434) else (laws_FnLegs.j3 kj53 t436 bt447.1 bt451.1 true t433 t434)))) else (some true)) = some r := by rw [if_neg (show ¬ (false = true) by decide)] at H; exact H
          clear H
          have H := H1
          clear H1
          by_cases c88 : t439 = true
          ·subst c88
           have H1 : ((impl_EntriesIn.f kj53 t430).bind fun bt447 => ((impl_EntriesIn.f kj53 t436).bind fun bt451 => (if bt447.2 = true then (laws_FnLegs.j3 kj53 t436 bt447.1 bt451.1 (!bt451.2) t433 t434) else (laws_FnLegs.j3 kj53 t436 bt447.1 bt451.1 true t433 t434)))) = some r := by rw [if_pos rfl] at H; exact H
           clear H
           have H := H1
           clear H1
           replace H := Option.bind_eq_some_iff.mp H
           obtain ⟨⟨t447, t448⟩, A890, H⟩ := H
           replace H : ((impl_EntriesIn.f kj53 t436).bind fun bt451 => (if t448 = true then (laws_FnLegs.j3 kj53 t436 t447 bt451.1 (!bt451.2) t433 t434) else (laws_FnLegs.j3 kj53 t436 t447 bt451.1 true t433 t434))) = some r := H
           have A89 := mk_ A890
           clear A890
           replace H := Option.bind_eq_some_iff.mp H
           obtain ⟨⟨t451, t452⟩, A900, H⟩ := H
           replace H : (if t448 = true then (laws_FnLegs.j3 kj53 t436 t447 t451 (!t452) t433 t434) else (laws_FnLegs.j3 kj53 t436 t447 t451 true t433 t434)) = some r := H
           have A90 := mk_ A900
           clear A900
           have HC91 := mk_ H
           clear H
           go_upto_region 23 with (first | (go_at_call 27; (with_reducible refine (impl_EntriesIn.calls kj53 _ _ t430 t447 t448 _ ?side1 ?side2 A89.out).mono ?_); (case side1 => exact sq_c (Kd.S_reads' HO_17.out).2.2); (case side2 => exact (Kd.S_reads' HO_17.out).2.1); rintro e w92 ⟨v449, rfl, ho0, hb⟩; have n0_ := mk_ (Kd.S_below (sq_s HO_17) hb); have n1_ := mk_ (Kd.S_below (sq_s HO_19) hb); have n2_ := mk_ (Kd.R_lower (Kd.R_newB ho0 (g := gb435) (o := .cells #[.string t433, .int .i64 t434] 48 (0, 0)) (sq_l BK435)) (below_size (sq_g GE435.out))); have n3_ := mk_ (blk_below (g := gb435) (o := .cells #[.string t433, .int .i64 t434] 48 (0, 0)) (sq_l BK435) hb); have n4_ := mk_ (below_step (sq_g GE435.out) hb); clear HO_17 HO_19 BK435 HB; have HO_17 := n0_; have HO_19 := n1_; have HO450 := n2_; have BK435 := n3_; have HB := n4_; clear n0_ n1_ n2_ n3_ n4_; (try clear hb); (try clear ho0); obtain ⟨Ao93, co93, eo93⟩ := Kd.S_slice HO_19.out; subst eo93) | (go_at_call 27; (with_reducible refine (impl_EntriesIn.calls kj53 _ _ t436 t451 t452 _ ?side1 ?side2 A90.out).mono ?_); (case side1 => exact sq_c (Kd.S_reads' HO_19.out).2.2); (case side2 => exact (Kd.S_reads' HO_19.out).2.1); rintro e w94 ⟨v453, rfl, ho0, hb⟩; have n0_ := mk_ (Kd.S_below (sq_s HO_17) hb); have n1_ := mk_ (Kd.S_below (sq_s HO_19) hb); have n2_ := mk_ (Kd.R_elder' (sq_r HO450) (Kd.R_base ho0) hb); have n3_ := mk_ (Kd.R_lower (Kd.R_newB (Kd.R_new' ho0 (Kd.R_lt (sq_r HO450))) (g := gb435) (o := .cells #[.string t433, .int .i64 t434] 48 (0, 0)) (sq_l BK435)) (below_size (sq_g GE435.out))); have n4_ := mk_ (blk_below (g := gb435) (o := .cells #[.string t433, .int .i64 t434] 48 (0, 0)) (sq_l BK435) hb); have n5_ := mk_ (below_step (sq_g GE435.out) hb); clear HO_17 HO_19 HO450 BK435 HB; have HO_17 := n0_; have HO_19 := n1_; have HO450 := n2_; have HO454 := n3_; have BK435 := n4_; have HB := n5_; clear n0_ n1_ n2_ n3_ n4_ n5_; (try clear hb); (try clear ho0)))
           repeat (go_quiet (first | (go_at_call 27; (with_reducible refine (impl_EntriesIn.calls kj53 _ _ t430 t447 t448 _ ?side1 ?side2 A89.out).mono ?_); (case side1 => exact sq_c (Kd.S_reads' HO_17.out).2.2); (case side2 => exact (Kd.S_reads' HO_17.out).2.1); rintro e w92 ⟨v449, rfl, ho0, hb⟩; have n0_ := mk_ (Kd.S_below (sq_s HO_17) hb); have n1_ := mk_ (Kd.S_below (sq_s HO_19) hb); have n2_ := mk_ (Kd.R_lower (Kd.R_newB ho0 (g := gb435) (o := .cells #[.string t433, .int .i64 t434] 48 (0, 0)) (sq_l BK435)) (below_size (sq_g GE435.out))); have n3_ := mk_ (blk_below (g := gb435) (o := .cells #[.string t433, .int .i64 t434] 48 (0, 0)) (sq_l BK435) hb); have n4_ := mk_ (below_step (sq_g GE435.out) hb); clear HO_17 HO_19 BK435 HB; have HO_17 := n0_; have HO_19 := n1_; have HO450 := n2_; have BK435 := n3_; have HB := n4_; clear n0_ n1_ n2_ n3_ n4_; (try clear hb); (try clear ho0); obtain ⟨Ao93, co93, eo93⟩ := Kd.S_slice HO_19.out; subst eo93) | (go_at_call 27; (with_reducible refine (impl_EntriesIn.calls kj53 _ _ t436 t451 t452 _ ?side1 ?side2 A90.out).mono ?_); (case side1 => exact sq_c (Kd.S_reads' HO_19.out).2.2); (case side2 => exact (Kd.S_reads' HO_19.out).2.1); rintro e w94 ⟨v453, rfl, ho0, hb⟩; have n0_ := mk_ (Kd.S_below (sq_s HO_17) hb); have n1_ := mk_ (Kd.S_below (sq_s HO_19) hb); have n2_ := mk_ (Kd.R_elder' (sq_r HO450) (Kd.R_base ho0) hb); have n3_ := mk_ (Kd.R_lower (Kd.R_newB (Kd.R_new' ho0 (Kd.R_lt (sq_r HO450))) (g := gb435) (o := .cells #[.string t433, .int .i64 t434] 48 (0, 0)) (sq_l BK435)) (below_size (sq_g GE435.out))); have n4_ := mk_ (blk_below (g := gb435) (o := .cells #[.string t433, .int .i64 t434] 48 (0, 0)) (sq_l BK435) hb); have n5_ := mk_ (below_step (sq_g GE435.out) hb); clear HO_17 HO_19 HO450 BK435 HB; have HO_17 := n0_; have HO_19 := n1_; have HO450 := n2_; have HO454 := n3_; have BK435 := n4_; have HB := n5_; clear n0_ n1_ n2_ n3_ n4_ n5_; (try clear hb); (try clear ho0))); go_upto_region 23 with (first | (go_at_call 27; (with_reducible refine (impl_EntriesIn.calls kj53 _ _ t430 t447 t448 _ ?side1 ?side2 A89.out).mono ?_); (case side1 => exact sq_c (Kd.S_reads' HO_17.out).2.2); (case side2 => exact (Kd.S_reads' HO_17.out).2.1); rintro e w92 ⟨v449, rfl, ho0, hb⟩; have n0_ := mk_ (Kd.S_below (sq_s HO_17) hb); have n1_ := mk_ (Kd.S_below (sq_s HO_19) hb); have n2_ := mk_ (Kd.R_lower (Kd.R_newB ho0 (g := gb435) (o := .cells #[.string t433, .int .i64 t434] 48 (0, 0)) (sq_l BK435)) (below_size (sq_g GE435.out))); have n3_ := mk_ (blk_below (g := gb435) (o := .cells #[.string t433, .int .i64 t434] 48 (0, 0)) (sq_l BK435) hb); have n4_ := mk_ (below_step (sq_g GE435.out) hb); clear HO_17 HO_19 BK435 HB; have HO_17 := n0_; have HO_19 := n1_; have HO450 := n2_; have BK435 := n3_; have HB := n4_; clear n0_ n1_ n2_ n3_ n4_; (try clear hb); (try clear ho0); obtain ⟨Ao93, co93, eo93⟩ := Kd.S_slice HO_19.out; subst eo93) | (go_at_call 27; (with_reducible refine (impl_EntriesIn.calls kj53 _ _ t436 t451 t452 _ ?side1 ?side2 A90.out).mono ?_); (case side1 => exact sq_c (Kd.S_reads' HO_19.out).2.2); (case side2 => exact (Kd.S_reads' HO_19.out).2.1); rintro e w94 ⟨v453, rfl, ho0, hb⟩; have n0_ := mk_ (Kd.S_below (sq_s HO_17) hb); have n1_ := mk_ (Kd.S_below (sq_s HO_19) hb); have n2_ := mk_ (Kd.R_elder' (sq_r HO450) (Kd.R_base ho0) hb); have n3_ := mk_ (Kd.R_lower (Kd.R_newB (Kd.R_new' ho0 (Kd.R_lt (sq_r HO450))) (g := gb435) (o := .cells #[.string t433, .int .i64 t434] 48 (0, 0)) (sq_l BK435)) (below_size (sq_g GE435.out))); have n4_ := mk_ (blk_below (g := gb435) (o := .cells #[.string t433, .int .i64 t434] 48 (0, 0)) (sq_l BK435) hb); have n5_ := mk_ (below_step (sq_g GE435.out) hb); clear HO_17 HO_19 HO450 BK435 HB; have HO_17 := n0_; have HO_19 := n1_; have HO450 := n2_; have HO454 := n3_; have BK435 := n4_; have HB := n5_; clear n0_ n1_ n2_ n3_ n4_ n5_; (try clear hb); (try clear ho0))))
           (try simp only [Act.put, List.setIfInBounds_toArray, List.set_cons_zero, List.set_cons_succ])
           go_cut [158] (fun v158 wc => ∃ (kq : Nat) (x158_90 : Bool), v158 = .bool x158_90 ∧ Aside0 (laws_FnLegs.j3 kq t436 t447 t451 x158_90 t433 t434 = some r) ∧ Aside0 (kq ≤ kj53) ∧ Aside0 (Kd.S k59 59 wc w.heap.size (fun _ => True) (.slice Ao93 t436.length co93) t436) ∧ Aside0 (Kd.R k48 48 wc w.heap.size (fun k_ => some k_ ≠ (v453 : Value).ownBlock ∧ k_ ≠ gb435) v449 t447) ∧ Aside0 (Kd.R k48 48 wc w.heap.size (fun k_ => some k_ ≠ (v449 : Value).ownBlock ∧ k_ ≠ gb435) v453 t451) ∧ Aside0 (wc.heap[gb435]? = some (.cells #[.string t433, .int .i64 t434] 48 (0, 0))) ∧ Aside0 (Below w.heap.size w wc))
           case first => as_aux_lemma =>
            have H := HC91.out
            clear HC91
            by_cases c95 : t448 = true
            ·subst c95
             have H1 : (laws_FnLegs.j3 kj53 t436 t447 t451 (!t452) t433 t434) = some r := by rw [if_pos rfl] at H; exact H
             clear H
             have H := H1
             clear H1
             have H' := mk_ H
             clear H
             go_wp2
             repeat (go_quiet (fail); try go_wp2)
             go_meet
             case rel => exact ⟨_, (!t452), sq_e, H', ⟨by have := HJ6.out; have := HJ25.out; have := HJ53.out; first | omega | exact Nat.le_refl _⟩, ⟨by (with_reducible repeat (first | apply Kd.S_alloc | apply Kd.S_drewN | apply Kd.S_drew)); exact Kd.S_mono HO_19.out (fun _ hk => trivial)⟩, ⟨by (with_reducible repeat (first | apply Kd.R_alloc | apply Kd.R_drewN | apply Kd.R_drew)); exact Kd.R_mono HO450.out (fun _ hk => ⟨hk.2, hk.1.2⟩)⟩, ⟨by (with_reducible repeat (first | apply Kd.R_alloc | apply Kd.R_drewN | apply Kd.R_drew)); exact Kd.R_mono HO454.out (fun _ hk => ⟨hk.1.2, hk.2⟩)⟩, ⟨by (with_reducible repeat (first | refine blk_drewN ?_ _ | refine blk_drew ?_ | refine blk_alloc ?_ _)); exact BK435.out⟩, ⟨sq_g GE435.out⟩⟩
            ·replace c95 := Bool.eq_false_iff.mpr c95
             subst c95
             have H1 : (laws_FnLegs.j3 kj53 t436 t447 t451 true t433 t434) = some r := by rw [if_neg (show ¬ (false = true) by decide)] at H; exact H
             clear H
             have H := H1
             clear H1
             exact absurd hrt (laws_FnLegs.no_j3 _ _ _ _ _ _ H)
           case rest => as_aux_lemma =>
            clear HC91
            (try clear c1); (try clear c2); (try clear p2); (try clear c3); (try clear c3b0); (try clear c6); (try clear p6); (try clear c7); (try clear c8); (try clear c9); (try clear c12); (try clear c12b0); (try clear c12b1); (try clear c12b2); (try clear c14); (try clear c25); (try clear c27); (try clear c30); (try clear c31); (try clear c33); (try clear p64); (try clear c66); (try clear c66b0)
            (try clear c66b1); (try clear c66b2); (try clear c68); (try clear c70); (try clear c70b0); (try clear c70b1); (try clear c70b2); (try clear c74); (try clear c74b0); (try clear c74b1); (try clear c74b2); (try clear c87); (try clear c88); (try clear c95); (try clear hcz61_0); (try clear hcz61_1); (try clear hcz64_0); (try clear hcz64_1); (try clear hfz61_0); (try clear hfz61_1); (try clear hfz64_0)
            (try clear hfz64_1); (try clear p2); (try clear p6); (try clear p64)
            obtain ⟨kq, x158_90, rfl, HA, HJ90, HO_19, HO_23, HO_25, BK435, HB⟩ := hcut
            cases kq with
            | zero => exact absurd HA.out (by simp [laws_FnLegs.j3])
            | succ kj90 =>
             have H := HA.out
             clear HA
             simp only [laws_FnLegs.j3] at H
             by_cases c96 : x158_90 = true
             ·subst c96
              have H1 : (some false) = some r := by rw [if_pos rfl] at H; exact H
              clear H
              have H := H1
              clear H1
              obtain rfl := Option.some.inj H
              cases hrt
             ·replace c96 := Bool.eq_false_iff.mpr c96
              subst c96
              have H1 : (laws_FnLegs.l0 kj90 t436 t451 t447 (t447.length : Int) 0 t433 t434) = some r := by rw [if_neg (show ¬ (false = true) by decide)] at H; exact H
              clear H
              have H := H1
              clear H1
              have H' := mk_ H
              clear H
              obtain ⟨Ao97, co97, eo97⟩ := Kd.R_slice HO_23.out
              subst eo97
              go_wp2
              repeat (go_quiet (fail); try go_wp2)
              go_loopg [161] kj90 (fun kq v161 w' => ∃ (x161_5 : Int), v161 = .int .i64 x161_5 ∧ Aside0 (laws_FnLegs.l0 kq t436 t451 t447 (t447.length : Int) x161_5 t433 t434 = some r) ∧ Aside0 (kq ≤ kj90) ∧ Aside0 (Kd.S k59 59 w' w.heap.size (fun _ => True) (.slice Ao93 t436.length co93) t436) ∧ Aside0 (Kd.R k48 48 w' w.heap.size (fun k_ => some k_ ≠ ((.slice Ao97 t447.length co97) : Value).ownBlock ∧ k_ ≠ gb435) v453 t451) ∧ Aside0 (Kd.R k48 48 w' w.heap.size (fun k_ => some k_ ≠ (v453 : Value).ownBlock ∧ k_ ≠ gb435) (.slice Ao97 t447.length co97) t447) ∧ Aside0 (w'.heap[gb435]? = some (.cells #[.string t433, .int .i64 t434] 48 (0, 0))) ∧ Aside0 (Below w.heap.size w w'))
              case atStart => exact ⟨(0), sq_e, H', ⟨Nat.le_refl _⟩, ⟨by (with_reducible repeat (first | apply Kd.S_alloc | apply Kd.S_drewN | apply Kd.S_drew)); exact HO_19.out⟩, ⟨by (with_reducible repeat (first | apply Kd.R_alloc | apply Kd.R_drewN | apply Kd.R_drew)); exact HO_25.out⟩, ⟨by (with_reducible repeat (first | apply Kd.R_alloc | apply Kd.R_drewN | apply Kd.R_drew)); exact HO_23.out⟩, ⟨by (with_reducible repeat (first | refine blk_drewN ?_ _ | refine blk_drew ?_ | refine blk_alloc ?_ _)); exact BK435.out⟩, ⟨sq_g GE435.out⟩⟩
              case round => as_aux_lemma =>
               clear H'
               (try clear c1); (try clear c2); (try clear p2); (try clear c3); (try clear c3b0); (try clear c6); (try clear p6); (try clear c7); (try clear c8); (try clear c9); (try clear c12); (try clear c12b0); (try clear c12b1); (try clear c12b2); (try clear c14); (try clear c25); (try clear c27); (try clear c30); (try clear c31); (try clear c33); (try clear p64); (try clear c66); (try clear c66b0)
               (try clear c66b1); (try clear c66b2); (try clear c68); (try clear c70); (try clear c70b0); (try clear c70b1); (try clear c70b2); (try clear c74); (try clear c74b0); (try clear c74b1); (try clear c74b2); (try clear c87); (try clear c88); (try clear c95); (try clear c96); (try clear hcz61_0); (try clear hcz61_1); (try clear hcz64_0); (try clear hcz64_1); (try clear hfz61_0); (try clear hfz61_1)
               (try clear hfz64_0); (try clear hfz64_1); (try clear p2); (try clear p6); (try clear p64)
               obtain ⟨x161_5, rfl, HA, HK5, HO_19, HO_25, HO_159, BK435, HB⟩ := hrel
               cases gk with
               | zero => exact absurd HA.out (by simp [laws_FnLegs.l0])
               | succ k5 =>
                have H := HA.out
                clear HA
                simp only [laws_FnLegs.l0] at H
                by_cases c98 : x161_5 < (t447.length : Int)
                ·rw [if_pos c98] at H
                 have c98b0 : decide (x161_5 < (t447.length : Int)) = true := decide_eq_true c98
                 clear c98
                 by_cases c99 : 0 ≤ x161_5
                 rotate_left
                 ·rw [if_neg c99] at H
                  exact absurd H (by simp)
                 rw [if_pos c99] at H
                 have c99b0 : decide (0 ≤ x161_5) = true := decide_eq_true c99
                 clear c99
                 by_cases c100 : x161_5 < (t447.length : Int)
                 rotate_left
                 ·rw [if_neg c100] at H
                  exact absurd H (by simp)
                 rw [if_pos c100] at H
                 have c100b0 : decide (x161_5 < (t447.length : Int)) = true := decide_eq_true c100
                 clear c100
                 have H' := mk_ H
                 clear H
                 have p458 : 0 ≤ (x161_5 : Int) := sq_d
                 have q458 : x161_5 < (t447.length : Int) := sq_d
                 obtain ⟨ad458, e458, hx458_0, hx458_1⟩ := at_T48 (Kd.R_reads' HO_159.out).2.2 x161_5 p458 q458
                 cases e458
                 replace p458 := eq_true p458
                 replace q458 := eq_true q458
                 go_wp2_with (first | ((with_reducible refine gate_dst (N := 28) rfl ?_); refine box_event sq_0 (N := 28) sq_0 (cs := #[.string (⟨#[]⟩ : ByteArray), .int .i64 0]) (t := 48) sq_h ?_; intro gb459 hg w101 hbox hb; have n0_ := mk_ (Kd.S_below (sq_s HO_19) hb); have n1_ := mk_ (Kd.R_below (Kd.R_elderB (sq_r HO_25) gb459 (Nat.le_of_eq hg.symm)) hb); have n2_ := mk_ (Kd.R_below (Kd.R_elderB (sq_r HO_159) gb459 (Nat.le_of_eq hg.symm)) hb); have n3_ := mk_ (blk_below (g := gb435) (o := .cells #[.string t433, .int .i64 t434] 48 (0, 0)) (sq_l BK435) hb); have n4_ := mk_ (below_step (sq_g GE435.out) hb); have n5_ := mk_ (hbox); have n6_ := mk_ ((by rw [hg]; exact (below_size (sq_g GE435.out)) : w.heap.size ≤ gb459)); have n7_ := mk_ ((by rw [hg]; exact (below_size (sq_g GE435.out)) : w.heap.size ≤ gb459)); have n8_ := mk_ ((by rw [hg]; exact Nat.ne_of_lt (blk_lt (g := gb435) (o := .cells #[.string t433, .int .i64 t434] 48 (0, 0)) (sq_l BK435)) : gb435 ≠ gb459)); have n9_ := mk_ ((by rw [hg]; exact Nat.ne_of_gt (blk_lt (g := gb435) (o := .cells #[.string t433, .int .i64 t434] 48 (0, 0)) (sq_l BK435)) : gb459 ≠ gb435)); clear HO_19 HO_25 HO_159 BK435 HB; have HO_19 := n0_; have HO_25 := n1_; have HO_159 := n2_; have BK435 := n3_; have HB := n4_; have BK459 := n5_; have GW459 := n6_; have GE459 := n7_; have NB435_459 := n8_; have NB459_435 := n9_; clear n0_ n1_ n2_ n3_ n4_ n5_ n6_ n7_ n8_ n9_; clear hb hbox hg; have hnb102 := NB459_435.out; have hnc102 := NB435_459.out; have hcz103_0 : w101.cell? ⟨gb459, 0, none⟩ = some (.string (⟨#[]⟩ : ByteArray)) := (blk_cell BK459.out 0).trans rfl; have hcz103_1 : w101.cell? ⟨gb459, 1, none⟩ = some (.int .i64 0) := (blk_cell BK459.out 1).trans rfl; have hfz103_0 := blk_frozen BK459.out 0; have hfz103_1 := blk_frozen BK459.out 1; obtain ⟨Ao104, co104, eo104⟩ := Kd.R_slice HO_25.out; subst eo104))
                 repeat (go_quiet (fail); try go_wp2_with (first | ((with_reducible refine gate_dst (N := 28) rfl ?_); refine box_event sq_0 (N := 28) sq_0 (cs := #[.string (⟨#[]⟩ : ByteArray), .int .i64 0]) (t := 48) sq_h ?_; intro gb459 hg w101 hbox hb; have n0_ := mk_ (Kd.S_below (sq_s HO_19) hb); have n1_ := mk_ (Kd.R_below (Kd.R_elderB (sq_r HO_25) gb459 (Nat.le_of_eq hg.symm)) hb); have n2_ := mk_ (Kd.R_below (Kd.R_elderB (sq_r HO_159) gb459 (Nat.le_of_eq hg.symm)) hb); have n3_ := mk_ (blk_below (g := gb435) (o := .cells #[.string t433, .int .i64 t434] 48 (0, 0)) (sq_l BK435) hb); have n4_ := mk_ (below_step (sq_g GE435.out) hb); have n5_ := mk_ (hbox); have n6_ := mk_ ((by rw [hg]; exact (below_size (sq_g GE435.out)) : w.heap.size ≤ gb459)); have n7_ := mk_ ((by rw [hg]; exact (below_size (sq_g GE435.out)) : w.heap.size ≤ gb459)); have n8_ := mk_ ((by rw [hg]; exact Nat.ne_of_lt (blk_lt (g := gb435) (o := .cells #[.string t433, .int .i64 t434] 48 (0, 0)) (sq_l BK435)) : gb435 ≠ gb459)); have n9_ := mk_ ((by rw [hg]; exact Nat.ne_of_gt (blk_lt (g := gb435) (o := .cells #[.string t433, .int .i64 t434] 48 (0, 0)) (sq_l BK435)) : gb459 ≠ gb435)); clear HO_19 HO_25 HO_159 BK435 HB; have HO_19 := n0_; have HO_25 := n1_; have HO_159 := n2_; have BK435 := n3_; have HB := n4_; have BK459 := n5_; have GW459 := n6_; have GE459 := n7_; have NB435_459 := n8_; have NB459_435 := n9_; clear n0_ n1_ n2_ n3_ n4_ n5_ n6_ n7_ n8_ n9_; clear hb hbox hg; have hnb102 := NB459_435.out; have hnc102 := NB435_459.out; have hcz103_0 : w101.cell? ⟨gb459, 0, none⟩ = some (.string (⟨#[]⟩ : ByteArray)) := (blk_cell BK459.out 0).trans rfl; have hcz103_1 : w101.cell? ⟨gb459, 1, none⟩ = some (.int .i64 0) := (blk_cell BK459.out 1).trans rfl; have hfz103_0 := blk_frozen BK459.out 0; have hfz103_1 := blk_frozen BK459.out 1; obtain ⟨Ao104, co104, eo104⟩ := Kd.R_slice HO_25.out; subst eo104)))
                 go_loopg [29, 167] k5 (fun kq v29 v167 w' => ∃ (x29_6 : Bool) (x167_6 : Int), v29 = .bool x29_6 ∧ v167 = .int .i64 x167_6 ∧ Aside0 (laws_FnLegs.l1 kq t436 t451 x29_6 t447 (t447.length : Int) x161_5 t451 (t451.length : Int) x167_6 t433 t434 ((rd_T48 t447 x161_5).f0) ((rd_T48 t447 x161_5).f1) = some r) ∧ Aside0 (kq ≤ k5) ∧ Aside0 (Kd.S k59 59 w' w.heap.size (fun _ => True) (.slice Ao93 t436.length co93) t436) ∧ Aside0 (Kd.R k48 48 w' w.heap.size (fun k_ => some k_ ≠ ((.slice (some ad458) t447.length co97) : Value).ownBlock ∧ k_ ≠ gb435 ∧ k_ ≠ gb459) (.slice Ao104 t451.length co104) t451) ∧ Aside0 (Kd.R k48 48 w' w.heap.size (fun k_ => some k_ ≠ ((.slice Ao104 t451.length co104) : Value).ownBlock ∧ some k_ ≠ ((.slice Ao104 t451.length co104) : Value).ownBlock ∧ k_ ≠ gb435 ∧ k_ ≠ gb459) (.slice (some ad458) t447.length co97) t447) ∧ Aside0 (Kd.R k48 48 w' w.heap.size (fun k_ => some k_ ≠ ((.slice (some ad458) t447.length co97) : Value).ownBlock ∧ k_ ≠ gb435 ∧ k_ ≠ gb459) (.slice Ao104 t451.length co104) t451) ∧ Aside0 (w'.heap[gb435]? = some (.cells #[.string t433, .int .i64 t434] 48 (0, 0))) ∧ Aside0 (w'.heap[gb459]? = some (.cells #[.string ((rd_T48 t447 x161_5).f0), .int .i64 ((rd_T48 t447 x161_5).f1)] 48 (0, 0))) ∧ Aside0 (Below w.heap.size w w'))
                 case atStart => exact ⟨(false), (0), sq_e, sq_e, H', ⟨Nat.le_refl _⟩, ⟨by (with_reducible repeat (first | apply Kd.S_alloc | apply Kd.S_drewN | apply Kd.S_drew)); exact Kd.S_mono (Kd.S_far (p := ⟨gb459, 1, none⟩) (Kd.S_far (p := ⟨gb459, 0, none⟩) (Kd.S_types HO_19.out BK459.out (by decide)) (fun _ hk => hk.2) (.string ((rd_T48 t447 x161_5).f0))) (fun _ hk => hk.2) (.int .i64 ((rd_T48 t447 x161_5).f1))) (fun _ hk => trivial)⟩, ⟨by (with_reducible repeat (first | apply Kd.R_alloc | apply Kd.R_drewN | apply Kd.R_drew)); exact Kd.R_mono (Kd.R_far (p := ⟨gb459, 1, none⟩) (Kd.R_far (p := ⟨gb459, 0, none⟩) (Kd.R_mono HO_25.out (fun k_ hk => (⟨hk, hk.2⟩ : _ ∧ k_ ≠ gb459))) (fun _ hk => hk.2) (.string ((rd_T48 t447 x161_5).f0))) (fun _ hk => hk.2) (.int .i64 ((rd_T48 t447 x161_5).f1))) (fun _ hk => ⟨hk.1.1.1, ⟨hk.1.1.2, hk.1.2⟩⟩)⟩, ⟨by (with_reducible repeat (first | apply Kd.R_alloc | apply Kd.R_drewN | apply Kd.R_drew)); exact Kd.R_mono (Kd.R_far (p := ⟨gb459, 1, none⟩) (Kd.R_far (p := ⟨gb459, 0, none⟩) (Kd.R_mono HO_159.out (fun k_ hk => (⟨hk, hk.2⟩ : _ ∧ k_ ≠ gb459))) (fun _ hk => hk.2) (.string ((rd_T48 t447 x161_5).f0))) (fun _ hk => hk.2) (.int .i64 ((rd_T48 t447 x161_5).f1))) (fun _ hk => ⟨hk.1.1.1, ⟨hk.1.1.1, ⟨hk.1.1.2, hk.1.2⟩⟩⟩)⟩, ⟨by (with_reducible repeat (first | apply Kd.R_alloc | apply Kd.R_drewN | apply Kd.R_drew)); exact Kd.R_mono (Kd.R_far (p := ⟨gb459, 1, none⟩) (Kd.R_far (p := ⟨gb459, 0, none⟩) (Kd.R_mono HO_25.out (fun k_ hk => (⟨hk, hk.2⟩ : _ ∧ k_ ≠ gb459))) (fun _ hk => hk.2) (.string ((rd_T48 t447 x161_5).f0))) (fun _ hk => hk.2) (.int .i64 ((rd_T48 t447 x161_5).f1))) (fun _ hk => ⟨hk.1.1.1, ⟨hk.1.1.2, hk.1.2⟩⟩)⟩, ⟨by (with_reducible repeat (first | refine blk_drewN ?_ _ | refine blk_drew ?_ | refine blk_alloc ?_ _)); refine blk_far ?_ NB435_459.out _; (with_reducible repeat (first | refine blk_drewN ?_ _ | refine blk_drew ?_ | refine blk_alloc ?_ _)); refine blk_far ?_ NB435_459.out _; (with_reducible repeat (first | refine blk_drewN ?_ _ | refine blk_drew ?_ | refine blk_alloc ?_ _)); exact BK435.out⟩, ⟨by (with_reducible repeat (first | refine blk_drewN ?_ _ | refine blk_drew ?_ | refine blk_alloc ?_ _)); refine blk_put (cs := #[.string ((rd_T48 t447 x161_5).f0), .int .i64 0]) ?_ 1 _ rfl; (with_reducible repeat (first | refine blk_drewN ?_ _ | refine blk_drew ?_ | refine blk_alloc ?_ _)); refine blk_put (cs := #[.string (⟨#[]⟩ : ByteArray), .int .i64 0]) ?_ 0 _ rfl; (with_reducible repeat (first | refine blk_drewN ?_ _ | refine blk_drew ?_ | refine blk_alloc ?_ _)); exact BK459.out⟩, ⟨sq_g2 GE435.out GE459.out⟩⟩
                 case round => as_aux_lemma =>
                  clear H'
                  (try clear c1); (try clear c2); (try clear p2); (try clear c3); (try clear c3b0); (try clear p4); (try clear q4); (try clear hx4); (try clear c6); (try clear p6); (try clear c7); (try clear c8); (try clear c9); (try clear c10); (try clear c12); (try clear c12b0); (try clear c12b1); (try clear c12b2); (try clear c14); (try clear c25); (try clear c27); (try clear c30); (try clear c31)
                  (try clear c33); (try clear p45); (try clear q45); (try clear hx45); (try clear p64); (try clear c66); (try clear c66b0); (try clear c66b1); (try clear c66b2); (try clear c68); (try clear c70); (try clear c70b0); (try clear c70b1); (try clear c70b2); (try clear c74); (try clear c74b0); (try clear c74b1); (try clear c74b2); (try clear c87); (try clear c88); (try clear c95); (try clear c96)
                  (try clear c98); (try clear c98b0); (try clear c99); (try clear c99b0); (try clear c100); (try clear c100b0); (try clear c102); (try clear hcz103_0); (try clear hcz103_1); (try clear hcz61_0); (try clear hcz61_1); (try clear hcz64_0); (try clear hcz64_1); (try clear hfz103_0); (try clear hfz103_1); (try clear hfz61_0); (try clear hfz61_1); (try clear hfz64_0); (try clear hfz64_1)
                  (try clear hx458_0); (try clear hx458_1); (try clear p2); (try clear p458); (try clear p6); (try clear p64); (try clear q458)
                  obtain ⟨x29_6, x167_6, rfl, rfl, HA, HK6, HO_19, HO_25, HO_159, HO_165, BK435, BK459, HB⟩ := hrel
                  cases gk with
                  | zero => exact absurd HA.out (by simp [laws_FnLegs.l1])
                  | succ k6 =>
                   have H := HA.out
                   clear HA
                   simp only [laws_FnLegs.l1] at H
                   by_cases c105 : x167_6 < (t451.length : Int)
                   ·rw [if_pos c105] at H
                    have c105b0 : decide (x167_6 < (t451.length : Int)) = true := decide_eq_true c105
                    clear c105
                    by_cases c106 : 0 ≤ x167_6
                    rotate_left
                    ·rw [if_neg c106] at H
                     exact absurd H (by simp)
                    rw [if_pos c106] at H
                    have c106b0 : decide (0 ≤ x167_6) = true := decide_eq_true c106
                    clear c106
                    by_cases c107 : x167_6 < (t451.length : Int)
                    rotate_left
                    ·rw [if_neg c107] at H
                     exact absurd H (by simp)
                    rw [if_pos c107] at H
                    have c107b0 : decide (x167_6 < (t451.length : Int)) = true := decide_eq_true c107
                    clear c107
                    by_cases c108 : x29_6 = true
                    ·subst c108
                     have H1 : (laws_FnLegs.l1 k6 t436 t451 true t447 (t447.length : Int) x161_5 t451 (t451.length : Int) (wrap64 (x167_6 + 1)) t433 t434 ((rd_T48 t447 x161_5).f0) ((rd_T48 t447 x161_5).f1)) = some r := by rw [if_pos rfl] at H; exact H
                     clear H
                     have H := H1
                     clear H1
                     have H' := mk_ H
                     clear H
                     have p460 : 0 ≤ (x167_6 : Int) := sq_d
                     have q460 : x167_6 < (t451.length : Int) := sq_d
                     obtain ⟨ad460, e460, hx460_0, hx460_1⟩ := at_T48 (Kd.R_reads' HO_165.out).2.2 x167_6 p460 q460
                     cases e460
                     replace p460 := eq_true p460
                     replace q460 := eq_true q460
                     go_wp2_with (first | ((with_reducible refine gate_dst (N := 31) rfl ?_); refine box_event sq_0 (N := 31) sq_0 (cs := #[.string (⟨#[]⟩ : ByteArray), .int .i64 0]) (t := 48) sq_h ?_; intro gb461 hg w109 hbox hb; have n0_ := mk_ (Kd.S_below (sq_s HO_19) hb); have n1_ := mk_ (Kd.R_below (Kd.R_elderB (sq_r HO_25) gb461 (Nat.le_of_eq hg.symm)) hb); have n2_ := mk_ (Kd.R_below (Kd.R_elderB (sq_r HO_159) gb461 (Nat.le_of_eq hg.symm)) hb); have n3_ := mk_ (Kd.R_below (Kd.R_elderB (sq_r HO_165) gb461 (Nat.le_of_eq hg.symm)) hb); have n4_ := mk_ (blk_below (g := gb435) (o := .cells #[.string t433, .int .i64 t434] 48 (0, 0)) (sq_l BK435) hb); have n5_ := mk_ (blk_below (g := gb459) (o := .cells #[.string ((rd_T48 t447 x161_5).f0), .int .i64 ((rd_T48 t447 x161_5).f1)] 48 (0, 0)) (sq_l BK459) hb); have n6_ := mk_ (below_step (sq_g2 GE435.out GE459.out) hb); have n7_ := mk_ (hbox); have n8_ := mk_ ((by rw [hg]; exact (below_size (sq_g2 GE435.out GE459.out)) : w.heap.size ≤ gb461)); have n9_ := mk_ ((by rw [hg]; exact (below_size (sq_g2 GE435.out GE459.out)) : w.heap.size ≤ gb461)); have n10_ := mk_ ((by rw [hg]; exact Nat.ne_of_lt (blk_lt (g := gb435) (o := .cells #[.string t433, .int .i64 t434] 48 (0, 0)) (sq_l BK435)) : gb435 ≠ gb461)); have n11_ := mk_ ((by rw [hg]; exact Nat.ne_of_gt (blk_lt (g := gb435) (o := .cells #[.string t433, .int .i64 t434] 48 (0, 0)) (sq_l BK435)) : gb461 ≠ gb435)); have n12_ := mk_ ((by rw [hg]; exact Nat.ne_of_lt (blk_lt (g := gb459) (o := .cells #[.string ((rd_T48 t447 x161_5).f0), .int .i64 ((rd_T48 t447 x161_5).f1)] 48 (0, 0)) (sq_l BK459)) : gb459 ≠ gb461)); have n13_ := mk_ ((by rw [hg]; exact Nat.ne_of_gt (blk_lt (g := gb459) (o := .cells #[.string ((rd_T48 t447 x161_5).f0), .int .i64 ((rd_T48 t447 x161_5).f1)] 48 (0, 0)) (sq_l BK459)) : gb461 ≠ gb459)); clear HO_19 HO_25 HO_159 HO_165 BK435 BK459 HB; have HO_19 := n0_; have HO_25 := n1_; have HO_159 := n2_; have HO_165 := n3_; have BK435 := n4_; have BK459 := n5_; have HB := n6_; have BK461 := n7_; have GW461 := n8_; have GE461 := n9_; have NB435_461 := n10_; have NB461_435 := n11_; have NB459_461 := n12_; have NB461_459 := n13_; clear n0_ n1_ n2_ n3_ n4_ n5_ n6_ n7_ n8_ n9_ n10_ n11_ n12_ n13_; clear hb hbox hg; have hnb110 := NB461_435.out; have hnc110 := NB435_461.out; have hnb111 := NB461_459.out; have hnc111 := NB459_461.out; have hcz112_0 : w109.cell? ⟨gb461, 0, none⟩ = some (.string (⟨#[]⟩ : ByteArray)) := (blk_cell BK461.out 0).trans rfl; have hcz112_1 : w109.cell? ⟨gb461, 1, none⟩ = some (.int .i64 0) := (blk_cell BK461.out 1).trans rfl; have hfz112_0 := blk_frozen BK461.out 0; have hfz112_1 := blk_frozen BK461.out 1))
                     repeat (go_quiet (fail); try go_wp2_with (first | ((with_reducible refine gate_dst (N := 31) rfl ?_); refine box_event sq_0 (N := 31) sq_0 (cs := #[.string (⟨#[]⟩ : ByteArray), .int .i64 0]) (t := 48) sq_h ?_; intro gb461 hg w109 hbox hb; have n0_ := mk_ (Kd.S_below (sq_s HO_19) hb); have n1_ := mk_ (Kd.R_below (Kd.R_elderB (sq_r HO_25) gb461 (Nat.le_of_eq hg.symm)) hb); have n2_ := mk_ (Kd.R_below (Kd.R_elderB (sq_r HO_159) gb461 (Nat.le_of_eq hg.symm)) hb); have n3_ := mk_ (Kd.R_below (Kd.R_elderB (sq_r HO_165) gb461 (Nat.le_of_eq hg.symm)) hb); have n4_ := mk_ (blk_below (g := gb435) (o := .cells #[.string t433, .int .i64 t434] 48 (0, 0)) (sq_l BK435) hb); have n5_ := mk_ (blk_below (g := gb459) (o := .cells #[.string ((rd_T48 t447 x161_5).f0), .int .i64 ((rd_T48 t447 x161_5).f1)] 48 (0, 0)) (sq_l BK459) hb); have n6_ := mk_ (below_step (sq_g2 GE435.out GE459.out) hb); have n7_ := mk_ (hbox); have n8_ := mk_ ((by rw [hg]; exact (below_size (sq_g2 GE435.out GE459.out)) : w.heap.size ≤ gb461)); have n9_ := mk_ ((by rw [hg]; exact (below_size (sq_g2 GE435.out GE459.out)) : w.heap.size ≤ gb461)); have n10_ := mk_ ((by rw [hg]; exact Nat.ne_of_lt (blk_lt (g := gb435) (o := .cells #[.string t433, .int .i64 t434] 48 (0, 0)) (sq_l BK435)) : gb435 ≠ gb461)); have n11_ := mk_ ((by rw [hg]; exact Nat.ne_of_gt (blk_lt (g := gb435) (o := .cells #[.string t433, .int .i64 t434] 48 (0, 0)) (sq_l BK435)) : gb461 ≠ gb435)); have n12_ := mk_ ((by rw [hg]; exact Nat.ne_of_lt (blk_lt (g := gb459) (o := .cells #[.string ((rd_T48 t447 x161_5).f0), .int .i64 ((rd_T48 t447 x161_5).f1)] 48 (0, 0)) (sq_l BK459)) : gb459 ≠ gb461)); have n13_ := mk_ ((by rw [hg]; exact Nat.ne_of_gt (blk_lt (g := gb459) (o := .cells #[.string ((rd_T48 t447 x161_5).f0), .int .i64 ((rd_T48 t447 x161_5).f1)] 48 (0, 0)) (sq_l BK459)) : gb461 ≠ gb459)); clear HO_19 HO_25 HO_159 HO_165 BK435 BK459 HB; have HO_19 := n0_; have HO_25 := n1_; have HO_159 := n2_; have HO_165 := n3_; have BK435 := n4_; have BK459 := n5_; have HB := n6_; have BK461 := n7_; have GW461 := n8_; have GE461 := n9_; have NB435_461 := n10_; have NB461_435 := n11_; have NB459_461 := n12_; have NB461_459 := n13_; clear n0_ n1_ n2_ n3_ n4_ n5_ n6_ n7_ n8_ n9_ n10_ n11_ n12_ n13_; clear hb hbox hg; have hnb110 := NB461_435.out; have hnc110 := NB435_461.out; have hnb111 := NB461_459.out; have hnc111 := NB459_461.out; have hcz112_0 : w109.cell? ⟨gb461, 0, none⟩ = some (.string (⟨#[]⟩ : ByteArray)) := (blk_cell BK461.out 0).trans rfl; have hcz112_1 : w109.cell? ⟨gb461, 1, none⟩ = some (.int .i64 0) := (blk_cell BK461.out 1).trans rfl; have hfz112_0 := blk_frozen BK461.out 0; have hfz112_1 := blk_frozen BK461.out 1)))
                     go_roundg k6
                     case measure => have := HJ6.out; have := HJ25.out; have := HJ53.out; have := HJ90.out; have := HK5.out; have := HK6.out; omega
                     case rel => exact ⟨(true), (wrap64 (x167_6 + 1)), sq_e, sq_e, H', ⟨by have := HJ6.out; have := HJ25.out; have := HJ53.out; have := HJ90.out; have := HK5.out; have := HK6.out; omega⟩, ⟨by (with_reducible repeat (first | apply Kd.S_alloc | apply Kd.S_drewN | apply Kd.S_drew)); exact Kd.S_mono (Kd.S_far (p := ⟨gb461, 1, none⟩) (Kd.S_far (p := ⟨gb461, 0, none⟩) (Kd.S_types HO_19.out BK461.out (by decide)) (fun _ hk => hk.2) (.string ((rd_T48 t451 x167_6).f0))) (fun _ hk => hk.2) (.int .i64 ((rd_T48 t451 x167_6).f1))) (fun _ hk => trivial)⟩, ⟨by (with_reducible repeat (first | apply Kd.R_alloc | apply Kd.R_drewN | apply Kd.R_drew)); exact Kd.R_mono (Kd.R_far (p := ⟨gb461, 1, none⟩) (Kd.R_far (p := ⟨gb461, 0, none⟩) (Kd.R_mono HO_25.out (fun k_ hk => (⟨hk, hk.2⟩ : _ ∧ k_ ≠ gb461))) (fun _ hk => hk.2) (.string ((rd_T48 t451 x167_6).f0))) (fun _ hk => hk.2) (.int .i64 ((rd_T48 t451 x167_6).f1))) (fun _ hk => ⟨hk.1.1.1, ⟨hk.1.1.2.1, hk.1.1.2.2⟩⟩)⟩, ⟨by (with_reducible repeat (first | apply Kd.R_alloc | apply Kd.R_drewN | apply Kd.R_drew)); exact Kd.R_mono (Kd.R_far (p := ⟨gb461, 1, none⟩) (Kd.R_far (p := ⟨gb461, 0, none⟩) (Kd.R_mono HO_159.out (fun k_ hk => (⟨hk, hk.2⟩ : _ ∧ k_ ≠ gb461))) (fun _ hk => hk.2) (.string ((rd_T48 t451 x167_6).f0))) (fun _ hk => hk.2) (.int .i64 ((rd_T48 t451 x167_6).f1))) (fun _ hk => ⟨hk.1.1.1, ⟨hk.1.1.2.1, ⟨hk.1.1.2.2.1, hk.1.1.2.2.2⟩⟩⟩)⟩, ⟨by (with_reducible repeat (first | apply Kd.R_alloc | apply Kd.R_drewN | apply Kd.R_drew)); exact Kd.R_mono (Kd.R_far (p := ⟨gb461, 1, none⟩) (Kd.R_far (p := ⟨gb461, 0, none⟩) (Kd.R_mono HO_165.out (fun k_ hk => (⟨hk, hk.2⟩ : _ ∧ k_ ≠ gb461))) (fun _ hk => hk.2) (.string ((rd_T48 t451 x167_6).f0))) (fun _ hk => hk.2) (.int .i64 ((rd_T48 t451 x167_6).f1))) (fun _ hk => ⟨hk.1.1.1, ⟨hk.1.1.2.1, hk.1.1.2.2⟩⟩)⟩, ⟨by (with_reducible repeat (first | refine blk_drewN ?_ _ | refine blk_drew ?_ | refine blk_alloc ?_ _)); refine blk_far ?_ NB435_461.out _; (with_reducible repeat (first | refine blk_drewN ?_ _ | refine blk_drew ?_ | refine blk_alloc ?_ _)); refine blk_far ?_ NB435_461.out _; (with_reducible repeat (first | refine blk_drewN ?_ _ | refine blk_drew ?_ | refine blk_alloc ?_ _)); exact BK435.out⟩, ⟨by (with_reducible repeat (first | refine blk_drewN ?_ _ | refine blk_drew ?_ | refine blk_alloc ?_ _)); refine blk_far ?_ NB459_461.out _; (with_reducible repeat (first | refine blk_drewN ?_ _ | refine blk_drew ?_ | refine blk_alloc ?_ _)); refine blk_far ?_ NB459_461.out _; (with_reducible repeat (first | refine blk_drewN ?_ _ | refine blk_drew ?_ | refine blk_alloc ?_ _)); exact BK459.out⟩, ⟨sq_g3 GE435.out GE459.out GE461.out⟩⟩
                    ·replace c108 := Bool.eq_false_iff.mpr c108
                     subst c108
                     have H1 : (laws_FnLegs.l1 k6 t436 t451 (((rd_T48 t447 x161_5).f0).toList == (((rd_T48 t451 x167_6).f0).toList) && (((rd_T48 t447 x161_5).f1) == ((rd_T48 t451 x167_6).f1))) t447 (t447.length : Int) x161_5 t451 (t451.length : Int) (wrap64 (x167_6 + 1)) t433 t434 ((rd_T48 t447 x161_5).f0) ((rd_T48 t447 x161_5).f1)) = some r := by rw [if_neg (show ¬ (false = true) by decide)] at H; exact H
                     clear H
                     have H := H1
                     clear H1
                     have H' := mk_ H
                     clear H
                     have p460 : 0 ≤ (x167_6 : Int) := sq_d
                     have q460 : x167_6 < (t451.length : Int) := sq_d
                     obtain ⟨ad460, e460, hx460_0, hx460_1⟩ := at_T48 (Kd.R_reads' HO_165.out).2.2 x167_6 p460 q460
                     cases e460
                     replace p460 := eq_true p460
                     replace q460 := eq_true q460
                     go_wp2_with (first | ((with_reducible refine gate_dst (N := 31) rfl ?_); refine box_event sq_0 (N := 31) sq_0 (cs := #[.string (⟨#[]⟩ : ByteArray), .int .i64 0]) (t := 48) sq_h ?_; intro gb461 hg w113 hbox hb; have n0_ := mk_ (Kd.S_below (sq_s HO_19) hb); have n1_ := mk_ (Kd.R_below (Kd.R_elderB (sq_r HO_25) gb461 (Nat.le_of_eq hg.symm)) hb); have n2_ := mk_ (Kd.R_below (Kd.R_elderB (sq_r HO_159) gb461 (Nat.le_of_eq hg.symm)) hb); have n3_ := mk_ (Kd.R_below (Kd.R_elderB (sq_r HO_165) gb461 (Nat.le_of_eq hg.symm)) hb); have n4_ := mk_ (blk_below (g := gb435) (o := .cells #[.string t433, .int .i64 t434] 48 (0, 0)) (sq_l BK435) hb); have n5_ := mk_ (blk_below (g := gb459) (o := .cells #[.string ((rd_T48 t447 x161_5).f0), .int .i64 ((rd_T48 t447 x161_5).f1)] 48 (0, 0)) (sq_l BK459) hb); have n6_ := mk_ (below_step (sq_g2 GE435.out GE459.out) hb); have n7_ := mk_ (hbox); have n8_ := mk_ ((by rw [hg]; exact (below_size (sq_g2 GE435.out GE459.out)) : w.heap.size ≤ gb461)); have n9_ := mk_ ((by rw [hg]; exact (below_size (sq_g2 GE435.out GE459.out)) : w.heap.size ≤ gb461)); have n10_ := mk_ ((by rw [hg]; exact Nat.ne_of_lt (blk_lt (g := gb435) (o := .cells #[.string t433, .int .i64 t434] 48 (0, 0)) (sq_l BK435)) : gb435 ≠ gb461)); have n11_ := mk_ ((by rw [hg]; exact Nat.ne_of_gt (blk_lt (g := gb435) (o := .cells #[.string t433, .int .i64 t434] 48 (0, 0)) (sq_l BK435)) : gb461 ≠ gb435)); have n12_ := mk_ ((by rw [hg]; exact Nat.ne_of_lt (blk_lt (g := gb459) (o := .cells #[.string ((rd_T48 t447 x161_5).f0), .int .i64 ((rd_T48 t447 x161_5).f1)] 48 (0, 0)) (sq_l BK459)) : gb459 ≠ gb461)); have n13_ := mk_ ((by rw [hg]; exact Nat.ne_of_gt (blk_lt (g := gb459) (o := .cells #[.string ((rd_T48 t447 x161_5).f0), .int .i64 ((rd_T48 t447 x161_5).f1)] 48 (0, 0)) (sq_l BK459)) : gb461 ≠ gb459)); clear HO_19 HO_25 HO_159 HO_165 BK435 BK459 HB; have HO_19 := n0_; have HO_25 := n1_; have HO_159 := n2_; have HO_165 := n3_; have BK435 := n4_; have BK459 := n5_; have HB := n6_; have BK461 := n7_; have GW461 := n8_; have GE461 := n9_; have NB435_461 := n10_; have NB461_435 := n11_; have NB459_461 := n12_; have NB461_459 := n13_; clear n0_ n1_ n2_ n3_ n4_ n5_ n6_ n7_ n8_ n9_ n10_ n11_ n12_ n13_; clear hb hbox hg; have hnb114 := NB461_435.out; have hnc114 := NB435_461.out; have hnb115 := NB461_459.out; have hnc115 := NB459_461.out; have hcz116_0 : w113.cell? ⟨gb461, 0, none⟩ = some (.string (⟨#[]⟩ : ByteArray)) := (blk_cell BK461.out 0).trans rfl; have hcz116_1 : w113.cell? ⟨gb461, 1, none⟩ = some (.int .i64 0) := (blk_cell BK461.out 1).trans rfl; have hfz116_0 := blk_frozen BK461.out 0; have hfz116_1 := blk_frozen BK461.out 1; have hnb117 := NB459_435.out; have hnc117 := NB435_459.out; have hcz118_0 : w113.cell? ⟨gb459, 0, none⟩ = some (.string ((rd_T48 t447 x161_5).f0)) := (blk_cell BK459.out 0).trans rfl; have hcz118_1 : w113.cell? ⟨gb459, 1, none⟩ = some (.int .i64 ((rd_T48 t447 x161_5).f1)) := (blk_cell BK459.out 1).trans rfl; have hfz118_0 := blk_frozen BK459.out 0; have hfz118_1 := blk_frozen BK459.out 1))
                     repeat (go_quiet (fail); try go_wp2_with (first | ((with_reducible refine gate_dst (N := 31) rfl ?_); refine box_event sq_0 (N := 31) sq_0 (cs := #[.string (⟨#[]⟩ : ByteArray), .int .i64 0]) (t := 48) sq_h ?_; intro gb461 hg w113 hbox hb; have n0_ := mk_ (Kd.S_below (sq_s HO_19) hb); have n1_ := mk_ (Kd.R_below (Kd.R_elderB (sq_r HO_25) gb461 (Nat.le_of_eq hg.symm)) hb); have n2_ := mk_ (Kd.R_below (Kd.R_elderB (sq_r HO_159) gb461 (Nat.le_of_eq hg.symm)) hb); have n3_ := mk_ (Kd.R_below (Kd.R_elderB (sq_r HO_165) gb461 (Nat.le_of_eq hg.symm)) hb); have n4_ := mk_ (blk_below (g := gb435) (o := .cells #[.string t433, .int .i64 t434] 48 (0, 0)) (sq_l BK435) hb); have n5_ := mk_ (blk_below (g := gb459) (o := .cells #[.string ((rd_T48 t447 x161_5).f0), .int .i64 ((rd_T48 t447 x161_5).f1)] 48 (0, 0)) (sq_l BK459) hb); have n6_ := mk_ (below_step (sq_g2 GE435.out GE459.out) hb); have n7_ := mk_ (hbox); have n8_ := mk_ ((by rw [hg]; exact (below_size (sq_g2 GE435.out GE459.out)) : w.heap.size ≤ gb461)); have n9_ := mk_ ((by rw [hg]; exact (below_size (sq_g2 GE435.out GE459.out)) : w.heap.size ≤ gb461)); have n10_ := mk_ ((by rw [hg]; exact Nat.ne_of_lt (blk_lt (g := gb435) (o := .cells #[.string t433, .int .i64 t434] 48 (0, 0)) (sq_l BK435)) : gb435 ≠ gb461)); have n11_ := mk_ ((by rw [hg]; exact Nat.ne_of_gt (blk_lt (g := gb435) (o := .cells #[.string t433, .int .i64 t434] 48 (0, 0)) (sq_l BK435)) : gb461 ≠ gb435)); have n12_ := mk_ ((by rw [hg]; exact Nat.ne_of_lt (blk_lt (g := gb459) (o := .cells #[.string ((rd_T48 t447 x161_5).f0), .int .i64 ((rd_T48 t447 x161_5).f1)] 48 (0, 0)) (sq_l BK459)) : gb459 ≠ gb461)); have n13_ := mk_ ((by rw [hg]; exact Nat.ne_of_gt (blk_lt (g := gb459) (o := .cells #[.string ((rd_T48 t447 x161_5).f0), .int .i64 ((rd_T48 t447 x161_5).f1)] 48 (0, 0)) (sq_l BK459)) : gb461 ≠ gb459)); clear HO_19 HO_25 HO_159 HO_165 BK435 BK459 HB; have HO_19 := n0_; have HO_25 := n1_; have HO_159 := n2_; have HO_165 := n3_; have BK435 := n4_; have BK459 := n5_; have HB := n6_; have BK461 := n7_; have GW461 := n8_; have GE461 := n9_; have NB435_461 := n10_; have NB461_435 := n11_; have NB459_461 := n12_; have NB461_459 := n13_; clear n0_ n1_ n2_ n3_ n4_ n5_ n6_ n7_ n8_ n9_ n10_ n11_ n12_ n13_; clear hb hbox hg; have hnb114 := NB461_435.out; have hnc114 := NB435_461.out; have hnb115 := NB461_459.out; have hnc115 := NB459_461.out; have hcz116_0 : w113.cell? ⟨gb461, 0, none⟩ = some (.string (⟨#[]⟩ : ByteArray)) := (blk_cell BK461.out 0).trans rfl; have hcz116_1 : w113.cell? ⟨gb461, 1, none⟩ = some (.int .i64 0) := (blk_cell BK461.out 1).trans rfl; have hfz116_0 := blk_frozen BK461.out 0; have hfz116_1 := blk_frozen BK461.out 1; have hnb117 := NB459_435.out; have hnc117 := NB435_459.out; have hcz118_0 : w113.cell? ⟨gb459, 0, none⟩ = some (.string ((rd_T48 t447 x161_5).f0)) := (blk_cell BK459.out 0).trans rfl; have hcz118_1 : w113.cell? ⟨gb459, 1, none⟩ = some (.int .i64 ((rd_T48 t447 x161_5).f1)) := (blk_cell BK459.out 1).trans rfl; have hfz118_0 := blk_frozen BK459.out 0; have hfz118_1 := blk_frozen BK459.out 1)))
                     go_roundg k6
                     case measure => have := HJ6.out; have := HJ25.out; have := HJ53.out; have := HJ90.out; have := HK5.out; have := HK6.out; omega
                     case rel => exact ⟨((((rd_T48 t447 x161_5).f0).toList == (((rd_T48 t451 x167_6).f0).toList) && (((rd_T48 t447 x161_5).f1) == ((rd_T48 t451 x167_6).f1)))), (wrap64 (x167_6 + 1)), sq_e, sq_e, H', ⟨by have := HJ6.out; have := HJ25.out; have := HJ53.out; have := HJ90.out; have := HK5.out; have := HK6.out; omega⟩, ⟨by (with_reducible repeat (first | apply Kd.S_alloc | apply Kd.S_drewN | apply Kd.S_drew)); exact Kd.S_mono (Kd.S_far (p := ⟨gb461, 1, none⟩) (Kd.S_far (p := ⟨gb461, 0, none⟩) (Kd.S_types HO_19.out BK461.out (by decide)) (fun _ hk => hk.2) (.string ((rd_T48 t451 x167_6).f0))) (fun _ hk => hk.2) (.int .i64 ((rd_T48 t451 x167_6).f1))) (fun _ hk => trivial)⟩, ⟨by (with_reducible repeat (first | apply Kd.R_alloc | apply Kd.R_drewN | apply Kd.R_drew)); exact Kd.R_mono (Kd.R_far (p := ⟨gb461, 1, none⟩) (Kd.R_far (p := ⟨gb461, 0, none⟩) (Kd.R_mono HO_25.out (fun k_ hk => (⟨hk, hk.2⟩ : _ ∧ k_ ≠ gb461))) (fun _ hk => hk.2) (.string ((rd_T48 t451 x167_6).f0))) (fun _ hk => hk.2) (.int .i64 ((rd_T48 t451 x167_6).f1))) (fun _ hk => ⟨hk.1.1.1, ⟨hk.1.1.2.1, hk.1.1.2.2⟩⟩)⟩, ⟨by (with_reducible repeat (first | apply Kd.R_alloc | apply Kd.R_drewN | apply Kd.R_drew)); exact Kd.R_mono (Kd.R_far (p := ⟨gb461, 1, none⟩) (Kd.R_far (p := ⟨gb461, 0, none⟩) (Kd.R_mono HO_159.out (fun k_ hk => (⟨hk, hk.2⟩ : _ ∧ k_ ≠ gb461))) (fun _ hk => hk.2) (.string ((rd_T48 t451 x167_6).f0))) (fun _ hk => hk.2) (.int .i64 ((rd_T48 t451 x167_6).f1))) (fun _ hk => ⟨hk.1.1.1, ⟨hk.1.1.2.1, ⟨hk.1.1.2.2.1, hk.1.1.2.2.2⟩⟩⟩)⟩, ⟨by (with_reducible repeat (first | apply Kd.R_alloc | apply Kd.R_drewN | apply Kd.R_drew)); exact Kd.R_mono (Kd.R_far (p := ⟨gb461, 1, none⟩) (Kd.R_far (p := ⟨gb461, 0, none⟩) (Kd.R_mono HO_165.out (fun k_ hk => (⟨hk, hk.2⟩ : _ ∧ k_ ≠ gb461))) (fun _ hk => hk.2) (.string ((rd_T48 t451 x167_6).f0))) (fun _ hk => hk.2) (.int .i64 ((rd_T48 t451 x167_6).f1))) (fun _ hk => ⟨hk.1.1.1, ⟨hk.1.1.2.1, hk.1.1.2.2⟩⟩)⟩, ⟨by (with_reducible repeat (first | refine blk_drewN ?_ _ | refine blk_drew ?_ | refine blk_alloc ?_ _)); refine blk_far ?_ NB435_461.out _; (with_reducible repeat (first | refine blk_drewN ?_ _ | refine blk_drew ?_ | refine blk_alloc ?_ _)); refine blk_far ?_ NB435_461.out _; (with_reducible repeat (first | refine blk_drewN ?_ _ | refine blk_drew ?_ | refine blk_alloc ?_ _)); exact BK435.out⟩, ⟨by (with_reducible repeat (first | refine blk_drewN ?_ _ | refine blk_drew ?_ | refine blk_alloc ?_ _)); refine blk_far ?_ NB459_461.out _; (with_reducible repeat (first | refine blk_drewN ?_ _ | refine blk_drew ?_ | refine blk_alloc ?_ _)); refine blk_far ?_ NB459_461.out _; (with_reducible repeat (first | refine blk_drewN ?_ _ | refine blk_drew ?_ | refine blk_alloc ?_ _)); exact BK459.out⟩, ⟨sq_g3 GE435.out GE459.out GE461.out⟩⟩
                   ·rw [if_neg c105] at H
                    have c105b0 : decide (x167_6 < (t451.length : Int)) = false := decide_eq_false c105
                    clear c105
                    by_cases c119 : x29_6 = true
                    ·subst c119
                     have H1 : (laws_FnLegs.l0 k6 t436 t451 t447 (t447.length : Int) (wrap64 (x161_5 + 1)) t433 t434) = some r := by rw [if_pos rfl] at H; exact H
                     clear H
                     have H := H1
                     clear H1
                     have H' := mk_ H
                     clear H
                     go_wp2
                     repeat (go_quiet (fail); try go_wp2)
                     go_roundg k6
                     case measure => have := HJ6.out; have := HJ25.out; have := HJ53.out; have := HJ90.out; have := HK5.out; have := HK6.out; omega
                     case rel => exact ⟨(wrap64 (x161_5 + 1)), sq_e, H', ⟨by have := HJ6.out; have := HJ25.out; have := HJ53.out; have := HJ90.out; have := HK5.out; have := HK6.out; omega⟩, ⟨by (with_reducible repeat (first | apply Kd.S_alloc | apply Kd.S_drewN | apply Kd.S_drew)); exact HO_19.out⟩, ⟨by (with_reducible repeat (first | apply Kd.R_alloc | apply Kd.R_drewN | apply Kd.R_drew)); exact Kd.R_mono HO_25.out (fun _ hk => ⟨hk.1, hk.2.1⟩)⟩, ⟨by (with_reducible repeat (first | apply Kd.R_alloc | apply Kd.R_drewN | apply Kd.R_drew)); exact Kd.R_mono HO_159.out (fun _ hk => ⟨hk.1, hk.2.2.1⟩)⟩, ⟨by (with_reducible repeat (first | refine blk_drewN ?_ _ | refine blk_drew ?_ | refine blk_alloc ?_ _)); exact BK435.out⟩, ⟨sq_g2 GE435.out GE459.out⟩⟩
                    ·replace c119 := Bool.eq_false_iff.mpr c119
                     subst c119
                     have H1 : (if ((rd_T48 t447 x161_5).f0).toList = t433.toList then (laws_FnLegs.l0 k6 t436 t451 t447 (t447.length : Int) (wrap64 (x161_5 + 1)) t433 t434) else (some false)) = some r := by rw [if_neg (show ¬ (false = true) by decide)] at H; exact H
                     clear H
                     have H := H1
                     clear H1
                     by_cases c120 : ((rd_T48 t447 x161_5).f0).toList = t433.toList
                     ·rw [if_pos c120] at H
                      have c120b0 : (((rd_T48 t447 x161_5).f0).toList == t433.toList) = true := beq_iff_eq.mpr c120
                      have c120b1 : (((rd_T48 t447 x161_5).f0).toList != t433.toList) = false := bne_eq_false_iff_eq.mpr c120
                      clear c120
                      have H' := mk_ H
                      clear H
                      have hnb121 := NB459_435.out
                      have hnc121 := NB435_459.out
                      have hcz122_0 : wr.cell? ⟨gb459, 0, none⟩ = some (.string ((rd_T48 t447 x161_5).f0)) := (blk_cell BK459.out 0).trans rfl
                      have hcz122_1 : wr.cell? ⟨gb459, 1, none⟩ = some (.int .i64 ((rd_T48 t447 x161_5).f1)) := (blk_cell BK459.out 1).trans rfl
                      have hfz122_0 := blk_frozen BK459.out 0
                      have hfz122_1 := blk_frozen BK459.out 1
                      have hcz123_0 : wr.cell? ⟨gb435, 0, none⟩ = some (.string t433) := (blk_cell BK435.out 0).trans rfl
                      have hcz123_1 : wr.cell? ⟨gb435, 1, none⟩ = some (.int .i64 t434) := (blk_cell BK435.out 1).trans rfl
                      have hfz123_0 := blk_frozen BK435.out 0
                      have hfz123_1 := blk_frozen BK435.out 1
                      go_wp2
                      repeat (go_quiet (fail); try go_wp2)
                      go_roundg k6
                      case measure => have := HJ6.out; have := HJ25.out; have := HJ53.out; have := HJ90.out; have := HK5.out; have := HK6.out; omega
                      case rel => exact ⟨(wrap64 (x161_5 + 1)), sq_e, H', ⟨by have := HJ6.out; have := HJ25.out; have := HJ53.out; have := HJ90.out; have := HK5.out; have := HK6.out; omega⟩, ⟨by (with_reducible repeat (first | apply Kd.S_alloc | apply Kd.S_drewN | apply Kd.S_drew)); exact HO_19.out⟩, ⟨by (with_reducible repeat (first | apply Kd.R_alloc | apply Kd.R_drewN | apply Kd.R_drew)); exact Kd.R_mono HO_25.out (fun _ hk => ⟨hk.1, hk.2.1⟩)⟩, ⟨by (with_reducible repeat (first | apply Kd.R_alloc | apply Kd.R_drewN | apply Kd.R_drew)); exact Kd.R_mono HO_159.out (fun _ hk => ⟨hk.1, hk.2.2.1⟩)⟩, ⟨by (with_reducible repeat (first | refine blk_drewN ?_ _ | refine blk_drew ?_ | refine blk_alloc ?_ _)); exact BK435.out⟩, ⟨sq_g2 GE435.out GE459.out⟩⟩
                     ·rw [if_neg c120] at H
                      have c120b0 : (((rd_T48 t447 x161_5).f0).toList == t433.toList) = false := beq_eq_false_iff_ne.mpr c120
                      have c120b1 : (((rd_T48 t447 x161_5).f0).toList != t433.toList) = true := bne_iff_ne.mpr c120
                      obtain rfl := Option.some.inj H
                      cases hrt
                ·rw [if_neg c98] at H
                 have c98b0 : decide (x161_5 < (t447.length : Int)) = false := decide_eq_false c98
                 clear c98
                 replace H := Option.bind_eq_some_iff.mp H
                 obtain ⟨⟨t455, t456⟩, A1270, H⟩ := H
                 replace H : (if t456 = true then (if 0 ≤ t455 then (if t455 < (t436.length : Int) then (some (((rd_T59 t436 t455).f1) == t434)) else (none)) else (none)) else (some false)) = some r := H
                 have A127 := mk_ A1270
                 clear A1270
                 by_cases c128 : t456 = true
                 ·subst c128
                  have H1 : (if 0 ≤ t455 then (if t455 < (t436.length : Int) then (some (((rd_T59 t436 t455).f1) == t434)) else (none)) else (none)) = some r := by rw [if_pos rfl] at H; exact H
                  clear H
                  have H := H1
                  clear H1
                  by_cases c129 : 0 ≤ t455
                  rotate_left
                  ·rw [if_neg c129] at H
                   exact absurd H (by simp)
                  rw [if_pos c129] at H
                  have c129b0 : decide (0 ≤ t455) = true := decide_eq_true c129
                  clear c129
                  by_cases c130 : t455 < (t436.length : Int)
                  rotate_left
                  ·rw [if_neg c130] at H
                   exact absurd H (by simp)
                  rw [if_pos c130] at H
                  have c130b0 : decide (t455 < (t436.length : Int)) = true := decide_eq_true c130
                  clear c130
                  obtain rfl := Option.some.inj H
                  have hcz131_0 : wr.cell? ⟨gb435, 0, none⟩ = some (.string t433) := (blk_cell BK435.out 0).trans rfl
                  have hcz131_1 : wr.cell? ⟨gb435, 1, none⟩ = some (.int .i64 t434) := (blk_cell BK435.out 1).trans rfl
                  have hfz131_0 := blk_frozen BK435.out 0
                  have hfz131_1 := blk_frozen BK435.out 1
                  go_wp2_with (first | (go_at_call 25; (with_reducible refine (impl_WalkLegs.calls k5 _ _ t436 t433 t455 true _ ?side1 ?side2 A127.out).mono ?_); (case side1 => exact sq_c (Kd.S_reads' HO_19.out).2.2); (case side2 => exact (Kd.S_reads' HO_19.out).2.1); rintro e w132 ⟨rfl, hb⟩; have n0_ := mk_ (Kd.S_below (sq_s HO_19) hb); have n1_ := mk_ (Kd.R_below (sq_r HO_25) hb); have n2_ := mk_ (Kd.R_below (sq_r HO_159) hb); have n3_ := mk_ (blk_below (g := gb435) (o := .cells #[.string t433, .int .i64 t434] 48 (0, 0)) (sq_l BK435) hb); have n4_ := mk_ (below_step (sq_g GE435.out) hb); clear HO_19 HO_25 HO_159 BK435 HB; have HO_19 := n0_; have HO_25 := n1_; have HO_159 := n2_; have BK435 := n3_; have HB := n4_; clear n0_ n1_ n2_ n3_ n4_; (try clear hb); have p457 : 0 ≤ (t455 : Int) := sq_d; have q457 : t455 < (t436.length : Int) := sq_d; obtain ⟨ad457, A457_3, c457_3, e457, hx457_0, hx457_1, hx457_2, hx457_3, hl457_3, hi457_3⟩ := at_T59 (Kd.S_reads' HO_19.out).2.2 t455 p457 q457; cases e457; obtain ⟨ce457, hce457, hMe457, hcc457⟩ := Kd.S_get HO_19.out z59 t455 p457 (by first | exact q457 | exact sq_d | (have e_ := (Kd.S_reads' HO_19.out).1; omega)); obtain ⟨ve457_3, rfl, ge457_3⟩ := k59_openM hMe457; have hv457_3 := hcc457 3 _ rfl; rw [add_field _ _ 3 (by omega)] at hv457_3; replace hv457_3 := Option.some.inj (hv457_3.symm.trans hx457_3); rw [hv457_3] at ge457_3; have HL457_3 := mk_ (show Kd.R (Kd.int .i64) 3 _ _ _ _ ((rd_T59 t436 t455).f3) from ge457_3); clear hv457_3 ge457_3; clear hcc457 hce457; have HR457_3 := mk_ hi457_3; have HC457_3 := mk_ hl457_3; clear hi457_3 hl457_3; replace p457 := eq_true p457; replace q457 := eq_true q457; have hcz133_0 : w132.cell? ⟨gb435, 0, none⟩ = some (.string t433) := (blk_cell BK435.out 0).trans rfl; have hcz133_1 : w132.cell? ⟨gb435, 1, none⟩ = some (.int .i64 t434) := (blk_cell BK435.out 1).trans rfl; have hfz133_0 := blk_frozen BK435.out 0; have hfz133_1 := blk_frozen BK435.out 1))
                  repeat (go_quiet (first | (go_at_call 25; (with_reducible refine (impl_WalkLegs.calls k5 _ _ t436 t433 t455 true _ ?side1 ?side2 A127.out).mono ?_); (case side1 => exact sq_c (Kd.S_reads' HO_19.out).2.2); (case side2 => exact (Kd.S_reads' HO_19.out).2.1); rintro e w132 ⟨rfl, hb⟩; have n0_ := mk_ (Kd.S_below (sq_s HO_19) hb); have n1_ := mk_ (Kd.R_below (sq_r HO_25) hb); have n2_ := mk_ (Kd.R_below (sq_r HO_159) hb); have n3_ := mk_ (blk_below (g := gb435) (o := .cells #[.string t433, .int .i64 t434] 48 (0, 0)) (sq_l BK435) hb); have n4_ := mk_ (below_step (sq_g GE435.out) hb); clear HO_19 HO_25 HO_159 BK435 HB; have HO_19 := n0_; have HO_25 := n1_; have HO_159 := n2_; have BK435 := n3_; have HB := n4_; clear n0_ n1_ n2_ n3_ n4_; (try clear hb); have p457 : 0 ≤ (t455 : Int) := sq_d; have q457 : t455 < (t436.length : Int) := sq_d; obtain ⟨ad457, A457_3, c457_3, e457, hx457_0, hx457_1, hx457_2, hx457_3, hl457_3, hi457_3⟩ := at_T59 (Kd.S_reads' HO_19.out).2.2 t455 p457 q457; cases e457; obtain ⟨ce457, hce457, hMe457, hcc457⟩ := Kd.S_get HO_19.out z59 t455 p457 (by first | exact q457 | exact sq_d | (have e_ := (Kd.S_reads' HO_19.out).1; omega)); obtain ⟨ve457_3, rfl, ge457_3⟩ := k59_openM hMe457; have hv457_3 := hcc457 3 _ rfl; rw [add_field _ _ 3 (by omega)] at hv457_3; replace hv457_3 := Option.some.inj (hv457_3.symm.trans hx457_3); rw [hv457_3] at ge457_3; have HL457_3 := mk_ (show Kd.R (Kd.int .i64) 3 _ _ _ _ ((rd_T59 t436 t455).f3) from ge457_3); clear hv457_3 ge457_3; clear hcc457 hce457; have HR457_3 := mk_ hi457_3; have HC457_3 := mk_ hl457_3; clear hi457_3 hl457_3; replace p457 := eq_true p457; replace q457 := eq_true q457; have hcz133_0 : w132.cell? ⟨gb435, 0, none⟩ = some (.string t433) := (blk_cell BK435.out 0).trans rfl; have hcz133_1 : w132.cell? ⟨gb435, 1, none⟩ = some (.int .i64 t434) := (blk_cell BK435.out 1).trans rfl; have hfz133_0 := blk_frozen BK435.out 0; have hfz133_1 := blk_frozen BK435.out 1)); try go_wp2_with (first | (go_at_call 25; (with_reducible refine (impl_WalkLegs.calls k5 _ _ t436 t433 t455 true _ ?side1 ?side2 A127.out).mono ?_); (case side1 => exact sq_c (Kd.S_reads' HO_19.out).2.2); (case side2 => exact (Kd.S_reads' HO_19.out).2.1); rintro e w132 ⟨rfl, hb⟩; have n0_ := mk_ (Kd.S_below (sq_s HO_19) hb); have n1_ := mk_ (Kd.R_below (sq_r HO_25) hb); have n2_ := mk_ (Kd.R_below (sq_r HO_159) hb); have n3_ := mk_ (blk_below (g := gb435) (o := .cells #[.string t433, .int .i64 t434] 48 (0, 0)) (sq_l BK435) hb); have n4_ := mk_ (below_step (sq_g GE435.out) hb); clear HO_19 HO_25 HO_159 BK435 HB; have HO_19 := n0_; have HO_25 := n1_; have HO_159 := n2_; have BK435 := n3_; have HB := n4_; clear n0_ n1_ n2_ n3_ n4_; (try clear hb); have p457 : 0 ≤ (t455 : Int) := sq_d; have q457 : t455 < (t436.length : Int) := sq_d; obtain ⟨ad457, A457_3, c457_3, e457, hx457_0, hx457_1, hx457_2, hx457_3, hl457_3, hi457_3⟩ := at_T59 (Kd.S_reads' HO_19.out).2.2 t455 p457 q457; cases e457; obtain ⟨ce457, hce457, hMe457, hcc457⟩ := Kd.S_get HO_19.out z59 t455 p457 (by first | exact q457 | exact sq_d | (have e_ := (Kd.S_reads' HO_19.out).1; omega)); obtain ⟨ve457_3, rfl, ge457_3⟩ := k59_openM hMe457; have hv457_3 := hcc457 3 _ rfl; rw [add_field _ _ 3 (by omega)] at hv457_3; replace hv457_3 := Option.some.inj (hv457_3.symm.trans hx457_3); rw [hv457_3] at ge457_3; have HL457_3 := mk_ (show Kd.R (Kd.int .i64) 3 _ _ _ _ ((rd_T59 t436 t455).f3) from ge457_3); clear hv457_3 ge457_3; clear hcc457 hce457; have HR457_3 := mk_ hi457_3; have HC457_3 := mk_ hl457_3; clear hi457_3 hl457_3; replace p457 := eq_true p457; replace q457 := eq_true q457; have hcz133_0 : w132.cell? ⟨gb435, 0, none⟩ = some (.string t433) := (blk_cell BK435.out 0).trans rfl; have hcz133_1 : w132.cell? ⟨gb435, 1, none⟩ = some (.int .i64 t434) := (blk_cell BK435.out 1).trans rfl; have hfz133_0 := blk_frozen BK435.out 0; have hfz133_1 := blk_frozen BK435.out 1)))
                  go_ret
                  exact ⟨sq_w, sq_g GE435.out⟩
                 ·replace c128 := Bool.eq_false_iff.mpr c128
                  subst c128
                  have H1 : (some false) = some r := by rw [if_neg (show ¬ (false = true) by decide)] at H; exact H
                  clear H
                  have H := H1
                  clear H1
                  obtain rfl := Option.some.inj H
                  cases hrt
          ·replace c88 := Bool.eq_false_iff.mpr c88
           subst c88
           have H1 : (some true) = some r := by rw [if_neg (show ¬ (false = true) by decide)] at H; exact H
           clear H
           have H := H1
           clear H1
           obtain rfl := Option.some.inj H
           go_wp2
           repeat (go_quiet (fail); try go_wp2)
           go_ret
           exact ⟨sq_w, sq_g GE435.out⟩

/-- THE ONE PURE STATEMENT of laws_FnLegs: yours. -/
def laws_FnLegs.Pure : Prop := ∀ (l0 : List Int) (l1 : List Int), l0.length ≤ maxLen → l0.length * 1 ≤ 140737488351232 → (∀ x ∈ l0, (Lit.int .u8 x).wf = true) → l1.length ≤ maxLen → l1.length * 1 ≤ 140737488351232 → (∀ x ∈ l1, (Lit.int .u8 x).wf = true) → ∃ k, laws_FnLegs.f k l0 l1 = some true
theorem laws_FnLegs.walk (P : laws_FnLegs.Pure) (a0 : Option Addr) (len0 cap0 : Nat) (z0 : List Int) (a1 : Option Addr) (len1 cap1 : Nat) (z1 : List Int) (w : World) (w0 : (a0 = none ∧ len0 = 0 ∧ cap0 = 0 ∧ z0 = []) ∨ ∃ x, a0 = some x ∧ len0 ≤ cap0 ∧ cap0 ≤ maxLen ∧ z0.length = cap0 ∧ (∀ i, i < z0.length → w.cell? (x.add i) = some (.int .u8 (z0.getD i 0))) ∧ ∀ n ∈ z0, (Lit.int .u8 n).wf = true) (y0 : len0 * 1 ≤ 140737488351232) (w1 : (a1 = none ∧ len1 = 0 ∧ cap1 = 0 ∧ z1 = []) ∨ ∃ x, a1 = some x ∧ len1 ≤ cap1 ∧ cap1 ≤ maxLen ∧ z1.length = cap1 ∧ (∀ i, i < z1.length → w.cell? (x.add i) = some (.int .u8 (z1.getD i 0))) ∧ ∀ n ∈ z1, (Lit.int .u8 n).wf = true) (y1 : len1 * 1 ≤ 140737488351232) :
  Calls Try.prog 8 #[.slice a0 len0 cap0, .slice a1 len1 cap1] w fun e w' => e = .returned (.bool true) ∧ Below w.heap.size w w' := by
 obtain ⟨l0, rfl, hr0, hm0, hw0, hc0⟩ := ReadsInt.ofRowC w0
 obtain ⟨l1, rfl, hr1, hm1, hw1, hc1⟩ := ReadsInt.ofRowC w1
 obtain ⟨k, h⟩ := P l0 l1 hm0 y0 hw0 hm1 y1 hw1
 refine (laws_FnLegs.calls k _ _ l0 _ _ l1 true rfl w (Kd.C_of_reads (d := (0 : Int)) (h1 := fun _ => rfl) hr0) hc0 (Kd.C_of_reads (d := (0 : Int)) (h1 := fun _ => rfl) hr1) hc1 h).mono ?_
 rintro e w' ⟨rfl, hd⟩
 exact ⟨rfl, hd⟩

end Go.Proofs.Ytkoackkimdanjaa.QFnLegs
