-- Written by this session's own program (wip/lawgen.py) out of the given translation. Not trusted: Lean checks it.
import Derived.Test.YtkijaolkfkgneaaExtG
import Derived.Test.YtkijaolkfkgneaaExtS
import Derived.Test.YtkijaolkfkgneaaQFnExactThresholdx0
import Derived.Test.YtkijaolkfkgneaaQFnExactThresholdx1
import Derived.Test.YtkijaolkfkgneaaQFnExactThresholdx2
import Derived.Test.YtkijaolkfkgneaaQFnExactThresholdx3
import Derived.Test.YtkijaolkfkgneaaQFnExactThresholdx4
import Derived.Test.YtkijaolkfkgneaaQFnExactThresholdx5
import Derived.Test.YtkijaolkfkgneaaQFnExactThresholdx6
import Derived.Test.YtkijaolkfkgneaaQFnExactThresholdx7
import Derived.Test.YtkijaolkfkgneaaQFnExactThresholdx8
import Derived.Test.YtkijaolkfkgneaaQFnExactThresholdx9
import Derived.Test.YtkijaolkfkgneaaQFnExactThresholdx10
import Derived.Test.YtkijaolkfkgneaaQFnExactThresholdx11
import Derived.Test.YtkijaolkfkgneaaQFnExactThresholdx12
namespace Go.Proofs.Ytkijaolkfkgneaa.QFnExactThreshold
open Go.RowKit Go.Proofs.YtkijaolkfkgneaaW.PrintWords Go.Proofs.YtkijaolkfkgneaaW.PrintLast Go.Proofs.YtkijaolkfkgneaaW.PrintMore
open Go.Proofs.Ytkijaolkfkgneaa.Ext
set_option linter.unusedVariables false
set_option linter.unusedSimpArgs false
def laws_FnExactThreshold.Ok (k : Nat) (l0 : List (List (S151))) (a1 : Int) : Prop := ∃ (t2 : Int), (laws_szScoreSS.f k l0 1048576 = some t2) ∧ (t2 < 0 ∨ (0 ≤ t2 ∧ ∃ (t5 : List (List (S107))), (laws_toScoreSS.f k l0 = some t5) ∧ ∃ (t8 : List (S107)) (t9 : Int) (t10 : Bool), (spec_Threshold.f k t5 a1 = some (t8, t9, t10)) ∧ ∃ (t14 : List (S107)), (impl_Threshold.f k t5 a1 = some (t14, t9, t10)) ∧ (laws_eqScoreS.f k t14 t8 = some true) ∧ (laws_eqScoreSS.f k t5 t5 = some true) ∧ ∃ (t26 : Int) (t27 : List (List (S107))), (laws_markScoreSS.f k t5 1 = some (t26, t27)) ∧ 0 ≤ t26 ∧ ∃ (t31 : Int) (t32 : List (S107)), (laws_markScoreS.f k t14 1 = some (t31, t32)) ∧ (laws_heldScoreS.f k t32 1 = some t31) ∧ 0 ≤ t31 ∧ 0 ≤ t31 ∧ True))
set_option maxHeartbeats 8000000 in
set_option maxRecDepth 100000 in
theorem laws_FnExactThreshold.calls (k : Nat) (A0 : Option Addr) (c0 : Nat) (l0 : List (List (S151))) (a1 : Int) (w : World) (hr0 : Kd.C (Kd.slice 151 k151) w A0 l0.length l0) (hc0 : l0.length ≤ c0) (h : laws_FnExactThreshold.Ok k l0 a1) :
    Calls Try.prog 6 #[.slice A0 l0.length c0, .int .i64 a1] w fun e w' => e = .returned (.bool true) ∧ Below w.heap.size w w' := by
  unfold laws_FnExactThreshold.Ok at h
  have HR0 := Aside0.mk hr0
  have HC0 := Aside0.mk hc0
  clear hr0 hc0
  have HB := Aside0.mk (Below.refl w.heap.size w)
  obtain ⟨t2, F3, h⟩ := h
  replace F3 := Aside0.mk F3
  rcases h with h | ⟨c41, h⟩
  · have c41b : decide (t2 < 0) = true := decide_eq_true h
    clear h
    go_enter Try.func6, Try.ntmps6
    go_wp2_with fail
    (with_reducible refine (laws_szScoreSS.calls k _ _ l0 1048576 t2 _ ?s1 ?s2 F3.out).mono ?_)
    case s1 => exact Kd.C_below HR0.out (sq_c HB)
    case s2 => exact HC0.out
    rintro e w1 ⟨rfl, hd⟩
    have hb := hd.below
    clear hd
    have Z1 := Aside0.mk hb.size
    replace HB := Aside0.mk (below_step (sq_c HB) hb)
    clear hb
    go_wp2_with fail
    go_ret
    exact ⟨rfl, sq_c HB⟩
  · have c41b : decide (t2 < 0) = false := decide_eq_false (by omega)
    clear c41
    obtain ⟨t5, F6, h⟩ := h
    replace F6 := Aside0.mk F6
    obtain ⟨t8, t9, t10, F11, h⟩ := h
    replace F11 := Aside0.mk F11
    obtain ⟨t14, F17, h⟩ := h
    replace F17 := Aside0.mk F17
    obtain ⟨F20, h⟩ := h
    replace F20 := Aside0.mk F20
    obtain ⟨F24, h⟩ := h
    replace F24 := Aside0.mk F24
    obtain ⟨t26, t27, F28, h⟩ := h
    replace F28 := Aside0.mk F28
    obtain ⟨c42, h⟩ := h
    have c42b : decide (t26 < 0) = false := decide_eq_false (by omega)
    clear c42
    obtain ⟨t31, t32, F33, h⟩ := h
    replace F33 := Aside0.mk F33
    obtain ⟨F36, h⟩ := h
    replace F36 := Aside0.mk F36
    obtain ⟨c43, h⟩ := h
    have c43b : decide (t31 < 0) = false := decide_eq_false (by omega)
    clear c43
    obtain ⟨c44, h⟩ := h
    have c44b : decide (t31 < 0) = false := decide_eq_false (by omega)
    clear c44
    clear h
    go_enter Try.func6, Try.ntmps6
    go_wp2_with fail
    (with_reducible refine (laws_szScoreSS.calls k _ _ l0 1048576 t2 _ ?s1 ?s2 F3.out).mono ?_)
    case s1 => exact Kd.C_below HR0.out (sq_c HB)
    case s2 => exact HC0.out
    rintro e w1 ⟨rfl, hd⟩
    have hb := hd.below
    clear hd
    have Z1 := Aside0.mk hb.size
    replace HB := Aside0.mk (below_step (sq_c HB) hb)
    clear hb
    go_wp2_with fail
    (with_reducible refine (laws_toScoreSS.calls k _ _ l0 t5 _ ?s1 ?s2 F6.out).mono ?_)
    case s1 => exact Kd.C_below HR0.out (sq_c HB)
    case s2 => exact HC0.out
    rintro e w2 ⟨v0_, rfl, hov0_, hb⟩
    have Z2 := Aside0.mk hb.size
    have X1 := Aside0.mk (inS_new (b := w.heap.size) hov0_ (below_size (sq_c HB)))
    clear hov0_
    obtain ⟨B1, D1, eo_⟩ := Kd.S_slice X1.out
    subst eo_
    replace HB := Aside0.mk (below_step (sq_c HB) hb)
    clear hb
    go_wp2_with fail
    (with_reducible refine (spec_Threshold.calls k _ _ t5 a1 t8 t9 t10 _ ?s1 ?s2 F11.out).mono ?_)
    case s1 => exact inS_C (sq_s X1)
    case s2 => exact inS_cap X1.out
    rintro e w3 ⟨v0_, rfl, hov0_, hb⟩
    have Z3 := Aside0.mk hb.size
    replace X1 := Aside0.mk (Kd.S_below (sq_s X1) hb)
    have X2 := Aside0.mk (inR_new (b := w.heap.size) hov0_ (below_size (sq_c HB)))
    clear hov0_
    obtain ⟨B2, D2, eo_⟩ := Kd.R_slice X2.out
    subst eo_
    replace HB := Aside0.mk (below_step (sq_c HB) hb)
    clear hb
    go_wp2_with fail
    (with_reducible refine (laws_toScoreSS.calls k _ _ l0 t5 _ ?s1 ?s2 F6.out).mono ?_)
    case s1 => exact Kd.C_below HR0.out (sq_c HB)
    case s2 => exact HC0.out
    rintro e w4 ⟨v0_, rfl, hov0_, hb⟩
    have Z4 := Aside0.mk hb.size
    replace X1 := Aside0.mk (Kd.S_below (sq_s X1) hb)
    replace X2 := Aside0.mk (Kd.R_below (sq_r X2) hb)
    have X3 := Aside0.mk (inS_new (b := w.heap.size) hov0_ (below_size (sq_c HB)))
    clear hov0_
    obtain ⟨B3, D3, eo_⟩ := Kd.S_slice X3.out
    subst eo_
    replace HB := Aside0.mk (below_step (sq_c HB) hb)
    clear hb
    go_wp2_with fail
    (with_reducible refine (impl_Threshold.calls k _ _ t5 a1 t14 t9 t10 _ ?s1 ?s2 F17.out).mono ?_)
    case s1 => exact inS_C (sq_s X3)
    case s2 => exact inS_cap X3.out
    rintro e w5 ⟨v0_, rfl, hov0_, hb⟩
    have Z5 := Aside0.mk hb.size
    replace X1 := Aside0.mk (Kd.S_below (sq_s X1) hb)
    replace X2 := Aside0.mk (Kd.R_below (sq_r X2) hb)
    replace X3 := Aside0.mk (Kd.S_below (sq_s X3) hb)
    have X4 := Aside0.mk (inR_new (b := w.heap.size) hov0_ (below_size (sq_c HB)))
    clear hov0_
    obtain ⟨B4, D4, eo_⟩ := Kd.R_slice X4.out
    subst eo_
    replace HB := Aside0.mk (below_step (sq_c HB) hb)
    clear hb
    go_wp2_with fail
    (with_reducible refine (laws_eqScoreS.calls k _ _ t14 _ _ t8 true _ ?s1 ?s2 ?s3 ?s4 F20.out).mono ?_)
    case s1 => exact inR_C (sq_r X4)
    case s2 => exact inR_cap X4.out
    case s3 => exact inR_C (sq_r X2)
    case s4 => exact inR_cap X2.out
    rintro e w6 ⟨rfl, hb⟩
    have Z6 := Aside0.mk hb.size
    replace X1 := Aside0.mk (Kd.S_below (sq_s X1) hb)
    replace X2 := Aside0.mk (Kd.R_below (sq_r X2) hb)
    replace X3 := Aside0.mk (Kd.S_below (sq_s X3) hb)
    replace X4 := Aside0.mk (Kd.R_below (sq_r X4) hb)
    replace HB := Aside0.mk (below_step (sq_c HB) hb)
    clear hb
    go_wp2_with fail
    (with_reducible refine (laws_toScoreSS.calls k _ _ l0 t5 _ ?s1 ?s2 F6.out).mono ?_)
    case s1 => exact Kd.C_below HR0.out (sq_c HB)
    case s2 => exact HC0.out
    rintro e w7 ⟨v0_, rfl, hov0_, hb⟩
    have Z7 := Aside0.mk hb.size
    replace X1 := Aside0.mk (Kd.S_below (sq_s X1) hb)
    replace X2 := Aside0.mk (Kd.R_below (sq_r X2) hb)
    replace X3 := Aside0.mk (Kd.S_below (sq_s X3) hb)
    replace X4 := Aside0.mk (Kd.R_below (sq_r X4) hb)
    have X5 := Aside0.mk (inS_new (b := w.heap.size) hov0_ (below_size (sq_c HB)))
    clear hov0_
    obtain ⟨B5, D5, eo_⟩ := Kd.S_slice X5.out
    subst eo_
    replace HB := Aside0.mk (below_step (sq_c HB) hb)
    clear hb
    go_wp2_with fail
    (with_reducible refine (laws_eqScoreSS.calls k _ _ t5 _ _ t5 true _ ?s1 ?s2 ?s3 ?s4 F24.out).mono ?_)
    case s1 => exact inS_C (sq_s X3)
    case s2 => exact inS_cap X3.out
    case s3 => exact inS_C (sq_s X5)
    case s4 => exact inS_cap X5.out
    rintro e w8 ⟨rfl, hb⟩
    have Z8 := Aside0.mk hb.size
    replace X1 := Aside0.mk (Kd.S_below (sq_s X1) hb)
    replace X2 := Aside0.mk (Kd.R_below (sq_r X2) hb)
    replace X3 := Aside0.mk (Kd.S_below (sq_s X3) hb)
    replace X4 := Aside0.mk (Kd.R_below (sq_r X4) hb)
    replace X5 := Aside0.mk (Kd.S_below (sq_s X5) hb)
    replace HB := Aside0.mk (below_step (sq_c HB) hb)
    clear hb
    go_wp2_with fail
    (with_reducible refine (laws_markScoreSS.calls k (In w3.heap.size w4.heap.size) (.slice B3 t5.length D3) t5 1 t26 t27 w _ ?s1 ?s2 F28.out).mono ?_)
    case s1 => exact sq_c HB
    case s2 => exact (sq_s X3)
    rintro e w9 ⟨rfl, hon, hb, hk⟩
    have Z9 := Aside0.mk hk.1
    replace X1 := Aside0.mk (inS_kept (sq_s X1) hk (by have := Z1.out; have := Z2.out; have := Z3.out; have := Z4.out; have := Z5.out; have := Z6.out; have := Z7.out; have := Z8.out; have := Z9.out; omega))
    replace X2 := Aside0.mk (inR_kept (sq_r X2) hk (by have := Z1.out; have := Z2.out; have := Z3.out; have := Z4.out; have := Z5.out; have := Z6.out; have := Z7.out; have := Z8.out; have := Z9.out; omega))
    replace X4 := Aside0.mk (inR_kept (sq_r X4) hk (by have := Z1.out; have := Z2.out; have := Z3.out; have := Z4.out; have := Z5.out; have := Z6.out; have := Z7.out; have := Z8.out; have := Z9.out; omega))
    replace X5 := Aside0.mk (inS_kept (sq_s X5) hk (by have := Z1.out; have := Z2.out; have := Z3.out; have := Z4.out; have := Z5.out; have := Z6.out; have := Z7.out; have := Z8.out; have := Z9.out; omega))
    replace X3 := Aside0.mk (hon)
    have el_ := inS_len X3.out
    rw [el_] at X3
    (try rw [el_])
    clear el_
    replace HB := Aside0.mk hb
    clear hb hk hon
    go_wp2_with fail
    (with_reducible refine (laws_eqScoreS.calls k _ _ t14 _ _ t8 true _ ?s1 ?s2 ?s3 ?s4 F20.out).mono ?_)
    case s1 => exact inR_C (sq_r X4)
    case s2 => exact inR_cap X4.out
    case s3 => exact inR_C (sq_r X2)
    case s4 => exact inR_cap X2.out
    rintro e w10 ⟨rfl, hb⟩
    have Z10 := Aside0.mk hb.size
    replace X1 := Aside0.mk (Kd.S_below (sq_s X1) hb)
    replace X2 := Aside0.mk (Kd.R_below (sq_r X2) hb)
    replace X3 := Aside0.mk (Kd.S_below (sq_s X3) hb)
    replace X4 := Aside0.mk (Kd.R_below (sq_r X4) hb)
    replace X5 := Aside0.mk (Kd.S_below (sq_s X5) hb)
    replace HB := Aside0.mk (below_step (sq_c HB) hb)
    clear hb
    go_wp2_with fail
    (with_reducible refine (laws_markScoreS.calls k (In w4.heap.size w5.heap.size) (.slice B4 t14.length D4) t14 1 t31 t32 w _ ?s1 ?s2 F33.out).mono ?_)
    case s1 => exact sq_c HB
    case s2 => exact (sq_r X4)
    rintro e w11 ⟨rfl, hon, hb, hk⟩
    have Z11 := Aside0.mk hk.1
    replace X1 := Aside0.mk (inS_kept (sq_s X1) hk (by have := Z1.out; have := Z2.out; have := Z3.out; have := Z4.out; have := Z5.out; have := Z6.out; have := Z7.out; have := Z8.out; have := Z9.out; have := Z10.out; have := Z11.out; omega))
    replace X2 := Aside0.mk (inR_kept (sq_r X2) hk (by have := Z1.out; have := Z2.out; have := Z3.out; have := Z4.out; have := Z5.out; have := Z6.out; have := Z7.out; have := Z8.out; have := Z9.out; have := Z10.out; have := Z11.out; omega))
    replace X3 := Aside0.mk (inS_kept (sq_s X3) hk (by have := Z1.out; have := Z2.out; have := Z3.out; have := Z4.out; have := Z5.out; have := Z6.out; have := Z7.out; have := Z8.out; have := Z9.out; have := Z10.out; have := Z11.out; omega))
    replace X5 := Aside0.mk (inS_kept (sq_s X5) hk (by have := Z1.out; have := Z2.out; have := Z3.out; have := Z4.out; have := Z5.out; have := Z6.out; have := Z7.out; have := Z8.out; have := Z9.out; have := Z10.out; have := Z11.out; omega))
    replace X4 := Aside0.mk (inR_back rfl X4.out hon)
    have el_ := inR_len X4.out
    rw [el_] at X4
    (try rw [el_])
    clear el_
    replace HB := Aside0.mk hb
    clear hb hk hon
    go_wp2_with fail
    (with_reducible refine (laws_heldScoreS.calls k _ _ t32 1 t31 _ ?s1 ?s2 F36.out).mono ?_)
    case s1 => exact inR_C (sq_r X4)
    case s2 => exact inR_cap X4.out
    rintro e w12 ⟨rfl, hd⟩
    have hb := hd.below
    clear hd
    have Z12 := Aside0.mk hb.size
    replace X1 := Aside0.mk (Kd.S_below (sq_s X1) hb)
    replace X2 := Aside0.mk (Kd.R_below (sq_r X2) hb)
    replace X3 := Aside0.mk (Kd.S_below (sq_s X3) hb)
    replace X4 := Aside0.mk (Kd.R_below (sq_r X4) hb)
    replace X5 := Aside0.mk (Kd.S_below (sq_s X5) hb)
    replace HB := Aside0.mk (below_step (sq_c HB) hb)
    clear hb
    go_wp2_with fail
    (with_reducible refine (laws_toScoreSS.calls k _ _ l0 t5 _ ?s1 ?s2 F6.out).mono ?_)
    case s1 => exact Kd.C_below HR0.out (sq_c HB)
    case s2 => exact HC0.out
    rintro e w13 ⟨v0_, rfl, hov0_, hb⟩
    have Z13 := Aside0.mk hb.size
    replace X1 := Aside0.mk (Kd.S_below (sq_s X1) hb)
    replace X2 := Aside0.mk (Kd.R_below (sq_r X2) hb)
    replace X3 := Aside0.mk (Kd.S_below (sq_s X3) hb)
    replace X4 := Aside0.mk (Kd.R_below (sq_r X4) hb)
    replace X5 := Aside0.mk (Kd.S_below (sq_s X5) hb)
    have X6 := Aside0.mk (inS_new (b := w.heap.size) hov0_ (below_size (sq_c HB)))
    clear hov0_
    obtain ⟨B6, D6, eo_⟩ := Kd.S_slice X6.out
    subst eo_
    replace HB := Aside0.mk (below_step (sq_c HB) hb)
    clear hb
    go_wp2_with fail
    (with_reducible refine (impl_Threshold.calls k _ _ t5 a1 t14 t9 t10 _ ?s1 ?s2 F17.out).mono ?_)
    case s1 => exact inS_C (sq_s X6)
    case s2 => exact inS_cap X6.out
    rintro e w14 ⟨v0_, rfl, hov0_, hb⟩
    have Z14 := Aside0.mk hb.size
    replace X1 := Aside0.mk (Kd.S_below (sq_s X1) hb)
    replace X2 := Aside0.mk (Kd.R_below (sq_r X2) hb)
    replace X3 := Aside0.mk (Kd.S_below (sq_s X3) hb)
    replace X4 := Aside0.mk (Kd.R_below (sq_r X4) hb)
    replace X5 := Aside0.mk (Kd.S_below (sq_s X5) hb)
    replace X6 := Aside0.mk (Kd.S_below (sq_s X6) hb)
    have X7 := Aside0.mk (inR_new (b := w.heap.size) hov0_ (below_size (sq_c HB)))
    clear hov0_
    obtain ⟨B7, D7, eo_⟩ := Kd.R_slice X7.out
    subst eo_
    replace HB := Aside0.mk (below_step (sq_c HB) hb)
    clear hb
    go_wp2_with fail
    (with_reducible refine (laws_eqScoreS.calls k _ _ t14 _ _ t8 true _ ?s1 ?s2 ?s3 ?s4 F20.out).mono ?_)
    case s1 => exact inR_C (sq_r X7)
    case s2 => exact inR_cap X7.out
    case s3 => exact inR_C (sq_r X2)
    case s4 => exact inR_cap X2.out
    rintro e w15 ⟨rfl, hb⟩
    have Z15 := Aside0.mk hb.size
    replace X1 := Aside0.mk (Kd.S_below (sq_s X1) hb)
    replace X2 := Aside0.mk (Kd.R_below (sq_r X2) hb)
    replace X3 := Aside0.mk (Kd.S_below (sq_s X3) hb)
    replace X4 := Aside0.mk (Kd.R_below (sq_r X4) hb)
    replace X5 := Aside0.mk (Kd.S_below (sq_s X5) hb)
    replace X6 := Aside0.mk (Kd.S_below (sq_s X6) hb)
    replace X7 := Aside0.mk (Kd.R_below (sq_r X7) hb)
    replace HB := Aside0.mk (below_step (sq_c HB) hb)
    clear hb
    go_wp2_with fail
    (with_reducible refine (laws_heldScoreS.calls k _ _ t32 1 t31 _ ?s1 ?s2 F36.out).mono ?_)
    case s1 => exact inR_C (sq_r X4)
    case s2 => exact inR_cap X4.out
    rintro e w16 ⟨rfl, hd⟩
    have hb := hd.below
    clear hd
    have Z16 := Aside0.mk hb.size
    replace X1 := Aside0.mk (Kd.S_below (sq_s X1) hb)
    replace X2 := Aside0.mk (Kd.R_below (sq_r X2) hb)
    replace X3 := Aside0.mk (Kd.S_below (sq_s X3) hb)
    replace X4 := Aside0.mk (Kd.R_below (sq_r X4) hb)
    replace X5 := Aside0.mk (Kd.S_below (sq_s X5) hb)
    replace X6 := Aside0.mk (Kd.S_below (sq_s X6) hb)
    replace X7 := Aside0.mk (Kd.R_below (sq_r X7) hb)
    replace HB := Aside0.mk (below_step (sq_c HB) hb)
    clear hb
    go_wp2_with fail
    go_ret
    exact ⟨rfl, sq_c HB⟩
end Go.Proofs.Ytkijaolkfkgneaa.QFnExactThreshold
