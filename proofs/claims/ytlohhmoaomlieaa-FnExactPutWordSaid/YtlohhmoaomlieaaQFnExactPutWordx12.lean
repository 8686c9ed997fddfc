-- Written by this session's own program (wip/lawgen.py) out of the given translation. Not trusted: Lean checks it.
import Derived.Test.YtlohhmoaomlieaaExtG
import Derived.Test.YtlohhmoaomlieaaExtS
import Derived.Test.YtlohhmoaomlieaaQFnExactPutWordx0
import Derived.Test.YtlohhmoaomlieaaQFnExactPutWordx1
import Derived.Test.YtlohhmoaomlieaaQFnExactPutWordx2
import Derived.Test.YtlohhmoaomlieaaQFnExactPutWordx3
import Derived.Test.YtlohhmoaomlieaaQFnExactPutWordx4
import Derived.Test.YtlohhmoaomlieaaQFnExactPutWordx5
import Derived.Test.YtlohhmoaomlieaaQFnExactPutWordx6
import Derived.Test.YtlohhmoaomlieaaQFnExactPutWordx7
import Derived.Test.YtlohhmoaomlieaaQFnExactPutWordx8
import Derived.Test.YtlohhmoaomlieaaQFnExactPutWordx9
import Derived.Test.YtlohhmoaomlieaaQFnExactPutWordx10
import Derived.Test.YtlohhmoaomlieaaQFnExactPutWordx11
namespace Go.Proofs.Ytlohhmoaomlieaa.QFnExactPutWord
open Go.RowKit Go.Proofs.YtlohhmoaomlieaaW.PrintWords Go.Proofs.YtlohhmoaomlieaaW.PrintLast Go.Proofs.YtlohhmoaomlieaaW.PrintMore
open Go.Proofs.Ytlohhmoaomlieaa.Ext
set_option linter.unusedVariables false
set_option linter.unusedSimpArgs false
def laws_FnExactPutWord.Ok (k : Nat) (l0 : List (S66)) (a1 : ByteArray) : Prop := (1048576 < (a1.size : Int) ∨ ((a1.size : Int) ≤ 1048576 ∧ ∃ (t2 : Int), (laws_szKnotS.f k l0 1048576 = some t2) ∧ (t2 < 0 ∨ (0 ≤ t2 ∧ ∃ (t5 : List (S62)), (laws_toKnotS.f k l0 = some t5) ∧ ∃ (t8 : List (S62)) (t9 : Bool), (spec_PutWord.f k t5 a1 = some (t8, t9)) ∧ ∃ (t13 : List (S62)), (impl_PutWord.f k t5 a1 = some (t13, t9)) ∧ (laws_eqKnotS.f k t13 t8 = some true) ∧ (laws_eqKnotS.f k t5 t5 = some true) ∧ ∃ (t24 : Int) (t25 : List S62), (laws_markKnotS.f k t5 1 = some (t24, t25)) ∧ 0 ≤ t24 ∧ ∃ (t29 : Int) (t30 : List S62), (laws_markKnotS.f k t13 1 = some (t29, t30)) ∧ (laws_heldKnotS.f k t30 1 = some t29) ∧ 0 ≤ t29 ∧ 0 ≤ t29 ∧ True))))
set_option maxHeartbeats 8000000 in
set_option maxRecDepth 100000 in
theorem laws_FnExactPutWord.calls (k : Nat) (A0 : Option Addr) (c0 : Nat) (l0 : List (S66)) (a1 : ByteArray) (w : World) (hr0 : Kd.C k66 w A0 l0.length l0) (hc0 : l0.length ≤ c0) (h : laws_FnExactPutWord.Ok k l0 a1) :
    Calls Try.prog 6 #[.slice A0 l0.length c0, .string a1] w fun e w' => e = .returned (.bool true) ∧ Below w.heap.size w w' := by
  unfold laws_FnExactPutWord.Ok at h
  have HR0 := Aside0.mk hr0
  have HC0 := Aside0.mk hc0
  clear hr0 hc0
  have HB := Aside0.mk (Below.refl w.heap.size w)
  rcases h with h | ⟨c39, h⟩
  · have c39b : decide ((a1.size : Int) > 1048576) = true := decide_eq_true (by omega)
    have c39d : decide (1048576 < a1.size) = true := decide_eq_true (by omega)
    clear h
    go_enter Try.func6, Try.ntmps6
    go_wp2_with fail
    go_ret
    exact ⟨rfl, sq_c HB⟩
  · have c39b : decide ((a1.size : Int) > 1048576) = false := decide_eq_false (by omega)
    have c39d : decide (1048576 < a1.size) = false := decide_eq_false (by omega)
    clear c39
    obtain ⟨t2, F3, h⟩ := h
    replace F3 := Aside0.mk F3
    rcases h with h | ⟨c40, h⟩
    · have c40b : decide (t2 < 0) = true := decide_eq_true h
      clear h
      go_enter Try.func6, Try.ntmps6
      go_wp2_with fail
      (with_reducible refine (laws_szKnotS.calls k _ _ l0 1048576 t2 _ ?s1 ?s2 F3.out).mono ?_)
      case s1 => exact Kd.C_below HR0.out (sq_c HB)
      case s2 => exact HC0.out
      rintro e w1 ⟨rfl, hb⟩
      have Z1 := Aside0.mk hb.size
      replace HB := Aside0.mk (below_step (sq_c HB) hb)
      clear hb
      go_wp2_with fail
      go_ret
      exact ⟨rfl, sq_c HB⟩
    · have c40b : decide (t2 < 0) = false := decide_eq_false (by omega)
      clear c40
      obtain ⟨t5, F6, h⟩ := h
      replace F6 := Aside0.mk F6
      obtain ⟨t8, t9, F10, h⟩ := h
      replace F10 := Aside0.mk F10
      obtain ⟨t13, F15, h⟩ := h
      replace F15 := Aside0.mk F15
      obtain ⟨F18, h⟩ := h
      replace F18 := Aside0.mk F18
      obtain ⟨F22, h⟩ := h
      replace F22 := Aside0.mk F22
      obtain ⟨t24, t25, F26, h⟩ := h
      replace F26 := Aside0.mk F26
      obtain ⟨c41, h⟩ := h
      have c41b : decide (t24 < 0) = false := decide_eq_false (by omega)
      clear c41
      obtain ⟨t29, t30, F31, h⟩ := h
      replace F31 := Aside0.mk F31
      obtain ⟨F34, h⟩ := h
      replace F34 := Aside0.mk F34
      obtain ⟨c42, h⟩ := h
      have c42b : decide (t29 < 0) = false := decide_eq_false (by omega)
      clear c42
      obtain ⟨c43, h⟩ := h
      have c43b : decide (t29 < 0) = false := decide_eq_false (by omega)
      clear c43
      clear h
      go_enter Try.func6, Try.ntmps6
      go_wp2_with fail
      (with_reducible refine (laws_szKnotS.calls k _ _ l0 1048576 t2 _ ?s1 ?s2 F3.out).mono ?_)
      case s1 => exact Kd.C_below HR0.out (sq_c HB)
      case s2 => exact HC0.out
      rintro e w1 ⟨rfl, hb⟩
      have Z1 := Aside0.mk hb.size
      replace HB := Aside0.mk (below_step (sq_c HB) hb)
      clear hb
      go_wp2_with fail
      (with_reducible refine (laws_toKnotS.calls k _ _ l0 t5 _ ?s1 ?s2 F6.out).mono ?_)
      case s1 => exact Kd.C_below HR0.out (sq_c HB)
      case s2 => exact HC0.out
      rintro e w2 ⟨v0_, rfl, hov0_, hb⟩
      have Z2 := Aside0.mk hb.size
      have X1 := Aside0.mk (inS_new (b := w.heap.size) hov0_ (below_size (sq_c HB)))
      clear hov0_
      obtain ⟨B1, D1, eo_⟩ := Kd.S_slice X1.out
      subst eo_
      replace HB := Aside0.mk (below_step (sq_c HB) hb)
      clear hb
      go_wp2_with fail
      (with_reducible refine (spec_PutWord.calls k _ _ t5 a1 t8 t9 _ ?s1 ?s2 F10.out).mono ?_)
      case s1 => exact inS_C (sq_s X1)
      case s2 => exact inS_cap X1.out
      rintro e w3 ⟨v0_, rfl, hov0_, hb⟩
      have Z3 := Aside0.mk hb.size
      replace X1 := Aside0.mk (Kd.S_below (sq_s X1) hb)
      have X2 := Aside0.mk (inS_new (b := w.heap.size) hov0_ (below_size (sq_c HB)))
      clear hov0_
      obtain ⟨B2, D2, eo_⟩ := Kd.S_slice X2.out
      subst eo_
      replace HB := Aside0.mk (below_step (sq_c HB) hb)
      clear hb
      go_wp2_with fail
      (with_reducible refine (laws_toKnotS.calls k _ _ l0 t5 _ ?s1 ?s2 F6.out).mono ?_)
      case s1 => exact Kd.C_below HR0.out (sq_c HB)
      case s2 => exact HC0.out
      rintro e w4 ⟨v0_, rfl, hov0_, hb⟩
      have Z4 := Aside0.mk hb.size
      replace X1 := Aside0.mk (Kd.S_below (sq_s X1) hb)
      replace X2 := Aside0.mk (Kd.S_below (sq_s X2) hb)
      have X3 := Aside0.mk (inS_new (b := w.heap.size) hov0_ (below_size (sq_c HB)))
      clear hov0_
      obtain ⟨B3, D3, eo_⟩ := Kd.S_slice X3.out
      subst eo_
      replace HB := Aside0.mk (below_step (sq_c HB) hb)
      clear hb
      go_wp2_with fail
      (with_reducible refine (impl_PutWord.calls k _ _ t5 a1 t13 t9 _ ?s1 ?s2 F15.out).mono ?_)
      case s1 => exact inS_C (sq_s X3)
      case s2 => exact inS_cap X3.out
      rintro e w5 ⟨v0_, rfl, hov0_, hb⟩
      have Z5 := Aside0.mk hb.size
      replace X1 := Aside0.mk (Kd.S_below (sq_s X1) hb)
      replace X2 := Aside0.mk (Kd.S_below (sq_s X2) hb)
      replace X3 := Aside0.mk (Kd.S_below (sq_s X3) hb)
      have X4 := Aside0.mk (inS_new (b := w.heap.size) hov0_ (below_size (sq_c HB)))
      clear hov0_
      obtain ⟨B4, D4, eo_⟩ := Kd.S_slice X4.out
      subst eo_
      replace HB := Aside0.mk (below_step (sq_c HB) hb)
      clear hb
      go_wp2_with fail
      (with_reducible refine (laws_eqKnotS.calls k _ _ t13 _ _ t8 true _ ?s1 ?s2 ?s3 ?s4 F18.out).mono ?_)
      case s1 => exact inS_C (sq_s X4)
      case s2 => exact inS_cap X4.out
      case s3 => exact inS_C (sq_s X2)
      case s4 => exact inS_cap X2.out
      rintro e w6 ⟨rfl, hb⟩
      have Z6 := Aside0.mk hb.size
      replace X1 := Aside0.mk (Kd.S_below (sq_s X1) hb)
      replace X2 := Aside0.mk (Kd.S_below (sq_s X2) hb)
      replace X3 := Aside0.mk (Kd.S_below (sq_s X3) hb)
      replace X4 := Aside0.mk (Kd.S_below (sq_s X4) hb)
      replace HB := Aside0.mk (below_step (sq_c HB) hb)
      clear hb
      go_wp2_with fail
      (with_reducible refine (laws_toKnotS.calls k _ _ l0 t5 _ ?s1 ?s2 F6.out).mono ?_)
      case s1 => exact Kd.C_below HR0.out (sq_c HB)
      case s2 => exact HC0.out
      rintro e w7 ⟨v0_, rfl, hov0_, hb⟩
      have Z7 := Aside0.mk hb.size
      replace X1 := Aside0.mk (Kd.S_below (sq_s X1) hb)
      replace X2 := Aside0.mk (Kd.S_below (sq_s X2) hb)
      replace X3 := Aside0.mk (Kd.S_below (sq_s X3) hb)
      replace X4 := Aside0.mk (Kd.S_below (sq_s X4) hb)
      have X5 := Aside0.mk (inS_new (b := w.heap.size) hov0_ (below_size (sq_c HB)))
      clear hov0_
      obtain ⟨B5, D5, eo_⟩ := Kd.S_slice X5.out
      subst eo_
      replace HB := Aside0.mk (below_step (sq_c HB) hb)
      clear hb
      go_wp2_with fail
      (with_reducible refine (laws_eqKnotS.calls k _ _ t5 _ _ t5 true _ ?s1 ?s2 ?s3 ?s4 F22.out).mono ?_)
      case s1 => exact inS_C (sq_s X3)
      case s2 => exact inS_cap X3.out
      case s3 => exact inS_C (sq_s X5)
      case s4 => exact inS_cap X5.out
      rintro e w8 ⟨rfl, hb⟩
      have Z8 := Aside0.mk hb.size
      replace X1 := Aside0.mk (Kd.S_below (sq_s X1) hb)
      replace X2 := Aside0.mk (Kd.S_below (sq_s X2) hb)
      replace X3 := Aside0.mk (Kd.S_below (sq_s X3) hb)
      replace X4 := Aside0.mk (Kd.S_below (sq_s X4) hb)
      replace X5 := Aside0.mk (Kd.S_below (sq_s X5) hb)
      replace HB := Aside0.mk (below_step (sq_c HB) hb)
      clear hb
      go_wp2_with fail
      (with_reducible refine (laws_markKnotS.calls k (In w3.heap.size w4.heap.size) (.slice B3 t5.length D3) t5 1 t24 t25 w _ ?s1 ?s2 F26.out).mono ?_)
      case s1 => exact sq_c HB
      case s2 => exact (sq_s X3)
      rintro e w9 ⟨rfl, hon, hb, hk⟩
      have Z9 := Aside0.mk hk.1
      replace X1 := Aside0.mk (inS_kept (sq_s X1) hk (by have := Z1.out; have := Z2.out; have := Z3.out; have := Z4.out; have := Z5.out; have := Z6.out; have := Z7.out; have := Z8.out; have := Z9.out; omega))
      replace X2 := Aside0.mk (inS_kept (sq_s X2) hk (by have := Z1.out; have := Z2.out; have := Z3.out; have := Z4.out; have := Z5.out; have := Z6.out; have := Z7.out; have := Z8.out; have := Z9.out; omega))
      replace X4 := Aside0.mk (inS_kept (sq_s X4) hk (by have := Z1.out; have := Z2.out; have := Z3.out; have := Z4.out; have := Z5.out; have := Z6.out; have := Z7.out; have := Z8.out; have := Z9.out; omega))
      replace X5 := Aside0.mk (inS_kept (sq_s X5) hk (by have := Z1.out; have := Z2.out; have := Z3.out; have := Z4.out; have := Z5.out; have := Z6.out; have := Z7.out; have := Z8.out; have := Z9.out; omega))
      replace X3 := Aside0.mk (hon)
      have el_ := inS_len X3.out
      rw [el_] at X3
      (try rw [el_])
      clear el_
      replace HB := Aside0.mk hb
      clear hb hk hon
      go_wp2_with fail
      (with_reducible refine (laws_eqKnotS.calls k _ _ t13 _ _ t8 true _ ?s1 ?s2 ?s3 ?s4 F18.out).mono ?_)
      case s1 => exact inS_C (sq_s X4)
      case s2 => exact inS_cap X4.out
      case s3 => exact inS_C (sq_s X2)
      case s4 => exact inS_cap X2.out
      rintro e w10 ⟨rfl, hb⟩
      have Z10 := Aside0.mk hb.size
      replace X1 := Aside0.mk (Kd.S_below (sq_s X1) hb)
      replace X2 := Aside0.mk (Kd.S_below (sq_s X2) hb)
      replace X3 := Aside0.mk (Kd.S_below (sq_s X3) hb)
      replace X4 := Aside0.mk (Kd.S_below (sq_s X4) hb)
      replace X5 := Aside0.mk (Kd.S_below (sq_s X5) hb)
      replace HB := Aside0.mk (below_step (sq_c HB) hb)
      clear hb
      go_wp2_with fail
      (with_reducible refine (laws_markKnotS.calls k (In w4.heap.size w5.heap.size) (.slice B4 t13.length D4) t13 1 t29 t30 w _ ?s1 ?s2 F31.out).mono ?_)
      case s1 => exact sq_c HB
      case s2 => exact (sq_s X4)
      rintro e w11 ⟨rfl, hon, hb, hk⟩
      have Z11 := Aside0.mk hk.1
      replace X1 := Aside0.mk (inS_kept (sq_s X1) hk (by have := Z1.out; have := Z2.out; have := Z3.out; have := Z4.out; have := Z5.out; have := Z6.out; have := Z7.out; have := Z8.out; have := Z9.out; have := Z10.out; have := Z11.out; omega))
      replace X2 := Aside0.mk (inS_kept (sq_s X2) hk (by have := Z1.out; have := Z2.out; have := Z3.out; have := Z4.out; have := Z5.out; have := Z6.out; have := Z7.out; have := Z8.out; have := Z9.out; have := Z10.out; have := Z11.out; omega))
      replace X3 := Aside0.mk (inS_kept (sq_s X3) hk (by have := Z1.out; have := Z2.out; have := Z3.out; have := Z4.out; have := Z5.out; have := Z6.out; have := Z7.out; have := Z8.out; have := Z9.out; have := Z10.out; have := Z11.out; omega))
      replace X5 := Aside0.mk (inS_kept (sq_s X5) hk (by have := Z1.out; have := Z2.out; have := Z3.out; have := Z4.out; have := Z5.out; have := Z6.out; have := Z7.out; have := Z8.out; have := Z9.out; have := Z10.out; have := Z11.out; omega))
      replace X4 := Aside0.mk (hon)
      have el_ := inS_len X4.out
      rw [el_] at X4
      (try rw [el_])
      clear el_
      replace HB := Aside0.mk hb
      clear hb hk hon
      go_wp2_with fail
      (with_reducible refine (laws_heldKnotS.calls k _ _ t30 1 t29 _ ?s1 ?s2 F34.out).mono ?_)
      case s1 => exact inS_C (sq_s X4)
      case s2 => exact inS_cap X4.out
      rintro e w12 ⟨rfl, hb⟩
      have Z12 := Aside0.mk hb.size
      replace X1 := Aside0.mk (Kd.S_below (sq_s X1) hb)
      replace X2 := Aside0.mk (Kd.S_below (sq_s X2) hb)
      replace X3 := Aside0.mk (Kd.S_below (sq_s X3) hb)
      replace X4 := Aside0.mk (Kd.S_below (sq_s X4) hb)
      replace X5 := Aside0.mk (Kd.S_below (sq_s X5) hb)
      replace HB := Aside0.mk (below_step (sq_c HB) hb)
      clear hb
      go_wp2_with fail
      (with_reducible refine (laws_toKnotS.calls k _ _ l0 t5 _ ?s1 ?s2 F6.out).mono ?_)
      case s1 => exact Kd.C_below HR0.out (sq_c HB)
      case s2 => exact HC0.out
      rintro e w13 ⟨v0_, rfl, hov0_, hb⟩
      have Z13 := Aside0.mk hb.size
      replace X1 := Aside0.mk (Kd.S_below (sq_s X1) hb)
      replace X2 := Aside0.mk (Kd.S_below (sq_s X2) hb)
      replace X3 := Aside0.mk (Kd.S_below (sq_s X3) hb)
      replace X4 := Aside0.mk (Kd.S_below (sq_s X4) hb)
      replace X5 := Aside0.mk (Kd.S_below (sq_s X5) hb)
      have X6 := Aside0.mk (inS_new (b := w.heap.size) hov0_ (below_size (sq_c HB)))
      clear hov0_
      obtain ⟨B6, D6, eo_⟩ := Kd.S_slice X6.out
      subst eo_
      replace HB := Aside0.mk (below_step (sq_c HB) hb)
      clear hb
      go_wp2_with fail
      (with_reducible refine (impl_PutWord.calls k _ _ t5 a1 t13 t9 _ ?s1 ?s2 F15.out).mono ?_)
      case s1 => exact inS_C (sq_s X6)
      case s2 => exact inS_cap X6.out
      rintro e w14 ⟨v0_, rfl, hov0_, hb⟩
      have Z14 := Aside0.mk hb.size
      replace X1 := Aside0.mk (Kd.S_below (sq_s X1) hb)
      replace X2 := Aside0.mk (Kd.S_below (sq_s X2) hb)
      replace X3 := Aside0.mk (Kd.S_below (sq_s X3) hb)
      replace X4 := Aside0.mk (Kd.S_below (sq_s X4) hb)
      replace X5 := Aside0.mk (Kd.S_below (sq_s X5) hb)
      replace X6 := Aside0.mk (Kd.S_below (sq_s X6) hb)
      have X7 := Aside0.mk (inS_new (b := w.heap.size) hov0_ (below_size (sq_c HB)))
      clear hov0_
      obtain ⟨B7, D7, eo_⟩ := Kd.S_slice X7.out
      subst eo_
      replace HB := Aside0.mk (below_step (sq_c HB) hb)
      clear hb
      go_wp2_with fail
      (with_reducible refine (laws_eqKnotS.calls k _ _ t13 _ _ t8 true _ ?s1 ?s2 ?s3 ?s4 F18.out).mono ?_)
      case s1 => exact inS_C (sq_s X7)
      case s2 => exact inS_cap X7.out
      case s3 => exact inS_C (sq_s X2)
      case s4 => exact inS_cap X2.out
      rintro e w15 ⟨rfl, hb⟩
      have Z15 := Aside0.mk hb.size
      replace X1 := Aside0.mk (Kd.S_below (sq_s X1) hb)
      replace X2 := Aside0.mk (Kd.S_below (sq_s X2) hb)
      replace X3 := Aside0.mk (Kd.S_below (sq_s X3) hb)
      replace X4 := Aside0.mk (Kd.S_below (sq_s X4) hb)
      replace X5 := Aside0.mk (Kd.S_below (sq_s X5) hb)
      replace X6 := Aside0.mk (Kd.S_below (sq_s X6) hb)
      replace X7 := Aside0.mk (Kd.S_below (sq_s X7) hb)
      replace HB := Aside0.mk (below_step (sq_c HB) hb)
      clear hb
      go_wp2_with fail
      (with_reducible refine (laws_heldKnotS.calls k _ _ t30 1 t29 _ ?s1 ?s2 F34.out).mono ?_)
      case s1 => exact inS_C (sq_s X4)
      case s2 => exact inS_cap X4.out
      rintro e w16 ⟨rfl, hb⟩
      have Z16 := Aside0.mk hb.size
      replace X1 := Aside0.mk (Kd.S_below (sq_s X1) hb)
      replace X2 := Aside0.mk (Kd.S_below (sq_s X2) hb)
      replace X3 := Aside0.mk (Kd.S_below (sq_s X3) hb)
      replace X4 := Aside0.mk (Kd.S_below (sq_s X4) hb)
      replace X5 := Aside0.mk (Kd.S_below (sq_s X5) hb)
      replace X6 := Aside0.mk (Kd.S_below (sq_s X6) hb)
      replace X7 := Aside0.mk (Kd.S_below (sq_s X7) hb)
      replace HB := Aside0.mk (below_step (sq_c HB) hb)
      clear hb
      go_wp2_with fail
      go_ret
      exact ⟨rfl, sq_c HB⟩
end Go.Proofs.Ytlohhmoaomlieaa.QFnExactPutWord
