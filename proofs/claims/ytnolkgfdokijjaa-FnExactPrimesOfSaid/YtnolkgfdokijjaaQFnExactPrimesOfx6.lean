-- Written by this session's own program (wip/pp_patch.py, wip/pp.sh) out of the given translation. Not trusted: Lean checks it.
import Derived.Test.YtnolkgfdokijjaaQFnExactPrimesOfx0
import Derived.Test.YtnolkgfdokijjaaQFnExactPrimesOfx3
import Derived.Test.YtnolkgfdokijjaaQFnExactPrimesOfx4
import Derived.Test.YtnolkgfdokijjaaQFnExactPrimesOfx5
namespace Go.Proofs.Ytnolkgfdokijjaa.QFnExactPrimesOf
open Go.RowKit Go.Proofs.YtnolkgfdokijjaaW.PrintWords Go.Proofs.YtnolkgfdokijjaaW.PrintLast Go.Proofs.YtnolkgfdokijjaaW.PrintMore
attribute [local go_sem] max2_int min2_int max_two min_two max_three min_three max_four min_four   -- for this text's walks alone
open Go.Proofs.Ytnolkgfdokijjaa.Ext
attribute [local go_sem high] ext_gtr ext_leq
set_option linter.unusedVariables false
set_option linter.unusedSimpArgs false

/-! ### spec_l11Covers: function 58 -/
mutual
def spec_l11Covers.l0 : Nat → List (List Int) → List Int → Int → List (List Int) → Int → Int → Option (Bool)
 | 0, _, _, _, _, _, _ => none
 | k + 1, x0, x2, x7, x13, x14, x15 => if x15 < x14 then (if 0 ≤ x15 then (if x15 < (x13.length : Int) then ((spec_l11Fit.f k (rd_L4 x13 x15) x2).bind fun t231 => (if t231 = true then (spec_l11Covers.l0 k x0 x2 (wrap64 (x7 + 1)) x13 x14 (wrap64 (x15 + 1))) else (spec_l11Covers.l0 k x0 x2 x7 x13 x14 (wrap64 (x15 + 1))))) else (none)) else (none)) else (spec_l11Covers.l1 k x2 x7 0 x0 (x0.length : Int) 0)
def spec_l11Covers.l1 : Nat → List Int → Int → Int → List (List Int) → Int → Int → Option (Bool)
 | 0, _, _, _, _, _, _ => none
 | k + 1, x2, x7, x10, x25, x26, x27 => if x27 < x26 then (if 0 ≤ x27 then (if x27 < (x25.length : Int) then ((spec_l11Fit.f k (rd_L4 x25 x27) x2).bind fun t233 => (if t233 = true then (spec_l11Covers.l1 k x2 x7 (wrap64 (x10 + 1)) x25 x26 (wrap64 (x27 + 1))) else (spec_l11Covers.l1 k x2 x7 x10 x25 x26 (wrap64 (x27 + 1))))) else (none)) else (none)) else (some (x7 == x10))
end
def spec_l11Covers.f (k : Nat) (l0 : List (List Int)) (l1 : List (List Int)) (l2 : List Int) : Option (Bool) := spec_l11Covers.l0 k l0 l2 0 l1 (l1.length : Int) 0
theorem spec_l11Covers.mono_l : ∀ k, (∀ y0 y1 y2 y3 y4 y5, LeO (spec_l11Covers.l0 k y0 y1 y2 y3 y4 y5) (spec_l11Covers.l0 (k + 1) y0 y1 y2 y3 y4 y5)) ∧ (∀ y0 y1 y2 y3 y4 y5, LeO (spec_l11Covers.l1 k y0 y1 y2 y3 y4 y5) (spec_l11Covers.l1 (k + 1) y0 y1 y2 y3 y4 y5))
 | 0 => ⟨fun _ _ _ _ _ _ r h => by simp [spec_l11Covers.l0] at h, fun _ _ _ _ _ _ r h => by simp [spec_l11Covers.l1] at h⟩
 | k + 1 => by
  obtain ⟨ih0, ih1⟩ := spec_l11Covers.mono_l k
  refine ⟨?_, ?_⟩
  ·intro y0 y1 y2 y3 y4 y5
   unfold spec_l11Covers.l0
   repeat' first
   | (with_reducible exact ih0 _ _ _ _ _ _)
   | (with_reducible exact ih1 _ _ _ _ _ _)
   | (with_reducible exact spec_l11Fit.mono _ _ _)
   | (with_reducible exact LeO.refl _)
   | (with_reducible exact LeO.none _)
   | (with_reducible refine LeO.ite ?_ ?_)
   | (with_reducible refine LeO.bind ?_ (fun _ => ?_))
   | exact ih0 _ _ _ _ _ _
   | exact ih1 _ _ _ _ _ _
   | exact spec_l11Fit.mono _ _ _
   | exact LeO.none _
   | refine LeO.ite ?_ ?_
   | refine LeO.bind ?_ (fun _ => ?_)
  ·intro y0 y1 y2 y3 y4 y5
   unfold spec_l11Covers.l1
   repeat' first
   | (with_reducible exact ih0 _ _ _ _ _ _)
   | (with_reducible exact ih1 _ _ _ _ _ _)
   | (with_reducible exact spec_l11Fit.mono _ _ _)
   | (with_reducible exact LeO.refl _)
   | (with_reducible exact LeO.none _)
   | (with_reducible refine LeO.ite ?_ ?_)
   | (with_reducible refine LeO.bind ?_ (fun _ => ?_))
   | exact ih0 _ _ _ _ _ _
   | exact ih1 _ _ _ _ _ _
   | exact spec_l11Fit.mono _ _ _
   | exact LeO.none _
   | refine LeO.ite ?_ ?_
   | refine LeO.bind ?_ (fun _ => ?_)
theorem spec_l11Covers.mono : ∀ a0 a1 a2 k, LeO (spec_l11Covers.f k a0 a1 a2) (spec_l11Covers.f (k + 1) a0 a1 a2) := by
 intro a0 a1 a2 k
 obtain ⟨ih0, ih1⟩ := spec_l11Covers.mono_l k
 unfold spec_l11Covers.f
 repeat' first
   | (with_reducible exact ih0 _ _ _ _ _ _)
   | (with_reducible exact ih1 _ _ _ _ _ _)
   | (with_reducible exact spec_l11Fit.mono _ _ _)
   | (with_reducible exact LeO.refl _)
   | (with_reducible exact LeO.none _)
   | (with_reducible refine LeO.ite ?_ ?_)
   | (with_reducible refine LeO.bind ?_ (fun _ => ?_))
   | exact ih0 _ _ _ _ _ _
   | exact ih1 _ _ _ _ _ _
   | exact spec_l11Fit.mono _ _ _
   | exact LeO.none _
   | refine LeO.ite ?_ ?_
   | refine LeO.bind ?_ (fun _ => ?_)
set_option maxHeartbeats 8000000 in
set_option maxRecDepth 100000 in
theorem spec_l11Covers.calls (k : Nat) (A0 : Option Addr) (c0 : Nat) (l0 : List (List Int)) (A1 : Option Addr) (c1 : Nat) (l1 : List (List Int)) (A2 : Option Addr) (c2 : Nat) (l2 : List Int) (r : Bool) (w : World) (hr0 : Kd.C (Kd.slice 3 (Kd.int .i64)) w A0 l0.length l0) (hc0 : l0.length ≤ c0) (hr1 : Kd.C (Kd.slice 3 (Kd.int .i64)) w A1 l1.length l1) (hc1 : l1.length ≤ c1) (hr2 : Kd.C (Kd.int .i64) w A2 l2.length l2) (hc2 : l2.length ≤ c2) (h : spec_l11Covers.f k l0 l1 l2 = some r) :
  Calls Try.prog 58 #[.slice A0 l0.length c0, .slice A1 l1.length c1, .slice A2 l2.length c2] w fun e w' => e = .returned (.bool r) ∧ Drawn0 w w' := by
 have HR0 := Aside0.mk hr0
 have HC0 := Aside0.mk hc0
 clear hr0 hc0
 have HR1 := Aside0.mk hr1
 have HC1 := Aside0.mk hc1
 clear hr1 hc1
 have HR2 := Aside0.mk hr2
 have HC2 := Aside0.mk hc2
 clear hr2 hc2
 have H : (spec_l11Covers.l0 k l0 l2 0 l1 (l1.length : Int) 0) = some r := h
 clear h
 have H' := Aside0.mk H
 clear H
 go_enter Try.func58, Try.ntmps58
 go_wp2
 go_loopg [7, 15] k (fun kq v7 v15 w' => ∃ (x7_1 : Int) (x15_1 : Int), v7 = .int .i64 x7_1 ∧ v15 = .int .i64 x15_1 ∧ Aside0 (spec_l11Covers.l0 kq l0 l2 x7_1 l1 (l1.length : Int) x15_1 = some r) ∧ Aside0 (kq ≤ k) ∧ Drawn0 w w')
 case atStart => exact ⟨(0), (0), sq_e, sq_e, H', ⟨Nat.le_refl _⟩, by repeat (first | exact Drawn0.refl _ | apply Drawn0.step)⟩
 case round =>
  clear H'
  (try clear c1); (try clear c2); (try clear p2)
  obtain ⟨x7_1, x15_1, rfl, rfl, HA, HK1, ⟨m1, rfl⟩⟩ := hrel
  cases gk with
  | zero => exact absurd HA.out (by simp [spec_l11Covers.l0])
  | succ k1 =>
   have H := HA.out
   clear HA
   simp only [spec_l11Covers.l0] at H
   by_cases c4 : x15_1 < (l1.length : Int)
   ·rw [if_pos c4] at H
    have c4b0 : decide (x15_1 < (l1.length : Int)) = true := decide_eq_true c4
    clear c4
    by_cases c5 : 0 ≤ x15_1
    rotate_left
    ·rw [if_neg c5] at H
     exact absurd H (by simp)
    rw [if_pos c5] at H
    have c5b0 : decide (0 ≤ x15_1) = true := decide_eq_true c5
    clear c5
    by_cases c6 : x15_1 < (l1.length : Int)
    rotate_left
    ·rw [if_neg c6] at H
     exact absurd H (by simp)
    rw [if_pos c6] at H
    have c6b0 : decide (x15_1 < (l1.length : Int)) = true := decide_eq_true c6
    clear c6
    replace H := Option.bind_eq_some_iff.mp H
    obtain ⟨t231, A70, H⟩ := H
    replace H : (if t231 = true then (spec_l11Covers.l0 k1 l0 l2 (wrap64 (x7_1 + 1)) l1 (l1.length : Int) (wrap64 (x15_1 + 1))) else (spec_l11Covers.l0 k1 l0 l2 x7_1 l1 (l1.length : Int) (wrap64 (x15_1 + 1)))) = some r := H
    have A7 := Aside0.mk A70
    clear A70
    by_cases c8 : t231 = true
    ·subst c8
     have H1 : (spec_l11Covers.l0 k1 l0 l2 (wrap64 (x7_1 + 1)) l1 (l1.length : Int) (wrap64 (x15_1 + 1))) = some r := by rw [if_pos rfl] at H; exact H
     clear H
     have H := H1
     clear H1
     have H' := Aside0.mk H
     clear H
     have p230 : 0 ≤ (x15_1 : Int) := sq_d
     have q230 : x15_1 < (l1.length : Int) := sq_d
     obtain ⟨ad230, A230_0, c230_0, e230, hx230_0, hl230_0, hi230_0⟩ := at_L4 HR1.out x15_1 p230 q230
     cases e230
     have HR230_0 := Aside0.mk hi230_0
     have HC230_0 := Aside0.mk hl230_0
     clear hi230_0 hl230_0
     replace p230 := eq_true p230
     replace q230 := eq_true q230
     go_wp2_with (first | ((with_reducible refine gate_callee (f := 86) rfl ?_); refine goesL_ (some 21) rfl rfl Try.func86 (by kernel_rfl) rfl #[.slice A230_0 (rd_L4 l1 x15_1).length c230_0, .slice A2 l2.length c2] rfl (by (try simp only [List.map_toArray, List.map_cons, List.map_nil]); first | done | rfl | (simp only [List.length_drop, List.length_take]; rfl)) ?_; (with_reducible refine (spec_l11Fit.calls k1 _ _ (rd_L4 l1 x15_1) _ _ l2 true _ ?side1 ?side2 ?side3 ?side4 A7.out).mono ?_); (case side1 => repeat (first | exact HR230_0.out | (with_reducible refine Kd.C_alloc ?_ _) | (with_reducible refine Kd.C_drewN ?_ _) | (with_reducible refine Kd.C_drew ?_))); (case side2 => exact HC230_0.out); (case side3 => repeat (first | exact HR2.out | (with_reducible refine Kd.C_alloc ?_ _) | (with_reducible refine Kd.C_drewN ?_ _) | (with_reducible refine Kd.C_drew ?_))); (case side4 => exact HC2.out); rintro e w' ⟨rfl, ⟨nd, rfl⟩⟩; refine ⟨_, rfl, ?_⟩))
     go_roundg k1
     case measure => have := HK1.out; omega
     case rel => exact ⟨(wrap64 (x7_1 + 1)), (wrap64 (x15_1 + 1)), sq_e, sq_e, H', ⟨by have := HK1.out; omega⟩, by repeat (first | exact Drawn0.refl _ | apply Drawn0.step)⟩
    ·replace c8 := Bool.eq_false_iff.mpr c8
     subst c8
     have H1 : (spec_l11Covers.l0 k1 l0 l2 x7_1 l1 (l1.length : Int) (wrap64 (x15_1 + 1))) = some r := by rw [if_neg (show ¬ (false = true) by decide)] at H; exact H
     clear H
     have H := H1
     clear H1
     have H' := Aside0.mk H
     clear H
     have p230 : 0 ≤ (x15_1 : Int) := sq_d
     have q230 : x15_1 < (l1.length : Int) := sq_d
     obtain ⟨ad230, A230_0, c230_0, e230, hx230_0, hl230_0, hi230_0⟩ := at_L4 HR1.out x15_1 p230 q230
     cases e230
     have HR230_0 := Aside0.mk hi230_0
     have HC230_0 := Aside0.mk hl230_0
     clear hi230_0 hl230_0
     replace p230 := eq_true p230
     replace q230 := eq_true q230
     go_wp2_with (first | ((with_reducible refine gate_callee (f := 86) rfl ?_); refine goesL_ (some 21) rfl rfl Try.func86 (by kernel_rfl) rfl #[.slice A230_0 (rd_L4 l1 x15_1).length c230_0, .slice A2 l2.length c2] rfl (by (try simp only [List.map_toArray, List.map_cons, List.map_nil]); first | done | rfl | (simp only [List.length_drop, List.length_take]; rfl)) ?_; (with_reducible refine (spec_l11Fit.calls k1 _ _ (rd_L4 l1 x15_1) _ _ l2 false _ ?side1 ?side2 ?side3 ?side4 A7.out).mono ?_); (case side1 => repeat (first | exact HR230_0.out | (with_reducible refine Kd.C_alloc ?_ _) | (with_reducible refine Kd.C_drewN ?_ _) | (with_reducible refine Kd.C_drew ?_))); (case side2 => exact HC230_0.out); (case side3 => repeat (first | exact HR2.out | (with_reducible refine Kd.C_alloc ?_ _) | (with_reducible refine Kd.C_drewN ?_ _) | (with_reducible refine Kd.C_drew ?_))); (case side4 => exact HC2.out); rintro e w' ⟨rfl, ⟨nd, rfl⟩⟩; refine ⟨_, rfl, ?_⟩))
     go_roundg k1
     case measure => have := HK1.out; omega
     case rel => exact ⟨(x7_1), (wrap64 (x15_1 + 1)), sq_e, sq_e, H', ⟨by have := HK1.out; omega⟩, by repeat (first | exact Drawn0.refl _ | apply Drawn0.step)⟩
   ·rw [if_neg c4] at H
    have c4b0 : decide (x15_1 < (l1.length : Int)) = false := decide_eq_false c4
    clear c4
    have H' := Aside0.mk H
    clear H
    go_wp2
    go_loopg [10, 27] k1 (fun kq v10 v27 w' => ∃ (x10_2 : Int) (x27_2 : Int), v10 = .int .i64 x10_2 ∧ v27 = .int .i64 x27_2 ∧ Aside0 (spec_l11Covers.l1 kq l2 x7_1 x10_2 l0 (l0.length : Int) x27_2 = some r) ∧ Aside0 (kq ≤ k1) ∧ Drawn0 w w')
    case atStart => exact ⟨(0), (0), sq_e, sq_e, H', ⟨Nat.le_refl _⟩, by repeat (first | exact Drawn0.refl _ | apply Drawn0.step)⟩
    case round =>
     clear H'
     (try clear c1); (try clear c2); (try clear p2); (try clear q2); (try clear hx2); (try clear c4); (try clear c4b0); (try clear c5); (try clear c5b0); (try clear c6); (try clear c6b0); (try clear p6); (try clear c8); (try clear hx230_0); (try clear p2); (try clear p230); (try clear q230)
     obtain ⟨x10_2, x27_2, rfl, rfl, HA, HK2, ⟨m2, rfl⟩⟩ := hrel
     cases gk with
     | zero => exact absurd HA.out (by simp [spec_l11Covers.l1])
     | succ k2 =>
      have H := HA.out
      clear HA
      simp only [spec_l11Covers.l1] at H
      by_cases c9 : x27_2 < (l0.length : Int)
      ·rw [if_pos c9] at H
       have c9b0 : decide (x27_2 < (l0.length : Int)) = true := decide_eq_true c9
       clear c9
       by_cases c10 : 0 ≤ x27_2
       rotate_left
       ·rw [if_neg c10] at H
        exact absurd H (by simp)
       rw [if_pos c10] at H
       have c10b0 : decide (0 ≤ x27_2) = true := decide_eq_true c10
       clear c10
       by_cases c11 : x27_2 < (l0.length : Int)
       rotate_left
       ·rw [if_neg c11] at H
        exact absurd H (by simp)
       rw [if_pos c11] at H
       have c11b0 : decide (x27_2 < (l0.length : Int)) = true := decide_eq_true c11
       clear c11
       replace H := Option.bind_eq_some_iff.mp H
       obtain ⟨t233, A120, H⟩ := H
       replace H : (if t233 = true then (spec_l11Covers.l1 k2 l2 x7_1 (wrap64 (x10_2 + 1)) l0 (l0.length : Int) (wrap64 (x27_2 + 1))) else (spec_l11Covers.l1 k2 l2 x7_1 x10_2 l0 (l0.length : Int) (wrap64 (x27_2 + 1)))) = some r := H
       have A12 := Aside0.mk A120
       clear A120
       by_cases c13 : t233 = true
       ·subst c13
        have H1 : (spec_l11Covers.l1 k2 l2 x7_1 (wrap64 (x10_2 + 1)) l0 (l0.length : Int) (wrap64 (x27_2 + 1))) = some r := by rw [if_pos rfl] at H; exact H
        clear H
        have H := H1
        clear H1
        have H' := Aside0.mk H
        clear H
        have p232 : 0 ≤ (x27_2 : Int) := sq_d
        have q232 : x27_2 < (l0.length : Int) := sq_d
        obtain ⟨ad232, A232_0, c232_0, e232, hx232_0, hl232_0, hi232_0⟩ := at_L4 HR0.out x27_2 p232 q232
        cases e232
        have HR232_0 := Aside0.mk hi232_0
        have HC232_0 := Aside0.mk hl232_0
        clear hi232_0 hl232_0
        replace p232 := eq_true p232
        replace q232 := eq_true q232
        go_wp2_with (first | ((with_reducible refine gate_callee (f := 86) rfl ?_); refine goesL_ (some 33) rfl rfl Try.func86 (by kernel_rfl) rfl #[.slice A232_0 (rd_L4 l0 x27_2).length c232_0, .slice A2 l2.length c2] rfl (by (try simp only [List.map_toArray, List.map_cons, List.map_nil]); first | done | rfl | (simp only [List.length_drop, List.length_take]; rfl)) ?_; (with_reducible refine (spec_l11Fit.calls k2 _ _ (rd_L4 l0 x27_2) _ _ l2 true _ ?side1 ?side2 ?side3 ?side4 A12.out).mono ?_); (case side1 => repeat (first | exact HR232_0.out | (with_reducible refine Kd.C_alloc ?_ _) | (with_reducible refine Kd.C_drewN ?_ _) | (with_reducible refine Kd.C_drew ?_))); (case side2 => exact HC232_0.out); (case side3 => repeat (first | exact HR2.out | (with_reducible refine Kd.C_alloc ?_ _) | (with_reducible refine Kd.C_drewN ?_ _) | (with_reducible refine Kd.C_drew ?_))); (case side4 => exact HC2.out); rintro e w' ⟨rfl, ⟨nd, rfl⟩⟩; refine ⟨_, rfl, ?_⟩))
        go_roundg k2
        case measure => have := HK1.out; have := HK2.out; omega
        case rel => exact ⟨(wrap64 (x10_2 + 1)), (wrap64 (x27_2 + 1)), sq_e, sq_e, H', ⟨by have := HK1.out; have := HK2.out; omega⟩, by repeat (first | exact Drawn0.refl _ | apply Drawn0.step)⟩
       ·replace c13 := Bool.eq_false_iff.mpr c13
        subst c13
        have H1 : (spec_l11Covers.l1 k2 l2 x7_1 x10_2 l0 (l0.length : Int) (wrap64 (x27_2 + 1))) = some r := by rw [if_neg (show ¬ (false = true) by decide)] at H; exact H
        clear H
        have H := H1
        clear H1
        have H' := Aside0.mk H
        clear H
        have p232 : 0 ≤ (x27_2 : Int) := sq_d
        have q232 : x27_2 < (l0.length : Int) := sq_d
        obtain ⟨ad232, A232_0, c232_0, e232, hx232_0, hl232_0, hi232_0⟩ := at_L4 HR0.out x27_2 p232 q232
        cases e232
        have HR232_0 := Aside0.mk hi232_0
        have HC232_0 := Aside0.mk hl232_0
        clear hi232_0 hl232_0
        replace p232 := eq_true p232
        replace q232 := eq_true q232
        go_wp2_with (first | ((with_reducible refine gate_callee (f := 86) rfl ?_); refine goesL_ (some 33) rfl rfl Try.func86 (by kernel_rfl) rfl #[.slice A232_0 (rd_L4 l0 x27_2).length c232_0, .slice A2 l2.length c2] rfl (by (try simp only [List.map_toArray, List.map_cons, List.map_nil]); first | done | rfl | (simp only [List.length_drop, List.length_take]; rfl)) ?_; (with_reducible refine (spec_l11Fit.calls k2 _ _ (rd_L4 l0 x27_2) _ _ l2 false _ ?side1 ?side2 ?side3 ?side4 A12.out).mono ?_); (case side1 => repeat (first | exact HR232_0.out | (with_reducible refine Kd.C_alloc ?_ _) | (with_reducible refine Kd.C_drewN ?_ _) | (with_reducible refine Kd.C_drew ?_))); (case side2 => exact HC232_0.out); (case side3 => repeat (first | exact HR2.out | (with_reducible refine Kd.C_alloc ?_ _) | (with_reducible refine Kd.C_drewN ?_ _) | (with_reducible refine Kd.C_drew ?_))); (case side4 => exact HC2.out); rintro e w' ⟨rfl, ⟨nd, rfl⟩⟩; refine ⟨_, rfl, ?_⟩))
        go_roundg k2
        case measure => have := HK1.out; have := HK2.out; omega
        case rel => exact ⟨(x10_2), (wrap64 (x27_2 + 1)), sq_e, sq_e, H', ⟨by have := HK1.out; have := HK2.out; omega⟩, by repeat (first | exact Drawn0.refl _ | apply Drawn0.step)⟩
      ·rw [if_neg c9] at H
       have c9b0 : decide (x27_2 < (l0.length : Int)) = false := decide_eq_false c9
       clear c9
       obtain rfl := Option.some.inj H
       go_wp2
       go_ret
       exact ⟨by first | rfl | (simp; done) | (simp [ext_bne_nil, ext_beq_nil]; done) | (simp [*]; done), by repeat (first | exact Drawn0.refl _ | apply Drawn0.step)⟩

/-! ### spec_PrimesOf: function 19 (by hand) -/
def spec_PrimesOf.p (k : Nat) (terms all : List (List Int)) (t : List Int) : List Int → Nat → Bool → Option Bool
 | [], _, b => some b
 | n :: rest, i, b => if b = true ∧ n ≠ 0 then (spec_l11Covers.f k terms all (t.set i 0)).bind fun c => spec_PrimesOf.p k terms all t rest (i + 1) (!c) else spec_PrimesOf.p k terms all t rest (i + 1) b
def spec_PrimesOf.m (k : Nat) (terms all : List (List Int)) : List (List Int) → Option (List (List Int))
 | [] => some []
 | t :: l => (spec_l11Covers.f k terms all t).bind fun c => (spec_PrimesOf.p k terms all t t 0 c).bind fun b => (spec_PrimesOf.m k terms all l).bind fun r => some (if b then t :: r else r)
def spec_PrimesOf.f (k : Nat) (l0 : List S46) : Option (List (List Int) × Bool) := (spec_GoodQuery.f k l0).bind fun g => if g = true then ((spec_l11Words.f k l0).bind fun ws => (spec_l11Terms.f k l0).bind fun terms => (spec_l11All.f (ws.length : Int) 1).bind fun all => (spec_l11All.f (ws.length : Int) 0).bind fun ts => (spec_PrimesOf.m k terms all ts).bind fun r => some (r, true)) else some ([], false)
theorem spec_PrimesOf.mono_p : ∀ (a0 a1 : List (List Int)) (a2 a3 : List Int) (i : Nat) (b : Bool) (k : Nat), LeO (spec_PrimesOf.p k a0 a1 a2 a3 i b) (spec_PrimesOf.p (k + 1) a0 a1 a2 a3 i b)
 | _, _, _, [], _, _, _ => LeO.refl _
 | a0, a1, a2, n :: rest, i, b, k => LeO.ite (LeO.bind (spec_l11Covers.mono _ _ _ k) (fun _ => spec_PrimesOf.mono_p a0 a1 a2 rest (i + 1) _ k)) (spec_PrimesOf.mono_p a0 a1 a2 rest (i + 1) b k)
theorem spec_PrimesOf.mono_m : ∀ (a0 a1 a2 : List (List Int)) (k : Nat), LeO (spec_PrimesOf.m k a0 a1 a2) (spec_PrimesOf.m (k + 1) a0 a1 a2)
 | _, _, [], _ => LeO.refl _
 | a0, a1, t :: l, k => LeO.bind (spec_l11Covers.mono _ _ _ k) (fun _ => LeO.bind (spec_PrimesOf.mono_p a0 a1 t t 0 _ k) (fun _ => LeO.bind (spec_PrimesOf.mono_m a0 a1 l k) (fun _ => LeO.refl _)))
theorem spec_PrimesOf.mono : ∀ a0 k, LeO (spec_PrimesOf.f k a0) (spec_PrimesOf.f (k + 1) a0) := fun a0 k =>
 LeO.bind (spec_GoodQuery.mono a0 k) (fun _ => LeO.ite (LeO.bind (spec_l11Words.mono a0 k) (fun _ => LeO.bind (spec_l11Terms.mono a0 k) (fun _ => LeO.bind (LeO.refl _) (fun _ => LeO.bind (LeO.refl _) (fun _ => LeO.bind (spec_PrimesOf.mono_m _ _ _ k) (fun _ => LeO.refl _)))))) (LeO.refl _))
theorem spec_PrimesOf.bounds {a b : Int} {r : List (List Int)} (h : spec_l11All.f a b = some r) : r.length ≤ 6561 ∧ ∀ t ∈ r, t.length ≤ 8 := by
 unfold spec_l11All.f at h
 by_cases hc : 0 ≤ a ∧ a ≤ 8 ∧ 0 ≤ b ∧ b ≤ 3
 rotate_left
 ·rw [if_neg hc] at h
  exact absurd h (by simp)
 rw [if_pos hc] at h
 obtain rfl := Option.some.inj h
 exact ⟨allL_small b hc.2.2.1 _ (by omega), fun t ht => by rw [allL_mem _ _ t ht]; omega⟩
set_option maxHeartbeats 16000000 in
set_option maxRecDepth 100000 in
theorem spec_PrimesOf.calls (k : Nat) (A0 : Option Addr) (c0 : Nat) (l0 : List S46) (r1 : List (List Int)) (r2 : Bool) (w : World) (hr0 : Kd.C k46 w A0 l0.length l0) (hc0 : l0.length ≤ c0) (h : spec_PrimesOf.f k l0 = some (r1, r2)) :
  Calls Try.prog 19 #[.slice A0 l0.length c0] w fun e w' => ∃ v0_ : Value, e = .returned (.tuple #[v0_, .bool r2]) ∧ Kd.N (Kd.slice 3 (Kd.int .i64)) 49 w' w.heap.size (fun k_ => (w.heap.size ≤ k_)) v0_ r1 ∧ Below w.heap.size w w' := by
 unfold spec_PrimesOf.f at h
 obtain ⟨g, hg, h⟩ := Option.bind_eq_some_iff.mp h
 have HR0 := Aside0.mk hr0
 have HC0 := Aside0.mk hc0
 have HG := Aside0.mk hg
 clear hr0 hc0 hg
 cases g with
 | false =>
  rw [if_neg (by simp)] at h
  have HE := Aside0.mk (Option.some.inj h)
  clear h
  go_enter Try.func19, Try.ntmps19
  go_wp2_with fail
  (with_reducible refine (spec_GoodQuery.calls k _ _ l0 false _ ?s1 ?s2 HG.out).mono ?_)
  case s1 => exact HR0.out
  case s2 => exact HC0.out
  rintro e w1 ⟨rfl, hb⟩
  have HB := Aside0.mk hb
  clear hb
  go_wp2
  go_ret2
  obtain ⟨rfl, rfl⟩ := Prod.mk.inj HE.out
  exact ⟨_, rfl, Kd.N_nil _ _ _ _ _, HB.out⟩
 | true =>
  rw [if_pos rfl] at h
  obtain ⟨ws, hws, h⟩ := Option.bind_eq_some_iff.mp h
  obtain ⟨terms, hte, h⟩ := Option.bind_eq_some_iff.mp h
  obtain ⟨all, hal, h⟩ := Option.bind_eq_some_iff.mp h
  obtain ⟨ts, ht, h⟩ := Option.bind_eq_some_iff.mp h
  obtain ⟨r, hd, h⟩ := Option.bind_eq_some_iff.mp h
  have HE := Aside0.mk (Option.some.inj h)
  have HWS := Aside0.mk hws
  have HTE := Aside0.mk hte
  have HAL := Aside0.mk hal
  have HT := Aside0.mk ht
  have HD := Aside0.mk hd
  clear hws hte hal ht hd h
  go_enter Try.func19, Try.ntmps19
  go_wp2_with fail
  (with_reducible refine (spec_GoodQuery.calls k _ _ l0 true _ ?s1 ?s2 HG.out).mono ?_)
  case s1 => exact HR0.out
  case s2 => exact HC0.out
  rintro e w1 ⟨rfl, hb⟩
  have HB1 := Aside0.mk hb
  clear hb
  go_wp2_with fail
  (with_reducible refine (spec_l11Words.calls k _ _ l0 ws _ ?s1 ?s2 HWS.out).mono ?_)
  case s1 => exact Kd.C_below HR0.out HB1.out
  case s2 => exact HC0.out
  rintro e w2 ⟨v2, rfl, ho2, hb2⟩
  obtain ⟨A2, c2, rfl⟩ := Kd.R_slice ho2
  have HB2 := Aside0.mk (below_step HB1.out hb2)
  clear ho2 hb2 HB1
  go_wp2_with fail
  (with_reducible refine (spec_l11Terms.calls k _ _ l0 terms _ ?s1 ?s2 HTE.out).mono ?_)
  case s1 => exact Kd.C_below HR0.out HB2.out
  case s2 => exact HC0.out
  rintro e w3 ⟨v3, rfl, ho3, hb3⟩
  obtain ⟨A3, c3, rfl, hl3, hC3⟩ := Kd.N_reads ho3
  have HL3 := Aside0.mk hl3
  have HC3 := Aside0.mk hC3
  have HB3 := Aside0.mk (below_step HB2.out hb3)
  clear ho3 hb3 HB2 hl3 hC3
  go_wp2_with fail
  (with_reducible refine (spec_l11All.calls _ _ all _ HAL.out).mono ?_)
  rintro e w4 ⟨v4, rfl, ho4, hb4⟩
  obtain ⟨A4, c4, rfl, hl4, hC4⟩ := Kd.S_reads ho4
  have HL4 := Aside0.mk hl4
  have HC4 := Aside0.mk hC4
  have HC3b := Aside0.mk (Kd.C_below HC3.out hb4)
  have HB4 := Aside0.mk (below_step HB3.out hb4)
  clear ho4 hb4 HB3 hl4 hC4 HC3
  go_wp2_with fail
  (with_reducible refine (spec_l11All.calls _ _ ts _ HT.out).mono ?_)
  rintro e wS ⟨v5, rfl, ho5, hb5⟩
  obtain ⟨A5, c5, rfl⟩ := Kd.S_slice ho5
  have HO5 := Aside0.mk (Kd.S_mono (Kd.S_bound (Kd.S_lower ho5 HB4.out.size)) (fun k_ hk => (⟨hk.2.1, hk.2.2.1⟩ : w.heap.size ≤ k_ ∧ k_ < wS.heap.size)))
  have HC3 := Aside0.mk (Kd.C_below HC3b.out hb5)
  have HC4 := Aside0.mk (Kd.C_below HC4.out hb5)
  have HB5 := Aside0.mk (below_step HB4.out hb5)
  clear ho5 hb5 HB4 HC3b
  go_wp2
  go_loopg [7, 26] ts.length (fun kq v7 v26 w' => ∃ (j : Nat) (x26 : Int) (acc rest : List (List Int)), v26 = .int .i64 x26 ∧ Aside0 (x26 = j) ∧ Aside0 (j + kq = ts.length) ∧ Aside0 (spec_PrimesOf.m k terms all (ts.drop j) = some rest ∧ r = acc ++ rest ∧ acc.length ≤ j) ∧ Aside0 (Kd.N (Kd.slice 3 (Kd.int .i64)) 49 w' wS.heap.size (fun k_ => (w.heap.size ≤ k_)) v7 acc) ∧ Aside0 (Below wS.heap.size wS w'))
  case atStart => exact ⟨0, 0, [], r, rfl, ⟨rfl⟩, ⟨by simp⟩, ⟨by rw [List.drop_zero]; exact ⟨HD.out, rfl, Nat.le_refl _⟩⟩, ⟨Kd.N_nil _ _ _ _ _⟩, ⟨Below.refl _ _⟩⟩
  case round =>
   obtain ⟨j, x26, acc, rest, rfl, H26, HJ, HA, HN, HB⟩ := hrel
   cases gk with
   | zero =>
    have c1 : decide (x26 < (ts.length : Int)) = false := decide_eq_false (by have := HJ.out; have := H26.out; omega)
    have HF := Aside0.mk (show r = acc from by
     obtain ⟨h1, h2, _⟩ := HA.out
     rw [show j = ts.length by have := HJ.out; omega, List.drop_length] at h1
     rw [h2, ← Option.some.inj h1, List.append_nil])
    go_wp2
    go_ret2
    obtain ⟨h1, h2⟩ := Prod.mk.inj HE.out
    subst h2
    rw [← h1, HF.out]
    exact ⟨_, rfl, Kd.N_lower HN.out HB5.out.size, below_step HB5.out HB.out⟩
   | succ k1 =>
    have h26 := H26.out
    have hj := HJ.out
    obtain ⟨hlen, hmem⟩ := spec_PrimesOf.bounds HT.out
    have p1 : x26 < (ts.length : Int) := by omega
    have p0 : 0 ≤ x26 := by omega
    have c1 : decide (x26 < (ts.length : Int)) = true := decide_eq_true p1
    have c0 : decide (0 ≤ x26) = true := decide_eq_true p0
    obtain ⟨g5, cp5, e1, _, _, _⟩ := Kd.S_form HO5.out (by omega)
    injection e1 with e1 e3 e2
    clear e3
    subst e1; subst e2
    obtain ⟨t, ht⟩ : ∃ t, ts[j]? = some t := ⟨_, List.getElem?_eq_getElem (by omega)⟩
    have HDR := Aside0.mk (show ts.drop j = t :: ts.drop (j + 1) by obtain ⟨h1, h2⟩ := List.getElem?_eq_some_iff.1 ht; rw [← h2]; exact List.drop_eq_getElem_cons h1)
    have HT8 := Aside0.mk (hmem t (List.mem_of_getElem? ht))
    obtain ⟨cs, hcl, hM, hcc⟩ := Kd.S_get HO5.out [] x26 p0 p1
    rw [show x26.toNat = j by omega, List.getD_eq_getElem?_getD, ht, Option.getD_some] at hM
    obtain ⟨vt, rfl, hRt⟩ := hM
    obtain ⟨At, ct, rfl, hlt, hCt⟩ := Kd.R_reads hRt
    have hcell := hcc 0 _ rfl
    rw [Nat.add_zero, show ((Kd.slice 3 (Kd.int .i64))).sz = 1 from rfl, Nat.mul_one, add_plain] at hcell
    replace hcell := (HB.out.cell (World.block_lt_of_cell? wS _ hcell)).trans hcell
    have HCT := Aside0.mk hCt
    have HCL := Aside0.mk hlt
    have HFT := Aside0.mk (Kd.FK_mono (Kd.FK_slice_mk (e := 3) hlt (Kd.R_F hRt)) (fun k_ hk => (hk.1 : w.heap.size ≤ k_ ∧ k_ < wS.heap.size)))
    have HW26 := Aside0.mk (show wrap64 (x26 + 1) = x26 + 1 from by unfold wrap64; omega)
    have HAL := Aside0.mk (show acc.length ≤ 6561 by have := HA.out.2.2; omega)
    obtain ⟨ha1, ha2, ha3⟩ := HA.out
    rw [HDR.out] at ha1
    unfold spec_PrimesOf.m at ha1
    obtain ⟨cv, hcv, ha1⟩ := Option.bind_eq_some_iff.mp ha1
    obtain ⟨bv, hbv, ha1⟩ := Option.bind_eq_some_iff.mp ha1
    obtain ⟨rr, hrr, ha1⟩ := Option.bind_eq_some_iff.mp ha1
    have HCV := Aside0.mk hcv
    have HBV := Aside0.mk hbv
    have HRR := Aside0.mk hrr
    have HFIN := Aside0.mk (show r = acc ++ (if bv then t :: rr else rr) by rw [ha2, ← Option.some.inj ha1])
    have HACC := Aside0.mk ha3
    clear hcl hcc hRt hlt hCt ht h26 hj hlen hmem ha1 ha2 ha3 hcv hbv hrr HA
    go_wp2_with fail
    (with_reducible refine (spec_l11Covers.calls k _ _ terms _ _ all _ _ t cv _ ?s1 ?s2 ?s3 ?s4 ?s5 ?s6 HCV.out).mono ?_)
    case s1 => exact Kd.C_below HC3.out HB.out
    case s2 => exact HL3.out
    case s3 => exact Kd.C_below HC4.out HB.out
    case s4 => exact HL4.out
    case s5 => exact Kd.C_below HCT.out HB.out
    case s6 => exact HCL.out
    rintro e w6 ⟨rfl, hd6⟩
    have HB6 := Aside0.mk (below_step HB.out hd6.below)
    have HN6 := Aside0.mk (Kd.N_below HN.out hd6.below)
    clear hd6 hcell HB HN
    go_wp2
    go_loopg [10, 36] t.length (fun kq v10 v36 w' => ∃ (i : Nat) (x36 : Int) (b : Bool), v10 = .bool b ∧ v36 = .int .i64 x36 ∧ Aside0 (x36 = i) ∧ Aside0 (i + kq = t.length) ∧ Aside0 (spec_PrimesOf.p k terms all t (t.drop i) i b = some bv) ∧ Aside0 (Kd.N (Kd.slice 3 (Kd.int .i64)) 49 w' wS.heap.size (fun k_ => (w.heap.size ≤ k_)) u7 acc) ∧ Aside0 (Below wS.heap.size wS w'))
    case atStart => exact ⟨0, 0, cv, rfl, rfl, ⟨rfl⟩, ⟨by simp⟩, HBV, HN6, HB6⟩
    case round =>
     clear HN6 HB6
     obtain ⟨i, x36, b, rfl, rfl, H36, HI, HP, HN, HB⟩ := hrel
     cases gk with
     | zero =>
      have c2 : decide (x36 < (t.length : Int)) = false := decide_eq_false (by have := HI.out; have := H36.out; omega)
      have HBB := Aside0.mk (show b = bv from by
       have h_ := HP.out
       rw [show i = t.length by have := HI.out; omega, List.drop_length] at h_
       exact Option.some.inj h_)
      cases b with
      | false =>
       have HR2 := Aside0.mk (show r = acc ++ rr by rw [HFIN.out, ← HBB.out]; simp)
       go_wp2
       go_roundg k1
       case measure => omega
       case rel => exact ⟨j + 1, x26 + 1, acc, rr, by rw [HW26.out], ⟨by have := H26.out; omega⟩, ⟨by have := HJ.out; omega⟩, ⟨⟨HRR.out, HR2.out, by have := HACC.out; omega⟩⟩, HN, HB⟩
      | true =>
       have HR2 := Aside0.mk (show r = (acc ++ [t]) ++ rr by rw [HFIN.out, ← HBB.out]; simp)
       have HSZ := Aside0.mk (Nat.le_trans HB5.out.size HB.out.size)
       go_wp2_with ((with_reducible refine gate_builtin (b := .append) (xs := #[.tmp 60, .tmp 62]) rfl ?_); at_builtin; refine Kd.N_append (Kd.slice 3 (Kd.int .i64)) (w0 := wS) wS.heap.size rfl (.tmp 60) (.tmp 62) 30 49 (.slice none 0 0) 24 rfl Try.underlying30 info49 rfl (by decide) (by omega) u7 acc t [.slice At t.length ct] (fun k_ => w.heap.size ≤ k_) (fun k_ => w.heap.size ≤ k_ ∧ k_ < wS.heap.size) rfl rfl ?aP ?aK ?aF HN.out HB.out HB.out.size ?aL ?_; (case aP => exact Kd.FK_below HFT.out HB.out); (case aK => exact fun k_ hk => ⟨hk.1, fun he => by have := Kd.N_base HN.out k_ he.symm; omega⟩); (case aF => exact fun k_ hk => Nat.le_trans HSZ.out hk); (case aL => have := HAL.out; omega); intro v8 w8 ho hb hg hat; have HN8 := Aside0.mk ho; have HB8 := Aside0.mk hb; clear ho hb hg hat HN HB)
       go_roundg k1
       case measure => omega
       case rel => exact ⟨j + 1, x26 + 1, acc ++ [t], rr, by rw [HW26.out], ⟨by have := H26.out; omega⟩, ⟨by have := HJ.out; omega⟩, ⟨⟨HRR.out, HR2.out, by have := HACC.out; simp; omega⟩⟩, HN8, HB8⟩
     | succ k2 =>
      have h36 := H36.out
      have hi := HI.out
      have q1 : x36 < (t.length : Int) := by omega
      have q0 : 0 ≤ x36 := by omega
      have c2 : decide (x36 < (t.length : Int)) = true := decide_eq_true q1
      have c3 : decide (0 ≤ x36) = true := decide_eq_true q0
      have HW36 := Aside0.mk (show wrap64 (x36 + 1) = x36 + 1 from by have := HT8.out; unfold wrap64; omega)
      obtain ⟨n, hn⟩ : ∃ n, n = rd t x36 := ⟨_, rfl⟩
      have HND := Aside0.mk (show t.drop i = n :: t.drop (i + 1) by rw [hn, List.drop_eq_getElem_cons (by omega)]; congr 1; unfold rd; rw [show x36.toNat = i by omega, List.getD_eq_getElem?_getD, List.getElem?_eq_getElem (by omega)]; rfl)
      have HN36 := Aside0.mk (show x36.toNat = i by omega)
      have hp := HP.out
      rw [HND.out] at hp
      unfold spec_PrimesOf.p at hp
      cases b with
      | false =>
       rw [if_neg (by simp)] at hp
       have HP2 := Aside0.mk hp
       clear hp hn h36 hi
       go_wp2
       go_roundg k2
       case measure => omega
       case rel => exact ⟨i + 1, x36 + 1, false, rfl, by rw [HW36.out], ⟨by have := H36.out; omega⟩, ⟨by have := HI.out; omega⟩, HP2, HN, HB⟩
      | true =>
       obtain ⟨ad, ead, hx0⟩ := Kd.at_int HCT.out x36 q0 q1
       cases ead
       replace hx0 := (HB.out.cell (World.block_lt_of_cell? wS _ hx0)).trans hx0
       rw [← hn] at hx0
       by_cases hn0 : n = 0
       ·rw [if_neg (by simp [hn0])] at hp
        have HP2 := Aside0.mk hp
        have c5 : (n != (0 : Int)) = false := by simp [hn0]
        clear hp hn h36 hi hn0
        go_wp2
        go_roundg k2
        case measure => omega
        case rel => exact ⟨i + 1, x36 + 1, true, rfl, by rw [HW36.out], ⟨by have := H36.out; omega⟩, ⟨by have := HI.out; omega⟩, HP2, HN, HB⟩
       ·rw [if_pos ⟨rfl, hn0⟩] at hp
        obtain ⟨c6, hc6, hp⟩ := Option.bind_eq_some_iff.mp hp
        have HP2 := Aside0.mk hp
        have HC6 := Aside0.mk hc6
        have c5 : (n != (0 : Int)) = true := by simpa using hn0
        clear hp hc6 hn h36 hi hn0
        go_wp2_with (first | ((with_reducible refine gate_dst (N := 47) rfl ?_); refine Kd.R_lit (Kd.int .i64) _ 3 ?hg (N := 47) ?hd (xs := ([] : List Int)) (inner := []) (ok := fun _ => True) (okp := fun _ => True) ?hr ?hp (fun _ hk => hk) trivial (Below.refl _ _) (Nat.le_refl _) (by simp) ?_; (case hd => rfl); (case hg => rfl); (case hr => first | (go_simp; done) | (go_simp; rfl)); (case hp => exact (Reps.none _ _)); intro v1 w7 ho hb hg_ hnew_; have HN7 := Aside0.mk (Kd.N_below HN.out hb); have HB7 := Aside0.mk (below_step HB.out hb); have HR7 := Aside0.mk (Kd.R_lower (base' := wS.heap.size) ho HB.out.size); have HRN := Aside0.mk (Kd.N_elder' HN.out (Kd.R_base ho) hb); have HC7 := Aside0.mk (Kd.C_below HCT.out HB7.out); clear HN HB hg_ hnew_ ho hb) | ((with_reducible refine gate_builtin (b := .append) (xs := #[.tmp 47, .tmp 48]) rfl ?_); at_builtin; refine Kd.R_append_rows (Kd.int .i64) (w0 := wS) wS.heap.size rfl (.tmp 47) (.tmp 48) 49 3 (.int .i64 0) 8 rfl Try.underlying49 info3 rfl (by decide) (by omega) v1 [] t _ _ _ (fun _ => True) (fun _ => False) rfl rfl HR7.out ?aR (fun _ _ h => h) (fun _ h => h.elim) (fun _ _ => trivial) HB7.out HB7.out.size ?aL ?_; (case aR => exact HC7.out); (case aL => have := HT8.out; simp; omega); intro v2 w8 ho hb hg hat; have HN8 := Aside0.mk (Kd.N_after (ok := fun k_ => w.heap.size ≤ k_) HRN.out hg hat); have HB8 := Aside0.mk hb; have HR8 := Aside0.mk (show (Kd.int .i64).R 3 w8 wS.heap.size (fun _ => True) v2 t from by simpa using ho); clear HN7 HB7 HR7 HC7 HRN ho hb hg hat; obtain ⟨g2, c2, eo2, hge2, _, _⟩ := Kd.R_form HR8.out (by have := HI.out; omega); subst eo2; have HGE := Aside0.mk hge2; clear hge2; obtain ⟨ce, hcl, hM, hcc, hfr⟩ := Kd.R_elem HR8.out 0 x36 q0 q1; obtain rfl : ce = [.int .i64 (t.getD x36.toNat 0)] := hM; have hy0 : w8.cell? ⟨g2, x36.toNat, none⟩ = some (.int .i64 (t.getD x36.toNat 0)) := (by have h_ := hcc 0 _ rfl; rwa [Nat.add_zero, show (Kd.int .i64).sz = 1 from rfl, Nat.mul_one] at h_); have hy1 : w8.frozen? ⟨g2, x36.toNat, none⟩ = false := (by have h_ := hfr 0; rwa [Nat.add_zero, show (Kd.int .i64).sz = 1 from rfl, Nat.mul_one] at h_); have HPT := Aside0.mk (Kd.R_putg (enc := Value.int .i64) (h1 := fun _ => rfl) HR8.out x36 0); clear hcl hcc hfr))
        have HB9 := Aside0.mk (below_set (v := .int .i64 0) (j := x36.toNat) HB8.out HGE.out)
        have HN9 := Aside0.mk (Kd.N_far (p := ⟨g2, x36.toNat, none⟩) HN8.out (fun k_ hk he => hk.2 (by simp [Value.ownBlock, he])) (.int .i64 0))
        have hcv9 := spec_l11Covers.calls k _ _ terms _ _ all (some ⟨g2, 0, none⟩) c2 (t.set i 0) c6 _ (Kd.C_below HC3.out HB9.out) HL3.out (Kd.C_below HC4.out HB9.out) HL4.out (by rw [← HN36.out]; exact (Kd.R_reads' HPT.out.1).2.2) (by rw [List.length_set]; exact (Kd.R_reads' HR8.out).2.1) HC6.out
        rw [List.length_set] at hcv9
        have HCV9 := Aside0.mk hcv9
        clear hcv9 HN8
        (with_reducible refine HCV9.out.mono ?_)
        rintro e w9 ⟨rfl, hd9⟩
        have HB10 := Aside0.mk (below_step HB9.out hd9.below)
        have HN10 := Aside0.mk (Kd.N_mono (Kd.N_below HN9.out hd9.below) (fun _ hk => hk.1))
        clear hd9 HCV9 HB9 HN9 HB8
        go_wp2
        go_roundg k2
        case measure => omega
        case rel => exact ⟨i + 1, x36 + 1, !c6, rfl, by rw [HW36.out], ⟨by have := H36.out; omega⟩, ⟨by have := HI.out; omega⟩, HP2, HN10, HB10⟩

/-! ### slices_Sort_string_string: function 83 -/
def slices_Sort_string_string.f (l0 : List ByteArray) : Option (List ByteArray) := if l0.length < 4611686018427387904 then some (sortStrs l0) else none
theorem slices_Sort_string_string.calls (P0_ : Nat → Prop) (u9000_ : Value) (l0 : List ByteArray) (r : List ByteArray) (w0 w : World) (hB : Below w0.heap.size w0 w) (ho0 : Kd.R Kd.string 9 w w0.heap.size P0_ u9000_ l0) (h : slices_Sort_string_string.f l0 = some r) :
  Calls Try.prog 83 #[u9000_] w fun e w' => e = .returned (.tuple #[]) ∧ Kd.R Kd.string 9 w' w0.heap.size (fun k_ => (P0_ k_ ∨ w.heap.size ≤ k_)) u9000_ r ∧ Below w0.heap.size w0 w' ∧ Kept w w' (fun k_ => P0_ k_) := by
 unfold slices_Sort_string_string.f at h
 by_cases hl : l0.length < 4611686018427387904
 ·rw [if_pos hl] at h
  obtain rfl := Option.some.inj h
  exact Go.Proofs.Ytnolkgfdokijjaa.Ext.sort_calls Go.Proofs.Ytnolkgfdokijjaa.Ext.laysSort P0_ u9000_ l0 w0 w hB ho0 hl
 ·rw [if_neg hl] at h
  exact absurd h (by simp)

/-! ### slices_Compact_string_string: function 84 -/
def slices_Compact_string_string.f (l0 : List ByteArray) : Option (List ByteArray) := some (compStrs l0)
theorem slices_Compact_string_string.calls (P0_ : Nat → Prop) (u9000_ : Value) (l0 : List ByteArray) (r : List ByteArray) (w0 w : World) (hB : Below w0.heap.size w0 w) (ho0 : Kd.R Kd.string 9 w w0.heap.size P0_ u9000_ l0) (h : slices_Compact_string_string.f l0 = some r) :
  Calls Try.prog 84 #[u9000_] w fun e w' => ∃ v0_ : Value, e = .returned (v0_) ∧ Kd.R Kd.string 9 w' w0.heap.size (fun k_ => (P0_ k_ ∨ w.heap.size ≤ k_)) v0_ r ∧ Below w0.heap.size w0 w' ∧ Kept w w' (fun k_ => P0_ k_) := by
 unfold slices_Compact_string_string.f at h
 obtain rfl := Option.some.inj h
 refine (Go.Proofs.Ytnolkgfdokijjaa.Ext.compact_calls Go.Proofs.Ytnolkgfdokijjaa.Ext.laysCompact P0_ u9000_ l0 w0 w hB ho0).mono ?_
 rintro e w' ⟨⟨v, h1, h2⟩, h3, h4⟩
 exact ⟨v, h1, h2, h3, h4⟩

/-! ### impl_wordsIn: function 48 -/
def impl_wordsIn.l0 : Nat → List ByteArray → List (S46) → Int → Int → Option (List ByteArray)
 | 0, _, _, _, _ => none
 | k + 1, x3, x6, x7, x8 => if x8 < x7 then (if 0 ≤ x8 then (if x8 < (x6.length : Int) then (if ((rd_T46 x6 x8).f0) = 1 then (if x3.length < 8796093022208 then (impl_wordsIn.l0 k (x3 ++ [(rd_T46 x6 x8).f1]) x6 x7 (wrap64 (x8 + 1))) else (none)) else (impl_wordsIn.l0 k x3 x6 x7 (wrap64 (x8 + 1)))) else (none)) else (none)) else ((slices_Sort_string_string.f x3).bind fun t239 => ((slices_Compact_string_string.f t239).bind fun t240 => (some t240)))
def impl_wordsIn.f (k : Nat) (l0 : List (S46)) : Option (List ByteArray) := impl_wordsIn.l0 k ([] : List ByteArray) l0 (l0.length : Int) 0
theorem impl_wordsIn.mono_l : ∀ k, (∀ y0 y1 y2 y3, LeO (impl_wordsIn.l0 k y0 y1 y2 y3) (impl_wordsIn.l0 (k + 1) y0 y1 y2 y3))
 | 0 => fun _ _ _ _ r h => by simp [impl_wordsIn.l0] at h
 | k + 1 => by
  have ih0 := impl_wordsIn.mono_l k
  ·intro y0 y1 y2 y3
   unfold impl_wordsIn.l0
   repeat' first
   | (with_reducible exact ih0 _ _ _ _)
   | (with_reducible exact LeO.refl _)
   | (with_reducible exact LeO.none _)
   | (with_reducible refine LeO.ite ?_ ?_)
   | (with_reducible refine LeO.bind ?_ (fun _ => ?_))
   | exact ih0 _ _ _ _
   | exact LeO.none _
   | refine LeO.ite ?_ ?_
   | refine LeO.bind ?_ (fun _ => ?_)
theorem impl_wordsIn.mono : ∀ a0 k, LeO (impl_wordsIn.f k a0) (impl_wordsIn.f (k + 1) a0) := by
 intro a0 k
 have ih0 := impl_wordsIn.mono_l k
 unfold impl_wordsIn.f
 repeat' first
   | (with_reducible exact ih0 _ _ _ _)
   | (with_reducible exact LeO.refl _)
   | (with_reducible exact LeO.none _)
   | (with_reducible refine LeO.ite ?_ ?_)
   | (with_reducible refine LeO.bind ?_ (fun _ => ?_))
   | exact ih0 _ _ _ _
   | exact LeO.none _
   | refine LeO.ite ?_ ?_
   | refine LeO.bind ?_ (fun _ => ?_)
set_option maxHeartbeats 8000000 in
set_option maxRecDepth 100000 in
theorem impl_wordsIn.calls (k : Nat) (A0 : Option Addr) (c0 : Nat) (l0 : List (S46)) (r : List ByteArray) (w : World) (hr0 : Kd.C k46 w A0 l0.length l0) (hc0 : l0.length ≤ c0) (h : impl_wordsIn.f k l0 = some r) :
  Calls Try.prog 48 #[.slice A0 l0.length c0] w fun e w' => ∃ v0_ : Value, e = .returned (v0_) ∧ Kd.R Kd.string 9 w' w.heap.size (fun _ => True) v0_ r ∧ Below w.heap.size w w' := by
 have hu46 := Try.underlying46
 have HR0 := Aside0.mk hr0
 have HC0 := Aside0.mk hc0
 clear hr0 hc0
 have HB := Aside0.mk (Below.refl w.heap.size w)
 have H : (impl_wordsIn.l0 k ([] : List ByteArray) l0 (l0.length : Int) 0) = some r := h
 clear h
 have H' := Aside0.mk H
 clear H
 go_enter Try.func48, Try.ntmps48
 go_wp2
 go_loopg [3, 8] k (fun kq v3 v8 w' => ∃ (x3_1 : List ByteArray) (x8_1 : Int), v8 = .int .i64 x8_1 ∧ Aside0 (impl_wordsIn.l0 kq x3_1 l0 (l0.length : Int) x8_1 = some r) ∧ Aside0 (kq ≤ k) ∧ Aside0 (Kd.R Kd.string 9 w' w.heap.size (fun _ => True) v3 x3_1) ∧ Aside0 (Below w.heap.size w w'))
 case atStart => exact ⟨(([] : List ByteArray)), (0), sq_e, H', ⟨Nat.le_refl _⟩, ⟨by first | exact Kd.R_nil _ _ _ _ _ | exact Kd.N_nil _ _ _ _ _ | exact Kd.V_nil _ _ _ _ _ | exact Kd.Q_nil _ _ _ _ _ | exact Kd.S_nil _ _ _ _ _⟩, ⟨sq_b⟩⟩
 case round =>
  clear H'
  obtain ⟨x3_1, x8_1, rfl, HA, HK1, HO_3, HB⟩ := hrel
  cases gk with
  | zero => exact absurd HA.out (by simp [impl_wordsIn.l0])
  | succ k1 =>
   have H := HA.out
   clear HA
   simp only [impl_wordsIn.l0] at H
   by_cases c2 : x8_1 < (l0.length : Int)
   ·rw [if_pos c2] at H
    have c2b0 : decide (x8_1 < (l0.length : Int)) = true := decide_eq_true c2
    clear c2
    by_cases c3 : 0 ≤ x8_1
    rotate_left
    ·rw [if_neg c3] at H
     exact absurd H (by simp)
    rw [if_pos c3] at H
    have c3b0 : decide (0 ≤ x8_1) = true := decide_eq_true c3
    clear c3
    by_cases c4 : x8_1 < (l0.length : Int)
    rotate_left
    ·rw [if_neg c4] at H
     exact absurd H (by simp)
    rw [if_pos c4] at H
    have c4b0 : decide (x8_1 < (l0.length : Int)) = true := decide_eq_true c4
    clear c4
    by_cases c5 : ((rd_T46 l0 x8_1).f0) = 1
    ·rw [if_pos c5] at H
     have c5b0 : (((rd_T46 l0 x8_1).f0) == 1) = true := beq_iff_eq.mpr c5
     have c5b1 : (((rd_T46 l0 x8_1).f0) != 1) = false := bne_eq_false_iff_eq.mpr c5
     clear c5
     by_cases c6 : x3_1.length < 8796093022208
     rotate_left
     ·rw [if_neg c6] at H
      exact absurd H (by simp)
     rw [if_pos c6] at H
     have LMc6 := Aside0.mk c6
     clear c6
     obtain ⟨y236, hy236⟩ : ∃ y_ : List ByteArray, y_ = (x3_1 ++ [(rd_T46 l0 x8_1).f1]) := ⟨_, rfl⟩
     replace H : (impl_wordsIn.l0 k1 y236 l0 (l0.length : Int) (wrap64 (x8_1 + 1))) = some r := by first | (rw [hy236]; with_reducible exact H) | (have H2_ := (Option.bind_some _ _).symm.trans H; rw [hy236]; with_reducible exact H2_) | (have H2_ := (Option.bind_some _ _).symm.trans H; with_reducible exact H2_) | with_reducible exact H | (rw [hy236]; exact H) | exact H
     have Ny236 := Aside0.mk hy236
     clear hy236
     have H' := Aside0.mk H
     clear H
     have p234 : 0 ≤ (x8_1 : Int) := sq_d
     have q234 : x8_1 < (l0.length : Int) := sq_d
     obtain ⟨ad234, e234, hx234_0, hx234_1, hx234_2, hx234_3⟩ := at_T46 HR0.out x8_1 p234 q234
     cases e234
     replace hx234_0 := (HB.out.cell (World.block_lt_of_cell? w _ hx234_0)).trans hx234_0
     replace hx234_1 := (HB.out.cell (World.block_lt_of_cell? w _ hx234_1)).trans hx234_1
     replace hx234_2 := (HB.out.cell (World.block_lt_of_cell? w _ hx234_2)).trans hx234_2
     replace hx234_3 := (HB.out.cell (World.block_lt_of_cell? w _ hx234_3)).trans hx234_3
     replace p234 := eq_true p234
     replace q234 := eq_true q234
     go_wp2_with (first | ((with_reducible refine gate_dst (N := 5) rfl ?_); refine box_event ?hg (N := 5) ?hd (cs := #[.int .i64 0, .string (⟨#[]⟩ : ByteArray), .int .i64 0, .int .i64 0]) (t := 46) ?hr ?_; (case hd => rfl); (case hg => rfl); (case hr => first | (go_simp; done) | (go_simp; rfl)); intro gb235 hg w7 hbox hb; have n0_ := Aside0.mk (Kd.R_below (sq_r HO_3) hb); have n1_ := Aside0.mk (below_step sq_b hb); have n2_ := Aside0.mk (hbox); have n3_ := Aside0.mk ((by rw [hg]; exact (below_size sq_b) : w.heap.size ≤ gb235)); have n4_ := Aside0.mk ((by rw [hg]; exact (below_size sq_b) : w.heap.size ≤ gb235)); clear HO_3; clear HB; have HO_3 := n0_; have HB := n1_; have BK235 := n2_; have GW235 := n3_; have GE235 := n4_; clear n0_ n1_ n2_ n3_ n4_; clear hb hbox hg; have hcz8_0 : w7.cell? ⟨gb235, 0, none⟩ = some (.int .i64 0) := (blk_cell BK235.out 0).trans rfl; have hcz8_1 : w7.cell? ⟨gb235, 1, none⟩ = some (.string (⟨#[]⟩ : ByteArray)) := (blk_cell BK235.out 1).trans rfl; have hcz8_2 : w7.cell? ⟨gb235, 2, none⟩ = some (.int .i64 0) := (blk_cell BK235.out 2).trans rfl; have hcz8_3 : w7.cell? ⟨gb235, 3, none⟩ = some (.int .i64 0) := (blk_cell BK235.out 3).trans rfl; have hfz8_0 := blk_frozen BK235.out 0; have hfz8_1 := blk_frozen BK235.out 1; have hfz8_2 := blk_frozen BK235.out 2; have hfz8_3 := blk_frozen BK235.out 3) | ((with_reducible refine gate_builtin (b := .append) (xs := #[.tmp 15, .tmp 18]) rfl ?_); at_builtin; refine Kd.R_append Kd.string (w0 := w) w.heap.size rfl (.tmp 15) (.tmp 18) 38 9 (.string ⟨#[]⟩) 16 rfl Try.underlying38 info9 rfl (by decide) (by omega) u3 x3_1 ((rd_T46 l0 x8_1).f1) [.string ((rd_T46 l0 x8_1).f1)] (fun _ => True) (fun _ => False) rfl (by first | (go_simp; done) | (go_simp; rfl)) ?aP (fun _ hk => hk.elim) ?aF ?aO ?aB ?aS ?aL ?_; (case aP => exact rfl); (case aB => exact (by repeat (first | (with_reducible first | exact HB.out | apply below_alloc | apply pw_below_drewN | apply below_drew1 | refine below_set ?_ GE235.out) | exact HB.out))); (case aF => exact (fun _ _ => trivial)); (case aO => exact (by (with_reducible repeat (first | apply Kd.R_alloc | apply Kd.R_drewN | apply Kd.R_drew)); exact Kd.R_mono (Kd.R_far (p := ⟨gb235, 3, none⟩) (Kd.R_far (p := ⟨gb235, 2, none⟩) (Kd.R_far (p := ⟨gb235, 1, none⟩) (Kd.R_far (p := ⟨gb235, 0, none⟩) (Kd.R_types HO_3.out BK235.out (by decide)) (fun _ hk => hk.2) (.int .i64 ((rd_T46 l0 x8_1).f0))) (fun _ hk => hk.2) (.string ((rd_T46 l0 x8_1).f1))) (fun _ hk => hk.2) (.int .i64 ((rd_T46 l0 x8_1).f2))) (fun _ hk => hk.2) (.int .i64 ((rd_T46 l0 x8_1).f3))) (fun _ hk => trivial))); (case aS => exact (below_size (by repeat (first | (with_reducible first | exact HB.out | apply below_alloc | apply pw_below_drewN | apply below_drew1 | refine below_set ?_ GE235.out) | exact HB.out)))); (case aL => have := LMc6.out; omega); intro v237 w9 ho hb hg hat; rw [← Ny236.out] at ho; have n0_ := Aside0.mk (blk_grown (g := gb235) (o := .cells #[.int .i64 ((rd_T46 l0 x8_1).f0), .string ((rd_T46 l0 x8_1).f1), .int .i64 ((rd_T46 l0 x8_1).f2), .int .i64 ((rd_T46 l0 x8_1).f3)] 46 (0, 0)) (by (with_reducible repeat (first | refine blk_drewN ?_ _ | refine blk_drew ?_ | refine blk_alloc ?_ _)); refine blk_put (cs := #[.int .i64 ((rd_T46 l0 x8_1).f0), .string ((rd_T46 l0 x8_1).f1), .int .i64 ((rd_T46 l0 x8_1).f2), .int .i64 0]) ?_ 3 _ rfl; (with_reducible repeat (first | refine blk_drewN ?_ _ | refine blk_drew ?_ | refine blk_alloc ?_ _)); refine blk_put (cs := #[.int .i64 ((rd_T46 l0 x8_1).f0), .string ((rd_T46 l0 x8_1).f1), .int .i64 0, .int .i64 0]) ?_ 2 _ rfl; (with_reducible repeat (first | refine blk_drewN ?_ _ | refine blk_drew ?_ | refine blk_alloc ?_ _)); refine blk_put (cs := #[.int .i64 ((rd_T46 l0 x8_1).f0), .string (⟨#[]⟩ : ByteArray), .int .i64 0, .int .i64 0]) ?_ 1 _ rfl; (with_reducible repeat (first | refine blk_drewN ?_ _ | refine blk_drew ?_ | refine blk_alloc ?_ _)); refine blk_put (cs := #[.int .i64 0, .string (⟨#[]⟩ : ByteArray), .int .i64 0, .int .i64 0]) ?_ 0 _ rfl; (with_reducible repeat (first | refine blk_drewN ?_ _ | refine blk_drew ?_ | refine blk_alloc ?_ _)); exact BK235.out) hg (Kd.R_ne HO_3.out BK235.out (by decide))); have n1_ := Aside0.mk (hb); have n2_ := Aside0.mk (ho); clear BK235; clear HB; clear HO_3; have BK235 := n0_; have HB := n1_; have HO238 := n2_; clear n0_ n1_ n2_; clear ho hb hg hat))
     go_roundg k1
     case measure => have := HK1.out; omega
     case rel => exact ⟨(y236), (wrap64 (x8_1 + 1)), sq_e, H', ⟨by have := HK1.out; omega⟩, ⟨by (with_reducible repeat (first | apply Kd.R_alloc | apply Kd.R_drewN | apply Kd.R_drew)); exact HO238.out⟩, ⟨by repeat (first | (with_reducible first | exact HB.out | apply below_alloc | apply pw_below_drewN | apply below_drew1 | refine below_set ?_ GE235.out) | exact HB.out)⟩⟩
    ·rw [if_neg c5] at H
     have c5b0 : (((rd_T46 l0 x8_1).f0) == 1) = false := beq_eq_false_iff_ne.mpr c5
     have c5b1 : (((rd_T46 l0 x8_1).f0) != 1) = true := bne_iff_ne.mpr c5
     have H' := Aside0.mk H
     clear H
     have p234 : 0 ≤ (x8_1 : Int) := sq_d
     have q234 : x8_1 < (l0.length : Int) := sq_d
     obtain ⟨ad234, e234, hx234_0, hx234_1, hx234_2, hx234_3⟩ := at_T46 HR0.out x8_1 p234 q234
     cases e234
     replace hx234_0 := (HB.out.cell (World.block_lt_of_cell? w _ hx234_0)).trans hx234_0
     replace hx234_1 := (HB.out.cell (World.block_lt_of_cell? w _ hx234_1)).trans hx234_1
     replace hx234_2 := (HB.out.cell (World.block_lt_of_cell? w _ hx234_2)).trans hx234_2
     replace hx234_3 := (HB.out.cell (World.block_lt_of_cell? w _ hx234_3)).trans hx234_3
     replace p234 := eq_true p234
     replace q234 := eq_true q234
     go_wp2_with (first | ((with_reducible refine gate_dst (N := 5) rfl ?_); refine box_event ?hg (N := 5) ?hd (cs := #[.int .i64 0, .string (⟨#[]⟩ : ByteArray), .int .i64 0, .int .i64 0]) (t := 46) ?hr ?_; (case hd => rfl); (case hg => rfl); (case hr => first | (go_simp; done) | (go_simp; rfl)); intro gb235 hg w10 hbox hb; have n0_ := Aside0.mk (Kd.R_below (sq_r HO_3) hb); have n1_ := Aside0.mk (below_step sq_b hb); have n2_ := Aside0.mk (hbox); have n3_ := Aside0.mk ((by rw [hg]; exact (below_size sq_b) : w.heap.size ≤ gb235)); have n4_ := Aside0.mk ((by rw [hg]; exact (below_size sq_b) : w.heap.size ≤ gb235)); clear HO_3; clear HB; have HO_3 := n0_; have HB := n1_; have BK235 := n2_; have GW235 := n3_; have GE235 := n4_; clear n0_ n1_ n2_ n3_ n4_; clear hb hbox hg; have hcz11_0 : w10.cell? ⟨gb235, 0, none⟩ = some (.int .i64 0) := (blk_cell BK235.out 0).trans rfl; have hcz11_1 : w10.cell? ⟨gb235, 1, none⟩ = some (.string (⟨#[]⟩ : ByteArray)) := (blk_cell BK235.out 1).trans rfl; have hcz11_2 : w10.cell? ⟨gb235, 2, none⟩ = some (.int .i64 0) := (blk_cell BK235.out 2).trans rfl; have hcz11_3 : w10.cell? ⟨gb235, 3, none⟩ = some (.int .i64 0) := (blk_cell BK235.out 3).trans rfl; have hfz11_0 := blk_frozen BK235.out 0; have hfz11_1 := blk_frozen BK235.out 1; have hfz11_2 := blk_frozen BK235.out 2; have hfz11_3 := blk_frozen BK235.out 3))
     go_roundg k1
     case measure => have := HK1.out; omega
     case rel => exact ⟨(x3_1), (wrap64 (x8_1 + 1)), sq_e, H', ⟨by have := HK1.out; omega⟩, ⟨by (with_reducible repeat (first | apply Kd.R_alloc | apply Kd.R_drewN | apply Kd.R_drew)); exact Kd.R_mono (Kd.R_far (p := ⟨gb235, 3, none⟩) (Kd.R_far (p := ⟨gb235, 2, none⟩) (Kd.R_far (p := ⟨gb235, 1, none⟩) (Kd.R_far (p := ⟨gb235, 0, none⟩) (Kd.R_types HO_3.out BK235.out (by decide)) (fun _ hk => hk.2) (.int .i64 ((rd_T46 l0 x8_1).f0))) (fun _ hk => hk.2) (.string ((rd_T46 l0 x8_1).f1))) (fun _ hk => hk.2) (.int .i64 ((rd_T46 l0 x8_1).f2))) (fun _ hk => hk.2) (.int .i64 ((rd_T46 l0 x8_1).f3))) (fun _ hk => trivial)⟩, ⟨by repeat (first | (with_reducible first | exact HB.out | apply below_alloc | apply pw_below_drewN | apply below_drew1 | refine below_set ?_ GE235.out) | exact HB.out)⟩⟩
   ·rw [if_neg c2] at H
    have c2b0 : decide (x8_1 < (l0.length : Int)) = false := decide_eq_false c2
    clear c2
    replace H := Option.bind_eq_some_iff.mp H
    obtain ⟨t239, A120, H⟩ := H
    replace H : ((slices_Compact_string_string.f t239).bind fun t240 => (some t240)) = some r := H
    have A12 := Aside0.mk A120
    clear A120
    replace H := Option.bind_eq_some_iff.mp H
    obtain ⟨t240, A130, H⟩ := H
    replace H : (some t240) = some r := H
    have A13 := Aside0.mk A130
    clear A130
    obtain rfl := Option.some.inj H
    obtain ⟨Ao14, co14, eo14⟩ := Kd.R_slice HO_3.out
    subst eo14
    go_wp2_with (first | ((with_reducible refine gate_callee (f := 83) rfl ?_); refine goesL_ (some 22) rfl rfl Try.func83 (by kernel_rfl) rfl #[.slice Ao14 x3_1.length co14] rfl (by (try simp only [List.map_toArray, List.map_cons, List.map_nil]); first | done | rfl | (simp only [List.length_drop, List.length_take]; rfl)) ?_; (with_reducible refine (slices_Sort_string_string.calls (fun k_ => some k_ = (.slice Ao14 x3_1.length co14 : Value).ownBlock) (.slice Ao14 x3_1.length co14) x3_1 t239 w _ ?side1 ?side2 A12.out).mono ?_); (case side1 => repeat (first | (with_reducible first | exact HB.out | apply below_alloc | apply pw_below_drewN | apply below_drew1) | exact HB.out)); (case side2 => exact Kd.R_tight rfl HO_3.out); rintro e w15 ⟨rfl, hy0, hb, hkp⟩; refine ⟨_, rfl, ?_⟩; have n0_ := Aside0.mk (Kd.R_reok rfl hy0 (fun k_ e_ => HO_3.out.1 k_ e_)); have n1_ := Aside0.mk (hb); clear HO_3; clear HB; have HO_3 := n0_; have HB := n1_; clear n0_ n1_; (try clear hb); (try clear hkp); (try clear hy0)) | ((with_reducible refine gate_callee (f := 84) rfl ?_); refine goesL_ (some 24) rfl rfl Try.func84 (by kernel_rfl) rfl #[.slice Ao14 x3_1.length co14] rfl (by (try simp only [List.map_toArray, List.map_cons, List.map_nil]); first | done | rfl | (simp only [List.length_drop, List.length_take]; rfl)) ?_; (with_reducible refine (slices_Compact_string_string.calls (fun k_ => some k_ = (.slice Ao14 x3_1.length co14 : Value).ownBlock) (.slice Ao14 x3_1.length co14) t239 t240 w _ ?side1 ?side2 A13.out).mono ?_); (case side1 => repeat (first | (with_reducible first | exact HB.out | apply below_alloc | apply pw_below_drewN | apply below_drew1) | exact HB.out)); (case side2 => exact Kd.R_tight rfl HO_3.out); rintro e w16 ⟨v241, rfl, ho0, hb, hkp⟩; refine ⟨_, rfl, ?_⟩; have n0_ := Aside0.mk (Kd.R_mono (ok' := fun k_ => True) ho0 (fun k_ hk_ => trivial)); have n1_ := Aside0.mk (hb); clear HB; clear HO_3; have HO242 := n0_; have HB := n1_; clear n0_ n1_; (try clear hb); (try clear hkp); (try clear ho0)))
    go_ret
    exact ⟨_, sq_w, sq_r HO242, sq_b⟩

/-! ### impl_within: function 71 -/
def impl_within.f (a0 : Int) (a1 : Int) (a2 : Int) : Option (Bool) := if a0 ≥ a1 then (some (decide (a0 ≤ a2))) else (some false)
set_option maxHeartbeats 8000000 in
set_option maxRecDepth 100000 in
theorem impl_within.calls (a0 : Int) (a1 : Int) (a2 : Int) (r : Bool) (w : World) (h : impl_within.f a0 a1 a2 = some r) :
  Calls Try.prog 71 #[.int .i64 a0, .int .i64 a1, .int .i64 a2] w fun e w' => e = .returned (.bool r) ∧ Drawn0 w w' := by
 have H : (if a0 ≥ a1 then (some (decide (a0 ≤ a2))) else (some false)) = some r := h
 clear h
 by_cases c4 : a0 ≥ a1
 ·rw [if_pos c4] at H
  have c4b0 : decide (a1 ≤ a0) = true := decide_eq_true c4
  clear c4
  obtain rfl := Option.some.inj H
  go_enter Try.func71, Try.ntmps71
  go_wp2
  go_ret
  exact ⟨by first | rfl | (simp; done) | (simp [ext_bne_nil, ext_beq_nil]; done) | (simp [*]; done), by repeat (first | exact Drawn0.refl _ | apply Drawn0.step)⟩
 ·rw [if_neg c4] at H
  have c4b0 : decide (a1 ≤ a0) = false := decide_eq_false c4
  clear c4
  obtain rfl := Option.some.inj H
  go_enter Try.func71, Try.ntmps71
  go_wp2
  go_ret
  exact ⟨by first | rfl | (simp; done) | (simp [ext_bne_nil, ext_beq_nil]; done) | (simp [*]; done), by repeat (first | exact Drawn0.refl _ | apply Drawn0.step)⟩

/-! ### impl_isLetter: function 96 -/
def impl_isLetter.f (a0 : Int) : Option (Bool) := if a0 ≥ 97 then (some (decide (a0 ≤ 122))) else (some false)
set_option maxHeartbeats 8000000 in
set_option maxRecDepth 100000 in
theorem impl_isLetter.calls (a0 : Int) (r : Bool) (w : World) (h : impl_isLetter.f a0 = some r) :
  Calls Try.prog 96 #[.int .u8 a0] w fun e w' => e = .returned (.bool r) ∧ Drawn0 w w' := by
 have H : (if a0 ≥ 97 then (some (decide (a0 ≤ 122))) else (some false)) = some r := h
 clear h
 by_cases c2 : a0 ≥ 97
 ·rw [if_pos c2] at H
  have c2b0 : decide (97 ≤ a0) = true := decide_eq_true c2
  clear c2
  obtain rfl := Option.some.inj H
  go_enter Try.func96, Try.ntmps96
  go_wp2
  go_ret
  exact ⟨by first | rfl | (simp; done) | (simp [ext_bne_nil, ext_beq_nil]; done) | (simp [*]; done), by repeat (first | exact Drawn0.refl _ | apply Drawn0.step)⟩
 ·rw [if_neg c2] at H
  have c2b0 : decide (97 ≤ a0) = false := decide_eq_false c2
  clear c2
  obtain rfl := Option.some.inj H
  go_enter Try.func96, Try.ntmps96
  go_wp2
  go_ret
  exact ⟨by first | rfl | (simp; done) | (simp [ext_bne_nil, ext_beq_nil]; done) | (simp [*]; done), by repeat (first | exact Drawn0.refl _ | apply Drawn0.step)⟩

/-! ### impl_areLetters: function 102 -/
def impl_areLetters.l0 : Nat → ByteArray → Int → Int → Option (Bool)
 | 0, _, _, _ => none
 | k + 1, x0, x5, x6 => if x6 < x5 then (if 0 ≤ x6 then (if x6 < (x0.size : Int) then ((impl_isLetter.f (bt x0 x6)).bind fun t243 => (if t243 = true then (impl_areLetters.l0 k x0 x5 (wrap64 (x6 + 1))) else (some false))) else (none)) else (none)) else (some (decide ((x0.size : Int) ≤ 12)))
def impl_areLetters.f (k : Nat) (a0 : ByteArray) : Option (Bool) := impl_areLetters.l0 k a0 (a0.size : Int) 0
theorem impl_areLetters.mono_l : ∀ k, (∀ y0 y1 y2, LeO (impl_areLetters.l0 k y0 y1 y2) (impl_areLetters.l0 (k + 1) y0 y1 y2))
 | 0 => fun _ _ _ r h => by simp [impl_areLetters.l0] at h
 | k + 1 => by
  have ih0 := impl_areLetters.mono_l k
  ·intro y0 y1 y2
   unfold impl_areLetters.l0
   repeat' first
   | (with_reducible exact ih0 _ _ _)
   | (with_reducible exact LeO.refl _)
   | (with_reducible exact LeO.none _)
   | (with_reducible refine LeO.ite ?_ ?_)
   | (with_reducible refine LeO.bind ?_ (fun _ => ?_))
   | exact ih0 _ _ _
   | exact LeO.none _
   | refine LeO.ite ?_ ?_
   | refine LeO.bind ?_ (fun _ => ?_)
theorem impl_areLetters.mono : ∀ a0 k, LeO (impl_areLetters.f k a0) (impl_areLetters.f (k + 1) a0) := by
 intro a0 k
 have ih0 := impl_areLetters.mono_l k
 unfold impl_areLetters.f
 repeat' first
   | (with_reducible exact ih0 _ _ _)
   | (with_reducible exact LeO.refl _)
   | (with_reducible exact LeO.none _)
   | (with_reducible refine LeO.ite ?_ ?_)
   | (with_reducible refine LeO.bind ?_ (fun _ => ?_))
   | exact ih0 _ _ _
   | exact LeO.none _
   | refine LeO.ite ?_ ?_
   | refine LeO.bind ?_ (fun _ => ?_)
set_option maxHeartbeats 8000000 in
set_option maxRecDepth 100000 in
theorem impl_areLetters.calls (k : Nat) (a0 : ByteArray) (r : Bool) (w : World) (h : impl_areLetters.f k a0 = some r) :
  Calls Try.prog 102 #[.string a0] w fun e w' => e = .returned (.bool r) ∧ Drawn0 w w' := by
 have H : (impl_areLetters.l0 k a0 (a0.size : Int) 0) = some r := h
 clear h
 have H' := Aside0.mk H
 clear H
 go_enter Try.func102, Try.ntmps102
 go_wp2
 go_loopg [6] k (fun kq v6 w' => ∃ (x6_1 : Int), v6 = .int .i64 x6_1 ∧ Aside0 (impl_areLetters.l0 kq a0 (a0.size : Int) x6_1 = some r) ∧ Aside0 (kq ≤ k) ∧ Drawn0 w w')
 case atStart => exact ⟨(0), sq_e, H', ⟨Nat.le_refl _⟩, by repeat (first | exact Drawn0.refl _ | apply Drawn0.step)⟩
 case round =>
  clear H'
  try clear c1
  obtain ⟨x6_1, rfl, HA, HK1, ⟨m1, rfl⟩⟩ := hrel
  cases gk with
  | zero => exact absurd HA.out (by simp [impl_areLetters.l0])
  | succ k1 =>
   have H := HA.out
   clear HA
   simp only [impl_areLetters.l0] at H
   by_cases c2 : x6_1 < (a0.size : Int)
   ·rw [if_pos c2] at H
    have c2b0 : decide (x6_1 < (a0.size : Int)) = true := decide_eq_true c2
    clear c2
    by_cases c3 : 0 ≤ x6_1
    rotate_left
    ·rw [if_neg c3] at H
     exact absurd H (by simp)
    rw [if_pos c3] at H
    have c3b0 : decide (0 ≤ x6_1) = true := decide_eq_true c3
    clear c3
    by_cases c4 : x6_1 < (a0.size : Int)
    rotate_left
    ·rw [if_neg c4] at H
     exact absurd H (by simp)
    rw [if_pos c4] at H
    have c4b0 : decide (x6_1 < (a0.size : Int)) = true := decide_eq_true c4
    clear c4
    replace H := Option.bind_eq_some_iff.mp H
    obtain ⟨t243, A60, H⟩ := H
    replace H : (if t243 = true then (impl_areLetters.l0 k1 a0 (a0.size : Int) (wrap64 (x6_1 + 1))) else (some false)) = some r := H
    have A6 := Aside0.mk A60
    clear A60
    by_cases c7 : t243 = true
    ·subst c7
     have H1 : (impl_areLetters.l0 k1 a0 (a0.size : Int) (wrap64 (x6_1 + 1))) = some r := by rw [if_pos rfl] at H; exact H
     clear H
     have H := H1
     clear H1
     have H' := Aside0.mk H
     clear H
     have p5 : 0 ≤ (x6_1 : Int) := sq_d
     have q5 : x6_1 < (a0.size : Int) := sq_d
     have hx5 := bt_at a0 x6_1
     replace p5 := eq_true p5
     replace q5 := eq_true q5
     go_wp2_with (first | ((with_reducible refine gate_callee (f := 96) rfl ?_); refine goesL_ (some 12) rfl rfl Try.func96 (by kernel_rfl) rfl #[.int .u8 (bt a0 x6_1)] rfl (by (try simp only [List.map_toArray, List.map_cons, List.map_nil]); first | done | rfl | (simp only [List.length_drop, List.length_take]; rfl)) ?_; (with_reducible refine (impl_isLetter.calls (bt a0 x6_1) true _ A6.out).mono ?_); rintro e w' ⟨rfl, ⟨nd, rfl⟩⟩; refine ⟨_, rfl, ?_⟩))
     go_roundg k1
     case measure => have := HK1.out; omega
     case rel => exact ⟨(wrap64 (x6_1 + 1)), sq_e, H', ⟨by have := HK1.out; omega⟩, by repeat (first | exact Drawn0.refl _ | apply Drawn0.step)⟩
    ·replace c7 := Bool.eq_false_iff.mpr c7
     subst c7
     have H1 : (some false) = some r := by rw [if_neg (show ¬ (false = true) by decide)] at H; exact H
     clear H
     have H := H1
     clear H1
     obtain rfl := Option.some.inj H
     have p5 : 0 ≤ (x6_1 : Int) := sq_d
     have q5 : x6_1 < (a0.size : Int) := sq_d
     have hx5 := bt_at a0 x6_1
     replace p5 := eq_true p5
     replace q5 := eq_true q5
     go_wp2_with (first | ((with_reducible refine gate_callee (f := 96) rfl ?_); refine goesL_ (some 12) rfl rfl Try.func96 (by kernel_rfl) rfl #[.int .u8 (bt a0 x6_1)] rfl (by (try simp only [List.map_toArray, List.map_cons, List.map_nil]); first | done | rfl | (simp only [List.length_drop, List.length_take]; rfl)) ?_; (with_reducible refine (impl_isLetter.calls (bt a0 x6_1) false _ A6.out).mono ?_); rintro e w' ⟨rfl, ⟨nd, rfl⟩⟩; refine ⟨_, rfl, ?_⟩))
     go_ret
     exact ⟨by first | rfl | (simp; done) | (simp [ext_bne_nil, ext_beq_nil]; done) | (simp [*]; done), by repeat (first | exact Drawn0.refl _ | apply Drawn0.step)⟩
   ·rw [if_neg c2] at H
    have c2b0 : decide (x6_1 < (a0.size : Int)) = false := decide_eq_false c2
    clear c2
    obtain rfl := Option.some.inj H
    go_wp2
    go_ret
    exact ⟨by first | rfl | (simp; done) | (simp [ext_bne_nil, ext_beq_nil]; done) | (simp [*]; done), by repeat (first | exact Drawn0.refl _ | apply Drawn0.step)⟩

end Go.Proofs.Ytnolkgfdokijjaa.QFnExactPrimesOf
