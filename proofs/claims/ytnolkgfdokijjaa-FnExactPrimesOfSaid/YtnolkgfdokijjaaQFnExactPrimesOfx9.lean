-- Written by this session's own program (wip/pp_patch.py, wip/pp.sh) out of the given translation. Not trusted: Lean checks it.
import Derived.Test.YtnolkgfdokijjaaQFnExactPrimesOfx0
import Derived.Test.YtnolkgfdokijjaaQFnExactPrimesOfx6
import Derived.Test.YtnolkgfdokijjaaQFnExactPrimesOfx7
import Derived.Test.YtnolkgfdokijjaaQFnExactPrimesOfx8
namespace Go.Proofs.Ytnolkgfdokijjaa.QFnExactPrimesOf
open Go.RowKit Go.Proofs.YtnolkgfdokijjaaW.PrintWords Go.Proofs.YtnolkgfdokijjaaW.PrintLast Go.Proofs.YtnolkgfdokijjaaW.PrintMore
attribute [local go_sem] max2_int min2_int max_two min_two max_three min_three max_four min_four   -- for this text's walks alone
open Go.Proofs.Ytnolkgfdokijjaa.Ext
attribute [local go_sem high] ext_gtr ext_leq
set_option linter.unusedVariables false
set_option linter.unusedSimpArgs false

/-! ### impl_fits: function 88 -/
def impl_fits.l0 : Nat → List Int → List Int → Int → Int → Option (Bool)
 | 0, _, _, _, _ => none
 | k + 1, x0, x7, x8, x9 => if x9 < x8 then (if 0 ≤ x9 then (if x9 < (x7.length : Int) then (if (rd x7 x9) = 0 then (impl_fits.l0 k x0 x7 x8 (wrap64 (x9 + 1))) else (if x9 < (x0.length : Int) then (if (rd x7 x9) = (rd x0 x9) then (impl_fits.l0 k x0 x7 x8 (wrap64 (x9 + 1))) else (some false)) else (none))) else (none)) else (none)) else (some true)
def impl_fits.f (k : Nat) (l0 : List Int) (l1 : List Int) : Option (Bool) := impl_fits.l0 k l0 l1 (l1.length : Int) 0
theorem impl_fits.mono_l : ∀ k, (∀ y0 y1 y2 y3, LeO (impl_fits.l0 k y0 y1 y2 y3) (impl_fits.l0 (k + 1) y0 y1 y2 y3))
 | 0 => fun _ _ _ _ r h => by simp [impl_fits.l0] at h
 | k + 1 => by
  have ih0 := impl_fits.mono_l k
  ·intro y0 y1 y2 y3
   unfold impl_fits.l0
   repeat' first
   | (with_reducible exact ih0 _ _ _ _)
   | (with_reducible exact LeO.refl _)
   | (with_reducible exact LeO.none _)
   | (with_reducible refine LeO.ite ?_ ?_)
   | (with_reducible refine LeO.bind ?_ (fun _ => ?_))
   | exact ih0 _ _ _ _
   | exact LeO.none _
   | refine LeO.ite ?_ ?_
   | refine LeO.bind ?_ (fun _ => ?_)
theorem impl_fits.mono : ∀ a0 a1 k, LeO (impl_fits.f k a0 a1) (impl_fits.f (k + 1) a0 a1) := by
 intro a0 a1 k
 have ih0 := impl_fits.mono_l k
 unfold impl_fits.f
 repeat' first
   | (with_reducible exact ih0 _ _ _ _)
   | (with_reducible exact LeO.refl _)
   | (with_reducible exact LeO.none _)
   | (with_reducible refine LeO.ite ?_ ?_)
   | (with_reducible refine LeO.bind ?_ (fun _ => ?_))
   | exact ih0 _ _ _ _
   | exact LeO.none _
   | refine LeO.ite ?_ ?_
   | refine LeO.bind ?_ (fun _ => ?_)
set_option maxHeartbeats 8000000 in
set_option maxRecDepth 100000 in
theorem impl_fits.calls (k : Nat) (A0 : Option Addr) (c0 : Nat) (l0 : List Int) (A1 : Option Addr) (c1 : Nat) (l1 : List Int) (r : Bool) (w : World) (hr0 : Kd.C (Kd.int .i64) w A0 l0.length l0) (hc0 : l0.length ≤ c0) (hr1 : Kd.C (Kd.int .i64) w A1 l1.length l1) (hc1 : l1.length ≤ c1) (h : impl_fits.f k l0 l1 = some r) :
  Calls Try.prog 88 #[.slice A0 l0.length c0, .slice A1 l1.length c1] w fun e w' => e = .returned (.bool r) ∧ Drawn0 w w' := by
 have HR0 := Aside0.mk hr0
 have HC0 := Aside0.mk hc0
 clear hr0 hc0
 have HR1 := Aside0.mk hr1
 have HC1 := Aside0.mk hc1
 clear hr1 hc1
 have H : (impl_fits.l0 k l0 l1 (l1.length : Int) 0) = some r := h
 clear h
 have H' := Aside0.mk H
 clear H
 go_enter Try.func88, Try.ntmps88
 go_wp2
 go_loopg [9] k (fun kq v9 w' => ∃ (x9_1 : Int), v9 = .int .i64 x9_1 ∧ Aside0 (impl_fits.l0 kq l0 l1 (l1.length : Int) x9_1 = some r) ∧ Aside0 (kq ≤ k) ∧ Drawn0 w w')
 case atStart => exact ⟨(0), sq_e, H', ⟨Nat.le_refl _⟩, by repeat (first | exact Drawn0.refl _ | apply Drawn0.step)⟩
 case round =>
  clear H'
  (try clear c1); (try clear p2)
  obtain ⟨x9_1, rfl, HA, HK1, ⟨m1, rfl⟩⟩ := hrel
  cases gk with
  | zero => exact absurd HA.out (by simp [impl_fits.l0])
  | succ k1 =>
   have H := HA.out
   clear HA
   simp only [impl_fits.l0] at H
   by_cases c3 : x9_1 < (l1.length : Int)
   ·rw [if_pos c3] at H
    have c3b0 : decide (x9_1 < (l1.length : Int)) = true := decide_eq_true c3
    clear c3
    by_cases c4 : 0 ≤ x9_1
    rotate_left
    ·rw [if_neg c4] at H
     exact absurd H (by simp)
    rw [if_pos c4] at H
    have c4b0 : decide (0 ≤ x9_1) = true := decide_eq_true c4
    clear c4
    by_cases c5 : x9_1 < (l1.length : Int)
    rotate_left
    ·rw [if_neg c5] at H
     exact absurd H (by simp)
    rw [if_pos c5] at H
    have c5b0 : decide (x9_1 < (l1.length : Int)) = true := decide_eq_true c5
    clear c5
    by_cases c6 : (rd l1 x9_1) = 0
    ·rw [if_pos c6] at H
     have c6b0 : ((rd l1 x9_1) == 0) = true := beq_iff_eq.mpr c6
     have c6b1 : ((rd l1 x9_1) != 0) = false := bne_eq_false_iff_eq.mpr c6
     clear c6
     have H' := Aside0.mk H
     clear H
     have p283 : 0 ≤ (x9_1 : Int) := sq_d
     have q283 : x9_1 < (l1.length : Int) := sq_d
     obtain ⟨ad283, e283, hx283_0⟩ := Kd.at_int HR1.out x9_1 p283 q283
     cases e283
     replace p283 := eq_true p283
     replace q283 := eq_true q283
     go_wp2
     go_roundg k1
     case measure => have := HK1.out; omega
     case rel => exact ⟨(wrap64 (x9_1 + 1)), sq_e, H', ⟨by have := HK1.out; omega⟩, by repeat (first | exact Drawn0.refl _ | apply Drawn0.step)⟩
    ·rw [if_neg c6] at H
     have c6b0 : ((rd l1 x9_1) == 0) = false := beq_eq_false_iff_ne.mpr c6
     have c6b1 : ((rd l1 x9_1) != 0) = true := bne_iff_ne.mpr c6
     by_cases c7 : x9_1 < (l0.length : Int)
     rotate_left
     ·rw [if_neg c7] at H
      exact absurd H (by simp)
     rw [if_pos c7] at H
     have c7b0 : decide (x9_1 < (l0.length : Int)) = true := decide_eq_true c7
     clear c7
     by_cases c8 : (rd l1 x9_1) = (rd l0 x9_1)
     ·rw [if_pos c8] at H
      have c8b0 : ((rd l1 x9_1) == (rd l0 x9_1)) = true := beq_iff_eq.mpr c8
      have c8b1 : ((rd l1 x9_1) != (rd l0 x9_1)) = false := bne_eq_false_iff_eq.mpr c8
      clear c8
      have H' := Aside0.mk H
      clear H
      have p283 : 0 ≤ (x9_1 : Int) := sq_d
      have q283 : x9_1 < (l1.length : Int) := sq_d
      obtain ⟨ad283, e283, hx283_0⟩ := Kd.at_int HR1.out x9_1 p283 q283
      cases e283
      replace p283 := eq_true p283
      replace q283 := eq_true q283
      have p284 : 0 ≤ (x9_1 : Int) := sq_d
      have q284 : x9_1 < (l0.length : Int) := sq_d
      obtain ⟨ad284, e284, hx284_0⟩ := Kd.at_int HR0.out x9_1 p284 q284
      cases e284
      replace p284 := eq_true p284
      replace q284 := eq_true q284
      go_wp2
      go_roundg k1
      case measure => have := HK1.out; omega
      case rel => exact ⟨(wrap64 (x9_1 + 1)), sq_e, H', ⟨by have := HK1.out; omega⟩, by repeat (first | exact Drawn0.refl _ | apply Drawn0.step)⟩
     ·rw [if_neg c8] at H
      have c8b0 : ((rd l1 x9_1) == (rd l0 x9_1)) = false := beq_eq_false_iff_ne.mpr c8
      have c8b1 : ((rd l1 x9_1) != (rd l0 x9_1)) = true := bne_iff_ne.mpr c8
      obtain rfl := Option.some.inj H
      have p283 : 0 ≤ (x9_1 : Int) := sq_d
      have q283 : x9_1 < (l1.length : Int) := sq_d
      obtain ⟨ad283, e283, hx283_0⟩ := Kd.at_int HR1.out x9_1 p283 q283
      cases e283
      replace p283 := eq_true p283
      replace q283 := eq_true q283
      have p284 : 0 ≤ (x9_1 : Int) := sq_d
      have q284 : x9_1 < (l0.length : Int) := sq_d
      obtain ⟨ad284, e284, hx284_0⟩ := Kd.at_int HR0.out x9_1 p284 q284
      cases e284
      replace p284 := eq_true p284
      replace q284 := eq_true q284
      go_wp2
      go_ret
      exact ⟨by first | rfl | (simp; done) | (simp [ext_bne_nil, ext_beq_nil]; done) | (simp [*]; done), by repeat (first | exact Drawn0.refl _ | apply Drawn0.step)⟩
   ·rw [if_neg c3] at H
    have c3b0 : decide (x9_1 < (l1.length : Int)) = false := decide_eq_false c3
    clear c3
    obtain rfl := Option.some.inj H
    go_wp2
    go_ret
    exact ⟨by first | rfl | (simp; done) | (simp [ext_bne_nil, ext_beq_nil]; done) | (simp [*]; done), by repeat (first | exact Drawn0.refl _ | apply Drawn0.step)⟩

/-! ### impl_covers: function 62 -/
mutual
def impl_covers.l0 : Nat → List (List Int) → List Int → Int → List Int → Int → Int → Option (Bool)
 | 0, _, _, _, _, _, _ => none
 | k + 1, x0, x1, x5, x10, x11, x12 => if x12 < x11 then (if 0 ≤ x12 then (if x12 < (x10.length : Int) then (if (rd x10 x12) = 0 then (impl_covers.l0 k x0 x1 (wrap64 (x5 * 2)) x10 x11 (wrap64 (x12 + 1))) else (impl_covers.l0 k x0 x1 x5 x10 x11 (wrap64 (x12 + 1)))) else (none)) else (none)) else (impl_covers.l1 k x1 x5 x0 (x0.length : Int) 0)
def impl_covers.l1 : Nat → List Int → Int → List (List Int) → Int → Int → Option (Bool)
 | 0, _, _, _, _, _ => none
 | k + 1, x1, x5, x21, x22, x23 => if x23 < x22 then (if 0 ≤ x23 then (if x23 < (x21.length : Int) then ((impl_fits.f k (rd_L4 x21 x23) x1).bind fun t287 => (if t287 = true then (impl_covers.l1 k x1 (wrap64 (x5 - 1)) x21 x22 (wrap64 (x23 + 1))) else (impl_covers.l1 k x1 x5 x21 x22 (wrap64 (x23 + 1))))) else (none)) else (none)) else (some (x5 == 0))
end
def impl_covers.f (k : Nat) (l0 : List (List Int)) (l1 : List Int) : Option (Bool) := impl_covers.l0 k l0 l1 1 l1 (l1.length : Int) 0
theorem impl_covers.mono_l : ∀ k, (∀ y0 y1 y2 y3 y4 y5, LeO (impl_covers.l0 k y0 y1 y2 y3 y4 y5) (impl_covers.l0 (k + 1) y0 y1 y2 y3 y4 y5)) ∧ (∀ y0 y1 y2 y3 y4, LeO (impl_covers.l1 k y0 y1 y2 y3 y4) (impl_covers.l1 (k + 1) y0 y1 y2 y3 y4))
 | 0 => ⟨fun _ _ _ _ _ _ r h => by simp [impl_covers.l0] at h, fun _ _ _ _ _ r h => by simp [impl_covers.l1] at h⟩
 | k + 1 => by
  obtain ⟨ih0, ih1⟩ := impl_covers.mono_l k
  refine ⟨?_, ?_⟩
  ·intro y0 y1 y2 y3 y4 y5
   unfold impl_covers.l0
   repeat' first
   | (with_reducible exact ih0 _ _ _ _ _ _)
   | (with_reducible exact ih1 _ _ _ _ _)
   | (with_reducible exact impl_fits.mono _ _ _)
   | (with_reducible exact LeO.refl _)
   | (with_reducible exact LeO.none _)
   | (with_reducible refine LeO.ite ?_ ?_)
   | (with_reducible refine LeO.bind ?_ (fun _ => ?_))
   | exact ih0 _ _ _ _ _ _
   | exact ih1 _ _ _ _ _
   | exact impl_fits.mono _ _ _
   | exact LeO.none _
   | refine LeO.ite ?_ ?_
   | refine LeO.bind ?_ (fun _ => ?_)
  ·intro y0 y1 y2 y3 y4
   unfold impl_covers.l1
   repeat' first
   | (with_reducible exact ih0 _ _ _ _ _ _)
   | (with_reducible exact ih1 _ _ _ _ _)
   | (with_reducible exact impl_fits.mono _ _ _)
   | (with_reducible exact LeO.refl _)
   | (with_reducible exact LeO.none _)
   | (with_reducible refine LeO.ite ?_ ?_)
   | (with_reducible refine LeO.bind ?_ (fun _ => ?_))
   | exact ih0 _ _ _ _ _ _
   | exact ih1 _ _ _ _ _
   | exact impl_fits.mono _ _ _
   | exact LeO.none _
   | refine LeO.ite ?_ ?_
   | refine LeO.bind ?_ (fun _ => ?_)
theorem impl_covers.mono : ∀ a0 a1 k, LeO (impl_covers.f k a0 a1) (impl_covers.f (k + 1) a0 a1) := by
 intro a0 a1 k
 obtain ⟨ih0, ih1⟩ := impl_covers.mono_l k
 unfold impl_covers.f
 repeat' first
   | (with_reducible exact ih0 _ _ _ _ _ _)
   | (with_reducible exact ih1 _ _ _ _ _)
   | (with_reducible exact impl_fits.mono _ _ _)
   | (with_reducible exact LeO.refl _)
   | (with_reducible exact LeO.none _)
   | (with_reducible refine LeO.ite ?_ ?_)
   | (with_reducible refine LeO.bind ?_ (fun _ => ?_))
   | exact ih0 _ _ _ _ _ _
   | exact ih1 _ _ _ _ _
   | exact impl_fits.mono _ _ _
   | exact LeO.none _
   | refine LeO.ite ?_ ?_
   | refine LeO.bind ?_ (fun _ => ?_)
set_option maxHeartbeats 8000000 in
set_option maxRecDepth 100000 in
theorem impl_covers.calls (k : Nat) (A0 : Option Addr) (c0 : Nat) (l0 : List (List Int)) (A1 : Option Addr) (c1 : Nat) (l1 : List Int) (r : Bool) (w : World) (hr0 : Kd.C (Kd.slice 3 (Kd.int .i64)) w A0 l0.length l0) (hc0 : l0.length ≤ c0) (hr1 : Kd.C (Kd.int .i64) w A1 l1.length l1) (hc1 : l1.length ≤ c1) (h : impl_covers.f k l0 l1 = some r) :
  Calls Try.prog 62 #[.slice A0 l0.length c0, .slice A1 l1.length c1] w fun e w' => e = .returned (.bool r) ∧ Drawn0 w w' := by
 have HR0 := Aside0.mk hr0
 have HC0 := Aside0.mk hc0
 clear hr0 hc0
 have HR1 := Aside0.mk hr1
 have HC1 := Aside0.mk hc1
 clear hr1 hc1
 have H : (impl_covers.l0 k l0 l1 1 l1 (l1.length : Int) 0) = some r := h
 clear h
 have H' := Aside0.mk H
 clear H
 go_enter Try.func62, Try.ntmps62
 go_wp2
 go_loopg [5, 12] k (fun kq v5 v12 w' => ∃ (x5_1 : Int) (x12_1 : Int), v5 = .int .i64 x5_1 ∧ v12 = .int .i64 x12_1 ∧ Aside0 (impl_covers.l0 kq l0 l1 x5_1 l1 (l1.length : Int) x12_1 = some r) ∧ Aside0 (kq ≤ k) ∧ Drawn0 w w')
 case atStart => exact ⟨(1), (0), sq_e, sq_e, H', ⟨Nat.le_refl _⟩, by repeat (first | exact Drawn0.refl _ | apply Drawn0.step)⟩
 case round =>
  clear H'
  (try clear c1); (try clear p2)
  obtain ⟨x5_1, x12_1, rfl, rfl, HA, HK1, ⟨m1, rfl⟩⟩ := hrel
  cases gk with
  | zero => exact absurd HA.out (by simp [impl_covers.l0])
  | succ k1 =>
   have H := HA.out
   clear HA
   simp only [impl_covers.l0] at H
   by_cases c3 : x12_1 < (l1.length : Int)
   ·rw [if_pos c3] at H
    have c3b0 : decide (x12_1 < (l1.length : Int)) = true := decide_eq_true c3
    clear c3
    by_cases c4 : 0 ≤ x12_1
    rotate_left
    ·rw [if_neg c4] at H
     exact absurd H (by simp)
    rw [if_pos c4] at H
    have c4b0 : decide (0 ≤ x12_1) = true := decide_eq_true c4
    clear c4
    by_cases c5 : x12_1 < (l1.length : Int)
    rotate_left
    ·rw [if_neg c5] at H
     exact absurd H (by simp)
    rw [if_pos c5] at H
    have c5b0 : decide (x12_1 < (l1.length : Int)) = true := decide_eq_true c5
    clear c5
    by_cases c6 : (rd l1 x12_1) = 0
    ·rw [if_pos c6] at H
     have c6b0 : ((rd l1 x12_1) == 0) = true := beq_iff_eq.mpr c6
     have c6b1 : ((rd l1 x12_1) != 0) = false := bne_eq_false_iff_eq.mpr c6
     clear c6
     have H' := Aside0.mk H
     clear H
     have p285 : 0 ≤ (x12_1 : Int) := sq_d
     have q285 : x12_1 < (l1.length : Int) := sq_d
     obtain ⟨ad285, e285, hx285_0⟩ := Kd.at_int HR1.out x12_1 p285 q285
     cases e285
     replace p285 := eq_true p285
     replace q285 := eq_true q285
     go_wp2
     go_roundg k1
     case measure => have := HK1.out; omega
     case rel => exact ⟨(wrap64 (x5_1 * 2)), (wrap64 (x12_1 + 1)), sq_e, sq_e, H', ⟨by have := HK1.out; omega⟩, by repeat (first | exact Drawn0.refl _ | apply Drawn0.step)⟩
    ·rw [if_neg c6] at H
     have c6b0 : ((rd l1 x12_1) == 0) = false := beq_eq_false_iff_ne.mpr c6
     have c6b1 : ((rd l1 x12_1) != 0) = true := bne_iff_ne.mpr c6
     have H' := Aside0.mk H
     clear H
     have p285 : 0 ≤ (x12_1 : Int) := sq_d
     have q285 : x12_1 < (l1.length : Int) := sq_d
     obtain ⟨ad285, e285, hx285_0⟩ := Kd.at_int HR1.out x12_1 p285 q285
     cases e285
     replace p285 := eq_true p285
     replace q285 := eq_true q285
     go_wp2
     go_roundg k1
     case measure => have := HK1.out; omega
     case rel => exact ⟨(x5_1), (wrap64 (x12_1 + 1)), sq_e, sq_e, H', ⟨by have := HK1.out; omega⟩, by repeat (first | exact Drawn0.refl _ | apply Drawn0.step)⟩
   ·rw [if_neg c3] at H
    have c3b0 : decide (x12_1 < (l1.length : Int)) = false := decide_eq_false c3
    clear c3
    have H' := Aside0.mk H
    clear H
    go_wp2
    go_loopg [5, 23] k1 (fun kq v5 v23 w' => ∃ (x5_2 : Int) (x23_2 : Int), v5 = .int .i64 x5_2 ∧ v23 = .int .i64 x23_2 ∧ Aside0 (impl_covers.l1 kq l1 x5_2 l0 (l0.length : Int) x23_2 = some r) ∧ Aside0 (kq ≤ k1) ∧ Drawn0 w w')
    case atStart => exact ⟨(x5_1), (0), sq_e, sq_e, H', ⟨Nat.le_refl _⟩, by repeat (first | exact Drawn0.refl _ | apply Drawn0.step)⟩
    case round =>
     clear H'
     (try clear c1); (try clear p2); (try clear q2); (try clear hx2); (try clear c3); (try clear c3b0); (try clear c4); (try clear c4b0); (try clear c5); (try clear c5b0); (try clear c6); (try clear c6b0); (try clear c6b1); (try clear p6); (try clear hx285_0); (try clear p2); (try clear p285); (try clear q285)
     obtain ⟨x5_2, x23_2, rfl, rfl, HA, HK2, ⟨m2, rfl⟩⟩ := hrel
     cases gk with
     | zero => exact absurd HA.out (by simp [impl_covers.l1])
     | succ k2 =>
      have H := HA.out
      clear HA
      simp only [impl_covers.l1] at H
      by_cases c7 : x23_2 < (l0.length : Int)
      ·rw [if_pos c7] at H
       have c7b0 : decide (x23_2 < (l0.length : Int)) = true := decide_eq_true c7
       clear c7
       by_cases c8 : 0 ≤ x23_2
       rotate_left
       ·rw [if_neg c8] at H
        exact absurd H (by simp)
       rw [if_pos c8] at H
       have c8b0 : decide (0 ≤ x23_2) = true := decide_eq_true c8
       clear c8
       by_cases c9 : x23_2 < (l0.length : Int)
       rotate_left
       ·rw [if_neg c9] at H
        exact absurd H (by simp)
       rw [if_pos c9] at H
       have c9b0 : decide (x23_2 < (l0.length : Int)) = true := decide_eq_true c9
       clear c9
       replace H := Option.bind_eq_some_iff.mp H
       obtain ⟨t287, A100, H⟩ := H
       replace H : (if t287 = true then (impl_covers.l1 k2 l1 (wrap64 (x5_2 - 1)) l0 (l0.length : Int) (wrap64 (x23_2 + 1))) else (impl_covers.l1 k2 l1 x5_2 l0 (l0.length : Int) (wrap64 (x23_2 + 1)))) = some r := H
       have A10 := Aside0.mk A100
       clear A100
       by_cases c11 : t287 = true
       ·subst c11
        have H1 : (impl_covers.l1 k2 l1 (wrap64 (x5_2 - 1)) l0 (l0.length : Int) (wrap64 (x23_2 + 1))) = some r := by rw [if_pos rfl] at H; exact H
        clear H
        have H := H1
        clear H1
        have H' := Aside0.mk H
        clear H
        have p286 : 0 ≤ (x23_2 : Int) := sq_d
        have q286 : x23_2 < (l0.length : Int) := sq_d
        obtain ⟨ad286, A286_0, c286_0, e286, hx286_0, hl286_0, hi286_0⟩ := at_L4 HR0.out x23_2 p286 q286
        cases e286
        have HR286_0 := Aside0.mk hi286_0
        have HC286_0 := Aside0.mk hl286_0
        clear hi286_0 hl286_0
        replace p286 := eq_true p286
        replace q286 := eq_true q286
        go_wp2_with (first | ((with_reducible refine gate_callee (f := 88) rfl ?_); refine goesL_ (some 29) rfl rfl Try.func88 (by kernel_rfl) rfl #[.slice A286_0 (rd_L4 l0 x23_2).length c286_0, .slice A1 l1.length c1] rfl (by (try simp only [List.map_toArray, List.map_cons, List.map_nil]); first | done | rfl | (simp only [List.length_drop, List.length_take]; rfl)) ?_; (with_reducible refine (impl_fits.calls k2 _ _ (rd_L4 l0 x23_2) _ _ l1 true _ ?side1 ?side2 ?side3 ?side4 A10.out).mono ?_); (case side1 => repeat (first | exact HR286_0.out | (with_reducible refine Kd.C_alloc ?_ _) | (with_reducible refine Kd.C_drewN ?_ _) | (with_reducible refine Kd.C_drew ?_))); (case side2 => exact HC286_0.out); (case side3 => repeat (first | exact HR1.out | (with_reducible refine Kd.C_alloc ?_ _) | (with_reducible refine Kd.C_drewN ?_ _) | (with_reducible refine Kd.C_drew ?_))); (case side4 => exact HC1.out); rintro e w' ⟨rfl, ⟨nd, rfl⟩⟩; refine ⟨_, rfl, ?_⟩))
        go_roundg k2
        case measure => have := HK1.out; have := HK2.out; omega
        case rel => exact ⟨(wrap64 (x5_2 - 1)), (wrap64 (x23_2 + 1)), sq_e, sq_e, H', ⟨by have := HK1.out; have := HK2.out; omega⟩, by repeat (first | exact Drawn0.refl _ | apply Drawn0.step)⟩
       ·replace c11 := Bool.eq_false_iff.mpr c11
        subst c11
        have H1 : (impl_covers.l1 k2 l1 x5_2 l0 (l0.length : Int) (wrap64 (x23_2 + 1))) = some r := by rw [if_neg (show ¬ (false = true) by decide)] at H; exact H
        clear H
        have H := H1
        clear H1
        have H' := Aside0.mk H
        clear H
        have p286 : 0 ≤ (x23_2 : Int) := sq_d
        have q286 : x23_2 < (l0.length : Int) := sq_d
        obtain ⟨ad286, A286_0, c286_0, e286, hx286_0, hl286_0, hi286_0⟩ := at_L4 HR0.out x23_2 p286 q286
        cases e286
        have HR286_0 := Aside0.mk hi286_0
        have HC286_0 := Aside0.mk hl286_0
        clear hi286_0 hl286_0
        replace p286 := eq_true p286
        replace q286 := eq_true q286
        go_wp2_with (first | ((with_reducible refine gate_callee (f := 88) rfl ?_); refine goesL_ (some 29) rfl rfl Try.func88 (by kernel_rfl) rfl #[.slice A286_0 (rd_L4 l0 x23_2).length c286_0, .slice A1 l1.length c1] rfl (by (try simp only [List.map_toArray, List.map_cons, List.map_nil]); first | done | rfl | (simp only [List.length_drop, List.length_take]; rfl)) ?_; (with_reducible refine (impl_fits.calls k2 _ _ (rd_L4 l0 x23_2) _ _ l1 false _ ?side1 ?side2 ?side3 ?side4 A10.out).mono ?_); (case side1 => repeat (first | exact HR286_0.out | (with_reducible refine Kd.C_alloc ?_ _) | (with_reducible refine Kd.C_drewN ?_ _) | (with_reducible refine Kd.C_drew ?_))); (case side2 => exact HC286_0.out); (case side3 => repeat (first | exact HR1.out | (with_reducible refine Kd.C_alloc ?_ _) | (with_reducible refine Kd.C_drewN ?_ _) | (with_reducible refine Kd.C_drew ?_))); (case side4 => exact HC1.out); rintro e w' ⟨rfl, ⟨nd, rfl⟩⟩; refine ⟨_, rfl, ?_⟩))
        go_roundg k2
        case measure => have := HK1.out; have := HK2.out; omega
        case rel => exact ⟨(x5_2), (wrap64 (x23_2 + 1)), sq_e, sq_e, H', ⟨by have := HK1.out; have := HK2.out; omega⟩, by repeat (first | exact Drawn0.refl _ | apply Drawn0.step)⟩
      ·rw [if_neg c7] at H
       have c7b0 : decide (x23_2 < (l0.length : Int)) = false := decide_eq_false c7
       clear c7
       obtain rfl := Option.some.inj H
       go_wp2
       go_ret
       exact ⟨by first | rfl | (simp; done) | (simp [ext_bne_nil, ext_beq_nil]; done) | (simp [*]; done), by repeat (first | exact Drawn0.refl _ | apply Drawn0.step)⟩

/-! ### impl_PrimesOf_1: function 61 (by hand) -/
def impl_PrimesOf_1.l (k : Nat) (full : List (List Int)) (t : List Int) : List Int → Nat → Option Bool
 | [], _ => some false
 | n :: rest, i => if n = 0 then impl_PrimesOf_1.l k full t rest (i + 1) else (impl_covers.f k full (t.set i 0)).bind fun b => if b then some true else impl_PrimesOf_1.l k full t rest (i + 1)
def impl_PrimesOf_1.f (k : Nat) (full : List (List Int)) (l0 : List Int) : Option Bool := if l0.length ≤ 8 then (impl_covers.f k full l0).bind fun b => (if b then impl_PrimesOf_1.l k full l0 l0 0 else some true) else none
theorem impl_PrimesOf_1.mono_l : ∀ (a0 : List (List Int)) (a1 a2 : List Int) (i k : Nat), LeO (impl_PrimesOf_1.l k a0 a1 a2 i) (impl_PrimesOf_1.l (k + 1) a0 a1 a2 i)
 | _, _, [], _, _ => LeO.refl _
 | a0, a1, n :: rest, i, k => LeO.ite (impl_PrimesOf_1.mono_l a0 a1 rest (i + 1) k) (LeO.bind (impl_covers.mono _ _ k) (fun _ => LeO.ite (LeO.refl _) (impl_PrimesOf_1.mono_l a0 a1 rest (i + 1) k)))
theorem impl_PrimesOf_1.mono : ∀ a0 a1 k, LeO (impl_PrimesOf_1.f k a0 a1) (impl_PrimesOf_1.f (k + 1) a0 a1) := fun a0 a1 k =>
 LeO.ite (LeO.bind (impl_covers.mono _ _ k) (fun _ => LeO.ite (impl_PrimesOf_1.mono_l a0 a1 a1 0 k) (LeO.refl _))) (LeO.none _)
set_option maxHeartbeats 8000000 in
set_option maxRecDepth 100000 in
theorem impl_PrimesOf_1.calls (k : Nat) (A0 : Option Addr) (c0 : Nat) (l0 : List Int) (gf : Nat) (Af : Option Addr) (cf : Nat) (full : List (List Int)) (r : Bool) (w : World)
  (hr0 : Kd.C (Kd.int .i64) w A0 l0.length l0) (hc0 : l0.length ≤ c0) (hgf : w.cell? ⟨gf, 0, none⟩ = some (.slice Af full.length cf)) (hrf : Kd.C (Kd.slice 3 (Kd.int .i64)) w Af full.length full) (hcf : full.length ≤ cf) (h : impl_PrimesOf_1.f k full l0 = some r) :
  Calls Try.prog 61 #[.slice A0 l0.length c0, .pointer (some ⟨gf, 0, none⟩)] w fun e w' => e = .returned (.bool r) ∧ Below w.heap.size w w' := by
 unfold impl_PrimesOf_1.f at h
 by_cases hl8 : l0.length ≤ 8
 rotate_left
 ·rw [if_neg hl8] at h
  exact absurd h (by simp)
 rw [if_pos hl8] at h
 obtain ⟨b, hb, h⟩ := Option.bind_eq_some_iff.mp h
 have HR0 := Aside0.mk hr0
 have HC0 := Aside0.mk hc0
 have HRF := Aside0.mk hrf
 have HCF := Aside0.mk hcf
 have HGF := Aside0.mk hgf
 have HBV := Aside0.mk hb
 have HL8 := Aside0.mk hl8
 have HH := Aside0.mk h
 clear hr0 hc0 hrf hcf hgf hb h hl8
 have hgf := HGF.out
 go_enter Try.func61, Try.ntmps61
 go_wp2_with fail
 (with_reducible refine (impl_covers.calls k _ _ full _ _ l0 b _ ?s1 ?s2 ?s3 ?s4 HBV.out).mono ?_)
 case s1 => exact HRF.out
 case s2 => exact HCF.out
 case s3 => exact HR0.out
 case s4 => exact HC0.out
 rintro e w1 ⟨rfl, hd⟩
 have HB1 := Aside0.mk hd.below
 clear hd hgf
 cases b with
 | false =>
  have HE := Aside0.mk (show true = r from Option.some.inj HH.out)
  clear HH
  go_wp2
  go_ret
  rw [← HE.out]
  exact ⟨rfl, HB1.out⟩
 | true =>
  have HA0 := Aside0.mk (show impl_PrimesOf_1.l k full l0 l0 0 = some r from HH.out)
  clear HH
  go_wp2
  go_loopg [13] l0.length (fun kq v13 w' => ∃ (i : Nat) (x13 : Int), v13 = .int .i64 x13 ∧ Aside0 (x13 = i) ∧ Aside0 (i + kq = l0.length) ∧ Aside0 (impl_PrimesOf_1.l k full l0 (l0.drop i) i = some r) ∧ Aside0 (Below w.heap.size w w'))
  case atStart => exact ⟨0, 0, rfl, ⟨rfl⟩, ⟨by simp⟩, HA0, HB1⟩
  case round =>
   clear HA0 HB1
   obtain ⟨i, x13, rfl, H13, HI, HA, HB⟩ := hrel
   cases gk with
   | zero =>
    have c1 : decide (x13 < (l0.length : Int)) = false := decide_eq_false (by have := HI.out; have := H13.out; omega)
    have HE := Aside0.mk (show false = r from by have h_ := HA.out; rw [show i = l0.length by have := HI.out; omega, List.drop_length] at h_; exact Option.some.inj h_)
    go_wp2
    go_ret
    rw [← HE.out]
    exact ⟨rfl, HB.out⟩
   | succ k1 =>
    have h13 := H13.out
    have hi := HI.out
    have p1 : x13 < (l0.length : Int) := by omega
    have p0 : 0 ≤ x13 := by omega
    have c1 : decide (x13 < (l0.length : Int)) = true := decide_eq_true p1
    have c0 : decide (0 ≤ x13) = true := decide_eq_true p0
    obtain ⟨ad, ead, hx0⟩ := Kd.at_int HR0.out x13 p0 p1
    cases ead
    replace hx0 := (HB.out.cell (World.block_lt_of_cell? w _ hx0)).trans hx0
    have hgf := (HB.out.cell (World.block_lt_of_cell? w _ HGF.out)).trans HGF.out
    obtain ⟨n, hn⟩ : ∃ n, n = rd l0 x13 := ⟨_, rfl⟩
    rw [← hn] at hx0
    have HND := Aside0.mk (show l0.drop i = n :: l0.drop (i + 1) by rw [hn, List.drop_eq_getElem_cons (by omega)]; congr 1; unfold rd; rw [show x13.toNat = i by omega]; rw [List.getD_eq_getElem?_getD, List.getElem?_eq_getElem (by omega)]; rfl)
    have HN := Aside0.mk (show x13.toNat = i by omega)
    have HW := Aside0.mk (show wrap64 (x13 + 1) = x13 + 1 from by have := HL8.out; unfold wrap64; omega)
    have HSL := Aside0.mk (show (l0.set i 0).length = l0.length from List.length_set ..)
    clear hn h13 hi
    go_wp2_with fail
    (with_reducible refine (slices_Clone_int_int.calls _ _ l0 l0 _ ?s1 ?s2 ?s3).mono ?_)
    case s1 => exact Kd.C_below HR0.out HB.out
    case s2 => exact HC0.out
    case s3 => unfold slices_Clone_int_int.f; have := HL8.out; simp; omega
    rintro e w5 ⟨v2, rfl, ho, hb⟩
    have HB2 := Aside0.mk (below_step HB.out hb)
    have hgf2 := (hb.cell (World.block_lt_of_cell? wr _ hgf)).trans hgf
    obtain ⟨g2, c2, rfl, hb2, hl2, _⟩ := Kd.R_form ho (by omega)
    have HGE := Aside0.mk (Nat.le_trans HB.out.size hb2)
    have hne : gf ≠ g2 := by have := World.block_lt_of_cell? wr _ hgf; simp at this; omega
    have HP := Aside0.mk (Kd.R_putg (enc := Value.int .i64) (h1 := fun _ => rfl) ho x13 0)
    obtain ⟨ce, hcl, hM, hcc, hfr⟩ := Kd.R_elem ho 0 x13 p0 p1
    obtain rfl : ce = [.int .i64 (l0.getD x13.toNat 0)] := hM
    have hy0 : w5.cell? ⟨g2, x13.toNat, none⟩ = some (.int .i64 (l0.getD x13.toNat 0)) := by have h_ := hcc 0 _ rfl; rwa [Nat.add_zero, show (Kd.int .i64).sz = 1 from rfl, Nat.mul_one] at h_
    have hy1 : w5.frozen? ⟨g2, x13.toNat, none⟩ = false := by have h_ := hfr 0; rwa [Nat.add_zero, show (Kd.int .i64).sz = 1 from rfl, Nat.mul_one] at h_
    clear hcl hcc hfr hgf HB hb hb2 hl2
    by_cases hn0 : n = 0
    ·have c5 : (n != (0 : Int)) = false := by simp [hn0]
     have HA2 := Aside0.mk (show impl_PrimesOf_1.l k full l0 (l0.drop (i + 1)) (i + 1) = some r from by have h_ := HA.out; rw [HND.out] at h_; unfold impl_PrimesOf_1.l at h_; rwa [if_pos hn0] at h_)
     clear hn0
     go_wp2
     go_roundg k1
     case measure => omega
     case rel => exact ⟨i + 1, x13 + 1, by rw [HW.out], ⟨by have := H13.out; omega⟩, ⟨by have := HI.out; omega⟩, HA2, ⟨below_set HB2.out HGE.out⟩⟩
    ·have c5 : (n != (0 : Int)) = true := by simpa using hn0
     have h_ := HA.out
     rw [HND.out] at h_
     unfold impl_PrimesOf_1.l at h_
     rw [if_neg hn0] at h_
     obtain ⟨b2, hb2, h_⟩ := Option.bind_eq_some_iff.mp h_
     have HA2 := Aside0.mk h_
     have HB3 := Aside0.mk (below_set (v := .int .i64 0) (j := x13.toNat) HB2.out HGE.out)
     have hgf3 := (HB3.out.cell (World.block_lt_of_cell? w _ HGF.out)).trans HGF.out
     have hRp := HP.out.1
     rw [HN.out] at hRp
     have hCp := (Kd.R_reads' hRp)
     have hcv := impl_covers.calls k Af cf full (some ⟨g2, 0, none⟩) c2 (l0.set i 0) b2 _ (Kd.C_below HRF.out HB3.out) HCF.out (by rw [← HN.out]; have := (Kd.R_reads' HP.out.1).2.2; exact this) (by rw [HSL.out]; have := (Kd.R_reads' ho).2.1; exact this) hb2
     rw [List.length_set] at hcv
     have HCV := Aside0.mk hcv
     clear hn0 hb2 h_ hRp hCp hcv hgf2 ho HP
     go_wp2_with fail
     (with_reducible refine HCV.out.mono ?_)
     rintro e w6 ⟨rfl, hd⟩
     have HB4 := Aside0.mk (below_step HB3.out hd.below)
     clear hd hgf3 HCV
     cases b2 with
     | true =>
      have HE := Aside0.mk (show true = r from Option.some.inj HA2.out)
      go_wp2
      go_ret
      rw [← HE.out]
      exact ⟨rfl, HB4.out⟩
     | false =>
      have HA3 := Aside0.mk (show impl_PrimesOf_1.l k full l0 (l0.drop (i + 1)) (i + 1) = some r from HA2.out)
      clear HA2
      go_wp2
      go_roundg k1
      case measure => omega
      case rel => exact ⟨i + 1, x13 + 1, by rw [HW.out], ⟨by have := H13.out; omega⟩, ⟨by have := HI.out; omega⟩, HA3, HB4⟩

/-! ### impl_PrimesOf: function 20 (by hand) -/
def impl_PrimesOf.f (k : Nat) (l0 : List S46) : Option (List (List Int) × Bool) := (impl_GoodQuery.f k l0).bind fun g => if g = true then ((impl_fullTerms.f k l0).bind fun full => (impl_wordsIn.f k l0).bind fun ws => (impl_terms.f (ws.length : Int) 0).bind fun ts => (delM (impl_PrimesOf_1.f k full) ts).bind fun r => some (r, true)) else some ([], false)
theorem impl_PrimesOf.mono : ∀ a0 k, LeO (impl_PrimesOf.f k a0) (impl_PrimesOf.f (k + 1) a0) := fun a0 k =>
 LeO.bind (impl_GoodQuery.mono a0 k) (fun _ => LeO.ite (LeO.bind (impl_fullTerms.mono a0 k) (fun _ => LeO.bind (impl_wordsIn.mono a0 k) (fun _ => LeO.bind (LeO.refl _) (fun _ => LeO.bind (delM_mono (fun x => impl_PrimesOf_1.mono _ x k) _) (fun _ => LeO.refl _))))) (LeO.refl _))
set_option maxHeartbeats 8000000 in
set_option maxRecDepth 100000 in
theorem impl_PrimesOf.calls (k : Nat) (A0 : Option Addr) (c0 : Nat) (l0 : List S46) (r1 : List (List Int)) (r2 : Bool) (w : World) (hr0 : Kd.C k46 w A0 l0.length l0) (hc0 : l0.length ≤ c0) (h : impl_PrimesOf.f k l0 = some (r1, r2)) :
  Calls Try.prog 20 #[.slice A0 l0.length c0] w fun e w' => ∃ v0_ : Value, e = .returned (.tuple #[v0_, .bool r2]) ∧ Kd.S (Kd.slice 3 (Kd.int .i64)) 49 w' w.heap.size (fun _ => True) v0_ r1 ∧ Below w.heap.size w w' := by
 unfold impl_PrimesOf.f at h
 obtain ⟨g, hg, h⟩ := Option.bind_eq_some_iff.mp h
 have HR0 := Aside0.mk hr0
 have HC0 := Aside0.mk hc0
 have HG := Aside0.mk hg
 clear hr0 hc0 hg
 cases g with
 | false =>
  rw [if_neg (by simp)] at h
  have HE := Aside0.mk (Option.some.inj h)
  clear h
  go_enter Try.func20, Try.ntmps20
  go_wp2_with fail
  (with_reducible refine (impl_GoodQuery.calls k _ _ l0 false _ ?s1 ?s2 HG.out).mono ?_)
  case s1 => exact HR0.out
  case s2 => exact HC0.out
  rintro e w1 ⟨rfl, hb⟩
  have HB := Aside0.mk hb
  clear hb
  go_wp2
  go_ret2
  obtain ⟨rfl, rfl⟩ := Prod.mk.inj HE.out
  exact ⟨_, rfl, Kd.S_nil _ _ _ _ _, HB.out⟩
 | true =>
  rw [if_pos rfl] at h
  obtain ⟨full, hf, h⟩ := Option.bind_eq_some_iff.mp h
  obtain ⟨ws, hws, h⟩ := Option.bind_eq_some_iff.mp h
  obtain ⟨ts, ht, h⟩ := Option.bind_eq_some_iff.mp h
  obtain ⟨r, hd, h⟩ := Option.bind_eq_some_iff.mp h
  have HE := Aside0.mk (Option.some.inj h)
  have HF := Aside0.mk hf
  have HWS := Aside0.mk hws
  have HT := Aside0.mk ht
  have HD := Aside0.mk hd
  clear hf hws ht hd h
  go_enter Try.func20, Try.ntmps20
  go_wp2_with fail
  (with_reducible refine (impl_GoodQuery.calls k _ _ l0 true _ ?s1 ?s2 HG.out).mono ?_)
  case s1 => exact HR0.out
  case s2 => exact HC0.out
  rintro e w1 ⟨rfl, hb⟩
  have HB1 := Aside0.mk hb
  clear hb
  go_wp2_with fail
  (with_reducible refine (impl_fullTerms.calls k _ _ l0 full _ ?s1 ?s2 HF.out).mono ?_)
  case s1 => exact Kd.C_below HR0.out HB1.out
  case s2 => exact HC0.out
  rintro e w2 ⟨v2, rfl, ho2, hb2⟩
  obtain ⟨A2, c2, rfl⟩ := Kd.S_slice ho2
  have HO2 := Aside0.mk ho2
  have HB2 := Aside0.mk (below_step HB1.out hb2)
  clear ho2 hb2 HB1
  go_wp2_with fail
  (with_reducible refine (impl_wordsIn.calls k _ _ l0 ws _ ?s1 ?s2 HWS.out).mono ?_)
  case s1 => exact Kd.C_below HR0.out (below_alloc HB2.out _)
  case s2 => exact HC0.out
  rintro e w3 ⟨v3, rfl, ho3, hb3⟩
  obtain ⟨A3, c3, rfl⟩ := Kd.R_slice ho3
  have hX1 : w3.cell? ⟨w2.heap.size, 0, none⟩ = some (.slice A2 full.length c2) := (hb3.cell (by simp)).trans (by simp)
  have HX1 := Aside0.mk hX1
  have HX3 := Aside0.mk (Kd.C_below (Kd.C_below (Kd.S_reads' HO2.out).2.2 (below_alloc (Below.refl w2.heap.size w2) (.cells #[.slice A2 full.length c2] 30))) hb3)
  have HX5 := Aside0.mk (below_step (below_alloc HB2.out (.cells #[.slice A2 full.length c2] 30)) hb3)
  have HCF := Aside0.mk (Kd.S_reads' HO2.out).2.1
  clear hX1 ho3 hb3 HO2 HB2
  go_wp2_with fail
  (with_reducible refine (impl_terms.calls _ _ ts w3 HT.out).mono ?_)
  rintro e w4 ⟨v4, rfl, ho4, hb4⟩
  obtain ⟨f, hR4⟩ := ho4
  have HR4 := Aside0.mk hR4
  have HB4 := Aside0.mk hb4
  clear hR4 hb4
  go_wp2_with fail
  (with_reducible refine (slices_DeleteFunc_int_int.calls (Kd.tag f (Kd.slice 3 (Kd.int .i64))) ?z1 ([], 0) ?z2 ?z3 (fun x => (impl_PrimesOf_1.f k full x.1).getD false) _ _ (fun _ => True) v4 ts.zipIdx w3 w4 HB4.out HR4.out ?z4 ?z5).mono ?_)
  case z1 => rfl
  case z2 => exact fun W base => ⟨_, rfl, Kd.R_nil _ _ _ _ _⟩
  case z3 =>
   rintro W base ok x u ⟨v, hv, hr⟩
   obtain ⟨A, c, rfl⟩ := Kd.R_slice hr
   injection hv with hv _
   exact ⟨_, _, _, hv⟩
  case z4 => exact fun args W => enters_ Try.func61 (by kernel_rfl) rfl args W
  case z5 =>
   rintro x hx u W ⟨v, hv, hr⟩ hK hB
   obtain ⟨A, c, rfl, hl, hC⟩ := Kd.R_reads hr
   injection hv with hv _
   subst hv
   have hm : x.1 ∈ ts := by
    have := List.mem_map_of_mem (f := Prod.fst) hx
    rwa [List.zipIdx_map_fst] at this
   obtain ⟨b, hb⟩ := delM_all _ _ _ HD.out x.1 hm
   refine calls_of_args ?_ ((impl_PrimesOf_1.calls k A c x.1 w2.heap.size A2 c2 full b W hC hl ((hB.cell (World.block_lt_of_cell? w3 _ HX1.out)).trans HX1.out) (Kd.C_below HX3.out hB) HCF.out hb).mono ?_)
   ·rfl
   ·rintro e w5 ⟨rfl, hb5⟩
    exact ⟨by show Ending.returned (Value.bool b) = _; rw [hb]; rfl, hb5⟩
  rintro e w5 ⟨v5, rfl, ho5, hb5, hk5⟩
  have hS := S_of_tagged ho5 (nodup_filter_zip _ _)
  rw [zip_filter_fst ts (fun t => !((impl_PrimesOf_1.f k full t).getD false)), ← delM_eq _ _ ts r HD.out (fun x b hx => by rw [hx]; rfl)] at hS
  have HS := Aside0.mk (Kd.S_lower hS HX5.out.size)
  have HB5 := Aside0.mk (below_step HX5.out hb5)
  clear ho5 hb5 hk5 hS
  go_wp2
  go_ret2
  obtain ⟨rfl, rfl⟩ := Prod.mk.inj HE.out
  exact ⟨_, rfl, HS.out, HB5.out⟩

-- NOT PRINTED: function 5 (laws_FnExactPrimesOf)

end Go.Proofs.Ytnolkgfdokijjaa.QFnExactPrimesOf
