-- Written by this session's own program (wip/pp_patch.py, wip/pp.sh) out of the given translation. Not trusted: Lean checks it.
import Derived.Test.YtkoackkimdanjaaQFnLegsx0
import Derived.Test.YtkoackkimdanjaaQFnLegsx3
import Derived.Test.YtkoackkimdanjaaQFnLegsx6
namespace Go.Proofs.Ytkoackkimdanjaa.QFnLegs
open Go.RowKit Go.Proofs.YtkoackkimdanjaaW.PrintWords Go.Proofs.YtkoackkimdanjaaW.PrintLast Go.Proofs.YtkoackkimdanjaaW.PrintMore
attribute [local go_sem] max2_int min2_int max_two min_two max_three min_three max_four min_four   -- for this text's walks alone
open Go.Proofs.Ytkoackkimdanjaa.Ext
attribute [local go_sem high] ext_gtr ext_leq
set_option linter.unusedVariables false
set_option linter.unusedSimpArgs false

/-! ### slices_Equal_int_int: function 95 -/
def slices_Equal_int_int.l0 : Nat → List Int → List Int → Int → Int → Option (Bool)
 | 0, _, _, _, _ => none
 | k + 1, x0, x1, x12, x13 => if x13 < x12 then (if 0 ≤ x13 then (if x13 < (x0.length : Int) then (if x13 < (x1.length : Int) then (if (rd x0 x13) = (rd x1 x13) then (slices_Equal_int_int.l0 k x0 x1 x12 (wrap64 (x13 + 1))) else (some false)) else (none)) else (none)) else (none)) else (some true)
def slices_Equal_int_int.f (k : Nat) (l0 : List Int) (l1 : List Int) : Option (Bool) := if (l0.length : Int) = (l1.length : Int) then (slices_Equal_int_int.l0 k l0 l1 (l0.length : Int) 0) else (some false)
theorem slices_Equal_int_int.mono_l : ∀ k, (∀ y0 y1 y2 y3, LeO (slices_Equal_int_int.l0 k y0 y1 y2 y3) (slices_Equal_int_int.l0 (k + 1) y0 y1 y2 y3))
 | 0 => fun _ _ _ _ r h => by simp [slices_Equal_int_int.l0] at h
 | k + 1 => by
  have ih0 := slices_Equal_int_int.mono_l k
  ·intro y0 y1 y2 y3
   unfold slices_Equal_int_int.l0
   repeat' first
   | (with_reducible exact ih0 _ _ _ _)
   | (with_reducible exact LeO.refl _)
   | (with_reducible exact LeO.none _)
   | (with_reducible refine LeO.ite ?_ ?_)
   | (with_reducible refine LeO.bind ?_ (fun _ => ?_))
   | exact ih0 _ _ _ _
   | exact LeO.none _
   | refine LeO.ite ?_ ?_
   | refine LeO.bind ?_ (fun _ => ?_)
theorem slices_Equal_int_int.mono : ∀ a0 a1 k, LeO (slices_Equal_int_int.f k a0 a1) (slices_Equal_int_int.f (k + 1) a0 a1) := by
 intro a0 a1 k
 have ih0 := slices_Equal_int_int.mono_l k
 unfold slices_Equal_int_int.f
 repeat' first
   | (with_reducible exact ih0 _ _ _ _)
   | (with_reducible exact LeO.refl _)
   | (with_reducible exact LeO.none _)
   | (with_reducible refine LeO.ite ?_ ?_)
   | (with_reducible refine LeO.bind ?_ (fun _ => ?_))
   | exact ih0 _ _ _ _
   | exact LeO.none _
   | refine LeO.ite ?_ ?_
   | refine LeO.bind ?_ (fun _ => ?_)
set_option maxHeartbeats 8000000 in
set_option maxRecDepth 100000 in
theorem slices_Equal_int_int.calls (k : Nat) (A0 : Option Addr) (c0 : Nat) (l0 : List Int) (A1 : Option Addr) (c1 : Nat) (l1 : List Int) (r : Bool) (w : World) (hr0 : Kd.C (Kd.int .i64) w A0 l0.length l0) (hc0 : l0.length ≤ c0) (hr1 : Kd.C (Kd.int .i64) w A1 l1.length l1) (hc1 : l1.length ≤ c1) (h : slices_Equal_int_int.f k l0 l1 = some r) :
  Calls Try.prog 95 #[.slice A0 l0.length c0, .slice A1 l1.length c1] w fun e w' => e = .returned (.bool r) ∧ Drawn0 w w' := by
 have HR0 := mk_ hr0
 have HC0 := mk_ hc0
 clear hr0 hc0
 have HR1 := mk_ hr1
 have HC1 := mk_ hc1
 clear hr1 hc1
 have H : (if (l0.length : Int) = (l1.length : Int) then (slices_Equal_int_int.l0 k l0 l1 (l0.length : Int) 0) else (some false)) = some r := h
 clear h
 by_cases c3 : (l0.length : Int) = (l1.length : Int)
 ·rw [if_pos c3] at H
  have c3b0 : ((l0.length : Int) == (l1.length : Int)) = true := beq_iff_eq.mpr c3
  have c3b1 : ((l0.length : Int) != (l1.length : Int)) = false := bne_eq_false_iff_eq.mpr c3
  have c3b2 : (l0.length == l1.length) = true := by first | simpa using c3 | (simp at c3 ⊢; omega)
  clear c3
  have H' := mk_ H
  clear H
  go_enter Try.func95, Try.ntmps95
  go_wp2
  repeat (go_quiet (fail); try go_wp2)
  go_loopg [13] k (fun kq v13 w' => ∃ (x13_1 : Int), v13 = .int .i64 x13_1 ∧ Aside0 (slices_Equal_int_int.l0 kq l0 l1 (l0.length : Int) x13_1 = some r) ∧ Aside0 (kq ≤ k) ∧ Drawn0 w w')
  case atStart => exact ⟨(0), sq_e, H', ⟨Nat.le_refl _⟩, by repeat (first | exact Drawn0.refl _ | apply Drawn0.step)⟩
  case round =>
   clear H'
   (try clear c1); (try clear p2); (try clear c3); (try clear c3b0); (try clear c3b1); (try clear c3b2)
   obtain ⟨x13_1, rfl, HA, HK1, ⟨m1, rfl⟩⟩ := hrel
   cases gk with
   | zero => exact absurd HA.out (by simp [slices_Equal_int_int.l0])
   | succ k1 =>
    have H := HA.out
    clear HA
    simp only [slices_Equal_int_int.l0] at H
    by_cases c4 : x13_1 < (l0.length : Int)
    ·rw [if_pos c4] at H
     have c4b0 : decide (x13_1 < (l0.length : Int)) = true := decide_eq_true c4
     clear c4
     by_cases c5 : 0 ≤ x13_1
     rotate_left
     ·rw [if_neg c5] at H
      exact absurd H (by simp)
     rw [if_pos c5] at H
     have c5b0 : decide (0 ≤ x13_1) = true := decide_eq_true c5
     clear c5
     by_cases c6 : x13_1 < (l0.length : Int)
     rotate_left
     ·rw [if_neg c6] at H
      exact absurd H (by simp)
     rw [if_pos c6] at H
     have c6b0 : decide (x13_1 < (l0.length : Int)) = true := decide_eq_true c6
     clear c6
     by_cases c7 : x13_1 < (l1.length : Int)
     rotate_left
     ·rw [if_neg c7] at H
      exact absurd H (by simp)
     rw [if_pos c7] at H
     have c7b0 : decide (x13_1 < (l1.length : Int)) = true := decide_eq_true c7
     clear c7
     by_cases c8 : (rd l0 x13_1) = (rd l1 x13_1)
     ·rw [if_pos c8] at H
      have c8b0 : ((rd l0 x13_1) == (rd l1 x13_1)) = true := beq_iff_eq.mpr c8
      have c8b1 : ((rd l0 x13_1) != (rd l1 x13_1)) = false := bne_eq_false_iff_eq.mpr c8
      clear c8
      have H' := mk_ H
      clear H
      have p128 : 0 ≤ (x13_1 : Int) := sq_d
      have q128 : x13_1 < (l0.length : Int) := sq_d
      obtain ⟨ad128, e128, hx128_0⟩ := Kd.at_int HR0.out x13_1 p128 q128
      cases e128
      replace p128 := eq_true p128
      replace q128 := eq_true q128
      have p129 : 0 ≤ (x13_1 : Int) := sq_d
      have q129 : x13_1 < (l1.length : Int) := sq_d
      obtain ⟨ad129, e129, hx129_0⟩ := Kd.at_int HR1.out x13_1 p129 q129
      cases e129
      replace p129 := eq_true p129
      replace q129 := eq_true q129
      go_wp2
      repeat (go_quiet (fail); try go_wp2)
      go_roundg k1
      case measure => have := HK1.out; omega
      case rel => exact ⟨(wrap64 (x13_1 + 1)), sq_e, H', ⟨by have := HK1.out; omega⟩, by repeat (first | exact Drawn0.refl _ | apply Drawn0.step)⟩
     ·rw [if_neg c8] at H
      have c8b0 : ((rd l0 x13_1) == (rd l1 x13_1)) = false := beq_eq_false_iff_ne.mpr c8
      have c8b1 : ((rd l0 x13_1) != (rd l1 x13_1)) = true := bne_iff_ne.mpr c8
      obtain rfl := Option.some.inj H
      have p128 : 0 ≤ (x13_1 : Int) := sq_d
      have q128 : x13_1 < (l0.length : Int) := sq_d
      obtain ⟨ad128, e128, hx128_0⟩ := Kd.at_int HR0.out x13_1 p128 q128
      cases e128
      replace p128 := eq_true p128
      replace q128 := eq_true q128
      have p129 : 0 ≤ (x13_1 : Int) := sq_d
      have q129 : x13_1 < (l1.length : Int) := sq_d
      obtain ⟨ad129, e129, hx129_0⟩ := Kd.at_int HR1.out x13_1 p129 q129
      cases e129
      replace p129 := eq_true p129
      replace q129 := eq_true q129
      go_wp2
      repeat (go_quiet (fail); try go_wp2)
      go_ret
      exact ⟨sq_e, by repeat (first | exact Drawn0.refl _ | apply Drawn0.step)⟩
    ·rw [if_neg c4] at H
     have c4b0 : decide (x13_1 < (l0.length : Int)) = false := decide_eq_false c4
     clear c4
     obtain rfl := Option.some.inj H
     go_wp2
     repeat (go_quiet (fail); try go_wp2)
     go_ret
     exact ⟨sq_e, by repeat (first | exact Drawn0.refl _ | apply Drawn0.step)⟩
 ·rw [if_neg c3] at H
  have c3b0 : ((l0.length : Int) == (l1.length : Int)) = false := beq_eq_false_iff_ne.mpr c3
  have c3b1 : ((l0.length : Int) != (l1.length : Int)) = true := bne_iff_ne.mpr c3
  have c3b2 : (l0.length == l1.length) = false := by first | simpa using c3 | (simp at c3 ⊢; omega)
  obtain rfl := Option.some.inj H
  go_enter Try.func95, Try.ntmps95
  go_wp2
  repeat (go_quiet (fail); try go_wp2)
  go_ret
  exact ⟨sq_e, by repeat (first | exact Drawn0.refl _ | apply Drawn0.step)⟩

/-! ### impl_entries_1: function 94 -/
def impl_entries_1.f (k : Nat) (a0_0 : Int) (a0_1 : Int) (a0_2 : Int) (l0_3 : List Int) (a1_0 : Int) (a1_1 : Int) (a1_2 : Int) (l1_3 : List Int) : Option (Bool) := if a0_0 = a1_0 then (if a0_1 = a1_1 then (if a0_2 = a1_2 then ((slices_Equal_int_int.f k l0_3 l1_3).bind fun t132 => (some t132)) else (some false)) else (some false)) else (some false)
theorem impl_entries_1.mono : ∀ a0 a1 a2 a3 a4 a5 a6 a7 k, LeO (impl_entries_1.f k a0 a1 a2 a3 a4 a5 a6 a7) (impl_entries_1.f (k + 1) a0 a1 a2 a3 a4 a5 a6 a7) := by
 intro a0 a1 a2 a3 a4 a5 a6 a7 k
 unfold impl_entries_1.f
 repeat' first
   | (with_reducible exact slices_Equal_int_int.mono _ _ _)
   | (with_reducible exact LeO.refl _)
   | (with_reducible exact LeO.none _)
   | (with_reducible refine LeO.ite ?_ ?_)
   | (with_reducible refine LeO.bind ?_ (fun _ => ?_))
   | exact slices_Equal_int_int.mono _ _ _
   | exact LeO.none _
   | refine LeO.ite ?_ ?_
   | refine LeO.bind ?_ (fun _ => ?_)
set_option maxHeartbeats 8000000 in
set_option maxRecDepth 100000 in
theorem impl_entries_1.calls (k : Nat) (a0_0 : Int) (a0_1 : Int) (a0_2 : Int) (A0_3 : Option Addr) (c0_3 : Nat) (l0_3 : List Int) (a1_0 : Int) (a1_1 : Int) (a1_2 : Int) (A1_3 : Option Addr) (c1_3 : Nat) (l1_3 : List Int) (r : Bool) (w : World) (hr0_3 : Kd.C (Kd.int .i64) w A0_3 l0_3.length l0_3) (hc0_3 : l0_3.length ≤ c0_3) (hr1_3 : Kd.C (Kd.int .i64) w A1_3 l1_3.length l1_3) (hc1_3 : l1_3.length ≤ c1_3) (h : impl_entries_1.f k a0_0 a0_1 a0_2 l0_3 a1_0 a1_1 a1_2 l1_3 = some r) :
  Calls Try.prog 94 #[.agg #[.int .i64 a0_0, .int .i64 a0_1, .int .i64 a0_2, .slice A0_3 l0_3.length c0_3], .agg #[.int .i64 a1_0, .int .i64 a1_1, .int .i64 a1_2, .slice A1_3 l1_3.length c1_3]] w fun e w' => e = .returned (.bool r) ∧ Below w.heap.size w w' := by
 have hu59 := Try.underlying59
 have HR0_3 := mk_ hr0_3
 have HC0_3 := mk_ hc0_3
 clear hr0_3 hc0_3
 have HR1_3 := mk_ hr1_3
 have HC1_3 := mk_ hc1_3
 clear hr1_3 hc1_3
 have HB := mk_ (Below.refl w.heap.size w)
 have H : (if a0_0 = a1_0 then (if a0_1 = a1_1 then (if a0_2 = a1_2 then ((slices_Equal_int_int.f k l0_3 l1_3).bind fun t132 => (some t132)) else (some false)) else (some false)) else (some false)) = some r := h
 clear h
 by_cases c3 : a0_0 = a1_0
 ·rw [if_pos c3] at H
  have c3b0 : (a0_0 == a1_0) = true := beq_iff_eq.mpr c3
  have c3b1 : (a0_0 != a1_0) = false := bne_eq_false_iff_eq.mpr c3
  clear c3
  by_cases c4 : a0_1 = a1_1
  ·rw [if_pos c4] at H
   have c4b0 : (a0_1 == a1_1) = true := beq_iff_eq.mpr c4
   have c4b1 : (a0_1 != a1_1) = false := bne_eq_false_iff_eq.mpr c4
   clear c4
   by_cases c5 : a0_2 = a1_2
   ·rw [if_pos c5] at H
    have c5b0 : (a0_2 == a1_2) = true := beq_iff_eq.mpr c5
    have c5b1 : (a0_2 != a1_2) = false := bne_eq_false_iff_eq.mpr c5
    clear c5
    replace H := Option.bind_eq_some_iff.mp H
    obtain ⟨t132, A60, H⟩ := H
    replace H : (some t132) = some r := H
    have A6 := mk_ A60
    clear A60
    obtain rfl := Option.some.inj H
    go_enter Try.func94, Try.ntmps94
    go_wp2_with (first | ((with_reducible refine gate_dst (N := 2) rfl ?_); refine box_event sq_0 (N := 2) sq_0 (cs := #[.int .i64 a0_0, .int .i64 a0_1, .int .i64 a0_2, .slice A0_3 l0_3.length c0_3]) (t := 59) sq_h ?_; intro gb130 hg w7 hbox hb; have n0_ := mk_ (below_step sq_b hb); have n1_ := mk_ (hbox); have n2_ := mk_ ((by rw [hg]; exact (below_size sq_b) : w.heap.size ≤ gb130)); have n3_ := mk_ ((by rw [hg]; exact (below_size sq_b) : w.heap.size ≤ gb130)); clear HB; have HB := n0_; have BK130 := n1_; have GW130 := n2_; have GE130 := n3_; clear n0_ n1_ n2_ n3_; clear hb hbox hg) | ((with_reducible refine gate_dst (N := 3) rfl ?_); refine box_event sq_0 (N := 3) sq_0 (cs := #[.int .i64 a1_0, .int .i64 a1_1, .int .i64 a1_2, .slice A1_3 l1_3.length c1_3]) (t := 59) sq_h ?_; intro gb131 hg w8 hbox hb; have n0_ := mk_ (blk_below (g := gb130) (o := .cells #[.int .i64 a0_0, .int .i64 a0_1, .int .i64 a0_2, .slice A0_3 l0_3.length c0_3] 59 (0, 0)) (sq_l BK130) hb); have n1_ := mk_ (below_step (sq_g GE130.out) hb); have n2_ := mk_ (hbox); have n3_ := mk_ ((by rw [hg]; exact (below_size (sq_g GE130.out)) : w.heap.size ≤ gb131)); have n4_ := mk_ ((by rw [hg]; exact (below_size (sq_g GE130.out)) : w.heap.size ≤ gb131)); have n5_ := mk_ ((by rw [hg]; exact Nat.ne_of_lt (blk_lt (g := gb130) (o := .cells #[.int .i64 a0_0, .int .i64 a0_1, .int .i64 a0_2, .slice A0_3 l0_3.length c0_3] 59 (0, 0)) (sq_l BK130)) : gb130 ≠ gb131)); have n6_ := mk_ ((by rw [hg]; exact Nat.ne_of_gt (blk_lt (g := gb130) (o := .cells #[.int .i64 a0_0, .int .i64 a0_1, .int .i64 a0_2, .slice A0_3 l0_3.length c0_3] 59 (0, 0)) (sq_l BK130)) : gb131 ≠ gb130)); clear BK130 HB; have BK130 := n0_; have HB := n1_; have BK131 := n2_; have GW131 := n3_; have GE131 := n4_; have NB130_131 := n5_; have NB131_130 := n6_; clear n0_ n1_ n2_ n3_ n4_ n5_ n6_; clear hb hbox hg; have hnb9 := NB130_131.out; have hnc9 := NB131_130.out; have hcz10_0 : w8.cell? ⟨gb130, 0, none⟩ = some (.int .i64 a0_0) := (blk_cell BK130.out 0).trans rfl; have hcz10_1 : w8.cell? ⟨gb130, 1, none⟩ = some (.int .i64 a0_1) := (blk_cell BK130.out 1).trans rfl; have hcz10_2 : w8.cell? ⟨gb130, 2, none⟩ = some (.int .i64 a0_2) := (blk_cell BK130.out 2).trans rfl; have hcz10_3 : w8.cell? ⟨gb130, 3, none⟩ = some (.slice A0_3 l0_3.length c0_3) := (blk_cell BK130.out 3).trans rfl; have hfz10_0 := blk_frozen BK130.out 0; have hfz10_1 := blk_frozen BK130.out 1; have hfz10_2 := blk_frozen BK130.out 2; have hfz10_3 := blk_frozen BK130.out 3; have hcz11_0 : w8.cell? ⟨gb131, 0, none⟩ = some (.int .i64 a1_0) := (blk_cell BK131.out 0).trans rfl; have hcz11_1 : w8.cell? ⟨gb131, 1, none⟩ = some (.int .i64 a1_1) := (blk_cell BK131.out 1).trans rfl; have hcz11_2 : w8.cell? ⟨gb131, 2, none⟩ = some (.int .i64 a1_2) := (blk_cell BK131.out 2).trans rfl; have hcz11_3 : w8.cell? ⟨gb131, 3, none⟩ = some (.slice A1_3 l1_3.length c1_3) := (blk_cell BK131.out 3).trans rfl; have hfz11_0 := blk_frozen BK131.out 0; have hfz11_1 := blk_frozen BK131.out 1; have hfz11_2 := blk_frozen BK131.out 2; have hfz11_3 := blk_frozen BK131.out 3) | (go_at_call 95; (with_reducible refine (slices_Equal_int_int.calls k _ _ l0_3 _ _ l1_3 t132 _ ?side1 ?side2 ?side3 ?side4 A6.out).mono ?_); (case side1 => exact sq_c (Kd.C_below HR0_3.out HB.out)); (case side2 => exact HC0_3.out); (case side3 => exact sq_c (Kd.C_below HR1_3.out HB.out)); (case side4 => exact HC1_3.out); rintro e w' ⟨rfl, ⟨nd, rfl⟩⟩))
    go_ret
    exact ⟨sq_w, sq_g2 GE130.out GE131.out⟩
   ·rw [if_neg c5] at H
    have c5b0 : (a0_2 == a1_2) = false := beq_eq_false_iff_ne.mpr c5
    have c5b1 : (a0_2 != a1_2) = true := bne_iff_ne.mpr c5
    obtain rfl := Option.some.inj H
    go_enter Try.func94, Try.ntmps94
    go_wp2_with (first | ((with_reducible refine gate_dst (N := 2) rfl ?_); refine box_event sq_0 (N := 2) sq_0 (cs := #[.int .i64 a0_0, .int .i64 a0_1, .int .i64 a0_2, .slice A0_3 l0_3.length c0_3]) (t := 59) sq_h ?_; intro gb130 hg w12 hbox hb; have n0_ := mk_ (below_step sq_b hb); have n1_ := mk_ (hbox); have n2_ := mk_ ((by rw [hg]; exact (below_size sq_b) : w.heap.size ≤ gb130)); have n3_ := mk_ ((by rw [hg]; exact (below_size sq_b) : w.heap.size ≤ gb130)); clear HB; have HB := n0_; have BK130 := n1_; have GW130 := n2_; have GE130 := n3_; clear n0_ n1_ n2_ n3_; clear hb hbox hg) | ((with_reducible refine gate_dst (N := 3) rfl ?_); refine box_event sq_0 (N := 3) sq_0 (cs := #[.int .i64 a1_0, .int .i64 a1_1, .int .i64 a1_2, .slice A1_3 l1_3.length c1_3]) (t := 59) sq_h ?_; intro gb131 hg w13 hbox hb; have n0_ := mk_ (blk_below (g := gb130) (o := .cells #[.int .i64 a0_0, .int .i64 a0_1, .int .i64 a0_2, .slice A0_3 l0_3.length c0_3] 59 (0, 0)) (sq_l BK130) hb); have n1_ := mk_ (below_step (sq_g GE130.out) hb); have n2_ := mk_ (hbox); have n3_ := mk_ ((by rw [hg]; exact (below_size (sq_g GE130.out)) : w.heap.size ≤ gb131)); have n4_ := mk_ ((by rw [hg]; exact (below_size (sq_g GE130.out)) : w.heap.size ≤ gb131)); have n5_ := mk_ ((by rw [hg]; exact Nat.ne_of_lt (blk_lt (g := gb130) (o := .cells #[.int .i64 a0_0, .int .i64 a0_1, .int .i64 a0_2, .slice A0_3 l0_3.length c0_3] 59 (0, 0)) (sq_l BK130)) : gb130 ≠ gb131)); have n6_ := mk_ ((by rw [hg]; exact Nat.ne_of_gt (blk_lt (g := gb130) (o := .cells #[.int .i64 a0_0, .int .i64 a0_1, .int .i64 a0_2, .slice A0_3 l0_3.length c0_3] 59 (0, 0)) (sq_l BK130)) : gb131 ≠ gb130)); clear BK130 HB; have BK130 := n0_; have HB := n1_; have BK131 := n2_; have GW131 := n3_; have GE131 := n4_; have NB130_131 := n5_; have NB131_130 := n6_; clear n0_ n1_ n2_ n3_ n4_ n5_ n6_; clear hb hbox hg; have hnb14 := NB130_131.out; have hnc14 := NB131_130.out; have hcz15_0 : w13.cell? ⟨gb130, 0, none⟩ = some (.int .i64 a0_0) := (blk_cell BK130.out 0).trans rfl; have hcz15_1 : w13.cell? ⟨gb130, 1, none⟩ = some (.int .i64 a0_1) := (blk_cell BK130.out 1).trans rfl; have hcz15_2 : w13.cell? ⟨gb130, 2, none⟩ = some (.int .i64 a0_2) := (blk_cell BK130.out 2).trans rfl; have hcz15_3 : w13.cell? ⟨gb130, 3, none⟩ = some (.slice A0_3 l0_3.length c0_3) := (blk_cell BK130.out 3).trans rfl; have hfz15_0 := blk_frozen BK130.out 0; have hfz15_1 := blk_frozen BK130.out 1; have hfz15_2 := blk_frozen BK130.out 2; have hfz15_3 := blk_frozen BK130.out 3; have hcz16_0 : w13.cell? ⟨gb131, 0, none⟩ = some (.int .i64 a1_0) := (blk_cell BK131.out 0).trans rfl; have hcz16_1 : w13.cell? ⟨gb131, 1, none⟩ = some (.int .i64 a1_1) := (blk_cell BK131.out 1).trans rfl; have hcz16_2 : w13.cell? ⟨gb131, 2, none⟩ = some (.int .i64 a1_2) := (blk_cell BK131.out 2).trans rfl; have hcz16_3 : w13.cell? ⟨gb131, 3, none⟩ = some (.slice A1_3 l1_3.length c1_3) := (blk_cell BK131.out 3).trans rfl; have hfz16_0 := blk_frozen BK131.out 0; have hfz16_1 := blk_frozen BK131.out 1; have hfz16_2 := blk_frozen BK131.out 2; have hfz16_3 := blk_frozen BK131.out 3))
    go_ret
    exact ⟨sq_w, sq_g2 GE130.out GE131.out⟩
  ·rw [if_neg c4] at H
   have c4b0 : (a0_1 == a1_1) = false := beq_eq_false_iff_ne.mpr c4
   have c4b1 : (a0_1 != a1_1) = true := bne_iff_ne.mpr c4
   obtain rfl := Option.some.inj H
   go_enter Try.func94, Try.ntmps94
   go_wp2_with (first | ((with_reducible refine gate_dst (N := 2) rfl ?_); refine box_event sq_0 (N := 2) sq_0 (cs := #[.int .i64 a0_0, .int .i64 a0_1, .int .i64 a0_2, .slice A0_3 l0_3.length c0_3]) (t := 59) sq_h ?_; intro gb130 hg w17 hbox hb; have n0_ := mk_ (below_step sq_b hb); have n1_ := mk_ (hbox); have n2_ := mk_ ((by rw [hg]; exact (below_size sq_b) : w.heap.size ≤ gb130)); have n3_ := mk_ ((by rw [hg]; exact (below_size sq_b) : w.heap.size ≤ gb130)); clear HB; have HB := n0_; have BK130 := n1_; have GW130 := n2_; have GE130 := n3_; clear n0_ n1_ n2_ n3_; clear hb hbox hg) | ((with_reducible refine gate_dst (N := 3) rfl ?_); refine box_event sq_0 (N := 3) sq_0 (cs := #[.int .i64 a1_0, .int .i64 a1_1, .int .i64 a1_2, .slice A1_3 l1_3.length c1_3]) (t := 59) sq_h ?_; intro gb131 hg w18 hbox hb; have n0_ := mk_ (blk_below (g := gb130) (o := .cells #[.int .i64 a0_0, .int .i64 a0_1, .int .i64 a0_2, .slice A0_3 l0_3.length c0_3] 59 (0, 0)) (sq_l BK130) hb); have n1_ := mk_ (below_step (sq_g GE130.out) hb); have n2_ := mk_ (hbox); have n3_ := mk_ ((by rw [hg]; exact (below_size (sq_g GE130.out)) : w.heap.size ≤ gb131)); have n4_ := mk_ ((by rw [hg]; exact (below_size (sq_g GE130.out)) : w.heap.size ≤ gb131)); have n5_ := mk_ ((by rw [hg]; exact Nat.ne_of_lt (blk_lt (g := gb130) (o := .cells #[.int .i64 a0_0, .int .i64 a0_1, .int .i64 a0_2, .slice A0_3 l0_3.length c0_3] 59 (0, 0)) (sq_l BK130)) : gb130 ≠ gb131)); have n6_ := mk_ ((by rw [hg]; exact Nat.ne_of_gt (blk_lt (g := gb130) (o := .cells #[.int .i64 a0_0, .int .i64 a0_1, .int .i64 a0_2, .slice A0_3 l0_3.length c0_3] 59 (0, 0)) (sq_l BK130)) : gb131 ≠ gb130)); clear BK130 HB; have BK130 := n0_; have HB := n1_; have BK131 := n2_; have GW131 := n3_; have GE131 := n4_; have NB130_131 := n5_; have NB131_130 := n6_; clear n0_ n1_ n2_ n3_ n4_ n5_ n6_; clear hb hbox hg; have hnb19 := NB130_131.out; have hnc19 := NB131_130.out; have hcz20_0 : w18.cell? ⟨gb130, 0, none⟩ = some (.int .i64 a0_0) := (blk_cell BK130.out 0).trans rfl; have hcz20_1 : w18.cell? ⟨gb130, 1, none⟩ = some (.int .i64 a0_1) := (blk_cell BK130.out 1).trans rfl; have hcz20_2 : w18.cell? ⟨gb130, 2, none⟩ = some (.int .i64 a0_2) := (blk_cell BK130.out 2).trans rfl; have hcz20_3 : w18.cell? ⟨gb130, 3, none⟩ = some (.slice A0_3 l0_3.length c0_3) := (blk_cell BK130.out 3).trans rfl; have hfz20_0 := blk_frozen BK130.out 0; have hfz20_1 := blk_frozen BK130.out 1; have hfz20_2 := blk_frozen BK130.out 2; have hfz20_3 := blk_frozen BK130.out 3; have hcz21_0 : w18.cell? ⟨gb131, 0, none⟩ = some (.int .i64 a1_0) := (blk_cell BK131.out 0).trans rfl; have hcz21_1 : w18.cell? ⟨gb131, 1, none⟩ = some (.int .i64 a1_1) := (blk_cell BK131.out 1).trans rfl; have hcz21_2 : w18.cell? ⟨gb131, 2, none⟩ = some (.int .i64 a1_2) := (blk_cell BK131.out 2).trans rfl; have hcz21_3 : w18.cell? ⟨gb131, 3, none⟩ = some (.slice A1_3 l1_3.length c1_3) := (blk_cell BK131.out 3).trans rfl; have hfz21_0 := blk_frozen BK131.out 0; have hfz21_1 := blk_frozen BK131.out 1; have hfz21_2 := blk_frozen BK131.out 2; have hfz21_3 := blk_frozen BK131.out 3))
   go_ret
   exact ⟨sq_w, sq_g2 GE130.out GE131.out⟩
 ·rw [if_neg c3] at H
  have c3b0 : (a0_0 == a1_0) = false := beq_eq_false_iff_ne.mpr c3
  have c3b1 : (a0_0 != a1_0) = true := bne_iff_ne.mpr c3
  obtain rfl := Option.some.inj H
  go_enter Try.func94, Try.ntmps94
  go_wp2_with (first | ((with_reducible refine gate_dst (N := 2) rfl ?_); refine box_event sq_0 (N := 2) sq_0 (cs := #[.int .i64 a0_0, .int .i64 a0_1, .int .i64 a0_2, .slice A0_3 l0_3.length c0_3]) (t := 59) sq_h ?_; intro gb130 hg w22 hbox hb; have n0_ := mk_ (below_step sq_b hb); have n1_ := mk_ (hbox); have n2_ := mk_ ((by rw [hg]; exact (below_size sq_b) : w.heap.size ≤ gb130)); have n3_ := mk_ ((by rw [hg]; exact (below_size sq_b) : w.heap.size ≤ gb130)); clear HB; have HB := n0_; have BK130 := n1_; have GW130 := n2_; have GE130 := n3_; clear n0_ n1_ n2_ n3_; clear hb hbox hg) | ((with_reducible refine gate_dst (N := 3) rfl ?_); refine box_event sq_0 (N := 3) sq_0 (cs := #[.int .i64 a1_0, .int .i64 a1_1, .int .i64 a1_2, .slice A1_3 l1_3.length c1_3]) (t := 59) sq_h ?_; intro gb131 hg w23 hbox hb; have n0_ := mk_ (blk_below (g := gb130) (o := .cells #[.int .i64 a0_0, .int .i64 a0_1, .int .i64 a0_2, .slice A0_3 l0_3.length c0_3] 59 (0, 0)) (sq_l BK130) hb); have n1_ := mk_ (below_step (sq_g GE130.out) hb); have n2_ := mk_ (hbox); have n3_ := mk_ ((by rw [hg]; exact (below_size (sq_g GE130.out)) : w.heap.size ≤ gb131)); have n4_ := mk_ ((by rw [hg]; exact (below_size (sq_g GE130.out)) : w.heap.size ≤ gb131)); have n5_ := mk_ ((by rw [hg]; exact Nat.ne_of_lt (blk_lt (g := gb130) (o := .cells #[.int .i64 a0_0, .int .i64 a0_1, .int .i64 a0_2, .slice A0_3 l0_3.length c0_3] 59 (0, 0)) (sq_l BK130)) : gb130 ≠ gb131)); have n6_ := mk_ ((by rw [hg]; exact Nat.ne_of_gt (blk_lt (g := gb130) (o := .cells #[.int .i64 a0_0, .int .i64 a0_1, .int .i64 a0_2, .slice A0_3 l0_3.length c0_3] 59 (0, 0)) (sq_l BK130)) : gb131 ≠ gb130)); clear BK130 HB; have BK130 := n0_; have HB := n1_; have BK131 := n2_; have GW131 := n3_; have GE131 := n4_; have NB130_131 := n5_; have NB131_130 := n6_; clear n0_ n1_ n2_ n3_ n4_ n5_ n6_; clear hb hbox hg; have hnb24 := NB130_131.out; have hnc24 := NB131_130.out; have hcz25_0 : w23.cell? ⟨gb130, 0, none⟩ = some (.int .i64 a0_0) := (blk_cell BK130.out 0).trans rfl; have hcz25_1 : w23.cell? ⟨gb130, 1, none⟩ = some (.int .i64 a0_1) := (blk_cell BK130.out 1).trans rfl; have hcz25_2 : w23.cell? ⟨gb130, 2, none⟩ = some (.int .i64 a0_2) := (blk_cell BK130.out 2).trans rfl; have hcz25_3 : w23.cell? ⟨gb130, 3, none⟩ = some (.slice A0_3 l0_3.length c0_3) := (blk_cell BK130.out 3).trans rfl; have hfz25_0 := blk_frozen BK130.out 0; have hfz25_1 := blk_frozen BK130.out 1; have hfz25_2 := blk_frozen BK130.out 2; have hfz25_3 := blk_frozen BK130.out 3; have hcz26_0 : w23.cell? ⟨gb131, 0, none⟩ = some (.int .i64 a1_0) := (blk_cell BK131.out 0).trans rfl; have hcz26_1 : w23.cell? ⟨gb131, 1, none⟩ = some (.int .i64 a1_1) := (blk_cell BK131.out 1).trans rfl; have hcz26_2 : w23.cell? ⟨gb131, 2, none⟩ = some (.int .i64 a1_2) := (blk_cell BK131.out 2).trans rfl; have hcz26_3 : w23.cell? ⟨gb131, 3, none⟩ = some (.slice A1_3 l1_3.length c1_3) := (blk_cell BK131.out 3).trans rfl; have hfz26_0 := blk_frozen BK131.out 0; have hfz26_1 := blk_frozen BK131.out 1; have hfz26_2 := blk_frozen BK131.out 2; have hfz26_3 := blk_frozen BK131.out 3))
  go_ret
  exact ⟨sq_w, sq_g2 GE130.out GE131.out⟩

/-! ### slices_EqualFunc_impl_Leg__impl_entries_1: function 93 -/
def slices_EqualFunc_impl_Leg__impl_entries_1.l0 : Nat → List (S59) → List (S59) → Int → Int → Option (Bool)
 | 0, _, _, _, _ => none
 | k + 1, x1, x15, x16, x17 => if x17 < x16 then (if 0 ≤ x17 then (if x17 < (x15.length : Int) then (if x17 < (x1.length : Int) then ((impl_entries_1.f k ((rd_T59 x15 x17).f0) ((rd_T59 x15 x17).f1) ((rd_T59 x15 x17).f2) ((rd_T59 x15 x17).f3) ((rd_T59 x1 x17).f0) ((rd_T59 x1 x17).f1) ((rd_T59 x1 x17).f2) ((rd_T59 x1 x17).f3)).bind fun t137 => (if t137 = true then (slices_EqualFunc_impl_Leg__impl_entries_1.l0 k x1 x15 x16 (wrap64 (x17 + 1))) else (some false))) else (none)) else (none)) else (none)) else (some true)
def slices_EqualFunc_impl_Leg__impl_entries_1.f (k : Nat) (l0 : List (S59)) (l1 : List (S59))  : Option (Bool) := if (l0.length : Int) = (l1.length : Int) then (slices_EqualFunc_impl_Leg__impl_entries_1.l0 k l1 l0 (l0.length : Int) 0) else (some false)
theorem slices_EqualFunc_impl_Leg__impl_entries_1.mono_l : ∀ k, (∀ y0 y1 y2 y3, LeO (slices_EqualFunc_impl_Leg__impl_entries_1.l0 k y0 y1 y2 y3) (slices_EqualFunc_impl_Leg__impl_entries_1.l0 (k + 1) y0 y1 y2 y3))
 | 0 => fun _ _ _ _ r h => by simp [slices_EqualFunc_impl_Leg__impl_entries_1.l0] at h
 | k + 1 => by
  have ih0 := slices_EqualFunc_impl_Leg__impl_entries_1.mono_l k
  ·intro y0 y1 y2 y3
   unfold slices_EqualFunc_impl_Leg__impl_entries_1.l0
   repeat' first
   | (with_reducible exact ih0 _ _ _ _)
   | (with_reducible exact impl_entries_1.mono _ _ _ _ _ _ _ _ _)
   | (with_reducible exact LeO.refl _)
   | (with_reducible exact LeO.none _)
   | (with_reducible refine LeO.ite ?_ ?_)
   | (with_reducible refine LeO.bind ?_ (fun _ => ?_))
   | exact ih0 _ _ _ _
   | exact impl_entries_1.mono _ _ _ _ _ _ _ _ _
   | exact LeO.none _
   | refine LeO.ite ?_ ?_
   | refine LeO.bind ?_ (fun _ => ?_)
theorem slices_EqualFunc_impl_Leg__impl_entries_1.mono : ∀ a0 a1 k, LeO (slices_EqualFunc_impl_Leg__impl_entries_1.f k a0 a1) (slices_EqualFunc_impl_Leg__impl_entries_1.f (k + 1) a0 a1) := by
 intro a0 a1 k
 have ih0 := slices_EqualFunc_impl_Leg__impl_entries_1.mono_l k
 unfold slices_EqualFunc_impl_Leg__impl_entries_1.f
 repeat' first
   | (with_reducible exact ih0 _ _ _ _)
   | (with_reducible exact impl_entries_1.mono _ _ _ _ _ _ _ _ _)
   | (with_reducible exact LeO.refl _)
   | (with_reducible exact LeO.none _)
   | (with_reducible refine LeO.ite ?_ ?_)
   | (with_reducible refine LeO.bind ?_ (fun _ => ?_))
   | exact ih0 _ _ _ _
   | exact impl_entries_1.mono _ _ _ _ _ _ _ _ _
   | exact LeO.none _
   | refine LeO.ite ?_ ?_
   | refine LeO.bind ?_ (fun _ => ?_)
set_option maxHeartbeats 8000000 in
set_option maxRecDepth 100000 in
theorem slices_EqualFunc_impl_Leg__impl_entries_1.calls (k : Nat) (A0 : Option Addr) (c0 : Nat) (l0 : List (S59)) (A1 : Option Addr) (c1 : Nat) (l1 : List (S59))  (r : Bool) (w : World) (hr0 : Kd.C k59 w A0 l0.length l0) (hc0 : l0.length ≤ c0) (hr1 : Kd.C k59 w A1 l1.length l1) (hc1 : l1.length ≤ c1) (h : slices_EqualFunc_impl_Leg__impl_entries_1.f k l0 l1 = some r) :
  Calls Try.prog 93 #[.slice A0 l0.length c0, .slice A1 l1.length c1, .func (.func 94) #[] #[]] w fun e w' => e = .returned (.bool r) ∧ Below w.heap.size w w' := by
 have hu59 := Try.underlying59
 have HR0 := mk_ hr0
 have HC0 := mk_ hc0
 clear hr0 hc0
 have HR1 := mk_ hr1
 have HC1 := mk_ hc1
 clear hr1 hc1
 have HB := mk_ (Below.refl w.heap.size w)
 have H : (if (l0.length : Int) = (l1.length : Int) then (slices_EqualFunc_impl_Leg__impl_entries_1.l0 k l1 l0 (l0.length : Int) 0) else (some false)) = some r := h
 clear h
 by_cases c4 : (l0.length : Int) = (l1.length : Int)
 ·rw [if_pos c4] at H
  have c4b0 : ((l0.length : Int) == (l1.length : Int)) = true := beq_iff_eq.mpr c4
  have c4b1 : ((l0.length : Int) != (l1.length : Int)) = false := bne_eq_false_iff_eq.mpr c4
  have c4b2 : (l0.length == l1.length) = true := by first | simpa using c4 | (simp at c4 ⊢; omega)
  clear c4
  have H' := mk_ H
  clear H
  go_enter Try.func93, Try.ntmps93
  go_wp2
  go_loopg [17] k (fun kq v17 w' => ∃ (x17_1 : Int), v17 = .int .i64 x17_1 ∧ Aside0 (slices_EqualFunc_impl_Leg__impl_entries_1.l0 kq l1 l0 (l0.length : Int) x17_1 = some r) ∧ Aside0 (kq ≤ k) ∧ Aside0 (Below w.heap.size w w'))
  case atStart => exact ⟨(0), sq_e, H', ⟨Nat.le_refl _⟩, ⟨sq_b⟩⟩
  case round =>
   clear H'
   (try clear c1); (try clear p2); (try clear c4); (try clear c4b0); (try clear c4b1); (try clear c4b2)
   obtain ⟨x17_1, rfl, HA, HK1, HB⟩ := hrel
   cases gk with
   | zero => exact absurd HA.out (by simp [slices_EqualFunc_impl_Leg__impl_entries_1.l0])
   | succ k1 =>
    have H := HA.out
    clear HA
    simp only [slices_EqualFunc_impl_Leg__impl_entries_1.l0] at H
    by_cases c5 : x17_1 < (l0.length : Int)
    ·rw [if_pos c5] at H
     have c5b0 : decide (x17_1 < (l0.length : Int)) = true := decide_eq_true c5
     clear c5
     by_cases c6 : 0 ≤ x17_1
     rotate_left
     ·rw [if_neg c6] at H
      exact absurd H (by simp)
     rw [if_pos c6] at H
     have c6b0 : decide (0 ≤ x17_1) = true := decide_eq_true c6
     clear c6
     by_cases c7 : x17_1 < (l0.length : Int)
     rotate_left
     ·rw [if_neg c7] at H
      exact absurd H (by simp)
     rw [if_pos c7] at H
     have c7b0 : decide (x17_1 < (l0.length : Int)) = true := decide_eq_true c7
     clear c7
     by_cases c8 : x17_1 < (l1.length : Int)
     rotate_left
     ·rw [if_neg c8] at H
      exact absurd H (by simp)
     rw [if_pos c8] at H
     have c8b0 : decide (x17_1 < (l1.length : Int)) = true := decide_eq_true c8
     clear c8
     replace H := Option.bind_eq_some_iff.mp H
     obtain ⟨t137, A90, H⟩ := H
     replace H : (if t137 = true then (slices_EqualFunc_impl_Leg__impl_entries_1.l0 k1 l1 l0 (l0.length : Int) (wrap64 (x17_1 + 1))) else (some false)) = some r := H
     have A9 := mk_ A90
     clear A90
     by_cases c10 : t137 = true
     ·subst c10
      have H1 : (slices_EqualFunc_impl_Leg__impl_entries_1.l0 k1 l1 l0 (l0.length : Int) (wrap64 (x17_1 + 1))) = some r := by rw [if_pos rfl] at H; exact H
      clear H
      have H := H1
      clear H1
      have H' := mk_ H
      clear H
      have p133 : 0 ≤ (x17_1 : Int) := sq_d
      have q133 : x17_1 < (l0.length : Int) := sq_d
      obtain ⟨ad133, A133_3, c133_3, e133, hx133_0, hx133_1, hx133_2, hx133_3, hl133_3, hi133_3⟩ := at_T59 HR0.out x17_1 p133 q133
      cases e133
      try replace hx133_0 := (HB.out.cell (World.block_lt_of_cell? w _ hx133_0)).trans hx133_0
      try replace hx133_1 := (HB.out.cell (World.block_lt_of_cell? w _ hx133_1)).trans hx133_1
      try replace hx133_2 := (HB.out.cell (World.block_lt_of_cell? w _ hx133_2)).trans hx133_2
      try replace hx133_3 := (HB.out.cell (World.block_lt_of_cell? w _ hx133_3)).trans hx133_3
      have HR133_3 := mk_ hi133_3
      have HC133_3 := mk_ hl133_3
      clear hi133_3 hl133_3
      replace p133 := eq_true p133
      replace q133 := eq_true q133
      go_wp2_with (first | ((with_reducible refine gate_dst (N := 8) rfl ?_); refine box_event sq_0 (N := 8) sq_0 (cs := #[.int .i64 0, .int .i64 0, .int .i64 0, .slice none 0 0]) (t := 59) sq_h ?_; intro gb134 hg w11 hbox hb; have n0_ := mk_ (below_step sq_b hb); have n1_ := mk_ (hbox); have n2_ := mk_ ((by rw [hg]; exact (below_size sq_b) : w.heap.size ≤ gb134)); have n3_ := mk_ ((by rw [hg]; exact (below_size sq_b) : w.heap.size ≤ gb134)); clear HB; have HB := n0_; have BK134 := n1_; have GW134 := n2_; have GE134 := n3_; clear n0_ n1_ n2_ n3_; clear hb hbox hg; have hcz12_0 : w11.cell? ⟨gb134, 0, none⟩ = some (.int .i64 0) := (blk_cell BK134.out 0).trans rfl; have hcz12_1 : w11.cell? ⟨gb134, 1, none⟩ = some (.int .i64 0) := (blk_cell BK134.out 1).trans rfl; have hcz12_2 : w11.cell? ⟨gb134, 2, none⟩ = some (.int .i64 0) := (blk_cell BK134.out 2).trans rfl; have hcz12_3 : w11.cell? ⟨gb134, 3, none⟩ = some (.slice none 0 0) := (blk_cell BK134.out 3).trans rfl; have hfz12_0 := blk_frozen BK134.out 0; have hfz12_1 := blk_frozen BK134.out 1; have hfz12_2 := blk_frozen BK134.out 2; have hfz12_3 := blk_frozen BK134.out 3; have p135 : 0 ≤ (x17_1 : Int) := sq_d; have q135 : x17_1 < (l1.length : Int) := sq_d; obtain ⟨ad135, A135_3, c135_3, e135, hx135_0, hx135_1, hx135_2, hx135_3, hl135_3, hi135_3⟩ := at_T59 HR1.out x17_1 p135 q135; cases e135; have hn135_0 : ad135.block ≠ gb134 := Nat.ne_of_lt (Nat.lt_of_lt_of_le (by have := World.block_lt_of_cell? _ _ hx135_0; first | rwa [add_block] at this | exact this) GW134.out); have hn135_1 : ad135.block ≠ gb134 := Nat.ne_of_lt (Nat.lt_of_lt_of_le (by have := World.block_lt_of_cell? _ _ hx135_0; first | rwa [add_block] at this | exact this) GW134.out); have hn135_2 : ad135.block ≠ gb134 := Nat.ne_of_lt (Nat.lt_of_lt_of_le (by have := World.block_lt_of_cell? _ _ hx135_0; first | rwa [add_block] at this | exact this) GW134.out); have hn135_3 : ad135.block ≠ gb134 := Nat.ne_of_lt (Nat.lt_of_lt_of_le (by have := World.block_lt_of_cell? _ _ hx135_0; first | rwa [add_block] at this | exact this) GW134.out); replace hx135_0 := (HB.out.cell (World.block_lt_of_cell? w _ hx135_0)).trans hx135_0; replace hx135_1 := (HB.out.cell (World.block_lt_of_cell? w _ hx135_1)).trans hx135_1; replace hx135_2 := (HB.out.cell (World.block_lt_of_cell? w _ hx135_2)).trans hx135_2; replace hx135_3 := (HB.out.cell (World.block_lt_of_cell? w _ hx135_3)).trans hx135_3; have HR135_3 := mk_ hi135_3; have HC135_3 := mk_ hl135_3; clear hi135_3 hl135_3; replace hx135_0 := (cell_far (p := ⟨gb134, 0, none⟩) (by first | (rw [add_block]; exact hn135_0) | (show (Addr.add _ _).block ≠ _; rw [add_block]; exact hn135_0) | exact hn135_0) (.int .i64 ((rd_T59 l0 x17_1).f0))).trans hx135_0; replace hx135_1 := (cell_far (p := ⟨gb134, 0, none⟩) (by first | (rw [add_block]; exact hn135_0) | (show (Addr.add _ _).block ≠ _; rw [add_block]; exact hn135_0) | exact hn135_0) (.int .i64 ((rd_T59 l0 x17_1).f0))).trans hx135_1; replace hx135_2 := (cell_far (p := ⟨gb134, 0, none⟩) (by first | (rw [add_block]; exact hn135_0) | (show (Addr.add _ _).block ≠ _; rw [add_block]; exact hn135_0) | exact hn135_0) (.int .i64 ((rd_T59 l0 x17_1).f0))).trans hx135_2; replace hx135_3 := (cell_far (p := ⟨gb134, 0, none⟩) (by first | (rw [add_block]; exact hn135_0) | (show (Addr.add _ _).block ≠ _; rw [add_block]; exact hn135_0) | exact hn135_0) (.int .i64 ((rd_T59 l0 x17_1).f0))).trans hx135_3; replace hx135_0 := (cell_far (p := ⟨gb134, 1, none⟩) (by first | (rw [add_block]; exact hn135_1) | (show (Addr.add _ _).block ≠ _; rw [add_block]; exact hn135_1) | exact hn135_1) (.int .i64 ((rd_T59 l0 x17_1).f1))).trans hx135_0; replace hx135_1 := (cell_far (p := ⟨gb134, 1, none⟩) (by first | (rw [add_block]; exact hn135_1) | (show (Addr.add _ _).block ≠ _; rw [add_block]; exact hn135_1) | exact hn135_1) (.int .i64 ((rd_T59 l0 x17_1).f1))).trans hx135_1; replace hx135_2 := (cell_far (p := ⟨gb134, 1, none⟩) (by first | (rw [add_block]; exact hn135_1) | (show (Addr.add _ _).block ≠ _; rw [add_block]; exact hn135_1) | exact hn135_1) (.int .i64 ((rd_T59 l0 x17_1).f1))).trans hx135_2; replace hx135_3 := (cell_far (p := ⟨gb134, 1, none⟩) (by first | (rw [add_block]; exact hn135_1) | (show (Addr.add _ _).block ≠ _; rw [add_block]; exact hn135_1) | exact hn135_1) (.int .i64 ((rd_T59 l0 x17_1).f1))).trans hx135_3; replace hx135_0 := (cell_far (p := ⟨gb134, 2, none⟩) (by first | (rw [add_block]; exact hn135_2) | (show (Addr.add _ _).block ≠ _; rw [add_block]; exact hn135_2) | exact hn135_2) (.int .i64 ((rd_T59 l0 x17_1).f2))).trans hx135_0; replace hx135_1 := (cell_far (p := ⟨gb134, 2, none⟩) (by first | (rw [add_block]; exact hn135_2) | (show (Addr.add _ _).block ≠ _; rw [add_block]; exact hn135_2) | exact hn135_2) (.int .i64 ((rd_T59 l0 x17_1).f2))).trans hx135_1; replace hx135_2 := (cell_far (p := ⟨gb134, 2, none⟩) (by first | (rw [add_block]; exact hn135_2) | (show (Addr.add _ _).block ≠ _; rw [add_block]; exact hn135_2) | exact hn135_2) (.int .i64 ((rd_T59 l0 x17_1).f2))).trans hx135_2; replace hx135_3 := (cell_far (p := ⟨gb134, 2, none⟩) (by first | (rw [add_block]; exact hn135_2) | (show (Addr.add _ _).block ≠ _; rw [add_block]; exact hn135_2) | exact hn135_2) (.int .i64 ((rd_T59 l0 x17_1).f2))).trans hx135_3; replace hx135_0 := (cell_far (p := ⟨gb134, 3, none⟩) (by first | (rw [add_block]; exact hn135_3) | (show (Addr.add _ _).block ≠ _; rw [add_block]; exact hn135_3) | exact hn135_3) (.slice A133_3 ((rd_T59 l0 x17_1).f3).length c133_3)).trans hx135_0; replace hx135_1 := (cell_far (p := ⟨gb134, 3, none⟩) (by first | (rw [add_block]; exact hn135_3) | (show (Addr.add _ _).block ≠ _; rw [add_block]; exact hn135_3) | exact hn135_3) (.slice A133_3 ((rd_T59 l0 x17_1).f3).length c133_3)).trans hx135_1; replace hx135_2 := (cell_far (p := ⟨gb134, 3, none⟩) (by first | (rw [add_block]; exact hn135_3) | (show (Addr.add _ _).block ≠ _; rw [add_block]; exact hn135_3) | exact hn135_3) (.slice A133_3 ((rd_T59 l0 x17_1).f3).length c133_3)).trans hx135_2; replace hx135_3 := (cell_far (p := ⟨gb134, 3, none⟩) (by first | (rw [add_block]; exact hn135_3) | (show (Addr.add _ _).block ≠ _; rw [add_block]; exact hn135_3) | exact hn135_3) (.slice A133_3 ((rd_T59 l0 x17_1).f3).length c133_3)).trans hx135_3; clear hn135_0 hn135_1 hn135_2 hn135_3; replace p135 := eq_true p135; replace q135 := eq_true q135) | ((with_reducible refine gate_dst (N := 9) rfl ?_); refine box_event sq_0 (N := 9) sq_0 (cs := #[.int .i64 0, .int .i64 0, .int .i64 0, .slice none 0 0]) (t := 59) sq_h ?_; intro gb136 hg w13 hbox hb; have n0_ := mk_ (blk_below (g := gb134) (o := .cells #[.int .i64 ((rd_T59 l0 x17_1).f0), .int .i64 ((rd_T59 l0 x17_1).f1), .int .i64 ((rd_T59 l0 x17_1).f2), .slice A133_3 ((rd_T59 l0 x17_1).f3).length c133_3] 59 (0, 0)) (by (with_reducible repeat (first | refine blk_drewN ?_ _ | refine blk_drew ?_ | refine blk_alloc ?_ _)); refine blk_put (cs := #[.int .i64 ((rd_T59 l0 x17_1).f0), .int .i64 ((rd_T59 l0 x17_1).f1), .int .i64 ((rd_T59 l0 x17_1).f2), .slice none 0 0]) ?_ 3 _ rfl; (with_reducible repeat (first | refine blk_drewN ?_ _ | refine blk_drew ?_ | refine blk_alloc ?_ _)); refine blk_put (cs := #[.int .i64 ((rd_T59 l0 x17_1).f0), .int .i64 ((rd_T59 l0 x17_1).f1), .int .i64 0, .slice none 0 0]) ?_ 2 _ rfl; (with_reducible repeat (first | refine blk_drewN ?_ _ | refine blk_drew ?_ | refine blk_alloc ?_ _)); refine blk_put (cs := #[.int .i64 ((rd_T59 l0 x17_1).f0), .int .i64 0, .int .i64 0, .slice none 0 0]) ?_ 1 _ rfl; (with_reducible repeat (first | refine blk_drewN ?_ _ | refine blk_drew ?_ | refine blk_alloc ?_ _)); refine blk_put (cs := #[.int .i64 0, .int .i64 0, .int .i64 0, .slice none 0 0]) ?_ 0 _ rfl; (with_reducible repeat (first | refine blk_drewN ?_ _ | refine blk_drew ?_ | refine blk_alloc ?_ _)); exact BK134.out) hb); have n1_ := mk_ (below_step (sq_g GE134.out) hb); have n2_ := mk_ (hbox); have n3_ := mk_ ((by rw [hg]; exact (below_size (sq_g GE134.out)) : w.heap.size ≤ gb136)); have n4_ := mk_ ((by rw [hg]; exact (below_size (sq_g GE134.out)) : w.heap.size ≤ gb136)); have n5_ := mk_ ((by rw [hg]; exact Nat.ne_of_lt (blk_lt (g := gb134) (o := .cells #[.int .i64 ((rd_T59 l0 x17_1).f0), .int .i64 ((rd_T59 l0 x17_1).f1), .int .i64 ((rd_T59 l0 x17_1).f2), .slice A133_3 ((rd_T59 l0 x17_1).f3).length c133_3] 59 (0, 0)) (by (with_reducible repeat (first | refine blk_drewN ?_ _ | refine blk_drew ?_ | refine blk_alloc ?_ _)); refine blk_put (cs := #[.int .i64 ((rd_T59 l0 x17_1).f0), .int .i64 ((rd_T59 l0 x17_1).f1), .int .i64 ((rd_T59 l0 x17_1).f2), .slice none 0 0]) ?_ 3 _ rfl; (with_reducible repeat (first | refine blk_drewN ?_ _ | refine blk_drew ?_ | refine blk_alloc ?_ _)); refine blk_put (cs := #[.int .i64 ((rd_T59 l0 x17_1).f0), .int .i64 ((rd_T59 l0 x17_1).f1), .int .i64 0, .slice none 0 0]) ?_ 2 _ rfl; (with_reducible repeat (first | refine blk_drewN ?_ _ | refine blk_drew ?_ | refine blk_alloc ?_ _)); refine blk_put (cs := #[.int .i64 ((rd_T59 l0 x17_1).f0), .int .i64 0, .int .i64 0, .slice none 0 0]) ?_ 1 _ rfl; (with_reducible repeat (first | refine blk_drewN ?_ _ | refine blk_drew ?_ | refine blk_alloc ?_ _)); refine blk_put (cs := #[.int .i64 0, .int .i64 0, .int .i64 0, .slice none 0 0]) ?_ 0 _ rfl; (with_reducible repeat (first | refine blk_drewN ?_ _ | refine blk_drew ?_ | refine blk_alloc ?_ _)); exact BK134.out)) : gb134 ≠ gb136)); have n6_ := mk_ ((by rw [hg]; exact Nat.ne_of_gt (blk_lt (g := gb134) (o := .cells #[.int .i64 ((rd_T59 l0 x17_1).f0), .int .i64 ((rd_T59 l0 x17_1).f1), .int .i64 ((rd_T59 l0 x17_1).f2), .slice A133_3 ((rd_T59 l0 x17_1).f3).length c133_3] 59 (0, 0)) (by (with_reducible repeat (first | refine blk_drewN ?_ _ | refine blk_drew ?_ | refine blk_alloc ?_ _)); refine blk_put (cs := #[.int .i64 ((rd_T59 l0 x17_1).f0), .int .i64 ((rd_T59 l0 x17_1).f1), .int .i64 ((rd_T59 l0 x17_1).f2), .slice none 0 0]) ?_ 3 _ rfl; (with_reducible repeat (first | refine blk_drewN ?_ _ | refine blk_drew ?_ | refine blk_alloc ?_ _)); refine blk_put (cs := #[.int .i64 ((rd_T59 l0 x17_1).f0), .int .i64 ((rd_T59 l0 x17_1).f1), .int .i64 0, .slice none 0 0]) ?_ 2 _ rfl; (with_reducible repeat (first | refine blk_drewN ?_ _ | refine blk_drew ?_ | refine blk_alloc ?_ _)); refine blk_put (cs := #[.int .i64 ((rd_T59 l0 x17_1).f0), .int .i64 0, .int .i64 0, .slice none 0 0]) ?_ 1 _ rfl; (with_reducible repeat (first | refine blk_drewN ?_ _ | refine blk_drew ?_ | refine blk_alloc ?_ _)); refine blk_put (cs := #[.int .i64 0, .int .i64 0, .int .i64 0, .slice none 0 0]) ?_ 0 _ rfl; (with_reducible repeat (first | refine blk_drewN ?_ _ | refine blk_drew ?_ | refine blk_alloc ?_ _)); exact BK134.out)) : gb136 ≠ gb134)); clear BK134 HB; have BK134 := n0_; have HB := n1_; have BK136 := n2_; have GW136 := n3_; have GE136 := n4_; have NB134_136 := n5_; have NB136_134 := n6_; clear n0_ n1_ n2_ n3_ n4_ n5_ n6_; clear hb hbox hg; have hnb14 := NB136_134.out; have hnc14 := NB134_136.out; have hcz15_0 : w13.cell? ⟨gb136, 0, none⟩ = some (.int .i64 0) := (blk_cell BK136.out 0).trans rfl; have hcz15_1 : w13.cell? ⟨gb136, 1, none⟩ = some (.int .i64 0) := (blk_cell BK136.out 1).trans rfl; have hcz15_2 : w13.cell? ⟨gb136, 2, none⟩ = some (.int .i64 0) := (blk_cell BK136.out 2).trans rfl; have hcz15_3 : w13.cell? ⟨gb136, 3, none⟩ = some (.slice none 0 0) := (blk_cell BK136.out 3).trans rfl; have hfz15_0 := blk_frozen BK136.out 0; have hfz15_1 := blk_frozen BK136.out 1; have hfz15_2 := blk_frozen BK136.out 2; have hfz15_3 := blk_frozen BK136.out 3; have hcz16_0 : w13.cell? ⟨gb134, 0, none⟩ = some (.int .i64 ((rd_T59 l0 x17_1).f0)) := (blk_cell BK134.out 0).trans rfl; have hcz16_1 : w13.cell? ⟨gb134, 1, none⟩ = some (.int .i64 ((rd_T59 l0 x17_1).f1)) := (blk_cell BK134.out 1).trans rfl; have hcz16_2 : w13.cell? ⟨gb134, 2, none⟩ = some (.int .i64 ((rd_T59 l0 x17_1).f2)) := (blk_cell BK134.out 2).trans rfl; have hcz16_3 : w13.cell? ⟨gb134, 3, none⟩ = some (.slice A133_3 ((rd_T59 l0 x17_1).f3).length c133_3) := (blk_cell BK134.out 3).trans rfl; have hfz16_0 := blk_frozen BK134.out 0; have hfz16_1 := blk_frozen BK134.out 1; have hfz16_2 := blk_frozen BK134.out 2; have hfz16_3 := blk_frozen BK134.out 3) | (go_at_call 94; (with_reducible refine (impl_entries_1.calls k1 ((rd_T59 l0 x17_1).f0) ((rd_T59 l0 x17_1).f1) ((rd_T59 l0 x17_1).f2) _ _ ((rd_T59 l0 x17_1).f3) ((rd_T59 l1 x17_1).f0) ((rd_T59 l1 x17_1).f1) ((rd_T59 l1 x17_1).f2) _ _ ((rd_T59 l1 x17_1).f3) true _ ?side1 ?side2 ?side3 ?side4 A9.out).mono ?_); (case side1 => exact Kd.C_below HR133_3.out (sq_g2 GE134.out GE136.out)); (case side2 => exact HC133_3.out); (case side3 => exact Kd.C_below HR135_3.out (sq_g2 GE134.out GE136.out)); (case side4 => exact HC135_3.out); rintro e w17 ⟨rfl, hb⟩; have n0_ := mk_ (blk_below (g := gb134) (o := .cells #[.int .i64 ((rd_T59 l0 x17_1).f0), .int .i64 ((rd_T59 l0 x17_1).f1), .int .i64 ((rd_T59 l0 x17_1).f2), .slice A133_3 ((rd_T59 l0 x17_1).f3).length c133_3] 59 (0, 0)) (by (with_reducible repeat (first | refine blk_drewN ?_ _ | refine blk_drew ?_ | refine blk_alloc ?_ _)); refine blk_far ?_ NB134_136.out _; (with_reducible repeat (first | refine blk_drewN ?_ _ | refine blk_drew ?_ | refine blk_alloc ?_ _)); refine blk_far ?_ NB134_136.out _; (with_reducible repeat (first | refine blk_drewN ?_ _ | refine blk_drew ?_ | refine blk_alloc ?_ _)); refine blk_far ?_ NB134_136.out _; (with_reducible repeat (first | refine blk_drewN ?_ _ | refine blk_drew ?_ | refine blk_alloc ?_ _)); refine blk_far ?_ NB134_136.out _; (with_reducible repeat (first | refine blk_drewN ?_ _ | refine blk_drew ?_ | refine blk_alloc ?_ _)); exact BK134.out) hb); have n1_ := mk_ (blk_below (g := gb136) (o := .cells #[.int .i64 ((rd_T59 l1 x17_1).f0), .int .i64 ((rd_T59 l1 x17_1).f1), .int .i64 ((rd_T59 l1 x17_1).f2), .slice A135_3 ((rd_T59 l1 x17_1).f3).length c135_3] 59 (0, 0)) (by (with_reducible repeat (first | refine blk_drewN ?_ _ | refine blk_drew ?_ | refine blk_alloc ?_ _)); refine blk_put (cs := #[.int .i64 ((rd_T59 l1 x17_1).f0), .int .i64 ((rd_T59 l1 x17_1).f1), .int .i64 ((rd_T59 l1 x17_1).f2), .slice none 0 0]) ?_ 3 _ rfl; (with_reducible repeat (first | refine blk_drewN ?_ _ | refine blk_drew ?_ | refine blk_alloc ?_ _)); refine blk_put (cs := #[.int .i64 ((rd_T59 l1 x17_1).f0), .int .i64 ((rd_T59 l1 x17_1).f1), .int .i64 0, .slice none 0 0]) ?_ 2 _ rfl; (with_reducible repeat (first | refine blk_drewN ?_ _ | refine blk_drew ?_ | refine blk_alloc ?_ _)); refine blk_put (cs := #[.int .i64 ((rd_T59 l1 x17_1).f0), .int .i64 0, .int .i64 0, .slice none 0 0]) ?_ 1 _ rfl; (with_reducible repeat (first | refine blk_drewN ?_ _ | refine blk_drew ?_ | refine blk_alloc ?_ _)); refine blk_put (cs := #[.int .i64 0, .int .i64 0, .int .i64 0, .slice none 0 0]) ?_ 0 _ rfl; (with_reducible repeat (first | refine blk_drewN ?_ _ | refine blk_drew ?_ | refine blk_alloc ?_ _)); exact BK136.out) hb); have n2_ := mk_ (below_step (sq_g2 GE134.out GE136.out) hb); clear BK134 BK136 HB; have BK134 := n0_; have BK136 := n1_; have HB := n2_; clear n0_ n1_ n2_; (try clear hb)))
      go_roundg k1
      case measure => have := HK1.out; omega
      case rel => exact ⟨(wrap64 (x17_1 + 1)), sq_e, H', ⟨by have := HK1.out; omega⟩, ⟨sq_g2 GE134.out GE136.out⟩⟩
     ·replace c10 := Bool.eq_false_iff.mpr c10
      subst c10
      have H1 : (some false) = some r := by rw [if_neg (show ¬ (false = true) by decide)] at H; exact H
      clear H
      have H := H1
      clear H1
      obtain rfl := Option.some.inj H
      have p133 : 0 ≤ (x17_1 : Int) := sq_d
      have q133 : x17_1 < (l0.length : Int) := sq_d
      obtain ⟨ad133, A133_3, c133_3, e133, hx133_0, hx133_1, hx133_2, hx133_3, hl133_3, hi133_3⟩ := at_T59 HR0.out x17_1 p133 q133
      cases e133
      try replace hx133_0 := (HB.out.cell (World.block_lt_of_cell? w _ hx133_0)).trans hx133_0
      try replace hx133_1 := (HB.out.cell (World.block_lt_of_cell? w _ hx133_1)).trans hx133_1
      try replace hx133_2 := (HB.out.cell (World.block_lt_of_cell? w _ hx133_2)).trans hx133_2
      try replace hx133_3 := (HB.out.cell (World.block_lt_of_cell? w _ hx133_3)).trans hx133_3
      have HR133_3 := mk_ hi133_3
      have HC133_3 := mk_ hl133_3
      clear hi133_3 hl133_3
      replace p133 := eq_true p133
      replace q133 := eq_true q133
      go_wp2_with (first | ((with_reducible refine gate_dst (N := 8) rfl ?_); refine box_event sq_0 (N := 8) sq_0 (cs := #[.int .i64 0, .int .i64 0, .int .i64 0, .slice none 0 0]) (t := 59) sq_h ?_; intro gb134 hg w18 hbox hb; have n0_ := mk_ (below_step sq_b hb); have n1_ := mk_ (hbox); have n2_ := mk_ ((by rw [hg]; exact (below_size sq_b) : w.heap.size ≤ gb134)); have n3_ := mk_ ((by rw [hg]; exact (below_size sq_b) : w.heap.size ≤ gb134)); clear HB; have HB := n0_; have BK134 := n1_; have GW134 := n2_; have GE134 := n3_; clear n0_ n1_ n2_ n3_; clear hb hbox hg; have hcz19_0 : w18.cell? ⟨gb134, 0, none⟩ = some (.int .i64 0) := (blk_cell BK134.out 0).trans rfl; have hcz19_1 : w18.cell? ⟨gb134, 1, none⟩ = some (.int .i64 0) := (blk_cell BK134.out 1).trans rfl; have hcz19_2 : w18.cell? ⟨gb134, 2, none⟩ = some (.int .i64 0) := (blk_cell BK134.out 2).trans rfl; have hcz19_3 : w18.cell? ⟨gb134, 3, none⟩ = some (.slice none 0 0) := (blk_cell BK134.out 3).trans rfl; have hfz19_0 := blk_frozen BK134.out 0; have hfz19_1 := blk_frozen BK134.out 1; have hfz19_2 := blk_frozen BK134.out 2; have hfz19_3 := blk_frozen BK134.out 3; have p135 : 0 ≤ (x17_1 : Int) := sq_d; have q135 : x17_1 < (l1.length : Int) := sq_d; obtain ⟨ad135, A135_3, c135_3, e135, hx135_0, hx135_1, hx135_2, hx135_3, hl135_3, hi135_3⟩ := at_T59 HR1.out x17_1 p135 q135; cases e135; have hn135_0 : ad135.block ≠ gb134 := Nat.ne_of_lt (Nat.lt_of_lt_of_le (by have := World.block_lt_of_cell? _ _ hx135_0; first | rwa [add_block] at this | exact this) GW134.out); have hn135_1 : ad135.block ≠ gb134 := Nat.ne_of_lt (Nat.lt_of_lt_of_le (by have := World.block_lt_of_cell? _ _ hx135_0; first | rwa [add_block] at this | exact this) GW134.out); have hn135_2 : ad135.block ≠ gb134 := Nat.ne_of_lt (Nat.lt_of_lt_of_le (by have := World.block_lt_of_cell? _ _ hx135_0; first | rwa [add_block] at this | exact this) GW134.out); have hn135_3 : ad135.block ≠ gb134 := Nat.ne_of_lt (Nat.lt_of_lt_of_le (by have := World.block_lt_of_cell? _ _ hx135_0; first | rwa [add_block] at this | exact this) GW134.out); replace hx135_0 := (HB.out.cell (World.block_lt_of_cell? w _ hx135_0)).trans hx135_0; replace hx135_1 := (HB.out.cell (World.block_lt_of_cell? w _ hx135_1)).trans hx135_1; replace hx135_2 := (HB.out.cell (World.block_lt_of_cell? w _ hx135_2)).trans hx135_2; replace hx135_3 := (HB.out.cell (World.block_lt_of_cell? w _ hx135_3)).trans hx135_3; have HR135_3 := mk_ hi135_3; have HC135_3 := mk_ hl135_3; clear hi135_3 hl135_3; replace hx135_0 := (cell_far (p := ⟨gb134, 0, none⟩) (by first | (rw [add_block]; exact hn135_0) | (show (Addr.add _ _).block ≠ _; rw [add_block]; exact hn135_0) | exact hn135_0) (.int .i64 ((rd_T59 l0 x17_1).f0))).trans hx135_0; replace hx135_1 := (cell_far (p := ⟨gb134, 0, none⟩) (by first | (rw [add_block]; exact hn135_0) | (show (Addr.add _ _).block ≠ _; rw [add_block]; exact hn135_0) | exact hn135_0) (.int .i64 ((rd_T59 l0 x17_1).f0))).trans hx135_1; replace hx135_2 := (cell_far (p := ⟨gb134, 0, none⟩) (by first | (rw [add_block]; exact hn135_0) | (show (Addr.add _ _).block ≠ _; rw [add_block]; exact hn135_0) | exact hn135_0) (.int .i64 ((rd_T59 l0 x17_1).f0))).trans hx135_2; replace hx135_3 := (cell_far (p := ⟨gb134, 0, none⟩) (by first | (rw [add_block]; exact hn135_0) | (show (Addr.add _ _).block ≠ _; rw [add_block]; exact hn135_0) | exact hn135_0) (.int .i64 ((rd_T59 l0 x17_1).f0))).trans hx135_3; replace hx135_0 := (cell_far (p := ⟨gb134, 1, none⟩) (by first | (rw [add_block]; exact hn135_1) | (show (Addr.add _ _).block ≠ _; rw [add_block]; exact hn135_1) | exact hn135_1) (.int .i64 ((rd_T59 l0 x17_1).f1))).trans hx135_0; replace hx135_1 := (cell_far (p := ⟨gb134, 1, none⟩) (by first | (rw [add_block]; exact hn135_1) | (show (Addr.add _ _).block ≠ _; rw [add_block]; exact hn135_1) | exact hn135_1) (.int .i64 ((rd_T59 l0 x17_1).f1))).trans hx135_1; replace hx135_2 := (cell_far (p := ⟨gb134, 1, none⟩) (by first | (rw [add_block]; exact hn135_1) | (show (Addr.add _ _).block ≠ _; rw [add_block]; exact hn135_1) | exact hn135_1) (.int .i64 ((rd_T59 l0 x17_1).f1))).trans hx135_2; replace hx135_3 := (cell_far (p := ⟨gb134, 1, none⟩) (by first | (rw [add_block]; exact hn135_1) | (show (Addr.add _ _).block ≠ _; rw [add_block]; exact hn135_1) | exact hn135_1) (.int .i64 ((rd_T59 l0 x17_1).f1))).trans hx135_3; replace hx135_0 := (cell_far (p := ⟨gb134, 2, none⟩) (by first | (rw [add_block]; exact hn135_2) | (show (Addr.add _ _).block ≠ _; rw [add_block]; exact hn135_2) | exact hn135_2) (.int .i64 ((rd_T59 l0 x17_1).f2))).trans hx135_0; replace hx135_1 := (cell_far (p := ⟨gb134, 2, none⟩) (by first | (rw [add_block]; exact hn135_2) | (show (Addr.add _ _).block ≠ _; rw [add_block]; exact hn135_2) | exact hn135_2) (.int .i64 ((rd_T59 l0 x17_1).f2))).trans hx135_1; replace hx135_2 := (cell_far (p := ⟨gb134, 2, none⟩) (by first | (rw [add_block]; exact hn135_2) | (show (Addr.add _ _).block ≠ _; rw [add_block]; exact hn135_2) | exact hn135_2) (.int .i64 ((rd_T59 l0 x17_1).f2))).trans hx135_2; replace hx135_3 := (cell_far (p := ⟨gb134, 2, none⟩) (by first | (rw [add_block]; exact hn135_2) | (show (Addr.add _ _).block ≠ _; rw [add_block]; exact hn135_2) | exact hn135_2) (.int .i64 ((rd_T59 l0 x17_1).f2))).trans hx135_3; replace hx135_0 := (cell_far (p := ⟨gb134, 3, none⟩) (by first | (rw [add_block]; exact hn135_3) | (show (Addr.add _ _).block ≠ _; rw [add_block]; exact hn135_3) | exact hn135_3) (.slice A133_3 ((rd_T59 l0 x17_1).f3).length c133_3)).trans hx135_0; replace hx135_1 := (cell_far (p := ⟨gb134, 3, none⟩) (by first | (rw [add_block]; exact hn135_3) | (show (Addr.add _ _).block ≠ _; rw [add_block]; exact hn135_3) | exact hn135_3) (.slice A133_3 ((rd_T59 l0 x17_1).f3).length c133_3)).trans hx135_1; replace hx135_2 := (cell_far (p := ⟨gb134, 3, none⟩) (by first | (rw [add_block]; exact hn135_3) | (show (Addr.add _ _).block ≠ _; rw [add_block]; exact hn135_3) | exact hn135_3) (.slice A133_3 ((rd_T59 l0 x17_1).f3).length c133_3)).trans hx135_2; replace hx135_3 := (cell_far (p := ⟨gb134, 3, none⟩) (by first | (rw [add_block]; exact hn135_3) | (show (Addr.add _ _).block ≠ _; rw [add_block]; exact hn135_3) | exact hn135_3) (.slice A133_3 ((rd_T59 l0 x17_1).f3).length c133_3)).trans hx135_3; clear hn135_0 hn135_1 hn135_2 hn135_3; replace p135 := eq_true p135; replace q135 := eq_true q135) | ((with_reducible refine gate_dst (N := 9) rfl ?_); refine box_event sq_0 (N := 9) sq_0 (cs := #[.int .i64 0, .int .i64 0, .int .i64 0, .slice none 0 0]) (t := 59) sq_h ?_; intro gb136 hg w20 hbox hb; have n0_ := mk_ (blk_below (g := gb134) (o := .cells #[.int .i64 ((rd_T59 l0 x17_1).f0), .int .i64 ((rd_T59 l0 x17_1).f1), .int .i64 ((rd_T59 l0 x17_1).f2), .slice A133_3 ((rd_T59 l0 x17_1).f3).length c133_3] 59 (0, 0)) (by (with_reducible repeat (first | refine blk_drewN ?_ _ | refine blk_drew ?_ | refine blk_alloc ?_ _)); refine blk_put (cs := #[.int .i64 ((rd_T59 l0 x17_1).f0), .int .i64 ((rd_T59 l0 x17_1).f1), .int .i64 ((rd_T59 l0 x17_1).f2), .slice none 0 0]) ?_ 3 _ rfl; (with_reducible repeat (first | refine blk_drewN ?_ _ | refine blk_drew ?_ | refine blk_alloc ?_ _)); refine blk_put (cs := #[.int .i64 ((rd_T59 l0 x17_1).f0), .int .i64 ((rd_T59 l0 x17_1).f1), .int .i64 0, .slice none 0 0]) ?_ 2 _ rfl; (with_reducible repeat (first | refine blk_drewN ?_ _ | refine blk_drew ?_ | refine blk_alloc ?_ _)); refine blk_put (cs := #[.int .i64 ((rd_T59 l0 x17_1).f0), .int .i64 0, .int .i64 0, .slice none 0 0]) ?_ 1 _ rfl; (with_reducible repeat (first | refine blk_drewN ?_ _ | refine blk_drew ?_ | refine blk_alloc ?_ _)); refine blk_put (cs := #[.int .i64 0, .int .i64 0, .int .i64 0, .slice none 0 0]) ?_ 0 _ rfl; (with_reducible repeat (first | refine blk_drewN ?_ _ | refine blk_drew ?_ | refine blk_alloc ?_ _)); exact BK134.out) hb); have n1_ := mk_ (below_step (sq_g GE134.out) hb); have n2_ := mk_ (hbox); have n3_ := mk_ ((by rw [hg]; exact (below_size (sq_g GE134.out)) : w.heap.size ≤ gb136)); have n4_ := mk_ ((by rw [hg]; exact (below_size (sq_g GE134.out)) : w.heap.size ≤ gb136)); have n5_ := mk_ ((by rw [hg]; exact Nat.ne_of_lt (blk_lt (g := gb134) (o := .cells #[.int .i64 ((rd_T59 l0 x17_1).f0), .int .i64 ((rd_T59 l0 x17_1).f1), .int .i64 ((rd_T59 l0 x17_1).f2), .slice A133_3 ((rd_T59 l0 x17_1).f3).length c133_3] 59 (0, 0)) (by (with_reducible repeat (first | refine blk_drewN ?_ _ | refine blk_drew ?_ | refine blk_alloc ?_ _)); refine blk_put (cs := #[.int .i64 ((rd_T59 l0 x17_1).f0), .int .i64 ((rd_T59 l0 x17_1).f1), .int .i64 ((rd_T59 l0 x17_1).f2), .slice none 0 0]) ?_ 3 _ rfl; (with_reducible repeat (first | refine blk_drewN ?_ _ | refine blk_drew ?_ | refine blk_alloc ?_ _)); refine blk_put (cs := #[.int .i64 ((rd_T59 l0 x17_1).f0), .int .i64 ((rd_T59 l0 x17_1).f1), .int .i64 0, .slice none 0 0]) ?_ 2 _ rfl; (with_reducible repeat (first | refine blk_drewN ?_ _ | refine blk_drew ?_ | refine blk_alloc ?_ _)); refine blk_put (cs := #[.int .i64 ((rd_T59 l0 x17_1).f0), .int .i64 0, .int .i64 0, .slice none 0 0]) ?_ 1 _ rfl; (with_reducible repeat (first | refine blk_drewN ?_ _ | refine blk_drew ?_ | refine blk_alloc ?_ _)); refine blk_put (cs := #[.int .i64 0, .int .i64 0, .int .i64 0, .slice none 0 0]) ?_ 0 _ rfl; (with_reducible repeat (first | refine blk_drewN ?_ _ | refine blk_drew ?_ | refine blk_alloc ?_ _)); exact BK134.out)) : gb134 ≠ gb136)); have n6_ := mk_ ((by rw [hg]; exact Nat.ne_of_gt (blk_lt (g := gb134) (o := .cells #[.int .i64 ((rd_T59 l0 x17_1).f0), .int .i64 ((rd_T59 l0 x17_1).f1), .int .i64 ((rd_T59 l0 x17_1).f2), .slice A133_3 ((rd_T59 l0 x17_1).f3).length c133_3] 59 (0, 0)) (by (with_reducible repeat (first | refine blk_drewN ?_ _ | refine blk_drew ?_ | refine blk_alloc ?_ _)); refine blk_put (cs := #[.int .i64 ((rd_T59 l0 x17_1).f0), .int .i64 ((rd_T59 l0 x17_1).f1), .int .i64 ((rd_T59 l0 x17_1).f2), .slice none 0 0]) ?_ 3 _ rfl; (with_reducible repeat (first | refine blk_drewN ?_ _ | refine blk_drew ?_ | refine blk_alloc ?_ _)); refine blk_put (cs := #[.int .i64 ((rd_T59 l0 x17_1).f0), .int .i64 ((rd_T59 l0 x17_1).f1), .int .i64 0, .slice none 0 0]) ?_ 2 _ rfl; (with_reducible repeat (first | refine blk_drewN ?_ _ | refine blk_drew ?_ | refine blk_alloc ?_ _)); refine blk_put (cs := #[.int .i64 ((rd_T59 l0 x17_1).f0), .int .i64 0, .int .i64 0, .slice none 0 0]) ?_ 1 _ rfl; (with_reducible repeat (first | refine blk_drewN ?_ _ | refine blk_drew ?_ | refine blk_alloc ?_ _)); refine blk_put (cs := #[.int .i64 0, .int .i64 0, .int .i64 0, .slice none 0 0]) ?_ 0 _ rfl; (with_reducible repeat (first | refine blk_drewN ?_ _ | refine blk_drew ?_ | refine blk_alloc ?_ _)); exact BK134.out)) : gb136 ≠ gb134)); clear BK134 HB; have BK134 := n0_; have HB := n1_; have BK136 := n2_; have GW136 := n3_; have GE136 := n4_; have NB134_136 := n5_; have NB136_134 := n6_; clear n0_ n1_ n2_ n3_ n4_ n5_ n6_; clear hb hbox hg; have hnb21 := NB136_134.out; have hnc21 := NB134_136.out; have hcz22_0 : w20.cell? ⟨gb136, 0, none⟩ = some (.int .i64 0) := (blk_cell BK136.out 0).trans rfl; have hcz22_1 : w20.cell? ⟨gb136, 1, none⟩ = some (.int .i64 0) := (blk_cell BK136.out 1).trans rfl; have hcz22_2 : w20.cell? ⟨gb136, 2, none⟩ = some (.int .i64 0) := (blk_cell BK136.out 2).trans rfl; have hcz22_3 : w20.cell? ⟨gb136, 3, none⟩ = some (.slice none 0 0) := (blk_cell BK136.out 3).trans rfl; have hfz22_0 := blk_frozen BK136.out 0; have hfz22_1 := blk_frozen BK136.out 1; have hfz22_2 := blk_frozen BK136.out 2; have hfz22_3 := blk_frozen BK136.out 3; have hcz23_0 : w20.cell? ⟨gb134, 0, none⟩ = some (.int .i64 ((rd_T59 l0 x17_1).f0)) := (blk_cell BK134.out 0).trans rfl; have hcz23_1 : w20.cell? ⟨gb134, 1, none⟩ = some (.int .i64 ((rd_T59 l0 x17_1).f1)) := (blk_cell BK134.out 1).trans rfl; have hcz23_2 : w20.cell? ⟨gb134, 2, none⟩ = some (.int .i64 ((rd_T59 l0 x17_1).f2)) := (blk_cell BK134.out 2).trans rfl; have hcz23_3 : w20.cell? ⟨gb134, 3, none⟩ = some (.slice A133_3 ((rd_T59 l0 x17_1).f3).length c133_3) := (blk_cell BK134.out 3).trans rfl; have hfz23_0 := blk_frozen BK134.out 0; have hfz23_1 := blk_frozen BK134.out 1; have hfz23_2 := blk_frozen BK134.out 2; have hfz23_3 := blk_frozen BK134.out 3) | (go_at_call 94; (with_reducible refine (impl_entries_1.calls k1 ((rd_T59 l0 x17_1).f0) ((rd_T59 l0 x17_1).f1) ((rd_T59 l0 x17_1).f2) _ _ ((rd_T59 l0 x17_1).f3) ((rd_T59 l1 x17_1).f0) ((rd_T59 l1 x17_1).f1) ((rd_T59 l1 x17_1).f2) _ _ ((rd_T59 l1 x17_1).f3) false _ ?side1 ?side2 ?side3 ?side4 A9.out).mono ?_); (case side1 => exact Kd.C_below HR133_3.out (sq_g2 GE134.out GE136.out)); (case side2 => exact HC133_3.out); (case side3 => exact Kd.C_below HR135_3.out (sq_g2 GE134.out GE136.out)); (case side4 => exact HC135_3.out); rintro e w24 ⟨rfl, hb⟩; have n0_ := mk_ (blk_below (g := gb134) (o := .cells #[.int .i64 ((rd_T59 l0 x17_1).f0), .int .i64 ((rd_T59 l0 x17_1).f1), .int .i64 ((rd_T59 l0 x17_1).f2), .slice A133_3 ((rd_T59 l0 x17_1).f3).length c133_3] 59 (0, 0)) (by (with_reducible repeat (first | refine blk_drewN ?_ _ | refine blk_drew ?_ | refine blk_alloc ?_ _)); refine blk_far ?_ NB134_136.out _; (with_reducible repeat (first | refine blk_drewN ?_ _ | refine blk_drew ?_ | refine blk_alloc ?_ _)); refine blk_far ?_ NB134_136.out _; (with_reducible repeat (first | refine blk_drewN ?_ _ | refine blk_drew ?_ | refine blk_alloc ?_ _)); refine blk_far ?_ NB134_136.out _; (with_reducible repeat (first | refine blk_drewN ?_ _ | refine blk_drew ?_ | refine blk_alloc ?_ _)); refine blk_far ?_ NB134_136.out _; (with_reducible repeat (first | refine blk_drewN ?_ _ | refine blk_drew ?_ | refine blk_alloc ?_ _)); exact BK134.out) hb); have n1_ := mk_ (blk_below (g := gb136) (o := .cells #[.int .i64 ((rd_T59 l1 x17_1).f0), .int .i64 ((rd_T59 l1 x17_1).f1), .int .i64 ((rd_T59 l1 x17_1).f2), .slice A135_3 ((rd_T59 l1 x17_1).f3).length c135_3] 59 (0, 0)) (by (with_reducible repeat (first | refine blk_drewN ?_ _ | refine blk_drew ?_ | refine blk_alloc ?_ _)); refine blk_put (cs := #[.int .i64 ((rd_T59 l1 x17_1).f0), .int .i64 ((rd_T59 l1 x17_1).f1), .int .i64 ((rd_T59 l1 x17_1).f2), .slice none 0 0]) ?_ 3 _ rfl; (with_reducible repeat (first | refine blk_drewN ?_ _ | refine blk_drew ?_ | refine blk_alloc ?_ _)); refine blk_put (cs := #[.int .i64 ((rd_T59 l1 x17_1).f0), .int .i64 ((rd_T59 l1 x17_1).f1), .int .i64 0, .slice none 0 0]) ?_ 2 _ rfl; (with_reducible repeat (first | refine blk_drewN ?_ _ | refine blk_drew ?_ | refine blk_alloc ?_ _)); refine blk_put (cs := #[.int .i64 ((rd_T59 l1 x17_1).f0), .int .i64 0, .int .i64 0, .slice none 0 0]) ?_ 1 _ rfl; (with_reducible repeat (first | refine blk_drewN ?_ _ | refine blk_drew ?_ | refine blk_alloc ?_ _)); refine blk_put (cs := #[.int .i64 0, .int .i64 0, .int .i64 0, .slice none 0 0]) ?_ 0 _ rfl; (with_reducible repeat (first | refine blk_drewN ?_ _ | refine blk_drew ?_ | refine blk_alloc ?_ _)); exact BK136.out) hb); have n2_ := mk_ (below_step (sq_g2 GE134.out GE136.out) hb); clear BK134 BK136 HB; have BK134 := n0_; have BK136 := n1_; have HB := n2_; clear n0_ n1_ n2_; (try clear hb)))
      go_ret
      exact ⟨sq_w, sq_g2 GE134.out GE136.out⟩
    ·rw [if_neg c5] at H
     have c5b0 : decide (x17_1 < (l0.length : Int)) = false := decide_eq_false c5
     clear c5
     obtain rfl := Option.some.inj H
     go_wp2
     go_ret
     exact ⟨sq_w, sq_b⟩
 ·rw [if_neg c4] at H
  have c4b0 : ((l0.length : Int) == (l1.length : Int)) = false := beq_eq_false_iff_ne.mpr c4
  have c4b1 : ((l0.length : Int) != (l1.length : Int)) = true := bne_iff_ne.mpr c4
  have c4b2 : (l0.length == l1.length) = false := by first | simpa using c4 | (simp at c4 ⊢; omega)
  obtain rfl := Option.some.inj H
  go_enter Try.func93, Try.ntmps93
  go_wp2
  go_ret
  exact ⟨sq_w, sq_b⟩

/-! ### impl_entries: function 54 (by hand) -/
def impl_entries.kids (t : List S59) (i : Nat) : List Int → List ByteArray → Option (List ByteArray)
 | [], ws => some ws
 | k :: ks, ws => if ((i : Int) + 1 ≤ k ∧ k ≤ (t.length : Int) - 1) ∧ (0 ≤ (rd_T59 t k).f0 ∧ (rd_T59 t k).f0 ≤ 25) ∧ ¬ (ws.getD i ByteArray.empty).size = 12 then impl_entries.kids t i ks (ws.set k.toNat (ws.getD i ByteArray.empty ++ strOfNums [97 + (rd_T59 t k).f0])) else none
def impl_entries.go (t : List S59) : List S59 → Nat → List ByteArray → List S48 → Option (List S48)
 | [], _, _, out => some out
 | x :: l, i, ws, out => (impl_entries.kids t i x.f3 ws).bind fun ws' => impl_entries.go t l (i + 1) ws' (if x.f1 = 0 then out else out ++ [⟨ws.getD i ByteArray.empty, x.f1⟩])
def impl_entries.f (k : Nat) (l0 : List S59) : Option (List S48 × Bool) := if 1 ≤ l0.length ∧ l0.length ≤ 120 then (match impl_entries.go l0 l0 0 (List.replicate l0.length ByteArray.empty) [] with
 | none => some ([], false)
 | some out => (impl_build.f k out).bind fun b => if b.2 = true then (slices_EqualFunc_impl_Leg__impl_entries_1.f k l0 b.1).bind fun e => if e = true then some (out, true) else some ([], false) else some ([], false)) else some ([], false)
theorem impl_entries.mono : ∀ a0 k, LeO (impl_entries.f k a0) (impl_entries.f (k + 1) a0) := by
 intro a0 k
 unfold impl_entries.f
 refine LeO.ite ?_ (LeO.refl _)
 cases impl_entries.go a0 a0 0 (List.replicate a0.length ByteArray.empty) [] with
 | none => exact LeO.refl _
 | some out => exact LeO.bind (impl_build.mono _ k) (fun b => LeO.ite (LeO.bind (slices_EqualFunc_impl_Leg__impl_entries_1.mono _ _ k) (fun _ => LeO.refl _)) (LeO.refl _))
theorem impl_entries.box_C (w : World) (v : Int) (t : TypeId) : (Kd.int .u8).C ((w.alloc (.cells #[.int .u8 v] t)).drew) (some ⟨w.heap.size, 0, none⟩) 1 [v] := by
 have h : ((w.alloc (.cells #[.int .u8 v] t)).drew).heap[w.heap.size]? = some (.cells #[.int .u8 v] t (0, 0)) := blk_drew (blk_new w _)
 refine Kd.C_of_reads (enc := Value.int .u8) (d := (0 : Int)) (h1 := fun _ => rfl) ⟨rfl, by simp, fun _ => ⟨_, rfl, fun j hj => ?_⟩⟩
 obtain rfl : j = 0 := by omega
 exact (blk_cell h 0).trans rfl
set_option maxHeartbeats 8000000 in
set_option maxRecDepth 100000 in
theorem impl_entries.calls (k : Nat) (A0 : Option Addr) (c0 : Nat) (l0 : List S59) (r1 : List S48) (r2 : Bool) (w : World) (hr0 : Kd.C k59 w A0 l0.length l0) (hc0 : l0.length ≤ c0) (h : impl_entries.f k l0 = some (r1, r2)) :
  Calls Try.prog 54 #[.slice A0 l0.length c0] w fun e w' => ∃ v0_ : Value, e = .returned (.tuple #[v0_, .bool r2]) ∧ Kd.R k48 48 w' w.heap.size (fun _ => True) v0_ r1 ∧ Below w.heap.size w w' := by
 have HR0 := mk_ hr0
 have HC0 := mk_ hc0
 have HMX := mk_ (Kd.C_max hr0)
 clear hr0 hc0
 go_enter Try.func54, Try.ntmps54
 go_wp2_with fail
 by_cases hl : 1 ≤ l0.length ∧ l0.length ≤ 120
 rotate_left
 ·have hf : impl_within.f (l0.length : Int) 1 120 = some false := by
   unfold impl_within.f
   split
   ·rw [show decide ((l0.length : Int) ≤ 120) = false from decide_eq_false (by omega)]
   ·rfl
  unfold impl_entries.f at h
  rw [if_neg hl] at h
  injection h with h
  injection h with h1 h2
  have H12 := mk_ (And.intro h1 h2)
  clear h1 h2
  (with_reducible refine (impl_within.calls _ _ _ false w hf).mono ?_)
  rintro e w1 ⟨rfl, hd⟩
  have HB := mk_ hd.below
  clear hd hl hf
  go_wp2
  go_ret2
  obtain ⟨h1, h2⟩ := H12.out
  subst h1; subst h2
  exact ⟨_, rfl, Kd.R_nil _ _ _ _ _, HB.out⟩
 have hf : impl_within.f (l0.length : Int) 1 120 = some true := by
  unfold impl_within.f
  rw [if_pos (by omega), show decide ((l0.length : Int) ≤ 120) = true from decide_eq_true (by omega)]
 (with_reducible refine (impl_within.calls _ _ _ true w hf).mono ?_)
 rintro e w1 ⟨rfl, hd⟩
 have HB := mk_ hd.below
 have HR1 := mk_ (Kd.C_below HR0.out hd.below)
 have HLN := mk_ hl
 unfold impl_entries.f at h
 rw [if_pos hl] at h
 have H := mk_ h
 clear hd hl hf h
 have hinfo9 : (Try.prog.info? 9).map (fun i => (i.zero, i.size, i.bytes)) = some (some (.string ⟨#[]⟩), 1, 16) := by kernel_rfl
 have hund9 := Try.underlying92
 go_upto_region 4 with (first | ((with_reducible refine gate_dst (N := 18) rfl ?_); refine Kd.R_make Kd.string (w0 := w) w.heap.size 9 rfl (N := 18) rfl 92 _ _ rfl (l0.length : Int) rfl rfl hund9 (.string ⟨#[]⟩) 16 hinfo9 rfl (by decide) (by omega) ByteArray.empty (ok := fun _ => True) (okp := fun _ => True) rfl (fun _ hk => hk) trivial (by omega) (by have := HLN.out; omega) HB.out HB.out.size ?_; intro vW w2 ho hb hg_ hnew_; have HWS := mk_ ho; have HB2 := mk_ hb; have HR2 := mk_ (Kd.C_below HR0.out hb); clear ho hb hg_ hnew_))
 rw [Int.toNat_natCast] at HWS
 obtain ⟨gw, cw, rfl, hgw, _, _⟩ := Kd.R_form HWS.out (by rw [List.length_replicate]; exact HLN.out.1)
 have HGW := mk_ hgw
 clear hgw
 rw [List.length_replicate] at HWS ⊢
 obtain ⟨G, hG⟩ : ∃ G, G = impl_entries.go l0 l0 0 (List.replicate l0.length ByteArray.empty) [] := ⟨_, rfl⟩
 rw [← hG] at H
 have HG := mk_ hG
 clear hG hinfo9 hund9
 go_wp2_with fail
 go_loopg [5, 21] l0.length (fun kq v5 v21 w' => ∃ (i : Nat) (x : Int) (ws : List ByteArray) (out : List S48), v21 = .int .i64 x ∧ Aside0 (x = i) ∧ Aside0 (i + kq = l0.length) ∧ Aside0 (impl_entries.go l0 (l0.drop i) i ws out = G) ∧ Aside0 (ws.length = l0.length) ∧ Aside0 (∀ s ∈ ws, s.size ≤ 12) ∧ Aside0 (out.length ≤ i) ∧ Aside0 (Kd.R Kd.string 9 w' w.heap.size (fun _ => True) (.slice (some ⟨gw, 0, none⟩) l0.length cw) ws) ∧ Aside0 (Kd.R k48 48 w' w.heap.size (fun _ => True) v5 out) ∧ Aside0 (Below w.heap.size w w'))
 case atStart => exact ⟨0, 0, List.replicate l0.length ByteArray.empty, [], rfl, ⟨rfl⟩, ⟨by simp⟩, ⟨by rw [List.drop_zero]; exact HG.out.symm⟩, ⟨List.length_replicate⟩, ⟨fun s hs => by rw [(List.mem_replicate.1 hs).2]; decide⟩, ⟨Nat.le_refl _⟩, HWS, ⟨Kd.R_nil _ _ _ _ _⟩, HB2⟩
 case round =>
  clear HWS HB2 HR2 HB HR1
  obtain ⟨i, x, ws, out, rfl, HX, HI, HA, HWL, HWZ, HOL, HWS, HOS, HB⟩ := hrel
  cases gk with
  | zero =>
   have c1 : decide (x < (l0.length : Int)) = false := decide_eq_false (by have := HX.out; have := HI.out; omega)
   have hG1 : G = some out := by
    rw [← HA.out, show i = l0.length by have := HI.out; omega, List.drop_length]
    rfl
   have h := H.out
   rw [hG1] at h
   obtain ⟨b, hb, h⟩ := Option.bind_eq_some_iff.mp h
   obtain ⟨A5, c5, rfl⟩ := Kd.R_slice HOS.out
   have HBB := mk_ hb
   have HH := mk_ h
   have HC5 := mk_ (Kd.R_reads' HOS.out)
   clear h hb hG1
   go_wp2_with fail
   (with_reducible refine (impl_build.calls k A5 c5 out b.1 b.2 wr HC5.out.2.2 HC5.out.2.1 HBB.out).mono ?_)
   rintro e w3 ⟨v3, rfl, ho3, hb3⟩
   obtain ⟨A3, c3, rfl⟩ := Kd.S_slice ho3
   have HC3 := mk_ (Kd.S_reads' ho3)
   have HB3 := mk_ (below_step HB.out hb3)
   have HO3 := mk_ (Kd.R_below HOS.out hb3)
   have HR3 := mk_ (Kd.C_below HR0.out HB3.out)
   clear ho3 hb3
   obtain ⟨L3, b2⟩ := b
   cases b2 with
   | false =>
    have h := HH.out
    rw [if_neg (by simp)] at h
    injection h with h
    injection h with h1 h2
    have H12 := mk_ (And.intro h1 h2)
    clear h1 h2
    clear HH
    go_wp2
    go_ret2
    obtain ⟨h1, h2⟩ := H12.out
    subst h1; subst h2
    exact ⟨_, rfl, Kd.R_nil _ _ _ _ _, HB3.out⟩
   | true =>
    have h := HH.out
    rw [if_pos rfl] at h
    obtain ⟨e, he, h⟩ := Option.bind_eq_some_iff.mp h
    have HEE := mk_ he
    have HH := mk_ h
    clear h he
    go_wp2_with fail
    (with_reducible refine (slices_EqualFunc_impl_Leg__impl_entries_1.calls k A0 c0 l0 A3 c3 L3 e w3 HR3.out HC0.out HC3.out.2.2 HC3.out.2.1 HEE.out).mono ?_)
    rintro e_ w4 ⟨rfl, hb4⟩
    have HB4 := mk_ (below_step HB3.out hb4)
    have HO4 := mk_ (Kd.R_below HO3.out hb4)
    clear hb4
    cases e with
    | true =>
     have h := HH.out
     rw [if_pos rfl] at h
     injection h with h
     injection h with h1 h2
     have H12 := mk_ (And.intro h1 h2)
     clear h1 h2
     clear HH
     go_wp2
     go_ret2
     obtain ⟨h1, h2⟩ := H12.out
     subst h1; subst h2
     exact ⟨_, rfl, HO4.out, HB4.out⟩
    | false =>
     have h := HH.out
     rw [if_neg (by simp)] at h
     injection h with h
     injection h with h1 h2
     have H12 := mk_ (And.intro h1 h2)
     clear h1 h2
     clear HH
     go_wp2
     go_ret2
     obtain ⟨h1, h2⟩ := H12.out
     subst h1; subst h2
     exact ⟨_, rfl, Kd.R_nil _ _ _ _ _, HB4.out⟩
  | succ k1 =>
   have hx := HX.out
   have hi := HI.out
   have p1 : x < (l0.length : Int) := by omega
   have p0 : 0 ≤ x := by omega
   have c1 : decide (x < (l0.length : Int)) = true := decide_eq_true p1
   have c0_ : decide (0 ≤ x) = true := decide_eq_true p0
   obtain ⟨y, hy⟩ : ∃ y, l0[i]? = some y := ⟨_, List.getElem?_eq_getElem (by omega)⟩
   have HY := mk_ hy
   have hyd : l0.drop i = y :: l0.drop (i + 1) := by
    rw [List.drop_eq_getElem_cons (by omega)]
    congr 1
    rw [List.getElem?_eq_getElem (by omega)] at hy
    injection hy
   have HYD := mk_ hyd
   obtain ⟨ad, A3, c3, rfl, hx0, hx1, hx2, hx3, hc3, hCk⟩ := at_T59 HR0.out x p0 p1
   try replace hx0 := (HB.out.cell (World.block_lt_of_cell? w _ hx0)).trans hx0
   try replace hx1 := (HB.out.cell (World.block_lt_of_cell? w _ hx1)).trans hx1
   try replace hx2 := (HB.out.cell (World.block_lt_of_cell? w _ hx2)).trans hx2
   try replace hx3 := (HB.out.cell (World.block_lt_of_cell? w _ hx3)).trans hx3
   have hrd : rd_T59 l0 x = y := by unfold rd_T59; rw [hx, Int.toNat_natCast, List.getD_eq_getElem?_getD, hy]; rfl
   rw [hrd] at hx0 hx1 hx2 hx3 hc3 hCk
   have HCK := mk_ (And.intro hc3 hCk)
   have HWX := mk_ (show wrap64 (x + 1) = x + 1 from by unfold wrap64; have := HLN.out; omega)
   clear hx hi hy hyd hrd hc3 hCk
   go_upto_if 28 with (first | ((with_reducible refine gate_dst (N := 7) rfl ?_); refine box_event sq_0 (N := 7) sq_0 (cs := #[.int .i64 0, .int .i64 0, .int .i64 0, .slice none 0 0]) (t := 59) sq_h ?_; intro g7 hg7 w5 hbox hb5; have G7 := mk_ (show wr.heap.size ≤ g7 from by rw [hg7]; exact Nat.le_refl _); have B5 := mk_ (show Below wr.heap.size wr w5 from hb5); have BK5 := mk_ hbox; have kb0 := (blk_cell BK5.out 0).trans rfl; have kb1 := (blk_cell BK5.out 1).trans rfl; have kb2 := (blk_cell BK5.out 2).trans rfl; have kb3 := (blk_cell BK5.out 3).trans rfl; have kf0 := blk_frozen BK5.out 0; have kf1 := blk_frozen BK5.out 1; have kf2 := blk_frozen BK5.out 2; have kf3 := blk_frozen BK5.out 3; clear hg7 hbox hb5))
   obtain ⟨wC, hwC⟩ : ∃ wC, wC = ((((w5.setCell ⟨g7, 0, none⟩ (.int .i64 y.f0)).setCell ⟨g7, 1, none⟩ (.int .i64 y.f1)).setCell ⟨g7, 2, none⟩ (.int .i64 y.f2)).setCell ⟨g7, 3, none⟩ (.slice A3 y.f3.length c3)) := ⟨_, rfl⟩
   have hBC : Below wr.heap.size wr wC := by rw [hwC]; exact below_set (below_set (below_set (below_set B5.out G7.out) G7.out) G7.out) G7.out
   have hK7 : wC.heap[g7]? = some (.cells #[.int .i64 y.f0, .int .i64 y.f1, .int .i64 y.f2, .slice A3 y.f3.length c3] 59 (0, 0)) := by rw [hwC]; exact blk_put (cs := #[.int .i64 y.f0, .int .i64 y.f1, .int .i64 y.f2, .slice none 0 0]) (blk_put (cs := #[.int .i64 y.f0, .int .i64 y.f1, .int .i64 0, .slice none 0 0]) (blk_put (cs := #[.int .i64 y.f0, .int .i64 0, .int .i64 0, .slice none 0 0]) (blk_put (cs := #[.int .i64 0, .int .i64 0, .int .i64 0, .slice none 0 0]) BK5.out 0 _ rfl) 1 _ rfl) 2 _ rfl) 3 _ rfl
   rw [← hwC]
   have K7 := mk_ hK7
   have HWSC := mk_ (Kd.R_below HWS.out hBC)
   have HOSC := mk_ (Kd.R_below HOS.out hBC)
   have HBC := mk_ (below_step HB.out hBC)
   clear hwC hBC hK7 kb0 kb1 kb2 kb3 kf0 kf1 kf2 kf3 BK5 B5 hx0 hx1 hx2 hx3
   obtain ⟨out', ho'⟩ : ∃ out' : List S48, out' = (if y.f1 = 0 then out else out ++ [⟨ws.getD i ByteArray.empty, y.f1⟩]) := ⟨_, rfl⟩
   have HO' := mk_ ho'
   have HOL' := mk_ (show out'.length ≤ i + 1 from by have h := HOL.out; rw [ho']; split <;> (try rw [List.length_append, List.length_singleton]) <;> omega)
   clear ho'
   go_cut [5] (fun v5' wx => Aside0 (Kd.R k48 48 wx w.heap.size (fun _ => True) v5' out') ∧ Aside0 (Kd.R Kd.string 9 wx w.heap.size (fun _ => True) (.slice (some ⟨gw, 0, none⟩) l0.length cw) ws) ∧ Aside0 (wx.heap[g7]? = some (.cells #[.int .i64 y.f0, .int .i64 y.f1, .int .i64 y.f2, .slice A3 y.f3.length c3] 59 (0, 0))) ∧ Aside0 (Below w.heap.size w wx))
   case first =>
    by_cases hz : y.f1 = 0
    ·have d0 : (y.f1 == 0) = true := beq_iff_eq.mpr hz
     have d1 : (y.f1 != 0) = false := by rw [bne, d0]; rfl
     have d2 : decide (y.f1 = 0) = true := decide_eq_true hz
     have HZ := mk_ hz
     clear hz
     go_wp2_with fail
     go_meet
     have ho := HO'.out
     rw [if_pos HZ.out] at ho
     rw [ho]
     exact ⟨HOSC, HWSC, K7, HBC⟩
    ·have d0 : (y.f1 == 0) = false := beq_eq_false_iff_ne.mpr hz
     have d1 : (y.f1 != 0) = true := by rw [bne, d0]; rfl
     have d2 : decide (y.f1 = 0) = false := decide_eq_false hz
     have HZ := mk_ hz
     clear hz
     have hs := (Kd.R_celln ByteArray.empty HWSC.out x p0 p1).1
     have hk1 := (blk_cell K7.out 1).trans rfl
     have e0 := eq_true p0
     have e1 := eq_true p1
     have hinfoE : (Try.prog.info? 48).map (fun i => (i.zero, i.size, i.bytes)) = some (some (.agg #[.string ⟨#[]⟩, .int .i64 0]), 2, 24) := by kernel_rfl
     go_wp2_with fail
     have HOD := mk_ (Kd.R_drew (Kd.R_types HOSC.out K7.out (by decide)))
     have HWD := mk_ (Kd.R_drew HWSC.out)
     have KD := mk_ (blk_drew K7.out)
     have HBD := mk_ (below_drew HBC.out)
     clear HOSC HWSC K7 HBC
     go_region_law (refine Kd.R_append_step k48 (w0 := w) (W := wC.drew) w.heap.size rfl (.tmp 29) (.tmp 37) 27 48 (.agg #[(.string ⟨#[]⟩), (.int .i64 0)]) 24 rfl Try.underlying27 hinfoE rfl (by decide) (by omega) u5 out (⟨rdOf ByteArray.empty ws x, y.f1⟩ : S48) [.string (rdOf ByteArray.empty ws x), .int .i64 y.f1] (fun k_ => k_ ≠ g7) (fun _ => False) rfl rfl (k48_mkM _ _ _ (⟨rdOf ByteArray.empty ws x, y.f1⟩ : S48)) (fun _ hk => hk.elim) (fun k_ h_ e_ => by have := blk_lt KD.out; omega) (Kd.R_mono HOD.out (fun _ h_ => h_.2)) HBD.out HBD.out.size (by have := HOL.out; have := HLN.out; have := HI.out; omega) ?_; intro v1 w6 ho hb hg hat; have HO6 := mk_ (Kd.R_mono (ok' := fun _ => True) ho (fun _ _ => trivial)); have HB6 := mk_ hb; have HG6 := mk_ hg; clear ho hb hg hat)
     all_goals (
      go_wp2_with fail
      go_meet
      have ho := HO'.out
      rw [if_neg HZ.out] at ho
      have e2 : rdOf ByteArray.empty ws x = ws.getD i ByteArray.empty := by unfold rdOf; rw [HX.out, Int.toNat_natCast]
      rw [ho, ← e2]
      exact ⟨HO6, ⟨Kd.R_over HWD.out HOD.out (by decide) HG6.out⟩, ⟨blk_grown KD.out HG6.out (fun e_ => (HOD.out.1 g7 e_.symm).2 rfl)⟩, HB6⟩)
   case rest =>
    obtain ⟨HO, HS, K7, HB3⟩ := hcut
    obtain ⟨KD, hKD⟩ : ∃ KD, KD = impl_entries.kids l0 i y.f3 ws := ⟨_, rfl⟩
    have HKD := mk_ hKD
    have HGK := mk_ (show (KD.bind fun ws' => impl_entries.go l0 (l0.drop (i + 1)) (i + 1) ws' out') = G from by rw [hKD, HO'.out, ← HA.out, HYD.out]; rfl)
    have HEX := mk_ (show KD = none → ([] : List S48) = r1 ∧ false = r2 from by
     intro hn
     have h := HGK.out
     rw [hn] at h
     have h2 := H.out
     rw [← h] at h2
     injection h2 with h2
     injection h2 with a b
     exact ⟨a, b⟩)
    clear hKD HA HYD
    have hk3 := (blk_cell K7.out 3).trans rfl
    go_wp2_with fail
    clear hk3
    go_loopg [42] y.f3.length (fun kq v42 w' => ∃ (j : Nat) (z : Int) (vs : List ByteArray), v42 = .int .i64 z ∧ Aside0 (z = j) ∧ Aside0 (j + kq = y.f3.length) ∧ Aside0 (impl_entries.kids l0 i (y.f3.drop j) vs = KD) ∧ Aside0 (vs.length = l0.length) ∧ Aside0 (∀ s ∈ vs, s.size ≤ 12) ∧ Aside0 (Kd.R Kd.string 9 w' w.heap.size (fun _ => True) (.slice (some ⟨gw, 0, none⟩) l0.length cw) vs) ∧ Aside0 (Kd.R k48 48 w' w.heap.size (fun _ => True) u5 out') ∧ Aside0 (Below w.heap.size w w'))
    case atStart => exact ⟨0, 0, ws, rfl, ⟨rfl⟩, ⟨by simp⟩, ⟨by rw [List.drop_zero]; exact HKD.out.symm⟩, HWL, HWZ, HS, HO, HB3⟩
    case round =>
     clear HS HO HB3 K7 HOSC HWSC HBC HWS HOS HB HKD HWZ
     obtain ⟨j, z, vs, rfl, HZJ, HJ, HKA, HVL, HVZ, HS, HO, HB3⟩ := hrel
     cases gk with
     | zero =>
      have c2 : decide (z < (y.f3.length : Int)) = false := decide_eq_false (by have := HZJ.out; have := HJ.out; omega)
      have hfin : KD = some vs := by
       rw [← HKA.out, show j = y.f3.length by have := HJ.out; omega, List.drop_length]
       rfl
      have HFIN := mk_ hfin
      clear hfin
      go_wp2
      go_roundg k1
      case measure => omega
      case rel =>
       refine ⟨i + 1, x + 1, vs, out', by rw [HWX.out], ⟨by have := HX.out; omega⟩, ⟨by have := HI.out; omega⟩, ⟨?_⟩, HVL, HVZ, HOL', HS, HO, HB3⟩
       have h := HGK.out
       rw [HFIN.out] at h
       exact h
     | succ k2 =>
      have q1 : z < (y.f3.length : Int) := by have := HZJ.out; have := HJ.out; omega
      have q0 : 0 ≤ z := by have := HZJ.out; omega
      have c2 : decide (z < (y.f3.length : Int)) = true := decide_eq_true q1
      have c3_ : decide (0 ≤ z) = true := decide_eq_true q0
      obtain ⟨kk, hkk⟩ : ∃ kk, y.f3[j]? = some kk := ⟨_, List.getElem?_eq_getElem (by have := HJ.out; omega)⟩
      have hkd : y.f3.drop j = kk :: y.f3.drop (j + 1) := by
       rw [List.drop_eq_getElem_cons (by have := HJ.out; omega)]
       congr 1
       rw [List.getElem?_eq_getElem (by have := HJ.out; omega)] at hkk
       injection hkk
      have HKS := HKA.out
      rw [hkd] at HKS
      simp only [impl_entries.kids] at HKS
      obtain ⟨adk, rfl, hck⟩ := Kd.at_int (Kd.C_below HCK.out.2 HB3.out) z q0 q1
      have hrk : rd y.f3 z = kk := by rw [rd, HZJ.out, Int.toNat_natCast, List.getD_eq_getElem?_getD, hkk]; rfl
      rw [hrk] at hck
      have hwx := HWX.out
      have hwl : wrap64 ((l0.length : Int) - 1) = (l0.length : Int) - 1 := by unfold wrap64; have := HLN.out; omega
      have HKSA := mk_ HKS
      clear HKS hkk hkd hrk HKA
      by_cases hg : (i : Int) + 1 ≤ kk ∧ kk ≤ (l0.length : Int) - 1
      rotate_left
      ·have hf : impl_within.f kk (x + 1) ((l0.length : Int) - 1) = some false := by
        have := HX.out
        unfold impl_within.f
        split
        ·rw [show decide (kk ≤ (l0.length : Int) - 1) = false from decide_eq_false (by omega)]
        ·rfl
       have HKN := mk_ (show KD = none from by have h := HKSA.out; rw [if_neg (fun h_ => hg h_.1)] at h; exact h.symm)
       have HFF := mk_ hf
       clear hf hg HKSA
       go_wp2_with fail
       (with_reducible refine (impl_within.calls kk (x + 1) ((l0.length : Int) - 1) false _ HFF.out).mono ?_)
       rintro e w7 ⟨rfl, hd⟩
       have HB7 := mk_ (below_step HB3.out hd.below)
       clear hd
       go_wp2
       go_ret2
       obtain ⟨h1, h2⟩ := HEX.out HKN.out
       subst h1; subst h2
       exact ⟨_, rfl, Kd.R_nil _ _ _ _ _, HB7.out⟩
      ·have k0 : 0 ≤ kk := by have := hg.1; omega
       have k1_ : kk < (l0.length : Int) := by omega
       have hf : impl_within.f kk (x + 1) ((l0.length : Int) - 1) = some true := by
        have := HX.out
        unfold impl_within.f
        rw [if_pos (by omega), show decide (kk ≤ (l0.length : Int) - 1) = true from decide_eq_true (by omega)]
       have HFT := mk_ hf
       have HGG := mk_ hg
       obtain ⟨ad2, A4, c4, e2, hy0, _, _, _, _, _⟩ := at_T59 (Kd.C_below HR0.out HB3.out) kk k0 k1_
       injection e2 with e2
       subst e2
       obtain ⟨L, hL⟩ : ∃ L, L = (rd_T59 l0 kk).f0 := ⟨_, rfl⟩
       have HKS := HKSA.out
       rw [← hL] at hy0 HKS
       obtain ⟨s, hs⟩ : ∃ s, s = rdOf ByteArray.empty vs x := ⟨_, rfl⟩
       have hvs := (Kd.R_celln ByteArray.empty HS.out x p0 p1).1
       rw [← hs] at hvs
       have hsg : vs.getD i ByteArray.empty = s := by rw [hs]; unfold rdOf; rw [HX.out, Int.toNat_natCast]
       rw [hsg] at HKS
       have HS12 := mk_ (show s.size ≤ 12 from by rw [← hsg, List.getD_eq_getElem?_getD, List.getElem?_eq_getElem (by have := HVL.out; have := HI.out; omega)]; exact HVZ.out _ (List.getElem_mem _))
       have HKSA := mk_ HKS
       have e0 := eq_true k0
       have e1 := eq_true k1_
       have e2 := eq_true p0
       have e3 := eq_true p1
       have dk0 : decide (0 ≤ kk) = true := decide_eq_true k0
       have dk1 : decide (kk < (l0.length : Int)) = true := decide_eq_true k1_
       clear hf hg hL hs hsg HKS
       by_cases hl2 : 0 ≤ L ∧ L ≤ 25
       rotate_left
       ·have hf2 : impl_within.f L 0 25 = some false := by
         unfold impl_within.f
         split
         ·rw [show decide (L ≤ 25) = false from decide_eq_false (by omega)]
         ·rfl
        have HKN := mk_ (show KD = none from by have h := HKSA.out; rw [if_neg (fun h_ => hl2 h_.2.1)] at h; exact h.symm)
        have HF2 := mk_ hf2
        clear hf2 hl2 HKSA
        go_wp2_with fail
        (with_reducible refine (impl_within.calls kk (x + 1) ((l0.length : Int) - 1) true _ HFT.out).mono ?_)
        rintro e w7 ⟨rfl, hd⟩
        have HB7 := mk_ (below_step HB3.out hd.below)
        replace hy0 := (hd.below.cell (World.block_lt_of_cell? _ _ hy0)).trans hy0
        clear hd hvs hck
        go_wp2_with fail
        (with_reducible refine (impl_within.calls L 0 25 false _ HF2.out).mono ?_)
        rintro e w8 ⟨rfl, hd⟩
        have HB8 := mk_ (below_step HB7.out hd.below)
        clear hd hy0
        go_wp2
        go_ret2
        obtain ⟨h1, h2⟩ := HEX.out HKN.out
        subst h1; subst h2
        exact ⟨_, rfl, Kd.R_nil _ _ _ _ _, HB8.out⟩
       have hf2 : impl_within.f L 0 25 = some true := by
        unfold impl_within.f
        rw [if_pos (by omega), show decide (L ≤ 25) = true from decide_eq_true (by omega)]
       have HF2 := mk_ hf2
       have HL2 := mk_ hl2
       clear hf2 hl2
       by_cases h12 : s.size = 12
       ·have d12 : ((s.size : Int) == 12) = true := beq_iff_eq.mpr (by omega)
        have d12b : (s.size == 12) = true := beq_iff_eq.mpr h12
        have HKN := mk_ (show KD = none from by have h := HKSA.out; rw [if_neg (fun h_ => h_.2.2 h12)] at h; exact h.symm)
        clear h12 HKSA
        go_wp2_with fail
        (with_reducible refine (impl_within.calls kk (x + 1) ((l0.length : Int) - 1) true _ HFT.out).mono ?_)
        rintro e w7 ⟨rfl, hd⟩
        have HB7 := mk_ (below_step HB3.out hd.below)
        replace hy0 := (hd.below.cell (World.block_lt_of_cell? _ _ hy0)).trans hy0
        replace hvs := (hd.below.cell (World.block_lt_of_cell? _ _ hvs)).trans hvs
        clear hd hck
        go_wp2_with fail
        (with_reducible refine (impl_within.calls L 0 25 true _ HF2.out).mono ?_)
        rintro e w8 ⟨rfl, hd⟩
        have HB8 := mk_ (below_step HB7.out hd.below)
        replace hvs := (hd.below.cell (World.block_lt_of_cell? _ _ hvs)).trans hvs
        clear hd hy0
        go_wp2
        go_ret2
        obtain ⟨h1, h2⟩ := HEX.out HKN.out
        subst h1; subst h2
        exact ⟨_, rfl, Kd.R_nil _ _ _ _ _, HB8.out⟩
       have d12 : ((s.size : Int) == 12) = false := beq_eq_false_iff_ne.mpr (by omega)
       have d12b : (s.size == 12) = false := beq_eq_false_iff_ne.mpr h12
       have HN12 := mk_ h12
       clear h12
       go_wp2_with fail
       (with_reducible refine (impl_within.calls kk (x + 1) ((l0.length : Int) - 1) true _ HFT.out).mono ?_)
       rintro e w7 ⟨rfl, hd⟩
       have HB7 := mk_ (below_step HB3.out hd.below)
       have HS7 := mk_ (Kd.R_below HS.out hd.below)
       have HO7 := mk_ (Kd.R_below HO.out hd.below)
       replace hy0 := (hd.below.cell (World.block_lt_of_cell? _ _ hy0)).trans hy0
       replace hvs := (hd.below.cell (World.block_lt_of_cell? _ _ hvs)).trans hvs
       clear hd hck HS HO
       go_wp2_with fail
       (with_reducible refine (impl_within.calls L 0 25 true _ HF2.out).mono ?_)
       rintro e w8 ⟨rfl, hd⟩
       have HB8 := mk_ (below_step HB7.out hd.below)
       have HS8 := mk_ (Kd.R_below HS7.out hd.below)
       have HO8 := mk_ (Kd.R_below HO7.out hd.below)
       replace hy0 := (hd.below.cell (World.block_lt_of_cell? _ _ hy0)).trans hy0
       replace hvs := (hd.below.cell (World.block_lt_of_cell? _ _ hvs)).trans hvs
       clear hd HS7 HO7
       go_wp2_with fail
       have hfz := (Kd.R_celln ByteArray.empty HS8.out kk k0 k1_).2
       have hce := (Kd.R_celln ByteArray.empty HS8.out kk k0 k1_).1
       have hL3 : IntKind.u8.wrap L = L := by have := HL2.out; simp [IntKind.wrap, IntKind.bits, IntKind.signed]; omega
       have hL1 : L % 256 = L := by have := HL2.out; omega
       have hL2 : (97 + L) % 256 = 97 + L := by have := HL2.out; omega
       have hL4 : IntKind.u8.wrap (97 + L) = 97 + L := by have := HL2.out; simp [IntKind.wrap, IntKind.bits, IntKind.signed]; omega
       have hconv : (convert 51 9 (.slice (some ⟨w8.heap.size, 0, none⟩) 1 1)).run Try.prog ((w8.alloc (.cells #[.int .u8 (97 + L)] 5)).drew) = .ok (.string (strOfNums [97 + L])) ((w8.alloc (.cells #[.int .u8 (97 + L)] 5)).drew) := Kd.C_string Try.underlying51 Try.underlying5 Try.underlying9 (impl_entries.box_C _ _ _)
       obtain ⟨V, hV⟩ : ∃ V, V = strOfNums [97 + L] := ⟨_, rfl⟩
       have hV1 : V.size = 1 := by rw [hV]; rfl
       have HV := mk_ hV
       rw [← hV] at hconv
       have hsum := eq_false (show ¬ 9223372036854775807 < s.size + V.size by have := HS12.out; omega)
       have HV1 := mk_ hV1
       have hbA : Below w8.heap.size w8 ((w8.alloc (.cells #[.int .u8 (97 + L)] 5)).drew) := below_drew (below_alloc (Below.refl _ _) _)
       have hvsA := (hbA.cell (World.block_lt_of_cell? _ _ hvs)).trans hvs
       have hyA := (hbA.cell (World.block_lt_of_cell? _ _ hy0)).trans hy0
       have HSA := mk_ (Kd.R_below HS8.out hbA)
       have HOA := mk_ (Kd.R_below HO8.out hbA)
       have HBA := mk_ (below_step HB8.out hbA)
       have hfzA := (Kd.R_celln ByteArray.empty HSA.out kk k0 k1_).2
       have hceA := (Kd.R_celln ByteArray.empty HSA.out kk k0 k1_).1
       clear hV hV1 hbA
       go_region
       clear hvs hy0 hvsA hyA HSA HOA HBA hfzA hceA hconv hsum hfz hce hL1 hL2 hL3 hL4
       obtain ⟨wa, hwa⟩ : ∃ wa, wa = w8.alloc (.cells #[.int .u8 (97 + L)] 5) := ⟨_, rfl⟩
       have hba : Below w8.heap.size w8 wa := by rw [hwa]; exact below_alloc (Below.refl _ _) _
       rw [← hwa]
       have HSa := Kd.R_below HS8.out hba
       have HOa := Kd.R_below HO8.out hba
       have HBa := below_step HB8.out hba
       obtain ⟨hSp, hgp⟩ := Kd.R_putg HSa kk (s ++ V)
       have HSp := mk_ (Kd.R_drew hSp)
       have HOp := mk_ (Kd.R_drew (Kd.R_over HOa HSa (by decide) hgp))
       have HBp := mk_ (below_drew (below_set (j := kk.toNat) (v := .string (s ++ V)) HBa HGW.out))
       clear hba hwa HSa HOa HBa hSp hgp HS8 HO8 HB8
       obtain ⟨wp, hwp⟩ : ∃ wp, wp = (wa.setCell ⟨gw, kk.toNat, none⟩ (.string (s ++ V))).drew := ⟨_, rfl⟩
       rw [← hwp] at HSp HOp HBp ⊢
       clear hwp
       have HWZ' := mk_ (show wrap64 (z + 1) = z + 1 from by have := Kd.C_max HCK.out.2; unfold wrap64; omega)
       go_wp2
       go_roundg k2
       case measure => omega
       case rel =>
        have hV := HV.out
        refine ⟨j + 1, z + 1, vs.set kk.toNat (s ++ V), by rw [HWZ'.out], ⟨by have := HZJ.out; omega⟩, ⟨by have := HJ.out; omega⟩, ⟨?_⟩, ⟨by rw [List.length_set]; exact HVL.out⟩, ⟨?_⟩, HSp, HOp, HBp⟩
        ·have h := HKSA.out
         rw [if_pos ⟨HGG.out, HL2.out, HN12.out⟩, ← hV] at h
         exact h
        ·intro s' hs'
         rcases List.mem_or_eq_of_mem_set hs' with h | h
         ·exact HVZ.out s' h
         ·rw [h, ByteArray.size_append, HV1.out]
          have h1 := HS12.out
          have h2 := HN12.out
          omega

end Go.Proofs.Ytkoackkimdanjaa.QFnLegs
