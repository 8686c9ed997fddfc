-- Written by this session's own program (wip/pp_patch.py, wip/pp.sh) out of the given translation. Not trusted: Lean checks it.
import Derived.Test.YtabfkalcjfjkiaaQFnBestx0
import Derived.Test.YtabfkalcjfjkiaaQFnBestx4
import Derived.Test.YtabfkalcjfjkiaaQFnBestx6
namespace Go.Proofs.Ytabfkalcjfjkiaa.QFnBest
open Go.RowKit Go.Proofs.YtabfkalcjfjkiaaW.PrintWords Go.Proofs.YtabfkalcjfjkiaaW.PrintLast Go.Proofs.YtabfkalcjfjkiaaW.PrintMore
attribute [local go_sem] max2_int min2_int max_two min_two max_three min_three max_four min_four   -- for this text's walks alone
open Go.Proofs.Ytabfkalcjfjkiaa.Ext
attribute [local go_sem high] ext_gtr ext_leq
set_option linter.unusedVariables false
set_option linter.unusedSimpArgs false

/-! ### impl_Threshold: function 8 -/
mutual
def impl_Threshold.j0 : Nat → List (List (S33)) → Int → Bool → Option ((List (S33)) × Int × Bool)
 | 0, _, _, _ => none
 | k + 1, x0, x1, x19 => if x19 = true then (some (([] : List (S33)), 0, false)) else (impl_Threshold.l0 k x0 x1 ([] : List (S33)) 0)
def impl_Threshold.l0 : Nat → List (List (S33)) → Int → List (S33) → Int → Option ((List (S33)) × Int × Bool)
 | 0, _, _, _, _ => none
 | k + 1, x0, x1, x7, x8 => (impl_bound.f k x0 x8).bind fun t290 => (if t290 > 0 then ((impl_best.f x7 x1).bind fun t294 => (if (t294.length : Int) = x1 then (if 0 ≤ (wrap64 (x1 - 1)) then (if (wrap64 (x1 - 1)) < (t294.length : Int) then ((impl_bound.f k x0 x8).bind fun t298 => (impl_Threshold.j2 k x0 x1 x7 x8 (decide (((rd_T33 t294 (wrap64 (x1 - 1))).f1) > t298)))) else (none)) else (none)) else (impl_Threshold.j2 k x0 x1 x7 x8 false))) else ((impl_best.f x7 x1).bind fun t291 => (some (t291, x8, true))))
def impl_Threshold.j2 : Nat → List (List (S33)) → Int → List (S33) → Int → Bool → Option ((List (S33)) × Int × Bool)
 | 0, _, _, _, _, _ => none
 | k + 1, x0, x1, x7, x8, x44 => if x44 = true then ((impl_best.f x7 x1).bind fun t299 => (some (t299, x8, true))) else (impl_Threshold.l1 k x0 x1 x7 x8 x0 (x0.length : Int) 0)
def impl_Threshold.l1 : Nat → List (List (S33)) → Int → List (S33) → Int → List (List (S33)) → Int → Int → Option ((List (S33)) × Int × Bool)
 | 0, _, _, _, _, _, _, _ => none
 | k + 1, x0, x1, x7, x8, x45, x46, x47 => if x47 < x46 then (if 0 ≤ x47 then (if x47 < (x45.length : Int) then (if x8 < ((rd_L3 x45 x47).length : Int) then (if 0 ≤ x8 then ((impl_scoreIn.f k x7 ((rd_T33 (rd_L3 x45 x47) x8).f0)).bind fun t304 => (if t304 = 0 then ((impl_total.f k x0 ((rd_T33 (rd_L3 x45 x47) x8).f0)).bind fun t307 => (if x7.length < 8796093022208 then (impl_Threshold.l1 k x0 x1 (x7 ++ [(⟨(rd_T33 (rd_L3 x45 x47) x8).f0, t307⟩ : S33)]) x8 x45 x46 (wrap64 (x47 + 1))) else (none))) else (impl_Threshold.l1 k x0 x1 x7 x8 x45 x46 (wrap64 (x47 + 1))))) else (none)) else (impl_Threshold.l1 k x0 x1 x7 x8 x45 x46 (wrap64 (x47 + 1)))) else (none)) else (none)) else (impl_Threshold.l0 k x0 x1 x7 (wrap64 (x8 + 1)))
end
def impl_Threshold.f (k : Nat) (l0 : List (List (S33))) (a1 : Int) : Option ((List (S33)) × Int × Bool) := (impl_areRows.f k l0).bind fun t288 => (if t288 = true then ((impl_within.f a1 1 10).bind fun t289 => (impl_Threshold.j0 k l0 a1 (!t289))) else (impl_Threshold.j0 k l0 a1 true))
theorem impl_Threshold.mono_l : ∀ k, (∀ y0 y1 y2, LeO (impl_Threshold.j0 k y0 y1 y2) (impl_Threshold.j0 (k + 1) y0 y1 y2)) ∧ (∀ y0 y1 y2 y3, LeO (impl_Threshold.l0 k y0 y1 y2 y3) (impl_Threshold.l0 (k + 1) y0 y1 y2 y3)) ∧ (∀ y0 y1 y2 y3 y4, LeO (impl_Threshold.j2 k y0 y1 y2 y3 y4) (impl_Threshold.j2 (k + 1) y0 y1 y2 y3 y4)) ∧ (∀ y0 y1 y2 y3 y4 y5 y6, LeO (impl_Threshold.l1 k y0 y1 y2 y3 y4 y5 y6) (impl_Threshold.l1 (k + 1) y0 y1 y2 y3 y4 y5 y6))
 | 0 => ⟨fun _ _ _ r h => by simp [impl_Threshold.j0] at h, fun _ _ _ _ r h => by simp [impl_Threshold.l0] at h, fun _ _ _ _ _ r h => by simp [impl_Threshold.j2] at h, fun _ _ _ _ _ _ _ r h => by simp [impl_Threshold.l1] at h⟩
 | k + 1 => by
  obtain ⟨ih0, ih1, ih2, ih3⟩ := impl_Threshold.mono_l k
  refine ⟨?_, ?_, ?_, ?_⟩
  ·intro y0 y1 y2
   unfold impl_Threshold.j0
   repeat' first
   | (with_reducible exact ih0 _ _ _)
   | (with_reducible exact ih1 _ _ _ _)
   | (with_reducible exact ih2 _ _ _ _ _)
   | (with_reducible exact ih3 _ _ _ _ _ _ _)
   | (with_reducible exact impl_areRows.mono _ _)
   | (with_reducible exact impl_bound.mono _ _ _)
   | (with_reducible exact impl_scoreIn.mono _ _ _)
   | (with_reducible exact impl_total.mono _ _ _)
   | (with_reducible exact LeO.refl _)
   | (with_reducible exact LeO.none _)
   | (with_reducible refine LeO.ite ?_ ?_)
   | (with_reducible refine LeO.bind ?_ (fun _ => ?_))
   | exact ih0 _ _ _
   | exact ih1 _ _ _ _
   | exact ih2 _ _ _ _ _
   | exact ih3 _ _ _ _ _ _ _
   | exact impl_areRows.mono _ _
   | exact impl_bound.mono _ _ _
   | exact impl_scoreIn.mono _ _ _
   | exact impl_total.mono _ _ _
   | exact LeO.none _
   | refine LeO.ite ?_ ?_
   | refine LeO.bind ?_ (fun _ => ?_)
  ·intro y0 y1 y2 y3
   unfold impl_Threshold.l0
   repeat' first
   | (with_reducible exact ih0 _ _ _)
   | (with_reducible exact ih1 _ _ _ _)
   | (with_reducible exact ih2 _ _ _ _ _)
   | (with_reducible exact ih3 _ _ _ _ _ _ _)
   | (with_reducible exact impl_areRows.mono _ _)
   | (with_reducible exact impl_bound.mono _ _ _)
   | (with_reducible exact impl_scoreIn.mono _ _ _)
   | (with_reducible exact impl_total.mono _ _ _)
   | (with_reducible exact LeO.refl _)
   | (with_reducible exact LeO.none _)
   | (with_reducible refine LeO.ite ?_ ?_)
   | (with_reducible refine LeO.bind ?_ (fun _ => ?_))
   | exact ih0 _ _ _
   | exact ih1 _ _ _ _
   | exact ih2 _ _ _ _ _
   | exact ih3 _ _ _ _ _ _ _
   | exact impl_areRows.mono _ _
   | exact impl_bound.mono _ _ _
   | exact impl_scoreIn.mono _ _ _
   | exact impl_total.mono _ _ _
   | exact LeO.none _
   | refine LeO.ite ?_ ?_
   | refine LeO.bind ?_ (fun _ => ?_)
  ·intro y0 y1 y2 y3 y4
   unfold impl_Threshold.j2
   repeat' first
   | (with_reducible exact ih0 _ _ _)
   | (with_reducible exact ih1 _ _ _ _)
   | (with_reducible exact ih2 _ _ _ _ _)
   | (with_reducible exact ih3 _ _ _ _ _ _ _)
   | (with_reducible exact impl_areRows.mono _ _)
   | (with_reducible exact impl_bound.mono _ _ _)
   | (with_reducible exact impl_scoreIn.mono _ _ _)
   | (with_reducible exact impl_total.mono _ _ _)
   | (with_reducible exact LeO.refl _)
   | (with_reducible exact LeO.none _)
   | (with_reducible refine LeO.ite ?_ ?_)
   | (with_reducible refine LeO.bind ?_ (fun _ => ?_))
   | exact ih0 _ _ _
   | exact ih1 _ _ _ _
   | exact ih2 _ _ _ _ _
   | exact ih3 _ _ _ _ _ _ _
   | exact impl_areRows.mono _ _
   | exact impl_bound.mono _ _ _
   | exact impl_scoreIn.mono _ _ _
   | exact impl_total.mono _ _ _
   | exact LeO.none _
   | refine LeO.ite ?_ ?_
   | refine LeO.bind ?_ (fun _ => ?_)
  ·intro y0 y1 y2 y3 y4 y5 y6
   unfold impl_Threshold.l1
   repeat' first
   | (with_reducible exact ih0 _ _ _)
   | (with_reducible exact ih1 _ _ _ _)
   | (with_reducible exact ih2 _ _ _ _ _)
   | (with_reducible exact ih3 _ _ _ _ _ _ _)
   | (with_reducible exact impl_areRows.mono _ _)
   | (with_reducible exact impl_bound.mono _ _ _)
   | (with_reducible exact impl_scoreIn.mono _ _ _)
   | (with_reducible exact impl_total.mono _ _ _)
   | (with_reducible exact LeO.refl _)
   | (with_reducible exact LeO.none _)
   | (with_reducible refine LeO.ite ?_ ?_)
   | (with_reducible refine LeO.bind ?_ (fun _ => ?_))
   | exact ih0 _ _ _
   | exact ih1 _ _ _ _
   | exact ih2 _ _ _ _ _
   | exact ih3 _ _ _ _ _ _ _
   | exact impl_areRows.mono _ _
   | exact impl_bound.mono _ _ _
   | exact impl_scoreIn.mono _ _ _
   | exact impl_total.mono _ _ _
   | exact LeO.none _
   | refine LeO.ite ?_ ?_
   | refine LeO.bind ?_ (fun _ => ?_)
theorem impl_Threshold.mono : ∀ a0 a1 k, LeO (impl_Threshold.f k a0 a1) (impl_Threshold.f (k + 1) a0 a1) := by
 intro a0 a1 k
 obtain ⟨ih0, ih1, ih2, ih3⟩ := impl_Threshold.mono_l k
 unfold impl_Threshold.f
 repeat' first
   | (with_reducible exact ih0 _ _ _)
   | (with_reducible exact ih1 _ _ _ _)
   | (with_reducible exact ih2 _ _ _ _ _)
   | (with_reducible exact ih3 _ _ _ _ _ _ _)
   | (with_reducible exact impl_areRows.mono _ _)
   | (with_reducible exact impl_bound.mono _ _ _)
   | (with_reducible exact impl_scoreIn.mono _ _ _)
   | (with_reducible exact impl_total.mono _ _ _)
   | (with_reducible exact LeO.refl _)
   | (with_reducible exact LeO.none _)
   | (with_reducible refine LeO.ite ?_ ?_)
   | (with_reducible refine LeO.bind ?_ (fun _ => ?_))
   | exact ih0 _ _ _
   | exact ih1 _ _ _ _
   | exact ih2 _ _ _ _ _
   | exact ih3 _ _ _ _ _ _ _
   | exact impl_areRows.mono _ _
   | exact impl_bound.mono _ _ _
   | exact impl_scoreIn.mono _ _ _
   | exact impl_total.mono _ _ _
   | exact LeO.none _
   | refine LeO.ite ?_ ?_
   | refine LeO.bind ?_ (fun _ => ?_)
def impl_Threshold.T8 : Bool × List (List Nat × List Nat) := (true, [([], []), ([0], [0]), ([], []), ([1, 2], [1, 2]), ([3], [3]), ([4], [4]), ([4], [4]), ([6, 4], [4, 6]), ([5, 7, 4], [4, 5, 7]), ([8, 4], [4, 8]), ([9, 4], [4, 9]), ([4], [4]), ([4], [4]), ([11, 12, 4, 4], [4, 11, 12]), ([10, 13, 4], [4, 10, 13]), ([4, 14], [4, 14])])
def impl_Threshold.B8 : List Nat := [0, 1, 0, 7, 15, 31, 31, 95, 255, 511, 1023, 31, 31, 6175, 16383, 32767]
theorem impl_Threshold.tab8 : rtab .any (opsOf Try.f8 8) = impl_Threshold.T8 := by kernel_rfl
theorem impl_Threshold.bits8 : waitsOk impl_Threshold.T8.2 impl_Threshold.B8 = true := by kernel_rfl
def impl_Threshold.T13 : Bool × List (List Nat × List Nat) := (true, [([], []), ([], []), ([], []), ([1, 2], [1, 2]), ([3], [3]), ([4], [4]), ([], []), ([], []), ([], []), ([7, 8], [7, 8]), ([9], [9]), ([10], [10]), ([6, 11], [6, 11]), ([5, 12], [5, 12]), ([13], [13]), ([0, 14, 12], [0, 14]), ([15, 15, 0, 1, 2, 3, 4, 5, 6, 7, 8, 9, 10, 11, 12, 13, 14, 15], [0, 15])])
def impl_Threshold.B13 : List Nat := [0, 0, 0, 6, 14, 30, 0, 0, 0, 384, 896, 1920, 4032, 8190, 16382, 32767, 65535]
theorem impl_Threshold.tab13 : rtab .any (opsOf Try.f8 13) = impl_Threshold.T13 := by kernel_rfl
theorem impl_Threshold.bits13 : waitsOk impl_Threshold.T13.2 impl_Threshold.B13 = true := by kernel_rfl
set_option maxHeartbeats 8000000 in
set_option maxRecDepth 100000 in
theorem impl_Threshold.calls (k : Nat) (A0 : Option Addr) (c0 : Nat) (l0 : List (List (S33))) (a1 : Int) (r1 : List (S33)) (r2 : Int) (r3 : Bool) (w : World) (hr0 : Kd.C (Kd.slice 33 k33) w A0 l0.length l0) (hc0 : l0.length ≤ c0) (h : impl_Threshold.f k l0 a1 = some (r1, r2, r3)) :
  Calls Try.prog 8 #[.slice A0 l0.length c0, .int .i64 a1] w fun e w' => ∃ v0_ : Value, e = .returned (.tuple #[v0_, .int .i64 r2, .bool r3]) ∧ Kd.R k33 33 w' w.heap.size (fun _ => True) v0_ r1 ∧ Below w.heap.size w w' := by
 have hu33 := Try.underlying33
 have HR0 := Aside0.mk hr0
 have HC0 := Aside0.mk hc0
 clear hr0 hc0
 have HB := Aside0.mk (Below.refl w.heap.size w)
 have H : ((impl_areRows.f k l0).bind fun t288 => (if t288 = true then ((impl_within.f a1 1 10).bind fun t289 => (impl_Threshold.j0 k l0 a1 (!t289))) else (impl_Threshold.j0 k l0 a1 true))) = some (r1, r2, r3) := h
 clear h
 have HC3 := Aside0.mk H
 clear H
 go_enter Try.func8, Try.ntmps8
 go_upto_region 1 with (fail)
 go_cut [19] (fun v19 wc => ∃ (kq : Nat) (x19_2 : Bool), v19 = .bool x19_2 ∧ Aside0 (impl_Threshold.j0 kq l0 a1 x19_2 = some (r1, r2, r3)) ∧ Aside0 (kq ≤ k) ∧ Aside0 (Below w.heap.size w wc))
 case first =>
  have H := HC3.out
  clear HC3
  replace H := Option.bind_eq_some_iff.mp H
  obtain ⟨t288, A40, H⟩ := H
  replace H : (if t288 = true then ((impl_within.f a1 1 10).bind fun t289 => (impl_Threshold.j0 k l0 a1 (!t289))) else (impl_Threshold.j0 k l0 a1 true)) = some (r1, r2, r3) := H
  have A4 := Aside0.mk A40
  clear A40
  by_cases c5 : t288 = true
  ·subst c5
   have H1 : ((impl_within.f a1 1 10).bind fun t289 => (impl_Threshold.j0 k l0 a1 (!t289))) = some (r1, r2, r3) := by rw [if_pos rfl] at H; exact H
   clear H
   have H := H1
   clear H1
   replace H := Option.bind_eq_some_iff.mp H
   obtain ⟨t289, A60, H⟩ := H
   replace H : (impl_Threshold.j0 k l0 a1 (!t289)) = some (r1, r2, r3) := H
   have A6 := Aside0.mk A60
   clear A60
   have H' := Aside0.mk H
   clear H
   go_wp2_with (first | ((with_reducible refine gate_callee (f := 57) rfl ?_); refine goesL_ (some 13) rfl rfl Try.func57 (by kernel_rfl) rfl #[.slice A0 l0.length c0] rfl (by (try simp only [List.map_toArray, List.map_cons, List.map_nil]); first | done | rfl | (simp only [List.length_drop, List.length_take]; rfl)) ?_; (with_reducible refine (impl_areRows.calls k _ _ l0 true _ ?side1 ?side2 A4.out).mono ?_); (case side1 => repeat (first | exact (Kd.C_below HR0.out HB.out) | (with_reducible refine Kd.C_alloc ?_ _) | (with_reducible refine Kd.C_drewN ?_ _) | (with_reducible refine Kd.C_drew ?_))); (case side2 => exact HC0.out); rintro e w7 ⟨rfl, hb⟩; refine ⟨_, rfl, ?_⟩; have n0_ := Aside0.mk (below_step sq_b hb); clear HB; have HB := n0_; clear n0_; (try clear hb); (try clear hb2); (try clear hk); (try clear hi)) | (go_at_call 58; (with_reducible refine (impl_within.calls a1 1 10 t289 _ A6.out).mono ?_); rintro e w' ⟨rfl, ⟨nd, rfl⟩⟩))
   go_meet
   case rel => exact ⟨_, (!t289), sq_e, H', ⟨by first | omega | exact Nat.le_refl _⟩, ⟨sq_b⟩⟩
  ·replace c5 := Bool.eq_false_iff.mpr c5
   subst c5
   have H1 : (impl_Threshold.j0 k l0 a1 true) = some (r1, r2, r3) := by rw [if_neg (show ¬ (false = true) by decide)] at H; exact H
   clear H
   have H := H1
   clear H1
   have H' := Aside0.mk H
   clear H
   go_wp2_with (first | ((with_reducible refine gate_callee (f := 57) rfl ?_); refine goesL_ (some 13) rfl rfl Try.func57 (by kernel_rfl) rfl #[.slice A0 l0.length c0] rfl (by (try simp only [List.map_toArray, List.map_cons, List.map_nil]); first | done | rfl | (simp only [List.length_drop, List.length_take]; rfl)) ?_; (with_reducible refine (impl_areRows.calls k _ _ l0 false _ ?side1 ?side2 A4.out).mono ?_); (case side1 => repeat (first | exact (Kd.C_below HR0.out HB.out) | (with_reducible refine Kd.C_alloc ?_ _) | (with_reducible refine Kd.C_drewN ?_ _) | (with_reducible refine Kd.C_drew ?_))); (case side2 => exact HC0.out); rintro e w8 ⟨rfl, hb⟩; refine ⟨_, rfl, ?_⟩; have n0_ := Aside0.mk (below_step sq_b hb); clear HB; have HB := n0_; clear n0_; (try clear hb); (try clear hb2); (try clear hk); (try clear hi)))
   go_meet
   case rel => exact ⟨_, (true), sq_e, H', ⟨by first | omega | exact Nat.le_refl _⟩, ⟨sq_b⟩⟩
 case rest =>
  clear HC3
  (try clear p2); (try clear c5); (try clear c8)
  obtain ⟨kq, x19_2, rfl, HA, HJ2, HB⟩ := hcut
  cases kq with
  | zero => exact absurd HA.out (by simp [impl_Threshold.j0])
  | succ kj2 =>
   have H := HA.out
   clear HA
   simp only [impl_Threshold.j0] at H
   by_cases c9 : x19_2 = true
   ·subst c9
    have H1 : (some (([] : List (S33)), 0, false)) = some (r1, r2, r3) := by rw [if_pos rfl] at H; exact H
    clear H
    have H := H1
    clear H1
    simp only [Option.some.injEq, Prod.mk.injEq] at H
    obtain ⟨rfl, rfl, rfl⟩ := H
    go_wp2
    go_ret3
    exact ⟨_, sq_w, by first | exact Kd.R_nil _ _ _ _ _ | exact Kd.N_nil _ _ _ _ _ | exact Kd.V_nil _ _ _ _ _ | exact Kd.Q_nil _ _ _ _ _ | exact Kd.S_nil _ _ _ _ _, sq_b⟩
   ·replace c9 := Bool.eq_false_iff.mpr c9
    subst c9
    have H1 : (impl_Threshold.l0 kj2 l0 a1 ([] : List (S33)) 0) = some (r1, r2, r3) := by rw [if_neg (show ¬ (false = true) by decide)] at H; exact H
    clear H
    have H := H1
    clear H1
    have H' := Aside0.mk H
    clear H
    go_wp2
    go_loopg [7, 8] kj2 (fun kq v7 v8 w' => ∃ (x7_2 : List (S33)) (x8_2 : Int), v8 = .int .i64 x8_2 ∧ Aside0 (impl_Threshold.l0 kq l0 a1 x7_2 x8_2 = some (r1, r2, r3)) ∧ Aside0 (kq ≤ kj2) ∧ Aside0 (Kd.R k33 33 w' w.heap.size (fun _ => True) v7 x7_2) ∧ Aside0 (Below w.heap.size w w'))
    case atStart => exact ⟨(([] : List (S33))), (0), sq_e, H', ⟨Nat.le_refl _⟩, ⟨by first | exact Kd.R_nil _ _ _ _ _ | exact Kd.N_nil _ _ _ _ _ | exact Kd.V_nil _ _ _ _ _ | exact Kd.Q_nil _ _ _ _ _ | exact Kd.S_nil _ _ _ _ _⟩, ⟨sq_b⟩⟩
    case round =>
     clear H'
     (try clear p2); (try clear c5); (try clear c8); (try clear c9); (try clear p2)
     obtain ⟨x7_2, x8_2, rfl, HA, HK2, HO_7, HB⟩ := hrel
     cases gk with
     | zero => exact absurd HA.out (by simp [impl_Threshold.l0])
     | succ k2 =>
      have H := HA.out
      clear HA
      simp only [impl_Threshold.l0] at H
      replace H := Option.bind_eq_some_iff.mp H
      obtain ⟨t290, A100, H⟩ := H
      replace H : (if t290 > 0 then ((impl_best.f x7_2 a1).bind fun t294 => (if (t294.length : Int) = a1 then (if 0 ≤ (wrap64 (a1 - 1)) then (if (wrap64 (a1 - 1)) < (t294.length : Int) then ((impl_bound.f k2 l0 x8_2).bind fun t298 => (impl_Threshold.j2 k2 l0 a1 x7_2 x8_2 (decide (((rd_T33 t294 (wrap64 (a1 - 1))).f1) > t298)))) else (none)) else (none)) else (impl_Threshold.j2 k2 l0 a1 x7_2 x8_2 false))) else ((impl_best.f x7_2 a1).bind fun t291 => (some (t291, x8_2, true)))) = some (r1, r2, r3) := H
      have A10 := Aside0.mk A100
      clear A100
      by_cases c11 : t290 > 0
      ·rw [if_pos c11] at H
       have c11b0 : decide (0 < t290) = true := decide_eq_true c11
       clear c11
       replace H := Option.bind_eq_some_iff.mp H
       obtain ⟨t294, A120, H⟩ := H
       replace H : (if (t294.length : Int) = a1 then (if 0 ≤ (wrap64 (a1 - 1)) then (if (wrap64 (a1 - 1)) < (t294.length : Int) then ((impl_bound.f k2 l0 x8_2).bind fun t298 => (impl_Threshold.j2 k2 l0 a1 x7_2 x8_2 (decide (((rd_T33 t294 (wrap64 (a1 - 1))).f1) > t298)))) else (none)) else (none)) else (impl_Threshold.j2 k2 l0 a1 x7_2 x8_2 false)) = some (r1, r2, r3) := H
       have A12 := Aside0.mk A120
       clear A120
       have HC13 := Aside0.mk H
       clear H
       go_upto_region 8 with (first | ((with_reducible refine gate_callee (f := 59) rfl ?_); refine goesL_ (some 22) rfl rfl Try.func59 (by kernel_rfl) rfl #[.slice A0 l0.length c0, .int .i64 x8_2] rfl (by (try simp only [List.map_toArray, List.map_cons, List.map_nil]); first | done | rfl | (simp only [List.length_drop, List.length_take]; rfl)) ?_; (with_reducible refine (impl_bound.calls k2 _ _ l0 x8_2 t290 _ ?side1 ?side2 A10.out).mono ?_); (case side1 => repeat (first | exact (Kd.C_below HR0.out HB.out) | (with_reducible refine Kd.C_alloc ?_ _) | (with_reducible refine Kd.C_drewN ?_ _) | (with_reducible refine Kd.C_drew ?_))); (case side2 => exact HC0.out); rintro e w' ⟨rfl, ⟨nd, rfl⟩⟩; refine ⟨_, rfl, ?_⟩; obtain ⟨Ao14, co14, eo14⟩ := Kd.R_slice HO_7.out; subst eo14) | ((with_reducible refine gate_callee (f := 60) rfl ?_); refine goesL_ (some 28) rfl rfl Try.func60 (by kernel_rfl) rfl #[.slice Ao14 x7_2.length co14, .int .i64 a1] rfl (by (try simp only [List.map_toArray, List.map_cons, List.map_nil]); first | done | rfl | (simp only [List.length_drop, List.length_take]; rfl)) ?_; (with_reducible refine (impl_best.calls _ _ x7_2 a1 t294 _ ?side1 ?side2 A12.out).mono ?_); (case side1 => repeat (first | exact (Kd.R_reads' HO_7.out).2.2 | (with_reducible refine Kd.C_alloc ?_ _) | (with_reducible refine Kd.C_drewN ?_ _) | (with_reducible refine Kd.C_drew ?_))); (case side2 => exact (Kd.R_reads' HO_7.out).2.1); rintro e w15 ⟨v295, rfl, ho0, hb⟩; refine ⟨_, rfl, ?_⟩; have n0_ := Aside0.mk (Kd.R_elder' (sq_r HO_7) (Kd.R_base ho0) hb); have n1_ := Aside0.mk (Kd.R_lower (Kd.R_new' ho0 (Kd.R_lt (sq_r HO_7))) (below_size sq_b)); have n2_ := Aside0.mk (below_step sq_b hb); clear HO_7; clear HB; have HO_7 := n0_; have HO296 := n1_; have HB := n2_; clear n0_ n1_ n2_; (try clear hb); (try clear hb2); (try clear hk); (try clear hi); (try clear ho0)))
       (try simp only [Act.put, List.setIfInBounds_toArray, List.set_cons_zero, List.set_cons_succ])
       go_cut [44] (fun v44 wc => ∃ (kq : Nat) (x44_12 : Bool), v44 = .bool x44_12 ∧ Aside0 (impl_Threshold.j2 kq l0 a1 x7_2 x8_2 x44_12 = some (r1, r2, r3)) ∧ Aside0 (kq ≤ k2) ∧ Aside0 (Kd.R k33 33 wc w.heap.size (fun _ => True) (.slice Ao14 x7_2.length co14) x7_2) ∧ Aside0 (Below w.heap.size w wc))
       case first =>
        have H := HC13.out
        clear HC13
        by_cases c16 : (t294.length : Int) = a1
        ·rw [if_pos c16] at H
         have c16b0 : ((t294.length : Int) == a1) = true := beq_iff_eq.mpr c16
         have c16b1 : ((t294.length : Int) != a1) = false := bne_eq_false_iff_eq.mpr c16
         clear c16
         (first | rw [c16b0] | (simp only [i64_w, i32_w]; rw [c16b0]) | skip)
         obtain ⟨ji17, hji17⟩ : ∃ j_ : Int, (wrap64 (a1 - 1)) = j_ := ⟨_, rfl⟩
         replace H : (if 0 ≤ (ji17) then (if (ji17) < (t294.length : Int) then ((impl_bound.f k2 l0 x8_2).bind fun t298 => (impl_Threshold.j2 k2 l0 a1 x7_2 x8_2 (decide (((rd_T33 t294 (ji17)).f1) > t298)))) else (none)) else (none)) = some (r1, r2, r3) := by first | (rw [hji17] at H; exact H) | (simp only [hji17] at H ⊢; exact H)
         have hji17w : (IntKind.i64.wrap (a1 - 1)) = ji17 := (i64_w _).trans hji17
         by_cases c18 : 0 ≤ (ji17)
         rotate_left
         ·rw [if_neg c18] at H
          exact absurd H (by simp)
         rw [if_pos c18] at H
         have c18b0 : decide (0 ≤ (ji17)) = true := decide_eq_true c18
         clear c18
         by_cases c19 : (ji17) < (t294.length : Int)
         rotate_left
         ·rw [if_neg c19] at H
          exact absurd H (by simp)
         rw [if_pos c19] at H
         have c19b0 : decide ((ji17) < (t294.length : Int)) = true := decide_eq_true c19
         clear c19
         replace H := Option.bind_eq_some_iff.mp H
         obtain ⟨t298, A200, H⟩ := H
         replace H : (impl_Threshold.j2 k2 l0 a1 x7_2 x8_2 (decide (((rd_T33 t294 (ji17)).f1) > t298))) = some (r1, r2, r3) := H
         have A20 := Aside0.mk A200
         clear A200
         have H' := Aside0.mk H
         clear H
         try go_wp2
         have n0_ := Aside0.mk (Kd.R_drew HO_7.out)
         have n1_ := Aside0.mk (Kd.R_drew HO296.out)
         have n2_ := Aside0.mk (below_drew1 HB.out)
         clear HO_7
         clear HO296
         clear HB
         have HO_7 := n0_
         have HO296 := n1_
         have HB := n2_
         clear n0_ n1_ n2_
         obtain ⟨Ao22, co22, eo22⟩ := Kd.R_slice HO296.out
         (first | subst eo22 | (injection eo22 with f1_ f2_ f3_; have f4_ := f1_.symm; have f5_ := f3_.symm; clear f1_ f2_ f3_; subst f4_; subst f5_))
         have p297 : 0 ≤ ((ji17) : Int) := sq_d
         have q297 : (ji17) < (t294.length : Int) := sq_d
         (try (obtain ⟨Aq297, cq297, eq297⟩ := Kd.R_slice HO296.out; subst eq297))
         obtain ⟨ad297, e297, hx297_0, hx297_1⟩ := at_T33 (Kd.R_reads' HO296.out).2.2 (ji17) p297 q297
         cases e297
         replace p297 := eq_true p297
         replace q297 := eq_true q297
         refine start_ (n := 16) (S := fun w' => w'.cell? (ad297.add (((ji17)).toNat * 2)) = some (.int .i64 ((rd_T33 t294 (ji17)).f0)) ∧ w'.cell? ⟨(ad297.add (((ji17)).toNat * 2)).block, (ad297.add (((ji17)).toNat * 2)).off + 1, none⟩ = some (.int .i64 ((rd_T33 t294 (ji17)).f1))) (ds := []) #[false, false, false, false, false, false, false, false, false, false, false, false, false, false, false, false] (by kernel_rfl) rfl rfl ⟨hx297_0, hx297_1⟩ (fun hHeld => ?_); refine with_tabW impl_Threshold.tab8 impl_Threshold.bits8 (fun HT_ HW_ => ?_)
         generalize w15.drew = w21 at HO_7 HO296 HB hx297_0 hx297_1 hHeld ⊢
         refine pu_ 0 (some 29) #[true, false, false, false, false, false, false, false, false, false, false, false, false, false, false, false] HT_ ?_
         refine pu_ 1 (some 30) #[true, true, false, false, false, false, false, false, false, false, false, false, false, false, false, false] HT_ ?_
         refine pu_ 2 (some 31) #[true, true, true, false, false, false, false, false, false, false, false, false, false, false, false, false] HT_ ?_
         refine pu_ 3 (some 32) #[true, true, true, true, false, false, false, false, false, false, false, false, false, false, false, false] HT_ ?_
         refine pu_ 4 (some 33) #[true, true, true, true, true, false, false, false, false, false, false, false, false, false, false, false] HT_ ?_
         refine pu_ 5 (some 34) #[true, true, true, true, true, true, false, false, false, false, false, false, false, false, false, false] HT_ ?_
         refine pu_ 6 (some 35) #[true, true, true, true, true, true, true, false, false, false, false, false, false, false, false, false] HT_ ?_
         refine pu_ 7 (some 36) #[true, true, true, true, true, true, true, true, false, false, false, false, false, false, false, false] HT_ ?_
         refine pu_ 8 (some 37) #[true, true, true, true, true, true, true, true, true, false, false, false, false, false, false, false] HT_ ?_
         refine pu_ 9 (some 38) #[true, true, true, true, true, true, true, true, true, true, false, false, false, false, false, false] HT_ ?_
         refine pu_ 11 (some 40) #[true, true, true, true, true, true, true, true, true, true, false, true, false, false, false, false] HT_ ?_
         refine pu_ 12 (some 41) #[true, true, true, true, true, true, true, true, true, true, false, true, true, false, false, false] HT_ ?_
         refine take_ (i := 10) (N := some 39) (v := ?_) (a' := ?_) #[true, true, true, true, true, true, true, true, true, true, true, true, true, false, false, false] rfl rfl (take_ofW HT_.out HW_.out (by kernel_rfl)) (fun _ _ _ h => h) (Or.inl ⟨by rfl, ?_⟩) hHeld ?_ ?_
         rotate_left
         ·rintro w' ⟨s0, s1⟩
          go_simp
          with_reducible rfl
         rotate_left
         ·simp only [Act.put, List.setIfInBounds_toArray, List.set_cons_zero, List.set_cons_succ, i64_w, i32_w]
          rfl
         refine one_ (i := 13) (N := some 42) #[true, true, true, true, true, true, true, true, true, true, true, true, true, true, false, false] rfl rfl (one_of HT_.out (by kernel_rfl)) (by decide) (fun K hK => ?_)
         refine goes_ Try.func59 (by kernel_rfl) rfl #[.slice A0 l0.length c0, .int .i64 x8_2] (by rfl) rfl rfl (by (try simp only [List.map_toArray, List.map_cons, List.map_nil]); first | done | rfl | (simp only [List.length_drop, List.length_take]; rfl)) ?_
         with_reducible refine (impl_bound.calls k2 _ _ l0 x8_2 t298 _ ?side1 ?side2 A20.out).mono ?_
         (case side1 => repeat (first | exact (Kd.C_below HR0.out HB.out) | (with_reducible refine Kd.C_alloc ?_ _) | (with_reducible refine Kd.C_drewN ?_ _) | (with_reducible refine Kd.C_drew ?_)))
         (case side2 => exact HC0.out)
         rintro e w' ⟨rfl, ⟨nd, rfl⟩⟩
         refine ⟨_, rfl, ?_⟩
         refine hK.out _ _ ⟨hHeld.1, hHeld.2⟩ (fun hHeld => ?_)
         clear hK K
         refine norm_ (a' := ?_) ?_ ?_
         rotate_left
         ·show Act.put _ (some 42) _ = _
          simp only [Act.put, List.setIfInBounds_toArray, List.set_cons_zero, List.set_cons_succ, i64_w, i32_w]
          rfl
         refine pu_ 14 (some 43) #[true, true, true, true, true, true, true, true, true, true, true, true, true, true, true, false] HT_ ?_
         refine pu_ 15 (some 44) #[true, true, true, true, true, true, true, true, true, true, true, true, true, true, true, true] HT_ ?_
         refine done_ (done_of HT_.out (by kernel_rfl)) ?_
         try go_wp2
         go_meet
         case rel => exact ⟨_, (decide (((rd_T33 t294 (ji17)).f1) > t298)), (by first | rfl | (simp; done) | (simp [ext_bne_nil, ext_beq_nil]; done) | (simp only [← hji17] <;> (first | rfl | simp)) | (simp [*]; done)), H', ⟨by have := HJ2.out; have := HK2.out; first | omega | exact Nat.le_refl _⟩, ⟨by (with_reducible repeat (first | apply Kd.R_alloc | apply Kd.R_drewN | apply Kd.R_drew)); exact Kd.R_mono HO_7.out (fun _ hk => trivial)⟩, ⟨sq_b⟩⟩
        ·rw [if_neg c16] at H
         have c16b0 : ((t294.length : Int) == a1) = false := beq_eq_false_iff_ne.mpr c16
         have c16b1 : ((t294.length : Int) != a1) = true := bne_iff_ne.mpr c16
         (first | rw [c16b0] | (simp only [i64_w, i32_w]; rw [c16b0]) | skip)
         have H' := Aside0.mk H
         clear H
         try go_wp2
         have n0_ := Aside0.mk (Kd.R_drew HO_7.out)
         have n1_ := Aside0.mk (Kd.R_drew HO296.out)
         have n2_ := Aside0.mk (below_drew1 HB.out)
         clear HO_7
         clear HO296
         clear HB
         have HO_7 := n0_
         have HO296 := n1_
         have HB := n2_
         clear n0_ n1_ n2_
         obtain ⟨Ao24, co24, eo24⟩ := Kd.R_slice HO296.out
         (first | subst eo24 | (injection eo24 with f1_ f2_ f3_; have f4_ := f1_.symm; have f5_ := f3_.symm; clear f1_ f2_ f3_; subst f4_; subst f5_))
         refine start_ (n := 16) (S := fun w' => True) (ds := []) #[false, false, false, false, false, false, false, false, false, false, false, false, false, false, false, false] (by kernel_rfl) rfl rfl trivial (fun hHeld => ?_); refine with_tabW impl_Threshold.tab8 impl_Threshold.bits8 (fun HT_ HW_ => ?_)
         generalize w15.drew = w23 at HO_7 HO296 HB hHeld ⊢
         refine pu_ 0 (some 29) #[true, false, false, false, false, false, false, false, false, false, false, false, false, false, false, false] HT_ ?_
         refine pu_ 1 (some 30) #[true, true, false, false, false, false, false, false, false, false, false, false, false, false, false, false] HT_ ?_
         refine pu_ 2 (some 31) #[true, true, true, false, false, false, false, false, false, false, false, false, false, false, false, false] HT_ ?_
         refine pu_ 3 (some 32) #[true, true, true, true, false, false, false, false, false, false, false, false, false, false, false, false] HT_ ?_
         refine pu_ 4 (some 33) #[true, true, true, true, true, false, false, false, false, false, false, false, false, false, false, false] HT_ ?_
         refine pure_ (i := 5) (N := some 34) (v := undef) (a' := ?_) #[true, true, true, true, true, true, false, false, false, false, false, false, false, false, false, false] rfl rfl (any_of HT_.out (by kernel_rfl)) (fun _ _ _ h => h) (Or.inr ⟨by rfl, rfl⟩) ?_ ?_
         rotate_left
         ·simp only [Act.put, List.setIfInBounds_toArray, List.set_cons_zero, List.set_cons_succ, i64_w, i32_w]
          rfl
         refine pure_ (i := 6) (N := some 35) (v := undef) (a' := ?_) #[true, true, true, true, true, true, true, false, false, false, false, false, false, false, false, false] rfl rfl (any_of HT_.out (by kernel_rfl)) (fun _ _ _ h => h) (Or.inr ⟨by rfl, rfl⟩) ?_ ?_
         rotate_left
         ·simp only [Act.put, List.setIfInBounds_toArray, List.set_cons_zero, List.set_cons_succ, i64_w, i32_w]
          rfl
         refine pure_ (i := 7) (N := some 36) (v := undef) (a' := ?_) #[true, true, true, true, true, true, true, true, false, false, false, false, false, false, false, false] rfl rfl (any_of HT_.out (by kernel_rfl)) (fun _ _ _ h => h) (Or.inr ⟨by rfl, rfl⟩) ?_ ?_
         rotate_left
         ·simp only [Act.put, List.setIfInBounds_toArray, List.set_cons_zero, List.set_cons_succ, i64_w, i32_w]
          rfl
         refine pure_ (i := 8) (N := some 37) (v := undef) (a' := ?_) #[true, true, true, true, true, true, true, true, true, false, false, false, false, false, false, false] rfl rfl (any_of HT_.out (by kernel_rfl)) (fun _ _ _ h => h) (Or.inr ⟨by rfl, rfl⟩) ?_ ?_
         rotate_left
         ·simp only [Act.put, List.setIfInBounds_toArray, List.set_cons_zero, List.set_cons_succ, i64_w, i32_w]
          rfl
         refine pure_ (i := 9) (N := some 38) (v := undef) (a' := ?_) #[true, true, true, true, true, true, true, true, true, true, false, false, false, false, false, false] rfl rfl (any_of HT_.out (by kernel_rfl)) (fun _ _ _ h => h) (Or.inr ⟨by rfl, rfl⟩) ?_ ?_
         rotate_left
         ·simp only [Act.put, List.setIfInBounds_toArray, List.set_cons_zero, List.set_cons_succ, i64_w, i32_w]
          rfl
         refine pure_ (i := 10) (N := some 39) (v := undef) (a' := ?_) #[true, true, true, true, true, true, true, true, true, true, true, false, false, false, false, false] rfl rfl (any_of HT_.out (by kernel_rfl)) (fun _ _ _ h => h) (Or.inr ⟨by rfl, rfl⟩) ?_ ?_
         rotate_left
         ·simp only [Act.put, List.setIfInBounds_toArray, List.set_cons_zero, List.set_cons_succ, i64_w, i32_w]
          rfl
         refine pure_ (i := 11) (N := some 40) (v := undef) (a' := ?_) #[true, true, true, true, true, true, true, true, true, true, true, true, false, false, false, false] rfl rfl (any_of HT_.out (by kernel_rfl)) (fun _ _ _ h => h) (Or.inr ⟨by rfl, rfl⟩) ?_ ?_
         rotate_left
         ·simp only [Act.put, List.setIfInBounds_toArray, List.set_cons_zero, List.set_cons_succ, i64_w, i32_w]
          rfl
         refine pure_ (i := 12) (N := some 41) (v := undef) (a' := ?_) #[true, true, true, true, true, true, true, true, true, true, true, true, true, false, false, false] rfl rfl (any_of HT_.out (by kernel_rfl)) (fun _ _ _ h => h) (Or.inr ⟨by rfl, rfl⟩) ?_ ?_
         rotate_left
         ·simp only [Act.put, List.setIfInBounds_toArray, List.set_cons_zero, List.set_cons_succ, i64_w, i32_w]
          rfl
         refine pure_ (i := 13) (N := some 42) (v := undef) (a' := ?_) #[true, true, true, true, true, true, true, true, true, true, true, true, true, true, false, false] rfl rfl (any_of HT_.out (by kernel_rfl)) (fun _ _ _ h => h) (Or.inr ⟨by rfl, rfl⟩) ?_ ?_
         rotate_left
         ·simp only [Act.put, List.setIfInBounds_toArray, List.set_cons_zero, List.set_cons_succ, i64_w, i32_w]
          rfl
         refine pure_ (i := 14) (N := some 43) (v := undef) (a' := ?_) #[true, true, true, true, true, true, true, true, true, true, true, true, true, true, true, false] rfl rfl (any_of HT_.out (by kernel_rfl)) (fun _ _ _ h => h) (Or.inr ⟨by rfl, rfl⟩) ?_ ?_
         rotate_left
         ·simp only [Act.put, List.setIfInBounds_toArray, List.set_cons_zero, List.set_cons_succ, i64_w, i32_w]
          rfl
         refine pu_ 15 (some 44) #[true, true, true, true, true, true, true, true, true, true, true, true, true, true, true, true] HT_ ?_
         refine done_ (done_of HT_.out (by kernel_rfl)) ?_
         try go_wp2
         go_meet
         case rel => exact ⟨_, (false), sq_e, H', ⟨by have := HJ2.out; have := HK2.out; first | omega | exact Nat.le_refl _⟩, ⟨by (with_reducible repeat (first | apply Kd.R_alloc | apply Kd.R_drewN | apply Kd.R_drew)); exact Kd.R_mono HO_7.out (fun _ hk => trivial)⟩, ⟨sq_b⟩⟩
       case rest =>
        clear HC13
        (try clear c1); (try clear p2); (try clear q2); (try clear hx2); (try clear c5); (try clear c6); (try clear p6); (try clear c8); (try clear c9); (try clear c11); (try clear c11b0); (try clear c16); (try clear c16b0); (try clear c16b1); (try clear c18); (try clear c18b0); (try clear c19); (try clear c19b0); (try clear hx297_0); (try clear hx297_1); (try clear p2); (try clear p297); (try clear q297)
        obtain ⟨kq, x44_12, rfl, HA, HJ12, HO_7, HB⟩ := hcut
        cases kq with
        | zero => exact absurd HA.out (by simp [impl_Threshold.j2])
        | succ kj12 =>
         have H := HA.out
         clear HA
         simp only [impl_Threshold.j2] at H
         by_cases c25 : x44_12 = true
         ·subst c25
          have H1 : ((impl_best.f x7_2 a1).bind fun t299 => (some (t299, x8_2, true))) = some (r1, r2, r3) := by rw [if_pos rfl] at H; exact H
          clear H
          have H := H1
          clear H1
          replace H := Option.bind_eq_some_iff.mp H
          obtain ⟨t299, A260, H⟩ := H
          replace H : (some (t299, x8_2, true)) = some (r1, r2, r3) := H
          have A26 := Aside0.mk A260
          clear A260
          simp only [Option.some.injEq, Prod.mk.injEq] at H
          obtain ⟨rfl, rfl, rfl⟩ := H
          go_wp2_with (first | ((with_reducible refine gate_callee (f := 60) rfl ?_); refine goesL_ (some 84) rfl rfl Try.func60 (by kernel_rfl) rfl #[.slice Ao14 x7_2.length co14, .int .i64 a1] rfl (by (try simp only [List.map_toArray, List.map_cons, List.map_nil]); first | done | rfl | (simp only [List.length_drop, List.length_take]; rfl)) ?_; (with_reducible refine (impl_best.calls _ _ x7_2 a1 t299 _ ?side1 ?side2 A26.out).mono ?_); (case side1 => repeat (first | exact (Kd.R_reads' HO_7.out).2.2 | (with_reducible refine Kd.C_alloc ?_ _) | (with_reducible refine Kd.C_drewN ?_ _) | (with_reducible refine Kd.C_drew ?_))); (case side2 => exact (Kd.R_reads' HO_7.out).2.1); rintro e w27 ⟨v300, rfl, ho0, hb⟩; refine ⟨_, rfl, ?_⟩; have n0_ := Aside0.mk (Kd.R_elder' (sq_r HO_7) (Kd.R_base ho0) hb); have n1_ := Aside0.mk (Kd.R_lower (Kd.R_new' ho0 (Kd.R_lt (sq_r HO_7))) (below_size sq_b)); have n2_ := Aside0.mk (below_step sq_b hb); clear HO_7; clear HB; have HO_7 := n0_; have HO301 := n1_; have HB := n2_; clear n0_ n1_ n2_; (try clear hb); (try clear hb2); (try clear hk); (try clear hi); (try clear ho0)))
          go_ret3
          exact ⟨_, sq_w, by (with_reducible repeat (first | apply Kd.R_alloc | apply Kd.R_drewN | apply Kd.R_drew)); exact Kd.R_mono HO301.out (fun _ hk => trivial), sq_b⟩
         ·replace c25 := Bool.eq_false_iff.mpr c25
          subst c25
          have H1 : (impl_Threshold.l1 kj12 l0 a1 x7_2 x8_2 l0 (l0.length : Int) 0) = some (r1, r2, r3) := by rw [if_neg (show ¬ (false = true) by decide)] at H; exact H
          clear H
          have H := H1
          clear H1
          have H' := Aside0.mk H
          clear H
          go_wp2
          go_loopg [7, 47] kj12 (fun kq v7 v47 w' => ∃ (x7_4 : List (S33)) (x47_4 : Int), v47 = .int .i64 x47_4 ∧ Aside0 (impl_Threshold.l1 kq l0 a1 x7_4 x8_2 l0 (l0.length : Int) x47_4 = some (r1, r2, r3)) ∧ Aside0 (kq ≤ kj12) ∧ Aside0 (Kd.R k33 33 w' w.heap.size (fun _ => True) v7 x7_4) ∧ Aside0 (Below w.heap.size w w'))
          case atStart => exact ⟨(x7_2), (0), sq_e, H', ⟨Nat.le_refl _⟩, ⟨by (with_reducible repeat (first | apply Kd.R_alloc | apply Kd.R_drewN | apply Kd.R_drew)); exact HO_7.out⟩, ⟨sq_b⟩⟩
          case round =>
           clear H'
           (try clear c1); (try clear c2); (try clear p2); (try clear q2); (try clear hx2); (try clear c5); (try clear c6); (try clear p6); (try clear c8); (try clear c9); (try clear c11); (try clear c11b0); (try clear c16); (try clear c16b0); (try clear c16b1); (try clear c18); (try clear c18b0); (try clear c19); (try clear c19b0); (try clear c25); (try clear hx297_0); (try clear hx297_1); (try clear p2)
           (try clear p297); (try clear p6); (try clear q2); (try clear q297)
           obtain ⟨x7_4, x47_4, rfl, HA, HK4, HO_7, HB⟩ := hrel
           cases gk with
           | zero => exact absurd HA.out (by simp [impl_Threshold.l1])
           | succ k4 =>
            have H := HA.out
            clear HA
            simp only [impl_Threshold.l1] at H
            by_cases c28 : x47_4 < (l0.length : Int)
            ·rw [if_pos c28] at H
             have c28b0 : decide (x47_4 < (l0.length : Int)) = true := decide_eq_true c28
             clear c28
             by_cases c29 : 0 ≤ x47_4
             rotate_left
             ·rw [if_neg c29] at H
              exact absurd H (by simp)
             rw [if_pos c29] at H
             have c29b0 : decide (0 ≤ x47_4) = true := decide_eq_true c29
             clear c29
             by_cases c30 : x47_4 < (l0.length : Int)
             rotate_left
             ·rw [if_neg c30] at H
              exact absurd H (by simp)
             rw [if_pos c30] at H
             have c30b0 : decide (x47_4 < (l0.length : Int)) = true := decide_eq_true c30
             clear c30
             by_cases c31 : x8_2 < ((rd_L3 l0 x47_4).length : Int)
             ·rw [if_pos c31] at H
              have c31b0 : decide (x8_2 < ((rd_L3 l0 x47_4).length : Int)) = true := decide_eq_true c31
              clear c31
              by_cases c32 : 0 ≤ x8_2
              rotate_left
              ·rw [if_neg c32] at H
               exact absurd H (by simp)
              rw [if_pos c32] at H
              have c32b0 : decide (0 ≤ x8_2) = true := decide_eq_true c32
              clear c32
              replace H := Option.bind_eq_some_iff.mp H
              obtain ⟨t304, A330, H⟩ := H
              replace H : (if t304 = 0 then ((impl_total.f k4 l0 ((rd_T33 (rd_L3 l0 x47_4) x8_2).f0)).bind fun t307 => (if x7_4.length < 8796093022208 then (impl_Threshold.l1 k4 l0 a1 (x7_4 ++ [(⟨(rd_T33 (rd_L3 l0 x47_4) x8_2).f0, t307⟩ : S33)]) x8_2 l0 (l0.length : Int) (wrap64 (x47_4 + 1))) else (none))) else (impl_Threshold.l1 k4 l0 a1 x7_4 x8_2 l0 (l0.length : Int) (wrap64 (x47_4 + 1)))) = some (r1, r2, r3) := H
              have A33 := Aside0.mk A330
              clear A330
              by_cases c34 : t304 = 0
              ·rw [if_pos c34] at H
               have c34b0 : (t304 == 0) = true := beq_iff_eq.mpr c34
               have c34b1 : (t304 != 0) = false := bne_eq_false_iff_eq.mpr c34
               clear c34
               replace H := Option.bind_eq_some_iff.mp H
               obtain ⟨t307, A350, H⟩ := H
               replace H : (if x7_4.length < 8796093022208 then (impl_Threshold.l1 k4 l0 a1 (x7_4 ++ [(⟨(rd_T33 (rd_L3 l0 x47_4) x8_2).f0, t307⟩ : S33)]) x8_2 l0 (l0.length : Int) (wrap64 (x47_4 + 1))) else (none)) = some (r1, r2, r3) := H
               have A35 := Aside0.mk A350
               clear A350
               by_cases c36 : x7_4.length < 8796093022208
               rotate_left
               ·rw [if_neg c36] at H
                exact absurd H (by simp)
               rw [if_pos c36] at H
               have LMc36 := Aside0.mk c36
               clear c36
               obtain ⟨y308, hy308⟩ : ∃ y_ : List (S33), y_ = (x7_4 ++ [(⟨(rd_T33 (rd_L3 l0 x47_4) x8_2).f0, t307⟩ : S33)]) := ⟨_, rfl⟩
               replace H : (impl_Threshold.l1 k4 l0 a1 y308 x8_2 l0 (l0.length : Int) (wrap64 (x47_4 + 1))) = some (r1, r2, r3) := by first | (rw [hy308]; with_reducible exact H) | (have H2_ := (Option.bind_some _ _).symm.trans H; rw [hy308]; with_reducible exact H2_) | (have H2_ := (Option.bind_some _ _).symm.trans H; with_reducible exact H2_) | with_reducible exact H | (rw [hy308]; exact H) | exact H
               have Ny308 := Aside0.mk hy308
               clear hy308
               have H' := Aside0.mk H
               clear H
               have p302 : 0 ≤ (x47_4 : Int) := sq_d
               have q302 : x47_4 < (l0.length : Int) := sq_d
               obtain ⟨ad302, A302_0, c302_0, e302, hx302_0, hl302_0, hi302_0⟩ := at_L3 HR0.out x47_4 p302 q302
               cases e302
               replace hx302_0 := (HB.out.cell (World.block_lt_of_cell? w _ hx302_0)).trans hx302_0
               have HR302_0 := Aside0.mk hi302_0
               have HC302_0 := Aside0.mk hl302_0
               clear hi302_0 hl302_0
               replace p302 := eq_true p302
               replace q302 := eq_true q302
               have p303 : 0 ≤ (x8_2 : Int) := sq_d
               have q303 : x8_2 < ((rd_L3 l0 x47_4).length : Int) := sq_d
               obtain ⟨ad303, e303, hx303_0, hx303_1⟩ := at_T33 HR302_0.out x8_2 p303 q303
               cases e303
               replace hx303_0 := (HB.out.cell (World.block_lt_of_cell? w _ hx303_0)).trans hx303_0
               replace hx303_1 := (HB.out.cell (World.block_lt_of_cell? w _ hx303_1)).trans hx303_1
               replace p303 := eq_true p303
               replace q303 := eq_true q303
               obtain ⟨Ao37, co37, eo37⟩ := Kd.R_slice HO_7.out
               subst eo37
               try go_wp2_with (first | (go_at_call 61; (with_reducible refine (impl_scoreIn.calls k4 _ _ x7_4 ((rd_T33 (rd_L3 l0 x47_4) x8_2).f0) t304 _ ?side1 ?side2 A33.out).mono ?_); (case side1 => repeat (first | exact (Kd.R_reads' HO_7.out).2.2 | (with_reducible refine Kd.C_alloc ?_ _) | (with_reducible refine Kd.C_drewN ?_ _) | (with_reducible refine Kd.C_drew ?_))); (case side2 => exact (Kd.R_reads' HO_7.out).2.1); rintro e w38 ⟨rfl, hb⟩; have n0_ := Aside0.mk (Kd.R_below (sq_r HO_7) hb); have n1_ := Aside0.mk (below_step sq_b hb); clear HO_7; clear HB; have HO_7 := n0_; have HB := n1_; clear n0_ n1_; (try clear hb); (try clear hb2); (try clear hk); (try clear hi)))
               have n0_ := Aside0.mk (Kd.R_drew HO_7.out)
               have n1_ := Aside0.mk (below_drew1 HB.out)
               clear HO_7
               clear HB
               have HO_7 := n0_
               have HB := n1_
               clear n0_ n1_
               have p305 : 0 ≤ (x8_2 : Int) := sq_d
               have q305 : x8_2 < ((rd_L3 l0 x47_4).length : Int) := sq_d
               obtain ⟨ad305, e305, hx305_0, hx305_1⟩ := at_T33 HR302_0.out x8_2 p305 q305
               have hw305_1 := hx305_1
               have hw305_0 := hx305_0
               obtain rfl : ad303 = ad305 := (by injection e305)
               replace hx305_0 := (HB.out.cell (World.block_lt_of_cell? w _ hx305_0)).trans hx305_0
               replace hx305_1 := (HB.out.cell (World.block_lt_of_cell? w _ hx305_1)).trans hx305_1
               replace p305 := eq_true p305
               replace q305 := eq_true q305
               have p306 : 0 ≤ (x8_2 : Int) := sq_d
               have q306 : x8_2 < ((rd_L3 l0 x47_4).length : Int) := sq_d
               obtain ⟨ad306, e306, hx306_0, hx306_1⟩ := at_T33 HR302_0.out x8_2 p306 q306
               have hw306_1 := hx306_1
               have hw306_0 := hx306_0
               obtain rfl : ad303 = ad306 := (by injection e306)
               replace hx306_0 := (HB.out.cell (World.block_lt_of_cell? w _ hx306_0)).trans hx306_0
               replace hx306_1 := (HB.out.cell (World.block_lt_of_cell? w _ hx306_1)).trans hx306_1
               replace p306 := eq_true p306
               replace q306 := eq_true q306
               refine start_ (n := 17) (S := fun w' => w'.cell? (ad303.add ((x8_2).toNat * 2)) = some (.int .i64 ((rd_T33 (rd_L3 l0 x47_4) x8_2).f0)) ∧ w'.cell? ⟨(ad303.add ((x8_2).toNat * 2)).block, (ad303.add ((x8_2).toNat * 2)).off + 1, none⟩ = some (.int .i64 ((rd_T33 (rd_L3 l0 x47_4) x8_2).f1)) ∧ w'.cell? (ad303.add ((x8_2).toNat * 2)) = some (.int .i64 ((rd_T33 (rd_L3 l0 x47_4) x8_2).f0)) ∧ w'.cell? ⟨(ad303.add ((x8_2).toNat * 2)).block, (ad303.add ((x8_2).toNat * 2)).off + 1, none⟩ = some (.int .i64 ((rd_T33 (rd_L3 l0 x47_4) x8_2).f1))) (ds := []) #[false, false, false, false, false, false, false, false, false, false, false, false, false, false, false, false, false] (by kernel_rfl) rfl rfl ⟨((HB.out.cell (World.block_lt_of_cell? w _ hw305_0)).trans hw305_0), ((HB.out.cell (World.block_lt_of_cell? w _ hw305_1)).trans hw305_1), ((HB.out.cell (World.block_lt_of_cell? w _ hw306_0)).trans hw306_0), ((HB.out.cell (World.block_lt_of_cell? w _ hw306_1)).trans hw306_1)⟩ (fun hHeld => ?_); refine with_tabW impl_Threshold.tab13 impl_Threshold.bits13 (fun HT_ HW_ => ?_)
               generalize w38.drew = w39 at HO_7 HB hx305_0 hx305_1 hx306_0 hx306_1 hHeld ⊢
               refine pu_ 0 (some 65) #[true, false, false, false, false, false, false, false, false, false, false, false, false, false, false, false, false] HT_ ?_
               refine pu_ 1 (some 66) #[true, true, false, false, false, false, false, false, false, false, false, false, false, false, false, false, false] HT_ ?_
               refine pu_ 2 (some 67) #[true, true, true, false, false, false, false, false, false, false, false, false, false, false, false, false, false] HT_ ?_
               refine pu_ 3 (some 68) #[true, true, true, true, false, false, false, false, false, false, false, false, false, false, false, false, false] HT_ ?_
               refine pu_ 4 (some 69) #[true, true, true, true, true, false, false, false, false, false, false, false, false, false, false, false, false] HT_ ?_
               refine pu_ 6 (some 71) #[true, true, true, true, true, false, true, false, false, false, false, false, false, false, false, false, false] HT_ ?_
               refine pu_ 7 (some 72) #[true, true, true, true, true, false, true, true, false, false, false, false, false, false, false, false, false] HT_ ?_
               refine pu_ 8 (some 73) #[true, true, true, true, true, false, true, true, true, false, false, false, false, false, false, false, false] HT_ ?_
               refine pu_ 9 (some 74) #[true, true, true, true, true, false, true, true, true, true, false, false, false, false, false, false, false] HT_ ?_
               refine pu_ 10 (some 75) #[true, true, true, true, true, false, true, true, true, true, true, false, false, false, false, false, false] HT_ ?_
               refine take_ (i := 5) (N := some 70) (v := ?_) (a' := ?_) #[true, true, true, true, true, true, true, true, true, true, true, false, false, false, false, false, false] rfl rfl (take_ofW HT_.out HW_.out (by kernel_rfl)) (fun _ _ _ h => h) (Or.inl ⟨by rfl, ?_⟩) hHeld ?_ ?_
               rotate_left
               ·rintro w' ⟨s0, s1, s2, s3⟩
                go_simp
                with_reducible rfl
               rotate_left
               ·simp only [Act.put, List.setIfInBounds_toArray, List.set_cons_zero, List.set_cons_succ, i64_w, i32_w]
                rfl
               refine take_ (i := 11) (N := some 76) (v := ?_) (a' := ?_) #[true, true, true, true, true, true, true, true, true, true, true, true, false, false, false, false, false] rfl rfl (take_ofW HT_.out HW_.out (by kernel_rfl)) (fun _ _ _ h => h) (Or.inl ⟨by rfl, ?_⟩) hHeld ?_ ?_
               rotate_left
               ·rintro w' ⟨s0, s1, s2, s3⟩
                go_simp
                with_reducible rfl
               rotate_left
               ·simp only [Act.put, List.setIfInBounds_toArray, List.set_cons_zero, List.set_cons_succ, i64_w, i32_w]
                rfl
               refine one_ (i := 12) (N := some 77) #[true, true, true, true, true, true, true, true, true, true, true, true, true, false, false, false, false] rfl rfl (one_of HT_.out (by kernel_rfl)) (by decide) (fun K hK => ?_)
               refine goes_ Try.func62 (by kernel_rfl) rfl #[.slice (some ad302) l0.length c0, .int .i64 ((rd_T33 (rd_L3 l0 x47_4) x8_2).f0)] (by rfl) rfl rfl (by (try simp only [List.map_toArray, List.map_cons, List.map_nil]); first | done | rfl | (simp only [List.length_drop, List.length_take]; rfl)) ?_
               with_reducible refine (impl_total.calls k4 _ _ l0 ((rd_T33 (rd_L3 l0 x47_4) x8_2).f0) t307 _ ?side1 ?side2 A35.out).mono ?_
               (case side1 => repeat (first | exact (Kd.C_below HR0.out HB.out) | (with_reducible refine Kd.C_alloc ?_ _) | (with_reducible refine Kd.C_drewN ?_ _) | (with_reducible refine Kd.C_drew ?_)))
               (case side2 => exact HC0.out)
               rintro e w40 ⟨rfl, hb⟩
               refine ⟨_, rfl, ?_⟩
               have n0_ := Aside0.mk (Kd.R_below (sq_r HO_7) hb)
               have n1_ := Aside0.mk (below_step sq_b hb)
               clear HO_7
               clear HB
               have HO_7 := n0_
               have HB := n1_
               clear n0_ n1_
               (try clear hb)
               (try clear hb2)
               (try clear hk)
               (try clear hi)
               refine hK.out _ _ ⟨((HB.out.cell (World.block_lt_of_cell? w _ hw305_0)).trans hw305_0), ((HB.out.cell (World.block_lt_of_cell? w _ hw305_1)).trans hw305_1), ((HB.out.cell (World.block_lt_of_cell? w _ hw306_0)).trans hw306_0), ((HB.out.cell (World.block_lt_of_cell? w _ hw306_1)).trans hw306_1)⟩ (fun hHeld => ?_)
               clear hK K
               refine norm_ (a' := ?_) ?_ ?_
               rotate_left
               ·show Act.put _ (some 77) _ = _
                simp only [Act.put, List.setIfInBounds_toArray, List.set_cons_zero, List.set_cons_succ, i64_w, i32_w]
                rfl
               refine pu_ 13 (some 78) #[true, true, true, true, true, true, true, true, true, true, true, true, true, true, false, false, false] HT_ ?_
               refine one_ (i := 14) (N := some 79) #[true, true, true, true, true, true, true, true, true, true, true, true, true, true, true, false, false] rfl rfl (one_of HT_.out (by kernel_rfl)) (by decide) (fun K hK => ?_)
               refine value_ (w1 := ?_) (v := ?_) (by rfl) rfl ?_ ?_
               rotate_left 2
               ·go_simp
                constructor
                ·rfl
                ·rfl
               refine hK.out _ _ ⟨(World.cell?_alloc_lt _ _ _ (World.block_lt_of_cell? _ _ (((HB.out.cell (World.block_lt_of_cell? w _ hw305_0)).trans hw305_0)))).trans (((HB.out.cell (World.block_lt_of_cell? w _ hw305_0)).trans hw305_0)), (World.cell?_alloc_lt _ _ _ (World.block_lt_of_cell? _ _ (((HB.out.cell (World.block_lt_of_cell? w _ hw305_1)).trans hw305_1)))).trans (((HB.out.cell (World.block_lt_of_cell? w _ hw305_1)).trans hw305_1)), (World.cell?_alloc_lt _ _ _ (World.block_lt_of_cell? _ _ (((HB.out.cell (World.block_lt_of_cell? w _ hw306_0)).trans hw306_0)))).trans (((HB.out.cell (World.block_lt_of_cell? w _ hw306_0)).trans hw306_0)), (World.cell?_alloc_lt _ _ _ (World.block_lt_of_cell? _ _ (((HB.out.cell (World.block_lt_of_cell? w _ hw306_1)).trans hw306_1)))).trans (((HB.out.cell (World.block_lt_of_cell? w _ hw306_1)).trans hw306_1))⟩ (fun hHeld => ?_)
               clear hK K
               refine norm_ (a' := ?_) ?_ ?_
               rotate_left
               ·show Act.put _ (some 79) _ = _
                simp only [Act.put, List.setIfInBounds_toArray, List.set_cons_zero, List.set_cons_succ, i64_w, i32_w]
                rfl
               refine one_ (i := 15) (N := some 80) #[true, true, true, true, true, true, true, true, true, true, true, true, true, true, true, true, false] rfl rfl (one_of HT_.out (by kernel_rfl)) (by decide) (fun K hK => ?_)
               refine Kd.R_append_step k33 (w0 := w) w.heap.size (by rfl) (.tmp 65) (.tmp 79) 26 33 (.agg #[(.int .i64 0), (.int .i64 0)]) 16 rfl Try.underlying26 info33 rfl (by decide) (by omega) (.slice Ao37 x7_4.length co37) x7_4 (⟨(rd_T33 (rd_L3 l0 x47_4) x8_2).f0, t307⟩ : S33) [.int .i64 ((rd_T33 (rd_L3 l0 x47_4) x8_2).f0), .int .i64 t307] (fun _ => True) (fun _ => False) rfl rfl ?aP (fun _ hk => hk.elim) ?aF ?aO ?aB ?aS ?aL ?_
               (case aP => exact k33_mkM _ _ _ (⟨(rd_T33 (rd_L3 l0 x47_4) x8_2).f0, t307⟩ : S33))
               (case aB => exact sq_b)
               (case aF => exact (fun _ _ => trivial))
               (case aO => exact (sq_r HO_7))
               (case aS => exact (below_size sq_b))
               (case aL => have := LMc36.out; omega)
               intro v309 w41 ho hb hg hat
               rw [← Ny308.out] at ho
               have n0_ := Aside0.mk (hb)
               have n1_ := Aside0.mk (ho)
               clear HB
               clear HO_7
               have HB := n0_
               have HO310 := n1_
               clear n0_ n1_
               clear ho hb hg hat
               refine hK.out _ _ ⟨((HB.out.cell (World.block_lt_of_cell? w _ hw305_0)).trans hw305_0), ((HB.out.cell (World.block_lt_of_cell? w _ hw305_1)).trans hw305_1), ((HB.out.cell (World.block_lt_of_cell? w _ hw306_0)).trans hw306_0), ((HB.out.cell (World.block_lt_of_cell? w _ hw306_1)).trans hw306_1)⟩ (fun hHeld => ?_)
               clear hK K
               refine norm_ (a' := ?_) ?_ ?_
               rotate_left
               ·show Act.put _ (some 80) _ = _
                simp only [Act.put, List.setIfInBounds_toArray, List.set_cons_zero, List.set_cons_succ, i64_w, i32_w]
                rfl
               refine pu_ 16 (some 7) #[true, true, true, true, true, true, true, true, true, true, true, true, true, true, true, true, true] HT_ ?_
               refine done_ (done_of HT_.out (by kernel_rfl)) ?_
               try go_wp2
               go_roundg k4
               case measure => have := HJ2.out; have := HK2.out; have := HJ12.out; have := HK4.out; omega
               case rel => exact ⟨(y308), (wrap64 (x47_4 + 1)), sq_e, H', ⟨by have := HJ2.out; have := HK2.out; have := HJ12.out; have := HK4.out; omega⟩, ⟨by (with_reducible repeat (first | apply Kd.R_alloc | apply Kd.R_drewN | apply Kd.R_drew)); exact HO310.out⟩, ⟨sq_b⟩⟩
              ·rw [if_neg c34] at H
               have c34b0 : (t304 == 0) = false := beq_eq_false_iff_ne.mpr c34
               have c34b1 : (t304 != 0) = true := bne_iff_ne.mpr c34
               have H' := Aside0.mk H
               clear H
               have p302 : 0 ≤ (x47_4 : Int) := sq_d
               have q302 : x47_4 < (l0.length : Int) := sq_d
               obtain ⟨ad302, A302_0, c302_0, e302, hx302_0, hl302_0, hi302_0⟩ := at_L3 HR0.out x47_4 p302 q302
               cases e302
               replace hx302_0 := (HB.out.cell (World.block_lt_of_cell? w _ hx302_0)).trans hx302_0
               have HR302_0 := Aside0.mk hi302_0
               have HC302_0 := Aside0.mk hl302_0
               clear hi302_0 hl302_0
               replace p302 := eq_true p302
               replace q302 := eq_true q302
               have p303 : 0 ≤ (x8_2 : Int) := sq_d
               have q303 : x8_2 < ((rd_L3 l0 x47_4).length : Int) := sq_d
               obtain ⟨ad303, e303, hx303_0, hx303_1⟩ := at_T33 HR302_0.out x8_2 p303 q303
               cases e303
               replace hx303_0 := (HB.out.cell (World.block_lt_of_cell? w _ hx303_0)).trans hx303_0
               replace hx303_1 := (HB.out.cell (World.block_lt_of_cell? w _ hx303_1)).trans hx303_1
               replace p303 := eq_true p303
               replace q303 := eq_true q303
               obtain ⟨Ao42, co42, eo42⟩ := Kd.R_slice HO_7.out
               subst eo42
               go_wp2_with (first | (go_at_call 61; (with_reducible refine (impl_scoreIn.calls k4 _ _ x7_4 ((rd_T33 (rd_L3 l0 x47_4) x8_2).f0) t304 _ ?side1 ?side2 A33.out).mono ?_); (case side1 => repeat (first | exact (Kd.R_reads' HO_7.out).2.2 | (with_reducible refine Kd.C_alloc ?_ _) | (with_reducible refine Kd.C_drewN ?_ _) | (with_reducible refine Kd.C_drew ?_))); (case side2 => exact (Kd.R_reads' HO_7.out).2.1); rintro e w43 ⟨rfl, hb⟩; have n0_ := Aside0.mk (Kd.R_below (sq_r HO_7) hb); have n1_ := Aside0.mk (below_step sq_b hb); clear HO_7; clear HB; have HO_7 := n0_; have HB := n1_; clear n0_ n1_; (try clear hb); (try clear hb2); (try clear hk); (try clear hi)))
               go_roundg k4
               case measure => have := HJ2.out; have := HK2.out; have := HJ12.out; have := HK4.out; omega
               case rel => exact ⟨(x7_4), (wrap64 (x47_4 + 1)), sq_e, H', ⟨by have := HJ2.out; have := HK2.out; have := HJ12.out; have := HK4.out; omega⟩, ⟨by (with_reducible repeat (first | apply Kd.R_alloc | apply Kd.R_drewN | apply Kd.R_drew)); exact HO_7.out⟩, ⟨sq_b⟩⟩
             ·rw [if_neg c31] at H
              have c31b0 : decide (x8_2 < ((rd_L3 l0 x47_4).length : Int)) = false := decide_eq_false c31
              clear c31
              have H' := Aside0.mk H
              clear H
              have p302 : 0 ≤ (x47_4 : Int) := sq_d
              have q302 : x47_4 < (l0.length : Int) := sq_d
              obtain ⟨ad302, A302_0, c302_0, e302, hx302_0, hl302_0, hi302_0⟩ := at_L3 HR0.out x47_4 p302 q302
              cases e302
              replace hx302_0 := (HB.out.cell (World.block_lt_of_cell? w _ hx302_0)).trans hx302_0
              have HR302_0 := Aside0.mk hi302_0
              have HC302_0 := Aside0.mk hl302_0
              clear hi302_0 hl302_0
              replace p302 := eq_true p302
              replace q302 := eq_true q302
              go_wp2
              go_roundg k4
              case measure => have := HJ2.out; have := HK2.out; have := HJ12.out; have := HK4.out; omega
              case rel => exact ⟨(x7_4), (wrap64 (x47_4 + 1)), sq_e, H', ⟨by have := HJ2.out; have := HK2.out; have := HJ12.out; have := HK4.out; omega⟩, ⟨by (with_reducible repeat (first | apply Kd.R_alloc | apply Kd.R_drewN | apply Kd.R_drew)); exact HO_7.out⟩, ⟨sq_b⟩⟩
            ·rw [if_neg c28] at H
             have c28b0 : decide (x47_4 < (l0.length : Int)) = false := decide_eq_false c28
             clear c28
             have H' := Aside0.mk H
             clear H
             go_wp2
             go_roundg k4
             case measure => have := HJ2.out; have := HK2.out; have := HJ12.out; have := HK4.out; omega
             case rel => exact ⟨(x7_4), (wrap64 (x8_2 + 1)), sq_e, H', ⟨by have := HJ2.out; have := HK2.out; have := HJ12.out; have := HK4.out; omega⟩, ⟨by (with_reducible repeat (first | apply Kd.R_alloc | apply Kd.R_drewN | apply Kd.R_drew)); exact HO_7.out⟩, ⟨sq_b⟩⟩
      ·rw [if_neg c11] at H
       have c11b0 : decide (0 < t290) = false := decide_eq_false c11
       clear c11
       replace H := Option.bind_eq_some_iff.mp H
       obtain ⟨t291, A440, H⟩ := H
       replace H : (some (t291, x8_2, true)) = some (r1, r2, r3) := H
       have A44 := Aside0.mk A440
       clear A440
       simp only [Option.some.injEq, Prod.mk.injEq] at H
       obtain ⟨rfl, rfl, rfl⟩ := H
       go_wp2_with (first | ((with_reducible refine gate_callee (f := 59) rfl ?_); refine goesL_ (some 22) rfl rfl Try.func59 (by kernel_rfl) rfl #[.slice A0 l0.length c0, .int .i64 x8_2] rfl (by (try simp only [List.map_toArray, List.map_cons, List.map_nil]); first | done | rfl | (simp only [List.length_drop, List.length_take]; rfl)) ?_; (with_reducible refine (impl_bound.calls k2 _ _ l0 x8_2 t290 _ ?side1 ?side2 A10.out).mono ?_); (case side1 => repeat (first | exact (Kd.C_below HR0.out HB.out) | (with_reducible refine Kd.C_alloc ?_ _) | (with_reducible refine Kd.C_drewN ?_ _) | (with_reducible refine Kd.C_drew ?_))); (case side2 => exact HC0.out); rintro e w' ⟨rfl, ⟨nd, rfl⟩⟩; refine ⟨_, rfl, ?_⟩; obtain ⟨Ao45, co45, eo45⟩ := Kd.R_slice HO_7.out; subst eo45) | ((with_reducible refine gate_callee (f := 60) rfl ?_); refine goesL_ (some 84) rfl rfl Try.func60 (by kernel_rfl) rfl #[.slice Ao45 x7_2.length co45, .int .i64 a1] rfl (by (try simp only [List.map_toArray, List.map_cons, List.map_nil]); first | done | rfl | (simp only [List.length_drop, List.length_take]; rfl)) ?_; (with_reducible refine (impl_best.calls _ _ x7_2 a1 t291 _ ?side1 ?side2 A44.out).mono ?_); (case side1 => repeat (first | exact (Kd.R_reads' HO_7.out).2.2 | (with_reducible refine Kd.C_alloc ?_ _) | (with_reducible refine Kd.C_drewN ?_ _) | (with_reducible refine Kd.C_drew ?_))); (case side2 => exact (Kd.R_reads' HO_7.out).2.1); rintro e w46 ⟨v292, rfl, ho0, hb⟩; refine ⟨_, rfl, ?_⟩; have n0_ := Aside0.mk (Kd.R_elder' (sq_r HO_7) (Kd.R_base ho0) hb); have n1_ := Aside0.mk (Kd.R_lower (Kd.R_new' ho0 (Kd.R_lt (sq_r HO_7))) (below_size sq_b)); have n2_ := Aside0.mk (below_step sq_b hb); clear HO_7; clear HB; have HO_7 := n0_; have HO293 := n1_; have HB := n2_; clear n0_ n1_ n2_; (try clear hb); (try clear hb2); (try clear hk); (try clear hi); (try clear ho0)))
       go_ret3
       exact ⟨_, sq_w, by (with_reducible repeat (first | apply Kd.R_alloc | apply Kd.R_drewN | apply Kd.R_drew)); exact Kd.R_mono HO293.out (fun _ hk => trivial), sq_b⟩

end Go.Proofs.Ytabfkalcjfjkiaa.QFnBest
