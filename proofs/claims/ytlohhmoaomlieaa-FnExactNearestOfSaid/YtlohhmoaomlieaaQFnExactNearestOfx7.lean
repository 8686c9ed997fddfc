-- Written by this session's own program (wip/pp_patch.py, wip/pp.sh) out of the given translation. Not trusted: Lean checks it.
import Derived.Test.YtlohhmoaomlieaaQFnExactNearestOfx0
namespace Go.Proofs.Ytlohhmoaomlieaa.QFnExactNearestOf
open Go.RowKit Go.Proofs.YtlohhmoaomlieaaW.PrintWords Go.Proofs.YtlohhmoaomlieaaW.PrintLast Go.Proofs.YtlohhmoaomlieaaW.PrintMore
attribute [local go_sem] max2_int min2_int max_two min_two max_three min_three max_four min_four   -- for this text's walks alone
open Go.Proofs.Ytlohhmoaomlieaa.Ext
attribute [local go_sem high] ext_gtr ext_leq
set_option linter.unusedVariables false
set_option linter.unusedSimpArgs false

/-! ### impl_farOf: function 66 -/
mutual
def impl_farOf.l0 : Nat → ByteArray → ByteArray → List Int → Int → Int → Option (Int)
 | 0, _, _, _, _, _ => none
 | k + 1, x0, x1, x5, x16, x17 => if x17 < x16 then (if 0 ≤ x17 then (if x17 < (x5.length : Int) then (impl_farOf.l0 k x0 x1 (x5.set (x17 : Int).toNat x17) x16 (wrap64 (x17 + 1))) else (none)) else (none)) else (impl_farOf.l1 k x0 x1 x5 (x0.size : Int) 0)
def impl_farOf.l1 : Nat → ByteArray → ByteArray → List Int → Int → Int → Option (Int)
 | 0, _, _, _, _, _ => none
 | k + 1, x0, x1, x5, x26, x27 => if x27 < x26 then (impl_farOf.l2 k x0 x1 x5 x27 (([wrap64 (x27 + 1)] : List Int)) x26 x27 (x1.size : Int) 0) else (if 0 ≤ (x1.size : Int) then (if (x1.size : Int) < (x5.length : Int) then (some (rd x5 (x1.size : Int))) else (none)) else (none))
def impl_farOf.l2 : Nat → ByteArray → ByteArray → List Int → Int → List Int → Int → Int → Int → Int → Option (Int)
 | 0, _, _, _, _, _, _, _, _, _ => none
 | k + 1, x0, x1, x5, x7, x8, x26, x27, x34, x35 => if x35 < x34 then (if 0 ≤ x35 then (if x35 < (x5.length : Int) then (if 0 ≤ x7 then (if x7 < (x0.size : Int) then (if x35 < (x1.size : Int) then (if (bt x0 x7) = (bt x1 x35) then (if 0 ≤ (wrap64 (x35 + 1)) then (if (wrap64 (x35 + 1)) < (x5.length : Int) then (if x35 < (x8.length : Int) then (if x8.length < 17592186044416 then (impl_farOf.l2 k x0 x1 x5 x7 (x8 ++ [mn (mn (rd x5 x35) (wrap64 ((rd x5 (wrap64 (x35 + 1))) + 1))) (wrap64 ((rd x8 x35) + 1))]) x26 x27 x34 (wrap64 (x35 + 1))) else (none)) else (none)) else (none)) else (none)) else (if 0 ≤ (wrap64 (x35 + 1)) then (if (wrap64 (x35 + 1)) < (x5.length : Int) then (if x35 < (x8.length : Int) then (if x8.length < 17592186044416 then (impl_farOf.l2 k x0 x1 x5 x7 (x8 ++ [mn (mn (wrap64 ((rd x5 x35) + 1)) (wrap64 ((rd x5 (wrap64 (x35 + 1))) + 1))) (wrap64 ((rd x8 x35) + 1))]) x26 x27 x34 (wrap64 (x35 + 1))) else (none)) else (none)) else (none)) else (none))) else (none)) else (none)) else (none)) else (none)) else (none)) else (impl_farOf.l1 k x0 x1 x8 x26 (wrap64 (x27 + 1)))
end
def impl_farOf.f (k : Nat) (a0 : ByteArray) (a1 : ByteArray) : Option (Int) := if 0 ≤ (wrap64 ((a1.size : Int) + 1)) then (if (wrap64 ((a1.size : Int) + 1) : Int).toNat ≤ 35184372088832 then ((some (List.replicate (wrap64 ((a1.size : Int) + 1) : Int).toNat 0 : List Int)).bind fun y201 => (impl_farOf.l0 k a0 a1 y201 (y201.length : Int) 0)) else (none)) else (none)
theorem impl_farOf.mono_l : ∀ k, (∀ y0 y1 y2 y3 y4, LeO (impl_farOf.l0 k y0 y1 y2 y3 y4) (impl_farOf.l0 (k + 1) y0 y1 y2 y3 y4)) ∧ (∀ y0 y1 y2 y3 y4, LeO (impl_farOf.l1 k y0 y1 y2 y3 y4) (impl_farOf.l1 (k + 1) y0 y1 y2 y3 y4)) ∧ (∀ y0 y1 y2 y3 y4 y5 y6 y7 y8, LeO (impl_farOf.l2 k y0 y1 y2 y3 y4 y5 y6 y7 y8) (impl_farOf.l2 (k + 1) y0 y1 y2 y3 y4 y5 y6 y7 y8))
 | 0 => ⟨fun _ _ _ _ _ r h => by simp [impl_farOf.l0] at h, fun _ _ _ _ _ r h => by simp [impl_farOf.l1] at h, fun _ _ _ _ _ _ _ _ _ r h => by simp [impl_farOf.l2] at h⟩
 | k + 1 => by
  obtain ⟨ih0, ih1, ih2⟩ := impl_farOf.mono_l k
  refine ⟨?_, ?_, ?_⟩
  ·intro y0 y1 y2 y3 y4
   unfold impl_farOf.l0
   repeat' first
   | (with_reducible exact ih0 _ _ _ _ _)
   | (with_reducible exact ih1 _ _ _ _ _)
   | (with_reducible exact ih2 _ _ _ _ _ _ _ _ _)
   | (with_reducible exact LeO.refl _)
   | (with_reducible exact LeO.none _)
   | (with_reducible refine LeO.ite ?_ ?_)
   | (with_reducible refine LeO.bind ?_ (fun _ => ?_))
   | exact ih0 _ _ _ _ _
   | exact ih1 _ _ _ _ _
   | exact ih2 _ _ _ _ _ _ _ _ _
   | exact LeO.none _
   | refine LeO.ite ?_ ?_
   | refine LeO.bind ?_ (fun _ => ?_)
  ·intro y0 y1 y2 y3 y4
   unfold impl_farOf.l1
   repeat' first
   | (with_reducible exact ih0 _ _ _ _ _)
   | (with_reducible exact ih1 _ _ _ _ _)
   | (with_reducible exact ih2 _ _ _ _ _ _ _ _ _)
   | (with_reducible exact LeO.refl _)
   | (with_reducible exact LeO.none _)
   | (with_reducible refine LeO.ite ?_ ?_)
   | (with_reducible refine LeO.bind ?_ (fun _ => ?_))
   | exact ih0 _ _ _ _ _
   | exact ih1 _ _ _ _ _
   | exact ih2 _ _ _ _ _ _ _ _ _
   | exact LeO.none _
   | refine LeO.ite ?_ ?_
   | refine LeO.bind ?_ (fun _ => ?_)
  ·intro y0 y1 y2 y3 y4 y5 y6 y7 y8
   unfold impl_farOf.l2
   repeat' first
   | (with_reducible exact ih0 _ _ _ _ _)
   | (with_reducible exact ih1 _ _ _ _ _)
   | (with_reducible exact ih2 _ _ _ _ _ _ _ _ _)
   | (with_reducible exact LeO.refl _)
   | (with_reducible exact LeO.none _)
   | (with_reducible refine LeO.ite ?_ ?_)
   | (with_reducible refine LeO.bind ?_ (fun _ => ?_))
   | exact ih0 _ _ _ _ _
   | exact ih1 _ _ _ _ _
   | exact ih2 _ _ _ _ _ _ _ _ _
   | exact LeO.none _
   | refine LeO.ite ?_ ?_
   | refine LeO.bind ?_ (fun _ => ?_)
theorem impl_farOf.mono : ∀ a0 a1 k, LeO (impl_farOf.f k a0 a1) (impl_farOf.f (k + 1) a0 a1) := by
 intro a0 a1 k
 obtain ⟨ih0, ih1, ih2⟩ := impl_farOf.mono_l k
 unfold impl_farOf.f
 repeat' first
   | (with_reducible exact ih0 _ _ _ _ _)
   | (with_reducible exact ih1 _ _ _ _ _)
   | (with_reducible exact ih2 _ _ _ _ _ _ _ _ _)
   | (with_reducible exact LeO.refl _)
   | (with_reducible exact LeO.none _)
   | (with_reducible refine LeO.ite ?_ ?_)
   | (with_reducible refine LeO.bind ?_ (fun _ => ?_))
   | exact ih0 _ _ _ _ _
   | exact ih1 _ _ _ _ _
   | exact ih2 _ _ _ _ _ _ _ _ _
   | exact LeO.none _
   | refine LeO.ite ?_ ?_
   | refine LeO.bind ?_ (fun _ => ?_)
def impl_farOf.T17 : Bool × List (List Nat × List Nat) := (true, [([], []), ([], []), ([], []), ([], []), ([3], [3]), ([2, 4], [2, 4]), ([5], [5]), ([6], [6]), ([], []), ([], []), ([8, 9], [8, 9]), ([10], [10]), ([11], [11]), ([1, 7, 12], [1, 7, 12]), ([13], [13]), ([0, 14], [0, 14]), ([15, 15, 0, 1, 2, 3, 4, 5, 6, 7, 8, 9, 10, 11, 12, 13, 14, 15], [0, 8, 15])])
def impl_farOf.B17 : List Nat := [0, 0, 0, 0, 8, 28, 60, 124, 0, 0, 768, 1792, 3840, 8190, 16382, 32767, 65535]
theorem impl_farOf.tab17 : rtab .any (opsOf Try.f66 17) = impl_farOf.T17 := by kernel_rfl
theorem impl_farOf.bits17 : waitsOk impl_farOf.T17.2 impl_farOf.B17 = true := by kernel_rfl
set_option maxHeartbeats 8000000 in
set_option maxRecDepth 100000 in
theorem impl_farOf.calls (k : Nat) (a0 : ByteArray) (a1 : ByteArray) (r : Int) (w : World) (h : impl_farOf.f k a0 a1 = some r) :
  Calls Try.prog 66 #[.string a0, .string a1] w fun e w' => e = .returned (.int .i64 r) ∧ Below w.heap.size w w' := by
 have HB := Aside0.mk (Below.refl w.heap.size w)
 have H : (if 0 ≤ (wrap64 ((a1.size : Int) + 1)) then (if (wrap64 ((a1.size : Int) + 1) : Int).toNat ≤ 35184372088832 then ((some (List.replicate (wrap64 ((a1.size : Int) + 1) : Int).toNat 0 : List Int)).bind fun y201 => (impl_farOf.l0 k a0 a1 y201 (y201.length : Int) 0)) else (none)) else (none)) = some r := h
 clear h
 obtain ⟨ji3, hji3⟩ : ∃ j_ : Int, (wrap64 ((a1.size : Int) + 1)) = j_ := ⟨_, rfl⟩
 replace H : (if 0 ≤ (ji3) then (if (ji3 : Int).toNat ≤ 35184372088832 then ((some (List.replicate (ji3 : Int).toNat 0 : List Int)).bind fun y201 => (impl_farOf.l0 k a0 a1 y201 (y201.length : Int) 0)) else (none)) else (none)) = some r := by first | (rw [hji3] at H; exact H) | (simp only [hji3] at H ⊢; exact H)
 have hji3w : (IntKind.i64.wrap ((a1.size : Int) + 1)) = ji3 := (i64_w _).trans hji3
 by_cases c4 : 0 ≤ (ji3)
 ·rw [if_pos c4] at H
  have c4b0 := eq_true c4
  have c4b1 : decide (0 ≤ (ji3)) = true := decide_eq_true c4
  clear c4
  by_cases c5 : (ji3 : Int).toNat ≤ 35184372088832
  rotate_left
  ·rw [if_neg c5] at H
   exact absurd H (by simp)
  rw [if_pos c5] at H
  have c5b0 := eq_true c5
  have c5b1 : decide ((ji3 : Int).toNat ≤ 35184372088832) = true := decide_eq_true c5
  clear c5
  obtain ⟨y201, hy201⟩ : ∃ y_ : List Int, y_ = (List.replicate (ji3 : Int).toNat 0) := ⟨_, rfl⟩
  replace H : (impl_farOf.l0 k a0 a1 y201 (y201.length : Int) 0) = some r := by first | (rw [hy201]; with_reducible exact H) | (have H2_ := (Option.bind_some _ _).symm.trans H; rw [hy201]; with_reducible exact H2_) | (have H2_ := (Option.bind_some _ _).symm.trans H; with_reducible exact H2_) | with_reducible exact H | (rw [hy201]; exact H) | exact H
  have Ny201 := Aside0.mk hy201
  clear hy201
  have H' := Aside0.mk H
  clear H
  go_enter Try.func66, Try.ntmps66
  go_wp2_with (first | ((with_reducible refine gate_dst (N := 14) rfl ?_); refine Kd.R_make (Kd.int .i64) _ 3 rfl (N := 14) rfl 60 _ _ rfl ji3 rfl rfl Try.underlying60 (.int .i64 0) 8 info3 rfl (by decide) (by omega) 0 (ok := fun _ => True) (okp := fun _ => True) rfl (fun _ hk => hk) trivial (sq_d) (Nat.le_trans (Nat.mul_le_mul_right _ (sq_d : ji3.toNat ≤ 35184372088832)) (by omega)) (Below.refl _ _) (Nat.le_refl _) ?_; intro v202 w6 ho7 hb hg_ hnew_; clear hg_ hnew_; (first | rw [← Ny201.out] at ho7 | (simp only [Int.reduceToNat] at ho7; rw [← Ny201.out] at ho7)); have n0_ := Aside0.mk (Kd.R_lower ho7 (below_size sq_b)); have n1_ := Aside0.mk (below_step sq_b hb); clear HB; have HO203 := n0_; have HB := n1_; clear n0_ n1_; clear hb ho7; obtain ⟨Ao8, co8, eo8⟩ := Kd.R_slice HO203.out; subst eo8))
  go_loopg [17] k (fun kq v17 w' => ∃ (x5_1 : List Int) (x17_1 : Int), v17 = .int .i64 x17_1 ∧ Aside0 (impl_farOf.l0 kq a0 a1 x5_1 (y201.length : Int) x17_1 = some r) ∧ Aside0 (kq ≤ k) ∧ Aside0 (Kd.R (Kd.int .i64) 3 w' w.heap.size (fun _ => True) (.slice Ao8 y201.length co8) x5_1) ∧ Aside0 (Below w.heap.size w w'))
  case atStart => exact ⟨(y201), (0), sq_e, H', ⟨Nat.le_refl _⟩, ⟨by (with_reducible repeat (first | apply Kd.R_alloc | apply Kd.R_drewN | apply Kd.R_drew)); exact HO203.out⟩, ⟨sq_b⟩⟩
  case round =>
   clear H'
   (try clear p2); (try clear c4); (try clear c4b0); (try clear c4b1); (try clear c5); (try clear c5b0); (try clear c5b1); (try clear c6); (try clear p6)
   obtain ⟨x5_1, x17_1, rfl, HA, HK1, HO_5, HB⟩ := hrel
   have hl5_1 := (Kd.R_reads' HO_5.out).1
   rw [hl5_1] at HO_5
   (try simp only [hl5_1])
   cases gk with
   | zero => exact absurd HA.out (by simp [impl_farOf.l0])
   | succ k1 =>
    have H := HA.out
    clear HA
    simp only [impl_farOf.l0] at H
    by_cases c9 : x17_1 < (y201.length : Int)
    ·rw [if_pos c9] at H
     have c9b0 : decide (x17_1 < (y201.length : Int)) = true := decide_eq_true c9
     (try (have c9h0 := c9b0; simp only [hl5_1] at c9h0))
     clear c9
     by_cases c10 : 0 ≤ x17_1
     rotate_left
     ·rw [if_neg c10] at H
      exact absurd H (by simp)
     rw [if_pos c10] at H
     have c10b0 : decide (0 ≤ x17_1) = true := decide_eq_true c10
     clear c10
     by_cases c11 : x17_1 < (x5_1.length : Int)
     rotate_left
     ·rw [if_neg c11] at H
      exact absurd H (by simp)
     rw [if_pos c11] at H
     have c11b0 : decide (x17_1 < (x5_1.length : Int)) = true := decide_eq_true c11
     (try (have c11h0 := c11b0; simp only [hl5_1] at c11h0))
     clear c11
     obtain ⟨y204, hy204⟩ : ∃ y_ : List Int, y_ = (x5_1.set (x17_1 : Int).toNat x17_1) := ⟨_, rfl⟩
     replace H : (impl_farOf.l0 k1 a0 a1 y204 (y201.length : Int) (wrap64 (x17_1 + 1))) = some r := by first | (rw [hy204]; with_reducible exact H) | (have H2_ := (Option.bind_some _ _).symm.trans H; rw [hy204]; with_reducible exact H2_) | (have H2_ := (Option.bind_some _ _).symm.trans H; with_reducible exact H2_) | with_reducible exact H | (rw [hy204]; exact H) | exact H
     have Ny204 := Aside0.mk hy204
     clear hy204
     have H' := Aside0.mk H
     clear H
     have p12 : 0 ≤ (x17_1 : Int) := sq_d
     have q12 : (x17_1 : Int) < ((x5_1.length : Int) : Int) := sq_d
     obtain ⟨go12, co12, eo12, gb12, gl12, cl12, HG12⟩ := Kd.R_form HO_5.out (by omega)
     (first | cases eo12 | (injection eo12 with ea_ en_ ec_; (first | subst ea_ | (injection ea_ with ea_; subst ea_)); subst ec_; clear en_))
     have GB12 := Aside0.mk gb12
     have GG12 := Aside0.mk HG12
     clear gb12 gl12 HG12
     obtain ⟨hx12_0, hf12_0⟩ := Kd.R_celln 0 HO_5.out (x17_1 : Int) p12 q12
     replace p12 := eq_true p12
     replace q12 := eq_true q12
     have HP13 := Kd.R_putg HO_5.out (x17_1 : Int) x17_1
     go_wp2_with (first | ((with_reducible refine gate_store (t := 3) (p := 23) rfl ?_); refine store_event (t := 3) (p := 23) (v := ?vo_w14) (w1 := (wr.setCell ⟨go12, (x17_1 : Int).toNat, none⟩ (.int .i64 x17_1))) ?hg ?ho ?hn ?hr ?_; (case ho => rfl); (case hg => rfl); (case hn => rfl); (case hr => first | (go_simp; done) | (go_simp; rfl)); intro w14 hw; have hg : wr.grownBy w14 (some go12) := (by rw [hw]; exact HP13.2); have hp_ : Kd.R (Kd.int .i64) 3 w14 w.heap.size (fun _ => True) (.slice (some ⟨go12, 0, none⟩) x5_1.length co8) y204 := (by rw [hw, Ny204.out]; exact HP13.1); clear HP13; have n0_ := Aside0.mk (hp_); have n1_ := Aside0.mk ((by rw [hw]; exact below_set (HB.out) GB12.out : Below w.heap.size w w14)); clear HO_5; clear HB; have HO_5 := n0_; have HB := n1_; clear n0_ n1_; clear hg hw hp_))
     (try simp only [← hl5_1])
     go_roundg k1
     case measure => have := HK1.out; omega
     case rel => exact ⟨(y204), (wrap64 (x17_1 + 1)), sq_e, H', ⟨by have := HK1.out; omega⟩, ⟨by (try simp only [hl5_1]); (with_reducible repeat (first | apply Kd.R_alloc | apply Kd.R_drewN | apply Kd.R_drew)); exact HO_5.out⟩, ⟨sq_b⟩⟩
    ·rw [if_neg c9] at H
     have c9b0 : decide (x17_1 < (y201.length : Int)) = false := decide_eq_false c9
     (try (have c9h0 := c9b0; simp only [hl5_1] at c9h0))
     clear c9
     have H' := Aside0.mk H
     clear H
     go_wp2
     go_loopg [5, 27] k1 (fun kq v5 v27 w' => ∃ (x5_2 : List Int) (x27_2 : Int), v27 = .int .i64 x27_2 ∧ Aside0 (impl_farOf.l1 kq a0 a1 x5_2 (a0.size : Int) x27_2 = some r) ∧ Aside0 (kq ≤ k1) ∧ Aside0 (Kd.R (Kd.int .i64) 3 w' w.heap.size (fun _ => True) v5 x5_2) ∧ Aside0 (Below w.heap.size w w'))
     case atStart => exact ⟨(x5_1), (0), sq_e, H', ⟨Nat.le_refl _⟩, ⟨by (try simp only [hl5_1]); (with_reducible repeat (first | apply Kd.R_alloc | apply Kd.R_drewN | apply Kd.R_drew)); exact HO_5.out⟩, ⟨sq_b⟩⟩
     case round =>
      clear H'
      (try clear c1); (try clear p1); (try clear q1); (try clear hx1); (try clear p2); (try clear c4); (try clear c4b0); (try clear c4b1); (try clear c5); (try clear c5b0); (try clear c5b1); (try clear c6); (try clear p6); (try clear c9); (try clear c9b0); (try clear c10); (try clear c10b0); (try clear c11); (try clear c11b0); (try clear p12); (try clear q12); (try clear hx12); (try clear hf12); (try clear hx12_0)
      (try clear p12); (try clear p2); (try clear p6); (try clear q12)
      obtain ⟨x5_2, x27_2, rfl, HA, HK2, HO_5, HB⟩ := hrel
      cases gk with
      | zero => exact absurd HA.out (by simp [impl_farOf.l1])
      | succ k2 =>
       have H := HA.out
       clear HA
       simp only [impl_farOf.l1] at H
       by_cases c15 : x27_2 < (a0.size : Int)
       ·rw [if_pos c15] at H
        have c15b0 : decide (x27_2 < (a0.size : Int)) = true := decide_eq_true c15
        clear c15
        obtain ⟨y206, hy206⟩ : ∃ y_ : List Int, y_ = (([wrap64 (x27_2 + 1)] : List Int)) := ⟨_, rfl⟩
        replace H : (impl_farOf.l2 k2 a0 a1 x5_2 x27_2 y206 (a0.size : Int) x27_2 (a1.size : Int) 0) = some r := by first | (rw [hy206]; with_reducible exact H) | (have H2_ := (Option.bind_some _ _).symm.trans H; rw [hy206]; with_reducible exact H2_) | (have H2_ := (Option.bind_some _ _).symm.trans H; with_reducible exact H2_) | with_reducible exact H | (rw [hy206]; exact H) | exact H
        have Ny206 := Aside0.mk hy206
        clear hy206
        have H' := Aside0.mk H
        clear H
        go_wp2_with (first | ((with_reducible refine gate_dst (N := 32) rfl ?_); refine Kd.R_lit (Kd.int .i64) _ 3 ?hg (N := 32) ?hd (xs := ([wrap64 (x27_2 + 1)] : List Int)) (inner := [.int .i64 (wrap64 (x27_2 + 1))]) (ok := fun _ => True) (okp := fun _ => True) ?hr ?hp (fun _ hk => hk) trivial (Below.refl _ _) (Nat.le_refl _) (by simp) ?_; (case hd => rfl); (case hg => rfl); (case hr => first | (go_simp; done) | (go_simp; rfl)); (case hp => exact (Reps.one (show Kd.M (Kd.int .i64) _ _ _ (wrap64 (x27_2 + 1)) [.int .i64 (wrap64 (x27_2 + 1))] from rfl) (Reps.none _ _))); intro v207 w16 ho17 hb hg_ hnew_; clear hg_ hnew_; (first | rw [← Ny206.out] at ho17 | (simp only [Int.reduceToNat] at ho17; rw [← Ny206.out] at ho17)); have n0_ := Aside0.mk (Kd.R_elder' (sq_r HO_5) (Kd.R_base ho17) hb); have n1_ := Aside0.mk (Kd.R_lower (Kd.R_new' ho17 (Kd.R_lt (sq_r HO_5))) (below_size sq_b)); have n2_ := Aside0.mk (below_step sq_b hb); clear HO_5; clear HB; have HO_5 := n0_; have HO208 := n1_; have HB := n2_; clear n0_ n1_ n2_; clear hb ho17))
        go_loopg [8, 35] k2 (fun kq v8 v35 w' => ∃ (x8_3 : List Int) (x35_3 : Int), v35 = .int .i64 x35_3 ∧ Aside0 (impl_farOf.l2 kq a0 a1 x5_2 x27_2 x8_3 (a0.size : Int) x27_2 (a1.size : Int) x35_3 = some r) ∧ Aside0 (kq ≤ k2) ∧ Aside0 (Kd.R (Kd.int .i64) 3 w' w.heap.size (fun k_ => some k_ ≠ (v8 : Value).ownBlock) u5 x5_2) ∧ Aside0 (Kd.R (Kd.int .i64) 3 w' w.heap.size (fun k_ => some k_ ≠ (u5 : Value).ownBlock) v8 x8_3) ∧ Aside0 (Below w.heap.size w w'))
        case atStart => exact ⟨(y206), (0), sq_e, H', ⟨Nat.le_refl _⟩, ⟨by (try simp only [hl5_1]); (with_reducible repeat (first | apply Kd.R_alloc | apply Kd.R_drewN | apply Kd.R_drew)); exact Kd.R_mono HO_5.out (fun _ hk => hk.2)⟩, ⟨by (try simp only [hl5_1]); (with_reducible repeat (first | apply Kd.R_alloc | apply Kd.R_drewN | apply Kd.R_drew)); exact Kd.R_mono HO208.out (fun _ hk => hk.2)⟩, ⟨sq_b⟩⟩
        case round =>
         clear H'
         (try clear c1); (try clear p1); (try clear q1); (try clear hx1); (try clear p2); (try clear c4); (try clear c4b0); (try clear c4b1); (try clear c5); (try clear c5b0); (try clear c5b1); (try clear c6); (try clear p6); (try clear c9); (try clear c9b0); (try clear c10); (try clear c10b0); (try clear c11); (try clear c11b0); (try clear p12); (try clear q12); (try clear hx12); (try clear hf12)
         (try clear c15); (try clear c15b0); (try clear hx12_0); (try clear p1); (try clear p12); (try clear p2); (try clear p6); (try clear q1); (try clear q12)
         obtain ⟨x8_3, x35_3, rfl, HA, HK3, HO_5, HO_8, HB⟩ := hrel
         cases gk with
         | zero => exact absurd HA.out (by simp [impl_farOf.l2])
         | succ k3 =>
          have H := HA.out
          clear HA
          simp only [impl_farOf.l2] at H
          by_cases c18 : x35_3 < (a1.size : Int)
          ·rw [if_pos c18] at H
           have c18b0 : decide (x35_3 < (a1.size : Int)) = true := decide_eq_true c18
           clear c18
           by_cases c19 : 0 ≤ x35_3
           rotate_left
           ·rw [if_neg c19] at H
            exact absurd H (by simp)
           rw [if_pos c19] at H
           have c19b0 : decide (0 ≤ x35_3) = true := decide_eq_true c19
           clear c19
           by_cases c20 : x35_3 < (x5_2.length : Int)
           rotate_left
           ·rw [if_neg c20] at H
            exact absurd H (by simp)
           rw [if_pos c20] at H
           have c20b0 : decide (x35_3 < (x5_2.length : Int)) = true := decide_eq_true c20
           (try (have c20h0 := c20b0; simp only [hl5_1] at c20h0))
           clear c20
           by_cases c21 : 0 ≤ x27_2
           rotate_left
           ·rw [if_neg c21] at H
            exact absurd H (by simp)
           rw [if_pos c21] at H
           have c21b0 : decide (0 ≤ x27_2) = true := decide_eq_true c21
           clear c21
           by_cases c22 : x27_2 < (a0.size : Int)
           rotate_left
           ·rw [if_neg c22] at H
            exact absurd H (by simp)
           rw [if_pos c22] at H
           have c22b0 : decide (x27_2 < (a0.size : Int)) = true := decide_eq_true c22
           clear c22
           by_cases c24 : x35_3 < (a1.size : Int)
           rotate_left
           ·rw [if_neg c24] at H
            exact absurd H (by simp)
           rw [if_pos c24] at H
           have c24b0 : decide (x35_3 < (a1.size : Int)) = true := decide_eq_true c24
           clear c24
           by_cases c26 : (bt a0 x27_2) = (bt a1 x35_3)
           ·rw [if_pos c26] at H
            have c26b0 : ((bt a0 x27_2) == (bt a1 x35_3)) = true := beq_iff_eq.mpr c26
            have c26b1 : ((bt a0 x27_2) != (bt a1 x35_3)) = false := bne_eq_false_iff_eq.mpr c26
            clear c26
            obtain ⟨ji27, hji27⟩ : ∃ j_ : Int, (wrap64 (x35_3 + 1)) = j_ := ⟨_, rfl⟩
            replace H : (if 0 ≤ (ji27) then (if (ji27) < (x5_2.length : Int) then (if x35_3 < (x8_3.length : Int) then (if x8_3.length < 17592186044416 then (impl_farOf.l2 k3 a0 a1 x5_2 x27_2 (x8_3 ++ [mn (mn (rd x5_2 x35_3) (wrap64 ((rd x5_2 (ji27)) + 1))) (wrap64 ((rd x8_3 x35_3) + 1))]) (a0.size : Int) x27_2 (a1.size : Int) ji27) else (none)) else (none)) else (none)) else (none)) = some r := by first | (rw [hji27] at H; exact H) | (simp only [hji27] at H ⊢; exact H)
            have hji27w : (IntKind.i64.wrap (x35_3 + 1)) = ji27 := (i64_w _).trans hji27
            by_cases c28 : 0 ≤ (ji27)
            rotate_left
            ·rw [if_neg c28] at H
             exact absurd H (by simp)
            rw [if_pos c28] at H
            have c28b0 : decide (0 ≤ (ji27)) = true := decide_eq_true c28
            clear c28
            by_cases c29 : (ji27) < (x5_2.length : Int)
            rotate_left
            ·rw [if_neg c29] at H
             exact absurd H (by simp)
            rw [if_pos c29] at H
            have c29b0 : decide ((ji27) < (x5_2.length : Int)) = true := decide_eq_true c29
            (try (have c29h0 := c29b0; simp only [hl5_1] at c29h0))
            clear c29
            by_cases c30 : x35_3 < (x8_3.length : Int)
            rotate_left
            ·rw [if_neg c30] at H
             exact absurd H (by simp)
            rw [if_pos c30] at H
            have c30b0 : decide (x35_3 < (x8_3.length : Int)) = true := decide_eq_true c30
            (try (have c30h0 := c30b0; simp only [hl5_1] at c30h0))
            clear c30
            obtain ⟨ji31, hji31⟩ : ∃ j_ : Int, (mn (rd x5_2 x35_3) (wrap64 ((rd x5_2 (ji27)) + 1))) = j_ := ⟨_, rfl⟩
            replace H : (if x8_3.length < 17592186044416 then (impl_farOf.l2 k3 a0 a1 x5_2 x27_2 (x8_3 ++ [mn (ji31) (wrap64 ((rd x8_3 x35_3) + 1))]) (a0.size : Int) x27_2 (a1.size : Int) ji27) else (none)) = some r := by first | (rw [hji31] at H; exact H) | (simp only [hji31] at H ⊢; exact H)
            have hji31_ : (if (wrap64 ((rd x5_2 (ji27)) + 1)) < (rd x5_2 x35_3) then (wrap64 ((rd x5_2 (ji27)) + 1)) else (rd x5_2 x35_3)) = ji31 := hji31
            obtain ⟨ji32, hji32⟩ : ∃ j_ : Int, (mn (ji31) (wrap64 ((rd x8_3 x35_3) + 1))) = j_ := ⟨_, rfl⟩
            replace H : (if x8_3.length < 17592186044416 then (impl_farOf.l2 k3 a0 a1 x5_2 x27_2 (x8_3 ++ [ji32]) (a0.size : Int) x27_2 (a1.size : Int) ji27) else (none)) = some r := by first | (rw [hji32] at H; exact H) | (simp only [hji32] at H ⊢; exact H)
            have hji32_ : (if (wrap64 ((rd x8_3 x35_3) + 1)) < (ji31) then (wrap64 ((rd x8_3 x35_3) + 1)) else (ji31)) = ji32 := hji32
            by_cases c33 : x8_3.length < 17592186044416
            rotate_left
            ·rw [if_neg c33] at H
             exact absurd H (by simp)
            rw [if_pos c33] at H
            have LMc33 := Aside0.mk c33
            clear c33
            obtain ⟨y212, hy212⟩ : ∃ y_ : List Int, y_ = (x8_3 ++ [ji32]) := ⟨_, rfl⟩
            replace H : (impl_farOf.l2 k3 a0 a1 x5_2 x27_2 y212 (a0.size : Int) x27_2 (a1.size : Int) ji27) = some r := by first | (rw [hy212]; with_reducible exact H) | (have H2_ := (Option.bind_some _ _).symm.trans H; rw [hy212]; with_reducible exact H2_) | (have H2_ := (Option.bind_some _ _).symm.trans H; with_reducible exact H2_) | with_reducible exact H | (rw [hy212]; exact H) | exact H
            have Ny212 := Aside0.mk hy212
            clear hy212
            have H' := Aside0.mk H
            clear H
            obtain ⟨Ao34, co34, eo34⟩ := Kd.R_slice HO_5.out
            subst eo34
            have p209 : 0 ≤ (x35_3 : Int) := sq_d
            have q209 : x35_3 < (x5_2.length : Int) := sq_d
            (try (obtain ⟨Aq209, cq209, eq209⟩ := Kd.R_slice HO_5.out; subst eq209))
            obtain ⟨ad209, e209, hx209_0⟩ := Kd.at_int (Kd.R_reads' HO_5.out).2.2 x35_3 p209 q209
            cases e209
            replace p209 := eq_true p209
            replace q209 := eq_true q209
            try go_wp2
            have n0_ := Aside0.mk (Kd.R_drew HO_5.out)
            have n1_ := Aside0.mk (Kd.R_drew HO_8.out)
            have n2_ := Aside0.mk (below_drew1 HB.out)
            clear HO_5
            clear HO_8
            clear HB
            have HO_5 := n0_
            have HO_8 := n1_
            have HB := n2_
            clear n0_ n1_ n2_
            have p23 : 0 ≤ (x27_2 : Int) := sq_d
            have q23 : x27_2 < (a0.size : Int) := sq_d
            have hx23 := bt_at a0 x27_2
            replace p23 := eq_true p23
            replace q23 := eq_true q23
            have p25 : 0 ≤ (x35_3 : Int) := sq_d
            have q25 : x35_3 < (a1.size : Int) := sq_d
            have hx25 := bt_at a1 x35_3
            replace p25 := eq_true p25
            replace q25 := eq_true q25
            refine start_ (n := 7) (S := fun w' => True) (ds := []) #[false, false, false, false, false, false, false] (by kernel_rfl) rfl rfl trivial (fun hHeld => ?_)
            generalize wr.drew = w35 at HO_5 HO_8 HB hHeld ⊢
            refine pure_ (i := 0) (N := some 42) (v := ?_) (a' := ?_) #[true, false, false, false, false, false, false] rfl rfl (by kernel_rfl) (fun _ _ _ h => h) (Or.inl ⟨by rfl, ?_⟩) ?_ ?_
            rotate_left
            ·intro w'
             go_simp
             with_reducible rfl
            rotate_left
            ·simp only [Act.put, List.setIfInBounds_toArray, List.set_cons_zero, List.set_cons_succ, i64_w, i32_w]
             rfl
            refine pure_ (i := 1) (N := some 43) (v := ?_) (a' := ?_) #[true, true, false, false, false, false, false] rfl rfl (by kernel_rfl) (fun _ _ _ h => h) (Or.inl ⟨by rfl, ?_⟩) ?_ ?_
            rotate_left
            ·intro w'
             go_simp
             with_reducible rfl
            rotate_left
            ·simp only [Act.put, List.setIfInBounds_toArray, List.set_cons_zero, List.set_cons_succ, i64_w, i32_w]
             rfl
            refine pure_ (i := 3) (N := some 45) (v := ?_) (a' := ?_) #[true, true, false, true, false, false, false] rfl rfl (by kernel_rfl) (fun _ _ _ h => h) (Or.inl ⟨by rfl, ?_⟩) ?_ ?_
            rotate_left
            ·intro w'
             go_simp
             with_reducible rfl
            rotate_left
            ·simp only [Act.put, List.setIfInBounds_toArray, List.set_cons_zero, List.set_cons_succ, i64_w, i32_w]
             rfl
            refine pure_ (i := 4) (N := some 46) (v := ?_) (a' := ?_) #[true, true, false, true, true, false, false] rfl rfl (by kernel_rfl) (fun _ _ _ h => h) (Or.inl ⟨by rfl, ?_⟩) ?_ ?_
            rotate_left
            ·intro w'
             go_simp
             with_reducible rfl
            rotate_left
            ·simp only [Act.put, List.setIfInBounds_toArray, List.set_cons_zero, List.set_cons_succ, i64_w, i32_w]
             rfl
            refine take_ (i := 2) (N := some 44) (v := ?_) (a' := ?_) #[true, true, true, true, true, false, false] rfl rfl (by kernel_rfl) (fun _ _ _ h => h) (Or.inl ⟨by rfl, ?_⟩) hHeld ?_ ?_
            rotate_left
            ·intro w' _
             go_simp
             with_reducible rfl
            rotate_left
            ·simp only [Act.put, List.setIfInBounds_toArray, List.set_cons_zero, List.set_cons_succ, i64_w, i32_w]
             rfl
            refine take_ (i := 5) (N := some 47) (v := ?_) (a' := ?_) #[true, true, true, true, true, true, false] rfl rfl (by kernel_rfl) (fun _ _ _ h => h) (Or.inl ⟨by rfl, ?_⟩) hHeld ?_ ?_
            rotate_left
            ·intro w' _
             go_simp
             with_reducible rfl
            rotate_left
            ·simp only [Act.put, List.setIfInBounds_toArray, List.set_cons_zero, List.set_cons_succ, i64_w, i32_w]
             rfl
            refine pure_ (i := 6) (N := some 48) (v := ?_) (a' := ?_) #[true, true, true, true, true, true, true] rfl rfl (by kernel_rfl) (fun _ _ _ h => h) (Or.inl ⟨by rfl, ?_⟩) ?_ ?_
            rotate_left
            ·intro w'
             go_simp
             with_reducible rfl
            rotate_left
            ·simp only [Act.put, List.setIfInBounds_toArray, List.set_cons_zero, List.set_cons_succ, i64_w, i32_w]
             rfl
            refine done_ (by kernel_rfl) ?_
            try go_wp2
            have n0_ := Aside0.mk (Kd.R_drew HO_5.out)
            have n1_ := Aside0.mk (Kd.R_drew HO_8.out)
            have n2_ := Aside0.mk (below_drew1 HB.out)
            clear HO_5
            clear HO_8
            clear HB
            have HO_5 := n0_
            have HO_8 := n1_
            have HB := n2_
            clear n0_ n1_ n2_
            have p210 : 0 ≤ ((ji27) : Int) := sq_d
            have q210 : (ji27) < (x5_2.length : Int) := sq_d
            (try (obtain ⟨Aq210, cq210, eq210⟩ := Kd.R_slice HO_5.out; subst eq210))
            obtain ⟨ad210, e210, hx210_0⟩ := Kd.at_int (Kd.R_reads' HO_5.out).2.2 (ji27) p210 q210
            obtain rfl : ad209 = ad210 := (by injection e210)
            replace p210 := eq_true p210
            replace q210 := eq_true q210
            obtain ⟨Ao37, co37, eo37⟩ := Kd.R_slice HO_8.out
            (first | subst eo37 | (injection eo37 with f1_ f2_ f3_; have f4_ := f1_.symm; have f5_ := f3_.symm; clear f1_ f2_ f3_; subst f4_; subst f5_))
            have p211 : 0 ≤ (x35_3 : Int) := sq_d
            have q211 : x35_3 < (x8_3.length : Int) := sq_d
            (try (obtain ⟨Aq211, cq211, eq211⟩ := Kd.R_slice HO_8.out; subst eq211))
            obtain ⟨ad211, e211, hx211_0⟩ := Kd.at_int (Kd.R_reads' HO_8.out).2.2 x35_3 p211 q211
            cases e211
            replace p211 := eq_true p211
            replace q211 := eq_true q211
            refine start_ (n := 17) (S := fun w' => w'.cell? (ad209.add ((ji27)).toNat) = some (.int .i64 (rd x5_2 (ji27))) ∧ w'.cell? (ad211.add (x35_3).toNat) = some (.int .i64 (rd x8_3 x35_3))) (ds := [14, 15]) #[false, false, false, false, false, false, false, false, false, false, false, false, false, false, false, false, false] (by kernel_rfl) rfl rfl ⟨hx210_0, hx211_0⟩ (fun hHeld => ?_); refine with_tabW impl_farOf.tab17 impl_farOf.bits17 (fun HT_ HW_ => ?_)
            generalize w35.drew = w36 at HO_5 HO_8 HB hx210_0 hx211_0 hHeld ⊢
            refine pu_ 0 (some 51) #[true, false, false, false, false, false, false, false, false, false, false, false, false, false, false, false, false] HT_ ?_
            refine pu_ 1 (some 52) #[true, true, false, false, false, false, false, false, false, false, false, false, false, false, false, false, false] HT_ ?_
            refine pu_ 2 (some 53) #[true, true, true, false, false, false, false, false, false, false, false, false, false, false, false, false, false] HT_ ?_
            refine pu_ 3 (some 54) #[true, true, true, true, false, false, false, false, false, false, false, false, false, false, false, false, false] HT_ ?_
            refine pu_ 4 (some 55) #[true, true, true, true, true, false, false, false, false, false, false, false, false, false, false, false, false] HT_ ?_
            refine pu_ 5 (some 56) #[true, true, true, true, true, true, false, false, false, false, false, false, false, false, false, false, false] HT_ ?_
            refine pu_ 8 (some 59) #[true, true, true, true, true, true, false, false, true, false, false, false, false, false, false, false, false] HT_ ?_
            refine pu_ 9 (some 60) #[true, true, true, true, true, true, false, false, true, true, false, false, false, false, false, false, false] HT_ ?_
            refine pu_ 10 (some 61) #[true, true, true, true, true, true, false, false, true, true, true, false, false, false, false, false, false] HT_ ?_
            refine take_ (i := 6) (N := some 57) (v := ?_) (a' := ?_) #[true, true, true, true, true, true, true, false, true, true, true, false, false, false, false, false, false] rfl rfl (take_ofW HT_.out HW_.out (by kernel_rfl)) (fun _ _ _ h => h) (Or.inl ⟨by rfl, ?_⟩) hHeld ?_ ?_
            rotate_left
            ·rintro w' ⟨s0, s1⟩
             go_simp
             with_reducible rfl
            rotate_left
            ·simp only [Act.put, List.setIfInBounds_toArray, List.set_cons_zero, List.set_cons_succ, i64_w, i32_w]
             rfl
            refine pu_ 7 (some 58) #[true, true, true, true, true, true, true, true, true, true, true, false, false, false, false, false, false] HT_ ?_
            refine take_ (i := 11) (N := some 62) (v := ?_) (a' := ?_) #[true, true, true, true, true, true, true, true, true, true, true, true, false, false, false, false, false] rfl rfl (take_ofW HT_.out HW_.out (by kernel_rfl)) (fun _ _ _ h => h) (Or.inl ⟨by rfl, ?_⟩) hHeld ?_ ?_
            rotate_left
            ·rintro w' ⟨s0, s1⟩
             go_simp
             with_reducible rfl
            rotate_left
            ·simp only [Act.put, List.setIfInBounds_toArray, List.set_cons_zero, List.set_cons_succ, i64_w, i32_w]
             rfl
            refine pu_ 12 (some 63) #[true, true, true, true, true, true, true, true, true, true, true, true, true, false, false, false, false] HT_ ?_
            refine pu_ 13 (some 64) #[true, true, true, true, true, true, true, true, true, true, true, true, true, true, false, false, false] HT_ ?_
            refine last_ (i := 14) (N := some 65) #[true, true, true, true, true, true, true, true, true, true, true, true, true, true, true, false, false] rfl rfl (one_of HT_.out (by kernel_rfl)) (by decide) (fun K hK => ?_)
            refine value_ (w1 := ?_) (v := ?_) (by rfl) rfl ?_ ?_
            rotate_left 2
            ·go_simp
             constructor
             ·rfl
             ·rfl
            refine hK.out _ _ ?_
            clear hK K
            refine norm_ (a' := ?_) ?_ ?_
            rotate_left
            ·show Act.put _ (some 65) _ = _
             simp only [Act.put, List.setIfInBounds_toArray, List.set_cons_zero, List.set_cons_succ, i64_w, i32_w]
             rfl
            refine last_ (i := 15) (N := some 66) #[true, true, true, true, true, true, true, true, true, true, true, true, true, true, true, true, false] rfl rfl (one_of HT_.out (by kernel_rfl)) (by decide) (fun K hK => ?_)
            refine Kd.R_append_step (Kd.int .i64) (w0 := w) w.heap.size (by rfl) (.tmp 51) (.tmp 65) 60 3 (.int .i64 0) 8 rfl Try.underlying60 info3 rfl (by decide) (by omega) (.slice (some ad211) x8_3.length co37) x8_3 ji32 [.int .i64 ji32] (fun k_ => some k_ ≠ (.slice (some ad209) x5_2.length co34 : Value).ownBlock) (fun _ => False) rfl rfl ?aP (fun _ hk => hk.elim) ?aF ?aO ?aB ?aS ?aL ?_
            (case aP => exact rfl)
            (case aB => exact sq_b)
            (case aF => exact (fun k_ hk => Kd.fresh' (Kd.R_lt (sq_r HO_5)) k_ hk))
            (case aO => exact (sq_r HO_8))
            (case aS => exact (below_size sq_b))
            (case aL => have := LMc33.out; omega)
            intro v213 w38 ho hb hg hat
            rw [← Ny212.out] at ho
            have n0_ := Aside0.mk (Kd.R_after (ok := (fun _ => True)) (by (with_reducible repeat (first | apply Kd.R_alloc | apply Kd.R_drewN | apply Kd.R_drew)); exact Kd.R_mono HO_5.out (fun _ hk => ⟨trivial, hk⟩)) hg hat)
            have n1_ := Aside0.mk (hb)
            have n2_ := Aside0.mk (ho)
            clear HO_5
            clear HB
            clear HO_8
            have HO_5 := n0_
            have HB := n1_
            have HO214 := n2_
            clear n0_ n1_ n2_
            clear ho hb hg hat
            refine hK.out _ _ ?_
            clear hK K
            refine norm_ (a' := ?_) ?_ ?_
            rotate_left
            ·show Act.put _ (some 66) _ = _
             simp only [Act.put, List.setIfInBounds_toArray, List.set_cons_zero, List.set_cons_succ, i64_w, i32_w]
             rfl
            refine pu_ 16 (some 8) #[true, true, true, true, true, true, true, true, true, true, true, true, true, true, true, true, true] HT_ ?_
            refine done_ (done_of HT_.out (by kernel_rfl)) ?_
            try go_wp2
            go_roundg k3
            case measure => have := HK1.out; have := HK2.out; have := HK3.out; omega
            case rel => exact ⟨(y212), (ji27), (by first | rfl | (simp; done) | (simp [ext_bne_nil, ext_beq_nil]; done) | (simp only [← hji27] <;> (first | rfl | simp)) | (simp [*]; done)), H', ⟨by have := HK1.out; have := HK2.out; have := HK3.out; omega⟩, ⟨by (try simp only [hl5_1]); (with_reducible repeat (first | apply Kd.R_alloc | apply Kd.R_drewN | apply Kd.R_drew)); exact Kd.R_mono HO_5.out (fun _ hk => hk.2)⟩, ⟨by (try simp only [hl5_1]); (with_reducible repeat (first | apply Kd.R_alloc | apply Kd.R_drewN | apply Kd.R_drew)); exact HO214.out⟩, ⟨sq_b⟩⟩
           ·rw [if_neg c26] at H
            have c26b0 : ((bt a0 x27_2) == (bt a1 x35_3)) = false := beq_eq_false_iff_ne.mpr c26
            have c26b1 : ((bt a0 x27_2) != (bt a1 x35_3)) = true := bne_iff_ne.mpr c26
            obtain ⟨ji39, hji39⟩ : ∃ j_ : Int, (wrap64 (x35_3 + 1)) = j_ := ⟨_, rfl⟩
            replace H : (if 0 ≤ (ji39) then (if (ji39) < (x5_2.length : Int) then (if x35_3 < (x8_3.length : Int) then (if x8_3.length < 17592186044416 then (impl_farOf.l2 k3 a0 a1 x5_2 x27_2 (x8_3 ++ [mn (mn (wrap64 ((rd x5_2 x35_3) + 1)) (wrap64 ((rd x5_2 (ji39)) + 1))) (wrap64 ((rd x8_3 x35_3) + 1))]) (a0.size : Int) x27_2 (a1.size : Int) ji39) else (none)) else (none)) else (none)) else (none)) = some r := by first | (rw [hji39] at H; exact H) | (simp only [hji39] at H ⊢; exact H)
            have hji39w : (IntKind.i64.wrap (x35_3 + 1)) = ji39 := (i64_w _).trans hji39
            by_cases c40 : 0 ≤ (ji39)
            rotate_left
            ·rw [if_neg c40] at H
             exact absurd H (by simp)
            rw [if_pos c40] at H
            have c40b0 : decide (0 ≤ (ji39)) = true := decide_eq_true c40
            clear c40
            by_cases c41 : (ji39) < (x5_2.length : Int)
            rotate_left
            ·rw [if_neg c41] at H
             exact absurd H (by simp)
            rw [if_pos c41] at H
            have c41b0 : decide ((ji39) < (x5_2.length : Int)) = true := decide_eq_true c41
            (try (have c41h0 := c41b0; simp only [hl5_1] at c41h0))
            clear c41
            by_cases c42 : x35_3 < (x8_3.length : Int)
            rotate_left
            ·rw [if_neg c42] at H
             exact absurd H (by simp)
            rw [if_pos c42] at H
            have c42b0 : decide (x35_3 < (x8_3.length : Int)) = true := decide_eq_true c42
            (try (have c42h0 := c42b0; simp only [hl5_1] at c42h0))
            clear c42
            obtain ⟨ji43, hji43⟩ : ∃ j_ : Int, (mn (wrap64 ((rd x5_2 x35_3) + 1)) (wrap64 ((rd x5_2 (ji39)) + 1))) = j_ := ⟨_, rfl⟩
            replace H : (if x8_3.length < 17592186044416 then (impl_farOf.l2 k3 a0 a1 x5_2 x27_2 (x8_3 ++ [mn (ji43) (wrap64 ((rd x8_3 x35_3) + 1))]) (a0.size : Int) x27_2 (a1.size : Int) ji39) else (none)) = some r := by first | (rw [hji43] at H; exact H) | (simp only [hji43] at H ⊢; exact H)
            have hji43_ : (if (wrap64 ((rd x5_2 (ji39)) + 1)) < (wrap64 ((rd x5_2 x35_3) + 1)) then (wrap64 ((rd x5_2 (ji39)) + 1)) else (wrap64 ((rd x5_2 x35_3) + 1))) = ji43 := hji43
            obtain ⟨ji44, hji44⟩ : ∃ j_ : Int, (mn (ji43) (wrap64 ((rd x8_3 x35_3) + 1))) = j_ := ⟨_, rfl⟩
            replace H : (if x8_3.length < 17592186044416 then (impl_farOf.l2 k3 a0 a1 x5_2 x27_2 (x8_3 ++ [ji44]) (a0.size : Int) x27_2 (a1.size : Int) ji39) else (none)) = some r := by first | (rw [hji44] at H; exact H) | (simp only [hji44] at H ⊢; exact H)
            have hji44_ : (if (wrap64 ((rd x8_3 x35_3) + 1)) < (ji43) then (wrap64 ((rd x8_3 x35_3) + 1)) else (ji43)) = ji44 := hji44
            by_cases c45 : x8_3.length < 17592186044416
            rotate_left
            ·rw [if_neg c45] at H
             exact absurd H (by simp)
            rw [if_pos c45] at H
            have LMc45 := Aside0.mk c45
            clear c45
            obtain ⟨y217, hy217⟩ : ∃ y_ : List Int, y_ = (x8_3 ++ [ji44]) := ⟨_, rfl⟩
            replace H : (impl_farOf.l2 k3 a0 a1 x5_2 x27_2 y217 (a0.size : Int) x27_2 (a1.size : Int) ji39) = some r := by first | (rw [hy217]; with_reducible exact H) | (have H2_ := (Option.bind_some _ _).symm.trans H; rw [hy217]; with_reducible exact H2_) | (have H2_ := (Option.bind_some _ _).symm.trans H; with_reducible exact H2_) | with_reducible exact H | (rw [hy217]; exact H) | exact H
            have Ny217 := Aside0.mk hy217
            clear hy217
            have H' := Aside0.mk H
            clear H
            obtain ⟨Ao46, co46, eo46⟩ := Kd.R_slice HO_5.out
            subst eo46
            have p209 : 0 ≤ (x35_3 : Int) := sq_d
            have q209 : x35_3 < (x5_2.length : Int) := sq_d
            (try (obtain ⟨Aq209, cq209, eq209⟩ := Kd.R_slice HO_5.out; subst eq209))
            obtain ⟨ad209, e209, hx209_0⟩ := Kd.at_int (Kd.R_reads' HO_5.out).2.2 x35_3 p209 q209
            cases e209
            replace p209 := eq_true p209
            replace q209 := eq_true q209
            try go_wp2
            have n0_ := Aside0.mk (Kd.R_drew HO_5.out)
            have n1_ := Aside0.mk (Kd.R_drew HO_8.out)
            have n2_ := Aside0.mk (below_drew1 HB.out)
            clear HO_5
            clear HO_8
            clear HB
            have HO_5 := n0_
            have HO_8 := n1_
            have HB := n2_
            clear n0_ n1_ n2_
            have p23 : 0 ≤ (x27_2 : Int) := sq_d
            have q23 : x27_2 < (a0.size : Int) := sq_d
            have hx23 := bt_at a0 x27_2
            replace p23 := eq_true p23
            replace q23 := eq_true q23
            have p25 : 0 ≤ (x35_3 : Int) := sq_d
            have q25 : x35_3 < (a1.size : Int) := sq_d
            have hx25 := bt_at a1 x35_3
            replace p25 := eq_true p25
            replace q25 := eq_true q25
            refine start_ (n := 7) (S := fun w' => True) (ds := []) #[false, false, false, false, false, false, false] (by kernel_rfl) rfl rfl trivial (fun hHeld => ?_)
            generalize wr.drew = w47 at HO_5 HO_8 HB hHeld ⊢
            refine pure_ (i := 0) (N := some 42) (v := ?_) (a' := ?_) #[true, false, false, false, false, false, false] rfl rfl (by kernel_rfl) (fun _ _ _ h => h) (Or.inl ⟨by rfl, ?_⟩) ?_ ?_
            rotate_left
            ·intro w'
             go_simp
             with_reducible rfl
            rotate_left
            ·simp only [Act.put, List.setIfInBounds_toArray, List.set_cons_zero, List.set_cons_succ, i64_w, i32_w]
             rfl
            refine pure_ (i := 1) (N := some 43) (v := ?_) (a' := ?_) #[true, true, false, false, false, false, false] rfl rfl (by kernel_rfl) (fun _ _ _ h => h) (Or.inl ⟨by rfl, ?_⟩) ?_ ?_
            rotate_left
            ·intro w'
             go_simp
             with_reducible rfl
            rotate_left
            ·simp only [Act.put, List.setIfInBounds_toArray, List.set_cons_zero, List.set_cons_succ, i64_w, i32_w]
             rfl
            refine pure_ (i := 3) (N := some 45) (v := ?_) (a' := ?_) #[true, true, false, true, false, false, false] rfl rfl (by kernel_rfl) (fun _ _ _ h => h) (Or.inl ⟨by rfl, ?_⟩) ?_ ?_
            rotate_left
            ·intro w'
             go_simp
             with_reducible rfl
            rotate_left
            ·simp only [Act.put, List.setIfInBounds_toArray, List.set_cons_zero, List.set_cons_succ, i64_w, i32_w]
             rfl
            refine pure_ (i := 4) (N := some 46) (v := ?_) (a' := ?_) #[true, true, false, true, true, false, false] rfl rfl (by kernel_rfl) (fun _ _ _ h => h) (Or.inl ⟨by rfl, ?_⟩) ?_ ?_
            rotate_left
            ·intro w'
             go_simp
             with_reducible rfl
            rotate_left
            ·simp only [Act.put, List.setIfInBounds_toArray, List.set_cons_zero, List.set_cons_succ, i64_w, i32_w]
             rfl
            refine take_ (i := 2) (N := some 44) (v := ?_) (a' := ?_) #[true, true, true, true, true, false, false] rfl rfl (by kernel_rfl) (fun _ _ _ h => h) (Or.inl ⟨by rfl, ?_⟩) hHeld ?_ ?_
            rotate_left
            ·intro w' _
             go_simp
             with_reducible rfl
            rotate_left
            ·simp only [Act.put, List.setIfInBounds_toArray, List.set_cons_zero, List.set_cons_succ, i64_w, i32_w]
             rfl
            refine take_ (i := 5) (N := some 47) (v := ?_) (a' := ?_) #[true, true, true, true, true, true, false] rfl rfl (by kernel_rfl) (fun _ _ _ h => h) (Or.inl ⟨by rfl, ?_⟩) hHeld ?_ ?_
            rotate_left
            ·intro w' _
             go_simp
             with_reducible rfl
            rotate_left
            ·simp only [Act.put, List.setIfInBounds_toArray, List.set_cons_zero, List.set_cons_succ, i64_w, i32_w]
             rfl
            refine pure_ (i := 6) (N := some 48) (v := ?_) (a' := ?_) #[true, true, true, true, true, true, true] rfl rfl (by kernel_rfl) (fun _ _ _ h => h) (Or.inl ⟨by rfl, ?_⟩) ?_ ?_
            rotate_left
            ·intro w'
             go_simp
             with_reducible rfl
            rotate_left
            ·simp only [Act.put, List.setIfInBounds_toArray, List.set_cons_zero, List.set_cons_succ, i64_w, i32_w]
             rfl
            refine done_ (by kernel_rfl) ?_
            try go_wp2
            have n0_ := Aside0.mk (Kd.R_drew HO_5.out)
            have n1_ := Aside0.mk (Kd.R_drew HO_8.out)
            have n2_ := Aside0.mk (below_drew1 HB.out)
            clear HO_5
            clear HO_8
            clear HB
            have HO_5 := n0_
            have HO_8 := n1_
            have HB := n2_
            clear n0_ n1_ n2_
            have p215 : 0 ≤ ((ji39) : Int) := sq_d
            have q215 : (ji39) < (x5_2.length : Int) := sq_d
            (try (obtain ⟨Aq215, cq215, eq215⟩ := Kd.R_slice HO_5.out; subst eq215))
            obtain ⟨ad215, e215, hx215_0⟩ := Kd.at_int (Kd.R_reads' HO_5.out).2.2 (ji39) p215 q215
            obtain rfl : ad209 = ad215 := (by injection e215)
            replace p215 := eq_true p215
            replace q215 := eq_true q215
            obtain ⟨Ao49, co49, eo49⟩ := Kd.R_slice HO_8.out
            (first | subst eo49 | (injection eo49 with f1_ f2_ f3_; have f4_ := f1_.symm; have f5_ := f3_.symm; clear f1_ f2_ f3_; subst f4_; subst f5_))
            have p216 : 0 ≤ (x35_3 : Int) := sq_d
            have q216 : x35_3 < (x8_3.length : Int) := sq_d
            (try (obtain ⟨Aq216, cq216, eq216⟩ := Kd.R_slice HO_8.out; subst eq216))
            obtain ⟨ad216, e216, hx216_0⟩ := Kd.at_int (Kd.R_reads' HO_8.out).2.2 x35_3 p216 q216
            cases e216
            replace p216 := eq_true p216
            replace q216 := eq_true q216
            refine start_ (n := 17) (S := fun w' => w'.cell? (ad209.add ((ji39)).toNat) = some (.int .i64 (rd x5_2 (ji39))) ∧ w'.cell? (ad216.add (x35_3).toNat) = some (.int .i64 (rd x8_3 x35_3))) (ds := [14, 15]) #[false, false, false, false, false, false, false, false, false, false, false, false, false, false, false, false, false] (by kernel_rfl) rfl rfl ⟨hx215_0, hx216_0⟩ (fun hHeld => ?_); refine with_tabW impl_farOf.tab17 impl_farOf.bits17 (fun HT_ HW_ => ?_)
            generalize w47.drew = w48 at HO_5 HO_8 HB hx215_0 hx216_0 hHeld ⊢
            refine pu_ 0 (some 51) #[true, false, false, false, false, false, false, false, false, false, false, false, false, false, false, false, false] HT_ ?_
            refine pu_ 1 (some 52) #[true, true, false, false, false, false, false, false, false, false, false, false, false, false, false, false, false] HT_ ?_
            refine pu_ 2 (some 53) #[true, true, true, false, false, false, false, false, false, false, false, false, false, false, false, false, false] HT_ ?_
            refine pu_ 3 (some 54) #[true, true, true, true, false, false, false, false, false, false, false, false, false, false, false, false, false] HT_ ?_
            refine pu_ 4 (some 55) #[true, true, true, true, true, false, false, false, false, false, false, false, false, false, false, false, false] HT_ ?_
            refine pu_ 5 (some 56) #[true, true, true, true, true, true, false, false, false, false, false, false, false, false, false, false, false] HT_ ?_
            refine pu_ 8 (some 59) #[true, true, true, true, true, true, false, false, true, false, false, false, false, false, false, false, false] HT_ ?_
            refine pu_ 9 (some 60) #[true, true, true, true, true, true, false, false, true, true, false, false, false, false, false, false, false] HT_ ?_
            refine pu_ 10 (some 61) #[true, true, true, true, true, true, false, false, true, true, true, false, false, false, false, false, false] HT_ ?_
            refine take_ (i := 6) (N := some 57) (v := ?_) (a' := ?_) #[true, true, true, true, true, true, true, false, true, true, true, false, false, false, false, false, false] rfl rfl (take_ofW HT_.out HW_.out (by kernel_rfl)) (fun _ _ _ h => h) (Or.inl ⟨by rfl, ?_⟩) hHeld ?_ ?_
            rotate_left
            ·rintro w' ⟨s0, s1⟩
             go_simp
             with_reducible rfl
            rotate_left
            ·simp only [Act.put, List.setIfInBounds_toArray, List.set_cons_zero, List.set_cons_succ, i64_w, i32_w]
             rfl
            refine pu_ 7 (some 58) #[true, true, true, true, true, true, true, true, true, true, true, false, false, false, false, false, false] HT_ ?_
            refine take_ (i := 11) (N := some 62) (v := ?_) (a' := ?_) #[true, true, true, true, true, true, true, true, true, true, true, true, false, false, false, false, false] rfl rfl (take_ofW HT_.out HW_.out (by kernel_rfl)) (fun _ _ _ h => h) (Or.inl ⟨by rfl, ?_⟩) hHeld ?_ ?_
            rotate_left
            ·rintro w' ⟨s0, s1⟩
             go_simp
             with_reducible rfl
            rotate_left
            ·simp only [Act.put, List.setIfInBounds_toArray, List.set_cons_zero, List.set_cons_succ, i64_w, i32_w]
             rfl
            refine pu_ 12 (some 63) #[true, true, true, true, true, true, true, true, true, true, true, true, true, false, false, false, false] HT_ ?_
            refine pu_ 13 (some 64) #[true, true, true, true, true, true, true, true, true, true, true, true, true, true, false, false, false] HT_ ?_
            refine last_ (i := 14) (N := some 65) #[true, true, true, true, true, true, true, true, true, true, true, true, true, true, true, false, false] rfl rfl (one_of HT_.out (by kernel_rfl)) (by decide) (fun K hK => ?_)
            refine value_ (w1 := ?_) (v := ?_) (by rfl) rfl ?_ ?_
            rotate_left 2
            ·go_simp
             constructor
             ·rfl
             ·rfl
            refine hK.out _ _ ?_
            clear hK K
            refine norm_ (a' := ?_) ?_ ?_
            rotate_left
            ·show Act.put _ (some 65) _ = _
             simp only [Act.put, List.setIfInBounds_toArray, List.set_cons_zero, List.set_cons_succ, i64_w, i32_w]
             rfl
            refine last_ (i := 15) (N := some 66) #[true, true, true, true, true, true, true, true, true, true, true, true, true, true, true, true, false] rfl rfl (one_of HT_.out (by kernel_rfl)) (by decide) (fun K hK => ?_)
            refine Kd.R_append_step (Kd.int .i64) (w0 := w) w.heap.size (by rfl) (.tmp 51) (.tmp 65) 60 3 (.int .i64 0) 8 rfl Try.underlying60 info3 rfl (by decide) (by omega) (.slice (some ad216) x8_3.length co49) x8_3 ji44 [.int .i64 ji44] (fun k_ => some k_ ≠ (.slice (some ad209) x5_2.length co46 : Value).ownBlock) (fun _ => False) rfl rfl ?aP (fun _ hk => hk.elim) ?aF ?aO ?aB ?aS ?aL ?_
            (case aP => exact rfl)
            (case aB => exact sq_b)
            (case aF => exact (fun k_ hk => Kd.fresh' (Kd.R_lt (sq_r HO_5)) k_ hk))
            (case aO => exact (sq_r HO_8))
            (case aS => exact (below_size sq_b))
            (case aL => have := LMc45.out; omega)
            intro v218 w50 ho hb hg hat
            rw [← Ny217.out] at ho
            have n0_ := Aside0.mk (Kd.R_after (ok := (fun _ => True)) (by (with_reducible repeat (first | apply Kd.R_alloc | apply Kd.R_drewN | apply Kd.R_drew)); exact Kd.R_mono HO_5.out (fun _ hk => ⟨trivial, hk⟩)) hg hat)
            have n1_ := Aside0.mk (hb)
            have n2_ := Aside0.mk (ho)
            clear HO_5
            clear HB
            clear HO_8
            have HO_5 := n0_
            have HB := n1_
            have HO219 := n2_
            clear n0_ n1_ n2_
            clear ho hb hg hat
            refine hK.out _ _ ?_
            clear hK K
            refine norm_ (a' := ?_) ?_ ?_
            rotate_left
            ·show Act.put _ (some 66) _ = _
             simp only [Act.put, List.setIfInBounds_toArray, List.set_cons_zero, List.set_cons_succ, i64_w, i32_w]
             rfl
            refine pu_ 16 (some 8) #[true, true, true, true, true, true, true, true, true, true, true, true, true, true, true, true, true] HT_ ?_
            refine done_ (done_of HT_.out (by kernel_rfl)) ?_
            try go_wp2
            go_roundg k3
            case measure => have := HK1.out; have := HK2.out; have := HK3.out; omega
            case rel => exact ⟨(y217), (ji39), (by first | rfl | (simp; done) | (simp [ext_bne_nil, ext_beq_nil]; done) | (simp only [← hji39] <;> (first | rfl | simp)) | (simp [*]; done)), H', ⟨by have := HK1.out; have := HK2.out; have := HK3.out; omega⟩, ⟨by (try simp only [hl5_1]); (with_reducible repeat (first | apply Kd.R_alloc | apply Kd.R_drewN | apply Kd.R_drew)); exact Kd.R_mono HO_5.out (fun _ hk => hk.2)⟩, ⟨by (try simp only [hl5_1]); (with_reducible repeat (first | apply Kd.R_alloc | apply Kd.R_drewN | apply Kd.R_drew)); exact HO219.out⟩, ⟨sq_b⟩⟩
          ·rw [if_neg c18] at H
           have c18b0 : decide (x35_3 < (a1.size : Int)) = false := decide_eq_false c18
           clear c18
           have H' := Aside0.mk H
           clear H
           go_wp2
           go_roundg k3
           case measure => have := HK1.out; have := HK2.out; have := HK3.out; omega
           case rel => exact ⟨(x8_3), (wrap64 (x27_2 + 1)), sq_e, H', ⟨by have := HK1.out; have := HK2.out; have := HK3.out; omega⟩, ⟨by (try simp only [hl5_1]); (with_reducible repeat (first | apply Kd.R_alloc | apply Kd.R_drewN | apply Kd.R_drew)); exact Kd.R_mono HO_8.out (fun _ hk => trivial)⟩, ⟨sq_b⟩⟩
       ·rw [if_neg c15] at H
        have c15b0 : decide (x27_2 < (a0.size : Int)) = false := decide_eq_false c15
        clear c15
        by_cases c51 : 0 ≤ (a1.size : Int)
        rotate_left
        ·rw [if_neg c51] at H
         exact absurd H (by simp)
        rw [if_pos c51] at H
        have c51b0 : decide (0 ≤ (a1.size : Int)) = true := decide_eq_true c51
        have c51b1 : decide (0 ≤ a1.size) = true := decide_eq_true (by omega)
        clear c51
        by_cases c52 : (a1.size : Int) < (x5_2.length : Int)
        rotate_left
        ·rw [if_neg c52] at H
         exact absurd H (by simp)
        rw [if_pos c52] at H
        have c52b0 : decide ((a1.size : Int) < (x5_2.length : Int)) = true := decide_eq_true c52
        have c52b1 : decide (a1.size < x5_2.length) = true := decide_eq_true (Int.ofNat_lt.mp c52)
        (try (have c52h0 := c52b0; simp only [hl5_1] at c52h0))
        (try (have c52h1 := c52b1; simp only [hl5_1] at c52h1))
        clear c52
        obtain rfl := Option.some.inj H
        obtain ⟨Ao53, co53, eo53⟩ := Kd.R_slice HO_5.out
        subst eo53
        have p205 : 0 ≤ ((a1.size : Int) : Int) := sq_d
        have q205 : (a1.size : Int) < (x5_2.length : Int) := sq_d
        (try (obtain ⟨Aq205, cq205, eq205⟩ := Kd.R_slice HO_5.out; subst eq205))
        obtain ⟨ad205, e205, hx205_0⟩ := Kd.at_int (Kd.R_reads' HO_5.out).2.2 (a1.size : Int) p205 q205
        cases e205
        (try simp only [Int.toNat_natCast] at hx205_0)
        replace p205 := eq_true p205
        replace q205 := eq_true q205
        go_wp2
        go_ret
        exact ⟨by first | rfl | (simp [errW_none, errW_some] <;> rfl) | (simp only [← hji3]; first | rfl | (simp [errW_none, errW_some] <;> rfl)) | (simp [errW_none, errW_some, ext_bne_nil, ext_beq_nil]; done) | (simp [*, errW_none, errW_some] <;> rfl), sq_b⟩
 ·rw [if_neg c4] at H
  exact absurd H (by simp)

end Go.Proofs.Ytlohhmoaomlieaa.QFnExactNearestOf
