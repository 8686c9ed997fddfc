-- Written by this session's own program (wip/pp_patch.py, wip/pp.sh) out of the given translation. Not trusted: Lean checks it.
import Derived.Test.YtpfjlnfgekeobaaQFnExactMergeVersionsx0
import Derived.Test.YtpfjlnfgekeobaaQFnExactMergeVersionsx1
import Derived.Test.YtpfjlnfgekeobaaQFnExactMergeVersionsx9
namespace Go.Proofs.Ytpfjlnfgekeobaa.QFnExactMergeVersions
open Go.RowKit Go.Proofs.YtpfjlnfgekeobaaW.PrintWords Go.Proofs.YtpfjlnfgekeobaaW.PrintLast Go.Proofs.YtpfjlnfgekeobaaW.PrintMore
attribute [local go_sem] max2_int min2_int max_two min_two max_three min_three max_four min_four   -- for this text's walks alone
open Go.Proofs.Ytpfjlnfgekeobaa.Ext
attribute [local go_sem high] ext_gtr ext_leq
set_option linter.unusedVariables false
set_option linter.unusedSimpArgs false

attribute [local go_sem high] eqA42
/-! ### slices_Concat_impl_Version: function 56 -/
mutual
def slices_Concat_impl_Version.l0 : Nat → List (List (S42)) → Int → List (List (S42)) → Int → Int → Option ((List (S42)))
 | 0, _, _, _, _, _ => none
 | k + 1, x0, x3, x9, x10, x11 => if x11 < x10 then (if 0 ≤ x11 then (if x11 < (x9.length : Int) then (if (wrap64 (x3 + ((rd_L6 x9 x11).length : Int))) < 0 then (none) else (slices_Concat_impl_Version.l0 k x0 (wrap64 (x3 + ((rd_L6 x9 x11).length : Int))) x9 x10 (wrap64 (x11 + 1)))) else (none)) else (none)) else ((slices_Grow_impl_Version.f x3).bind fun t231 => (slices_Concat_impl_Version.l1 k t231 x0 (x0.length : Int) 0))
def slices_Concat_impl_Version.l1 : Nat → List (S42) → List (List (S42)) → Int → Int → Option ((List (S42)))
 | 0, _, _, _, _ => none
 | k + 1, x6, x25, x26, x27 => if x27 < x26 then (if 0 ≤ x27 then (if x27 < (x25.length : Int) then (if x6.length + (rd_L6 x25 x27).length < 2932031007402 then (slices_Concat_impl_Version.l1 k (x6 ++ (rd_L6 x25 x27)) x25 x26 (wrap64 (x27 + 1))) else (none)) else (none)) else (none)) else (some x6)
end
def slices_Concat_impl_Version.f (k : Nat) (l0 : List (List (S42))) : Option ((List (S42))) := slices_Concat_impl_Version.l0 k l0 0 l0 (l0.length : Int) 0
theorem slices_Concat_impl_Version.mono_l : ∀ k, (∀ y0 y1 y2 y3 y4, LeO (slices_Concat_impl_Version.l0 k y0 y1 y2 y3 y4) (slices_Concat_impl_Version.l0 (k + 1) y0 y1 y2 y3 y4)) ∧ (∀ y0 y1 y2 y3, LeO (slices_Concat_impl_Version.l1 k y0 y1 y2 y3) (slices_Concat_impl_Version.l1 (k + 1) y0 y1 y2 y3))
 | 0 => ⟨fun _ _ _ _ _ r h => by simp [slices_Concat_impl_Version.l0] at h, fun _ _ _ _ r h => by simp [slices_Concat_impl_Version.l1] at h⟩
 | k + 1 => by
  obtain ⟨ih0, ih1⟩ := slices_Concat_impl_Version.mono_l k
  refine ⟨?_, ?_⟩
  ·intro y0 y1 y2 y3 y4
   unfold slices_Concat_impl_Version.l0
   repeat' first
   | (with_reducible exact ih0 _ _ _ _ _)
   | (with_reducible exact ih1 _ _ _ _)
   | (with_reducible exact LeO.refl _)
   | (with_reducible exact LeO.none _)
   | (with_reducible refine LeO.ite ?_ ?_)
   | (with_reducible refine LeO.bind ?_ (fun _ => ?_))
   | exact ih0 _ _ _ _ _
   | exact ih1 _ _ _ _
   | exact LeO.none _
   | refine LeO.ite ?_ ?_
   | refine LeO.bind ?_ (fun _ => ?_)
  ·intro y0 y1 y2 y3
   unfold slices_Concat_impl_Version.l1
   repeat' first
   | (with_reducible exact ih0 _ _ _ _ _)
   | (with_reducible exact ih1 _ _ _ _)
   | (with_reducible exact LeO.refl _)
   | (with_reducible exact LeO.none _)
   | (with_reducible refine LeO.ite ?_ ?_)
   | (with_reducible refine LeO.bind ?_ (fun _ => ?_))
   | exact ih0 _ _ _ _ _
   | exact ih1 _ _ _ _
   | exact LeO.none _
   | refine LeO.ite ?_ ?_
   | refine LeO.bind ?_ (fun _ => ?_)
theorem slices_Concat_impl_Version.mono : ∀ a0 k, LeO (slices_Concat_impl_Version.f k a0) (slices_Concat_impl_Version.f (k + 1) a0) := by
 intro a0 k
 obtain ⟨ih0, ih1⟩ := slices_Concat_impl_Version.mono_l k
 unfold slices_Concat_impl_Version.f
 repeat' first
   | (with_reducible exact ih0 _ _ _ _ _)
   | (with_reducible exact ih1 _ _ _ _)
   | (with_reducible exact LeO.refl _)
   | (with_reducible exact LeO.none _)
   | (with_reducible refine LeO.ite ?_ ?_)
   | (with_reducible refine LeO.bind ?_ (fun _ => ?_))
   | exact ih0 _ _ _ _ _
   | exact ih1 _ _ _ _
   | exact LeO.none _
   | refine LeO.ite ?_ ?_
   | refine LeO.bind ?_ (fun _ => ?_)
set_option maxHeartbeats 8000000 in
set_option maxRecDepth 100000 in
theorem slices_Concat_impl_Version.calls (k : Nat) (A0 : Option Addr) (c0 : Nat) (l0 : List (List (S42))) (r : List (S42)) (w : World) (hr0 : Kd.C (Kd.slice 42 k42) w A0 l0.length l0) (hc0 : l0.length ≤ c0) (h : slices_Concat_impl_Version.f k l0 = some r) :
  Calls Try.prog 56 #[.slice A0 l0.length c0] w fun e w' => ∃ v0_ : Value, e = .returned (v0_) ∧ Kd.R k42 42 w' w.heap.size (fun _ => True) v0_ r ∧ Below w.heap.size w w' := by
 have HR0 := Aside0.mk hr0
 have HC0 := Aside0.mk hc0
 clear hr0 hc0
 have HB := Aside0.mk (Below.refl w.heap.size w)
 have H : (slices_Concat_impl_Version.l0 k l0 0 l0 (l0.length : Int) 0) = some r := h
 clear h
 have H' := Aside0.mk H
 clear H
 go_enter Try.func56, Try.ntmps56
 go_wp2
 go_loopg [3, 11] k (fun kq v3 v11 w' => ∃ (x3_1 : Int) (x11_1 : Int), v3 = .int .i64 x3_1 ∧ v11 = .int .i64 x11_1 ∧ Aside0 (slices_Concat_impl_Version.l0 kq l0 x3_1 l0 (l0.length : Int) x11_1 = some r) ∧ Aside0 (kq ≤ k) ∧ Aside0 (Below w.heap.size w w'))
 case atStart => exact ⟨(0), (0), sq_e, sq_e, H', ⟨Nat.le_refl _⟩, ⟨sq_b⟩⟩
 case round =>
  clear H'
  obtain ⟨x3_1, x11_1, rfl, rfl, HA, HK1, HB⟩ := hrel
  cases gk with
  | zero => exact absurd HA.out (by simp [slices_Concat_impl_Version.l0])
  | succ k1 =>
   have H := HA.out
   clear HA
   simp only [slices_Concat_impl_Version.l0] at H
   by_cases c2 : x11_1 < (l0.length : Int)
   ·rw [if_pos c2] at H
    have c2b0 : decide (x11_1 < (l0.length : Int)) = true := decide_eq_true c2
    clear c2
    by_cases c3 : 0 ≤ x11_1
    rotate_left
    ·rw [if_neg c3] at H
     exact absurd H (by simp)
    rw [if_pos c3] at H
    have c3b0 : decide (0 ≤ x11_1) = true := decide_eq_true c3
    clear c3
    by_cases c4 : x11_1 < (l0.length : Int)
    rotate_left
    ·rw [if_neg c4] at H
     exact absurd H (by simp)
    rw [if_pos c4] at H
    have c4b0 : decide (x11_1 < (l0.length : Int)) = true := decide_eq_true c4
    clear c4
    by_cases c5 : (wrap64 (x3_1 + ((rd_L6 l0 x11_1).length : Int))) < 0
    ·rw [if_pos c5] at H
     exact absurd H (by simp)
    ·rw [if_neg c5] at H
     have c5b0 : decide ((wrap64 (x3_1 + ((rd_L6 l0 x11_1).length : Int))) < 0) = false := decide_eq_false c5
     clear c5
     have H' := Aside0.mk H
     clear H
     have p230 : 0 ≤ (x11_1 : Int) := sq_d
     have q230 : x11_1 < (l0.length : Int) := sq_d
     obtain ⟨ad230, A230_0, c230_0, e230, hx230_0, hl230_0, hi230_0⟩ := at_L6 HR0.out x11_1 p230 q230
     cases e230
     replace hx230_0 := (HB.out.cell (World.block_lt_of_cell? w _ hx230_0)).trans hx230_0
     have HR230_0 := Aside0.mk hi230_0
     have HC230_0 := Aside0.mk hl230_0
     clear hi230_0 hl230_0
     replace p230 := eq_true p230
     replace q230 := eq_true q230
     go_wp2
     go_roundg k1
     case measure => have := HK1.out; omega
     case rel => exact ⟨(wrap64 (x3_1 + ((rd_L6 l0 x11_1).length : Int))), (wrap64 (x11_1 + 1)), sq_e, sq_e, H', ⟨by have := HK1.out; omega⟩, ⟨sq_b⟩⟩
   ·rw [if_neg c2] at H
    have c2b0 : decide (x11_1 < (l0.length : Int)) = false := decide_eq_false c2
    clear c2
    replace H := Option.bind_eq_some_iff.mp H
    obtain ⟨t231, A60, H⟩ := H
    replace H : (slices_Concat_impl_Version.l1 k1 t231 l0 (l0.length : Int) 0) = some r := H
    have A6 := Aside0.mk A60
    clear A60
    have H' := Aside0.mk H
    clear H
    go_wp2_with (first | ((with_reducible refine gate_callee (f := 68) rfl ?_); refine goesL_ (some 24) rfl rfl Try.func68 (by kernel_rfl) rfl #[.slice none 0 0, .int .i64 x3_1] rfl (by (try simp only [List.map_toArray, List.map_cons, List.map_nil]); first | done | rfl | (simp only [List.length_drop, List.length_take]; rfl)) ?_; (with_reducible refine (slices_Grow_impl_Version.calls  x3_1 t231 _ A6.out).mono ?_); rintro e w7 ⟨v232, rfl, ho0, hb⟩; refine ⟨_, rfl, ?_⟩; have n0_ := Aside0.mk (Kd.R_lower ho0 (below_size sq_b)); have n1_ := Aside0.mk (below_step sq_b hb); clear HB; have HO233 := n0_; have HB := n1_; clear n0_ n1_; (try clear hb); (try clear hb2); (try clear hk); (try clear hi); (try clear ho0)))
    (try simp only [Act.put, List.setIfInBounds_toArray, List.set_cons_zero, List.set_cons_succ])
    go_loopg [6, 27] k1 (fun kq v6 v27 w' => ∃ (x6_2 : List (S42)) (x27_2 : Int), v27 = .int .i64 x27_2 ∧ Aside0 (slices_Concat_impl_Version.l1 kq x6_2 l0 (l0.length : Int) x27_2 = some r) ∧ Aside0 (kq ≤ k1) ∧ Aside0 (Kd.R k42 42 w' w.heap.size (fun _ => True) v6 x6_2) ∧ Aside0 (Below w.heap.size w w'))
    case atStart => exact ⟨(t231), (0), sq_e, H', ⟨Nat.le_refl _⟩, ⟨by (with_reducible repeat (first | apply Kd.R_alloc | apply Kd.R_drewN | apply Kd.R_drew)); exact HO233.out⟩, ⟨sq_b⟩⟩
    case round =>
     clear H'
     (try clear c2); (try clear c2b0); (try clear p2); (try clear q2); (try clear hx2); (try clear c3); (try clear c3b0); (try clear c4); (try clear c4b0); (try clear c5); (try clear c5b0); (try clear c6); (try clear p6); (try clear hx230_0); (try clear p230); (try clear q230)
     obtain ⟨x6_2, x27_2, rfl, HA, HK2, HO_6, HB⟩ := hrel
     cases gk with
     | zero => exact absurd HA.out (by simp [slices_Concat_impl_Version.l1])
     | succ k2 =>
      have H := HA.out
      clear HA
      simp only [slices_Concat_impl_Version.l1] at H
      by_cases c8 : x27_2 < (l0.length : Int)
      ·rw [if_pos c8] at H
       have c8b0 : decide (x27_2 < (l0.length : Int)) = true := decide_eq_true c8
       clear c8
       by_cases c9 : 0 ≤ x27_2
       rotate_left
       ·rw [if_neg c9] at H
        exact absurd H (by simp)
       rw [if_pos c9] at H
       have c9b0 : decide (0 ≤ x27_2) = true := decide_eq_true c9
       clear c9
       by_cases c10 : x27_2 < (l0.length : Int)
       rotate_left
       ·rw [if_neg c10] at H
        exact absurd H (by simp)
       rw [if_pos c10] at H
       have c10b0 : decide (x27_2 < (l0.length : Int)) = true := decide_eq_true c10
       clear c10
       by_cases c11 : x6_2.length + (rd_L6 l0 x27_2).length < 2932031007402
       rotate_left
       ·rw [if_neg c11] at H
        exact absurd H (by simp)
       rw [if_pos c11] at H
       have LMc11 := Aside0.mk c11
       clear c11
       obtain ⟨y235, hy235⟩ : ∃ y_ : List (S42), y_ = (x6_2 ++ (rd_L6 l0 x27_2)) := ⟨_, rfl⟩
       replace H : (slices_Concat_impl_Version.l1 k2 y235 l0 (l0.length : Int) (wrap64 (x27_2 + 1))) = some r := by first | (rw [hy235]; with_reducible exact H) | (have H2_ := (Option.bind_some _ _).symm.trans H; rw [hy235]; with_reducible exact H2_) | (have H2_ := (Option.bind_some _ _).symm.trans H; with_reducible exact H2_) | with_reducible exact H | (rw [hy235]; exact H) | exact H
       have Ny235 := Aside0.mk hy235
       clear hy235
       have H' := Aside0.mk H
       clear H
       have p234 : 0 ≤ (x27_2 : Int) := sq_d
       have q234 : x27_2 < (l0.length : Int) := sq_d
       obtain ⟨ad234, A234_0, c234_0, e234, hx234_0, hl234_0, hi234_0⟩ := at_L6 HR0.out x27_2 p234 q234
       cases e234
       replace hx234_0 := (HB.out.cell (World.block_lt_of_cell? w _ hx234_0)).trans hx234_0
       have HR234_0 := Aside0.mk hi234_0
       have HC234_0 := Aside0.mk hl234_0
       clear hi234_0 hl234_0
       replace p234 := eq_true p234
       replace q234 := eq_true q234
       go_wp2_with (first | ((with_reducible refine gate_builtin (b := .append) (xs := #[.tmp 31, .tmp 32]) rfl ?_); at_builtin; refine Kd.R_append_rows k42 (w0 := w) w.heap.size rfl (.tmp 31) (.tmp 32) 24 42 (.agg #[(.string ⟨#[]⟩), (.int .i64 0), (.bool false), (.string ⟨#[]⟩)]) 48 rfl Try.underlying24 info42 rfl (by decide) (by omega) u6 x6_2 (rd_L6 l0 x27_2) _ _ _ (fun _ => True) (fun _ => False) rfl rfl ?aO ?aR (fun _ _ h => h) (fun _ h => h.elim) ?aF ?aB ?aS ?aL ?_; (case aR => repeat (first | exact (Kd.C_below HR234_0.out HB.out) | (with_reducible refine Kd.C_alloc ?_ _) | (with_reducible refine Kd.C_drewN ?_ _) | (with_reducible refine Kd.C_drew ?_))); (case aB => exact sq_b); (case aF => exact (fun _ _ => trivial)); (case aO => exact (sq_r HO_6)); (case aS => exact (below_size sq_b)); (case aL => have := LMc11.out; omega); intro v236 w12 ho hb hg hat; rw [← Ny235.out] at ho; have n0_ := Aside0.mk (hb); have n1_ := Aside0.mk (ho); clear HB; clear HO_6; have HB := n0_; have HO237 := n1_; clear n0_ n1_; clear ho hb hg hat))
       go_roundg k2
       case measure => have := HK1.out; have := HK2.out; omega
       case rel => exact ⟨(y235), (wrap64 (x27_2 + 1)), sq_e, H', ⟨by have := HK1.out; have := HK2.out; omega⟩, ⟨by (with_reducible repeat (first | apply Kd.R_alloc | apply Kd.R_drewN | apply Kd.R_drew)); exact HO237.out⟩, ⟨sq_b⟩⟩
      ·rw [if_neg c8] at H
       have c8b0 : decide (x27_2 < (l0.length : Int)) = false := decide_eq_false c8
       clear c8
       obtain rfl := Option.some.inj H
       go_wp2
       go_ret
       exact ⟨_, sq_w, sq_r HO_6, sq_b⟩

/-! ### slices_Compact_impl_Version: function 58 -/
mutual
def slices_Compact_impl_Version.l0 : Nat → List (S42) → Int → Option ((List (S42)))
 | 0, _, _ => none
 | k + 1, x0, x3 => if x3 < (x0.length : Int) then (if 0 ≤ x3 then (if 0 ≤ (wrap64 (x3 - 1)) then (if (wrap64 (x3 - 1)) < (x0.length : Int) then (if ((((rd_T42 x0 x3).f0).toList) == (((rd_T42 x0 (wrap64 (x3 - 1))).f0).toList) && (((rd_T42 x0 x3).f1) == ((rd_T42 x0 (wrap64 (x3 - 1))).f1) && (((rd_T42 x0 x3).f2) == ((rd_T42 x0 (wrap64 (x3 - 1))).f2) && ((((rd_T42 x0 x3).f3).toList) == (((rd_T42 x0 (wrap64 (x3 - 1))).f3).toList))))) = true then (if x3 ≤ (x0.length : Int) then (slices_Compact_impl_Version.l1 k x0 x3 (x0.drop (x3 : Int).toNat) 1) else (none)) else (slices_Compact_impl_Version.l0 k x0 (wrap64 (x3 + 1)))) else (none)) else (none)) else (none)) else (some x0)
def slices_Compact_impl_Version.l1 : Nat → List (S42) → Int → List (S42) → Int → Option ((List (S42)))
 | 0, _, _, _, _ => none
 | k + 1, x0, x3, x4, x5 => if x5 < (x4.length : Int) then (if 0 ≤ x5 then (if 0 ≤ (wrap64 (x5 - 1)) then (if (wrap64 (x5 - 1)) < (x4.length : Int) then (if (!((((rd_T42 x4 x5).f0).toList) == (((rd_T42 x4 (wrap64 (x5 - 1))).f0).toList)) || (!(((rd_T42 x4 x5).f1) == ((rd_T42 x4 (wrap64 (x5 - 1))).f1)) || (!(((rd_T42 x4 x5).f2) == ((rd_T42 x4 (wrap64 (x5 - 1))).f2)) || (!((((rd_T42 x4 x5).f3).toList) == (((rd_T42 x4 (wrap64 (x5 - 1))).f3).toList)))))) = true then (if 0 ≤ x3 then (if x3 < (x0.length : Int) then (slices_Compact_impl_Version.l1 k (x0.set (x3 : Int).toNat (⟨(rd_T42 x4 x5).f0, (rd_T42 x4 x5).f1, (rd_T42 x4 x5).f2, (rd_T42 x4 x5).f3⟩ : S42)) (wrap64 (x3 + 1)) x4 (wrap64 (x5 + 1))) else (none)) else (none)) else (slices_Compact_impl_Version.l1 k x0 x3 x4 (wrap64 (x5 + 1)))) else (none)) else (none)) else (none)) else (if 0 ≤ x3 then (if x3 ≤ (x0.length : Int) then (some ((x0.take ((x3 : Int).toNat) ++ List.replicate (x0.length - (x3 : Int).toNat) z42).take (x3 : Int).toNat)) else (none)) else (none))
end
def slices_Compact_impl_Version.f (k : Nat) (l0 : List (S42)) : Option ((List (S42))) := if (l0.length : Int) < 2 then (some l0) else (slices_Compact_impl_Version.l0 k l0 1)
theorem slices_Compact_impl_Version.mono_l : ∀ k, (∀ y0 y1, LeO (slices_Compact_impl_Version.l0 k y0 y1) (slices_Compact_impl_Version.l0 (k + 1) y0 y1)) ∧ (∀ y0 y1 y2 y3, LeO (slices_Compact_impl_Version.l1 k y0 y1 y2 y3) (slices_Compact_impl_Version.l1 (k + 1) y0 y1 y2 y3))
 | 0 => ⟨fun _ _ r h => by simp [slices_Compact_impl_Version.l0] at h, fun _ _ _ _ r h => by simp [slices_Compact_impl_Version.l1] at h⟩
 | k + 1 => by
  obtain ⟨ih0, ih1⟩ := slices_Compact_impl_Version.mono_l k
  refine ⟨?_, ?_⟩
  ·intro y0 y1
   unfold slices_Compact_impl_Version.l0
   repeat' first
   | (with_reducible exact ih0 _ _)
   | (with_reducible exact ih1 _ _ _ _)
   | (with_reducible exact LeO.refl _)
   | (with_reducible exact LeO.none _)
   | (with_reducible refine LeO.ite ?_ ?_)
   | (with_reducible refine LeO.bind ?_ (fun _ => ?_))
   | exact ih0 _ _
   | exact ih1 _ _ _ _
   | exact LeO.none _
   | refine LeO.ite ?_ ?_
   | refine LeO.bind ?_ (fun _ => ?_)
  ·intro y0 y1 y2 y3
   unfold slices_Compact_impl_Version.l1
   repeat' first
   | (with_reducible exact ih0 _ _)
   | (with_reducible exact ih1 _ _ _ _)
   | (with_reducible exact LeO.refl _)
   | (with_reducible exact LeO.none _)
   | (with_reducible refine LeO.ite ?_ ?_)
   | (with_reducible refine LeO.bind ?_ (fun _ => ?_))
   | exact ih0 _ _
   | exact ih1 _ _ _ _
   | exact LeO.none _
   | refine LeO.ite ?_ ?_
   | refine LeO.bind ?_ (fun _ => ?_)
theorem slices_Compact_impl_Version.mono : ∀ a0 k, LeO (slices_Compact_impl_Version.f k a0) (slices_Compact_impl_Version.f (k + 1) a0) := by
 intro a0 k
 obtain ⟨ih0, ih1⟩ := slices_Compact_impl_Version.mono_l k
 unfold slices_Compact_impl_Version.f
 repeat' first
   | (with_reducible exact ih0 _ _)
   | (with_reducible exact ih1 _ _ _ _)
   | (with_reducible exact LeO.refl _)
   | (with_reducible exact LeO.none _)
   | (with_reducible refine LeO.ite ?_ ?_)
   | (with_reducible refine LeO.bind ?_ (fun _ => ?_))
   | exact ih0 _ _
   | exact ih1 _ _ _ _
   | exact LeO.none _
   | refine LeO.ite ?_ ?_
   | refine LeO.bind ?_ (fun _ => ?_)
set_option maxHeartbeats 8000000 in
set_option maxRecDepth 100000 in
theorem slices_Compact_impl_Version.calls (k : Nat) (P0_ : Nat → Prop) (u9000_ : Value) (l0 : List (S42)) (r : List (S42)) (w0 w : World) (hB : Below w0.heap.size w0 w) (ho0 : Kd.R k42 42 w w0.heap.size P0_ u9000_ l0) (h : slices_Compact_impl_Version.f k l0 = some r) :
  Calls Try.prog 58 #[u9000_] w fun e w' => ∃ v0_ : Value, e = .returned (v0_) ∧ Kd.R k42 42 w' w0.heap.size (fun k_ => (P0_ k_ ∨ w.heap.size ≤ k_)) v0_ r ∧ Below w0.heap.size w0 w' ∧ Kept w w' (fun k_ => P0_ k_) := by
 have hu42 := Try.underlying42
 have HO0 := Aside0.mk (show Kd.R k42 42 w w0.heap.size (fun k_ => (P0_ k_ ∨ w.heap.size ≤ k_)) u9000_ l0 from Kd.R_mono ho0 (fun k_ hk => (.inl hk)))
 have HK := Aside0.mk (Kept.refl w (fun k_ => P0_ k_))
 have HW0 := Aside0.mk hB.size
 have HB := Aside0.mk hB
 clear hB
 have H : (if (l0.length : Int) < 2 then (some l0) else (slices_Compact_impl_Version.l0 k l0 1)) = some r := h
 clear h
 by_cases c2 : (l0.length : Int) < 2
 ·rw [if_pos c2] at H
  have c2b0 : decide ((l0.length : Int) < 2) = true := decide_eq_true c2
  have c2b1 : decide (l0.length < 2) = true := decide_eq_true (by omega)
  clear c2
  obtain rfl := Option.some.inj H
  obtain ⟨Ao3, co3, eo3⟩ := Kd.R_slice HO0.out
  subst eo3
  go_enter Try.func58, Try.ntmps58
  go_wp2
  repeat (go_quiet (fail); try go_wp2)
  go_ret
  exact ⟨_, sq_w, sq_r HO0, sq_b, sq_k⟩
 ·rw [if_neg c2] at H
  have c2b0 : decide ((l0.length : Int) < 2) = false := decide_eq_false c2
  have c2b1 : decide (l0.length < 2) = false := decide_eq_false (by omega)
  clear c2
  have H' := Aside0.mk H
  clear H
  obtain ⟨Ao4, co4, eo4⟩ := Kd.R_slice HO0.out
  subst eo4
  obtain ⟨gz_, cz_, ez_, gbz_, glz_, clz_, HGz_⟩ := Kd.R_form HO0.out (by have h_ : ¬ l0.length < 2 := of_decide_eq_false (by first | (with_reducible assumption) | assumption); omega)
  obtain rfl : Ao4 = some ⟨gz_, 0, none⟩ := by injection ez_
  obtain rfl : co4 = cz_ := by injection ez_
  clear HGz_ gbz_ glz_ ez_
  go_enter Try.func58, Try.ntmps58
  go_wp2
  repeat (go_quiet (fail); try go_wp2)
  go_loopg [3] k (fun kq v3 w' => ∃ (x0_1 : List (S42)) (x3_1 : Int), v3 = .int .i64 x3_1 ∧ Aside0 (slices_Compact_impl_Version.l0 kq x0_1 x3_1 = some r) ∧ Aside0 (kq ≤ k) ∧ Aside0 (Kd.R k42 42 w' w0.heap.size (fun k_ => (P0_ k_ ∨ w.heap.size ≤ k_)) (.slice (some ⟨gz_, 0, none⟩) l0.length co4) x0_1) ∧ Aside0 (Kept w w' (fun k_ => P0_ k_)) ∧ Aside0 (Below w0.heap.size w0 w'))
  case atStart => exact ⟨(l0), (1), sq_e, H', ⟨Nat.le_refl _⟩, ⟨by (with_reducible repeat (first | apply Kd.R_alloc | apply Kd.R_drewN | apply Kd.R_drew)); exact HO0.out⟩, ⟨sq_k⟩, ⟨sq_b⟩⟩
  case round =>
   clear H'
   (try clear c2); (try clear c2b0); (try clear c2b1); (try clear p2)
   obtain ⟨x0_1, x3_1, rfl, HA, HK1, HO_0, HK, HB⟩ := hrel
   have hl0_1 := (Kd.R_reads' HO_0.out).1
   rw [hl0_1] at HO_0
   (try simp only [hl0_1])
   cases gk with
   | zero => exact absurd HA.out (by simp [slices_Compact_impl_Version.l0])
   | succ k1 =>
    have H := HA.out
    clear HA
    simp only [slices_Compact_impl_Version.l0] at H
    by_cases c5 : x3_1 < (x0_1.length : Int)
    ·rw [if_pos c5] at H
     have c5b0 : decide (x3_1 < (x0_1.length : Int)) = true := decide_eq_true c5
     (try (have c5h0 := c5b0; simp only [hl0_1] at c5h0))
     clear c5
     by_cases c6 : 0 ≤ x3_1
     rotate_left
     ·rw [if_neg c6] at H
      exact absurd H (by simp)
     rw [if_pos c6] at H
     have c6b0 : decide (0 ≤ x3_1) = true := decide_eq_true c6
     clear c6
     obtain ⟨ji7, hji7⟩ : ∃ j_ : Int, (wrap64 (x3_1 - 1)) = j_ := ⟨_, rfl⟩
     replace H : (if 0 ≤ (ji7) then (if (ji7) < (x0_1.length : Int) then (if ((((rd_T42 x0_1 x3_1).f0).toList) == (((rd_T42 x0_1 (ji7)).f0).toList) && (((rd_T42 x0_1 x3_1).f1) == ((rd_T42 x0_1 (ji7)).f1) && (((rd_T42 x0_1 x3_1).f2) == ((rd_T42 x0_1 (ji7)).f2) && ((((rd_T42 x0_1 x3_1).f3).toList) == (((rd_T42 x0_1 (ji7)).f3).toList))))) = true then (if x3_1 ≤ (x0_1.length : Int) then (slices_Compact_impl_Version.l1 k1 x0_1 x3_1 (x0_1.drop (x3_1 : Int).toNat) 1) else (none)) else (slices_Compact_impl_Version.l0 k1 x0_1 (wrap64 (x3_1 + 1)))) else (none)) else (none)) = some r := by first | (rw [hji7] at H; exact H) | (simp only [hji7] at H ⊢; exact H)
     have hji7w : (IntKind.i64.wrap (x3_1 - 1)) = ji7 := (i64_w _).trans hji7
     by_cases c8 : 0 ≤ (ji7)
     rotate_left
     ·rw [if_neg c8] at H
      exact absurd H (by simp)
     rw [if_pos c8] at H
     have c8b0 : decide (0 ≤ (ji7)) = true := decide_eq_true c8
     clear c8
     by_cases c9 : (ji7) < (x0_1.length : Int)
     rotate_left
     ·rw [if_neg c9] at H
      exact absurd H (by simp)
     rw [if_pos c9] at H
     have c9b0 : decide ((ji7) < (x0_1.length : Int)) = true := decide_eq_true c9
     (try (have c9h0 := c9b0; simp only [hl0_1] at c9h0))
     clear c9
     by_cases c10 : ((((rd_T42 x0_1 x3_1).f0).toList) == (((rd_T42 x0_1 (ji7)).f0).toList) && (((rd_T42 x0_1 x3_1).f1) == ((rd_T42 x0_1 (ji7)).f1) && (((rd_T42 x0_1 x3_1).f2) == ((rd_T42 x0_1 (ji7)).f2) && ((((rd_T42 x0_1 x3_1).f3).toList) == (((rd_T42 x0_1 (ji7)).f3).toList))))) = true
     ·rw [if_pos c10] at H
      have c10b0 : ((((rd_T42 x0_1 x3_1).f0).toList) == (((rd_T42 x0_1 (ji7)).f0).toList) && (((rd_T42 x0_1 x3_1).f1) == ((rd_T42 x0_1 (ji7)).f1) && (((rd_T42 x0_1 x3_1).f2) == ((rd_T42 x0_1 (ji7)).f2) && ((((rd_T42 x0_1 x3_1).f3).toList) == (((rd_T42 x0_1 (ji7)).f3).toList))))) = true := c10
      (try (have c10b1 : decide ((((rd_T42 x0_1 x3_1).f0).toList) = (((rd_T42 x0_1 (ji7)).f0).toList) && (((rd_T42 x0_1 x3_1).f1) == ((rd_T42 x0_1 (ji7)).f1) && (((rd_T42 x0_1 x3_1).f2) == ((rd_T42 x0_1 (ji7)).f2) && ((((rd_T42 x0_1 x3_1).f3).toList) == (((rd_T42 x0_1 (ji7)).f3).toList))))) = true := by simpa using c10))
      (try (have c10b2 : ((((rd_T42 x0_1 x3_1).f0).toList) == (((rd_T42 x0_1 (ji7)).f0).toList) && (((rd_T42 x0_1 x3_1).f1) == ((rd_T42 x0_1 (ji7)).f1) && (((rd_T42 x0_1 x3_1).f2) == ((rd_T42 x0_1 (ji7)).f2) && ((((rd_T42 x0_1 x3_1).f3).toList) == (((rd_T42 x0_1 (ji7)).f3).toList))))) = true := by simpa using c10))
      clear c10
      have c11b0 := eq_true (sq_d : 0 ≤ x3_1)
      by_cases c12 : x3_1 ≤ (x0_1.length : Int)
      rotate_left
      ·rw [if_neg c12] at H
       exact absurd H (by simp)
      rw [if_pos c12] at H
      have c12b0 := eq_true c12
      have c12b1 : decide (x3_1 ≤ (x0_1.length : Int)) = true := decide_eq_true c12
      clear c12
      obtain ⟨y240, hy240⟩ : ∃ y_ : List (S42), y_ = (x0_1.drop (x3_1 : Int).toNat) := ⟨_, rfl⟩
      replace H : (slices_Compact_impl_Version.l1 k1 x0_1 x3_1 y240 1) = some r := by first | (rw [hy240]; with_reducible exact H) | (have H2_ := (Option.bind_some _ _).symm.trans H; rw [hy240]; with_reducible exact H2_) | (have H2_ := (Option.bind_some _ _).symm.trans H; with_reducible exact H2_) | with_reducible exact H | (rw [hy240]; exact H) | exact H
      have Ny240 := Aside0.mk hy240
      clear hy240
      have H' := Aside0.mk H
      clear H
      have p238 : 0 ≤ (x3_1 : Int) := sq_d
      have q238 : x3_1 < (x0_1.length : Int) := sq_d
      obtain ⟨ad238, e238, hx238_0, hx238_1, hx238_2, hx238_3⟩ := at_T42 (Kd.R_reads' HO_0.out).2.2 x3_1 p238 q238
      cases e238
      (first | simp only [add_plain] at hx238_0 | skip)
      (first | simp only [add_plain] at hx238_1 | skip)
      (first | simp only [add_plain] at hx238_2 | skip)
      (first | simp only [add_plain] at hx238_3 | skip)
      replace p238 := eq_true p238
      replace q238 := eq_true q238
      have p239 : 0 ≤ ((ji7) : Int) := sq_d
      have q239 : (ji7) < (x0_1.length : Int) := sq_d
      obtain ⟨ad239, e239, hx239_0, hx239_1, hx239_2, hx239_3⟩ := at_T42 (Kd.R_reads' HO_0.out).2.2 (ji7) p239 q239
      obtain rfl : (⟨gz_, 0, none⟩ : Addr) = ad239 := (by injection e239)
      (first | simp only [add_plain] at hx239_0 | skip)
      (first | simp only [add_plain] at hx239_1 | skip)
      (first | simp only [add_plain] at hx239_2 | skip)
      (first | simp only [add_plain] at hx239_3 | skip)
      replace p239 := eq_true p239
      replace q239 := eq_true q239
      have q13 : (x3_1 : Int) ≤ ((x0_1.length : Int) : Int) := sq_d
      obtain ⟨i013, hi013, _, hsz13, _⟩ := info_parts info42
      have hroom13 : x0_1.length ≤ co4 := (Kd.R_reads' HO_0.out).2.1
      have hC13 : Kd.C k42 _ (some ⟨gz_, 0, none⟩) x0_1.length x0_1 := (Kd.R_reads' HO_0.out).2.2
      have q013 : (0 : Int) ≤ (x3_1 : Int) := sq_d
      have hcut13 := cut_from (P := Try.prog) 24 42 .i64 Try.underlying24 hi013 4 hsz13 (some ⟨gz_, 0, none⟩) x0_1.length co4 x3_1 q013 q13
      have hr13 := Kd.C_drop (m := (x3_1 : Int).toNat) (c := co4) hC13 (by omega) hroom13
      obtain ⟨A13, hA13⟩ : ∃ A1, A1 = (if co4 = (x3_1 : Int).toNat then (some ⟨gz_, 0, none⟩) else ((some ⟨gz_, 0, none⟩) : Option Addr).map (·.add ((x3_1 : Int).toNat * 4))) := ⟨_, rfl⟩
      obtain ⟨c13, hc13⟩ : ∃ c1, c1 = co4 - (x3_1 : Int).toNat := ⟨_, rfl⟩
      have hy13 : y240.length = x0_1.length - (x3_1 : Int).toNat := (by rw [Ny240.out, List.length_drop] <;> omega)
      rw [show (x0_1).drop (x3_1 : Int).toNat = y240 from Ny240.out.symm] at hr13
      replace hr13 : Kd.C k42 _ A13 y240.length y240 := (by rw [hA13]; exact hr13)
      rw [← hy13, ← hA13, ← hc13] at hcut13
      have HR243 := Aside0.mk hr13
      have HC243 := Aside0.mk (show y240.length ≤ c13 from by rw [hy13, hc13]; exact Nat.sub_le_sub_right hroom13 _)
      clear hr13 hC13 hroom13 hi013 hsz13 hc13
      have KY13 := Aside0.mk hy13
      have KA13 := Aside0.mk hA13
      clear hy13 hA13
      have KL13 := Aside0.mk (show (x3_1 : Int).toNat ≤ x0_1.length from by omega)
      replace q13 := eq_true q13
      go_wp2
      repeat (go_quiet (fail); try go_wp2)
      go_loopg [3, 5] k1 (fun kq v3 v5 w' => ∃ (x0_2 : List (S42)) (x3_2 : Int) (x5_2 : Int), v3 = .int .i64 x3_2 ∧ v5 = .int .i64 x5_2 ∧ Aside0 (slices_Compact_impl_Version.l1 kq x0_2 x3_2 y240 x5_2 = some r) ∧ Aside0 (kq ≤ k1) ∧ Aside0 (Kd.R k42 42 w' w0.heap.size (fun k_ => (P0_ k_ ∨ w.heap.size ≤ k_)) (.slice (some ⟨gz_, 0, none⟩) x0_1.length co4) x0_2) ∧ Aside0 (Kept w w' (fun k_ => P0_ k_)) ∧ Aside0 (Below w0.heap.size w0 w') ∧ Aside0 (CompRel x0_1 x0_2 x3_1 x3_2 x5_2))
      case atStart => exact ⟨(x0_1), (x3_1), (1), sq_e, sq_e, H', ⟨Nat.le_refl _⟩, ⟨by (try simp only [hl0_1]); (with_reducible repeat (first | apply Kd.R_alloc | apply Kd.R_drewN | apply Kd.R_drew)); exact HO_0.out⟩, ⟨sq_k⟩, ⟨sq_b⟩, ⟨CompRel.start (sq_d)⟩⟩
      case round =>
       clear H'
       (try clear c1); (try clear q1); (try clear c2); (try clear c2b0); (try clear c2b1); (try clear p2); (try clear q2); (try clear hx2); (try clear c5); (try clear c5b0); (try clear c6); (try clear c6b0); (try clear p6); (try clear c8); (try clear c8b0); (try clear c9); (try clear c9b0); (try clear c10); (try clear c10b0); (try clear c10b1); (try clear c10b2); (try clear c11); (try clear c11b0)
       (try clear c12); (try clear c12b0); (try clear c12b1); (try clear c13); (try clear q13); (try clear hx238_0); (try clear hx238_1); (try clear hx238_2); (try clear hx238_3); (try clear hx239_0); (try clear hx239_1); (try clear hx239_2); (try clear hx239_3); (try clear p2); (try clear p238); (try clear p239); (try clear q013); (try clear q13); (try clear q238); (try clear q239)
       obtain ⟨x0_2, x3_2, x5_2, rfl, rfl, HA, HK2, HO_0, HK, HB, HCR⟩ := hrel
       have hl0_2 := (Kd.R_reads' HO_0.out).1
       rw [hl0_2] at HO_0
       (try simp only [hl0_2])
       obtain ⟨yc, hyc⟩ : ∃ y_, y_ = x0_2.drop (x3_1 : Int).toNat := ⟨_, rfl⟩
       have hyc0 := (Kd.R_reads' HO_0.out)
       have hlc0 : x0_1.length = x0_2.length := by first | exact hl0_2 | omega
       have hlc : yc.length = y240.length := by rw [hyc, Ny240.out, List.length_drop, List.length_drop, hlc0]
       have hkl : (x3_1 : Int).toNat ≤ x0_2.length := by have := KL13.out; omega
       have HRC := Aside0.mk (show Kd.C k42 wr A13 yc.length yc from by rw [hyc, KA13.out]; rw [List.length_drop]; have h_ := Kd.C_drop (m := (x3_1 : Int).toNat) (c := co4) hyc0.2.2 hkl hyc0.2.1; (try rw [List.length_drop] at h_); exact h_)
       have HLC := Aside0.mk hlc
       have HM1 := Aside0.mk (show y240.length ≤ 9223372036854775807 from by have h_ := R_len_max HO_0.out; rw [Ny240.out, List.length_drop]; omega)
       have HM2 := Aside0.mk (R_len_max HO_0.out)
       have HRD := Aside0.mk (show ∀ j : Int, x5_2 - 1 ≤ j → rd_T42 yc j = rd_T42 y240 j from by intro j hj; unfold rd_T42; rw [hyc, Ny240.out]; exact HCR.out.read _ j hj)
       clear hyc hyc0 hlc0 hlc hkl
       cases gk with
       | zero => exact absurd HA.out (by simp [slices_Compact_impl_Version.l1])
       | succ k2 =>
        have H := HA.out
        clear HA
        simp only [slices_Compact_impl_Version.l1] at H
        by_cases c14 : x5_2 < (y240.length : Int)
        ·rw [if_pos c14] at H
         have c14b0 : decide (x5_2 < (y240.length : Int)) = true := decide_eq_true c14
         (try (have c14h0 := c14b0; simp only [hl0_1] at c14h0))
         (try (have c14h0 := c14b0; simp only [hl0_2] at c14h0))
         clear c14
         by_cases c15 : 0 ≤ x5_2
         rotate_left
         ·rw [if_neg c15] at H
          exact absurd H (by simp)
         rw [if_pos c15] at H
         have c15b0 : decide (0 ≤ x5_2) = true := decide_eq_true c15
         clear c15
         obtain ⟨ji16, hji16⟩ : ∃ j_ : Int, (wrap64 (x5_2 - 1)) = j_ := ⟨_, rfl⟩
         replace H : (if 0 ≤ (ji16) then (if (ji16) < (y240.length : Int) then (if (!((((rd_T42 y240 x5_2).f0).toList) == (((rd_T42 y240 (ji16)).f0).toList)) || (!(((rd_T42 y240 x5_2).f1) == ((rd_T42 y240 (ji16)).f1)) || (!(((rd_T42 y240 x5_2).f2) == ((rd_T42 y240 (ji16)).f2)) || (!((((rd_T42 y240 x5_2).f3).toList) == (((rd_T42 y240 (ji16)).f3).toList)))))) = true then (if 0 ≤ x3_2 then (if x3_2 < (x0_2.length : Int) then (slices_Compact_impl_Version.l1 k2 (x0_2.set (x3_2 : Int).toNat (⟨(rd_T42 y240 x5_2).f0, (rd_T42 y240 x5_2).f1, (rd_T42 y240 x5_2).f2, (rd_T42 y240 x5_2).f3⟩ : S42)) (wrap64 (x3_2 + 1)) y240 (wrap64 (x5_2 + 1))) else (none)) else (none)) else (slices_Compact_impl_Version.l1 k2 x0_2 x3_2 y240 (wrap64 (x5_2 + 1)))) else (none)) else (none)) = some r := by first | (rw [hji16] at H; exact H) | (simp only [hji16] at H ⊢; exact H)
         have hji16w : (IntKind.i64.wrap (x5_2 - 1)) = ji16 := (i64_w _).trans hji16
         by_cases c17 : 0 ≤ (ji16)
         rotate_left
         ·rw [if_neg c17] at H
          exact absurd H (by simp)
         rw [if_pos c17] at H
         have c17b0 : decide (0 ≤ (ji16)) = true := decide_eq_true c17
         clear c17
         by_cases c18 : (ji16) < (y240.length : Int)
         rotate_left
         ·rw [if_neg c18] at H
          exact absurd H (by simp)
         rw [if_pos c18] at H
         have c18b0 : decide ((ji16) < (y240.length : Int)) = true := decide_eq_true c18
         (try (have c18h0 := c18b0; simp only [hl0_1] at c18h0))
         (try (have c18h0 := c18b0; simp only [hl0_2] at c18h0))
         clear c18
         by_cases c19 : (!((((rd_T42 y240 x5_2).f0).toList) == (((rd_T42 y240 (ji16)).f0).toList)) || (!(((rd_T42 y240 x5_2).f1) == ((rd_T42 y240 (ji16)).f1)) || (!(((rd_T42 y240 x5_2).f2) == ((rd_T42 y240 (ji16)).f2)) || (!((((rd_T42 y240 x5_2).f3).toList) == (((rd_T42 y240 (ji16)).f3).toList)))))) = true
         ·rw [if_pos c19] at H
          have c19b0 : (!((((rd_T42 y240 x5_2).f0).toList) == (((rd_T42 y240 (ji16)).f0).toList)) || (!(((rd_T42 y240 x5_2).f1) == ((rd_T42 y240 (ji16)).f1)) || (!(((rd_T42 y240 x5_2).f2) == ((rd_T42 y240 (ji16)).f2)) || (!((((rd_T42 y240 x5_2).f3).toList) == (((rd_T42 y240 (ji16)).f3).toList)))))) = true := c19
          clear c19
          by_cases c20 : 0 ≤ x3_2
          rotate_left
          ·rw [if_neg c20] at H
           exact absurd H (by simp)
          rw [if_pos c20] at H
          have c20b0 : decide (0 ≤ x3_2) = true := decide_eq_true c20
          clear c20
          by_cases c21 : x3_2 < (x0_2.length : Int)
          rotate_left
          ·rw [if_neg c21] at H
           exact absurd H (by simp)
          rw [if_pos c21] at H
          have c21b0 : decide (x3_2 < (x0_2.length : Int)) = true := decide_eq_true c21
          (try (have c21h0 := c21b0; simp only [hl0_1] at c21h0))
          (try (have c21h0 := c21b0; simp only [hl0_2] at c21h0))
          clear c21
          obtain ⟨y247, hy247⟩ : ∃ y_ : List (S42), y_ = (x0_2.set (x3_2 : Int).toNat (⟨(rd_T42 y240 x5_2).f0, (rd_T42 y240 x5_2).f1, (rd_T42 y240 x5_2).f2, (rd_T42 y240 x5_2).f3⟩ : S42)) := ⟨_, rfl⟩
          replace H : (slices_Compact_impl_Version.l1 k2 y247 (wrap64 (x3_2 + 1)) y240 (wrap64 (x5_2 + 1))) = some r := by first | (rw [hy247]; with_reducible exact H) | (have H2_ := (Option.bind_some _ _).symm.trans H; rw [hy247]; with_reducible exact H2_) | (have H2_ := (Option.bind_some _ _).symm.trans H; with_reducible exact H2_) | with_reducible exact H | (rw [hy247]; exact H) | exact H
          have Ny247 := Aside0.mk hy247
          clear hy247
          have H' := Aside0.mk H
          clear H
          have p244 : 0 ≤ (x5_2 : Int) := sq_d
          have q244 : x5_2 < (y240.length : Int) := sq_d
          obtain ⟨ad244, e244, hx244_0, hx244_1, hx244_2, hx244_3⟩ := at_T42 HRC.out x5_2 p244 (by rw [HLC.out]; exact q244)
          rw [HRD.out (x5_2) (by omega)] at hx244_0 hx244_1 hx244_2 hx244_3
          cases e244
          replace p244 := eq_true p244
          replace q244 := eq_true q244
          have p245 : 0 ≤ ((ji16) : Int) := sq_d
          have q245 : (ji16) < (y240.length : Int) := sq_d
          obtain ⟨ad245, e245, hx245_0, hx245_1, hx245_2, hx245_3⟩ := at_T42 HRC.out (ji16) p245 (by rw [HLC.out]; exact q245)
          rw [HRD.out (ji16) (by have h5_ : (0 : Int) ≤ x5_2 := (sq_d); have hw_ := hji16; have h1_ := HCR.out.2.2.1; have h6_ : x5_2 < (y240.length : Int) := (sq_d); have h7_ := HM1.out; unfold wrap64 at hw_; omega)] at hx245_0 hx245_1 hx245_2 hx245_3
          obtain rfl : ad244 = ad245 := (by injection e245)
          replace p245 := eq_true p245
          replace q245 := eq_true q245
          have p246 : 0 ≤ (x5_2 : Int) := sq_d
          have q246 : x5_2 < (y240.length : Int) := sq_d
          obtain ⟨ad246, e246, hx246_0, hx246_1, hx246_2, hx246_3⟩ := at_T42 HRC.out x5_2 p246 (by rw [HLC.out]; exact q246)
          rw [HRD.out (x5_2) (by omega)] at hx246_0 hx246_1 hx246_2 hx246_3
          obtain rfl : ad244 = ad246 := (by injection e246)
          replace p246 := eq_true p246
          replace q246 := eq_true q246
          have p22 : 0 ≤ (x3_2 : Int) := sq_d
          have q22 : (x3_2 : Int) < ((x0_2.length : Int) : Int) := sq_d
          obtain ⟨go_, co_, eo_, gb22, gl22, cl22, HG22⟩ := Kd.R_form HO_0.out (by omega)
          obtain rfl : gz_ = go_ := by injection eo_ with ea_; injection ea_ with ea_; injection ea_
          obtain rfl : co4 = co_ := by injection eo_
          have GB22 := Aside0.mk gb22
          have GG22 := Aside0.mk HG22
          clear gb22 gl22 HG22
          have HMgo22 := Aside0.mk (show (P0_ gz_ ∨ w.heap.size ≤ gz_) from (HO_0.out.1 _ rfl))
          (first | simp only [add_plain] at hx238_0 | skip)
          (first | simp only [add_plain] at hx238_1 | skip)
          (first | simp only [add_plain] at hx238_2 | skip)
          (first | simp only [add_plain] at hx238_3 | skip)
          (first | simp only [add_plain] at hx239_0 | skip)
          (first | simp only [add_plain] at hx239_1 | skip)
          (first | simp only [add_plain] at hx239_2 | skip)
          (first | simp only [add_plain] at hx239_3 | skip)
          obtain ⟨ce22, hcl22, hM22, hcc22, hfr22⟩ := Kd.R_elem HO_0.out z42 (x3_2 : Int) p22 q22
          obtain rfl := k42_openM hM22
          have hx22_0 : wr.cell? ⟨gz_, (x3_2 : Int).toNat * 4, none⟩ = some (.string ((rd_T42 x0_2 x3_2).f0)) := hcc22 0 _ rfl
          have hx22_1 : wr.cell? ⟨gz_, (x3_2 : Int).toNat * 4 + 1, none⟩ = some (.int .i64 ((rd_T42 x0_2 x3_2).f1)) := hcc22 1 _ rfl
          have hx22_2 : wr.cell? ⟨gz_, (x3_2 : Int).toNat * 4 + 2, none⟩ = some (.bool ((rd_T42 x0_2 x3_2).f2)) := hcc22 2 _ rfl
          have hx22_3 : wr.cell? ⟨gz_, (x3_2 : Int).toNat * 4 + 3, none⟩ = some (.string ((rd_T42 x0_2 x3_2).f3)) := hcc22 3 _ rfl
          have hf22_0 : wr.frozen? ⟨gz_, (x3_2 : Int).toNat * 4, none⟩ = false := hfr22 0
          have hf22_1 : wr.frozen? ⟨gz_, (x3_2 : Int).toNat * 4 + 1, none⟩ = false := hfr22 1
          have hf22_2 : wr.frozen? ⟨gz_, (x3_2 : Int).toNat * 4 + 2, none⟩ = false := hfr22 2
          have hf22_3 : wr.frozen? ⟨gz_, (x3_2 : Int).toNat * 4 + 3, none⟩ = false := hfr22 3
          clear hcl22 hcc22 hfr22 hM22
          replace p22 := eq_true p22
          replace q22 := eq_true q22
          have HX23 := Aside0.mk (show Kd.R k42 42 wr w0.heap.size (fun k_ => (P0_ k_ ∨ w.heap.size ≤ k_)) (.slice (some ⟨gz_, 0, none⟩) x0_2.length co4) x0_2 from (sq_r HO_0))
          obtain ⟨ce23, hcl23, hM23, hcc23, hfr23⟩ := Kd.R_elem HX23.out z42 (x3_2 : Int) (sq_d) (by have h_ : (x3_2 : Int) < ((x0_2.length : Int) : Int) := sq_d; first | exact h_ | (have e_ := (Kd.R_reads' HO_0.out).1; omega) | simpa using h_)
          obtain rfl := k42_openM hM23
          have HP23 := Kd.R_seg HX23.out (x3_2 : Int) (sq_d) (by have h_ : (x3_2 : Int) < ((x0_2.length : Int) : Int) := sq_d; first | exact h_ | (have e_ := (Kd.R_reads' HO_0.out).1; omega) | simpa using h_) (seg := [.string ((rd_T42 y240 x5_2).f0), .int .i64 ((rd_T42 y240 x5_2).f1), .bool ((rd_T42 y240 x5_2).f2), .string ((rd_T42 y240 x5_2).f3)]) (j := 0) hcl23 hcc23 (show 4 ≤ 4 from by decide) (x' := (⟨(rd_T42 y240 x5_2).f0, (rd_T42 y240 x5_2).f1, (rd_T42 y240 x5_2).f2, (rd_T42 y240 x5_2).f3⟩ : S42)) (k42_mkM _ _ _ (⟨(rd_T42 y240 x5_2).f0, (rd_T42 y240 x5_2).f1, (rd_T42 y240 x5_2).f2, (rd_T42 y240 x5_2).f3⟩ : S42) ) (fun _ hk => hk)
          have hx23_0 := hcc23 0 _ rfl
          (try simp only [show (k42).sz = 4 from rfl, Nat.mul_one, Nat.add_zero] at hx23_0)
          have hf23_0 := hfr23 0
          (try simp only [show (k42).sz = 4 from rfl, Nat.mul_one, Nat.add_zero] at hf23_0)
          have hx23_1 := hcc23 1 _ rfl
          (try simp only [show (k42).sz = 4 from rfl, Nat.mul_one, Nat.add_zero] at hx23_1)
          have hf23_1 := hfr23 1
          (try simp only [show (k42).sz = 4 from rfl, Nat.mul_one, Nat.add_zero] at hf23_1)
          have hx23_2 := hcc23 2 _ rfl
          (try simp only [show (k42).sz = 4 from rfl, Nat.mul_one, Nat.add_zero] at hx23_2)
          have hf23_2 := hfr23 2
          (try simp only [show (k42).sz = 4 from rfl, Nat.mul_one, Nat.add_zero] at hf23_2)
          have hx23_3 := hcc23 3 _ rfl
          (try simp only [show (k42).sz = 4 from rfl, Nat.mul_one, Nat.add_zero] at hx23_3)
          have hf23_3 := hfr23 3
          (try simp only [show (k42).sz = 4 from rfl, Nat.mul_one, Nat.add_zero] at hf23_3)
          clear hcl23 hcc23 hfr23 hM23
          go_wp2_with (first | ((with_reducible refine gate_store (t := 42) (p := 51) rfl ?_); (try (rw [drewN_self wr]; generalize hq_ : World.drewN wr _ = wr; have n0_ := Aside0.mk (Kd.R_at hq_ HO_0.out); have n1_ := Aside0.mk (kept_at hq_ HK.out); have n2_ := Aside0.mk (below_at hq_ HB.out); clear hq_ HO_0 HK HB; have HO_0 := n0_; have HK := n1_; have HB := n2_; clear n0_ n1_ n2_; (try (have HX23 := Aside0.mk (show Kd.R k42 42 wr w0.heap.size (fun k_ => (P0_ k_ ∨ w.heap.size ≤ k_)) (.slice (some ⟨gz_, 0, none⟩) x0_2.length co4) x0_2 from (sq_r HO_0)))); (try (obtain ⟨ce23, hcl23, hM23, hcc23, hfr23⟩ := Kd.R_elem HX23.out z42 (x3_2 : Int) (sq_d) (by have h_ : (x3_2 : Int) < ((x0_2.length : Int) : Int) := sq_d; first | exact h_ | (have e_ := (Kd.R_reads' HO_0.out).1; omega) | simpa using h_))); (try (obtain rfl := k42_openM hM23)); (try (have HP23 := Kd.R_seg HX23.out (x3_2 : Int) (sq_d) (by have h_ : (x3_2 : Int) < ((x0_2.length : Int) : Int) := sq_d; first | exact h_ | (have e_ := (Kd.R_reads' HO_0.out).1; omega) | simpa using h_) (seg := [.string ((rd_T42 y240 x5_2).f0), .int .i64 ((rd_T42 y240 x5_2).f1), .bool ((rd_T42 y240 x5_2).f2), .string ((rd_T42 y240 x5_2).f3)]) (j := 0) hcl23 hcc23 (show 4 ≤ 4 from by decide) (x' := (⟨(rd_T42 y240 x5_2).f0, (rd_T42 y240 x5_2).f1, (rd_T42 y240 x5_2).f2, (rd_T42 y240 x5_2).f3⟩ : S42)) (k42_mkM _ _ _ (⟨(rd_T42 y240 x5_2).f0, (rd_T42 y240 x5_2).f1, (rd_T42 y240 x5_2).f2, (rd_T42 y240 x5_2).f3⟩ : S42) ) (fun _ hk => hk))); (try (have hx23_0 := hcc23 0 _ rfl)); (try (try simp only [show (k42).sz = 4 from rfl, Nat.mul_one, Nat.add_zero] at hx23_0)); (try (have hf23_0 := hfr23 0)); (try (try simp only [show (k42).sz = 4 from rfl, Nat.mul_one, Nat.add_zero] at hf23_0)); (try (have hx23_1 := hcc23 1 _ rfl)); (try (try simp only [show (k42).sz = 4 from rfl, Nat.mul_one, Nat.add_zero] at hx23_1)); (try (have hf23_1 := hfr23 1)); (try (try simp only [show (k42).sz = 4 from rfl, Nat.mul_one, Nat.add_zero] at hf23_1)); (try (have hx23_2 := hcc23 2 _ rfl)); (try (try simp only [show (k42).sz = 4 from rfl, Nat.mul_one, Nat.add_zero] at hx23_2)); (try (have hf23_2 := hfr23 2)); (try (try simp only [show (k42).sz = 4 from rfl, Nat.mul_one, Nat.add_zero] at hf23_2)); (try (have hx23_3 := hcc23 3 _ rfl)); (try (try simp only [show (k42).sz = 4 from rfl, Nat.mul_one, Nat.add_zero] at hx23_3)); (try (have hf23_3 := hfr23 3)); (try (try simp only [show (k42).sz = 4 from rfl, Nat.mul_one, Nat.add_zero] at hf23_3)); (try (clear hcl23 hcc23 hfr23 hM23)))); refine store_event (t := 42) (p := 51) (v := ?vo_w24) (w1 := ((((wr.setCell ⟨gz_, (x3_2 : Int).toNat * 4, none⟩ (.string ((rd_T42 y240 x5_2).f0))).setCell ⟨gz_, (x3_2 : Int).toNat * 4 + 1, none⟩ (.int .i64 ((rd_T42 y240 x5_2).f1))).setCell ⟨gz_, (x3_2 : Int).toNat * 4 + 2, none⟩ (.bool ((rd_T42 y240 x5_2).f2))).setCell ⟨gz_, (x3_2 : Int).toNat * 4 + 3, none⟩ (.string ((rd_T42 y240 x5_2).f3)))) ?hg ?ho ?hn ?hr ?_; (case ho => rfl); (case hg => rfl); (case hn => rfl); (case hr => first | (go_simp; done) | (go_simp; rfl)); intro w24 hw; have hg : wr.grownBy w24 (some gz_) := (by rw [hw]; exact HP23.2); have hp_ : Kd.R k42 42 w24 w0.heap.size (fun k_ => (P0_ k_ ∨ w.heap.size ≤ k_)) (.slice (some ⟨gz_, 0, none⟩) x0_2.length co4) y247 := (by rw [hw, Ny247.out]; exact HP23.1); clear HP23; have n0_ := Aside0.mk (hp_); have n1_ := Aside0.mk ((by rw [hw]; exact below_set (below_set (below_set (below_set (HB.out) GB22.out) GB22.out) GB22.out) GB22.out : Below w0.heap.size w0 w24)); have n2_ := Aside0.mk (Kept.of_grown (S := (fun k_ => P0_ k_)) hg sq_k (fun k_ e_ => (HO_0.out.1 k_ e_))); clear HO_0; clear HB; clear HK; have HO_0 := n0_; have HB := n1_; have HK := n2_; clear n0_ n1_ n2_; clear hg hw hp_))
          repeat (go_quiet (first | ((with_reducible refine gate_store (t := 42) (p := 51) rfl ?_); (try (rw [drewN_self wr]; generalize hq_ : World.drewN wr _ = wr; have n0_ := Aside0.mk (Kd.R_at hq_ HO_0.out); have n1_ := Aside0.mk (kept_at hq_ HK.out); have n2_ := Aside0.mk (below_at hq_ HB.out); clear hq_ HO_0 HK HB; have HO_0 := n0_; have HK := n1_; have HB := n2_; clear n0_ n1_ n2_; (try (have HX23 := Aside0.mk (show Kd.R k42 42 wr w0.heap.size (fun k_ => (P0_ k_ ∨ w.heap.size ≤ k_)) (.slice (some ⟨gz_, 0, none⟩) x0_2.length co4) x0_2 from (sq_r HO_0)))); (try (obtain ⟨ce23, hcl23, hM23, hcc23, hfr23⟩ := Kd.R_elem HX23.out z42 (x3_2 : Int) (sq_d) (by have h_ : (x3_2 : Int) < ((x0_2.length : Int) : Int) := sq_d; first | exact h_ | (have e_ := (Kd.R_reads' HO_0.out).1; omega) | simpa using h_))); (try (obtain rfl := k42_openM hM23)); (try (have HP23 := Kd.R_seg HX23.out (x3_2 : Int) (sq_d) (by have h_ : (x3_2 : Int) < ((x0_2.length : Int) : Int) := sq_d; first | exact h_ | (have e_ := (Kd.R_reads' HO_0.out).1; omega) | simpa using h_) (seg := [.string ((rd_T42 y240 x5_2).f0), .int .i64 ((rd_T42 y240 x5_2).f1), .bool ((rd_T42 y240 x5_2).f2), .string ((rd_T42 y240 x5_2).f3)]) (j := 0) hcl23 hcc23 (show 4 ≤ 4 from by decide) (x' := (⟨(rd_T42 y240 x5_2).f0, (rd_T42 y240 x5_2).f1, (rd_T42 y240 x5_2).f2, (rd_T42 y240 x5_2).f3⟩ : S42)) (k42_mkM _ _ _ (⟨(rd_T42 y240 x5_2).f0, (rd_T42 y240 x5_2).f1, (rd_T42 y240 x5_2).f2, (rd_T42 y240 x5_2).f3⟩ : S42) ) (fun _ hk => hk))); (try (have hx23_0 := hcc23 0 _ rfl)); (try (try simp only [show (k42).sz = 4 from rfl, Nat.mul_one, Nat.add_zero] at hx23_0)); (try (have hf23_0 := hfr23 0)); (try (try simp only [show (k42).sz = 4 from rfl, Nat.mul_one, Nat.add_zero] at hf23_0)); (try (have hx23_1 := hcc23 1 _ rfl)); (try (try simp only [show (k42).sz = 4 from rfl, Nat.mul_one, Nat.add_zero] at hx23_1)); (try (have hf23_1 := hfr23 1)); (try (try simp only [show (k42).sz = 4 from rfl, Nat.mul_one, Nat.add_zero] at hf23_1)); (try (have hx23_2 := hcc23 2 _ rfl)); (try (try simp only [show (k42).sz = 4 from rfl, Nat.mul_one, Nat.add_zero] at hx23_2)); (try (have hf23_2 := hfr23 2)); (try (try simp only [show (k42).sz = 4 from rfl, Nat.mul_one, Nat.add_zero] at hf23_2)); (try (have hx23_3 := hcc23 3 _ rfl)); (try (try simp only [show (k42).sz = 4 from rfl, Nat.mul_one, Nat.add_zero] at hx23_3)); (try (have hf23_3 := hfr23 3)); (try (try simp only [show (k42).sz = 4 from rfl, Nat.mul_one, Nat.add_zero] at hf23_3)); (try (clear hcl23 hcc23 hfr23 hM23)))); refine store_event (t := 42) (p := 51) (v := ?vo_w24) (w1 := ((((wr.setCell ⟨gz_, (x3_2 : Int).toNat * 4, none⟩ (.string ((rd_T42 y240 x5_2).f0))).setCell ⟨gz_, (x3_2 : Int).toNat * 4 + 1, none⟩ (.int .i64 ((rd_T42 y240 x5_2).f1))).setCell ⟨gz_, (x3_2 : Int).toNat * 4 + 2, none⟩ (.bool ((rd_T42 y240 x5_2).f2))).setCell ⟨gz_, (x3_2 : Int).toNat * 4 + 3, none⟩ (.string ((rd_T42 y240 x5_2).f3)))) ?hg ?ho ?hn ?hr ?_; (case ho => rfl); (case hg => rfl); (case hn => rfl); (case hr => first | (go_simp; done) | (go_simp; rfl)); intro w24 hw; have hg : wr.grownBy w24 (some gz_) := (by rw [hw]; exact HP23.2); have hp_ : Kd.R k42 42 w24 w0.heap.size (fun k_ => (P0_ k_ ∨ w.heap.size ≤ k_)) (.slice (some ⟨gz_, 0, none⟩) x0_2.length co4) y247 := (by rw [hw, Ny247.out]; exact HP23.1); clear HP23; have n0_ := Aside0.mk (hp_); have n1_ := Aside0.mk ((by rw [hw]; exact below_set (below_set (below_set (below_set (HB.out) GB22.out) GB22.out) GB22.out) GB22.out : Below w0.heap.size w0 w24)); have n2_ := Aside0.mk (Kept.of_grown (S := (fun k_ => P0_ k_)) hg sq_k (fun k_ e_ => (HO_0.out.1 k_ e_))); clear HO_0; clear HB; clear HK; have HO_0 := n0_; have HB := n1_; have HK := n2_; clear n0_ n1_ n2_; clear hg hw hp_)); try go_wp2_with (first | ((with_reducible refine gate_store (t := 42) (p := 51) rfl ?_); (try (rw [drewN_self wr]; generalize hq_ : World.drewN wr _ = wr; have n0_ := Aside0.mk (Kd.R_at hq_ HO_0.out); have n1_ := Aside0.mk (kept_at hq_ HK.out); have n2_ := Aside0.mk (below_at hq_ HB.out); clear hq_ HO_0 HK HB; have HO_0 := n0_; have HK := n1_; have HB := n2_; clear n0_ n1_ n2_; (try (have HX23 := Aside0.mk (show Kd.R k42 42 wr w0.heap.size (fun k_ => (P0_ k_ ∨ w.heap.size ≤ k_)) (.slice (some ⟨gz_, 0, none⟩) x0_2.length co4) x0_2 from (sq_r HO_0)))); (try (obtain ⟨ce23, hcl23, hM23, hcc23, hfr23⟩ := Kd.R_elem HX23.out z42 (x3_2 : Int) (sq_d) (by have h_ : (x3_2 : Int) < ((x0_2.length : Int) : Int) := sq_d; first | exact h_ | (have e_ := (Kd.R_reads' HO_0.out).1; omega) | simpa using h_))); (try (obtain rfl := k42_openM hM23)); (try (have HP23 := Kd.R_seg HX23.out (x3_2 : Int) (sq_d) (by have h_ : (x3_2 : Int) < ((x0_2.length : Int) : Int) := sq_d; first | exact h_ | (have e_ := (Kd.R_reads' HO_0.out).1; omega) | simpa using h_) (seg := [.string ((rd_T42 y240 x5_2).f0), .int .i64 ((rd_T42 y240 x5_2).f1), .bool ((rd_T42 y240 x5_2).f2), .string ((rd_T42 y240 x5_2).f3)]) (j := 0) hcl23 hcc23 (show 4 ≤ 4 from by decide) (x' := (⟨(rd_T42 y240 x5_2).f0, (rd_T42 y240 x5_2).f1, (rd_T42 y240 x5_2).f2, (rd_T42 y240 x5_2).f3⟩ : S42)) (k42_mkM _ _ _ (⟨(rd_T42 y240 x5_2).f0, (rd_T42 y240 x5_2).f1, (rd_T42 y240 x5_2).f2, (rd_T42 y240 x5_2).f3⟩ : S42) ) (fun _ hk => hk))); (try (have hx23_0 := hcc23 0 _ rfl)); (try (try simp only [show (k42).sz = 4 from rfl, Nat.mul_one, Nat.add_zero] at hx23_0)); (try (have hf23_0 := hfr23 0)); (try (try simp only [show (k42).sz = 4 from rfl, Nat.mul_one, Nat.add_zero] at hf23_0)); (try (have hx23_1 := hcc23 1 _ rfl)); (try (try simp only [show (k42).sz = 4 from rfl, Nat.mul_one, Nat.add_zero] at hx23_1)); (try (have hf23_1 := hfr23 1)); (try (try simp only [show (k42).sz = 4 from rfl, Nat.mul_one, Nat.add_zero] at hf23_1)); (try (have hx23_2 := hcc23 2 _ rfl)); (try (try simp only [show (k42).sz = 4 from rfl, Nat.mul_one, Nat.add_zero] at hx23_2)); (try (have hf23_2 := hfr23 2)); (try (try simp only [show (k42).sz = 4 from rfl, Nat.mul_one, Nat.add_zero] at hf23_2)); (try (have hx23_3 := hcc23 3 _ rfl)); (try (try simp only [show (k42).sz = 4 from rfl, Nat.mul_one, Nat.add_zero] at hx23_3)); (try (have hf23_3 := hfr23 3)); (try (try simp only [show (k42).sz = 4 from rfl, Nat.mul_one, Nat.add_zero] at hf23_3)); (try (clear hcl23 hcc23 hfr23 hM23)))); refine store_event (t := 42) (p := 51) (v := ?vo_w24) (w1 := ((((wr.setCell ⟨gz_, (x3_2 : Int).toNat * 4, none⟩ (.string ((rd_T42 y240 x5_2).f0))).setCell ⟨gz_, (x3_2 : Int).toNat * 4 + 1, none⟩ (.int .i64 ((rd_T42 y240 x5_2).f1))).setCell ⟨gz_, (x3_2 : Int).toNat * 4 + 2, none⟩ (.bool ((rd_T42 y240 x5_2).f2))).setCell ⟨gz_, (x3_2 : Int).toNat * 4 + 3, none⟩ (.string ((rd_T42 y240 x5_2).f3)))) ?hg ?ho ?hn ?hr ?_; (case ho => rfl); (case hg => rfl); (case hn => rfl); (case hr => first | (go_simp; done) | (go_simp; rfl)); intro w24 hw; have hg : wr.grownBy w24 (some gz_) := (by rw [hw]; exact HP23.2); have hp_ : Kd.R k42 42 w24 w0.heap.size (fun k_ => (P0_ k_ ∨ w.heap.size ≤ k_)) (.slice (some ⟨gz_, 0, none⟩) x0_2.length co4) y247 := (by rw [hw, Ny247.out]; exact HP23.1); clear HP23; have n0_ := Aside0.mk (hp_); have n1_ := Aside0.mk ((by rw [hw]; exact below_set (below_set (below_set (below_set (HB.out) GB22.out) GB22.out) GB22.out) GB22.out : Below w0.heap.size w0 w24)); have n2_ := Aside0.mk (Kept.of_grown (S := (fun k_ => P0_ k_)) hg sq_k (fun k_ e_ => (HO_0.out.1 k_ e_))); clear HO_0; clear HB; clear HK; have HO_0 := n0_; have HB := n1_; have HK := n2_; clear n0_ n1_ n2_; clear hg hw hp_)))
          (try simp only [← hl0_2])
          go_roundg k2
          case measure => have := HK1.out; have := HK2.out; omega
          case rel => exact ⟨(y247), (wrap64 (x3_2 + 1)), (wrap64 (x5_2 + 1)), sq_e, sq_e, H', ⟨by have := HK1.out; have := HK2.out; omega⟩, ⟨by (try simp only [hl0_1]); (try simp only [hl0_2]); (with_reducible repeat (first | apply Kd.R_alloc | apply Kd.R_drewN | apply Kd.R_drew)); exact HO_0.out⟩, ⟨sq_k⟩, ⟨sq_b⟩, ⟨by rw [Ny247.out]; exact HCR.out.keep (sq_d) HM1.out (sq_d) (sq_d) HM2.out _⟩⟩
         ·rw [if_neg c19] at H
          have c19b0 : (!((((rd_T42 y240 x5_2).f0).toList) == (((rd_T42 y240 (ji16)).f0).toList)) || (!(((rd_T42 y240 x5_2).f1) == ((rd_T42 y240 (ji16)).f1)) || (!(((rd_T42 y240 x5_2).f2) == ((rd_T42 y240 (ji16)).f2)) || (!((((rd_T42 y240 x5_2).f3).toList) == (((rd_T42 y240 (ji16)).f3).toList)))))) = false := by simpa using c19
          clear c19
          have H' := Aside0.mk H
          clear H
          have p244 : 0 ≤ (x5_2 : Int) := sq_d
          have q244 : x5_2 < (y240.length : Int) := sq_d
          obtain ⟨ad244, e244, hx244_0, hx244_1, hx244_2, hx244_3⟩ := at_T42 HRC.out x5_2 p244 (by rw [HLC.out]; exact q244)
          rw [HRD.out (x5_2) (by omega)] at hx244_0 hx244_1 hx244_2 hx244_3
          cases e244
          replace p244 := eq_true p244
          replace q244 := eq_true q244
          have p245 : 0 ≤ ((ji16) : Int) := sq_d
          have q245 : (ji16) < (y240.length : Int) := sq_d
          obtain ⟨ad245, e245, hx245_0, hx245_1, hx245_2, hx245_3⟩ := at_T42 HRC.out (ji16) p245 (by rw [HLC.out]; exact q245)
          rw [HRD.out (ji16) (by have h5_ : (0 : Int) ≤ x5_2 := (sq_d); have hw_ := hji16; have h1_ := HCR.out.2.2.1; have h6_ : x5_2 < (y240.length : Int) := (sq_d); have h7_ := HM1.out; unfold wrap64 at hw_; omega)] at hx245_0 hx245_1 hx245_2 hx245_3
          obtain rfl : ad244 = ad245 := (by injection e245)
          replace p245 := eq_true p245
          replace q245 := eq_true q245
          go_wp2
          repeat (go_quiet (fail); try go_wp2)
          (try simp only [← hl0_2])
          go_roundg k2
          case measure => have := HK1.out; have := HK2.out; omega
          case rel => exact ⟨(x0_2), (x3_2), (wrap64 (x5_2 + 1)), sq_e, sq_e, H', ⟨by have := HK1.out; have := HK2.out; omega⟩, ⟨by (try simp only [hl0_1]); (try simp only [hl0_2]); (with_reducible repeat (first | apply Kd.R_alloc | apply Kd.R_drewN | apply Kd.R_drew)); exact HO_0.out⟩, ⟨sq_k⟩, ⟨sq_b⟩, ⟨HCR.out.skip (sq_d) HM1.out⟩⟩
        ·rw [if_neg c14] at H
         have c14b0 : decide (x5_2 < (y240.length : Int)) = false := decide_eq_false c14
         (try (have c14h0 := c14b0; simp only [hl0_1] at c14h0))
         (try (have c14h0 := c14b0; simp only [hl0_2] at c14h0))
         clear c14
         by_cases c25 : 0 ≤ x3_2
         rotate_left
         ·rw [if_neg c25] at H
          exact absurd H (by simp)
         rw [if_pos c25] at H
         have c25b0 := eq_true c25
         have c25b1 : decide (0 ≤ x3_2) = true := decide_eq_true c25
         clear c25
         by_cases c26 : x3_2 ≤ (x0_2.length : Int)
         rotate_left
         ·rw [if_neg c26] at H
          exact absurd H (by simp)
         rw [if_pos c26] at H
         have c26b0 := eq_true c26
         have c26b1 : decide (x3_2 ≤ (x0_2.length : Int)) = true := decide_eq_true c26
         clear c26
         obtain ⟨y248, hy248⟩ : ∃ y_ : List (S42), y_ = (x0_2.drop (x3_2 : Int).toNat) := ⟨_, rfl⟩
         replace H : (some ((x0_2.take ((x3_2 : Int).toNat) ++ List.replicate (x0_2.length - (x3_2 : Int).toNat) z42).take (x3_2 : Int).toNat)) = some r := by first | (rw [hy248]; with_reducible exact H) | (have H2_ := (Option.bind_some _ _).symm.trans H; rw [hy248]; with_reducible exact H2_) | (have H2_ := (Option.bind_some _ _).symm.trans H; with_reducible exact H2_) | with_reducible exact H | (rw [hy248]; exact H) | exact H
         have Ny248 := Aside0.mk hy248
         clear hy248
         obtain ⟨y252, hy252⟩ : ∃ y_ : List (S42), y_ = (x0_2.take ((x3_2 : Int).toNat) ++ List.replicate (x0_2.length - (x3_2 : Int).toNat) z42) := ⟨_, rfl⟩
         replace H : (some (y252.take (x3_2 : Int).toNat)) = some r := by first | (rw [hy252]; with_reducible exact H) | (have H2_ := (Option.bind_some _ _).symm.trans H; rw [hy252]; with_reducible exact H2_) | (have H2_ := (Option.bind_some _ _).symm.trans H; with_reducible exact H2_) | with_reducible exact H | (rw [hy252]; exact H) | exact H
         have Ny252 := Aside0.mk hy252
         clear hy252
         have c27b0 := eq_true (sq_d : x3_2 ≤ (x0_2.length : Int))
         obtain ⟨y253, hy253⟩ : ∃ y_ : List (S42), y_ = (y252.take (x3_2 : Int).toNat) := ⟨_, rfl⟩
         replace H : (some y253) = some r := by first | (rw [hy253]; with_reducible exact H) | (have H2_ := (Option.bind_some _ _).symm.trans H; rw [hy253]; with_reducible exact H2_) | (have H2_ := (Option.bind_some _ _).symm.trans H; with_reducible exact H2_) | with_reducible exact H | (rw [hy253]; exact H) | exact H
         have Ny253 := Aside0.mk hy253
         clear hy253
         obtain rfl := Option.some.inj H
         have q28 : (x3_2 : Int) ≤ ((x0_2.length : Int) : Int) := sq_d
         obtain ⟨i028, hi028, _, hsz28, _⟩ := info_parts info42
         have hroom28 : x0_2.length ≤ co4 := (Kd.R_reads' HO_0.out).2.1
         have hC28 : Kd.C k42 _ (some ⟨gz_, 0, none⟩) x0_2.length x0_2 := (Kd.R_reads' HO_0.out).2.2
         have q028 : (0 : Int) ≤ (x3_2 : Int) := sq_d
         have hcut28 := cut_from (P := Try.prog) 24 42 .i64 Try.underlying24 hi028 4 hsz28 (some ⟨gz_, 0, none⟩) x0_2.length co4 x3_2 q028 q28
         have hr28 := Kd.C_drop (m := (x3_2 : Int).toNat) (c := co4) hC28 (by omega) hroom28
         obtain ⟨A28, hA28⟩ : ∃ A1, A1 = (if co4 = (x3_2 : Int).toNat then (some ⟨gz_, 0, none⟩) else ((some ⟨gz_, 0, none⟩) : Option Addr).map (·.add ((x3_2 : Int).toNat * 4))) := ⟨_, rfl⟩
         obtain ⟨c28, hc28⟩ : ∃ c1, c1 = co4 - (x3_2 : Int).toNat := ⟨_, rfl⟩
         have hy28 : y248.length = x0_2.length - (x3_2 : Int).toNat := (by rw [Ny248.out, List.length_drop] <;> omega)
         rw [show (x0_2).drop (x3_2 : Int).toNat = y248 from Ny248.out.symm] at hr28
         replace hr28 : Kd.C k42 _ A28 y248.length y248 := (by rw [hA28]; exact hr28)
         rw [← hy28, ← hA28, ← hc28] at hcut28
         have HR251 := Aside0.mk hr28
         have HC251 := Aside0.mk (show y248.length ≤ c28 from by rw [hy28, hc28]; exact Nat.sub_le_sub_right hroom28 _)
         clear hr28 hC28 hroom28 hi028 hsz28 hc28
         have KY28 := Aside0.mk hy28
         have KA28 := Aside0.mk hA28
         clear hy28 hA28
         have KL28 := Aside0.mk (show (x3_2 : Int).toNat ≤ x0_2.length from by omega)
         replace q28 := eq_true q28
         go_wp2_with (first | ((with_reducible refine gate_builtin (b := .clear) (xs := #[.tmp 56]) (ts := #[24]) rfl ?_); refine R_clear k42 (w0 := w0) w0.heap.size rfl (.tmp 56) 24 42 rfl (.agg #[(.string ⟨#[]⟩), (.int .i64 0), (.bool false), (.string ⟨#[]⟩)]) 48 Try.underlying24 info42 rfl (by decide) z42 (k42_mkM _ _ _ z42 ) (A0 := (some ⟨gz_, 0, none⟩)) (n := x0_2.length) (c := co4) (k := (x3_2 : Int).toNat) rfl KA28.out KY28.out (sq_r HO_0) KL28.out sq_b (below_size sq_b) ?_; intro w29 ho hb hg; rw [KY28.out, ← Ny252.out] at ho; have n0_ := Aside0.mk (ho); have n1_ := Aside0.mk (hb); have n2_ := Aside0.mk (Kept.of_grown (S := (fun k_ => P0_ k_)) hg sq_k (fun k_ e_ => (HO_0.out.1 k_ e_))); clear HO_0; clear HB; clear HK; have HO_0 := n0_; have HB := n1_; have HK := n2_; clear n0_ n1_ n2_; clear ho hb hg; have q30 : (x3_2 : Int) ≤ ((x0_2.length : Int) : Int) := sq_d; obtain ⟨i030, hi030, _, hsz30, _⟩ := info_parts info42; have hcut30 := cut_to (P := Try.prog) 24 42 .i64 Try.underlying24 hi030 (some ⟨gz_, 0, none⟩) x0_2.length co4 x3_2 (sq_d) q30 (Kd.R_reads' HO_0.out).2.1; have hr30 := Kd.R_take (m := (x3_2 : Int).toNat) HO_0.out (by first | omega | (have e_ := (Kd.R_reads' HO_0.out).1; omega)); have hy30 : y253.length = (x3_2 : Int).toNat := (by rw [Ny253.out, List.length_take]; first | omega | (have e_ := (Kd.R_reads' HO_0.out).1; omega)); rw [← Ny253.out] at hr30; rw [← hy30] at hr30 hcut30; clear hy30 hi030 hsz30 HO_0; have HO255 := Aside0.mk hr30; clear hr30; replace q30 := eq_true q30))
         repeat (go_quiet (first | ((with_reducible refine gate_builtin (b := .clear) (xs := #[.tmp 56]) (ts := #[24]) rfl ?_); refine R_clear k42 (w0 := w0) w0.heap.size rfl (.tmp 56) 24 42 rfl (.agg #[(.string ⟨#[]⟩), (.int .i64 0), (.bool false), (.string ⟨#[]⟩)]) 48 Try.underlying24 info42 rfl (by decide) z42 (k42_mkM _ _ _ z42 ) (A0 := (some ⟨gz_, 0, none⟩)) (n := x0_2.length) (c := co4) (k := (x3_2 : Int).toNat) rfl KA28.out KY28.out (sq_r HO_0) KL28.out sq_b (below_size sq_b) ?_; intro w29 ho hb hg; rw [KY28.out, ← Ny252.out] at ho; have n0_ := Aside0.mk (ho); have n1_ := Aside0.mk (hb); have n2_ := Aside0.mk (Kept.of_grown (S := (fun k_ => P0_ k_)) hg sq_k (fun k_ e_ => (HO_0.out.1 k_ e_))); clear HO_0; clear HB; clear HK; have HO_0 := n0_; have HB := n1_; have HK := n2_; clear n0_ n1_ n2_; clear ho hb hg; have q30 : (x3_2 : Int) ≤ ((x0_2.length : Int) : Int) := sq_d; obtain ⟨i030, hi030, _, hsz30, _⟩ := info_parts info42; have hcut30 := cut_to (P := Try.prog) 24 42 .i64 Try.underlying24 hi030 (some ⟨gz_, 0, none⟩) x0_2.length co4 x3_2 (sq_d) q30 (Kd.R_reads' HO_0.out).2.1; have hr30 := Kd.R_take (m := (x3_2 : Int).toNat) HO_0.out (by first | omega | (have e_ := (Kd.R_reads' HO_0.out).1; omega)); have hy30 : y253.length = (x3_2 : Int).toNat := (by rw [Ny253.out, List.length_take]; first | omega | (have e_ := (Kd.R_reads' HO_0.out).1; omega)); rw [← Ny253.out] at hr30; rw [← hy30] at hr30 hcut30; clear hy30 hi030 hsz30 HO_0; have HO255 := Aside0.mk hr30; clear hr30; replace q30 := eq_true q30)); try go_wp2_with (first | ((with_reducible refine gate_builtin (b := .clear) (xs := #[.tmp 56]) (ts := #[24]) rfl ?_); refine R_clear k42 (w0 := w0) w0.heap.size rfl (.tmp 56) 24 42 rfl (.agg #[(.string ⟨#[]⟩), (.int .i64 0), (.bool false), (.string ⟨#[]⟩)]) 48 Try.underlying24 info42 rfl (by decide) z42 (k42_mkM _ _ _ z42 ) (A0 := (some ⟨gz_, 0, none⟩)) (n := x0_2.length) (c := co4) (k := (x3_2 : Int).toNat) rfl KA28.out KY28.out (sq_r HO_0) KL28.out sq_b (below_size sq_b) ?_; intro w29 ho hb hg; rw [KY28.out, ← Ny252.out] at ho; have n0_ := Aside0.mk (ho); have n1_ := Aside0.mk (hb); have n2_ := Aside0.mk (Kept.of_grown (S := (fun k_ => P0_ k_)) hg sq_k (fun k_ e_ => (HO_0.out.1 k_ e_))); clear HO_0; clear HB; clear HK; have HO_0 := n0_; have HB := n1_; have HK := n2_; clear n0_ n1_ n2_; clear ho hb hg; have q30 : (x3_2 : Int) ≤ ((x0_2.length : Int) : Int) := sq_d; obtain ⟨i030, hi030, _, hsz30, _⟩ := info_parts info42; have hcut30 := cut_to (P := Try.prog) 24 42 .i64 Try.underlying24 hi030 (some ⟨gz_, 0, none⟩) x0_2.length co4 x3_2 (sq_d) q30 (Kd.R_reads' HO_0.out).2.1; have hr30 := Kd.R_take (m := (x3_2 : Int).toNat) HO_0.out (by first | omega | (have e_ := (Kd.R_reads' HO_0.out).1; omega)); have hy30 : y253.length = (x3_2 : Int).toNat := (by rw [Ny253.out, List.length_take]; first | omega | (have e_ := (Kd.R_reads' HO_0.out).1; omega)); rw [← Ny253.out] at hr30; rw [← hy30] at hr30 hcut30; clear hy30 hi030 hsz30 HO_0; have HO255 := Aside0.mk hr30; clear hr30; replace q30 := eq_true q30)))
         go_ret
         exact ⟨_, by first | rfl | (simp [errW_none, errW_some] <;> rfl) | (simp only [← hji7]; first | rfl | (simp [errW_none, errW_some] <;> rfl)) | (simp [errW_none, errW_some, ext_bne_nil, ext_beq_nil]; done) | (simp [*, errW_none, errW_some] <;> rfl), sq_r HO255, sq_b, sq_k⟩
     ·rw [if_neg c10] at H
      have c10b0 : ((((rd_T42 x0_1 x3_1).f0).toList) == (((rd_T42 x0_1 (ji7)).f0).toList) && (((rd_T42 x0_1 x3_1).f1) == ((rd_T42 x0_1 (ji7)).f1) && (((rd_T42 x0_1 x3_1).f2) == ((rd_T42 x0_1 (ji7)).f2) && ((((rd_T42 x0_1 x3_1).f3).toList) == (((rd_T42 x0_1 (ji7)).f3).toList))))) = false := by simpa using c10
      (try (have c10b1 : decide ((((rd_T42 x0_1 x3_1).f0).toList) = (((rd_T42 x0_1 (ji7)).f0).toList) && (((rd_T42 x0_1 x3_1).f1) == ((rd_T42 x0_1 (ji7)).f1) && (((rd_T42 x0_1 x3_1).f2) == ((rd_T42 x0_1 (ji7)).f2) && ((((rd_T42 x0_1 x3_1).f3).toList) == (((rd_T42 x0_1 (ji7)).f3).toList))))) = false := by simpa using c10))
      (try (have c10b2 : ((((rd_T42 x0_1 x3_1).f0).toList) == (((rd_T42 x0_1 (ji7)).f0).toList) && (((rd_T42 x0_1 x3_1).f1) == ((rd_T42 x0_1 (ji7)).f1) && (((rd_T42 x0_1 x3_1).f2) == ((rd_T42 x0_1 (ji7)).f2) && ((((rd_T42 x0_1 x3_1).f3).toList) == (((rd_T42 x0_1 (ji7)).f3).toList))))) = false := by simpa using c10))
      (try (have c10b3 : ¬ ((((rd_T42 x0_1 x3_1).f0).toList) = (((rd_T42 x0_1 (ji7)).f0).toList) && (((rd_T42 x0_1 x3_1).f1) == ((rd_T42 x0_1 (ji7)).f1) && (((rd_T42 x0_1 x3_1).f2) == ((rd_T42 x0_1 (ji7)).f2) && ((((rd_T42 x0_1 x3_1).f3).toList) == (((rd_T42 x0_1 (ji7)).f3).toList))))) := by simpa using c10))
      clear c10
      have H' := Aside0.mk H
      clear H
      have p238 : 0 ≤ (x3_1 : Int) := sq_d
      have q238 : x3_1 < (x0_1.length : Int) := sq_d
      obtain ⟨ad238, e238, hx238_0, hx238_1, hx238_2, hx238_3⟩ := at_T42 (Kd.R_reads' HO_0.out).2.2 x3_1 p238 q238
      cases e238
      (first | simp only [add_plain] at hx238_0 | skip)
      (first | simp only [add_plain] at hx238_1 | skip)
      (first | simp only [add_plain] at hx238_2 | skip)
      (first | simp only [add_plain] at hx238_3 | skip)
      replace p238 := eq_true p238
      replace q238 := eq_true q238
      have p239 : 0 ≤ ((ji7) : Int) := sq_d
      have q239 : (ji7) < (x0_1.length : Int) := sq_d
      obtain ⟨ad239, e239, hx239_0, hx239_1, hx239_2, hx239_3⟩ := at_T42 (Kd.R_reads' HO_0.out).2.2 (ji7) p239 q239
      obtain rfl : (⟨gz_, 0, none⟩ : Addr) = ad239 := (by injection e239)
      (first | simp only [add_plain] at hx239_0 | skip)
      (first | simp only [add_plain] at hx239_1 | skip)
      (first | simp only [add_plain] at hx239_2 | skip)
      (first | simp only [add_plain] at hx239_3 | skip)
      replace p239 := eq_true p239
      replace q239 := eq_true q239
      go_wp2
      repeat (go_quiet (fail); try go_wp2)
      (try simp only [← hl0_1])
      go_roundg k1
      case measure => have := HK1.out; omega
      case rel => exact ⟨(x0_1), (wrap64 (x3_1 + 1)), sq_e, H', ⟨by have := HK1.out; omega⟩, ⟨by (try simp only [hl0_1]); (with_reducible repeat (first | apply Kd.R_alloc | apply Kd.R_drewN | apply Kd.R_drew)); exact HO_0.out⟩, ⟨sq_k⟩, ⟨sq_b⟩⟩
    ·rw [if_neg c5] at H
     have c5b0 : decide (x3_1 < (x0_1.length : Int)) = false := decide_eq_false c5
     (try (have c5h0 := c5b0; simp only [hl0_1] at c5h0))
     clear c5
     obtain rfl := Option.some.inj H
     go_wp2
     repeat (go_quiet (fail); try go_wp2)
     go_ret
     exact ⟨_, sq_w, sq_r HO_0, sq_b, sq_k⟩

end Go.Proofs.Ytpfjlnfgekeobaa.QFnExactMergeVersions
