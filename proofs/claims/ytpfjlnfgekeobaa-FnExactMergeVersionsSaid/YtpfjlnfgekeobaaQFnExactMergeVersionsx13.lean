-- Written by this session's own program (wip/pp_patch.py, wip/pp.sh) out of the given translation. Not trusted: Lean checks it.
import Derived.Test.YtpfjlnfgekeobaaQFnExactMergeVersionsx0
import Derived.Test.YtpfjlnfgekeobaaQFnExactMergeVersionsx8
import Derived.Test.YtpfjlnfgekeobaaQFnExactMergeVersionsx11
import Derived.Test.YtpfjlnfgekeobaaQFnExactMergeVersionsx12
namespace Go.Proofs.Ytpfjlnfgekeobaa.QFnExactMergeVersions
open Go.RowKit Go.Proofs.YtpfjlnfgekeobaaW.PrintWords Go.Proofs.YtpfjlnfgekeobaaW.PrintLast Go.Proofs.YtpfjlnfgekeobaaW.PrintMore
attribute [local go_sem] max2_int min2_int max_two min_two max_three min_three max_four min_four   -- for this text's walks alone
open Go.Proofs.Ytpfjlnfgekeobaa.Ext
attribute [local go_sem high] ext_gtr ext_leq
set_option linter.unusedVariables false
set_option linter.unusedSimpArgs false

/-! ### slices_symMergeCmpFunc_impl_Version__impl_Version_compare: function 73 -/
mutual
def slices_symMergeCmpFunc_impl_Version__impl_Version_compare.l0 : Nat → List (S42) → Int → Int → Int → Option ((List (S42)))
 | 0, _, _, _, _ => none
 | k + 1, x0, x1, x10, x11 => if x10 < x11 then (if 0 ≤ (wrap64 ((IntKind.u64.wrap (wrap64 (x10 + x11))) / 2)) then (if (wrap64 ((IntKind.u64.wrap (wrap64 (x10 + x11))) / 2)) < (x0.length : Int) then (if 0 ≤ x1 then (if x1 < (x0.length : Int) then ((impl_Version_compare.f k ((rd_T42 x0 (wrap64 ((IntKind.u64.wrap (wrap64 (x10 + x11))) / 2))).f0) ((rd_T42 x0 (wrap64 ((IntKind.u64.wrap (wrap64 (x10 + x11))) / 2))).f1) ((rd_T42 x0 (wrap64 ((IntKind.u64.wrap (wrap64 (x10 + x11))) / 2))).f2) ((rd_T42 x0 (wrap64 ((IntKind.u64.wrap (wrap64 (x10 + x11))) / 2))).f3) ((rd_T42 x0 x1).f0) ((rd_T42 x0 x1).f1) ((rd_T42 x0 x1).f2) ((rd_T42 x0 x1).f3)).bind fun t272 => (if t272 < 0 then (slices_symMergeCmpFunc_impl_Version__impl_Version_compare.l0 k x0 x1 (wrap64 ((wrap64 ((IntKind.u64.wrap (wrap64 (x10 + x11))) / 2)) + 1)) x11) else (slices_symMergeCmpFunc_impl_Version__impl_Version_compare.l0 k x0 x1 x10 (wrap64 ((IntKind.u64.wrap (wrap64 (x10 + x11))) / 2))))) else (none)) else (none)) else (none)) else (none)) else (slices_symMergeCmpFunc_impl_Version__impl_Version_compare.l1 k x0 x10 x1)
def slices_symMergeCmpFunc_impl_Version__impl_Version_compare.l1 : Nat → List (S42) → Int → Int → Option ((List (S42)))
 | 0, _, _, _ => none
 | k + 1, x0, x10, x13 => if x13 < (wrap64 (x10 - 1)) then (if 0 ≤ (wrap64 (x13 + 1)) then (if (wrap64 (x13 + 1)) < (x0.length : Int) then (if 0 ≤ x13 then (if x13 < (x0.length : Int) then (slices_symMergeCmpFunc_impl_Version__impl_Version_compare.l1 k ((x0.set (x13 : Int).toNat (⟨(rd_T42 x0 (wrap64 (x13 + 1))).f0, (rd_T42 x0 (wrap64 (x13 + 1))).f1, (rd_T42 x0 (wrap64 (x13 + 1))).f2, (rd_T42 x0 (wrap64 (x13 + 1))).f3⟩ : S42)).set ((wrap64 (x13 + 1)) : Int).toNat (⟨(rd_T42 x0 x13).f0, (rd_T42 x0 x13).f1, (rd_T42 x0 x13).f2, (rd_T42 x0 x13).f3⟩ : S42)) x10 (wrap64 (x13 + 1))) else (none)) else (none)) else (none)) else (none)) else (some x0)
def slices_symMergeCmpFunc_impl_Version__impl_Version_compare.l2 : Nat → List (S42) → Int → Int → Int → Option ((List (S42)))
 | 0, _, _, _, _ => none
 | k + 1, x0, x2, x14, x15 => if x14 < x15 then (if 0 ≤ x2 then (if x2 < (x0.length : Int) then (if 0 ≤ (wrap64 ((IntKind.u64.wrap (wrap64 (x14 + x15))) / 2)) then (if (wrap64 ((IntKind.u64.wrap (wrap64 (x14 + x15))) / 2)) < (x0.length : Int) then ((impl_Version_compare.f k ((rd_T42 x0 x2).f0) ((rd_T42 x0 x2).f1) ((rd_T42 x0 x2).f2) ((rd_T42 x0 x2).f3) ((rd_T42 x0 (wrap64 ((IntKind.u64.wrap (wrap64 (x14 + x15))) / 2))).f0) ((rd_T42 x0 (wrap64 ((IntKind.u64.wrap (wrap64 (x14 + x15))) / 2))).f1) ((rd_T42 x0 (wrap64 ((IntKind.u64.wrap (wrap64 (x14 + x15))) / 2))).f2) ((rd_T42 x0 (wrap64 ((IntKind.u64.wrap (wrap64 (x14 + x15))) / 2))).f3)).bind fun t279 => (if t279 < 0 then (slices_symMergeCmpFunc_impl_Version__impl_Version_compare.l2 k x0 x2 x14 (wrap64 ((IntKind.u64.wrap (wrap64 (x14 + x15))) / 2))) else (slices_symMergeCmpFunc_impl_Version__impl_Version_compare.l2 k x0 x2 (wrap64 ((wrap64 ((IntKind.u64.wrap (wrap64 (x14 + x15))) / 2)) + 1)) x15))) else (none)) else (none)) else (none)) else (none)) else (slices_symMergeCmpFunc_impl_Version__impl_Version_compare.l3 k x0 x14 x2)
def slices_symMergeCmpFunc_impl_Version__impl_Version_compare.l3 : Nat → List (S42) → Int → Int → Option ((List (S42)))
 | 0, _, _, _ => none
 | k + 1, x0, x14, x17 => if x17 > x14 then (if 0 ≤ (wrap64 (x17 - 1)) then (if (wrap64 (x17 - 1)) < (x0.length : Int) then (if 0 ≤ x17 then (if x17 < (x0.length : Int) then (slices_symMergeCmpFunc_impl_Version__impl_Version_compare.l3 k ((x0.set (x17 : Int).toNat (⟨(rd_T42 x0 (wrap64 (x17 - 1))).f0, (rd_T42 x0 (wrap64 (x17 - 1))).f1, (rd_T42 x0 (wrap64 (x17 - 1))).f2, (rd_T42 x0 (wrap64 (x17 - 1))).f3⟩ : S42)).set ((wrap64 (x17 - 1)) : Int).toNat (⟨(rd_T42 x0 x17).f0, (rd_T42 x0 x17).f1, (rd_T42 x0 x17).f2, (rd_T42 x0 x17).f3⟩ : S42)) x14 (wrap64 (x17 - 1))) else (none)) else (none)) else (none)) else (none)) else (some x0)
def slices_symMergeCmpFunc_impl_Version__impl_Version_compare.j4 : Nat → List (S42) → Int → Int → Int → Int → Int → Int → Int → Option ((List (S42)))
 | 0, _, _, _, _, _, _, _, _ => none
 | k + 1, x0, x1, x2, x3, x18, x19, x20, x21 => slices_symMergeCmpFunc_impl_Version__impl_Version_compare.l4 k x0 x1 x2 x3 x18 x19 x20 x21 (wrap64 (x19 - 1))
def slices_symMergeCmpFunc_impl_Version__impl_Version_compare.l4 : Nat → List (S42) → Int → Int → Int → Int → Int → Int → Int → Int → Option ((List (S42)))
 | 0, _, _, _, _, _, _, _, _, _ => none
 | k + 1, x0, x1, x2, x3, x18, x19, x20, x21, x22 => if x20 < x21 then (if 0 ≤ (wrap64 (x22 - (wrap64 ((IntKind.u64.wrap (wrap64 (x20 + x21))) / 2)))) then (if (wrap64 (x22 - (wrap64 ((IntKind.u64.wrap (wrap64 (x20 + x21))) / 2)))) < (x0.length : Int) then (if 0 ≤ (wrap64 ((IntKind.u64.wrap (wrap64 (x20 + x21))) / 2)) then (if (wrap64 ((IntKind.u64.wrap (wrap64 (x20 + x21))) / 2)) < (x0.length : Int) then ((impl_Version_compare.f k ((rd_T42 x0 (wrap64 (x22 - (wrap64 ((IntKind.u64.wrap (wrap64 (x20 + x21))) / 2))))).f0) ((rd_T42 x0 (wrap64 (x22 - (wrap64 ((IntKind.u64.wrap (wrap64 (x20 + x21))) / 2))))).f1) ((rd_T42 x0 (wrap64 (x22 - (wrap64 ((IntKind.u64.wrap (wrap64 (x20 + x21))) / 2))))).f2) ((rd_T42 x0 (wrap64 (x22 - (wrap64 ((IntKind.u64.wrap (wrap64 (x20 + x21))) / 2))))).f3) ((rd_T42 x0 (wrap64 ((IntKind.u64.wrap (wrap64 (x20 + x21))) / 2))).f0) ((rd_T42 x0 (wrap64 ((IntKind.u64.wrap (wrap64 (x20 + x21))) / 2))).f1) ((rd_T42 x0 (wrap64 ((IntKind.u64.wrap (wrap64 (x20 + x21))) / 2))).f2) ((rd_T42 x0 (wrap64 ((IntKind.u64.wrap (wrap64 (x20 + x21))) / 2))).f3)).bind fun t286 => (if t286 < 0 then (slices_symMergeCmpFunc_impl_Version__impl_Version_compare.l4 k x0 x1 x2 x3 x18 x19 x20 (wrap64 ((IntKind.u64.wrap (wrap64 (x20 + x21))) / 2)) x22) else (slices_symMergeCmpFunc_impl_Version__impl_Version_compare.l4 k x0 x1 x2 x3 x18 x19 (wrap64 ((wrap64 ((IntKind.u64.wrap (wrap64 (x20 + x21))) / 2)) + 1)) x21 x22))) else (none)) else (none)) else (none)) else (none)) else (if x20 < x2 then (slices_symMergeCmpFunc_impl_Version__impl_Version_compare.j6 k x0 x1 x2 x3 x18 x20 (wrap64 (x19 - x20)) (decide (x2 < (wrap64 (x19 - x20))))) else (slices_symMergeCmpFunc_impl_Version__impl_Version_compare.j6 k x0 x1 x2 x3 x18 x20 (wrap64 (x19 - x20)) false))
def slices_symMergeCmpFunc_impl_Version__impl_Version_compare.j6 : Nat → List (S42) → Int → Int → Int → Int → Int → Int → Bool → Option ((List (S42)))
 | 0, _, _, _, _, _, _, _, _ => none
 | k + 1, x0, x1, x2, x3, x18, x20, x24, x185 => if x185 = true then ((slices_rotateCmpFunc_impl_Version__impl_Version_compare.f k x0 x20 x2 x24).bind fun t287 => (slices_symMergeCmpFunc_impl_Version__impl_Version_compare.j7 k t287 x1 x3 x18 x20 x24)) else (slices_symMergeCmpFunc_impl_Version__impl_Version_compare.j7 k x0 x1 x3 x18 x20 x24)
def slices_symMergeCmpFunc_impl_Version__impl_Version_compare.j7 : Nat → List (S42) → Int → Int → Int → Int → Int → Option ((List (S42)))
 | 0, _, _, _, _, _, _ => none
 | k + 1, x0, x1, x3, x18, x20, x24 => if x1 < x20 then (slices_symMergeCmpFunc_impl_Version__impl_Version_compare.j8 k x0 x1 x3 x18 x20 x24 (decide (x20 < x18))) else (slices_symMergeCmpFunc_impl_Version__impl_Version_compare.j8 k x0 x1 x3 x18 x20 x24 false)
def slices_symMergeCmpFunc_impl_Version__impl_Version_compare.j8 : Nat → List (S42) → Int → Int → Int → Int → Int → Bool → Option ((List (S42)))
 | 0, _, _, _, _, _, _, _ => none
 | k + 1, x0, x1, x3, x18, x20, x24, x199 => if x199 = true then ((slices_symMergeCmpFunc_impl_Version__impl_Version_compare.f k x0 x1 x20 x18).bind fun t288 => (if x18 < x24 then (if x24 < x3 then ((slices_symMergeCmpFunc_impl_Version__impl_Version_compare.f k t288 x18 x24 x3).bind fun t289 => (some t289)) else (some t288)) else (some t288))) else (if x18 < x24 then (if x24 < x3 then ((slices_symMergeCmpFunc_impl_Version__impl_Version_compare.f k x0 x18 x24 x3).bind fun t290 => (some t290)) else (some x0)) else (some x0))
def slices_symMergeCmpFunc_impl_Version__impl_Version_compare.f : Nat → List (S42) → Int → Int → Int → Option ((List (S42)))
 | 0, _, _, _, _ => none
 | k + 1, l0, a1, a2, a3 => if (wrap64 (a2 - a1)) = 1 then (slices_symMergeCmpFunc_impl_Version__impl_Version_compare.l0 k l0 a1 a2 a3) else (if (wrap64 (a3 - a2)) = 1 then (slices_symMergeCmpFunc_impl_Version__impl_Version_compare.l2 k l0 a2 a1 a2) else (if a2 > (wrap64 ((IntKind.u64.wrap (wrap64 (a1 + a3))) / 2)) then (slices_symMergeCmpFunc_impl_Version__impl_Version_compare.j4 k l0 a1 a2 a3 (wrap64 ((IntKind.u64.wrap (wrap64 (a1 + a3))) / 2)) (wrap64 ((wrap64 ((IntKind.u64.wrap (wrap64 (a1 + a3))) / 2)) + a2)) (wrap64 ((wrap64 ((wrap64 ((IntKind.u64.wrap (wrap64 (a1 + a3))) / 2)) + a2)) - a3)) (wrap64 ((IntKind.u64.wrap (wrap64 (a1 + a3))) / 2))) else (slices_symMergeCmpFunc_impl_Version__impl_Version_compare.j4 k l0 a1 a2 a3 (wrap64 ((IntKind.u64.wrap (wrap64 (a1 + a3))) / 2)) (wrap64 ((wrap64 ((IntKind.u64.wrap (wrap64 (a1 + a3))) / 2)) + a2)) a1 a2)))
end
theorem slices_symMergeCmpFunc_impl_Version__impl_Version_compare.mono_l : ∀ k, (∀ y0 y1 y2 y3, LeO (slices_symMergeCmpFunc_impl_Version__impl_Version_compare.f k y0 y1 y2 y3) (slices_symMergeCmpFunc_impl_Version__impl_Version_compare.f (k + 1) y0 y1 y2 y3)) ∧ (∀ y0 y1 y2 y3, LeO (slices_symMergeCmpFunc_impl_Version__impl_Version_compare.l0 k y0 y1 y2 y3) (slices_symMergeCmpFunc_impl_Version__impl_Version_compare.l0 (k + 1) y0 y1 y2 y3)) ∧ (∀ y0 y1 y2, LeO (slices_symMergeCmpFunc_impl_Version__impl_Version_compare.l1 k y0 y1 y2) (slices_symMergeCmpFunc_impl_Version__impl_Version_compare.l1 (k + 1) y0 y1 y2)) ∧ (∀ y0 y1 y2 y3, LeO (slices_symMergeCmpFunc_impl_Version__impl_Version_compare.l2 k y0 y1 y2 y3) (slices_symMergeCmpFunc_impl_Version__impl_Version_compare.l2 (k + 1) y0 y1 y2 y3)) ∧ (∀ y0 y1 y2, LeO (slices_symMergeCmpFunc_impl_Version__impl_Version_compare.l3 k y0 y1 y2) (slices_symMergeCmpFunc_impl_Version__impl_Version_compare.l3 (k + 1) y0 y1 y2)) ∧ (∀ y0 y1 y2 y3 y4 y5 y6 y7, LeO (slices_symMergeCmpFunc_impl_Version__impl_Version_compare.j4 k y0 y1 y2 y3 y4 y5 y6 y7) (slices_symMergeCmpFunc_impl_Version__impl_Version_compare.j4 (k + 1) y0 y1 y2 y3 y4 y5 y6 y7)) ∧ (∀ y0 y1 y2 y3 y4 y5 y6 y7 y8, LeO (slices_symMergeCmpFunc_impl_Version__impl_Version_compare.l4 k y0 y1 y2 y3 y4 y5 y6 y7 y8) (slices_symMergeCmpFunc_impl_Version__impl_Version_compare.l4 (k + 1) y0 y1 y2 y3 y4 y5 y6 y7 y8)) ∧ (∀ y0 y1 y2 y3 y4 y5 y6 y7, LeO (slices_symMergeCmpFunc_impl_Version__impl_Version_compare.j6 k y0 y1 y2 y3 y4 y5 y6 y7) (slices_symMergeCmpFunc_impl_Version__impl_Version_compare.j6 (k + 1) y0 y1 y2 y3 y4 y5 y6 y7)) ∧ (∀ y0 y1 y2 y3 y4 y5, LeO (slices_symMergeCmpFunc_impl_Version__impl_Version_compare.j7 k y0 y1 y2 y3 y4 y5) (slices_symMergeCmpFunc_impl_Version__impl_Version_compare.j7 (k + 1) y0 y1 y2 y3 y4 y5)) ∧ (∀ y0 y1 y2 y3 y4 y5 y6, LeO (slices_symMergeCmpFunc_impl_Version__impl_Version_compare.j8 k y0 y1 y2 y3 y4 y5 y6) (slices_symMergeCmpFunc_impl_Version__impl_Version_compare.j8 (k + 1) y0 y1 y2 y3 y4 y5 y6))
 | 0 => ⟨fun _ _ _ _ r h => by simp [slices_symMergeCmpFunc_impl_Version__impl_Version_compare.f] at h, fun _ _ _ _ r h => by simp [slices_symMergeCmpFunc_impl_Version__impl_Version_compare.l0] at h, fun _ _ _ r h => by simp [slices_symMergeCmpFunc_impl_Version__impl_Version_compare.l1] at h, fun _ _ _ _ r h => by simp [slices_symMergeCmpFunc_impl_Version__impl_Version_compare.l2] at h, fun _ _ _ r h => by simp [slices_symMergeCmpFunc_impl_Version__impl_Version_compare.l3] at h, fun _ _ _ _ _ _ _ _ r h => by simp [slices_symMergeCmpFunc_impl_Version__impl_Version_compare.j4] at h, fun _ _ _ _ _ _ _ _ _ r h => by simp [slices_symMergeCmpFunc_impl_Version__impl_Version_compare.l4] at h, fun _ _ _ _ _ _ _ _ r h => by simp [slices_symMergeCmpFunc_impl_Version__impl_Version_compare.j6] at h, fun _ _ _ _ _ _ r h => by simp [slices_symMergeCmpFunc_impl_Version__impl_Version_compare.j7] at h, fun _ _ _ _ _ _ _ r h => by simp [slices_symMergeCmpFunc_impl_Version__impl_Version_compare.j8] at h⟩
 | k + 1 => by
  obtain ⟨ih0, ih1, ih2, ih3, ih4, ih5, ih6, ih7, ih8, ih9⟩ := slices_symMergeCmpFunc_impl_Version__impl_Version_compare.mono_l k
  refine ⟨?_, ?_, ?_, ?_, ?_, ?_, ?_, ?_, ?_, ?_⟩
  ·intro y0 y1 y2 y3
   unfold slices_symMergeCmpFunc_impl_Version__impl_Version_compare.f
   repeat' first
   | (with_reducible exact ih0 _ _ _ _)
   | (with_reducible exact ih1 _ _ _ _)
   | (with_reducible exact ih2 _ _ _)
   | (with_reducible exact ih3 _ _ _ _)
   | (with_reducible exact ih4 _ _ _)
   | (with_reducible exact ih5 _ _ _ _ _ _ _ _)
   | (with_reducible exact ih6 _ _ _ _ _ _ _ _ _)
   | (with_reducible exact ih7 _ _ _ _ _ _ _ _)
   | (with_reducible exact ih8 _ _ _ _ _ _)
   | (with_reducible exact ih9 _ _ _ _ _ _ _)
   | (with_reducible exact impl_Version_compare.mono _ _ _ _ _ _ _ _ _)
   | (with_reducible exact slices_rotateCmpFunc_impl_Version__impl_Version_compare.mono _ _ _ _ _)
   | (with_reducible exact LeO.refl _)
   | (with_reducible exact LeO.none _)
   | (with_reducible refine LeO.ite ?_ ?_)
   | (with_reducible refine LeO.bind ?_ (fun _ => ?_))
   | exact ih0 _ _ _ _
   | exact ih1 _ _ _ _
   | exact ih2 _ _ _
   | exact ih3 _ _ _ _
   | exact ih4 _ _ _
   | exact ih5 _ _ _ _ _ _ _ _
   | exact ih6 _ _ _ _ _ _ _ _ _
   | exact ih7 _ _ _ _ _ _ _ _
   | exact ih8 _ _ _ _ _ _
   | exact ih9 _ _ _ _ _ _ _
   | exact impl_Version_compare.mono _ _ _ _ _ _ _ _ _
   | exact slices_rotateCmpFunc_impl_Version__impl_Version_compare.mono _ _ _ _ _
   | exact LeO.none _
   | refine LeO.ite ?_ ?_
   | refine LeO.bind ?_ (fun _ => ?_)
  ·intro y0 y1 y2 y3
   unfold slices_symMergeCmpFunc_impl_Version__impl_Version_compare.l0
   repeat' first
   | (with_reducible exact ih0 _ _ _ _)
   | (with_reducible exact ih1 _ _ _ _)
   | (with_reducible exact ih2 _ _ _)
   | (with_reducible exact ih3 _ _ _ _)
   | (with_reducible exact ih4 _ _ _)
   | (with_reducible exact ih5 _ _ _ _ _ _ _ _)
   | (with_reducible exact ih6 _ _ _ _ _ _ _ _ _)
   | (with_reducible exact ih7 _ _ _ _ _ _ _ _)
   | (with_reducible exact ih8 _ _ _ _ _ _)
   | (with_reducible exact ih9 _ _ _ _ _ _ _)
   | (with_reducible exact impl_Version_compare.mono _ _ _ _ _ _ _ _ _)
   | (with_reducible exact slices_rotateCmpFunc_impl_Version__impl_Version_compare.mono _ _ _ _ _)
   | (with_reducible exact LeO.refl _)
   | (with_reducible exact LeO.none _)
   | (with_reducible refine LeO.ite ?_ ?_)
   | (with_reducible refine LeO.bind ?_ (fun _ => ?_))
   | exact ih0 _ _ _ _
   | exact ih1 _ _ _ _
   | exact ih2 _ _ _
   | exact ih3 _ _ _ _
   | exact ih4 _ _ _
   | exact ih5 _ _ _ _ _ _ _ _
   | exact ih6 _ _ _ _ _ _ _ _ _
   | exact ih7 _ _ _ _ _ _ _ _
   | exact ih8 _ _ _ _ _ _
   | exact ih9 _ _ _ _ _ _ _
   | exact impl_Version_compare.mono _ _ _ _ _ _ _ _ _
   | exact slices_rotateCmpFunc_impl_Version__impl_Version_compare.mono _ _ _ _ _
   | exact LeO.none _
   | refine LeO.ite ?_ ?_
   | refine LeO.bind ?_ (fun _ => ?_)
  ·intro y0 y1 y2
   unfold slices_symMergeCmpFunc_impl_Version__impl_Version_compare.l1
   repeat' first
   | (with_reducible exact ih0 _ _ _ _)
   | (with_reducible exact ih1 _ _ _ _)
   | (with_reducible exact ih2 _ _ _)
   | (with_reducible exact ih3 _ _ _ _)
   | (with_reducible exact ih4 _ _ _)
   | (with_reducible exact ih5 _ _ _ _ _ _ _ _)
   | (with_reducible exact ih6 _ _ _ _ _ _ _ _ _)
   | (with_reducible exact ih7 _ _ _ _ _ _ _ _)
   | (with_reducible exact ih8 _ _ _ _ _ _)
   | (with_reducible exact ih9 _ _ _ _ _ _ _)
   | (with_reducible exact impl_Version_compare.mono _ _ _ _ _ _ _ _ _)
   | (with_reducible exact slices_rotateCmpFunc_impl_Version__impl_Version_compare.mono _ _ _ _ _)
   | (with_reducible exact LeO.refl _)
   | (with_reducible exact LeO.none _)
   | (with_reducible refine LeO.ite ?_ ?_)
   | (with_reducible refine LeO.bind ?_ (fun _ => ?_))
   | exact ih0 _ _ _ _
   | exact ih1 _ _ _ _
   | exact ih2 _ _ _
   | exact ih3 _ _ _ _
   | exact ih4 _ _ _
   | exact ih5 _ _ _ _ _ _ _ _
   | exact ih6 _ _ _ _ _ _ _ _ _
   | exact ih7 _ _ _ _ _ _ _ _
   | exact ih8 _ _ _ _ _ _
   | exact ih9 _ _ _ _ _ _ _
   | exact impl_Version_compare.mono _ _ _ _ _ _ _ _ _
   | exact slices_rotateCmpFunc_impl_Version__impl_Version_compare.mono _ _ _ _ _
   | exact LeO.none _
   | refine LeO.ite ?_ ?_
   | refine LeO.bind ?_ (fun _ => ?_)
  ·intro y0 y1 y2 y3
   unfold slices_symMergeCmpFunc_impl_Version__impl_Version_compare.l2
   repeat' first
   | (with_reducible exact ih0 _ _ _ _)
   | (with_reducible exact ih1 _ _ _ _)
   | (with_reducible exact ih2 _ _ _)
   | (with_reducible exact ih3 _ _ _ _)
   | (with_reducible exact ih4 _ _ _)
   | (with_reducible exact ih5 _ _ _ _ _ _ _ _)
   | (with_reducible exact ih6 _ _ _ _ _ _ _ _ _)
   | (with_reducible exact ih7 _ _ _ _ _ _ _ _)
   | (with_reducible exact ih8 _ _ _ _ _ _)
   | (with_reducible exact ih9 _ _ _ _ _ _ _)
   | (with_reducible exact impl_Version_compare.mono _ _ _ _ _ _ _ _ _)
   | (with_reducible exact slices_rotateCmpFunc_impl_Version__impl_Version_compare.mono _ _ _ _ _)
   | (with_reducible exact LeO.refl _)
   | (with_reducible exact LeO.none _)
   | (with_reducible refine LeO.ite ?_ ?_)
   | (with_reducible refine LeO.bind ?_ (fun _ => ?_))
   | exact ih0 _ _ _ _
   | exact ih1 _ _ _ _
   | exact ih2 _ _ _
   | exact ih3 _ _ _ _
   | exact ih4 _ _ _
   | exact ih5 _ _ _ _ _ _ _ _
   | exact ih6 _ _ _ _ _ _ _ _ _
   | exact ih7 _ _ _ _ _ _ _ _
   | exact ih8 _ _ _ _ _ _
   | exact ih9 _ _ _ _ _ _ _
   | exact impl_Version_compare.mono _ _ _ _ _ _ _ _ _
   | exact slices_rotateCmpFunc_impl_Version__impl_Version_compare.mono _ _ _ _ _
   | exact LeO.none _
   | refine LeO.ite ?_ ?_
   | refine LeO.bind ?_ (fun _ => ?_)
  ·intro y0 y1 y2
   unfold slices_symMergeCmpFunc_impl_Version__impl_Version_compare.l3
   repeat' first
   | (with_reducible exact ih0 _ _ _ _)
   | (with_reducible exact ih1 _ _ _ _)
   | (with_reducible exact ih2 _ _ _)
   | (with_reducible exact ih3 _ _ _ _)
   | (with_reducible exact ih4 _ _ _)
   | (with_reducible exact ih5 _ _ _ _ _ _ _ _)
   | (with_reducible exact ih6 _ _ _ _ _ _ _ _ _)
   | (with_reducible exact ih7 _ _ _ _ _ _ _ _)
   | (with_reducible exact ih8 _ _ _ _ _ _)
   | (with_reducible exact ih9 _ _ _ _ _ _ _)
   | (with_reducible exact impl_Version_compare.mono _ _ _ _ _ _ _ _ _)
   | (with_reducible exact slices_rotateCmpFunc_impl_Version__impl_Version_compare.mono _ _ _ _ _)
   | (with_reducible exact LeO.refl _)
   | (with_reducible exact LeO.none _)
   | (with_reducible refine LeO.ite ?_ ?_)
   | (with_reducible refine LeO.bind ?_ (fun _ => ?_))
   | exact ih0 _ _ _ _
   | exact ih1 _ _ _ _
   | exact ih2 _ _ _
   | exact ih3 _ _ _ _
   | exact ih4 _ _ _
   | exact ih5 _ _ _ _ _ _ _ _
   | exact ih6 _ _ _ _ _ _ _ _ _
   | exact ih7 _ _ _ _ _ _ _ _
   | exact ih8 _ _ _ _ _ _
   | exact ih9 _ _ _ _ _ _ _
   | exact impl_Version_compare.mono _ _ _ _ _ _ _ _ _
   | exact slices_rotateCmpFunc_impl_Version__impl_Version_compare.mono _ _ _ _ _
   | exact LeO.none _
   | refine LeO.ite ?_ ?_
   | refine LeO.bind ?_ (fun _ => ?_)
  ·intro y0 y1 y2 y3 y4 y5 y6 y7
   unfold slices_symMergeCmpFunc_impl_Version__impl_Version_compare.j4
   repeat' first
   | (with_reducible exact ih0 _ _ _ _)
   | (with_reducible exact ih1 _ _ _ _)
   | (with_reducible exact ih2 _ _ _)
   | (with_reducible exact ih3 _ _ _ _)
   | (with_reducible exact ih4 _ _ _)
   | (with_reducible exact ih5 _ _ _ _ _ _ _ _)
   | (with_reducible exact ih6 _ _ _ _ _ _ _ _ _)
   | (with_reducible exact ih7 _ _ _ _ _ _ _ _)
   | (with_reducible exact ih8 _ _ _ _ _ _)
   | (with_reducible exact ih9 _ _ _ _ _ _ _)
   | (with_reducible exact impl_Version_compare.mono _ _ _ _ _ _ _ _ _)
   | (with_reducible exact slices_rotateCmpFunc_impl_Version__impl_Version_compare.mono _ _ _ _ _)
   | (with_reducible exact LeO.refl _)
   | (with_reducible exact LeO.none _)
   | (with_reducible refine LeO.ite ?_ ?_)
   | (with_reducible refine LeO.bind ?_ (fun _ => ?_))
   | exact ih0 _ _ _ _
   | exact ih1 _ _ _ _
   | exact ih2 _ _ _
   | exact ih3 _ _ _ _
   | exact ih4 _ _ _
   | exact ih5 _ _ _ _ _ _ _ _
   | exact ih6 _ _ _ _ _ _ _ _ _
   | exact ih7 _ _ _ _ _ _ _ _
   | exact ih8 _ _ _ _ _ _
   | exact ih9 _ _ _ _ _ _ _
   | exact impl_Version_compare.mono _ _ _ _ _ _ _ _ _
   | exact slices_rotateCmpFunc_impl_Version__impl_Version_compare.mono _ _ _ _ _
   | exact LeO.none _
   | refine LeO.ite ?_ ?_
   | refine LeO.bind ?_ (fun _ => ?_)
  ·intro y0 y1 y2 y3 y4 y5 y6 y7 y8
   unfold slices_symMergeCmpFunc_impl_Version__impl_Version_compare.l4
   repeat' first
   | (with_reducible exact ih0 _ _ _ _)
   | (with_reducible exact ih1 _ _ _ _)
   | (with_reducible exact ih2 _ _ _)
   | (with_reducible exact ih3 _ _ _ _)
   | (with_reducible exact ih4 _ _ _)
   | (with_reducible exact ih5 _ _ _ _ _ _ _ _)
   | (with_reducible exact ih6 _ _ _ _ _ _ _ _ _)
   | (with_reducible exact ih7 _ _ _ _ _ _ _ _)
   | (with_reducible exact ih8 _ _ _ _ _ _)
   | (with_reducible exact ih9 _ _ _ _ _ _ _)
   | (with_reducible exact impl_Version_compare.mono _ _ _ _ _ _ _ _ _)
   | (with_reducible exact slices_rotateCmpFunc_impl_Version__impl_Version_compare.mono _ _ _ _ _)
   | (with_reducible exact LeO.refl _)
   | (with_reducible exact LeO.none _)
   | (with_reducible refine LeO.ite ?_ ?_)
   | (with_reducible refine LeO.bind ?_ (fun _ => ?_))
   | exact ih0 _ _ _ _
   | exact ih1 _ _ _ _
   | exact ih2 _ _ _
   | exact ih3 _ _ _ _
   | exact ih4 _ _ _
   | exact ih5 _ _ _ _ _ _ _ _
   | exact ih6 _ _ _ _ _ _ _ _ _
   | exact ih7 _ _ _ _ _ _ _ _
   | exact ih8 _ _ _ _ _ _
   | exact ih9 _ _ _ _ _ _ _
   | exact impl_Version_compare.mono _ _ _ _ _ _ _ _ _
   | exact slices_rotateCmpFunc_impl_Version__impl_Version_compare.mono _ _ _ _ _
   | exact LeO.none _
   | refine LeO.ite ?_ ?_
   | refine LeO.bind ?_ (fun _ => ?_)
  ·intro y0 y1 y2 y3 y4 y5 y6 y7
   unfold slices_symMergeCmpFunc_impl_Version__impl_Version_compare.j6
   repeat' first
   | (with_reducible exact ih0 _ _ _ _)
   | (with_reducible exact ih1 _ _ _ _)
   | (with_reducible exact ih2 _ _ _)
   | (with_reducible exact ih3 _ _ _ _)
   | (with_reducible exact ih4 _ _ _)
   | (with_reducible exact ih5 _ _ _ _ _ _ _ _)
   | (with_reducible exact ih6 _ _ _ _ _ _ _ _ _)
   | (with_reducible exact ih7 _ _ _ _ _ _ _ _)
   | (with_reducible exact ih8 _ _ _ _ _ _)
   | (with_reducible exact ih9 _ _ _ _ _ _ _)
   | (with_reducible exact impl_Version_compare.mono _ _ _ _ _ _ _ _ _)
   | (with_reducible exact slices_rotateCmpFunc_impl_Version__impl_Version_compare.mono _ _ _ _ _)
   | (with_reducible exact LeO.refl _)
   | (with_reducible exact LeO.none _)
   | (with_reducible refine LeO.ite ?_ ?_)
   | (with_reducible refine LeO.bind ?_ (fun _ => ?_))
   | exact ih0 _ _ _ _
   | exact ih1 _ _ _ _
   | exact ih2 _ _ _
   | exact ih3 _ _ _ _
   | exact ih4 _ _ _
   | exact ih5 _ _ _ _ _ _ _ _
   | exact ih6 _ _ _ _ _ _ _ _ _
   | exact ih7 _ _ _ _ _ _ _ _
   | exact ih8 _ _ _ _ _ _
   | exact ih9 _ _ _ _ _ _ _
   | exact impl_Version_compare.mono _ _ _ _ _ _ _ _ _
   | exact slices_rotateCmpFunc_impl_Version__impl_Version_compare.mono _ _ _ _ _
   | exact LeO.none _
   | refine LeO.ite ?_ ?_
   | refine LeO.bind ?_ (fun _ => ?_)
  ·intro y0 y1 y2 y3 y4 y5
   unfold slices_symMergeCmpFunc_impl_Version__impl_Version_compare.j7
   repeat' first
   | (with_reducible exact ih0 _ _ _ _)
   | (with_reducible exact ih1 _ _ _ _)
   | (with_reducible exact ih2 _ _ _)
   | (with_reducible exact ih3 _ _ _ _)
   | (with_reducible exact ih4 _ _ _)
   | (with_reducible exact ih5 _ _ _ _ _ _ _ _)
   | (with_reducible exact ih6 _ _ _ _ _ _ _ _ _)
   | (with_reducible exact ih7 _ _ _ _ _ _ _ _)
   | (with_reducible exact ih8 _ _ _ _ _ _)
   | (with_reducible exact ih9 _ _ _ _ _ _ _)
   | (with_reducible exact impl_Version_compare.mono _ _ _ _ _ _ _ _ _)
   | (with_reducible exact slices_rotateCmpFunc_impl_Version__impl_Version_compare.mono _ _ _ _ _)
   | (with_reducible exact LeO.refl _)
   | (with_reducible exact LeO.none _)
   | (with_reducible refine LeO.ite ?_ ?_)
   | (with_reducible refine LeO.bind ?_ (fun _ => ?_))
   | exact ih0 _ _ _ _
   | exact ih1 _ _ _ _
   | exact ih2 _ _ _
   | exact ih3 _ _ _ _
   | exact ih4 _ _ _
   | exact ih5 _ _ _ _ _ _ _ _
   | exact ih6 _ _ _ _ _ _ _ _ _
   | exact ih7 _ _ _ _ _ _ _ _
   | exact ih8 _ _ _ _ _ _
   | exact ih9 _ _ _ _ _ _ _
   | exact impl_Version_compare.mono _ _ _ _ _ _ _ _ _
   | exact slices_rotateCmpFunc_impl_Version__impl_Version_compare.mono _ _ _ _ _
   | exact LeO.none _
   | refine LeO.ite ?_ ?_
   | refine LeO.bind ?_ (fun _ => ?_)
  ·intro y0 y1 y2 y3 y4 y5 y6
   unfold slices_symMergeCmpFunc_impl_Version__impl_Version_compare.j8
   repeat' first
   | (with_reducible exact ih0 _ _ _ _)
   | (with_reducible exact ih1 _ _ _ _)
   | (with_reducible exact ih2 _ _ _)
   | (with_reducible exact ih3 _ _ _ _)
   | (with_reducible exact ih4 _ _ _)
   | (with_reducible exact ih5 _ _ _ _ _ _ _ _)
   | (with_reducible exact ih6 _ _ _ _ _ _ _ _ _)
   | (with_reducible exact ih7 _ _ _ _ _ _ _ _)
   | (with_reducible exact ih8 _ _ _ _ _ _)
   | (with_reducible exact ih9 _ _ _ _ _ _ _)
   | (with_reducible exact impl_Version_compare.mono _ _ _ _ _ _ _ _ _)
   | (with_reducible exact slices_rotateCmpFunc_impl_Version__impl_Version_compare.mono _ _ _ _ _)
   | (with_reducible exact LeO.refl _)
   | (with_reducible exact LeO.none _)
   | (with_reducible refine LeO.ite ?_ ?_)
   | (with_reducible refine LeO.bind ?_ (fun _ => ?_))
   | exact ih0 _ _ _ _
   | exact ih1 _ _ _ _
   | exact ih2 _ _ _
   | exact ih3 _ _ _ _
   | exact ih4 _ _ _
   | exact ih5 _ _ _ _ _ _ _ _
   | exact ih6 _ _ _ _ _ _ _ _ _
   | exact ih7 _ _ _ _ _ _ _ _
   | exact ih8 _ _ _ _ _ _
   | exact ih9 _ _ _ _ _ _ _
   | exact impl_Version_compare.mono _ _ _ _ _ _ _ _ _
   | exact slices_rotateCmpFunc_impl_Version__impl_Version_compare.mono _ _ _ _ _
   | exact LeO.none _
   | refine LeO.ite ?_ ?_
   | refine LeO.bind ?_ (fun _ => ?_)
theorem slices_symMergeCmpFunc_impl_Version__impl_Version_compare.mono : ∀ a0 a1 a2 a3 k, LeO (slices_symMergeCmpFunc_impl_Version__impl_Version_compare.f k a0 a1 a2 a3) (slices_symMergeCmpFunc_impl_Version__impl_Version_compare.f (k + 1) a0 a1 a2 a3) := by
 intro a0 a1 a2 a3 k
 obtain ⟨ih0, ih1, ih2, ih3, ih4, ih5, ih6, ih7, ih8, ih9⟩ := slices_symMergeCmpFunc_impl_Version__impl_Version_compare.mono_l k
 exact ih0 a0 a1 a2 a3
def slices_symMergeCmpFunc_impl_Version__impl_Version_compare.T5 : Bool × List (List Nat × List Nat) := (true, [([], []), ([], []), ([], []), ([1, 2], [1, 2]), ([3], [3]), ([], []), ([], []), ([5, 6], [5, 6]), ([7], [7]), ([0, 4, 8], [0, 4, 8]), ([9], [9])])
def slices_symMergeCmpFunc_impl_Version__impl_Version_compare.B5 : List Nat := [0, 0, 0, 6, 14, 0, 0, 96, 224, 511, 1023]
theorem slices_symMergeCmpFunc_impl_Version__impl_Version_compare.tab5 : rtab .any (opsOf Try.f73 5) = slices_symMergeCmpFunc_impl_Version__impl_Version_compare.T5 := by kernel_rfl
theorem slices_symMergeCmpFunc_impl_Version__impl_Version_compare.bits5 : waitsOk slices_symMergeCmpFunc_impl_Version__impl_Version_compare.T5.2 slices_symMergeCmpFunc_impl_Version__impl_Version_compare.B5 = true := by kernel_rfl
def slices_symMergeCmpFunc_impl_Version__impl_Version_compare.T11 : Bool × List (List Nat × List Nat) := (true, [([], []), ([], []), ([], []), ([], []), ([3], [3]), ([], []), ([], []), ([6], [6]), ([5, 7], [5, 7]), ([8], [8]), ([], []), ([], []), ([10, 11], [10, 11]), ([12], [12]), ([0, 1, 0, 1, 5, 6, 7, 8, 9, 13], [0, 1]), ([14, 9, 0, 1, 5, 6, 7, 8, 9, 13], [9, 14]), ([2, 4, 0, 1, 2, 3, 4, 5, 6, 7, 8, 9, 10, 11, 12, 13, 14, 15], [2, 4]), ([16, 13, 15, 0, 1, 2, 3, 4, 5, 6, 7, 8, 9, 10, 11, 12, 13, 14, 15], [13, 16])])
def slices_symMergeCmpFunc_impl_Version__impl_Version_compare.B11 : List Nat := [0, 0, 0, 0, 8, 0, 0, 64, 224, 480, 0, 0, 3072, 7168, 16355, 32739, 65535, 131071]
theorem slices_symMergeCmpFunc_impl_Version__impl_Version_compare.tab11 : rtab .any (opsOf Try.f73 11) = slices_symMergeCmpFunc_impl_Version__impl_Version_compare.T11 := by kernel_rfl
theorem slices_symMergeCmpFunc_impl_Version__impl_Version_compare.bits11 : waitsOk slices_symMergeCmpFunc_impl_Version__impl_Version_compare.T11.2 slices_symMergeCmpFunc_impl_Version__impl_Version_compare.B11 = true := by kernel_rfl
def slices_symMergeCmpFunc_impl_Version__impl_Version_compare.T17 : Bool × List (List Nat × List Nat) := (true, [([], []), ([], []), ([], []), ([1, 2], [1, 2]), ([3], [3]), ([], []), ([], []), ([5, 6], [5, 6]), ([7], [7]), ([0, 4, 8], [0, 4, 8]), ([9], [9]), ([10], [10])])
def slices_symMergeCmpFunc_impl_Version__impl_Version_compare.B17 : List Nat := [0, 0, 0, 6, 14, 0, 0, 96, 224, 511, 1023, 2047]
theorem slices_symMergeCmpFunc_impl_Version__impl_Version_compare.tab17 : rtab .any (opsOf Try.f73 17) = slices_symMergeCmpFunc_impl_Version__impl_Version_compare.T17 := by kernel_rfl
theorem slices_symMergeCmpFunc_impl_Version__impl_Version_compare.bits17 : waitsOk slices_symMergeCmpFunc_impl_Version__impl_Version_compare.T17.2 slices_symMergeCmpFunc_impl_Version__impl_Version_compare.B17 = true := by kernel_rfl
def slices_symMergeCmpFunc_impl_Version__impl_Version_compare.T23 : Bool × List (List Nat × List Nat) := (true, [([], []), ([], []), ([], []), ([], []), ([3], [3]), ([], []), ([], []), ([6], [6]), ([5, 7], [5, 7]), ([8], [8]), ([], []), ([], []), ([10, 11], [10, 11]), ([12], [12]), ([0, 1, 0, 1, 5, 6, 7, 8, 9, 13], [0, 1]), ([14, 9, 0, 1, 5, 6, 7, 8, 9, 13], [9, 14]), ([2, 4, 0, 1, 2, 3, 4, 5, 6, 7, 8, 9, 10, 11, 12, 13, 14, 15], [2, 4]), ([16, 13, 15, 0, 1, 2, 3, 4, 5, 6, 7, 8, 9, 10, 11, 12, 13, 14, 15], [13, 16])])
def slices_symMergeCmpFunc_impl_Version__impl_Version_compare.B23 : List Nat := [0, 0, 0, 0, 8, 0, 0, 64, 224, 480, 0, 0, 3072, 7168, 16355, 32739, 65535, 131071]
theorem slices_symMergeCmpFunc_impl_Version__impl_Version_compare.tab23 : rtab .any (opsOf Try.f73 23) = slices_symMergeCmpFunc_impl_Version__impl_Version_compare.T23 := by kernel_rfl
theorem slices_symMergeCmpFunc_impl_Version__impl_Version_compare.bits23 : waitsOk slices_symMergeCmpFunc_impl_Version__impl_Version_compare.T23.2 slices_symMergeCmpFunc_impl_Version__impl_Version_compare.B23 = true := by kernel_rfl
def slices_symMergeCmpFunc_impl_Version__impl_Version_compare.T35 : Bool × List (List Nat × List Nat) := (true, [([], []), ([], []), ([], []), ([], []), ([2, 3], [2, 3]), ([1, 4], [1, 4]), ([5], [5]), ([], []), ([], []), ([7, 8], [7, 8]), ([9], [9]), ([0, 6, 10], [0, 6, 10]), ([11], [11]), ([12], [12])])
def slices_symMergeCmpFunc_impl_Version__impl_Version_compare.B35 : List Nat := [0, 0, 0, 0, 12, 30, 62, 0, 0, 384, 896, 2047, 4095, 8191]
theorem slices_symMergeCmpFunc_impl_Version__impl_Version_compare.tab35 : rtab .any (opsOf Try.f73 35) = slices_symMergeCmpFunc_impl_Version__impl_Version_compare.T35 := by kernel_rfl
theorem slices_symMergeCmpFunc_impl_Version__impl_Version_compare.bits35 : waitsOk slices_symMergeCmpFunc_impl_Version__impl_Version_compare.T35.2 slices_symMergeCmpFunc_impl_Version__impl_Version_compare.B35 = true := by kernel_rfl
set_option maxHeartbeats 40000000 in
set_option maxRecDepth 100000 in
theorem slices_symMergeCmpFunc_impl_Version__impl_Version_compare.calls (k : Nat) : ∀ (P0_ : Nat → Prop) (u9000_ : Value) (l0 : List (S42)) (a1 : Int) (a2 : Int) (a3 : Int)  (r : List (S42)) (w0 w : World) (hB : Below w0.heap.size w0 w) (ho0 : Kd.R k42 42 w w0.heap.size P0_ u9000_ l0) (h : slices_symMergeCmpFunc_impl_Version__impl_Version_compare.f k l0 a1 a2 a3 = some r),
  Calls Try.prog 73 #[u9000_, .int .i64 a1, .int .i64 a2, .int .i64 a3, .func (.func 57) #[] #[]] w fun e w' => e = .returned (.tuple #[]) ∧ Kd.R k42 42 w' w0.heap.size (fun k_ => (P0_ k_ ∨ w.heap.size ≤ k_)) u9000_ r ∧ Below w0.heap.size w0 w' ∧ Kept w w' (fun k_ => P0_ k_) := by
 induction k using Nat.strongRecOn with
 | _ k ih =>
 intro P0_ u9000_ l0 a1 a2 a3 r w0 w hB ho0 h
 cases k with
 | zero => exact absurd h (by simp [slices_symMergeCmpFunc_impl_Version__impl_Version_compare.f])
 | succ k =>
 simp only [slices_symMergeCmpFunc_impl_Version__impl_Version_compare.f] at h
 have hu42 := Try.underlying42
 have HO0 := Aside0.mk (show Kd.R k42 42 w w0.heap.size (fun k_ => (P0_ k_ ∨ w.heap.size ≤ k_)) u9000_ l0 from Kd.R_mono ho0 (fun k_ hk => (.inl hk)))
 have HK := Aside0.mk (Kept.refl w (fun k_ => P0_ k_))
 have HW0 := Aside0.mk hB.size
 have HB := Aside0.mk hB
 clear hB
 have H : (if (wrap64 (a2 - a1)) = 1 then (slices_symMergeCmpFunc_impl_Version__impl_Version_compare.l0 k l0 a1 a2 a3) else (if (wrap64 (a3 - a2)) = 1 then (slices_symMergeCmpFunc_impl_Version__impl_Version_compare.l2 k l0 a2 a1 a2) else (if a2 > (wrap64 ((IntKind.u64.wrap (wrap64 (a1 + a3))) / 2)) then (slices_symMergeCmpFunc_impl_Version__impl_Version_compare.j4 k l0 a1 a2 a3 (wrap64 ((IntKind.u64.wrap (wrap64 (a1 + a3))) / 2)) (wrap64 ((wrap64 ((IntKind.u64.wrap (wrap64 (a1 + a3))) / 2)) + a2)) (wrap64 ((wrap64 ((wrap64 ((IntKind.u64.wrap (wrap64 (a1 + a3))) / 2)) + a2)) - a3)) (wrap64 ((IntKind.u64.wrap (wrap64 (a1 + a3))) / 2))) else (slices_symMergeCmpFunc_impl_Version__impl_Version_compare.j4 k l0 a1 a2 a3 (wrap64 ((IntKind.u64.wrap (wrap64 (a1 + a3))) / 2)) (wrap64 ((wrap64 ((IntKind.u64.wrap (wrap64 (a1 + a3))) / 2)) + a2)) a1 a2)))) = some r := h
 clear h
 by_cases c6 : (wrap64 (a2 - a1)) = 1
 ·rw [if_pos c6] at H
  have c6b0 : ((wrap64 (a2 - a1)) == 1) = true := beq_iff_eq.mpr c6
  have c6b1 : ((wrap64 (a2 - a1)) != 1) = false := bne_eq_false_iff_eq.mpr c6
  clear c6
  have H' := Aside0.mk H
  clear H
  go_enter Try.func73, Try.ntmps73
  go_wp2
  go_loopg [10, 11] k (fun kq v10 v11 w' => ∃ (x10_1 : Int) (x11_1 : Int), v10 = .int .i64 x10_1 ∧ v11 = .int .i64 x11_1 ∧ Aside0 (slices_symMergeCmpFunc_impl_Version__impl_Version_compare.l0 kq l0 a1 x10_1 x11_1 = some r) ∧ Aside0 (kq ≤ k) ∧ Aside0 (Kd.R k42 42 w' w0.heap.size (fun k_ => (P0_ k_ ∨ w.heap.size ≤ k_)) u9000_ l0) ∧ Aside0 (Kept w w' (fun k_ => P0_ k_)) ∧ Aside0 (Below w0.heap.size w0 w'))
  case atStart => exact ⟨(a2), (a3), sq_e, sq_e, H', ⟨Nat.le_refl _⟩, ⟨by (with_reducible repeat (first | apply Kd.R_alloc | apply Kd.R_drewN | apply Kd.R_drew)); exact HO0.out⟩, ⟨sq_k⟩, ⟨sq_b⟩⟩
  case round =>
   clear H'
   (try clear p2); (try clear c6); (try clear c6b0); (try clear c6b1); (try clear p6)
   obtain ⟨x10_1, x11_1, rfl, rfl, HA, HK1, HO_0, HK, HB⟩ := hrel
   cases gk with
   | zero => exact absurd HA.out (by simp [slices_symMergeCmpFunc_impl_Version__impl_Version_compare.l0])
   | succ k1 =>
    have H := HA.out
    clear HA
    simp only [slices_symMergeCmpFunc_impl_Version__impl_Version_compare.l0] at H
    by_cases c7 : x10_1 < x11_1
    ·rw [if_pos c7] at H
     have c7b0 : decide (x10_1 < x11_1) = true := decide_eq_true c7
     clear c7
     obtain ⟨ji8, hji8⟩ : ∃ j_ : Int, (wrap64 ((IntKind.u64.wrap (wrap64 (x10_1 + x11_1))) / 2)) = j_ := ⟨_, rfl⟩
     replace H : (if 0 ≤ (ji8) then (if (ji8) < (l0.length : Int) then (if 0 ≤ a1 then (if a1 < (l0.length : Int) then ((impl_Version_compare.f k1 ((rd_T42 l0 (ji8)).f0) ((rd_T42 l0 (ji8)).f1) ((rd_T42 l0 (ji8)).f2) ((rd_T42 l0 (ji8)).f3) ((rd_T42 l0 a1).f0) ((rd_T42 l0 a1).f1) ((rd_T42 l0 a1).f2) ((rd_T42 l0 a1).f3)).bind fun t272 => (if t272 < 0 then (slices_symMergeCmpFunc_impl_Version__impl_Version_compare.l0 k1 l0 a1 (wrap64 ((ji8) + 1)) x11_1) else (slices_symMergeCmpFunc_impl_Version__impl_Version_compare.l0 k1 l0 a1 x10_1 ji8))) else (none)) else (none)) else (none)) else (none)) = some r := by first | (rw [hji8] at H; exact H) | (simp only [hji8] at H ⊢; exact H)
     have hji8w : (IntKind.i64.wrap ((IntKind.u64.wrap (wrap64 (x10_1 + x11_1))) / 2)) = ji8 := (i64_w _).trans hji8
     by_cases c9 : 0 ≤ (ji8)
     rotate_left
     ·rw [if_neg c9] at H
      exact absurd H (by simp)
     rw [if_pos c9] at H
     have c9b0 : decide (0 ≤ (ji8)) = true := decide_eq_true c9
     clear c9
     by_cases c10 : (ji8) < (l0.length : Int)
     rotate_left
     ·rw [if_neg c10] at H
      exact absurd H (by simp)
     rw [if_pos c10] at H
     have c10b0 : decide ((ji8) < (l0.length : Int)) = true := decide_eq_true c10
     clear c10
     by_cases c11 : 0 ≤ a1
     rotate_left
     ·rw [if_neg c11] at H
      exact absurd H (by simp)
     rw [if_pos c11] at H
     have c11b0 : decide (0 ≤ a1) = true := decide_eq_true c11
     clear c11
     by_cases c12 : a1 < (l0.length : Int)
     rotate_left
     ·rw [if_neg c12] at H
      exact absurd H (by simp)
     rw [if_pos c12] at H
     have c12b0 : decide (a1 < (l0.length : Int)) = true := decide_eq_true c12
     clear c12
     replace H := Option.bind_eq_some_iff.mp H
     obtain ⟨t272, A130, H⟩ := H
     replace H : (if t272 < 0 then (slices_symMergeCmpFunc_impl_Version__impl_Version_compare.l0 k1 l0 a1 (wrap64 ((ji8) + 1)) x11_1) else (slices_symMergeCmpFunc_impl_Version__impl_Version_compare.l0 k1 l0 a1 x10_1 ji8)) = some r := H
     have A13 := Aside0.mk A130
     clear A130
     by_cases c14 : t272 < 0
     ·rw [if_pos c14] at H
      have c14b0 : decide (t272 < 0) = true := decide_eq_true c14
      clear c14
      have H' := Aside0.mk H
      clear H
      try go_wp2
      have n0_ := Aside0.mk (Kd.R_drew HO_0.out)
      have n1_ := Aside0.mk (Kept.drew HK.out)
      have n2_ := Aside0.mk (below_drew1 HB.out)
      clear HO_0
      clear HK
      clear HB
      have HO_0 := n0_
      have HK := n1_
      have HB := n2_
      clear n0_ n1_ n2_
      obtain ⟨Ao16, co16, eo16⟩ := Kd.R_slice HO_0.out
      (first | subst eo16 | (injection eo16 with f1_ f2_ f3_; have f4_ := f1_.symm; have f5_ := f3_.symm; clear f1_ f2_ f3_; subst f4_; subst f5_))
      have p270 : 0 ≤ ((ji8) : Int) := sq_d
      have q270 : (ji8) < (l0.length : Int) := sq_d
      obtain ⟨ad270, e270, hx270_0, hx270_1, hx270_2, hx270_3⟩ := at_T42 (Kd.R_reads' HO_0.out).2.2 (ji8) p270 q270
      cases e270
      replace p270 := eq_true p270
      replace q270 := eq_true q270
      have p271 : 0 ≤ (a1 : Int) := sq_d
      have q271 : a1 < (l0.length : Int) := sq_d
      obtain ⟨ad271, e271, hx271_0, hx271_1, hx271_2, hx271_3⟩ := at_T42 (Kd.R_reads' HO_0.out).2.2 a1 p271 q271
      obtain rfl : ad270 = ad271 := (by injection e271)
      replace p271 := eq_true p271
      replace q271 := eq_true q271
      refine start_ (n := 11) (S := fun w' => w'.cell? (ad270.add (((ji8)).toNat * 4)) = some (.string ((rd_T42 l0 (ji8)).f0)) ∧ w'.cell? ⟨(ad270.add (((ji8)).toNat * 4)).block, (ad270.add (((ji8)).toNat * 4)).off + 1, none⟩ = some (.int .i64 ((rd_T42 l0 (ji8)).f1)) ∧ w'.cell? ⟨(ad270.add (((ji8)).toNat * 4)).block, (ad270.add (((ji8)).toNat * 4)).off + 2, none⟩ = some (.bool ((rd_T42 l0 (ji8)).f2)) ∧ w'.cell? ⟨(ad270.add (((ji8)).toNat * 4)).block, (ad270.add (((ji8)).toNat * 4)).off + 3, none⟩ = some (.string ((rd_T42 l0 (ji8)).f3)) ∧ w'.cell? (ad270.add ((a1).toNat * 4)) = some (.string ((rd_T42 l0 a1).f0)) ∧ w'.cell? ⟨(ad270.add ((a1).toNat * 4)).block, (ad270.add ((a1).toNat * 4)).off + 1, none⟩ = some (.int .i64 ((rd_T42 l0 a1).f1)) ∧ w'.cell? ⟨(ad270.add ((a1).toNat * 4)).block, (ad270.add ((a1).toNat * 4)).off + 2, none⟩ = some (.bool ((rd_T42 l0 a1).f2)) ∧ w'.cell? ⟨(ad270.add ((a1).toNat * 4)).block, (ad270.add ((a1).toNat * 4)).off + 3, none⟩ = some (.string ((rd_T42 l0 a1).f3))) (ds := []) #[false, false, false, false, false, false, false, false, false, false, false] (by kernel_rfl) rfl rfl ⟨hx270_0, hx270_1, hx270_2, hx270_3, hx271_0, hx271_1, hx271_2, hx271_3⟩ (fun hHeld => ?_); refine with_tabW slices_symMergeCmpFunc_impl_Version__impl_Version_compare.tab5 slices_symMergeCmpFunc_impl_Version__impl_Version_compare.bits5 (fun HT_ HW_ => ?_)
      generalize wr.drew = w15 at HO_0 HK HB hx270_0 hx270_1 hx270_2 hx270_3 hx271_0 hx271_1 hx271_2 hx271_3 hHeld ⊢
      refine pu_ 0 (some 40) #[true, false, false, false, false, false, false, false, false, false, false] HT_ ?_
      refine pu_ 1 (some 41) #[true, true, false, false, false, false, false, false, false, false, false] HT_ ?_
      refine pu_ 2 (some 42) #[true, true, true, false, false, false, false, false, false, false, false] HT_ ?_
      refine pu_ 3 (some 43) #[true, true, true, true, false, false, false, false, false, false, false] HT_ ?_
      refine pu_ 5 (some 45) #[true, true, true, true, false, true, false, false, false, false, false] HT_ ?_
      refine pu_ 6 (some 46) #[true, true, true, true, false, true, true, false, false, false, false] HT_ ?_
      refine pu_ 7 (some 47) #[true, true, true, true, false, true, true, true, false, false, false] HT_ ?_
      refine take_ (i := 4) (N := some 44) (v := ?_) (a' := ?_) #[true, true, true, true, true, true, true, true, false, false, false] rfl rfl (take_ofW HT_.out HW_.out (by kernel_rfl)) (fun _ _ _ h => h) (Or.inl ⟨by rfl, ?_⟩) hHeld ?_ ?_
      rotate_left
      ·rintro w' ⟨s0, s1, s2, s3, s4, s5, s6, s7⟩
       go_simp
       with_reducible rfl
      rotate_left
      ·simp only [Act.put, List.setIfInBounds_toArray, List.set_cons_zero, List.set_cons_succ, i64_w, i32_w]
       rfl
      refine take_ (i := 8) (N := some 48) (v := ?_) (a' := ?_) #[true, true, true, true, true, true, true, true, true, false, false] rfl rfl (take_ofW HT_.out HW_.out (by kernel_rfl)) (fun _ _ _ h => h) (Or.inl ⟨by rfl, ?_⟩) hHeld ?_ ?_
      rotate_left
      ·rintro w' ⟨s0, s1, s2, s3, s4, s5, s6, s7⟩
       go_simp
       with_reducible rfl
      rotate_left
      ·simp only [Act.put, List.setIfInBounds_toArray, List.set_cons_zero, List.set_cons_succ, i64_w, i32_w]
       rfl
      refine one_ (i := 9) (N := some 49) #[true, true, true, true, true, true, true, true, true, true, false] rfl rfl (one_of HT_.out (by kernel_rfl)) (by decide) (fun K hK => ?_)
      refine goesV_ Try.func57 (by kernel_rfl) rfl #[.agg #[.string ((rd_T42 l0 (ji8)).f0), .int .i64 ((rd_T42 l0 (ji8)).f1), .bool ((rd_T42 l0 (ji8)).f2), .string ((rd_T42 l0 (ji8)).f3)], .agg #[.string ((rd_T42 l0 a1).f0), .int .i64 ((rd_T42 l0 a1).f1), .bool ((rd_T42 l0 a1).f2), .string ((rd_T42 l0 a1).f3)]] (by rfl) rfl rfl (by rfl) (by (try simp only [List.map_toArray, List.map_cons, List.map_nil]); first | done | (simp only [hji8]; rfl) | rfl | (simp only [List.length_drop, List.length_take]; rfl)) ?_
      with_reducible refine (impl_Version_compare.calls k1 ((rd_T42 l0 (ji8)).f0) ((rd_T42 l0 (ji8)).f1) ((rd_T42 l0 (ji8)).f2) ((rd_T42 l0 (ji8)).f3) ((rd_T42 l0 a1).f0) ((rd_T42 l0 a1).f1) ((rd_T42 l0 a1).f2) ((rd_T42 l0 a1).f3) t272 _ A13.out).mono ?_
      rintro e w17 ⟨rfl, hb⟩
      have HS0_ := (hb.cell (World.block_lt_of_cell? _ _ (hHeld.1))).trans (hHeld.1)
      have HS1_ := (hb.cell (World.block_lt_of_cell? _ _ (hHeld.2.1))).trans (hHeld.2.1)
      have HS2_ := (hb.cell (World.block_lt_of_cell? _ _ (hHeld.2.2.1))).trans (hHeld.2.2.1)
      have HS3_ := (hb.cell (World.block_lt_of_cell? _ _ (hHeld.2.2.2.1))).trans (hHeld.2.2.2.1)
      have HS4_ := (hb.cell (World.block_lt_of_cell? _ _ (hHeld.2.2.2.2.1))).trans (hHeld.2.2.2.2.1)
      have HS5_ := (hb.cell (World.block_lt_of_cell? _ _ (hHeld.2.2.2.2.2.1))).trans (hHeld.2.2.2.2.2.1)
      have HS6_ := (hb.cell (World.block_lt_of_cell? _ _ (hHeld.2.2.2.2.2.2.1))).trans (hHeld.2.2.2.2.2.2.1)
      have HS7_ := (hb.cell (World.block_lt_of_cell? _ _ (hHeld.2.2.2.2.2.2.2))).trans (hHeld.2.2.2.2.2.2.2)
      refine ⟨_, rfl, ?_⟩
      have n0_ := Aside0.mk (Kd.R_below (sq_r HO_0) hb)
      have n1_ := Aside0.mk (Kept.below (S := (fun k_ => P0_ k_)) sq_k hb)
      have n2_ := Aside0.mk (below_step sq_b hb)
      clear HO_0
      clear HK
      clear HB
      have HO_0 := n0_
      have HK := n1_
      have HB := n2_
      clear n0_ n1_ n2_
      (try clear hb)
      (try clear hb2)
      (try clear hk)
      (try clear hi)
      refine hK.out _ _ ⟨HS0_, HS1_, HS2_, HS3_, HS4_, HS5_, HS6_, HS7_⟩ (fun hHeld => ?_)
      clear hK K
      refine norm_ (a' := ?_) ?_ ?_
      rotate_left
      ·show Act.put _ (some 49) _ = _
       simp only [Act.put, List.setIfInBounds_toArray, List.set_cons_zero, List.set_cons_succ, i64_w, i32_w]
       rfl
      refine pu_ 10 (some 50) #[true, true, true, true, true, true, true, true, true, true, true] HT_ ?_
      refine done_ (done_of HT_.out (by kernel_rfl)) ?_
      try go_wp2
      go_roundg k1
      case measure => have := HK1.out; omega
      case rel => exact ⟨(wrap64 ((ji8) + 1)), (x11_1), (by first | rfl | (simp; done) | (simp [ext_bne_nil, ext_beq_nil]; done) | (simp only [← hji8] <;> (first | rfl | simp)) | (simp [*]; done)), sq_e, H', ⟨by have := HK1.out; omega⟩, ⟨by (with_reducible repeat (first | apply Kd.R_alloc | apply Kd.R_drewN | apply Kd.R_drew)); exact HO_0.out⟩, ⟨sq_k⟩, ⟨sq_b⟩⟩
     ·rw [if_neg c14] at H
      have c14b0 : decide (t272 < 0) = false := decide_eq_false c14
      clear c14
      have H' := Aside0.mk H
      clear H
      try go_wp2
      have n0_ := Aside0.mk (Kd.R_drew HO_0.out)
      have n1_ := Aside0.mk (Kept.drew HK.out)
      have n2_ := Aside0.mk (below_drew1 HB.out)
      clear HO_0
      clear HK
      clear HB
      have HO_0 := n0_
      have HK := n1_
      have HB := n2_
      clear n0_ n1_ n2_
      obtain ⟨Ao19, co19, eo19⟩ := Kd.R_slice HO_0.out
      (first | subst eo19 | (injection eo19 with f1_ f2_ f3_; have f4_ := f1_.symm; have f5_ := f3_.symm; clear f1_ f2_ f3_; subst f4_; subst f5_))
      have p270 : 0 ≤ ((ji8) : Int) := sq_d
      have q270 : (ji8) < (l0.length : Int) := sq_d
      obtain ⟨ad270, e270, hx270_0, hx270_1, hx270_2, hx270_3⟩ := at_T42 (Kd.R_reads' HO_0.out).2.2 (ji8) p270 q270
      cases e270
      replace p270 := eq_true p270
      replace q270 := eq_true q270
      have p271 : 0 ≤ (a1 : Int) := sq_d
      have q271 : a1 < (l0.length : Int) := sq_d
      obtain ⟨ad271, e271, hx271_0, hx271_1, hx271_2, hx271_3⟩ := at_T42 (Kd.R_reads' HO_0.out).2.2 a1 p271 q271
      obtain rfl : ad270 = ad271 := (by injection e271)
      replace p271 := eq_true p271
      replace q271 := eq_true q271
      refine start_ (n := 11) (S := fun w' => w'.cell? (ad270.add (((ji8)).toNat * 4)) = some (.string ((rd_T42 l0 (ji8)).f0)) ∧ w'.cell? ⟨(ad270.add (((ji8)).toNat * 4)).block, (ad270.add (((ji8)).toNat * 4)).off + 1, none⟩ = some (.int .i64 ((rd_T42 l0 (ji8)).f1)) ∧ w'.cell? ⟨(ad270.add (((ji8)).toNat * 4)).block, (ad270.add (((ji8)).toNat * 4)).off + 2, none⟩ = some (.bool ((rd_T42 l0 (ji8)).f2)) ∧ w'.cell? ⟨(ad270.add (((ji8)).toNat * 4)).block, (ad270.add (((ji8)).toNat * 4)).off + 3, none⟩ = some (.string ((rd_T42 l0 (ji8)).f3)) ∧ w'.cell? (ad270.add ((a1).toNat * 4)) = some (.string ((rd_T42 l0 a1).f0)) ∧ w'.cell? ⟨(ad270.add ((a1).toNat * 4)).block, (ad270.add ((a1).toNat * 4)).off + 1, none⟩ = some (.int .i64 ((rd_T42 l0 a1).f1)) ∧ w'.cell? ⟨(ad270.add ((a1).toNat * 4)).block, (ad270.add ((a1).toNat * 4)).off + 2, none⟩ = some (.bool ((rd_T42 l0 a1).f2)) ∧ w'.cell? ⟨(ad270.add ((a1).toNat * 4)).block, (ad270.add ((a1).toNat * 4)).off + 3, none⟩ = some (.string ((rd_T42 l0 a1).f3))) (ds := []) #[false, false, false, false, false, false, false, false, false, false, false] (by kernel_rfl) rfl rfl ⟨hx270_0, hx270_1, hx270_2, hx270_3, hx271_0, hx271_1, hx271_2, hx271_3⟩ (fun hHeld => ?_); refine with_tabW slices_symMergeCmpFunc_impl_Version__impl_Version_compare.tab5 slices_symMergeCmpFunc_impl_Version__impl_Version_compare.bits5 (fun HT_ HW_ => ?_)
      generalize wr.drew = w18 at HO_0 HK HB hx270_0 hx270_1 hx270_2 hx270_3 hx271_0 hx271_1 hx271_2 hx271_3 hHeld ⊢
      refine pu_ 0 (some 40) #[true, false, false, false, false, false, false, false, false, false, false] HT_ ?_
      refine pu_ 1 (some 41) #[true, true, false, false, false, false, false, false, false, false, false] HT_ ?_
      refine pu_ 2 (some 42) #[true, true, true, false, false, false, false, false, false, false, false] HT_ ?_
      refine pu_ 3 (some 43) #[true, true, true, true, false, false, false, false, false, false, false] HT_ ?_
      refine pu_ 5 (some 45) #[true, true, true, true, false, true, false, false, false, false, false] HT_ ?_
      refine pu_ 6 (some 46) #[true, true, true, true, false, true, true, false, false, false, false] HT_ ?_
      refine pu_ 7 (some 47) #[true, true, true, true, false, true, true, true, false, false, false] HT_ ?_
      refine take_ (i := 4) (N := some 44) (v := ?_) (a' := ?_) #[true, true, true, true, true, true, true, true, false, false, false] rfl rfl (take_ofW HT_.out HW_.out (by kernel_rfl)) (fun _ _ _ h => h) (Or.inl ⟨by rfl, ?_⟩) hHeld ?_ ?_
      rotate_left
      ·rintro w' ⟨s0, s1, s2, s3, s4, s5, s6, s7⟩
       go_simp
       with_reducible rfl
      rotate_left
      ·simp only [Act.put, List.setIfInBounds_toArray, List.set_cons_zero, List.set_cons_succ, i64_w, i32_w]
       rfl
      refine take_ (i := 8) (N := some 48) (v := ?_) (a' := ?_) #[true, true, true, true, true, true, true, true, true, false, false] rfl rfl (take_ofW HT_.out HW_.out (by kernel_rfl)) (fun _ _ _ h => h) (Or.inl ⟨by rfl, ?_⟩) hHeld ?_ ?_
      rotate_left
      ·rintro w' ⟨s0, s1, s2, s3, s4, s5, s6, s7⟩
       go_simp
       with_reducible rfl
      rotate_left
      ·simp only [Act.put, List.setIfInBounds_toArray, List.set_cons_zero, List.set_cons_succ, i64_w, i32_w]
       rfl
      refine one_ (i := 9) (N := some 49) #[true, true, true, true, true, true, true, true, true, true, false] rfl rfl (one_of HT_.out (by kernel_rfl)) (by decide) (fun K hK => ?_)
      refine goesV_ Try.func57 (by kernel_rfl) rfl #[.agg #[.string ((rd_T42 l0 (ji8)).f0), .int .i64 ((rd_T42 l0 (ji8)).f1), .bool ((rd_T42 l0 (ji8)).f2), .string ((rd_T42 l0 (ji8)).f3)], .agg #[.string ((rd_T42 l0 a1).f0), .int .i64 ((rd_T42 l0 a1).f1), .bool ((rd_T42 l0 a1).f2), .string ((rd_T42 l0 a1).f3)]] (by rfl) rfl rfl (by rfl) (by (try simp only [List.map_toArray, List.map_cons, List.map_nil]); first | done | (simp only [hji8]; rfl) | rfl | (simp only [List.length_drop, List.length_take]; rfl)) ?_
      with_reducible refine (impl_Version_compare.calls k1 ((rd_T42 l0 (ji8)).f0) ((rd_T42 l0 (ji8)).f1) ((rd_T42 l0 (ji8)).f2) ((rd_T42 l0 (ji8)).f3) ((rd_T42 l0 a1).f0) ((rd_T42 l0 a1).f1) ((rd_T42 l0 a1).f2) ((rd_T42 l0 a1).f3) t272 _ A13.out).mono ?_
      rintro e w20 ⟨rfl, hb⟩
      have HS0_ := (hb.cell (World.block_lt_of_cell? _ _ (hHeld.1))).trans (hHeld.1)
      have HS1_ := (hb.cell (World.block_lt_of_cell? _ _ (hHeld.2.1))).trans (hHeld.2.1)
      have HS2_ := (hb.cell (World.block_lt_of_cell? _ _ (hHeld.2.2.1))).trans (hHeld.2.2.1)
      have HS3_ := (hb.cell (World.block_lt_of_cell? _ _ (hHeld.2.2.2.1))).trans (hHeld.2.2.2.1)
      have HS4_ := (hb.cell (World.block_lt_of_cell? _ _ (hHeld.2.2.2.2.1))).trans (hHeld.2.2.2.2.1)
      have HS5_ := (hb.cell (World.block_lt_of_cell? _ _ (hHeld.2.2.2.2.2.1))).trans (hHeld.2.2.2.2.2.1)
      have HS6_ := (hb.cell (World.block_lt_of_cell? _ _ (hHeld.2.2.2.2.2.2.1))).trans (hHeld.2.2.2.2.2.2.1)
      have HS7_ := (hb.cell (World.block_lt_of_cell? _ _ (hHeld.2.2.2.2.2.2.2))).trans (hHeld.2.2.2.2.2.2.2)
      refine ⟨_, rfl, ?_⟩
      have n0_ := Aside0.mk (Kd.R_below (sq_r HO_0) hb)
      have n1_ := Aside0.mk (Kept.below (S := (fun k_ => P0_ k_)) sq_k hb)
      have n2_ := Aside0.mk (below_step sq_b hb)
      clear HO_0
      clear HK
      clear HB
      have HO_0 := n0_
      have HK := n1_
      have HB := n2_
      clear n0_ n1_ n2_
      (try clear hb)
      (try clear hb2)
      (try clear hk)
      (try clear hi)
      refine hK.out _ _ ⟨HS0_, HS1_, HS2_, HS3_, HS4_, HS5_, HS6_, HS7_⟩ (fun hHeld => ?_)
      clear hK K
      refine norm_ (a' := ?_) ?_ ?_
      rotate_left
      ·show Act.put _ (some 49) _ = _
       simp only [Act.put, List.setIfInBounds_toArray, List.set_cons_zero, List.set_cons_succ, i64_w, i32_w]
       rfl
      refine pu_ 10 (some 50) #[true, true, true, true, true, true, true, true, true, true, true] HT_ ?_
      refine done_ (done_of HT_.out (by kernel_rfl)) ?_
      try go_wp2
      go_roundg k1
      case measure => have := HK1.out; omega
      case rel => exact ⟨(x10_1), (ji8), sq_e, (by first | rfl | (simp; done) | (simp [ext_bne_nil, ext_beq_nil]; done) | (simp only [← hji8] <;> (first | rfl | simp)) | (simp [*]; done)), H', ⟨by have := HK1.out; omega⟩, ⟨by (with_reducible repeat (first | apply Kd.R_alloc | apply Kd.R_drewN | apply Kd.R_drew)); exact HO_0.out⟩, ⟨sq_k⟩, ⟨sq_b⟩⟩
    ·rw [if_neg c7] at H
     have c7b0 : decide (x10_1 < x11_1) = false := decide_eq_false c7
     clear c7
     have H' := Aside0.mk H
     clear H
     go_wp2
     go_loopg [13] k1 (fun kq v13 w' => ∃ (x0_2 : List (S42)) (x13_2 : Int), v13 = .int .i64 x13_2 ∧ Aside0 (slices_symMergeCmpFunc_impl_Version__impl_Version_compare.l1 kq x0_2 x10_1 x13_2 = some r) ∧ Aside0 (kq ≤ k1) ∧ Aside0 (Kd.R k42 42 w' w0.heap.size (fun k_ => (P0_ k_ ∨ w.heap.size ≤ k_)) u9000_ x0_2) ∧ Aside0 (Kept w w' (fun k_ => P0_ k_)) ∧ Aside0 (Below w0.heap.size w0 w'))
     case atStart => exact ⟨(l0), (a1), sq_e, H', ⟨Nat.le_refl _⟩, ⟨by (with_reducible repeat (first | apply Kd.R_alloc | apply Kd.R_drewN | apply Kd.R_drew)); exact HO_0.out⟩, ⟨sq_k⟩, ⟨sq_b⟩⟩
     case round =>
      clear H'
      (try clear c1); (try clear p2); (try clear q2); (try clear hx2); (try clear c5); (try clear c6); (try clear c6b0); (try clear c6b1); (try clear p6); (try clear c7); (try clear c7b0); (try clear c9); (try clear c9b0); (try clear c10); (try clear c10b0); (try clear c11); (try clear c11b0); (try clear c12); (try clear c12b0); (try clear c14); (try clear c14b0); (try clear hx270_0); (try clear hx270_1)
      (try clear hx270_2); (try clear hx270_3); (try clear hx271_0); (try clear hx271_1); (try clear hx271_2); (try clear hx271_3); (try clear p2); (try clear p270); (try clear p271); (try clear p6); (try clear q270); (try clear q271)
      obtain ⟨x0_2, x13_2, rfl, HA, HK2, HO_0, HK, HB⟩ := hrel
      cases gk with
      | zero => exact absurd HA.out (by simp [slices_symMergeCmpFunc_impl_Version__impl_Version_compare.l1])
      | succ k2 =>
       have H := HA.out
       clear HA
       simp only [slices_symMergeCmpFunc_impl_Version__impl_Version_compare.l1] at H
       by_cases c21 : x13_2 < (wrap64 (x10_1 - 1))
       ·rw [if_pos c21] at H
        have c21b0 : decide (x13_2 < (wrap64 (x10_1 - 1))) = true := decide_eq_true c21
        clear c21
        obtain ⟨ji22, hji22⟩ : ∃ j_ : Int, (wrap64 (x13_2 + 1)) = j_ := ⟨_, rfl⟩
        replace H : (if 0 ≤ (ji22) then (if (ji22) < (x0_2.length : Int) then (if 0 ≤ x13_2 then (if x13_2 < (x0_2.length : Int) then (slices_symMergeCmpFunc_impl_Version__impl_Version_compare.l1 k2 ((x0_2.set (x13_2 : Int).toNat (⟨(rd_T42 x0_2 (ji22)).f0, (rd_T42 x0_2 (ji22)).f1, (rd_T42 x0_2 (ji22)).f2, (rd_T42 x0_2 (ji22)).f3⟩ : S42)).set ((ji22) : Int).toNat (⟨(rd_T42 x0_2 x13_2).f0, (rd_T42 x0_2 x13_2).f1, (rd_T42 x0_2 x13_2).f2, (rd_T42 x0_2 x13_2).f3⟩ : S42)) x10_1 ji22) else (none)) else (none)) else (none)) else (none)) = some r := by first | (rw [hji22] at H; exact H) | (simp only [hji22] at H ⊢; exact H)
        have hji22w : (IntKind.i64.wrap (x13_2 + 1)) = ji22 := (i64_w _).trans hji22
        by_cases c23 : 0 ≤ (ji22)
        rotate_left
        ·rw [if_neg c23] at H
         exact absurd H (by simp)
        rw [if_pos c23] at H
        have c23b0 : decide (0 ≤ (ji22)) = true := decide_eq_true c23
        clear c23
        by_cases c24 : (ji22) < (x0_2.length : Int)
        rotate_left
        ·rw [if_neg c24] at H
         exact absurd H (by simp)
        rw [if_pos c24] at H
        have c24b0 : decide ((ji22) < (x0_2.length : Int)) = true := decide_eq_true c24
        clear c24
        by_cases c25 : 0 ≤ x13_2
        rotate_left
        ·rw [if_neg c25] at H
         exact absurd H (by simp)
        rw [if_pos c25] at H
        have c25b0 : decide (0 ≤ x13_2) = true := decide_eq_true c25
        clear c25
        by_cases c26 : x13_2 < (x0_2.length : Int)
        rotate_left
        ·rw [if_neg c26] at H
         exact absurd H (by simp)
        rw [if_pos c26] at H
        have c26b0 : decide (x13_2 < (x0_2.length : Int)) = true := decide_eq_true c26
        clear c26
        obtain ⟨y275, hy275⟩ : ∃ y_ : List (S42), y_ = (x0_2.set (x13_2 : Int).toNat (⟨(rd_T42 x0_2 (ji22)).f0, (rd_T42 x0_2 (ji22)).f1, (rd_T42 x0_2 (ji22)).f2, (rd_T42 x0_2 (ji22)).f3⟩ : S42)) := ⟨_, rfl⟩
        replace H : (slices_symMergeCmpFunc_impl_Version__impl_Version_compare.l1 k2 (y275.set ((ji22) : Int).toNat (⟨(rd_T42 x0_2 x13_2).f0, (rd_T42 x0_2 x13_2).f1, (rd_T42 x0_2 x13_2).f2, (rd_T42 x0_2 x13_2).f3⟩ : S42)) x10_1 ji22) = some r := by first | (rw [hy275]; with_reducible exact H) | (have H2_ := (Option.bind_some _ _).symm.trans H; rw [hy275]; with_reducible exact H2_) | (have H2_ := (Option.bind_some _ _).symm.trans H; with_reducible exact H2_) | with_reducible exact H | (rw [hy275]; exact H) | exact H
        have Ny275 := Aside0.mk hy275
        clear hy275
        obtain ⟨y276, hy276⟩ : ∃ y_ : List (S42), y_ = (y275.set ((ji22) : Int).toNat (⟨(rd_T42 x0_2 x13_2).f0, (rd_T42 x0_2 x13_2).f1, (rd_T42 x0_2 x13_2).f2, (rd_T42 x0_2 x13_2).f3⟩ : S42)) := ⟨_, rfl⟩
        replace H : (slices_symMergeCmpFunc_impl_Version__impl_Version_compare.l1 k2 y276 x10_1 ji22) = some r := by first | (rw [hy276]; with_reducible exact H) | (have H2_ := (Option.bind_some _ _).symm.trans H; rw [hy276]; with_reducible exact H2_) | (have H2_ := (Option.bind_some _ _).symm.trans H; with_reducible exact H2_) | with_reducible exact H | (rw [hy276]; exact H) | exact H
        have Ny276 := Aside0.mk hy276
        clear hy276
        have H' := Aside0.mk H
        clear H
        try go_wp2
        have n0_ := Aside0.mk (Kd.R_drew HO_0.out)
        have n1_ := Aside0.mk (Kept.drew HK.out)
        have n2_ := Aside0.mk (below_drew1 HB.out)
        clear HO_0
        clear HK
        clear HB
        have HO_0 := n0_
        have HK := n1_
        have HB := n2_
        clear n0_ n1_ n2_
        obtain ⟨Ao30, co30, eo30⟩ := Kd.R_slice HO_0.out
        (first | subst eo30 | (injection eo30 with f1_ f2_ f3_; have f4_ := f1_.symm; have f5_ := f3_.symm; clear f1_ f2_ f3_; subst f4_; subst f5_))
        have p273 : 0 ≤ ((ji22) : Int) := sq_d
        have q273 : (ji22) < (x0_2.length : Int) := sq_d
        obtain ⟨ad273, e273, hx273_0, hx273_1, hx273_2, hx273_3⟩ := at_T42 (Kd.R_reads' HO_0.out).2.2 (ji22) p273 q273
        cases e273
        replace p273 := eq_true p273
        replace q273 := eq_true q273
        have p274 : 0 ≤ (x13_2 : Int) := sq_d
        have q274 : x13_2 < (x0_2.length : Int) := sq_d
        obtain ⟨ad274, e274, hx274_0, hx274_1, hx274_2, hx274_3⟩ := at_T42 (Kd.R_reads' HO_0.out).2.2 x13_2 p274 q274
        obtain rfl : ad273 = ad274 := (by injection e274)
        replace p274 := eq_true p274
        replace q274 := eq_true q274
        have p27 : 0 ≤ (x13_2 : Int) := sq_d
        have q27 : (x13_2 : Int) < ((x0_2.length : Int) : Int) := sq_d
        obtain ⟨go27, co27, eo27, gb27, gl27, cl27, HG27⟩ := Kd.R_form HO_0.out (by omega)
        (first | cases eo27 | (injection eo27 with ea_ en_ ec_; (first | subst ea_ | (injection ea_ with ea_; subst ea_)); subst ec_; clear en_))
        have GB27 := Aside0.mk gb27
        have GG27 := Aside0.mk HG27
        clear gb27 gl27 HG27
        have HMgo27 := Aside0.mk (show (P0_ go27 ∨ w.heap.size ≤ go27) from (HO_0.out.1 _ rfl))
        (first | simp only [add_plain] at hx273_0 | skip)
        (first | simp only [add_plain] at hx273_1 | skip)
        (first | simp only [add_plain] at hx273_2 | skip)
        (first | simp only [add_plain] at hx273_3 | skip)
        (first | simp only [add_plain] at hx274_0 | skip)
        (first | simp only [add_plain] at hx274_1 | skip)
        (first | simp only [add_plain] at hx274_2 | skip)
        (first | simp only [add_plain] at hx274_3 | skip)
        obtain ⟨ce27, hcl27, hM27, hcc27, hfr27⟩ := Kd.R_elem HO_0.out z42 (x13_2 : Int) p27 q27
        obtain rfl := k42_openM hM27
        have hx27_0 : World.cell? _ ⟨go27, (x13_2 : Int).toNat * 4, none⟩ = some (.string ((rd_T42 x0_2 x13_2).f0)) := hcc27 0 _ rfl
        have hx27_1 : World.cell? _ ⟨go27, (x13_2 : Int).toNat * 4 + 1, none⟩ = some (.int .i64 ((rd_T42 x0_2 x13_2).f1)) := hcc27 1 _ rfl
        have hx27_2 : World.cell? _ ⟨go27, (x13_2 : Int).toNat * 4 + 2, none⟩ = some (.bool ((rd_T42 x0_2 x13_2).f2)) := hcc27 2 _ rfl
        have hx27_3 : World.cell? _ ⟨go27, (x13_2 : Int).toNat * 4 + 3, none⟩ = some (.string ((rd_T42 x0_2 x13_2).f3)) := hcc27 3 _ rfl
        have hf27_0 : World.frozen? _ ⟨go27, (x13_2 : Int).toNat * 4, none⟩ = false := hfr27 0
        have hf27_1 : World.frozen? _ ⟨go27, (x13_2 : Int).toNat * 4 + 1, none⟩ = false := hfr27 1
        have hf27_2 : World.frozen? _ ⟨go27, (x13_2 : Int).toNat * 4 + 2, none⟩ = false := hfr27 2
        have hf27_3 : World.frozen? _ ⟨go27, (x13_2 : Int).toNat * 4 + 3, none⟩ = false := hfr27 3
        clear hcl27 hcc27 hfr27 hM27
        replace p27 := eq_true p27
        replace q27 := eq_true q27
        obtain ⟨ce31, hcl31, hM31, hcc31, hfr31⟩ := Kd.R_elem HO_0.out z42 (x13_2 : Int) (sq_d) (by have h_ : (x13_2 : Int) < ((x0_2.length : Int) : Int) := sq_d; first | exact h_ | (have e_ := (Kd.R_reads' HO_0.out).1; omega) | simpa using h_)
        obtain rfl := k42_openM hM31
        have HP31 := (Kd.R_seg HO_0.out (x13_2 : Int) (sq_d) (by have h_ : (x13_2 : Int) < ((x0_2.length : Int) : Int) := sq_d; first | exact h_ | (have e_ := (Kd.R_reads' HO_0.out).1; omega) | simpa using h_) (seg := [.string ((rd_T42 x0_2 (ji22)).f0), .int .i64 ((rd_T42 x0_2 (ji22)).f1), .bool ((rd_T42 x0_2 (ji22)).f2), .string ((rd_T42 x0_2 (ji22)).f3)]) (j := 0) hcl31 hcc31 (show 4 ≤ 4 from by decide) (x' := (⟨(rd_T42 x0_2 (ji22)).f0, (rd_T42 x0_2 (ji22)).f1, (rd_T42 x0_2 (ji22)).f2, (rd_T42 x0_2 (ji22)).f3⟩ : S42)) (k42_mkM _ _ _ (⟨(rd_T42 x0_2 (ji22)).f0, (rd_T42 x0_2 (ji22)).f1, (rd_T42 x0_2 (ji22)).f2, (rd_T42 x0_2 (ji22)).f3⟩ : S42) ) (fun _ hk => hk)).1
        rw [← Ny275.out] at HP31
        have HQ31 := Aside0.mk HP31
        clear hcl31 hcc31 hfr31 hM31 HP31
        have p28 : 0 ≤ ((ji22) : Int) := sq_d
        have q28 : ((ji22) : Int) < ((x0_2.length : Int) : Int) := sq_d
        obtain ⟨ce28, hcl28, hM28, hcc28, hfr28⟩ := Kd.R_elem HQ31.out z42 ((ji22) : Int) p28 q28
        obtain rfl := k42_openM hM28
        have hx28_0 : World.cell? _ ⟨go27, ((ji22) : Int).toNat * 4, none⟩ = some (.string ((rd_T42 y275 (ji22)).f0)) := hcc28 0 _ rfl
        have hx28_1 : World.cell? _ ⟨go27, ((ji22) : Int).toNat * 4 + 1, none⟩ = some (.int .i64 ((rd_T42 y275 (ji22)).f1)) := hcc28 1 _ rfl
        have hx28_2 : World.cell? _ ⟨go27, ((ji22) : Int).toNat * 4 + 2, none⟩ = some (.bool ((rd_T42 y275 (ji22)).f2)) := hcc28 2 _ rfl
        have hx28_3 : World.cell? _ ⟨go27, ((ji22) : Int).toNat * 4 + 3, none⟩ = some (.string ((rd_T42 y275 (ji22)).f3)) := hcc28 3 _ rfl
        have hf28_0 : World.frozen? _ ⟨go27, ((ji22) : Int).toNat * 4, none⟩ = false := hfr28 0
        have hf28_1 : World.frozen? _ ⟨go27, ((ji22) : Int).toNat * 4 + 1, none⟩ = false := hfr28 1
        have hf28_2 : World.frozen? _ ⟨go27, ((ji22) : Int).toNat * 4 + 2, none⟩ = false := hfr28 2
        have hf28_3 : World.frozen? _ ⟨go27, ((ji22) : Int).toNat * 4 + 3, none⟩ = false := hfr28 3
        clear hcl28 hcc28 hfr28 hM28
        replace p28 := eq_true p28
        replace q28 := eq_true q28
        obtain ⟨ce32, hcl32, hM32, hcc32, hfr32⟩ := Kd.R_elem HQ31.out z42 ((ji22) : Int) (sq_d) (by have h_ : ((ji22) : Int) < ((x0_2.length : Int) : Int) := sq_d; first | exact h_ | (have e_ := (Kd.R_reads' HO_0.out).1; omega) | simpa using h_)
        obtain rfl := k42_openM hM32
        have HP32 := (Kd.R_seg HQ31.out ((ji22) : Int) (sq_d) (by have h_ : ((ji22) : Int) < ((x0_2.length : Int) : Int) := sq_d; first | exact h_ | (have e_ := (Kd.R_reads' HO_0.out).1; omega) | simpa using h_) (seg := [.string ((rd_T42 x0_2 x13_2).f0), .int .i64 ((rd_T42 x0_2 x13_2).f1), .bool ((rd_T42 x0_2 x13_2).f2), .string ((rd_T42 x0_2 x13_2).f3)]) (j := 0) hcl32 hcc32 (show 4 ≤ 4 from by decide) (x' := (⟨(rd_T42 x0_2 x13_2).f0, (rd_T42 x0_2 x13_2).f1, (rd_T42 x0_2 x13_2).f2, (rd_T42 x0_2 x13_2).f3⟩ : S42)) (k42_mkM _ _ _ (⟨(rd_T42 x0_2 x13_2).f0, (rd_T42 x0_2 x13_2).f1, (rd_T42 x0_2 x13_2).f2, (rd_T42 x0_2 x13_2).f3⟩ : S42) ) (fun _ hk => hk)).1
        rw [← Ny276.out] at HP32
        have HQ32 := Aside0.mk HP32
        clear hcl32 hcc32 hfr32 hM32 HP32
        refine start_ (n := 18) (S := fun w' => w'.cell? ⟨go27, (((ji22)).toNat * 4), none⟩ = some (.string ((rd_T42 x0_2 (ji22)).f0)) ∧ w'.cell? ⟨go27, (((ji22)).toNat * 4) + 1, none⟩ = some (.int .i64 ((rd_T42 x0_2 (ji22)).f1)) ∧ w'.cell? ⟨go27, (((ji22)).toNat * 4) + 2, none⟩ = some (.bool ((rd_T42 x0_2 (ji22)).f2)) ∧ w'.cell? ⟨go27, (((ji22)).toNat * 4) + 3, none⟩ = some (.string ((rd_T42 x0_2 (ji22)).f3)) ∧ w'.cell? ⟨go27, ((x13_2).toNat * 4), none⟩ = some (.string ((rd_T42 x0_2 x13_2).f0)) ∧ w'.cell? ⟨go27, ((x13_2).toNat * 4) + 1, none⟩ = some (.int .i64 ((rd_T42 x0_2 x13_2).f1)) ∧ w'.cell? ⟨go27, ((x13_2).toNat * 4) + 2, none⟩ = some (.bool ((rd_T42 x0_2 x13_2).f2)) ∧ w'.cell? ⟨go27, ((x13_2).toNat * 4) + 3, none⟩ = some (.string ((rd_T42 x0_2 x13_2).f3))) (ds := [15, 17]) #[false, false, false, false, false, false, false, false, false, false, false, false, false, false, false, false, false, false] (by kernel_rfl) rfl rfl ⟨hx273_0, hx273_1, hx273_2, hx273_3, hx274_0, hx274_1, hx274_2, hx274_3⟩ (fun hHeld => ?_); refine with_tabW slices_symMergeCmpFunc_impl_Version__impl_Version_compare.tab11 slices_symMergeCmpFunc_impl_Version__impl_Version_compare.bits11 (fun HT_ HW_ => ?_)
        generalize wr.drew = w29 at HO_0 HK HB GG27 HQ31 HQ32 hf27_0 hf27_1 hf27_2 hf27_3 hf28_0 hf28_1 hf28_2 hf28_3 hx273_0 hx273_1 hx273_2 hx273_3 hx274_0 hx274_1 hx274_2 hx274_3 hx27_0 hx27_1 hx27_2 hx27_3 hx28_0 hx28_1 hx28_2 hx28_3 hHeld ⊢
        (try (have hzf27_0 := hf27_0; simp [go_sem, World.setCells, show k42.sz = 4 from rfl] at hzf27_0))
        (try (have hzf27_1 := hf27_1; simp [go_sem, World.setCells, show k42.sz = 4 from rfl] at hzf27_1))
        (try (have hzf27_2 := hf27_2; simp [go_sem, World.setCells, show k42.sz = 4 from rfl] at hzf27_2))
        (try (have hzf27_3 := hf27_3; simp [go_sem, World.setCells, show k42.sz = 4 from rfl] at hzf27_3))
        (try (have hzf28_0 := hf28_0; simp [go_sem, World.setCells, show k42.sz = 4 from rfl] at hzf28_0))
        (try (have hzf28_1 := hf28_1; simp [go_sem, World.setCells, show k42.sz = 4 from rfl] at hzf28_1))
        (try (have hzf28_2 := hf28_2; simp [go_sem, World.setCells, show k42.sz = 4 from rfl] at hzf28_2))
        (try (have hzf28_3 := hf28_3; simp [go_sem, World.setCells, show k42.sz = 4 from rfl] at hzf28_3))
        (try (have hzx27_0 := hx27_0; simp [go_sem, World.setCells, show k42.sz = 4 from rfl] at hzx27_0))
        (try (have hzx27_1 := hx27_1; simp [go_sem, World.setCells, show k42.sz = 4 from rfl] at hzx27_1))
        (try (have hzx27_2 := hx27_2; simp [go_sem, World.setCells, show k42.sz = 4 from rfl] at hzx27_2))
        (try (have hzx27_3 := hx27_3; simp [go_sem, World.setCells, show k42.sz = 4 from rfl] at hzx27_3))
        (try (have hzx28_0 := hx28_0; simp [go_sem, World.setCells, show k42.sz = 4 from rfl] at hzx28_0))
        (try (have hzx28_1 := hx28_1; simp [go_sem, World.setCells, show k42.sz = 4 from rfl] at hzx28_1))
        (try (have hzx28_2 := hx28_2; simp [go_sem, World.setCells, show k42.sz = 4 from rfl] at hzx28_2))
        (try (have hzx28_3 := hx28_3; simp [go_sem, World.setCells, show k42.sz = 4 from rfl] at hzx28_3))
        refine pu_ 0 (some 61) #[true, false, false, false, false, false, false, false, false, false, false, false, false, false, false, false, false, false] HT_ ?_
        refine pu_ 1 (some 62) #[true, true, false, false, false, false, false, false, false, false, false, false, false, false, false, false, false, false] HT_ ?_
        refine pu_ 2 (some 63) #[true, true, true, false, false, false, false, false, false, false, false, false, false, false, false, false, false, false] HT_ ?_
        refine pu_ 3 (some 64) #[true, true, true, true, false, false, false, false, false, false, false, false, false, false, false, false, false, false] HT_ ?_
        refine pu_ 4 (some 65) #[true, true, true, true, true, false, false, false, false, false, false, false, false, false, false, false, false, false] HT_ ?_
        refine pu_ 5 (some 66) #[true, true, true, true, true, true, false, false, false, false, false, false, false, false, false, false, false, false] HT_ ?_
        refine pu_ 6 (some 67) #[true, true, true, true, true, true, true, false, false, false, false, false, false, false, false, false, false, false] HT_ ?_
        refine pu_ 7 (some 68) #[true, true, true, true, true, true, true, true, false, false, false, false, false, false, false, false, false, false] HT_ ?_
        refine pu_ 8 (some 69) #[true, true, true, true, true, true, true, true, true, false, false, false, false, false, false, false, false, false] HT_ ?_
        refine pu_ 10 (some 71) #[true, true, true, true, true, true, true, true, true, false, true, false, false, false, false, false, false, false] HT_ ?_
        refine pu_ 11 (some 72) #[true, true, true, true, true, true, true, true, true, false, true, true, false, false, false, false, false, false] HT_ ?_
        refine pu_ 12 (some 73) #[true, true, true, true, true, true, true, true, true, false, true, true, true, false, false, false, false, false] HT_ ?_
        refine take_ (i := 9) (N := some 70) (v := ?_) (a' := ?_) #[true, true, true, true, true, true, true, true, true, true, true, true, true, false, false, false, false, false] rfl rfl (take_ofW HT_.out HW_.out (by kernel_rfl)) (fun _ _ _ h => h) (Or.inl ⟨by rfl, ?_⟩) hHeld ?_ ?_
        rotate_left
        ·rintro w' ⟨s0, s1, s2, s3, s4, s5, s6, s7⟩
         go_simp
         with_reducible rfl
        rotate_left
        ·simp only [Act.put, List.setIfInBounds_toArray, List.set_cons_zero, List.set_cons_succ, i64_w, i32_w]
         rfl
        refine take_ (i := 13) (N := some 74) (v := ?_) (a' := ?_) #[true, true, true, true, true, true, true, true, true, true, true, true, true, true, false, false, false, false] rfl rfl (take_ofW HT_.out HW_.out (by kernel_rfl)) (fun _ _ _ h => h) (Or.inl ⟨by rfl, ?_⟩) hHeld ?_ ?_
        rotate_left
        ·rintro w' ⟨s0, s1, s2, s3, s4, s5, s6, s7⟩
         go_simp
         with_reducible rfl
        rotate_left
        ·simp only [Act.put, List.setIfInBounds_toArray, List.set_cons_zero, List.set_cons_succ, i64_w, i32_w]
         rfl
        refine pu_ 14 (some 75) #[true, true, true, true, true, true, true, true, true, true, true, true, true, true, true, false, false, false] HT_ ?_
        refine last_ (i := 15) (N := none) #[true, true, true, true, true, true, true, true, true, true, true, true, true, true, true, true, false, false] rfl rfl (one_of HT_.out (by kernel_rfl)) (by decide) (fun K hK => ?_)
        refine skip_ (w1 := ?_) (by rfl) rfl ?_ ?_
        rotate_left
        ·go_simp
         rfl
        refine hK.out _ _ ?_
        clear hK K
        refine pu_ 16 (some 76) #[true, true, true, true, true, true, true, true, true, true, true, true, true, true, true, true, true, false] HT_ ?_
        refine last_ (i := 17) (N := none) #[true, true, true, true, true, true, true, true, true, true, true, true, true, true, true, true, true, true] rfl rfl (one_of HT_.out (by kernel_rfl)) (by decide) (fun K hK => ?_)
        refine skip_ (w1 := ?_) (by rfl) rfl ?_ ?_
        rotate_left
        ·go_simp
         rfl
        refine hK.out _ _ ?_
        clear hK K
        refine done_ (done_of HT_.out (by kernel_rfl)) ?_
        try go_wp2
        go_roundg k2
        case measure => have := HK1.out; have := HK2.out; omega
        case rel => exact ⟨(y276), (ji22), (by first | rfl | (simp; done) | (simp [ext_bne_nil, ext_beq_nil]; done) | (simp only [← hji22] <;> (first | rfl | simp)) | (simp [*]; done)), H', ⟨by have := HK1.out; have := HK2.out; omega⟩, ⟨by (with_reducible repeat (first | apply Kd.R_alloc | apply Kd.R_drewN | apply Kd.R_drew)); exact HQ32.out⟩, ⟨by repeat (first | (with_reducible first | exact HK.out | apply Kept.alloc | apply Kept.drewN | apply Kept.drew | refine Kept.setCell ?_ HMgo27.out _ | refine Kept.setCell ?_ HMgo27.out _ | refine Kept.setCell ?_ HMgo27.out _ | refine Kept.setCell ?_ HMgo27.out _ | refine Kept.setCell ?_ HMgo27.out _ | refine Kept.setCell ?_ HMgo27.out _ | refine Kept.setCell ?_ HMgo27.out _ | refine Kept.setCell ?_ HMgo27.out _) | exact HK.out)⟩, ⟨by repeat (first | (with_reducible first | exact HB.out | apply below_alloc | apply pw_below_drewN | apply below_drew1 | refine below_set ?_ GB27.out | refine below_set ?_ GB27.out | refine below_set ?_ GB27.out | refine below_set ?_ GB27.out | refine below_set ?_ GB27.out | refine below_set ?_ GB27.out | refine below_set ?_ GB27.out | refine below_set ?_ GB27.out) | exact HB.out)⟩⟩
       ·rw [if_neg c21] at H
        have c21b0 : decide (x13_2 < (wrap64 (x10_1 - 1))) = false := decide_eq_false c21
        clear c21
        obtain rfl := Option.some.inj H
        go_wp2
        first | go_end0 | ((try simp only [Exit.inBlock, Exit.then]); refine bodyPost_ret (results_none rfl _ _ _) rfl ?_)
        exact ⟨sq_w, sq_r HO_0, sq_b, sq_k⟩
 ·rw [if_neg c6] at H
  have c6b0 : ((wrap64 (a2 - a1)) == 1) = false := beq_eq_false_iff_ne.mpr c6
  have c6b1 : ((wrap64 (a2 - a1)) != 1) = true := bne_iff_ne.mpr c6
  by_cases c33 : (wrap64 (a3 - a2)) = 1
  ·rw [if_pos c33] at H
   have c33b0 : ((wrap64 (a3 - a2)) == 1) = true := beq_iff_eq.mpr c33
   have c33b1 : ((wrap64 (a3 - a2)) != 1) = false := bne_eq_false_iff_eq.mpr c33
   clear c33
   have H' := Aside0.mk H
   clear H
   go_enter Try.func73, Try.ntmps73
   go_wp2
   go_loopg [14, 15] k (fun kq v14 v15 w' => ∃ (x14_1 : Int) (x15_1 : Int), v14 = .int .i64 x14_1 ∧ v15 = .int .i64 x15_1 ∧ Aside0 (slices_symMergeCmpFunc_impl_Version__impl_Version_compare.l2 kq l0 a2 x14_1 x15_1 = some r) ∧ Aside0 (kq ≤ k) ∧ Aside0 (Kd.R k42 42 w' w0.heap.size (fun k_ => (P0_ k_ ∨ w.heap.size ≤ k_)) u9000_ l0) ∧ Aside0 (Kept w w' (fun k_ => P0_ k_)) ∧ Aside0 (Below w0.heap.size w0 w'))
   case atStart => exact ⟨(a1), (a2), sq_e, sq_e, H', ⟨Nat.le_refl _⟩, ⟨by (with_reducible repeat (first | apply Kd.R_alloc | apply Kd.R_drewN | apply Kd.R_drew)); exact HO0.out⟩, ⟨sq_k⟩, ⟨sq_b⟩⟩
   case round =>
    clear H'
    (try clear c1); (try clear c2); (try clear p2); (try clear q2); (try clear hx2); (try clear c3); (try clear c5); (try clear c6); (try clear c6b0); (try clear c6b1); (try clear p6); (try clear c7); (try clear c7b0); (try clear c9); (try clear c9b0); (try clear c10); (try clear c10b0); (try clear c11); (try clear c11b0); (try clear c12); (try clear c12b0); (try clear c14); (try clear c14b0); (try clear c21)
    (try clear c21b0); (try clear c23); (try clear c23b0); (try clear c24); (try clear c24b0); (try clear c25); (try clear c25b0); (try clear c26); (try clear c26b0); (try clear c27); (try clear p27); (try clear q27); (try clear hx27); (try clear hf27); (try clear c28); (try clear p28); (try clear q28); (try clear hx28); (try clear hf28); (try clear c31); (try clear c32); (try clear c33); (try clear c33b0)
    (try clear c33b1); (try clear hx270_0); (try clear hx270_1); (try clear hx270_2); (try clear hx270_3); (try clear hx271_0); (try clear hx271_1); (try clear hx271_2); (try clear hx271_3); (try clear hx273_0); (try clear hx273_1); (try clear hx273_2); (try clear hx273_3); (try clear hx274_0); (try clear hx274_1); (try clear hx274_2); (try clear hx274_3); (try clear hx27_0); (try clear hx27_1); (try clear hx27_2)
    (try clear hx27_3); (try clear hx28_0); (try clear hx28_1); (try clear hx28_2); (try clear hx28_3); (try clear p2); (try clear p27); (try clear p270); (try clear p271); (try clear p273); (try clear p274); (try clear p28); (try clear p6); (try clear q2); (try clear q27); (try clear q270); (try clear q271); (try clear q273); (try clear q274); (try clear q28)
    obtain ⟨x14_1, x15_1, rfl, rfl, HA, HK1, HO_0, HK, HB⟩ := hrel
    cases gk with
    | zero => exact absurd HA.out (by simp [slices_symMergeCmpFunc_impl_Version__impl_Version_compare.l2])
    | succ k1 =>
     have H := HA.out
     clear HA
     simp only [slices_symMergeCmpFunc_impl_Version__impl_Version_compare.l2] at H
     by_cases c34 : x14_1 < x15_1
     ·rw [if_pos c34] at H
      have c34b0 : decide (x14_1 < x15_1) = true := decide_eq_true c34
      clear c34
      obtain ⟨ji35, hji35⟩ : ∃ j_ : Int, (wrap64 ((IntKind.u64.wrap (wrap64 (x14_1 + x15_1))) / 2)) = j_ := ⟨_, rfl⟩
      replace H : (if 0 ≤ a2 then (if a2 < (l0.length : Int) then (if 0 ≤ (ji35) then (if (ji35) < (l0.length : Int) then ((impl_Version_compare.f k1 ((rd_T42 l0 a2).f0) ((rd_T42 l0 a2).f1) ((rd_T42 l0 a2).f2) ((rd_T42 l0 a2).f3) ((rd_T42 l0 (ji35)).f0) ((rd_T42 l0 (ji35)).f1) ((rd_T42 l0 (ji35)).f2) ((rd_T42 l0 (ji35)).f3)).bind fun t279 => (if t279 < 0 then (slices_symMergeCmpFunc_impl_Version__impl_Version_compare.l2 k1 l0 a2 x14_1 ji35) else (slices_symMergeCmpFunc_impl_Version__impl_Version_compare.l2 k1 l0 a2 (wrap64 ((ji35) + 1)) x15_1))) else (none)) else (none)) else (none)) else (none)) = some r := by first | (rw [hji35] at H; exact H) | (simp only [hji35] at H ⊢; exact H)
      have hji35w : (IntKind.i64.wrap ((IntKind.u64.wrap (wrap64 (x14_1 + x15_1))) / 2)) = ji35 := (i64_w _).trans hji35
      by_cases c36 : 0 ≤ a2
      rotate_left
      ·rw [if_neg c36] at H
       exact absurd H (by simp)
      rw [if_pos c36] at H
      have c36b0 : decide (0 ≤ a2) = true := decide_eq_true c36
      clear c36
      by_cases c37 : a2 < (l0.length : Int)
      rotate_left
      ·rw [if_neg c37] at H
       exact absurd H (by simp)
      rw [if_pos c37] at H
      have c37b0 : decide (a2 < (l0.length : Int)) = true := decide_eq_true c37
      clear c37
      by_cases c38 : 0 ≤ (ji35)
      rotate_left
      ·rw [if_neg c38] at H
       exact absurd H (by simp)
      rw [if_pos c38] at H
      have c38b0 : decide (0 ≤ (ji35)) = true := decide_eq_true c38
      clear c38
      by_cases c39 : (ji35) < (l0.length : Int)
      rotate_left
      ·rw [if_neg c39] at H
       exact absurd H (by simp)
      rw [if_pos c39] at H
      have c39b0 : decide ((ji35) < (l0.length : Int)) = true := decide_eq_true c39
      clear c39
      replace H := Option.bind_eq_some_iff.mp H
      obtain ⟨t279, A400, H⟩ := H
      replace H : (if t279 < 0 then (slices_symMergeCmpFunc_impl_Version__impl_Version_compare.l2 k1 l0 a2 x14_1 ji35) else (slices_symMergeCmpFunc_impl_Version__impl_Version_compare.l2 k1 l0 a2 (wrap64 ((ji35) + 1)) x15_1)) = some r := H
      have A40 := Aside0.mk A400
      clear A400
      by_cases c41 : t279 < 0
      ·rw [if_pos c41] at H
       have c41b0 : decide (t279 < 0) = true := decide_eq_true c41
       clear c41
       have H' := Aside0.mk H
       clear H
       try go_wp2
       have n0_ := Aside0.mk (Kd.R_drew HO_0.out)
       have n1_ := Aside0.mk (Kept.drew HK.out)
       have n2_ := Aside0.mk (below_drew1 HB.out)
       clear HO_0
       clear HK
       clear HB
       have HO_0 := n0_
       have HK := n1_
       have HB := n2_
       clear n0_ n1_ n2_
       obtain ⟨Ao43, co43, eo43⟩ := Kd.R_slice HO_0.out
       (first | subst eo43 | (injection eo43 with f1_ f2_ f3_; have f4_ := f1_.symm; have f5_ := f3_.symm; clear f1_ f2_ f3_; subst f4_; subst f5_))
       have p277 : 0 ≤ (a2 : Int) := sq_d
       have q277 : a2 < (l0.length : Int) := sq_d
       obtain ⟨ad277, e277, hx277_0, hx277_1, hx277_2, hx277_3⟩ := at_T42 (Kd.R_reads' HO_0.out).2.2 a2 p277 q277
       cases e277
       replace p277 := eq_true p277
       replace q277 := eq_true q277
       have p278 : 0 ≤ ((ji35) : Int) := sq_d
       have q278 : (ji35) < (l0.length : Int) := sq_d
       obtain ⟨ad278, e278, hx278_0, hx278_1, hx278_2, hx278_3⟩ := at_T42 (Kd.R_reads' HO_0.out).2.2 (ji35) p278 q278
       obtain rfl : ad277 = ad278 := (by injection e278)
       replace p278 := eq_true p278
       replace q278 := eq_true q278
       refine start_ (n := 12) (S := fun w' => w'.cell? (ad277.add ((a2).toNat * 4)) = some (.string ((rd_T42 l0 a2).f0)) ∧ w'.cell? ⟨(ad277.add ((a2).toNat * 4)).block, (ad277.add ((a2).toNat * 4)).off + 1, none⟩ = some (.int .i64 ((rd_T42 l0 a2).f1)) ∧ w'.cell? ⟨(ad277.add ((a2).toNat * 4)).block, (ad277.add ((a2).toNat * 4)).off + 2, none⟩ = some (.bool ((rd_T42 l0 a2).f2)) ∧ w'.cell? ⟨(ad277.add ((a2).toNat * 4)).block, (ad277.add ((a2).toNat * 4)).off + 3, none⟩ = some (.string ((rd_T42 l0 a2).f3)) ∧ w'.cell? (ad277.add (((ji35)).toNat * 4)) = some (.string ((rd_T42 l0 (ji35)).f0)) ∧ w'.cell? ⟨(ad277.add (((ji35)).toNat * 4)).block, (ad277.add (((ji35)).toNat * 4)).off + 1, none⟩ = some (.int .i64 ((rd_T42 l0 (ji35)).f1)) ∧ w'.cell? ⟨(ad277.add (((ji35)).toNat * 4)).block, (ad277.add (((ji35)).toNat * 4)).off + 2, none⟩ = some (.bool ((rd_T42 l0 (ji35)).f2)) ∧ w'.cell? ⟨(ad277.add (((ji35)).toNat * 4)).block, (ad277.add (((ji35)).toNat * 4)).off + 3, none⟩ = some (.string ((rd_T42 l0 (ji35)).f3))) (ds := []) #[false, false, false, false, false, false, false, false, false, false, false, false] (by kernel_rfl) rfl rfl ⟨hx277_0, hx277_1, hx277_2, hx277_3, hx278_0, hx278_1, hx278_2, hx278_3⟩ (fun hHeld => ?_); refine with_tabW slices_symMergeCmpFunc_impl_Version__impl_Version_compare.tab17 slices_symMergeCmpFunc_impl_Version__impl_Version_compare.bits17 (fun HT_ HW_ => ?_)
       generalize wr.drew = w42 at HO_0 HK HB hx277_0 hx277_1 hx277_2 hx277_3 hx278_0 hx278_1 hx278_2 hx278_3 hHeld ⊢
       refine pu_ 0 (some 92) #[true, false, false, false, false, false, false, false, false, false, false, false] HT_ ?_
       refine pu_ 1 (some 93) #[true, true, false, false, false, false, false, false, false, false, false, false] HT_ ?_
       refine pu_ 2 (some 94) #[true, true, true, false, false, false, false, false, false, false, false, false] HT_ ?_
       refine pu_ 3 (some 95) #[true, true, true, true, false, false, false, false, false, false, false, false] HT_ ?_
       refine pu_ 5 (some 97) #[true, true, true, true, false, true, false, false, false, false, false, false] HT_ ?_
       refine pu_ 6 (some 98) #[true, true, true, true, false, true, true, false, false, false, false, false] HT_ ?_
       refine pu_ 7 (some 99) #[true, true, true, true, false, true, true, true, false, false, false, false] HT_ ?_
       refine take_ (i := 4) (N := some 96) (v := ?_) (a' := ?_) #[true, true, true, true, true, true, true, true, false, false, false, false] rfl rfl (take_ofW HT_.out HW_.out (by kernel_rfl)) (fun _ _ _ h => h) (Or.inl ⟨by rfl, ?_⟩) hHeld ?_ ?_
       rotate_left
       ·rintro w' ⟨s0, s1, s2, s3, s4, s5, s6, s7⟩
        go_simp
        with_reducible rfl
       rotate_left
       ·simp only [Act.put, List.setIfInBounds_toArray, List.set_cons_zero, List.set_cons_succ, i64_w, i32_w]
        rfl
       refine take_ (i := 8) (N := some 100) (v := ?_) (a' := ?_) #[true, true, true, true, true, true, true, true, true, false, false, false] rfl rfl (take_ofW HT_.out HW_.out (by kernel_rfl)) (fun _ _ _ h => h) (Or.inl ⟨by rfl, ?_⟩) hHeld ?_ ?_
       rotate_left
       ·rintro w' ⟨s0, s1, s2, s3, s4, s5, s6, s7⟩
        go_simp
        with_reducible rfl
       rotate_left
       ·simp only [Act.put, List.setIfInBounds_toArray, List.set_cons_zero, List.set_cons_succ, i64_w, i32_w]
        rfl
       refine one_ (i := 9) (N := some 101) #[true, true, true, true, true, true, true, true, true, true, false, false] rfl rfl (one_of HT_.out (by kernel_rfl)) (by decide) (fun K hK => ?_)
       refine goesV_ Try.func57 (by kernel_rfl) rfl #[.agg #[.string ((rd_T42 l0 a2).f0), .int .i64 ((rd_T42 l0 a2).f1), .bool ((rd_T42 l0 a2).f2), .string ((rd_T42 l0 a2).f3)], .agg #[.string ((rd_T42 l0 (ji35)).f0), .int .i64 ((rd_T42 l0 (ji35)).f1), .bool ((rd_T42 l0 (ji35)).f2), .string ((rd_T42 l0 (ji35)).f3)]] (by rfl) rfl rfl (by rfl) (by (try simp only [List.map_toArray, List.map_cons, List.map_nil]); first | done | (simp only [hji35]; rfl) | rfl | (simp only [List.length_drop, List.length_take]; rfl)) ?_
       with_reducible refine (impl_Version_compare.calls k1 ((rd_T42 l0 a2).f0) ((rd_T42 l0 a2).f1) ((rd_T42 l0 a2).f2) ((rd_T42 l0 a2).f3) ((rd_T42 l0 (ji35)).f0) ((rd_T42 l0 (ji35)).f1) ((rd_T42 l0 (ji35)).f2) ((rd_T42 l0 (ji35)).f3) t279 _ A40.out).mono ?_
       rintro e w44 ⟨rfl, hb⟩
       have HS0_ := (hb.cell (World.block_lt_of_cell? _ _ (hHeld.1))).trans (hHeld.1)
       have HS1_ := (hb.cell (World.block_lt_of_cell? _ _ (hHeld.2.1))).trans (hHeld.2.1)
       have HS2_ := (hb.cell (World.block_lt_of_cell? _ _ (hHeld.2.2.1))).trans (hHeld.2.2.1)
       have HS3_ := (hb.cell (World.block_lt_of_cell? _ _ (hHeld.2.2.2.1))).trans (hHeld.2.2.2.1)
       have HS4_ := (hb.cell (World.block_lt_of_cell? _ _ (hHeld.2.2.2.2.1))).trans (hHeld.2.2.2.2.1)
       have HS5_ := (hb.cell (World.block_lt_of_cell? _ _ (hHeld.2.2.2.2.2.1))).trans (hHeld.2.2.2.2.2.1)
       have HS6_ := (hb.cell (World.block_lt_of_cell? _ _ (hHeld.2.2.2.2.2.2.1))).trans (hHeld.2.2.2.2.2.2.1)
       have HS7_ := (hb.cell (World.block_lt_of_cell? _ _ (hHeld.2.2.2.2.2.2.2))).trans (hHeld.2.2.2.2.2.2.2)
       refine ⟨_, rfl, ?_⟩
       have n0_ := Aside0.mk (Kd.R_below (sq_r HO_0) hb)
       have n1_ := Aside0.mk (Kept.below (S := (fun k_ => P0_ k_)) sq_k hb)
       have n2_ := Aside0.mk (below_step sq_b hb)
       clear HO_0
       clear HK
       clear HB
       have HO_0 := n0_
       have HK := n1_
       have HB := n2_
       clear n0_ n1_ n2_
       (try clear hb)
       (try clear hb2)
       (try clear hk)
       (try clear hi)
       refine hK.out _ _ ⟨HS0_, HS1_, HS2_, HS3_, HS4_, HS5_, HS6_, HS7_⟩ (fun hHeld => ?_)
       clear hK K
       refine norm_ (a' := ?_) ?_ ?_
       rotate_left
       ·show Act.put _ (some 101) _ = _
        simp only [Act.put, List.setIfInBounds_toArray, List.set_cons_zero, List.set_cons_succ, i64_w, i32_w]
        rfl
       refine pu_ 10 (some 102) #[true, true, true, true, true, true, true, true, true, true, true, false] HT_ ?_
       refine pu_ 11 (some 103) #[true, true, true, true, true, true, true, true, true, true, true, true] HT_ ?_
       refine done_ (done_of HT_.out (by kernel_rfl)) ?_
       try go_wp2
       go_roundg k1
       case measure => have := HK1.out; omega
       case rel => exact ⟨(x14_1), (ji35), sq_e, (by first | rfl | (simp; done) | (simp [ext_bne_nil, ext_beq_nil]; done) | (simp only [← hji35] <;> (first | rfl | simp)) | (simp [*]; done)), H', ⟨by have := HK1.out; omega⟩, ⟨by (with_reducible repeat (first | apply Kd.R_alloc | apply Kd.R_drewN | apply Kd.R_drew)); exact HO_0.out⟩, ⟨sq_k⟩, ⟨sq_b⟩⟩
      ·rw [if_neg c41] at H
       have c41b0 : decide (t279 < 0) = false := decide_eq_false c41
       clear c41
       have H' := Aside0.mk H
       clear H
       try go_wp2
       have n0_ := Aside0.mk (Kd.R_drew HO_0.out)
       have n1_ := Aside0.mk (Kept.drew HK.out)
       have n2_ := Aside0.mk (below_drew1 HB.out)
       clear HO_0
       clear HK
       clear HB
       have HO_0 := n0_
       have HK := n1_
       have HB := n2_
       clear n0_ n1_ n2_
       obtain ⟨Ao46, co46, eo46⟩ := Kd.R_slice HO_0.out
       (first | subst eo46 | (injection eo46 with f1_ f2_ f3_; have f4_ := f1_.symm; have f5_ := f3_.symm; clear f1_ f2_ f3_; subst f4_; subst f5_))
       have p277 : 0 ≤ (a2 : Int) := sq_d
       have q277 : a2 < (l0.length : Int) := sq_d
       obtain ⟨ad277, e277, hx277_0, hx277_1, hx277_2, hx277_3⟩ := at_T42 (Kd.R_reads' HO_0.out).2.2 a2 p277 q277
       cases e277
       replace p277 := eq_true p277
       replace q277 := eq_true q277
       have p278 : 0 ≤ ((ji35) : Int) := sq_d
       have q278 : (ji35) < (l0.length : Int) := sq_d
       obtain ⟨ad278, e278, hx278_0, hx278_1, hx278_2, hx278_3⟩ := at_T42 (Kd.R_reads' HO_0.out).2.2 (ji35) p278 q278
       obtain rfl : ad277 = ad278 := (by injection e278)
       replace p278 := eq_true p278
       replace q278 := eq_true q278
       refine start_ (n := 12) (S := fun w' => w'.cell? (ad277.add ((a2).toNat * 4)) = some (.string ((rd_T42 l0 a2).f0)) ∧ w'.cell? ⟨(ad277.add ((a2).toNat * 4)).block, (ad277.add ((a2).toNat * 4)).off + 1, none⟩ = some (.int .i64 ((rd_T42 l0 a2).f1)) ∧ w'.cell? ⟨(ad277.add ((a2).toNat * 4)).block, (ad277.add ((a2).toNat * 4)).off + 2, none⟩ = some (.bool ((rd_T42 l0 a2).f2)) ∧ w'.cell? ⟨(ad277.add ((a2).toNat * 4)).block, (ad277.add ((a2).toNat * 4)).off + 3, none⟩ = some (.string ((rd_T42 l0 a2).f3)) ∧ w'.cell? (ad277.add (((ji35)).toNat * 4)) = some (.string ((rd_T42 l0 (ji35)).f0)) ∧ w'.cell? ⟨(ad277.add (((ji35)).toNat * 4)).block, (ad277.add (((ji35)).toNat * 4)).off + 1, none⟩ = some (.int .i64 ((rd_T42 l0 (ji35)).f1)) ∧ w'.cell? ⟨(ad277.add (((ji35)).toNat * 4)).block, (ad277.add (((ji35)).toNat * 4)).off + 2, none⟩ = some (.bool ((rd_T42 l0 (ji35)).f2)) ∧ w'.cell? ⟨(ad277.add (((ji35)).toNat * 4)).block, (ad277.add (((ji35)).toNat * 4)).off + 3, none⟩ = some (.string ((rd_T42 l0 (ji35)).f3))) (ds := []) #[false, false, false, false, false, false, false, false, false, false, false, false] (by kernel_rfl) rfl rfl ⟨hx277_0, hx277_1, hx277_2, hx277_3, hx278_0, hx278_1, hx278_2, hx278_3⟩ (fun hHeld => ?_); refine with_tabW slices_symMergeCmpFunc_impl_Version__impl_Version_compare.tab17 slices_symMergeCmpFunc_impl_Version__impl_Version_compare.bits17 (fun HT_ HW_ => ?_)
       generalize wr.drew = w45 at HO_0 HK HB hx277_0 hx277_1 hx277_2 hx277_3 hx278_0 hx278_1 hx278_2 hx278_3 hHeld ⊢
       refine pu_ 0 (some 92) #[true, false, false, false, false, false, false, false, false, false, false, false] HT_ ?_
       refine pu_ 1 (some 93) #[true, true, false, false, false, false, false, false, false, false, false, false] HT_ ?_
       refine pu_ 2 (some 94) #[true, true, true, false, false, false, false, false, false, false, false, false] HT_ ?_
       refine pu_ 3 (some 95) #[true, true, true, true, false, false, false, false, false, false, false, false] HT_ ?_
       refine pu_ 5 (some 97) #[true, true, true, true, false, true, false, false, false, false, false, false] HT_ ?_
       refine pu_ 6 (some 98) #[true, true, true, true, false, true, true, false, false, false, false, false] HT_ ?_
       refine pu_ 7 (some 99) #[true, true, true, true, false, true, true, true, false, false, false, false] HT_ ?_
       refine take_ (i := 4) (N := some 96) (v := ?_) (a' := ?_) #[true, true, true, true, true, true, true, true, false, false, false, false] rfl rfl (take_ofW HT_.out HW_.out (by kernel_rfl)) (fun _ _ _ h => h) (Or.inl ⟨by rfl, ?_⟩) hHeld ?_ ?_
       rotate_left
       ·rintro w' ⟨s0, s1, s2, s3, s4, s5, s6, s7⟩
        go_simp
        with_reducible rfl
       rotate_left
       ·simp only [Act.put, List.setIfInBounds_toArray, List.set_cons_zero, List.set_cons_succ, i64_w, i32_w]
        rfl
       refine take_ (i := 8) (N := some 100) (v := ?_) (a' := ?_) #[true, true, true, true, true, true, true, true, true, false, false, false] rfl rfl (take_ofW HT_.out HW_.out (by kernel_rfl)) (fun _ _ _ h => h) (Or.inl ⟨by rfl, ?_⟩) hHeld ?_ ?_
       rotate_left
       ·rintro w' ⟨s0, s1, s2, s3, s4, s5, s6, s7⟩
        go_simp
        with_reducible rfl
       rotate_left
       ·simp only [Act.put, List.setIfInBounds_toArray, List.set_cons_zero, List.set_cons_succ, i64_w, i32_w]
        rfl
       refine one_ (i := 9) (N := some 101) #[true, true, true, true, true, true, true, true, true, true, false, false] rfl rfl (one_of HT_.out (by kernel_rfl)) (by decide) (fun K hK => ?_)
       refine goesV_ Try.func57 (by kernel_rfl) rfl #[.agg #[.string ((rd_T42 l0 a2).f0), .int .i64 ((rd_T42 l0 a2).f1), .bool ((rd_T42 l0 a2).f2), .string ((rd_T42 l0 a2).f3)], .agg #[.string ((rd_T42 l0 (ji35)).f0), .int .i64 ((rd_T42 l0 (ji35)).f1), .bool ((rd_T42 l0 (ji35)).f2), .string ((rd_T42 l0 (ji35)).f3)]] (by rfl) rfl rfl (by rfl) (by (try simp only [List.map_toArray, List.map_cons, List.map_nil]); first | done | (simp only [hji35]; rfl) | rfl | (simp only [List.length_drop, List.length_take]; rfl)) ?_
       with_reducible refine (impl_Version_compare.calls k1 ((rd_T42 l0 a2).f0) ((rd_T42 l0 a2).f1) ((rd_T42 l0 a2).f2) ((rd_T42 l0 a2).f3) ((rd_T42 l0 (ji35)).f0) ((rd_T42 l0 (ji35)).f1) ((rd_T42 l0 (ji35)).f2) ((rd_T42 l0 (ji35)).f3) t279 _ A40.out).mono ?_
       rintro e w47 ⟨rfl, hb⟩
       have HS0_ := (hb.cell (World.block_lt_of_cell? _ _ (hHeld.1))).trans (hHeld.1)
       have HS1_ := (hb.cell (World.block_lt_of_cell? _ _ (hHeld.2.1))).trans (hHeld.2.1)
       have HS2_ := (hb.cell (World.block_lt_of_cell? _ _ (hHeld.2.2.1))).trans (hHeld.2.2.1)
       have HS3_ := (hb.cell (World.block_lt_of_cell? _ _ (hHeld.2.2.2.1))).trans (hHeld.2.2.2.1)
       have HS4_ := (hb.cell (World.block_lt_of_cell? _ _ (hHeld.2.2.2.2.1))).trans (hHeld.2.2.2.2.1)
       have HS5_ := (hb.cell (World.block_lt_of_cell? _ _ (hHeld.2.2.2.2.2.1))).trans (hHeld.2.2.2.2.2.1)
       have HS6_ := (hb.cell (World.block_lt_of_cell? _ _ (hHeld.2.2.2.2.2.2.1))).trans (hHeld.2.2.2.2.2.2.1)
       have HS7_ := (hb.cell (World.block_lt_of_cell? _ _ (hHeld.2.2.2.2.2.2.2))).trans (hHeld.2.2.2.2.2.2.2)
       refine ⟨_, rfl, ?_⟩
       have n0_ := Aside0.mk (Kd.R_below (sq_r HO_0) hb)
       have n1_ := Aside0.mk (Kept.below (S := (fun k_ => P0_ k_)) sq_k hb)
       have n2_ := Aside0.mk (below_step sq_b hb)
       clear HO_0
       clear HK
       clear HB
       have HO_0 := n0_
       have HK := n1_
       have HB := n2_
       clear n0_ n1_ n2_
       (try clear hb)
       (try clear hb2)
       (try clear hk)
       (try clear hi)
       refine hK.out _ _ ⟨HS0_, HS1_, HS2_, HS3_, HS4_, HS5_, HS6_, HS7_⟩ (fun hHeld => ?_)
       clear hK K
       refine norm_ (a' := ?_) ?_ ?_
       rotate_left
       ·show Act.put _ (some 101) _ = _
        simp only [Act.put, List.setIfInBounds_toArray, List.set_cons_zero, List.set_cons_succ, i64_w, i32_w]
        rfl
       refine pu_ 10 (some 102) #[true, true, true, true, true, true, true, true, true, true, true, false] HT_ ?_
       refine pu_ 11 (some 103) #[true, true, true, true, true, true, true, true, true, true, true, true] HT_ ?_
       refine done_ (done_of HT_.out (by kernel_rfl)) ?_
       try go_wp2
       go_roundg k1
       case measure => have := HK1.out; omega
       case rel => exact ⟨(wrap64 ((ji35) + 1)), (x15_1), (by first | rfl | (simp; done) | (simp [ext_bne_nil, ext_beq_nil]; done) | (simp only [← hji35] <;> (first | rfl | simp)) | (simp [*]; done)), sq_e, H', ⟨by have := HK1.out; omega⟩, ⟨by (with_reducible repeat (first | apply Kd.R_alloc | apply Kd.R_drewN | apply Kd.R_drew)); exact HO_0.out⟩, ⟨sq_k⟩, ⟨sq_b⟩⟩
     ·rw [if_neg c34] at H
      have c34b0 : decide (x14_1 < x15_1) = false := decide_eq_false c34
      clear c34
      have H' := Aside0.mk H
      clear H
      go_wp2
      go_loopg [17] k1 (fun kq v17 w' => ∃ (x0_2 : List (S42)) (x17_2 : Int), v17 = .int .i64 x17_2 ∧ Aside0 (slices_symMergeCmpFunc_impl_Version__impl_Version_compare.l3 kq x0_2 x14_1 x17_2 = some r) ∧ Aside0 (kq ≤ k1) ∧ Aside0 (Kd.R k42 42 w' w0.heap.size (fun k_ => (P0_ k_ ∨ w.heap.size ≤ k_)) u9000_ x0_2) ∧ Aside0 (Kept w w' (fun k_ => P0_ k_)) ∧ Aside0 (Below w0.heap.size w0 w'))
      case atStart => exact ⟨(l0), (a2), sq_e, H', ⟨Nat.le_refl _⟩, ⟨by (with_reducible repeat (first | apply Kd.R_alloc | apply Kd.R_drewN | apply Kd.R_drew)); exact HO_0.out⟩, ⟨sq_k⟩, ⟨sq_b⟩⟩
      case round =>
       clear H'
       (try clear c1); (try clear c2); (try clear p2); (try clear q2); (try clear hx2); (try clear c3); (try clear c4); (try clear c5); (try clear c6); (try clear c6b0); (try clear c6b1); (try clear p6); (try clear c7); (try clear c7b0); (try clear c9); (try clear c9b0); (try clear c10); (try clear c10b0); (try clear c11); (try clear c11b0); (try clear c12); (try clear c12b0); (try clear c14); (try clear c14b0)
       (try clear c21); (try clear c21b0); (try clear c23); (try clear c23b0); (try clear c24); (try clear c24b0); (try clear c25); (try clear c25b0); (try clear c26); (try clear c26b0); (try clear c27); (try clear p27); (try clear q27); (try clear hx27); (try clear hf27); (try clear c28); (try clear p28); (try clear q28); (try clear hx28); (try clear hf28); (try clear c31); (try clear c32); (try clear c33)
       (try clear c33b0); (try clear c33b1); (try clear c34); (try clear c34b0); (try clear c36); (try clear c36b0); (try clear c37); (try clear c37b0); (try clear c38); (try clear c38b0); (try clear c39); (try clear c39b0); (try clear c41); (try clear c41b0); (try clear hx270_0); (try clear hx270_1); (try clear hx270_2); (try clear hx270_3); (try clear hx271_0); (try clear hx271_1); (try clear hx271_2)
       (try clear hx271_3); (try clear hx273_0); (try clear hx273_1); (try clear hx273_2); (try clear hx273_3); (try clear hx274_0); (try clear hx274_1); (try clear hx274_2); (try clear hx274_3); (try clear hx277_0); (try clear hx277_1); (try clear hx277_2); (try clear hx277_3); (try clear hx278_0); (try clear hx278_1); (try clear hx278_2); (try clear hx278_3); (try clear hx27_0); (try clear hx27_1)
       (try clear hx27_2); (try clear hx27_3); (try clear hx28_0); (try clear hx28_1); (try clear hx28_2); (try clear hx28_3); (try clear p2); (try clear p27); (try clear p270); (try clear p271); (try clear p273); (try clear p274); (try clear p277); (try clear p278); (try clear p28); (try clear p6); (try clear q2); (try clear q27); (try clear q270); (try clear q271); (try clear q273); (try clear q274)
       (try clear q277); (try clear q278); (try clear q28)
       obtain ⟨x0_2, x17_2, rfl, HA, HK2, HO_0, HK, HB⟩ := hrel
       cases gk with
       | zero => exact absurd HA.out (by simp [slices_symMergeCmpFunc_impl_Version__impl_Version_compare.l3])
       | succ k2 =>
        have H := HA.out
        clear HA
        simp only [slices_symMergeCmpFunc_impl_Version__impl_Version_compare.l3] at H
        by_cases c48 : x17_2 > x14_1
        ·rw [if_pos c48] at H
         have c48b0 : decide (x14_1 < x17_2) = true := decide_eq_true c48
         clear c48
         obtain ⟨ji49, hji49⟩ : ∃ j_ : Int, (wrap64 (x17_2 - 1)) = j_ := ⟨_, rfl⟩
         replace H : (if 0 ≤ (ji49) then (if (ji49) < (x0_2.length : Int) then (if 0 ≤ x17_2 then (if x17_2 < (x0_2.length : Int) then (slices_symMergeCmpFunc_impl_Version__impl_Version_compare.l3 k2 ((x0_2.set (x17_2 : Int).toNat (⟨(rd_T42 x0_2 (ji49)).f0, (rd_T42 x0_2 (ji49)).f1, (rd_T42 x0_2 (ji49)).f2, (rd_T42 x0_2 (ji49)).f3⟩ : S42)).set ((ji49) : Int).toNat (⟨(rd_T42 x0_2 x17_2).f0, (rd_T42 x0_2 x17_2).f1, (rd_T42 x0_2 x17_2).f2, (rd_T42 x0_2 x17_2).f3⟩ : S42)) x14_1 ji49) else (none)) else (none)) else (none)) else (none)) = some r := by first | (rw [hji49] at H; exact H) | (simp only [hji49] at H ⊢; exact H)
         have hji49w : (IntKind.i64.wrap (x17_2 - 1)) = ji49 := (i64_w _).trans hji49
         by_cases c50 : 0 ≤ (ji49)
         rotate_left
         ·rw [if_neg c50] at H
          exact absurd H (by simp)
         rw [if_pos c50] at H
         have c50b0 : decide (0 ≤ (ji49)) = true := decide_eq_true c50
         clear c50
         by_cases c51 : (ji49) < (x0_2.length : Int)
         rotate_left
         ·rw [if_neg c51] at H
          exact absurd H (by simp)
         rw [if_pos c51] at H
         have c51b0 : decide ((ji49) < (x0_2.length : Int)) = true := decide_eq_true c51
         clear c51
         by_cases c52 : 0 ≤ x17_2
         rotate_left
         ·rw [if_neg c52] at H
          exact absurd H (by simp)
         rw [if_pos c52] at H
         have c52b0 : decide (0 ≤ x17_2) = true := decide_eq_true c52
         clear c52
         by_cases c53 : x17_2 < (x0_2.length : Int)
         rotate_left
         ·rw [if_neg c53] at H
          exact absurd H (by simp)
         rw [if_pos c53] at H
         have c53b0 : decide (x17_2 < (x0_2.length : Int)) = true := decide_eq_true c53
         clear c53
         obtain ⟨y282, hy282⟩ : ∃ y_ : List (S42), y_ = (x0_2.set (x17_2 : Int).toNat (⟨(rd_T42 x0_2 (ji49)).f0, (rd_T42 x0_2 (ji49)).f1, (rd_T42 x0_2 (ji49)).f2, (rd_T42 x0_2 (ji49)).f3⟩ : S42)) := ⟨_, rfl⟩
         replace H : (slices_symMergeCmpFunc_impl_Version__impl_Version_compare.l3 k2 (y282.set ((ji49) : Int).toNat (⟨(rd_T42 x0_2 x17_2).f0, (rd_T42 x0_2 x17_2).f1, (rd_T42 x0_2 x17_2).f2, (rd_T42 x0_2 x17_2).f3⟩ : S42)) x14_1 ji49) = some r := by first | (rw [hy282]; with_reducible exact H) | (have H2_ := (Option.bind_some _ _).symm.trans H; rw [hy282]; with_reducible exact H2_) | (have H2_ := (Option.bind_some _ _).symm.trans H; with_reducible exact H2_) | with_reducible exact H | (rw [hy282]; exact H) | exact H
         have Ny282 := Aside0.mk hy282
         clear hy282
         obtain ⟨y283, hy283⟩ : ∃ y_ : List (S42), y_ = (y282.set ((ji49) : Int).toNat (⟨(rd_T42 x0_2 x17_2).f0, (rd_T42 x0_2 x17_2).f1, (rd_T42 x0_2 x17_2).f2, (rd_T42 x0_2 x17_2).f3⟩ : S42)) := ⟨_, rfl⟩
         replace H : (slices_symMergeCmpFunc_impl_Version__impl_Version_compare.l3 k2 y283 x14_1 ji49) = some r := by first | (rw [hy283]; with_reducible exact H) | (have H2_ := (Option.bind_some _ _).symm.trans H; rw [hy283]; with_reducible exact H2_) | (have H2_ := (Option.bind_some _ _).symm.trans H; with_reducible exact H2_) | with_reducible exact H | (rw [hy283]; exact H) | exact H
         have Ny283 := Aside0.mk hy283
         clear hy283
         have H' := Aside0.mk H
         clear H
         try go_wp2
         have n0_ := Aside0.mk (Kd.R_drew HO_0.out)
         have n1_ := Aside0.mk (Kept.drew HK.out)
         have n2_ := Aside0.mk (below_drew1 HB.out)
         clear HO_0
         clear HK
         clear HB
         have HO_0 := n0_
         have HK := n1_
         have HB := n2_
         clear n0_ n1_ n2_
         obtain ⟨Ao57, co57, eo57⟩ := Kd.R_slice HO_0.out
         (first | subst eo57 | (injection eo57 with f1_ f2_ f3_; have f4_ := f1_.symm; have f5_ := f3_.symm; clear f1_ f2_ f3_; subst f4_; subst f5_))
         have p280 : 0 ≤ ((ji49) : Int) := sq_d
         have q280 : (ji49) < (x0_2.length : Int) := sq_d
         obtain ⟨ad280, e280, hx280_0, hx280_1, hx280_2, hx280_3⟩ := at_T42 (Kd.R_reads' HO_0.out).2.2 (ji49) p280 q280
         cases e280
         replace p280 := eq_true p280
         replace q280 := eq_true q280
         have p281 : 0 ≤ (x17_2 : Int) := sq_d
         have q281 : x17_2 < (x0_2.length : Int) := sq_d
         obtain ⟨ad281, e281, hx281_0, hx281_1, hx281_2, hx281_3⟩ := at_T42 (Kd.R_reads' HO_0.out).2.2 x17_2 p281 q281
         obtain rfl : ad280 = ad281 := (by injection e281)
         replace p281 := eq_true p281
         replace q281 := eq_true q281
         have p54 : 0 ≤ (x17_2 : Int) := sq_d
         have q54 : (x17_2 : Int) < ((x0_2.length : Int) : Int) := sq_d
         obtain ⟨go54, co54, eo54, gb54, gl54, cl54, HG54⟩ := Kd.R_form HO_0.out (by omega)
         (first | cases eo54 | (injection eo54 with ea_ en_ ec_; (first | subst ea_ | (injection ea_ with ea_; subst ea_)); subst ec_; clear en_))
         have GB54 := Aside0.mk gb54
         have GG54 := Aside0.mk HG54
         clear gb54 gl54 HG54
         have HMgo54 := Aside0.mk (show (P0_ go54 ∨ w.heap.size ≤ go54) from (HO_0.out.1 _ rfl))
         (first | simp only [add_plain] at hx280_0 | skip)
         (first | simp only [add_plain] at hx280_1 | skip)
         (first | simp only [add_plain] at hx280_2 | skip)
         (first | simp only [add_plain] at hx280_3 | skip)
         (first | simp only [add_plain] at hx281_0 | skip)
         (first | simp only [add_plain] at hx281_1 | skip)
         (first | simp only [add_plain] at hx281_2 | skip)
         (first | simp only [add_plain] at hx281_3 | skip)
         obtain ⟨ce54, hcl54, hM54, hcc54, hfr54⟩ := Kd.R_elem HO_0.out z42 (x17_2 : Int) p54 q54
         obtain rfl := k42_openM hM54
         have hx54_0 : World.cell? _ ⟨go54, (x17_2 : Int).toNat * 4, none⟩ = some (.string ((rd_T42 x0_2 x17_2).f0)) := hcc54 0 _ rfl
         have hx54_1 : World.cell? _ ⟨go54, (x17_2 : Int).toNat * 4 + 1, none⟩ = some (.int .i64 ((rd_T42 x0_2 x17_2).f1)) := hcc54 1 _ rfl
         have hx54_2 : World.cell? _ ⟨go54, (x17_2 : Int).toNat * 4 + 2, none⟩ = some (.bool ((rd_T42 x0_2 x17_2).f2)) := hcc54 2 _ rfl
         have hx54_3 : World.cell? _ ⟨go54, (x17_2 : Int).toNat * 4 + 3, none⟩ = some (.string ((rd_T42 x0_2 x17_2).f3)) := hcc54 3 _ rfl
         have hf54_0 : World.frozen? _ ⟨go54, (x17_2 : Int).toNat * 4, none⟩ = false := hfr54 0
         have hf54_1 : World.frozen? _ ⟨go54, (x17_2 : Int).toNat * 4 + 1, none⟩ = false := hfr54 1
         have hf54_2 : World.frozen? _ ⟨go54, (x17_2 : Int).toNat * 4 + 2, none⟩ = false := hfr54 2
         have hf54_3 : World.frozen? _ ⟨go54, (x17_2 : Int).toNat * 4 + 3, none⟩ = false := hfr54 3
         clear hcl54 hcc54 hfr54 hM54
         replace p54 := eq_true p54
         replace q54 := eq_true q54
         obtain ⟨ce58, hcl58, hM58, hcc58, hfr58⟩ := Kd.R_elem HO_0.out z42 (x17_2 : Int) (sq_d) (by have h_ : (x17_2 : Int) < ((x0_2.length : Int) : Int) := sq_d; first | exact h_ | (have e_ := (Kd.R_reads' HO_0.out).1; omega) | simpa using h_)
         obtain rfl := k42_openM hM58
         have HP58 := (Kd.R_seg HO_0.out (x17_2 : Int) (sq_d) (by have h_ : (x17_2 : Int) < ((x0_2.length : Int) : Int) := sq_d; first | exact h_ | (have e_ := (Kd.R_reads' HO_0.out).1; omega) | simpa using h_) (seg := [.string ((rd_T42 x0_2 (ji49)).f0), .int .i64 ((rd_T42 x0_2 (ji49)).f1), .bool ((rd_T42 x0_2 (ji49)).f2), .string ((rd_T42 x0_2 (ji49)).f3)]) (j := 0) hcl58 hcc58 (show 4 ≤ 4 from by decide) (x' := (⟨(rd_T42 x0_2 (ji49)).f0, (rd_T42 x0_2 (ji49)).f1, (rd_T42 x0_2 (ji49)).f2, (rd_T42 x0_2 (ji49)).f3⟩ : S42)) (k42_mkM _ _ _ (⟨(rd_T42 x0_2 (ji49)).f0, (rd_T42 x0_2 (ji49)).f1, (rd_T42 x0_2 (ji49)).f2, (rd_T42 x0_2 (ji49)).f3⟩ : S42) ) (fun _ hk => hk)).1
         rw [← Ny282.out] at HP58
         have HQ58 := Aside0.mk HP58
         clear hcl58 hcc58 hfr58 hM58 HP58
         have p55 : 0 ≤ ((ji49) : Int) := sq_d
         have q55 : ((ji49) : Int) < ((x0_2.length : Int) : Int) := sq_d
         obtain ⟨ce55, hcl55, hM55, hcc55, hfr55⟩ := Kd.R_elem HQ58.out z42 ((ji49) : Int) p55 q55
         obtain rfl := k42_openM hM55
         have hx55_0 : World.cell? _ ⟨go54, ((ji49) : Int).toNat * 4, none⟩ = some (.string ((rd_T42 y282 (ji49)).f0)) := hcc55 0 _ rfl
         have hx55_1 : World.cell? _ ⟨go54, ((ji49) : Int).toNat * 4 + 1, none⟩ = some (.int .i64 ((rd_T42 y282 (ji49)).f1)) := hcc55 1 _ rfl
         have hx55_2 : World.cell? _ ⟨go54, ((ji49) : Int).toNat * 4 + 2, none⟩ = some (.bool ((rd_T42 y282 (ji49)).f2)) := hcc55 2 _ rfl
         have hx55_3 : World.cell? _ ⟨go54, ((ji49) : Int).toNat * 4 + 3, none⟩ = some (.string ((rd_T42 y282 (ji49)).f3)) := hcc55 3 _ rfl
         have hf55_0 : World.frozen? _ ⟨go54, ((ji49) : Int).toNat * 4, none⟩ = false := hfr55 0
         have hf55_1 : World.frozen? _ ⟨go54, ((ji49) : Int).toNat * 4 + 1, none⟩ = false := hfr55 1
         have hf55_2 : World.frozen? _ ⟨go54, ((ji49) : Int).toNat * 4 + 2, none⟩ = false := hfr55 2
         have hf55_3 : World.frozen? _ ⟨go54, ((ji49) : Int).toNat * 4 + 3, none⟩ = false := hfr55 3
         clear hcl55 hcc55 hfr55 hM55
         replace p55 := eq_true p55
         replace q55 := eq_true q55
         obtain ⟨ce59, hcl59, hM59, hcc59, hfr59⟩ := Kd.R_elem HQ58.out z42 ((ji49) : Int) (sq_d) (by have h_ : ((ji49) : Int) < ((x0_2.length : Int) : Int) := sq_d; first | exact h_ | (have e_ := (Kd.R_reads' HO_0.out).1; omega) | simpa using h_)
         obtain rfl := k42_openM hM59
         have HP59 := (Kd.R_seg HQ58.out ((ji49) : Int) (sq_d) (by have h_ : ((ji49) : Int) < ((x0_2.length : Int) : Int) := sq_d; first | exact h_ | (have e_ := (Kd.R_reads' HO_0.out).1; omega) | simpa using h_) (seg := [.string ((rd_T42 x0_2 x17_2).f0), .int .i64 ((rd_T42 x0_2 x17_2).f1), .bool ((rd_T42 x0_2 x17_2).f2), .string ((rd_T42 x0_2 x17_2).f3)]) (j := 0) hcl59 hcc59 (show 4 ≤ 4 from by decide) (x' := (⟨(rd_T42 x0_2 x17_2).f0, (rd_T42 x0_2 x17_2).f1, (rd_T42 x0_2 x17_2).f2, (rd_T42 x0_2 x17_2).f3⟩ : S42)) (k42_mkM _ _ _ (⟨(rd_T42 x0_2 x17_2).f0, (rd_T42 x0_2 x17_2).f1, (rd_T42 x0_2 x17_2).f2, (rd_T42 x0_2 x17_2).f3⟩ : S42) ) (fun _ hk => hk)).1
         rw [← Ny283.out] at HP59
         have HQ59 := Aside0.mk HP59
         clear hcl59 hcc59 hfr59 hM59 HP59
         refine start_ (n := 18) (S := fun w' => w'.cell? ⟨go54, (((ji49)).toNat * 4), none⟩ = some (.string ((rd_T42 x0_2 (ji49)).f0)) ∧ w'.cell? ⟨go54, (((ji49)).toNat * 4) + 1, none⟩ = some (.int .i64 ((rd_T42 x0_2 (ji49)).f1)) ∧ w'.cell? ⟨go54, (((ji49)).toNat * 4) + 2, none⟩ = some (.bool ((rd_T42 x0_2 (ji49)).f2)) ∧ w'.cell? ⟨go54, (((ji49)).toNat * 4) + 3, none⟩ = some (.string ((rd_T42 x0_2 (ji49)).f3)) ∧ w'.cell? ⟨go54, ((x17_2).toNat * 4), none⟩ = some (.string ((rd_T42 x0_2 x17_2).f0)) ∧ w'.cell? ⟨go54, ((x17_2).toNat * 4) + 1, none⟩ = some (.int .i64 ((rd_T42 x0_2 x17_2).f1)) ∧ w'.cell? ⟨go54, ((x17_2).toNat * 4) + 2, none⟩ = some (.bool ((rd_T42 x0_2 x17_2).f2)) ∧ w'.cell? ⟨go54, ((x17_2).toNat * 4) + 3, none⟩ = some (.string ((rd_T42 x0_2 x17_2).f3))) (ds := [15, 17]) #[false, false, false, false, false, false, false, false, false, false, false, false, false, false, false, false, false, false] (by kernel_rfl) rfl rfl ⟨hx280_0, hx280_1, hx280_2, hx280_3, hx281_0, hx281_1, hx281_2, hx281_3⟩ (fun hHeld => ?_); refine with_tabW slices_symMergeCmpFunc_impl_Version__impl_Version_compare.tab23 slices_symMergeCmpFunc_impl_Version__impl_Version_compare.bits23 (fun HT_ HW_ => ?_)
         generalize wr.drew = w56 at HO_0 HK HB GG54 HQ58 HQ59 hf54_0 hf54_1 hf54_2 hf54_3 hf55_0 hf55_1 hf55_2 hf55_3 hx280_0 hx280_1 hx280_2 hx280_3 hx281_0 hx281_1 hx281_2 hx281_3 hx54_0 hx54_1 hx54_2 hx54_3 hx55_0 hx55_1 hx55_2 hx55_3 hHeld ⊢
         (try (have hzf54_0 := hf54_0; simp [go_sem, World.setCells, show k42.sz = 4 from rfl] at hzf54_0))
         (try (have hzf54_1 := hf54_1; simp [go_sem, World.setCells, show k42.sz = 4 from rfl] at hzf54_1))
         (try (have hzf54_2 := hf54_2; simp [go_sem, World.setCells, show k42.sz = 4 from rfl] at hzf54_2))
         (try (have hzf54_3 := hf54_3; simp [go_sem, World.setCells, show k42.sz = 4 from rfl] at hzf54_3))
         (try (have hzf55_0 := hf55_0; simp [go_sem, World.setCells, show k42.sz = 4 from rfl] at hzf55_0))
         (try (have hzf55_1 := hf55_1; simp [go_sem, World.setCells, show k42.sz = 4 from rfl] at hzf55_1))
         (try (have hzf55_2 := hf55_2; simp [go_sem, World.setCells, show k42.sz = 4 from rfl] at hzf55_2))
         (try (have hzf55_3 := hf55_3; simp [go_sem, World.setCells, show k42.sz = 4 from rfl] at hzf55_3))
         (try (have hzx54_0 := hx54_0; simp [go_sem, World.setCells, show k42.sz = 4 from rfl] at hzx54_0))
         (try (have hzx54_1 := hx54_1; simp [go_sem, World.setCells, show k42.sz = 4 from rfl] at hzx54_1))
         (try (have hzx54_2 := hx54_2; simp [go_sem, World.setCells, show k42.sz = 4 from rfl] at hzx54_2))
         (try (have hzx54_3 := hx54_3; simp [go_sem, World.setCells, show k42.sz = 4 from rfl] at hzx54_3))
         (try (have hzx55_0 := hx55_0; simp [go_sem, World.setCells, show k42.sz = 4 from rfl] at hzx55_0))
         (try (have hzx55_1 := hx55_1; simp [go_sem, World.setCells, show k42.sz = 4 from rfl] at hzx55_1))
         (try (have hzx55_2 := hx55_2; simp [go_sem, World.setCells, show k42.sz = 4 from rfl] at hzx55_2))
         (try (have hzx55_3 := hx55_3; simp [go_sem, World.setCells, show k42.sz = 4 from rfl] at hzx55_3))
         refine pu_ 0 (some 113) #[true, false, false, false, false, false, false, false, false, false, false, false, false, false, false, false, false, false] HT_ ?_
         refine pu_ 1 (some 114) #[true, true, false, false, false, false, false, false, false, false, false, false, false, false, false, false, false, false] HT_ ?_
         refine pu_ 2 (some 115) #[true, true, true, false, false, false, false, false, false, false, false, false, false, false, false, false, false, false] HT_ ?_
         refine pu_ 3 (some 116) #[true, true, true, true, false, false, false, false, false, false, false, false, false, false, false, false, false, false] HT_ ?_
         refine pu_ 4 (some 117) #[true, true, true, true, true, false, false, false, false, false, false, false, false, false, false, false, false, false] HT_ ?_
         refine pu_ 5 (some 118) #[true, true, true, true, true, true, false, false, false, false, false, false, false, false, false, false, false, false] HT_ ?_
         refine pu_ 6 (some 119) #[true, true, true, true, true, true, true, false, false, false, false, false, false, false, false, false, false, false] HT_ ?_
         refine pu_ 7 (some 120) #[true, true, true, true, true, true, true, true, false, false, false, false, false, false, false, false, false, false] HT_ ?_
         refine pu_ 8 (some 121) #[true, true, true, true, true, true, true, true, true, false, false, false, false, false, false, false, false, false] HT_ ?_
         refine pu_ 10 (some 123) #[true, true, true, true, true, true, true, true, true, false, true, false, false, false, false, false, false, false] HT_ ?_
         refine pu_ 11 (some 124) #[true, true, true, true, true, true, true, true, true, false, true, true, false, false, false, false, false, false] HT_ ?_
         refine pu_ 12 (some 125) #[true, true, true, true, true, true, true, true, true, false, true, true, true, false, false, false, false, false] HT_ ?_
         refine take_ (i := 9) (N := some 122) (v := ?_) (a' := ?_) #[true, true, true, true, true, true, true, true, true, true, true, true, true, false, false, false, false, false] rfl rfl (take_ofW HT_.out HW_.out (by kernel_rfl)) (fun _ _ _ h => h) (Or.inl ⟨by rfl, ?_⟩) hHeld ?_ ?_
         rotate_left
         ·rintro w' ⟨s0, s1, s2, s3, s4, s5, s6, s7⟩
          go_simp
          with_reducible rfl
         rotate_left
         ·simp only [Act.put, List.setIfInBounds_toArray, List.set_cons_zero, List.set_cons_succ, i64_w, i32_w]
          rfl
         refine take_ (i := 13) (N := some 126) (v := ?_) (a' := ?_) #[true, true, true, true, true, true, true, true, true, true, true, true, true, true, false, false, false, false] rfl rfl (take_ofW HT_.out HW_.out (by kernel_rfl)) (fun _ _ _ h => h) (Or.inl ⟨by rfl, ?_⟩) hHeld ?_ ?_
         rotate_left
         ·rintro w' ⟨s0, s1, s2, s3, s4, s5, s6, s7⟩
          go_simp
          with_reducible rfl
         rotate_left
         ·simp only [Act.put, List.setIfInBounds_toArray, List.set_cons_zero, List.set_cons_succ, i64_w, i32_w]
          rfl
         refine pu_ 14 (some 127) #[true, true, true, true, true, true, true, true, true, true, true, true, true, true, true, false, false, false] HT_ ?_
         refine last_ (i := 15) (N := none) #[true, true, true, true, true, true, true, true, true, true, true, true, true, true, true, true, false, false] rfl rfl (one_of HT_.out (by kernel_rfl)) (by decide) (fun K hK => ?_)
         refine skip_ (w1 := ?_) (by rfl) rfl ?_ ?_
         rotate_left
         ·go_simp
          rfl
         refine hK.out _ _ ?_
         clear hK K
         refine pu_ 16 (some 128) #[true, true, true, true, true, true, true, true, true, true, true, true, true, true, true, true, true, false] HT_ ?_
         refine last_ (i := 17) (N := none) #[true, true, true, true, true, true, true, true, true, true, true, true, true, true, true, true, true, true] rfl rfl (one_of HT_.out (by kernel_rfl)) (by decide) (fun K hK => ?_)
         refine skip_ (w1 := ?_) (by rfl) rfl ?_ ?_
         rotate_left
         ·go_simp
          rfl
         refine hK.out _ _ ?_
         clear hK K
         refine done_ (done_of HT_.out (by kernel_rfl)) ?_
         try go_wp2
         go_roundg k2
         case measure => have := HK1.out; have := HK2.out; omega
         case rel => exact ⟨(y283), (ji49), (by first | rfl | (simp; done) | (simp [ext_bne_nil, ext_beq_nil]; done) | (simp only [← hji49] <;> (first | rfl | simp)) | (simp [*]; done)), H', ⟨by have := HK1.out; have := HK2.out; omega⟩, ⟨by (with_reducible repeat (first | apply Kd.R_alloc | apply Kd.R_drewN | apply Kd.R_drew)); exact HQ59.out⟩, ⟨by repeat (first | (with_reducible first | exact HK.out | apply Kept.alloc | apply Kept.drewN | apply Kept.drew | refine Kept.setCell ?_ HMgo54.out _ | refine Kept.setCell ?_ HMgo54.out _ | refine Kept.setCell ?_ HMgo54.out _ | refine Kept.setCell ?_ HMgo54.out _ | refine Kept.setCell ?_ HMgo54.out _ | refine Kept.setCell ?_ HMgo54.out _ | refine Kept.setCell ?_ HMgo54.out _ | refine Kept.setCell ?_ HMgo54.out _) | exact HK.out)⟩, ⟨by repeat (first | (with_reducible first | exact HB.out | apply below_alloc | apply pw_below_drewN | apply below_drew1 | refine below_set ?_ GB54.out | refine below_set ?_ GB54.out | refine below_set ?_ GB54.out | refine below_set ?_ GB54.out | refine below_set ?_ GB54.out | refine below_set ?_ GB54.out | refine below_set ?_ GB54.out | refine below_set ?_ GB54.out) | exact HB.out)⟩⟩
        ·rw [if_neg c48] at H
         have c48b0 : decide (x14_1 < x17_2) = false := decide_eq_false c48
         clear c48
         obtain rfl := Option.some.inj H
         go_wp2
         first | go_end0 | ((try simp only [Exit.inBlock, Exit.then]); refine bodyPost_ret (results_none rfl _ _ _) rfl ?_)
         exact ⟨sq_w, sq_r HO_0, sq_b, sq_k⟩
  ·rw [if_neg c33] at H
   have c33b0 : ((wrap64 (a3 - a2)) == 1) = false := beq_eq_false_iff_ne.mpr c33
   have c33b1 : ((wrap64 (a3 - a2)) != 1) = true := bne_iff_ne.mpr c33
   obtain ⟨ji60, hji60⟩ : ∃ j_ : Int, (wrap64 ((IntKind.u64.wrap (wrap64 (a1 + a3))) / 2)) = j_ := ⟨_, rfl⟩
   replace H : (if a2 > (ji60) then (slices_symMergeCmpFunc_impl_Version__impl_Version_compare.j4 k l0 a1 a2 a3 ji60 (wrap64 ((ji60) + a2)) (wrap64 ((wrap64 ((ji60) + a2)) - a3)) ji60) else (slices_symMergeCmpFunc_impl_Version__impl_Version_compare.j4 k l0 a1 a2 a3 ji60 (wrap64 ((ji60) + a2)) a1 a2)) = some r := by first | (rw [hji60] at H; exact H) | (simp only [hji60] at H ⊢; exact H)
   have hji60w : (IntKind.i64.wrap ((IntKind.u64.wrap (wrap64 (a1 + a3))) / 2)) = ji60 := (i64_w _).trans hji60
   have HC61 := Aside0.mk H
   clear H
   go_enter Try.func73, Try.ntmps73
   go_upto_if 140 with (fail)
   go_cut [20, 21] (fun v20 v21 wc => ∃ (kq : Nat) (x20_60 : Int) (x21_60 : Int), v20 = .int .i64 x20_60 ∧ v21 = .int .i64 x21_60 ∧ Aside0 (slices_symMergeCmpFunc_impl_Version__impl_Version_compare.j4 kq l0 a1 a2 a3 ji60 (wrap64 ((ji60) + a2)) x20_60 x21_60 = some r) ∧ Aside0 (kq ≤ k) ∧ Aside0 (Kd.R k42 42 wc w0.heap.size (fun k_ => (P0_ k_ ∨ w.heap.size ≤ k_)) u9000_ l0) ∧ Aside0 (Kept w wc (fun k_ => P0_ k_)) ∧ Aside0 (Below w0.heap.size w0 wc))
   case first =>
    have H := HC61.out
    clear HC61
    by_cases c62 : a2 > (ji60)
    ·rw [if_pos c62] at H
     have c62b0 : decide ((ji60) < a2) = true := decide_eq_true c62
     clear c62
     (first | rw [c62b0] | (simp only [i64_w, i32_w]; rw [c62b0]) | skip)
     have H' := Aside0.mk H
     clear H
     go_wp2
     go_meet
     case rel => exact ⟨_, (wrap64 ((wrap64 ((ji60) + a2)) - a3)), (ji60), (by first | rfl | (simp; done) | (simp [ext_bne_nil, ext_beq_nil]; done) | (simp only [← hji60] <;> (first | rfl | simp)) | (simp [*]; done)), (by first | rfl | (simp; done) | (simp [ext_bne_nil, ext_beq_nil]; done) | (simp only [← hji60] <;> (first | rfl | simp)) | (simp [*]; done)), H', ⟨by first | omega | exact Nat.le_refl _⟩, ⟨by (with_reducible repeat (first | apply Kd.R_alloc | apply Kd.R_drewN | apply Kd.R_drew)); exact HO0.out⟩, ⟨sq_k⟩, ⟨sq_b⟩⟩
    ·rw [if_neg c62] at H
     have c62b0 : decide ((ji60) < a2) = false := decide_eq_false c62
     clear c62
     (first | rw [c62b0] | (simp only [i64_w, i32_w]; rw [c62b0]) | skip)
     have H' := Aside0.mk H
     clear H
     go_wp2
     go_meet
     case rel => exact ⟨_, (a1), (a2), sq_e, sq_e, H', ⟨by first | omega | exact Nat.le_refl _⟩, ⟨by (with_reducible repeat (first | apply Kd.R_alloc | apply Kd.R_drewN | apply Kd.R_drew)); exact HO0.out⟩, ⟨sq_k⟩, ⟨sq_b⟩⟩
   case rest =>
    clear HC61
    (try clear c1); (try clear c2); (try clear p2); (try clear q2); (try clear hx2); (try clear c3); (try clear c4); (try clear c5); (try clear p5); (try clear q5); (try clear hx5); (try clear hf5); (try clear c6); (try clear c6b0); (try clear c6b1); (try clear p6); (try clear c7); (try clear c7b0); (try clear c9); (try clear c9b0); (try clear c10); (try clear c10b0); (try clear c11); (try clear c11b0)
    (try clear c12); (try clear c12b0); (try clear c14); (try clear c14b0); (try clear c21); (try clear c21b0); (try clear c23); (try clear c23b0); (try clear c24); (try clear c24b0); (try clear c25); (try clear c25b0); (try clear c26); (try clear c26b0); (try clear c27); (try clear p27); (try clear q27); (try clear hx27); (try clear hf27); (try clear c28); (try clear p28); (try clear q28); (try clear hx28)
    (try clear hf28); (try clear c31); (try clear c32); (try clear c33); (try clear c33b0); (try clear c33b1); (try clear c34); (try clear c34b0); (try clear c36); (try clear c36b0); (try clear c37); (try clear c37b0); (try clear c38); (try clear c38b0); (try clear c39); (try clear c39b0); (try clear c41); (try clear c41b0); (try clear c48); (try clear c48b0); (try clear c50); (try clear c50b0); (try clear c51)
    (try clear c51b0); (try clear c52); (try clear c52b0); (try clear c53); (try clear c53b0); (try clear c54); (try clear p54); (try clear q54); (try clear hx54); (try clear hf54); (try clear c55); (try clear p55); (try clear q55); (try clear hx55); (try clear hf55); (try clear c57); (try clear c58); (try clear c59); (try clear c62); (try clear c62b0); (try clear hx270_0); (try clear hx270_1); (try clear hx270_2)
    (try clear hx270_3); (try clear hx271_0); (try clear hx271_1); (try clear hx271_2); (try clear hx271_3); (try clear hx273_0); (try clear hx273_1); (try clear hx273_2); (try clear hx273_3); (try clear hx274_0); (try clear hx274_1); (try clear hx274_2); (try clear hx274_3); (try clear hx277_0); (try clear hx277_1); (try clear hx277_2); (try clear hx277_3); (try clear hx278_0); (try clear hx278_1)
    (try clear hx278_2); (try clear hx278_3); (try clear hx27_0); (try clear hx27_1); (try clear hx27_2); (try clear hx27_3); (try clear hx280_0); (try clear hx280_1); (try clear hx280_2); (try clear hx280_3); (try clear hx281_0); (try clear hx281_1); (try clear hx281_2); (try clear hx281_3); (try clear hx28_0); (try clear hx28_1); (try clear hx28_2); (try clear hx28_3); (try clear hx54_0); (try clear hx54_1)
    (try clear hx54_2); (try clear hx54_3); (try clear hx55_0); (try clear hx55_1); (try clear hx55_2); (try clear hx55_3); (try clear p2); (try clear p27); (try clear p270); (try clear p271); (try clear p273); (try clear p274); (try clear p277); (try clear p278); (try clear p28); (try clear p280); (try clear p281); (try clear p54); (try clear p55); (try clear p6); (try clear q2); (try clear q27); (try clear q270)
    (try clear q271); (try clear q273); (try clear q274); (try clear q277); (try clear q278); (try clear q28); (try clear q280); (try clear q281); (try clear q54); (try clear q55)
    obtain ⟨kq, x20_60, x21_60, rfl, rfl, HA, HJ60, HO_0, HK, HB⟩ := hcut
    cases kq with
    | zero => exact absurd HA.out (by simp [slices_symMergeCmpFunc_impl_Version__impl_Version_compare.j4])
    | succ kj60 =>
     have H := HA.out
     clear HA
     simp only [slices_symMergeCmpFunc_impl_Version__impl_Version_compare.j4] at H
     have H' := Aside0.mk H
     clear H
     go_wp2
     go_loopg [20, 21] kj60 (fun kq v20 v21 w' => ∃ (x20_2 : Int) (x21_2 : Int), v20 = .int .i64 x20_2 ∧ v21 = .int .i64 x21_2 ∧ Aside0 (slices_symMergeCmpFunc_impl_Version__impl_Version_compare.l4 kq l0 a1 a2 a3 ji60 (wrap64 ((ji60) + a2)) x20_2 x21_2 (wrap64 ((wrap64 ((ji60) + a2)) - 1)) = some r) ∧ Aside0 (kq ≤ kj60) ∧ Aside0 (Kd.R k42 42 w' w0.heap.size (fun k_ => (P0_ k_ ∨ w.heap.size ≤ k_)) u9000_ l0) ∧ Aside0 (Kept w w' (fun k_ => P0_ k_)) ∧ Aside0 (Below w0.heap.size w0 w'))
     case atStart => exact ⟨(x20_60), (x21_60), sq_e, sq_e, H', ⟨Nat.le_refl _⟩, ⟨by (with_reducible repeat (first | apply Kd.R_alloc | apply Kd.R_drewN | apply Kd.R_drew)); exact HO_0.out⟩, ⟨sq_k⟩, ⟨sq_b⟩⟩
     case round =>
      clear H'
      (try clear c1); (try clear c2); (try clear p2); (try clear q2); (try clear hx2); (try clear c3); (try clear c4); (try clear c5); (try clear p5); (try clear q5); (try clear hx5); (try clear hf5); (try clear c6); (try clear c6b0); (try clear c6b1); (try clear p6); (try clear c7); (try clear c7b0); (try clear c9); (try clear c9b0); (try clear c10); (try clear c10b0); (try clear c11); (try clear c11b0)
      (try clear c12); (try clear c12b0); (try clear c14); (try clear c14b0); (try clear c21); (try clear c21b0); (try clear c23); (try clear c23b0); (try clear c24); (try clear c24b0); (try clear c25); (try clear c25b0); (try clear c26); (try clear c26b0); (try clear c27); (try clear p27); (try clear q27); (try clear hx27); (try clear hf27); (try clear c28); (try clear p28); (try clear q28); (try clear hx28)
      (try clear hf28); (try clear c31); (try clear c32); (try clear c33); (try clear c33b0); (try clear c33b1); (try clear c34); (try clear c34b0); (try clear c36); (try clear c36b0); (try clear c37); (try clear c37b0); (try clear c38); (try clear c38b0); (try clear c39); (try clear c39b0); (try clear c41); (try clear c41b0); (try clear c48); (try clear c48b0); (try clear c50); (try clear c50b0); (try clear c51)
      (try clear c51b0); (try clear c52); (try clear c52b0); (try clear c53); (try clear c53b0); (try clear c54); (try clear p54); (try clear q54); (try clear hx54); (try clear hf54); (try clear c55); (try clear p55); (try clear q55); (try clear hx55); (try clear hf55); (try clear c57); (try clear c58); (try clear c59); (try clear c62); (try clear c62b0); (try clear hx270_0); (try clear hx270_1); (try clear hx270_2)
      (try clear hx270_3); (try clear hx271_0); (try clear hx271_1); (try clear hx271_2); (try clear hx271_3); (try clear hx273_0); (try clear hx273_1); (try clear hx273_2); (try clear hx273_3); (try clear hx274_0); (try clear hx274_1); (try clear hx274_2); (try clear hx274_3); (try clear hx277_0); (try clear hx277_1); (try clear hx277_2); (try clear hx277_3); (try clear hx278_0); (try clear hx278_1)
      (try clear hx278_2); (try clear hx278_3); (try clear hx27_0); (try clear hx27_1); (try clear hx27_2); (try clear hx27_3); (try clear hx280_0); (try clear hx280_1); (try clear hx280_2); (try clear hx280_3); (try clear hx281_0); (try clear hx281_1); (try clear hx281_2); (try clear hx281_3); (try clear hx28_0); (try clear hx28_1); (try clear hx28_2); (try clear hx28_3); (try clear hx54_0); (try clear hx54_1)
      (try clear hx54_2); (try clear hx54_3); (try clear hx55_0); (try clear hx55_1); (try clear hx55_2); (try clear hx55_3); (try clear p2); (try clear p27); (try clear p270); (try clear p271); (try clear p273); (try clear p274); (try clear p277); (try clear p278); (try clear p28); (try clear p280); (try clear p281); (try clear p5); (try clear p54); (try clear p55); (try clear p6); (try clear q2)
      (try clear q27); (try clear q270); (try clear q271); (try clear q273); (try clear q274); (try clear q277); (try clear q278); (try clear q28); (try clear q280); (try clear q281); (try clear q5); (try clear q54); (try clear q55)
      obtain ⟨x20_2, x21_2, rfl, rfl, HA, HK2, HO_0, HK, HB⟩ := hrel
      cases gk with
      | zero => exact absurd HA.out (by simp [slices_symMergeCmpFunc_impl_Version__impl_Version_compare.l4])
      | succ k2 =>
       have H := HA.out
       clear HA
       simp only [slices_symMergeCmpFunc_impl_Version__impl_Version_compare.l4] at H
       by_cases c63 : x20_2 < x21_2
       ·rw [if_pos c63] at H
        have c63b0 : decide (x20_2 < x21_2) = true := decide_eq_true c63
        clear c63
        obtain ⟨ji64, hji64⟩ : ∃ j_ : Int, (wrap64 ((IntKind.u64.wrap (wrap64 (x20_2 + x21_2))) / 2)) = j_ := ⟨_, rfl⟩
        replace H : (if 0 ≤ (wrap64 ((wrap64 ((wrap64 ((ji60) + a2)) - 1)) - (ji64))) then (if (wrap64 ((wrap64 ((wrap64 ((ji60) + a2)) - 1)) - (ji64))) < (l0.length : Int) then (if 0 ≤ (ji64) then (if (ji64) < (l0.length : Int) then ((impl_Version_compare.f k2 ((rd_T42 l0 (wrap64 ((wrap64 ((wrap64 ((ji60) + a2)) - 1)) - (ji64)))).f0) ((rd_T42 l0 (wrap64 ((wrap64 ((wrap64 ((ji60) + a2)) - 1)) - (ji64)))).f1) ((rd_T42 l0 (wrap64 ((wrap64 ((wrap64 ((ji60) + a2)) - 1)) - (ji64)))).f2) ((rd_T42 l0 (wrap64 ((wrap64 ((wrap64 ((ji60) + a2)) - 1)) - (ji64)))).f3) ((rd_T42 l0 (ji64)).f0) ((rd_T42 l0 (ji64)).f1) ((rd_T42 l0 (ji64)).f2) ((rd_T42 l0 (ji64)).f3)).bind fun t286 => (if t286 < 0 then (slices_symMergeCmpFunc_impl_Version__impl_Version_compare.l4 k2 l0 a1 a2 a3 ji60 (wrap64 ((ji60) + a2)) x20_2 ji64 (wrap64 ((wrap64 ((ji60) + a2)) - 1))) else (slices_symMergeCmpFunc_impl_Version__impl_Version_compare.l4 k2 l0 a1 a2 a3 ji60 (wrap64 ((ji60) + a2)) (wrap64 ((ji64) + 1)) x21_2 (wrap64 ((wrap64 ((ji60) + a2)) - 1))))) else (none)) else (none)) else (none)) else (none)) = some r := by first | (rw [hji64] at H; exact H) | (simp only [hji64] at H ⊢; exact H)
        have hji64w : (IntKind.i64.wrap ((IntKind.u64.wrap (wrap64 (x20_2 + x21_2))) / 2)) = ji64 := (i64_w _).trans hji64
        obtain ⟨ji65, hji65⟩ : ∃ j_ : Int, (wrap64 ((wrap64 ((wrap64 ((ji60) + a2)) - 1)) - (ji64))) = j_ := ⟨_, rfl⟩
        replace H : (if 0 ≤ (ji65) then (if (ji65) < (l0.length : Int) then (if 0 ≤ (ji64) then (if (ji64) < (l0.length : Int) then ((impl_Version_compare.f k2 ((rd_T42 l0 (ji65)).f0) ((rd_T42 l0 (ji65)).f1) ((rd_T42 l0 (ji65)).f2) ((rd_T42 l0 (ji65)).f3) ((rd_T42 l0 (ji64)).f0) ((rd_T42 l0 (ji64)).f1) ((rd_T42 l0 (ji64)).f2) ((rd_T42 l0 (ji64)).f3)).bind fun t286 => (if t286 < 0 then (slices_symMergeCmpFunc_impl_Version__impl_Version_compare.l4 k2 l0 a1 a2 a3 ji60 (wrap64 ((ji60) + a2)) x20_2 ji64 (wrap64 ((wrap64 ((ji60) + a2)) - 1))) else (slices_symMergeCmpFunc_impl_Version__impl_Version_compare.l4 k2 l0 a1 a2 a3 ji60 (wrap64 ((ji60) + a2)) (wrap64 ((ji64) + 1)) x21_2 (wrap64 ((wrap64 ((ji60) + a2)) - 1))))) else (none)) else (none)) else (none)) else (none)) = some r := by first | (rw [hji65] at H; exact H) | (simp only [hji65] at H ⊢; exact H)
        have hji65w : (IntKind.i64.wrap ((wrap64 ((wrap64 ((ji60) + a2)) - 1)) - (ji64))) = ji65 := (i64_w _).trans hji65
        by_cases c66 : 0 ≤ (ji65)
        rotate_left
        ·rw [if_neg c66] at H
         exact absurd H (by simp)
        rw [if_pos c66] at H
        have c66b0 : decide (0 ≤ (ji65)) = true := decide_eq_true c66
        clear c66
        by_cases c67 : (ji65) < (l0.length : Int)
        rotate_left
        ·rw [if_neg c67] at H
         exact absurd H (by simp)
        rw [if_pos c67] at H
        have c67b0 : decide ((ji65) < (l0.length : Int)) = true := decide_eq_true c67
        clear c67
        by_cases c68 : 0 ≤ (ji64)
        rotate_left
        ·rw [if_neg c68] at H
         exact absurd H (by simp)
        rw [if_pos c68] at H
        have c68b0 : decide (0 ≤ (ji64)) = true := decide_eq_true c68
        clear c68
        by_cases c69 : (ji64) < (l0.length : Int)
        rotate_left
        ·rw [if_neg c69] at H
         exact absurd H (by simp)
        rw [if_pos c69] at H
        have c69b0 : decide ((ji64) < (l0.length : Int)) = true := decide_eq_true c69
        clear c69
        replace H := Option.bind_eq_some_iff.mp H
        obtain ⟨t286, A700, H⟩ := H
        replace H : (if t286 < 0 then (slices_symMergeCmpFunc_impl_Version__impl_Version_compare.l4 k2 l0 a1 a2 a3 ji60 (wrap64 ((ji60) + a2)) x20_2 ji64 (wrap64 ((wrap64 ((ji60) + a2)) - 1))) else (slices_symMergeCmpFunc_impl_Version__impl_Version_compare.l4 k2 l0 a1 a2 a3 ji60 (wrap64 ((ji60) + a2)) (wrap64 ((ji64) + 1)) x21_2 (wrap64 ((wrap64 ((ji60) + a2)) - 1)))) = some r := H
        have A70 := Aside0.mk A700
        clear A700
        by_cases c71 : t286 < 0
        ·rw [if_pos c71] at H
         have c71b0 : decide (t286 < 0) = true := decide_eq_true c71
         clear c71
         have H' := Aside0.mk H
         clear H
         try go_wp2
         have n0_ := Aside0.mk (Kd.R_drew HO_0.out)
         have n1_ := Aside0.mk (Kept.drew HK.out)
         have n2_ := Aside0.mk (below_drew1 HB.out)
         clear HO_0
         clear HK
         clear HB
         have HO_0 := n0_
         have HK := n1_
         have HB := n2_
         clear n0_ n1_ n2_
         obtain ⟨Ao73, co73, eo73⟩ := Kd.R_slice HO_0.out
         (first | subst eo73 | (injection eo73 with f1_ f2_ f3_; have f4_ := f1_.symm; have f5_ := f3_.symm; clear f1_ f2_ f3_; subst f4_; subst f5_))
         have p284 : 0 ≤ ((ji65) : Int) := sq_d
         have q284 : (ji65) < (l0.length : Int) := sq_d
         obtain ⟨ad284, e284, hx284_0, hx284_1, hx284_2, hx284_3⟩ := at_T42 (Kd.R_reads' HO_0.out).2.2 (ji65) p284 q284
         cases e284
         replace p284 := eq_true p284
         replace q284 := eq_true q284
         have p285 : 0 ≤ ((ji64) : Int) := sq_d
         have q285 : (ji64) < (l0.length : Int) := sq_d
         obtain ⟨ad285, e285, hx285_0, hx285_1, hx285_2, hx285_3⟩ := at_T42 (Kd.R_reads' HO_0.out).2.2 (ji64) p285 q285
         obtain rfl : ad284 = ad285 := (by injection e285)
         replace p285 := eq_true p285
         replace q285 := eq_true q285
         refine start_ (n := 14) (S := fun w' => w'.cell? (ad284.add (((ji65)).toNat * 4)) = some (.string ((rd_T42 l0 (ji65)).f0)) ∧ w'.cell? ⟨(ad284.add (((ji65)).toNat * 4)).block, (ad284.add (((ji65)).toNat * 4)).off + 1, none⟩ = some (.int .i64 ((rd_T42 l0 (ji65)).f1)) ∧ w'.cell? ⟨(ad284.add (((ji65)).toNat * 4)).block, (ad284.add (((ji65)).toNat * 4)).off + 2, none⟩ = some (.bool ((rd_T42 l0 (ji65)).f2)) ∧ w'.cell? ⟨(ad284.add (((ji65)).toNat * 4)).block, (ad284.add (((ji65)).toNat * 4)).off + 3, none⟩ = some (.string ((rd_T42 l0 (ji65)).f3)) ∧ w'.cell? (ad284.add (((ji64)).toNat * 4)) = some (.string ((rd_T42 l0 (ji64)).f0)) ∧ w'.cell? ⟨(ad284.add (((ji64)).toNat * 4)).block, (ad284.add (((ji64)).toNat * 4)).off + 1, none⟩ = some (.int .i64 ((rd_T42 l0 (ji64)).f1)) ∧ w'.cell? ⟨(ad284.add (((ji64)).toNat * 4)).block, (ad284.add (((ji64)).toNat * 4)).off + 2, none⟩ = some (.bool ((rd_T42 l0 (ji64)).f2)) ∧ w'.cell? ⟨(ad284.add (((ji64)).toNat * 4)).block, (ad284.add (((ji64)).toNat * 4)).off + 3, none⟩ = some (.string ((rd_T42 l0 (ji64)).f3))) (ds := []) #[false, false, false, false, false, false, false, false, false, false, false, false, false, false] (by kernel_rfl) rfl rfl ⟨hx284_0, hx284_1, hx284_2, hx284_3, hx285_0, hx285_1, hx285_2, hx285_3⟩ (fun hHeld => ?_); refine with_tabW slices_symMergeCmpFunc_impl_Version__impl_Version_compare.tab35 slices_symMergeCmpFunc_impl_Version__impl_Version_compare.bits35 (fun HT_ HW_ => ?_)
         generalize wr.drew = w72 at HO_0 HK HB hx284_0 hx284_1 hx284_2 hx284_3 hx285_0 hx285_1 hx285_2 hx285_3 hHeld ⊢
         refine pu_ 0 (some 158) #[true, false, false, false, false, false, false, false, false, false, false, false, false, false] HT_ ?_
         refine pu_ 1 (some 159) #[true, true, false, false, false, false, false, false, false, false, false, false, false, false] HT_ ?_
         refine pu_ 2 (some 160) #[true, true, true, false, false, false, false, false, false, false, false, false, false, false] HT_ ?_
         refine pu_ 3 (some 161) #[true, true, true, true, false, false, false, false, false, false, false, false, false, false] HT_ ?_
         refine pu_ 4 (some 162) #[true, true, true, true, true, false, false, false, false, false, false, false, false, false] HT_ ?_
         refine pu_ 5 (some 163) #[true, true, true, true, true, true, false, false, false, false, false, false, false, false] HT_ ?_
         refine pu_ 7 (some 165) #[true, true, true, true, true, true, false, true, false, false, false, false, false, false] HT_ ?_
         refine pu_ 8 (some 166) #[true, true, true, true, true, true, false, true, true, false, false, false, false, false] HT_ ?_
         refine pu_ 9 (some 167) #[true, true, true, true, true, true, false, true, true, true, false, false, false, false] HT_ ?_
         refine take_ (i := 6) (N := some 164) (v := ?_) (a' := ?_) #[true, true, true, true, true, true, true, true, true, true, false, false, false, false] rfl rfl (take_ofW HT_.out HW_.out (by kernel_rfl)) (fun _ _ _ h => h) (Or.inl ⟨by rfl, ?_⟩) hHeld ?_ ?_
         rotate_left
         ·rintro w' ⟨s0, s1, s2, s3, s4, s5, s6, s7⟩
          go_simp
          with_reducible rfl
         rotate_left
         ·simp only [Act.put, List.setIfInBounds_toArray, List.set_cons_zero, List.set_cons_succ, i64_w, i32_w]
          rfl
         refine take_ (i := 10) (N := some 168) (v := ?_) (a' := ?_) #[true, true, true, true, true, true, true, true, true, true, true, false, false, false] rfl rfl (take_ofW HT_.out HW_.out (by kernel_rfl)) (fun _ _ _ h => h) (Or.inl ⟨by rfl, ?_⟩) hHeld ?_ ?_
         rotate_left
         ·rintro w' ⟨s0, s1, s2, s3, s4, s5, s6, s7⟩
          go_simp
          with_reducible rfl
         rotate_left
         ·simp only [Act.put, List.setIfInBounds_toArray, List.set_cons_zero, List.set_cons_succ, i64_w, i32_w]
          rfl
         refine one_ (i := 11) (N := some 169) #[true, true, true, true, true, true, true, true, true, true, true, true, false, false] rfl rfl (one_of HT_.out (by kernel_rfl)) (by decide) (fun K hK => ?_)
         refine goesV_ Try.func57 (by kernel_rfl) rfl #[.agg #[.string ((rd_T42 l0 (ji65)).f0), .int .i64 ((rd_T42 l0 (ji65)).f1), .bool ((rd_T42 l0 (ji65)).f2), .string ((rd_T42 l0 (ji65)).f3)], .agg #[.string ((rd_T42 l0 (ji64)).f0), .int .i64 ((rd_T42 l0 (ji64)).f1), .bool ((rd_T42 l0 (ji64)).f2), .string ((rd_T42 l0 (ji64)).f3)]] (by rfl) rfl rfl (by rfl) (by (try simp only [List.map_toArray, List.map_cons, List.map_nil]); first | done | (simp only [hji64, hji65]; rfl) | rfl | (simp only [List.length_drop, List.length_take]; rfl)) ?_
         with_reducible refine (impl_Version_compare.calls k2 ((rd_T42 l0 (ji65)).f0) ((rd_T42 l0 (ji65)).f1) ((rd_T42 l0 (ji65)).f2) ((rd_T42 l0 (ji65)).f3) ((rd_T42 l0 (ji64)).f0) ((rd_T42 l0 (ji64)).f1) ((rd_T42 l0 (ji64)).f2) ((rd_T42 l0 (ji64)).f3) t286 _ A70.out).mono ?_
         rintro e w74 ⟨rfl, hb⟩
         have HS0_ := (hb.cell (World.block_lt_of_cell? _ _ (hHeld.1))).trans (hHeld.1)
         have HS1_ := (hb.cell (World.block_lt_of_cell? _ _ (hHeld.2.1))).trans (hHeld.2.1)
         have HS2_ := (hb.cell (World.block_lt_of_cell? _ _ (hHeld.2.2.1))).trans (hHeld.2.2.1)
         have HS3_ := (hb.cell (World.block_lt_of_cell? _ _ (hHeld.2.2.2.1))).trans (hHeld.2.2.2.1)
         have HS4_ := (hb.cell (World.block_lt_of_cell? _ _ (hHeld.2.2.2.2.1))).trans (hHeld.2.2.2.2.1)
         have HS5_ := (hb.cell (World.block_lt_of_cell? _ _ (hHeld.2.2.2.2.2.1))).trans (hHeld.2.2.2.2.2.1)
         have HS6_ := (hb.cell (World.block_lt_of_cell? _ _ (hHeld.2.2.2.2.2.2.1))).trans (hHeld.2.2.2.2.2.2.1)
         have HS7_ := (hb.cell (World.block_lt_of_cell? _ _ (hHeld.2.2.2.2.2.2.2))).trans (hHeld.2.2.2.2.2.2.2)
         refine ⟨_, rfl, ?_⟩
         have n0_ := Aside0.mk (Kd.R_below (sq_r HO_0) hb)
         have n1_ := Aside0.mk (Kept.below (S := (fun k_ => P0_ k_)) sq_k hb)
         have n2_ := Aside0.mk (below_step sq_b hb)
         clear HO_0
         clear HK
         clear HB
         have HO_0 := n0_
         have HK := n1_
         have HB := n2_
         clear n0_ n1_ n2_
         (try clear hb)
         (try clear hb2)
         (try clear hk)
         (try clear hi)
         refine hK.out _ _ ⟨HS0_, HS1_, HS2_, HS3_, HS4_, HS5_, HS6_, HS7_⟩ (fun hHeld => ?_)
         clear hK K
         refine norm_ (a' := ?_) ?_ ?_
         rotate_left
         ·show Act.put _ (some 169) _ = _
          simp only [Act.put, List.setIfInBounds_toArray, List.set_cons_zero, List.set_cons_succ, i64_w, i32_w]
          rfl
         refine pu_ 12 (some 170) #[true, true, true, true, true, true, true, true, true, true, true, true, true, false] HT_ ?_
         refine pu_ 13 (some 171) #[true, true, true, true, true, true, true, true, true, true, true, true, true, true] HT_ ?_
         refine done_ (done_of HT_.out (by kernel_rfl)) ?_
         try go_wp2
         go_roundg k2
         case measure => have := HJ60.out; have := HK2.out; omega
         case rel => exact ⟨(x20_2), (ji64), sq_e, (by first | rfl | (simp; done) | (simp [ext_bne_nil, ext_beq_nil]; done) | (simp only [← hji64] <;> (first | rfl | simp)) | (simp [*]; done)), H', ⟨by have := HJ60.out; have := HK2.out; omega⟩, ⟨by (with_reducible repeat (first | apply Kd.R_alloc | apply Kd.R_drewN | apply Kd.R_drew)); exact HO_0.out⟩, ⟨sq_k⟩, ⟨sq_b⟩⟩
        ·rw [if_neg c71] at H
         have c71b0 : decide (t286 < 0) = false := decide_eq_false c71
         clear c71
         have H' := Aside0.mk H
         clear H
         try go_wp2
         have n0_ := Aside0.mk (Kd.R_drew HO_0.out)
         have n1_ := Aside0.mk (Kept.drew HK.out)
         have n2_ := Aside0.mk (below_drew1 HB.out)
         clear HO_0
         clear HK
         clear HB
         have HO_0 := n0_
         have HK := n1_
         have HB := n2_
         clear n0_ n1_ n2_
         obtain ⟨Ao76, co76, eo76⟩ := Kd.R_slice HO_0.out
         (first | subst eo76 | (injection eo76 with f1_ f2_ f3_; have f4_ := f1_.symm; have f5_ := f3_.symm; clear f1_ f2_ f3_; subst f4_; subst f5_))
         have p284 : 0 ≤ ((ji65) : Int) := sq_d
         have q284 : (ji65) < (l0.length : Int) := sq_d
         obtain ⟨ad284, e284, hx284_0, hx284_1, hx284_2, hx284_3⟩ := at_T42 (Kd.R_reads' HO_0.out).2.2 (ji65) p284 q284
         cases e284
         replace p284 := eq_true p284
         replace q284 := eq_true q284
         have p285 : 0 ≤ ((ji64) : Int) := sq_d
         have q285 : (ji64) < (l0.length : Int) := sq_d
         obtain ⟨ad285, e285, hx285_0, hx285_1, hx285_2, hx285_3⟩ := at_T42 (Kd.R_reads' HO_0.out).2.2 (ji64) p285 q285
         obtain rfl : ad284 = ad285 := (by injection e285)
         replace p285 := eq_true p285
         replace q285 := eq_true q285
         refine start_ (n := 14) (S := fun w' => w'.cell? (ad284.add (((ji65)).toNat * 4)) = some (.string ((rd_T42 l0 (ji65)).f0)) ∧ w'.cell? ⟨(ad284.add (((ji65)).toNat * 4)).block, (ad284.add (((ji65)).toNat * 4)).off + 1, none⟩ = some (.int .i64 ((rd_T42 l0 (ji65)).f1)) ∧ w'.cell? ⟨(ad284.add (((ji65)).toNat * 4)).block, (ad284.add (((ji65)).toNat * 4)).off + 2, none⟩ = some (.bool ((rd_T42 l0 (ji65)).f2)) ∧ w'.cell? ⟨(ad284.add (((ji65)).toNat * 4)).block, (ad284.add (((ji65)).toNat * 4)).off + 3, none⟩ = some (.string ((rd_T42 l0 (ji65)).f3)) ∧ w'.cell? (ad284.add (((ji64)).toNat * 4)) = some (.string ((rd_T42 l0 (ji64)).f0)) ∧ w'.cell? ⟨(ad284.add (((ji64)).toNat * 4)).block, (ad284.add (((ji64)).toNat * 4)).off + 1, none⟩ = some (.int .i64 ((rd_T42 l0 (ji64)).f1)) ∧ w'.cell? ⟨(ad284.add (((ji64)).toNat * 4)).block, (ad284.add (((ji64)).toNat * 4)).off + 2, none⟩ = some (.bool ((rd_T42 l0 (ji64)).f2)) ∧ w'.cell? ⟨(ad284.add (((ji64)).toNat * 4)).block, (ad284.add (((ji64)).toNat * 4)).off + 3, none⟩ = some (.string ((rd_T42 l0 (ji64)).f3))) (ds := []) #[false, false, false, false, false, false, false, false, false, false, false, false, false, false] (by kernel_rfl) rfl rfl ⟨hx284_0, hx284_1, hx284_2, hx284_3, hx285_0, hx285_1, hx285_2, hx285_3⟩ (fun hHeld => ?_); refine with_tabW slices_symMergeCmpFunc_impl_Version__impl_Version_compare.tab35 slices_symMergeCmpFunc_impl_Version__impl_Version_compare.bits35 (fun HT_ HW_ => ?_)
         generalize wr.drew = w75 at HO_0 HK HB hx284_0 hx284_1 hx284_2 hx284_3 hx285_0 hx285_1 hx285_2 hx285_3 hHeld ⊢
         refine pu_ 0 (some 158) #[true, false, false, false, false, false, false, false, false, false, false, false, false, false] HT_ ?_
         refine pu_ 1 (some 159) #[true, true, false, false, false, false, false, false, false, false, false, false, false, false] HT_ ?_
         refine pu_ 2 (some 160) #[true, true, true, false, false, false, false, false, false, false, false, false, false, false] HT_ ?_
         refine pu_ 3 (some 161) #[true, true, true, true, false, false, false, false, false, false, false, false, false, false] HT_ ?_
         refine pu_ 4 (some 162) #[true, true, true, true, true, false, false, false, false, false, false, false, false, false] HT_ ?_
         refine pu_ 5 (some 163) #[true, true, true, true, true, true, false, false, false, false, false, false, false, false] HT_ ?_
         refine pu_ 7 (some 165) #[true, true, true, true, true, true, false, true, false, false, false, false, false, false] HT_ ?_
         refine pu_ 8 (some 166) #[true, true, true, true, true, true, false, true, true, false, false, false, false, false] HT_ ?_
         refine pu_ 9 (some 167) #[true, true, true, true, true, true, false, true, true, true, false, false, false, false] HT_ ?_
         refine take_ (i := 6) (N := some 164) (v := ?_) (a' := ?_) #[true, true, true, true, true, true, true, true, true, true, false, false, false, false] rfl rfl (take_ofW HT_.out HW_.out (by kernel_rfl)) (fun _ _ _ h => h) (Or.inl ⟨by rfl, ?_⟩) hHeld ?_ ?_
         rotate_left
         ·rintro w' ⟨s0, s1, s2, s3, s4, s5, s6, s7⟩
          go_simp
          with_reducible rfl
         rotate_left
         ·simp only [Act.put, List.setIfInBounds_toArray, List.set_cons_zero, List.set_cons_succ, i64_w, i32_w]
          rfl
         refine take_ (i := 10) (N := some 168) (v := ?_) (a' := ?_) #[true, true, true, true, true, true, true, true, true, true, true, false, false, false] rfl rfl (take_ofW HT_.out HW_.out (by kernel_rfl)) (fun _ _ _ h => h) (Or.inl ⟨by rfl, ?_⟩) hHeld ?_ ?_
         rotate_left
         ·rintro w' ⟨s0, s1, s2, s3, s4, s5, s6, s7⟩
          go_simp
          with_reducible rfl
         rotate_left
         ·simp only [Act.put, List.setIfInBounds_toArray, List.set_cons_zero, List.set_cons_succ, i64_w, i32_w]
          rfl
         refine one_ (i := 11) (N := some 169) #[true, true, true, true, true, true, true, true, true, true, true, true, false, false] rfl rfl (one_of HT_.out (by kernel_rfl)) (by decide) (fun K hK => ?_)
         refine goesV_ Try.func57 (by kernel_rfl) rfl #[.agg #[.string ((rd_T42 l0 (ji65)).f0), .int .i64 ((rd_T42 l0 (ji65)).f1), .bool ((rd_T42 l0 (ji65)).f2), .string ((rd_T42 l0 (ji65)).f3)], .agg #[.string ((rd_T42 l0 (ji64)).f0), .int .i64 ((rd_T42 l0 (ji64)).f1), .bool ((rd_T42 l0 (ji64)).f2), .string ((rd_T42 l0 (ji64)).f3)]] (by rfl) rfl rfl (by rfl) (by (try simp only [List.map_toArray, List.map_cons, List.map_nil]); first | done | (simp only [hji64, hji65]; rfl) | rfl | (simp only [List.length_drop, List.length_take]; rfl)) ?_
         with_reducible refine (impl_Version_compare.calls k2 ((rd_T42 l0 (ji65)).f0) ((rd_T42 l0 (ji65)).f1) ((rd_T42 l0 (ji65)).f2) ((rd_T42 l0 (ji65)).f3) ((rd_T42 l0 (ji64)).f0) ((rd_T42 l0 (ji64)).f1) ((rd_T42 l0 (ji64)).f2) ((rd_T42 l0 (ji64)).f3) t286 _ A70.out).mono ?_
         rintro e w77 ⟨rfl, hb⟩
         have HS0_ := (hb.cell (World.block_lt_of_cell? _ _ (hHeld.1))).trans (hHeld.1)
         have HS1_ := (hb.cell (World.block_lt_of_cell? _ _ (hHeld.2.1))).trans (hHeld.2.1)
         have HS2_ := (hb.cell (World.block_lt_of_cell? _ _ (hHeld.2.2.1))).trans (hHeld.2.2.1)
         have HS3_ := (hb.cell (World.block_lt_of_cell? _ _ (hHeld.2.2.2.1))).trans (hHeld.2.2.2.1)
         have HS4_ := (hb.cell (World.block_lt_of_cell? _ _ (hHeld.2.2.2.2.1))).trans (hHeld.2.2.2.2.1)
         have HS5_ := (hb.cell (World.block_lt_of_cell? _ _ (hHeld.2.2.2.2.2.1))).trans (hHeld.2.2.2.2.2.1)
         have HS6_ := (hb.cell (World.block_lt_of_cell? _ _ (hHeld.2.2.2.2.2.2.1))).trans (hHeld.2.2.2.2.2.2.1)
         have HS7_ := (hb.cell (World.block_lt_of_cell? _ _ (hHeld.2.2.2.2.2.2.2))).trans (hHeld.2.2.2.2.2.2.2)
         refine ⟨_, rfl, ?_⟩
         have n0_ := Aside0.mk (Kd.R_below (sq_r HO_0) hb)
         have n1_ := Aside0.mk (Kept.below (S := (fun k_ => P0_ k_)) sq_k hb)
         have n2_ := Aside0.mk (below_step sq_b hb)
         clear HO_0
         clear HK
         clear HB
         have HO_0 := n0_
         have HK := n1_
         have HB := n2_
         clear n0_ n1_ n2_
         (try clear hb)
         (try clear hb2)
         (try clear hk)
         (try clear hi)
         refine hK.out _ _ ⟨HS0_, HS1_, HS2_, HS3_, HS4_, HS5_, HS6_, HS7_⟩ (fun hHeld => ?_)
         clear hK K
         refine norm_ (a' := ?_) ?_ ?_
         rotate_left
         ·show Act.put _ (some 169) _ = _
          simp only [Act.put, List.setIfInBounds_toArray, List.set_cons_zero, List.set_cons_succ, i64_w, i32_w]
          rfl
         refine pu_ 12 (some 170) #[true, true, true, true, true, true, true, true, true, true, true, true, true, false] HT_ ?_
         refine pu_ 13 (some 171) #[true, true, true, true, true, true, true, true, true, true, true, true, true, true] HT_ ?_
         refine done_ (done_of HT_.out (by kernel_rfl)) ?_
         try go_wp2
         go_roundg k2
         case measure => have := HJ60.out; have := HK2.out; omega
         case rel => exact ⟨(wrap64 ((ji64) + 1)), (x21_2), (by first | rfl | (simp; done) | (simp [ext_bne_nil, ext_beq_nil]; done) | (simp only [← hji64] <;> (first | rfl | simp)) | (simp [*]; done)), sq_e, H', ⟨by have := HJ60.out; have := HK2.out; omega⟩, ⟨by (with_reducible repeat (first | apply Kd.R_alloc | apply Kd.R_drewN | apply Kd.R_drew)); exact HO_0.out⟩, ⟨sq_k⟩, ⟨sq_b⟩⟩
       ·rw [if_neg c63] at H
        have c63b0 : decide (x20_2 < x21_2) = false := decide_eq_false c63
        clear c63
        have HC78 := Aside0.mk H
        clear H
        go_upto_region 39 with (fail)
        go_cut [185] (fun v185 wc => ∃ (kq : Nat) (x185_77 : Bool), v185 = .bool x185_77 ∧ Aside0 (slices_symMergeCmpFunc_impl_Version__impl_Version_compare.j6 kq l0 a1 a2 a3 ji60 x20_2 (wrap64 ((wrap64 ((ji60) + a2)) - x20_2)) x185_77 = some r) ∧ Aside0 (kq ≤ k2) ∧ Aside0 (Kd.R k42 42 wc w0.heap.size (fun k_ => (P0_ k_ ∨ w.heap.size ≤ k_)) u9000_ l0) ∧ Aside0 (Kept w wc (fun k_ => P0_ k_)) ∧ Aside0 (Below w0.heap.size w0 wc))
        case first =>
         have H := HC78.out
         clear HC78
         by_cases c79 : x20_2 < a2
         ·rw [if_pos c79] at H
          have c79b0 : decide (x20_2 < a2) = true := decide_eq_true c79
          clear c79
          (first | rw [c79b0] | (simp only [i64_w, i32_w]; rw [c79b0]) | skip)
          have H' := Aside0.mk H
          clear H
          go_wp2
          go_meet
          case rel => exact ⟨_, (decide (a2 < (wrap64 ((wrap64 ((ji60) + a2)) - x20_2)))), (by first | rfl | (simp; done) | (simp [ext_bne_nil, ext_beq_nil]; done) | (simp only [← hji60] <;> (first | rfl | simp)) | (simp [*]; done)), H', ⟨by have := HJ60.out; have := HK2.out; first | omega | exact Nat.le_refl _⟩, ⟨by (with_reducible repeat (first | apply Kd.R_alloc | apply Kd.R_drewN | apply Kd.R_drew)); exact HO_0.out⟩, ⟨sq_k⟩, ⟨sq_b⟩⟩
         ·rw [if_neg c79] at H
          have c79b0 : decide (x20_2 < a2) = false := decide_eq_false c79
          clear c79
          (first | rw [c79b0] | (simp only [i64_w, i32_w]; rw [c79b0]) | skip)
          have H' := Aside0.mk H
          clear H
          go_wp2
          go_meet
          case rel => exact ⟨_, (false), sq_e, H', ⟨by have := HJ60.out; have := HK2.out; first | omega | exact Nat.le_refl _⟩, ⟨by (with_reducible repeat (first | apply Kd.R_alloc | apply Kd.R_drewN | apply Kd.R_drew)); exact HO_0.out⟩, ⟨sq_k⟩, ⟨sq_b⟩⟩
        case rest =>
         clear HC78
         (try clear c1); (try clear c2); (try clear p2); (try clear q2); (try clear hx2); (try clear c3); (try clear c4); (try clear c5); (try clear p5); (try clear q5); (try clear hx5); (try clear hf5); (try clear c6); (try clear c6b0); (try clear c6b1); (try clear p6); (try clear c7); (try clear c7b0); (try clear c9); (try clear c9b0); (try clear c10); (try clear c10b0); (try clear c11); (try clear c11b0)
         (try clear c12); (try clear c12b0); (try clear c14); (try clear c14b0); (try clear c21); (try clear c21b0); (try clear c23); (try clear c23b0); (try clear c24); (try clear c24b0); (try clear c25); (try clear c25b0); (try clear c26); (try clear c26b0); (try clear c27); (try clear p27); (try clear q27); (try clear hx27); (try clear hf27); (try clear c28); (try clear p28); (try clear q28); (try clear hx28)
         (try clear hf28); (try clear c31); (try clear c32); (try clear c33); (try clear c33b0); (try clear c33b1); (try clear c34); (try clear c34b0); (try clear c36); (try clear c36b0); (try clear c37); (try clear c37b0); (try clear c38); (try clear c38b0); (try clear c39); (try clear c39b0); (try clear c41); (try clear c41b0); (try clear c48); (try clear c48b0); (try clear c50); (try clear c50b0)
         (try clear c51); (try clear c51b0); (try clear c52); (try clear c52b0); (try clear c53); (try clear c53b0); (try clear c54); (try clear p54); (try clear q54); (try clear hx54); (try clear hf54); (try clear c55); (try clear p55); (try clear q55); (try clear hx55); (try clear hf55); (try clear c57); (try clear c58); (try clear c59); (try clear c62); (try clear c62b0); (try clear c63); (try clear c63b0)
         (try clear p64); (try clear c66); (try clear c66b0); (try clear c67); (try clear c67b0); (try clear c68); (try clear c68b0); (try clear c69); (try clear c69b0); (try clear c71); (try clear c71b0); (try clear c79); (try clear c79b0); (try clear hx270_0); (try clear hx270_1); (try clear hx270_2); (try clear hx270_3); (try clear hx271_0); (try clear hx271_1); (try clear hx271_2); (try clear hx271_3)
         (try clear hx273_0); (try clear hx273_1); (try clear hx273_2); (try clear hx273_3); (try clear hx274_0); (try clear hx274_1); (try clear hx274_2); (try clear hx274_3); (try clear hx277_0); (try clear hx277_1); (try clear hx277_2); (try clear hx277_3); (try clear hx278_0); (try clear hx278_1); (try clear hx278_2); (try clear hx278_3); (try clear hx27_0); (try clear hx27_1); (try clear hx27_2)
         (try clear hx27_3); (try clear hx280_0); (try clear hx280_1); (try clear hx280_2); (try clear hx280_3); (try clear hx281_0); (try clear hx281_1); (try clear hx281_2); (try clear hx281_3); (try clear hx284_0); (try clear hx284_1); (try clear hx284_2); (try clear hx284_3); (try clear hx285_0); (try clear hx285_1); (try clear hx285_2); (try clear hx285_3); (try clear hx28_0); (try clear hx28_1)
         (try clear hx28_2); (try clear hx28_3); (try clear hx54_0); (try clear hx54_1); (try clear hx54_2); (try clear hx54_3); (try clear hx55_0); (try clear hx55_1); (try clear hx55_2); (try clear hx55_3); (try clear p2); (try clear p27); (try clear p270); (try clear p271); (try clear p273); (try clear p274); (try clear p277); (try clear p278); (try clear p28); (try clear p280); (try clear p281)
         (try clear p284); (try clear p285); (try clear p5); (try clear p54); (try clear p55); (try clear p6); (try clear q2); (try clear q27); (try clear q270); (try clear q271); (try clear q273); (try clear q274); (try clear q277); (try clear q278); (try clear q28); (try clear q280); (try clear q281); (try clear q284); (try clear q285); (try clear q5); (try clear q54); (try clear q55)
         obtain ⟨kq, x185_77, rfl, HA, HJ77, HO_0, HK, HB⟩ := hcut
         cases kq with
         | zero => exact absurd HA.out (by simp [slices_symMergeCmpFunc_impl_Version__impl_Version_compare.j6])
         | succ kj77 =>
          have H := HA.out
          clear HA
          simp only [slices_symMergeCmpFunc_impl_Version__impl_Version_compare.j6] at H
          have HC80 := Aside0.mk H
          clear H
          go_upto_if 185 with (fail)
          go_cut [] (fun wc => ∃ (kq : Nat) (x0_79 : List (S42)), Aside0 (slices_symMergeCmpFunc_impl_Version__impl_Version_compare.j7 kq x0_79 a1 a3 ji60 x20_2 (wrap64 ((wrap64 ((ji60) + a2)) - x20_2)) = some r) ∧ Aside0 (kq ≤ kj77) ∧ Aside0 (Kd.R k42 42 wc w0.heap.size (fun k_ => (P0_ k_ ∨ w.heap.size ≤ k_)) u9000_ x0_79) ∧ Aside0 (Kept w wc (fun k_ => P0_ k_)) ∧ Aside0 (Below w0.heap.size w0 wc))
          case first =>
           have H := HC80.out
           clear HC80
           by_cases c81 : x185_77 = true
           ·subst c81
            have H1 : ((slices_rotateCmpFunc_impl_Version__impl_Version_compare.f kj77 l0 x20_2 a2 (wrap64 ((wrap64 ((ji60) + a2)) - x20_2))).bind fun t287 => (slices_symMergeCmpFunc_impl_Version__impl_Version_compare.j7 kj77 t287 a1 a3 ji60 x20_2 (wrap64 ((wrap64 ((ji60) + a2)) - x20_2)))) = some r := by rw [if_pos rfl] at H; exact H
            clear H
            have H := H1
            clear H1
            replace H := Option.bind_eq_some_iff.mp H
            obtain ⟨t287, A820, H⟩ := H
            replace H : (slices_symMergeCmpFunc_impl_Version__impl_Version_compare.j7 kj77 t287 a1 a3 ji60 x20_2 (wrap64 ((wrap64 ((ji60) + a2)) - x20_2))) = some r := H
            have A82 := Aside0.mk A820
            clear A820
            have H' := Aside0.mk H
            clear H
            obtain ⟨Ao83, co83, eo83⟩ := Kd.R_slice HO_0.out
            subst eo83
            go_wp2_with (first | ((with_reducible refine gate_callee (f := 76) rfl ?_); refine goesL_ (some 191) rfl rfl Try.func76 (by kernel_rfl) rfl #[.slice Ao83 l0.length co83, .int .i64 x20_2, .int .i64 a2, .int .i64 (wrap64 ((wrap64 ((ji60) + a2)) - x20_2)), .func (.func 57) #[] #[]] rfl (by (try simp only [List.map_toArray, List.map_cons, List.map_nil]); first | done | (simp only [hji60]; rfl) | rfl | (simp only [List.length_drop, List.length_take]; rfl)) ?_; (with_reducible refine (slices_rotateCmpFunc_impl_Version__impl_Version_compare.calls kj77 (fun k_ => some k_ = (.slice Ao83 l0.length co83 : Value).ownBlock) (.slice Ao83 l0.length co83) l0 x20_2 a2 (wrap64 ((wrap64 ((ji60) + a2)) - x20_2))  t287 w0 _ ?side1 ?side2 A82.out).mono ?_); (case side1 => repeat (first | (with_reducible first | exact HB.out | apply below_alloc | apply pw_below_drewN | apply below_drew1) | exact HB.out)); (case side2 => exact Kd.R_tight rfl HO_0.out); rintro e w84 ⟨rfl, hy0, hb, hkp⟩; refine ⟨_, rfl, ?_⟩; have n0_ := Aside0.mk (Kd.R_reok rfl hy0 (fun k_ e_ => HO_0.out.1 k_ e_)); have n1_ := Aside0.mk (Kept.then_ (S := (fun k_ => P0_ k_)) sq_k hkp (fun k_ hs_ => (fun e_ => (HO_0.out.1 k_ e_.symm)) hs_)); have n2_ := Aside0.mk (hb); clear HO_0; clear HK; clear HB; have HO_0 := n0_; have HK := n1_; have HB := n2_; clear n0_ n1_ n2_; (try clear hb); (try clear hkp); (try clear hy0)))
            go_meet
            case rel => exact ⟨_, (t287), H', ⟨by have := HJ60.out; have := HK2.out; have := HJ77.out; first | omega | exact Nat.le_refl _⟩, ⟨by (with_reducible repeat (first | apply Kd.R_alloc | apply Kd.R_drewN | apply Kd.R_drew)); exact HO_0.out⟩, ⟨sq_k⟩, ⟨sq_b⟩⟩
           ·replace c81 := Bool.eq_false_iff.mpr c81
            subst c81
            have H1 : (slices_symMergeCmpFunc_impl_Version__impl_Version_compare.j7 kj77 l0 a1 a3 ji60 x20_2 (wrap64 ((wrap64 ((ji60) + a2)) - x20_2))) = some r := by rw [if_neg (show ¬ (false = true) by decide)] at H; exact H
            clear H
            have H := H1
            clear H1
            have H' := Aside0.mk H
            clear H
            go_wp2
            go_meet
            case rel => exact ⟨_, (l0), H', ⟨by have := HJ60.out; have := HK2.out; have := HJ77.out; first | omega | exact Nat.le_refl _⟩, ⟨by (with_reducible repeat (first | apply Kd.R_alloc | apply Kd.R_drewN | apply Kd.R_drew)); exact HO_0.out⟩, ⟨sq_k⟩, ⟨sq_b⟩⟩
          case rest => as_aux_lemma =>
           clear HC80
           (try clear c1); (try clear c2); (try clear p2); (try clear q2); (try clear hx2); (try clear c3); (try clear c4); (try clear c5); (try clear p5); (try clear q5); (try clear hx5); (try clear hf5); (try clear c6); (try clear c6b0); (try clear c6b1); (try clear p6); (try clear c7); (try clear c7b0); (try clear c8); (try clear c9); (try clear c9b0); (try clear c10); (try clear c10b0); (try clear c11)
           (try clear c11b0); (try clear c12); (try clear c12b0); (try clear c14); (try clear c14b0); (try clear c21); (try clear c21b0); (try clear c23); (try clear c23b0); (try clear c24); (try clear c24b0); (try clear c25); (try clear c25b0); (try clear c26); (try clear c26b0); (try clear c27); (try clear p27); (try clear q27); (try clear hx27); (try clear hf27); (try clear c28); (try clear p28)
           (try clear q28); (try clear hx28); (try clear hf28); (try clear c31); (try clear c32); (try clear c33); (try clear c33b0); (try clear c33b1); (try clear c34); (try clear c34b0); (try clear c36); (try clear c36b0); (try clear c37); (try clear c37b0); (try clear c38); (try clear c38b0); (try clear c39); (try clear c39b0); (try clear c41); (try clear c41b0); (try clear c48); (try clear c48b0)
           (try clear c50); (try clear c50b0); (try clear c51); (try clear c51b0); (try clear c52); (try clear c52b0); (try clear c53); (try clear c53b0); (try clear c54); (try clear p54); (try clear q54); (try clear hx54); (try clear hf54); (try clear c55); (try clear p55); (try clear q55); (try clear hx55); (try clear hf55); (try clear c57); (try clear c58); (try clear c59); (try clear c62); (try clear c62b0)
           (try clear c63); (try clear c63b0); (try clear p64); (try clear c66); (try clear c66b0); (try clear c67); (try clear c67b0); (try clear c68); (try clear c68b0); (try clear c69); (try clear c69b0); (try clear c71); (try clear c71b0); (try clear c79); (try clear c79b0); (try clear c81); (try clear hx270_0); (try clear hx270_1); (try clear hx270_2); (try clear hx270_3); (try clear hx271_0)
           (try clear hx271_1); (try clear hx271_2); (try clear hx271_3); (try clear hx273_0); (try clear hx273_1); (try clear hx273_2); (try clear hx273_3); (try clear hx274_0); (try clear hx274_1); (try clear hx274_2); (try clear hx274_3); (try clear hx277_0); (try clear hx277_1); (try clear hx277_2); (try clear hx277_3); (try clear hx278_0); (try clear hx278_1); (try clear hx278_2); (try clear hx278_3)
           (try clear hx27_0); (try clear hx27_1); (try clear hx27_2); (try clear hx27_3); (try clear hx280_0); (try clear hx280_1); (try clear hx280_2); (try clear hx280_3); (try clear hx281_0); (try clear hx281_1); (try clear hx281_2); (try clear hx281_3); (try clear hx284_0); (try clear hx284_1); (try clear hx284_2); (try clear hx284_3); (try clear hx285_0); (try clear hx285_1); (try clear hx285_2)
           (try clear hx285_3); (try clear hx28_0); (try clear hx28_1); (try clear hx28_2); (try clear hx28_3); (try clear hx54_0); (try clear hx54_1); (try clear hx54_2); (try clear hx54_3); (try clear hx55_0); (try clear hx55_1); (try clear hx55_2); (try clear hx55_3); (try clear p2); (try clear p27); (try clear p270); (try clear p271); (try clear p273); (try clear p274); (try clear p277); (try clear p278)
           (try clear p28); (try clear p280); (try clear p281); (try clear p284); (try clear p285); (try clear p5); (try clear p54); (try clear p55); (try clear p6); (try clear p64); (try clear q2); (try clear q27); (try clear q270); (try clear q271); (try clear q273); (try clear q274); (try clear q277); (try clear q278); (try clear q28); (try clear q280); (try clear q281); (try clear q284); (try clear q285)
           (try clear q5); (try clear q54); (try clear q55)
           obtain ⟨kq, x0_79, HA, HJ79, HO_0, HK, HB⟩ := hcut
           cases kq with
           | zero => exact absurd HA.out (by simp [slices_symMergeCmpFunc_impl_Version__impl_Version_compare.j7])
           | succ kj79 =>
            have H := HA.out
            clear HA
            simp only [slices_symMergeCmpFunc_impl_Version__impl_Version_compare.j7] at H
            have HC85 := Aside0.mk H
            clear H
            go_upto_region 41 with (fail)
            go_cut [199] (fun v199 wc => ∃ (kq : Nat) (x199_84 : Bool), v199 = .bool x199_84 ∧ Aside0 (slices_symMergeCmpFunc_impl_Version__impl_Version_compare.j8 kq x0_79 a1 a3 ji60 x20_2 (wrap64 ((wrap64 ((ji60) + a2)) - x20_2)) x199_84 = some r) ∧ Aside0 (kq ≤ kj79) ∧ Aside0 (Kd.R k42 42 wc w0.heap.size (fun k_ => (P0_ k_ ∨ w.heap.size ≤ k_)) u9000_ x0_79) ∧ Aside0 (Kept w wc (fun k_ => P0_ k_)) ∧ Aside0 (Below w0.heap.size w0 wc))
            case first =>
             have H := HC85.out
             clear HC85
             by_cases c86 : a1 < x20_2
             ·rw [if_pos c86] at H
              have c86b0 : decide (a1 < x20_2) = true := decide_eq_true c86
              clear c86
              (first | rw [c86b0] | (simp only [i64_w, i32_w]; rw [c86b0]) | skip)
              have H' := Aside0.mk H
              clear H
              go_wp2
              go_meet
              case rel => exact ⟨_, (decide (x20_2 < ji60)), (by first | rfl | (simp; done) | (simp [ext_bne_nil, ext_beq_nil]; done) | (simp only [← hji60] <;> (first | rfl | simp)) | (simp [*]; done)), H', ⟨by have := HJ60.out; have := HK2.out; have := HJ77.out; have := HJ79.out; first | omega | exact Nat.le_refl _⟩, ⟨by (with_reducible repeat (first | apply Kd.R_alloc | apply Kd.R_drewN | apply Kd.R_drew)); exact HO_0.out⟩, ⟨sq_k⟩, ⟨sq_b⟩⟩
             ·rw [if_neg c86] at H
              have c86b0 : decide (a1 < x20_2) = false := decide_eq_false c86
              clear c86
              (first | rw [c86b0] | (simp only [i64_w, i32_w]; rw [c86b0]) | skip)
              have H' := Aside0.mk H
              clear H
              go_wp2
              go_meet
              case rel => exact ⟨_, (false), sq_e, H', ⟨by have := HJ60.out; have := HK2.out; have := HJ77.out; have := HJ79.out; first | omega | exact Nat.le_refl _⟩, ⟨by (with_reducible repeat (first | apply Kd.R_alloc | apply Kd.R_drewN | apply Kd.R_drew)); exact HO_0.out⟩, ⟨sq_k⟩, ⟨sq_b⟩⟩
            case rest =>
             clear HC85
             (try clear c1); (try clear c2); (try clear p2); (try clear q2); (try clear hx2); (try clear c3); (try clear c4); (try clear c5); (try clear p5); (try clear q5); (try clear hx5); (try clear hf5); (try clear c6); (try clear c6b0); (try clear c6b1); (try clear p6); (try clear c7); (try clear c7b0); (try clear c8); (try clear c9); (try clear c9b0); (try clear c10); (try clear c10b0); (try clear c11)
             (try clear c11b0); (try clear c12); (try clear c12b0); (try clear c14); (try clear c14b0); (try clear c21); (try clear c21b0); (try clear c23); (try clear c23b0); (try clear c24); (try clear c24b0); (try clear c25); (try clear c25b0); (try clear c26); (try clear c26b0); (try clear c27); (try clear p27); (try clear q27); (try clear hx27); (try clear hf27); (try clear c28); (try clear p28)
             (try clear q28); (try clear hx28); (try clear hf28); (try clear c31); (try clear c32); (try clear c33); (try clear c33b0); (try clear c33b1); (try clear c34); (try clear c34b0); (try clear c36); (try clear c36b0); (try clear c37); (try clear c37b0); (try clear c38); (try clear c38b0); (try clear c39); (try clear c39b0); (try clear c41); (try clear c41b0); (try clear c48); (try clear c48b0)
             (try clear c50); (try clear c50b0); (try clear c51); (try clear c51b0); (try clear c52); (try clear c52b0); (try clear c53); (try clear c53b0); (try clear c54); (try clear p54); (try clear q54); (try clear hx54); (try clear hf54); (try clear c55); (try clear p55); (try clear q55); (try clear hx55); (try clear hf55); (try clear c57); (try clear c58); (try clear c59); (try clear c62); (try clear c62b0)
             (try clear c63); (try clear c63b0); (try clear p64); (try clear c66); (try clear c66b0); (try clear c67); (try clear c67b0); (try clear c68); (try clear c68b0); (try clear c69); (try clear c69b0); (try clear c71); (try clear c71b0); (try clear c79); (try clear c79b0); (try clear c81); (try clear c86); (try clear c86b0); (try clear hx270_0); (try clear hx270_1); (try clear hx270_2); (try clear hx270_3)
             (try clear hx271_0); (try clear hx271_1); (try clear hx271_2); (try clear hx271_3); (try clear hx273_0); (try clear hx273_1); (try clear hx273_2); (try clear hx273_3); (try clear hx274_0); (try clear hx274_1); (try clear hx274_2); (try clear hx274_3); (try clear hx277_0); (try clear hx277_1); (try clear hx277_2); (try clear hx277_3); (try clear hx278_0); (try clear hx278_1); (try clear hx278_2)
             (try clear hx278_3); (try clear hx27_0); (try clear hx27_1); (try clear hx27_2); (try clear hx27_3); (try clear hx280_0); (try clear hx280_1); (try clear hx280_2); (try clear hx280_3); (try clear hx281_0); (try clear hx281_1); (try clear hx281_2); (try clear hx281_3); (try clear hx284_0); (try clear hx284_1); (try clear hx284_2); (try clear hx284_3); (try clear hx285_0); (try clear hx285_1)
             (try clear hx285_2); (try clear hx285_3); (try clear hx28_0); (try clear hx28_1); (try clear hx28_2); (try clear hx28_3); (try clear hx54_0); (try clear hx54_1); (try clear hx54_2); (try clear hx54_3); (try clear hx55_0); (try clear hx55_1); (try clear hx55_2); (try clear hx55_3); (try clear p2); (try clear p27); (try clear p270); (try clear p271); (try clear p273); (try clear p274); (try clear p277)
             (try clear p278); (try clear p28); (try clear p280); (try clear p281); (try clear p284); (try clear p285); (try clear p5); (try clear p54); (try clear p55); (try clear p6); (try clear p64); (try clear q2); (try clear q27); (try clear q270); (try clear q271); (try clear q273); (try clear q274); (try clear q277); (try clear q278); (try clear q28); (try clear q280); (try clear q281); (try clear q284)
             (try clear q285); (try clear q5); (try clear q54); (try clear q55)
             obtain ⟨kq, x199_84, rfl, HA, HJ84, HO_0, HK, HB⟩ := hcut
             cases kq with
             | zero => exact absurd HA.out (by simp [slices_symMergeCmpFunc_impl_Version__impl_Version_compare.j8])
             | succ kj84 =>
              have H := HA.out
              clear HA
              simp only [slices_symMergeCmpFunc_impl_Version__impl_Version_compare.j8] at H
              by_cases c87 : x199_84 = true
              ·subst c87
               have H1 : ((slices_symMergeCmpFunc_impl_Version__impl_Version_compare.f kj84 x0_79 a1 x20_2 ji60).bind fun t288 => (if ji60 < (wrap64 ((wrap64 ((ji60) + a2)) - x20_2)) then (if (wrap64 ((wrap64 ((ji60) + a2)) - x20_2)) < a3 then ((slices_symMergeCmpFunc_impl_Version__impl_Version_compare.f kj84 t288 ji60 (wrap64 ((wrap64 ((ji60) + a2)) - x20_2)) a3).bind fun t289 => (some t289)) else (some t288)) else (some t288))) = some r := by rw [if_pos rfl] at H; exact H
               clear H
               have H := H1
               clear H1
               replace H := Option.bind_eq_some_iff.mp H
               obtain ⟨t288, A880, H⟩ := H
               replace H : (if ji60 < (wrap64 ((wrap64 ((ji60) + a2)) - x20_2)) then (if (wrap64 ((wrap64 ((ji60) + a2)) - x20_2)) < a3 then ((slices_symMergeCmpFunc_impl_Version__impl_Version_compare.f kj84 t288 ji60 (wrap64 ((wrap64 ((ji60) + a2)) - x20_2)) a3).bind fun t289 => (some t289)) else (some t288)) else (some t288)) = some r := H
               have A88 := Aside0.mk A880
               clear A880
               by_cases c89 : ji60 < (wrap64 ((wrap64 ((ji60) + a2)) - x20_2))
               ·rw [if_pos c89] at H
                have c89b0 : decide (ji60 < (wrap64 ((wrap64 ((ji60) + a2)) - x20_2))) = true := decide_eq_true c89
                clear c89
                by_cases c90 : (wrap64 ((wrap64 ((ji60) + a2)) - x20_2)) < a3
                ·rw [if_pos c90] at H
                 have c90b0 : decide ((wrap64 ((wrap64 ((ji60) + a2)) - x20_2)) < a3) = true := decide_eq_true c90
                 clear c90
                 replace H := Option.bind_eq_some_iff.mp H
                 obtain ⟨t289, A910, H⟩ := H
                 replace H : (some t289) = some r := H
                 have A91 := Aside0.mk A910
                 clear A910
                 obtain rfl := Option.some.inj H
                 obtain ⟨Ao92, co92, eo92⟩ := Kd.R_slice HO_0.out
                 subst eo92
                 go_wp2_with (first | ((with_reducible refine gate_callee (f := 73) rfl ?_); refine goesL_ (some 205) rfl rfl Try.func73 (by kernel_rfl) rfl #[.slice Ao92 x0_79.length co92, .int .i64 a1, .int .i64 x20_2, .int .i64 ji60, .func (.func 57) #[] #[]] rfl (by (try simp only [List.map_toArray, List.map_cons, List.map_nil]); first | done | (simp only [hji60]; rfl) | rfl | (simp only [List.length_drop, List.length_take]; rfl)) ?_; (with_reducible refine (ih kj84 (by have := HJ60.out; have := HK2.out; have := HJ77.out; have := HJ79.out; have := HJ84.out; omega) (fun k_ => some k_ = (.slice Ao92 x0_79.length co92 : Value).ownBlock) (.slice Ao92 x0_79.length co92) x0_79 a1 x20_2 ji60  t288 w0 _ ?side1 ?side2 A88.out).mono ?_); (case side1 => repeat (first | (with_reducible first | exact HB.out | apply below_alloc | apply pw_below_drewN | apply below_drew1) | exact HB.out)); (case side2 => exact Kd.R_tight rfl HO_0.out); rintro e w93 ⟨rfl, hy0, hb, hkp⟩; refine ⟨_, rfl, ?_⟩; have n0_ := Aside0.mk (Kd.R_reok rfl hy0 (fun k_ e_ => HO_0.out.1 k_ e_)); have n1_ := Aside0.mk (Kept.then_ (S := (fun k_ => P0_ k_)) sq_k hkp (fun k_ hs_ => (fun e_ => (HO_0.out.1 k_ e_.symm)) hs_)); have n2_ := Aside0.mk (hb); clear HO_0; clear HK; clear HB; have HO_0 := n0_; have HK := n1_; have HB := n2_; clear n0_ n1_ n2_; (try clear hb); (try clear hkp); (try clear hy0)) | ((with_reducible refine gate_callee (f := 73) rfl ?_); refine goesL_ (some 219) rfl rfl Try.func73 (by kernel_rfl) rfl #[.slice Ao92 x0_79.length co92, .int .i64 ji60, .int .i64 (wrap64 ((wrap64 ((ji60) + a2)) - x20_2)), .int .i64 a3, .func (.func 57) #[] #[]] rfl (by (try simp only [List.map_toArray, List.map_cons, List.map_nil]); first | done | (simp only [hji60]; rfl) | rfl | (simp only [List.length_drop, List.length_take]; rfl)) ?_; (with_reducible refine (ih kj84 (by have := HJ60.out; have := HK2.out; have := HJ77.out; have := HJ79.out; have := HJ84.out; omega) (fun k_ => some k_ = (.slice Ao92 x0_79.length co92 : Value).ownBlock) (.slice Ao92 x0_79.length co92) t288 ji60 (wrap64 ((wrap64 ((ji60) + a2)) - x20_2)) a3  t289 w0 _ ?side1 ?side2 A91.out).mono ?_); (case side1 => repeat (first | (with_reducible first | exact HB.out | apply below_alloc | apply pw_below_drewN | apply below_drew1) | exact HB.out)); (case side2 => exact Kd.R_tight rfl HO_0.out); rintro e w94 ⟨rfl, hy0, hb, hkp⟩; refine ⟨_, rfl, ?_⟩; have n0_ := Aside0.mk (Kd.R_reok rfl hy0 (fun k_ e_ => HO_0.out.1 k_ e_)); have n1_ := Aside0.mk (Kept.then_ (S := (fun k_ => P0_ k_)) sq_k hkp (fun k_ hs_ => (fun e_ => (HO_0.out.1 k_ e_.symm)) hs_)); have n2_ := Aside0.mk (hb); clear HO_0; clear HK; clear HB; have HO_0 := n0_; have HK := n1_; have HB := n2_; clear n0_ n1_ n2_; (try clear hb); (try clear hkp); (try clear hy0)))
                 first | go_end0 | ((try simp only [Exit.inBlock, Exit.then]); refine bodyPost_ret (results_none rfl _ _ _) rfl ?_)
                 exact ⟨by first | rfl | (simp [errW_none, errW_some] <;> rfl) | (simp only [← hji60]; first | rfl | (simp [errW_none, errW_some] <;> rfl)) | (simp [errW_none, errW_some, ext_bne_nil, ext_beq_nil]; done) | (simp [*, errW_none, errW_some] <;> rfl), sq_r HO_0, sq_b, sq_k⟩
                ·rw [if_neg c90] at H
                 have c90b0 : decide ((wrap64 ((wrap64 ((ji60) + a2)) - x20_2)) < a3) = false := decide_eq_false c90
                 clear c90
                 obtain rfl := Option.some.inj H
                 obtain ⟨Ao95, co95, eo95⟩ := Kd.R_slice HO_0.out
                 subst eo95
                 go_wp2_with (first | ((with_reducible refine gate_callee (f := 73) rfl ?_); refine goesL_ (some 205) rfl rfl Try.func73 (by kernel_rfl) rfl #[.slice Ao95 x0_79.length co95, .int .i64 a1, .int .i64 x20_2, .int .i64 ji60, .func (.func 57) #[] #[]] rfl (by (try simp only [List.map_toArray, List.map_cons, List.map_nil]); first | done | (simp only [hji60]; rfl) | rfl | (simp only [List.length_drop, List.length_take]; rfl)) ?_; (with_reducible refine (ih kj84 (by have := HJ60.out; have := HK2.out; have := HJ77.out; have := HJ79.out; have := HJ84.out; omega) (fun k_ => some k_ = (.slice Ao95 x0_79.length co95 : Value).ownBlock) (.slice Ao95 x0_79.length co95) x0_79 a1 x20_2 ji60  t288 w0 _ ?side1 ?side2 A88.out).mono ?_); (case side1 => repeat (first | (with_reducible first | exact HB.out | apply below_alloc | apply pw_below_drewN | apply below_drew1) | exact HB.out)); (case side2 => exact Kd.R_tight rfl HO_0.out); rintro e w96 ⟨rfl, hy0, hb, hkp⟩; refine ⟨_, rfl, ?_⟩; have n0_ := Aside0.mk (Kd.R_reok rfl hy0 (fun k_ e_ => HO_0.out.1 k_ e_)); have n1_ := Aside0.mk (Kept.then_ (S := (fun k_ => P0_ k_)) sq_k hkp (fun k_ hs_ => (fun e_ => (HO_0.out.1 k_ e_.symm)) hs_)); have n2_ := Aside0.mk (hb); clear HO_0; clear HK; clear HB; have HO_0 := n0_; have HK := n1_; have HB := n2_; clear n0_ n1_ n2_; (try clear hb); (try clear hkp); (try clear hy0)))
                 first | go_end0 | ((try simp only [Exit.inBlock, Exit.then]); refine bodyPost_ret (results_none rfl _ _ _) rfl ?_)
                 exact ⟨by first | rfl | (simp [errW_none, errW_some] <;> rfl) | (simp only [← hji60]; first | rfl | (simp [errW_none, errW_some] <;> rfl)) | (simp [errW_none, errW_some, ext_bne_nil, ext_beq_nil]; done) | (simp [*, errW_none, errW_some] <;> rfl), sq_r HO_0, sq_b, sq_k⟩
               ·rw [if_neg c89] at H
                have c89b0 : decide (ji60 < (wrap64 ((wrap64 ((ji60) + a2)) - x20_2))) = false := decide_eq_false c89
                clear c89
                obtain rfl := Option.some.inj H
                obtain ⟨Ao97, co97, eo97⟩ := Kd.R_slice HO_0.out
                subst eo97
                go_wp2_with (first | ((with_reducible refine gate_callee (f := 73) rfl ?_); refine goesL_ (some 205) rfl rfl Try.func73 (by kernel_rfl) rfl #[.slice Ao97 x0_79.length co97, .int .i64 a1, .int .i64 x20_2, .int .i64 ji60, .func (.func 57) #[] #[]] rfl (by (try simp only [List.map_toArray, List.map_cons, List.map_nil]); first | done | (simp only [hji60]; rfl) | rfl | (simp only [List.length_drop, List.length_take]; rfl)) ?_; (with_reducible refine (ih kj84 (by have := HJ60.out; have := HK2.out; have := HJ77.out; have := HJ79.out; have := HJ84.out; omega) (fun k_ => some k_ = (.slice Ao97 x0_79.length co97 : Value).ownBlock) (.slice Ao97 x0_79.length co97) x0_79 a1 x20_2 ji60  t288 w0 _ ?side1 ?side2 A88.out).mono ?_); (case side1 => repeat (first | (with_reducible first | exact HB.out | apply below_alloc | apply pw_below_drewN | apply below_drew1) | exact HB.out)); (case side2 => exact Kd.R_tight rfl HO_0.out); rintro e w98 ⟨rfl, hy0, hb, hkp⟩; refine ⟨_, rfl, ?_⟩; have n0_ := Aside0.mk (Kd.R_reok rfl hy0 (fun k_ e_ => HO_0.out.1 k_ e_)); have n1_ := Aside0.mk (Kept.then_ (S := (fun k_ => P0_ k_)) sq_k hkp (fun k_ hs_ => (fun e_ => (HO_0.out.1 k_ e_.symm)) hs_)); have n2_ := Aside0.mk (hb); clear HO_0; clear HK; clear HB; have HO_0 := n0_; have HK := n1_; have HB := n2_; clear n0_ n1_ n2_; (try clear hb); (try clear hkp); (try clear hy0)))
                first | go_end0 | ((try simp only [Exit.inBlock, Exit.then]); refine bodyPost_ret (results_none rfl _ _ _) rfl ?_)
                exact ⟨by first | rfl | (simp [errW_none, errW_some] <;> rfl) | (simp only [← hji60]; first | rfl | (simp [errW_none, errW_some] <;> rfl)) | (simp [errW_none, errW_some, ext_bne_nil, ext_beq_nil]; done) | (simp [*, errW_none, errW_some] <;> rfl), sq_r HO_0, sq_b, sq_k⟩
              ·replace c87 := Bool.eq_false_iff.mpr c87
               subst c87
               have H1 : (if ji60 < (wrap64 ((wrap64 ((ji60) + a2)) - x20_2)) then (if (wrap64 ((wrap64 ((ji60) + a2)) - x20_2)) < a3 then ((slices_symMergeCmpFunc_impl_Version__impl_Version_compare.f kj84 x0_79 ji60 (wrap64 ((wrap64 ((ji60) + a2)) - x20_2)) a3).bind fun t290 => (some t290)) else (some x0_79)) else (some x0_79)) = some r := by rw [if_neg (show ¬ (false = true) by decide)] at H; exact H
               clear H
               have H := H1
               clear H1
               by_cases c99 : ji60 < (wrap64 ((wrap64 ((ji60) + a2)) - x20_2))
               ·rw [if_pos c99] at H
                have c99b0 : decide (ji60 < (wrap64 ((wrap64 ((ji60) + a2)) - x20_2))) = true := decide_eq_true c99
                clear c99
                by_cases c100 : (wrap64 ((wrap64 ((ji60) + a2)) - x20_2)) < a3
                ·rw [if_pos c100] at H
                 have c100b0 : decide ((wrap64 ((wrap64 ((ji60) + a2)) - x20_2)) < a3) = true := decide_eq_true c100
                 clear c100
                 replace H := Option.bind_eq_some_iff.mp H
                 obtain ⟨t290, A1010, H⟩ := H
                 replace H : (some t290) = some r := H
                 have A101 := Aside0.mk A1010
                 clear A1010
                 obtain rfl := Option.some.inj H
                 obtain ⟨Ao102, co102, eo102⟩ := Kd.R_slice HO_0.out
                 subst eo102
                 go_wp2_with (first | ((with_reducible refine gate_callee (f := 73) rfl ?_); refine goesL_ (some 219) rfl rfl Try.func73 (by kernel_rfl) rfl #[.slice Ao102 x0_79.length co102, .int .i64 ji60, .int .i64 (wrap64 ((wrap64 ((ji60) + a2)) - x20_2)), .int .i64 a3, .func (.func 57) #[] #[]] rfl (by (try simp only [List.map_toArray, List.map_cons, List.map_nil]); first | done | (simp only [hji60]; rfl) | rfl | (simp only [List.length_drop, List.length_take]; rfl)) ?_; (with_reducible refine (ih kj84 (by have := HJ60.out; have := HK2.out; have := HJ77.out; have := HJ79.out; have := HJ84.out; omega) (fun k_ => some k_ = (.slice Ao102 x0_79.length co102 : Value).ownBlock) (.slice Ao102 x0_79.length co102) x0_79 ji60 (wrap64 ((wrap64 ((ji60) + a2)) - x20_2)) a3  t290 w0 _ ?side1 ?side2 A101.out).mono ?_); (case side1 => repeat (first | (with_reducible first | exact HB.out | apply below_alloc | apply pw_below_drewN | apply below_drew1) | exact HB.out)); (case side2 => exact Kd.R_tight rfl HO_0.out); rintro e w103 ⟨rfl, hy0, hb, hkp⟩; refine ⟨_, rfl, ?_⟩; have n0_ := Aside0.mk (Kd.R_reok rfl hy0 (fun k_ e_ => HO_0.out.1 k_ e_)); have n1_ := Aside0.mk (Kept.then_ (S := (fun k_ => P0_ k_)) sq_k hkp (fun k_ hs_ => (fun e_ => (HO_0.out.1 k_ e_.symm)) hs_)); have n2_ := Aside0.mk (hb); clear HO_0; clear HK; clear HB; have HO_0 := n0_; have HK := n1_; have HB := n2_; clear n0_ n1_ n2_; (try clear hb); (try clear hkp); (try clear hy0)))
                 first | go_end0 | ((try simp only [Exit.inBlock, Exit.then]); refine bodyPost_ret (results_none rfl _ _ _) rfl ?_)
                 exact ⟨by first | rfl | (simp [errW_none, errW_some] <;> rfl) | (simp only [← hji60]; first | rfl | (simp [errW_none, errW_some] <;> rfl)) | (simp [errW_none, errW_some, ext_bne_nil, ext_beq_nil]; done) | (simp [*, errW_none, errW_some] <;> rfl), sq_r HO_0, sq_b, sq_k⟩
                ·rw [if_neg c100] at H
                 have c100b0 : decide ((wrap64 ((wrap64 ((ji60) + a2)) - x20_2)) < a3) = false := decide_eq_false c100
                 clear c100
                 obtain rfl := Option.some.inj H
                 go_wp2
                 first | go_end0 | ((try simp only [Exit.inBlock, Exit.then]); refine bodyPost_ret (results_none rfl _ _ _) rfl ?_)
                 exact ⟨by first | rfl | (simp [errW_none, errW_some] <;> rfl) | (simp only [← hji60]; first | rfl | (simp [errW_none, errW_some] <;> rfl)) | (simp [errW_none, errW_some, ext_bne_nil, ext_beq_nil]; done) | (simp [*, errW_none, errW_some] <;> rfl), sq_r HO_0, sq_b, sq_k⟩
               ·rw [if_neg c99] at H
                have c99b0 : decide (ji60 < (wrap64 ((wrap64 ((ji60) + a2)) - x20_2))) = false := decide_eq_false c99
                clear c99
                obtain rfl := Option.some.inj H
                go_wp2
                first | go_end0 | ((try simp only [Exit.inBlock, Exit.then]); refine bodyPost_ret (results_none rfl _ _ _) rfl ?_)
                exact ⟨by first | rfl | (simp [errW_none, errW_some] <;> rfl) | (simp only [← hji60]; first | rfl | (simp [errW_none, errW_some] <;> rfl)) | (simp [errW_none, errW_some, ext_bne_nil, ext_beq_nil]; done) | (simp [*, errW_none, errW_some] <;> rfl), sq_r HO_0, sq_b, sq_k⟩

end Go.Proofs.Ytpfjlnfgekeobaa.QFnExactMergeVersions
