-- Written by this session's own program (wip/pp_patch.py, wip/pp.sh) out of the given translation. Not trusted: Lean checks it.
import Derived.Test.YtabfkalcjfjkiaaQFnBestx0
import Derived.Test.YtabfkalcjfjkiaaQFnBestx4
import Derived.Test.YtabfkalcjfjkiaaQFnBestx5
import Derived.Test.YtabfkalcjfjkiaaQFnBestx7
import Derived.Test.YtabfkalcjfjkiaaQFnBestx9
import Derived.Test.YtabfkalcjfjkiaaQFnBestx11
import Derived.Test.YtabfkalcjfjkiaaQFnBestx12
import Derived.Test.YtabfkalcjfjkiaaQFnBestx13
namespace Go.Proofs.Ytabfkalcjfjkiaa.QFnBest
open Go.RowKit Go.Proofs.YtabfkalcjfjkiaaW.PrintWords Go.Proofs.YtabfkalcjfjkiaaW.PrintLast Go.Proofs.YtabfkalcjfjkiaaW.PrintMore
attribute [local go_sem] max2_int min2_int max_two min_two max_three min_three max_four min_four   -- for this text's walks alone
open Go.Proofs.Ytabfkalcjfjkiaa.Ext
attribute [local go_sem high] ext_gtr ext_leq
set_option linter.unusedVariables false
set_option linter.unusedSimpArgs false

/-! ### laws_FnBest: function 3 -/
mutual
def laws_FnBest.j0 : Nat → List Int → List (List (S33)) → Int → List (S33) → Int → Bool → List (S33) → Bool → Bool → Option (Bool)
 | 0, _, _, _, _, _, _, _, _, _ => none
 | k + 1, x1, x5, x6, x7, x8, x9, x13, x14, x102 => if x102 = true then (some false) else (if x9 = true then (if x14 = true then ((laws_sameScores.f k x7 x13).bind fun t443 => (if t443 = true then (if x8 > 20 then (laws_FnBest.j1 k x1 x5 x6 x13 true) else (laws_FnBest.j1 k x1 x5 x6 x13 (decide ((x13.length : Int) > x6)))) else (laws_FnBest.j1 k x1 x5 x6 x13 true))) else (laws_FnBest.j1 k x1 x5 x6 x13 true)) else (laws_FnBest.j9 k x1))
def laws_FnBest.j9 : Nat → List Int → Option (Bool)
 | 0, _ => none
 | k + 1, x1 => (spec_DrawTotalOf.f k x1).bind fun bt457 => ((impl_TotalOf.f k bt457.1 bt457.2).bind fun bt461 => ((spec_TotalOf.f k bt457.1 bt457.2).bind fun bt463 => ((spec_DrawBoundAt.f k x1).bind fun bt465 => ((impl_BoundAt.f k bt465.1 bt465.2).bind fun bt469 => ((spec_BoundAt.f k bt465.1 bt465.2).bind fun bt471 => ((spec_DrawGoodRow.f k x1).bind fun t473 => (if (bt461.2 == bt463.2) = true then (if bt461.1 = bt463.1 then (if (bt469.2 == bt471.2) = true then (if bt469.1 = bt471.1 then ((impl_GoodRow.f k t473).bind fun t476 => ((spec_GoodRow.f k t473).bind fun t477 => (laws_FnBest.j10 k (t476 == t477)))) else (laws_FnBest.j10 k false)) else (laws_FnBest.j10 k false)) else (laws_FnBest.j10 k false)) else (laws_FnBest.j10 k false))))))))
def laws_FnBest.j10 : Nat → Bool → Option (Bool)
 | 0, _ => none
 | k + 1, x4 => some x4
def laws_FnBest.j1 : Nat → List Int → List (List (S33)) → Int → List (S33) → Bool → Option (Bool)
 | 0, _, _, _, _, _ => none
 | k + 1, x1, x5, x6, x13, x121 => if x121 = true then (some false) else (laws_FnBest.l0 k x1 x5 x6 x13 x13 (x13.length : Int) 0)
def laws_FnBest.l0 : Nat → List Int → List (List (S33)) → Int → List (S33) → List (S33) → Int → Int → Option (Bool)
 | 0, _, _, _, _, _, _, _ => none
 | k + 1, x1, x5, x6, x13, x122, x123, x124 => if x124 < x123 then (if 0 ≤ x124 then (if x124 < (x122.length : Int) then ((impl_TotalOf.f k x5 ((rd_T33 x122 x124).f0)).bind fun bt446 => (if bt446.2 = true then (if bt446.1 = ((rd_T33 x122 x124).f1) then (if x124 > 0 then (if 0 ≤ (wrap64 (x124 - 1)) then (if (wrap64 (x124 - 1)) < (x13.length : Int) then (if ((rd_T33 x13 (wrap64 (x124 - 1))).f1) < ((rd_T33 x122 x124).f1) then (laws_FnBest.j3 k x1 x5 x6 x13 x122 x123 x124 true) else (if ((rd_T33 x13 (wrap64 (x124 - 1))).f1) = ((rd_T33 x122 x124).f1) then (laws_FnBest.j3 k x1 x5 x6 x13 x122 x123 x124 (decide (((rd_T33 x13 (wrap64 (x124 - 1))).f0) ≥ ((rd_T33 x122 x124).f0)))) else (laws_FnBest.j3 k x1 x5 x6 x13 x122 x123 x124 false))) else (none)) else (none)) else (laws_FnBest.j3 k x1 x5 x6 x13 x122 x123 x124 false)) else (laws_FnBest.j3 k x1 x5 x6 x13 x122 x123 x124 true)) else (laws_FnBest.j3 k x1 x5 x6 x13 x122 x123 x124 true))) else (none)) else (none)) else (laws_FnBest.l1 k x1 x5 x6 x13 0)
def laws_FnBest.j3 : Nat → List Int → List (List (S33)) → Int → List (S33) → List (S33) → Int → Int → Bool → Option (Bool)
 | 0, _, _, _, _, _, _, _, _ => none
 | k + 1, x1, x5, x6, x13, x122, x123, x124, x180 => if x180 = true then (some false) else (laws_FnBest.l0 k x1 x5 x6 x13 x122 x123 (wrap64 (x124 + 1)))
def laws_FnBest.l1 : Nat → List Int → List (List (S33)) → Int → List (S33) → Int → Option (Bool)
 | 0, _, _, _, _, _ => none
 | k + 1, x1, x5, x6, x13, x21 => if x21 < 100 then (laws_FnBest.j5 k x1 x5 x6 x13 x21 ((x13.length : Int) == x6)) else (laws_FnBest.j5 k x1 x5 x6 x13 x21 false)
def laws_FnBest.j5 : Nat → List Int → List (List (S33)) → Int → List (S33) → Int → Bool → Option (Bool)
 | 0, _, _, _, _, _, _ => none
 | k + 1, x1, x5, x6, x13, x21, x189 => if x189 = true then ((impl_TotalOf.f k x5 x21).bind fun bt451 => (laws_FnBest.l2 k x1 x5 x6 x13 x21 bt451.1 bt451.2 false x13 (x13.length : Int) 0)) else (laws_FnBest.j9 k x1)
def laws_FnBest.l2 : Nat → List Int → List (List (S33)) → Int → List (S33) → Int → Int → Bool → Bool → List (S33) → Int → Int → Option (Bool)
 | 0, _, _, _, _, _, _, _, _, _, _, _ => none
 | k + 1, x1, x5, x6, x13, x21, x22, x23, x24, x198, x199, x200 => if x200 < x199 then (if 0 ≤ x200 then (if x200 < (x198.length : Int) then (if x24 = true then (laws_FnBest.j7 k x1 x5 x6 x13 x21 x22 x23 true x198 x199 x200) else (laws_FnBest.j7 k x1 x5 x6 x13 x21 x22 x23 (((rd_T33 x198 x200).f0) == x21) x198 x199 x200)) else (none)) else (none)) else (if 0 ≤ (wrap64 (x6 - 1)) then (if (wrap64 (x6 - 1)) < (x13.length : Int) then (if x23 = true then (if x24 = true then (laws_FnBest.j8 k x1 x5 x6 x13 x21 false) else (if x22 > ((rd_T33 x13 (wrap64 (x6 - 1))).f1) then (laws_FnBest.j8 k x1 x5 x6 x13 x21 true) else (if x22 = ((rd_T33 x13 (wrap64 (x6 - 1))).f1) then (laws_FnBest.j8 k x1 x5 x6 x13 x21 (decide (x21 < ((rd_T33 x13 (wrap64 (x6 - 1))).f0)))) else (laws_FnBest.j8 k x1 x5 x6 x13 x21 false)))) else (laws_FnBest.j8 k x1 x5 x6 x13 x21 true)) else (none)) else (none))
def laws_FnBest.j7 : Nat → List Int → List (List (S33)) → Int → List (S33) → Int → Int → Bool → Bool → List (S33) → Int → Int → Option (Bool)
 | 0, _, _, _, _, _, _, _, _, _, _, _ => none
 | k + 1, x1, x5, x6, x13, x21, x22, x23, x24, x198, x199, x200 => laws_FnBest.l2 k x1 x5 x6 x13 x21 x22 x23 x24 x198 x199 (wrap64 (x200 + 1))
def laws_FnBest.j8 : Nat → List Int → List (List (S33)) → Int → List (S33) → Int → Bool → Option (Bool)
 | 0, _, _, _, _, _, _ => none
 | k + 1, x1, x5, x6, x13, x21, x240 => if x240 = true then (some false) else (laws_FnBest.l1 k x1 x5 x6 x13 (wrap64 (x21 + 1)))
end
def laws_FnBest.f (k : Nat) (l0 : List Int) (l1 : List Int) : Option (Bool) := if (wrap64 ((l0.length : Int) + (l1.length : Int))) > 1048576 then (some true) else ((spec_DrawThreshold.f k l0).bind fun bt419 => ((impl_Threshold.f k bt419.1 bt419.2).bind fun bt423 => ((spec_Threshold.f k bt419.1 bt419.2).bind fun bt428 => ((impl_BestFew.f k bt419.1 bt419.2).bind fun bt433 => ((spec_BestFew.f k bt419.1 bt419.2).bind fun bt437 => (if (bt423.2.2 != bt428.2.2) = true then (laws_FnBest.j0 k l1 bt419.1 bt419.2 bt423.1 bt423.2.1 bt423.2.2 bt433.1 bt433.2 true) else (if bt423.2.1 = bt428.2.1 then ((laws_sameScores.f k bt423.1 bt428.1).bind fun t441 => (if t441 = true then (if (bt433.2 != bt437.2) = true then (laws_FnBest.j0 k l1 bt419.1 bt419.2 bt423.1 bt423.2.1 bt423.2.2 bt433.1 bt433.2 true) else ((laws_sameScores.f k bt433.1 bt437.1).bind fun t442 => (laws_FnBest.j0 k l1 bt419.1 bt419.2 bt423.1 bt423.2.1 bt423.2.2 bt433.1 bt433.2 (!t442)))) else (laws_FnBest.j0 k l1 bt419.1 bt419.2 bt423.1 bt423.2.1 bt423.2.2 bt433.1 bt433.2 true))) else (laws_FnBest.j0 k l1 bt419.1 bt419.2 bt423.1 bt423.2.1 bt423.2.2 bt433.1 bt433.2 true))))))))
theorem laws_FnBest.mono_l : ∀ k, (∀ y0 y1 y2 y3 y4 y5 y6 y7 y8, LeO (laws_FnBest.j0 k y0 y1 y2 y3 y4 y5 y6 y7 y8) (laws_FnBest.j0 (k + 1) y0 y1 y2 y3 y4 y5 y6 y7 y8)) ∧ (∀ y0, LeO (laws_FnBest.j9 k y0) (laws_FnBest.j9 (k + 1) y0)) ∧ (∀ y0, LeO (laws_FnBest.j10 k y0) (laws_FnBest.j10 (k + 1) y0)) ∧ (∀ y0 y1 y2 y3 y4, LeO (laws_FnBest.j1 k y0 y1 y2 y3 y4) (laws_FnBest.j1 (k + 1) y0 y1 y2 y3 y4)) ∧ (∀ y0 y1 y2 y3 y4 y5 y6, LeO (laws_FnBest.l0 k y0 y1 y2 y3 y4 y5 y6) (laws_FnBest.l0 (k + 1) y0 y1 y2 y3 y4 y5 y6)) ∧ (∀ y0 y1 y2 y3 y4 y5 y6 y7, LeO (laws_FnBest.j3 k y0 y1 y2 y3 y4 y5 y6 y7) (laws_FnBest.j3 (k + 1) y0 y1 y2 y3 y4 y5 y6 y7)) ∧ (∀ y0 y1 y2 y3 y4, LeO (laws_FnBest.l1 k y0 y1 y2 y3 y4) (laws_FnBest.l1 (k + 1) y0 y1 y2 y3 y4)) ∧ (∀ y0 y1 y2 y3 y4 y5, LeO (laws_FnBest.j5 k y0 y1 y2 y3 y4 y5) (laws_FnBest.j5 (k + 1) y0 y1 y2 y3 y4 y5)) ∧ (∀ y0 y1 y2 y3 y4 y5 y6 y7 y8 y9 y10, LeO (laws_FnBest.l2 k y0 y1 y2 y3 y4 y5 y6 y7 y8 y9 y10) (laws_FnBest.l2 (k + 1) y0 y1 y2 y3 y4 y5 y6 y7 y8 y9 y10)) ∧ (∀ y0 y1 y2 y3 y4 y5 y6 y7 y8 y9 y10, LeO (laws_FnBest.j7 k y0 y1 y2 y3 y4 y5 y6 y7 y8 y9 y10) (laws_FnBest.j7 (k + 1) y0 y1 y2 y3 y4 y5 y6 y7 y8 y9 y10)) ∧ (∀ y0 y1 y2 y3 y4 y5, LeO (laws_FnBest.j8 k y0 y1 y2 y3 y4 y5) (laws_FnBest.j8 (k + 1) y0 y1 y2 y3 y4 y5))
 | 0 => ⟨fun _ _ _ _ _ _ _ _ _ r h => by simp [laws_FnBest.j0] at h, fun _ r h => by simp [laws_FnBest.j9] at h, fun _ r h => by simp [laws_FnBest.j10] at h, fun _ _ _ _ _ r h => by simp [laws_FnBest.j1] at h, fun _ _ _ _ _ _ _ r h => by simp [laws_FnBest.l0] at h, fun _ _ _ _ _ _ _ _ r h => by simp [laws_FnBest.j3] at h, fun _ _ _ _ _ r h => by simp [laws_FnBest.l1] at h, fun _ _ _ _ _ _ r h => by simp [laws_FnBest.j5] at h, fun _ _ _ _ _ _ _ _ _ _ _ r h => by simp [laws_FnBest.l2] at h, fun _ _ _ _ _ _ _ _ _ _ _ r h => by simp [laws_FnBest.j7] at h, fun _ _ _ _ _ _ r h => by simp [laws_FnBest.j8] at h⟩
 | k + 1 => by
  obtain ⟨ih0, ih1, ih2, ih3, ih4, ih5, ih6, ih7, ih8, ih9, ih10⟩ := laws_FnBest.mono_l k
  refine ⟨?_, ?_, ?_, ?_, ?_, ?_, ?_, ?_, ?_, ?_, ?_⟩
  ·intro y0 y1 y2 y3 y4 y5 y6 y7 y8
   unfold laws_FnBest.j0
   repeat' first
   | (with_reducible exact ih0 _ _ _ _ _ _ _ _ _)
   | (with_reducible exact ih1 _)
   | (with_reducible exact ih2 _)
   | (with_reducible exact ih3 _ _ _ _ _)
   | (with_reducible exact ih4 _ _ _ _ _ _ _)
   | (with_reducible exact ih5 _ _ _ _ _ _ _ _)
   | (with_reducible exact ih6 _ _ _ _ _)
   | (with_reducible exact ih7 _ _ _ _ _ _)
   | (with_reducible exact ih8 _ _ _ _ _ _ _ _ _ _ _)
   | (with_reducible exact ih9 _ _ _ _ _ _ _ _ _ _ _)
   | (with_reducible exact ih10 _ _ _ _ _ _)
   | (with_reducible exact impl_BestFew.mono _ _ _)
   | (with_reducible exact impl_BoundAt.mono _ _ _)
   | (with_reducible exact impl_GoodRow.mono _ _)
   | (with_reducible exact impl_Threshold.mono _ _ _)
   | (with_reducible exact impl_TotalOf.mono _ _ _)
   | (with_reducible exact laws_sameScores.mono _ _ _)
   | (with_reducible exact spec_BestFew.mono _ _ _)
   | (with_reducible exact spec_BoundAt.mono _ _ _)
   | (with_reducible exact spec_DrawBoundAt.mono _ _)
   | (with_reducible exact spec_DrawGoodRow.mono _ _)
   | (with_reducible exact spec_DrawThreshold.mono _ _)
   | (with_reducible exact spec_DrawTotalOf.mono _ _)
   | (with_reducible exact spec_GoodRow.mono _ _)
   | (with_reducible exact spec_Threshold.mono _ _ _)
   | (with_reducible exact spec_TotalOf.mono _ _ _)
   | (with_reducible exact LeO.refl _)
   | (with_reducible exact LeO.none _)
   | (with_reducible refine LeO.ite ?_ ?_)
   | (with_reducible refine LeO.bind ?_ (fun _ => ?_))
   | exact ih0 _ _ _ _ _ _ _ _ _
   | exact ih1 _
   | exact ih2 _
   | exact ih3 _ _ _ _ _
   | exact ih4 _ _ _ _ _ _ _
   | exact ih5 _ _ _ _ _ _ _ _
   | exact ih6 _ _ _ _ _
   | exact ih7 _ _ _ _ _ _
   | exact ih8 _ _ _ _ _ _ _ _ _ _ _
   | exact ih9 _ _ _ _ _ _ _ _ _ _ _
   | exact ih10 _ _ _ _ _ _
   | exact impl_BestFew.mono _ _ _
   | exact impl_BoundAt.mono _ _ _
   | exact impl_GoodRow.mono _ _
   | exact impl_Threshold.mono _ _ _
   | exact impl_TotalOf.mono _ _ _
   | exact laws_sameScores.mono _ _ _
   | exact spec_BestFew.mono _ _ _
   | exact spec_BoundAt.mono _ _ _
   | exact spec_DrawBoundAt.mono _ _
   | exact spec_DrawGoodRow.mono _ _
   | exact spec_DrawThreshold.mono _ _
   | exact spec_DrawTotalOf.mono _ _
   | exact spec_GoodRow.mono _ _
   | exact spec_Threshold.mono _ _ _
   | exact spec_TotalOf.mono _ _ _
   | exact LeO.none _
   | refine LeO.ite ?_ ?_
   | refine LeO.bind ?_ (fun _ => ?_)
  ·intro y0
   unfold laws_FnBest.j9
   repeat' first
   | (with_reducible exact ih0 _ _ _ _ _ _ _ _ _)
   | (with_reducible exact ih1 _)
   | (with_reducible exact ih2 _)
   | (with_reducible exact ih3 _ _ _ _ _)
   | (with_reducible exact ih4 _ _ _ _ _ _ _)
   | (with_reducible exact ih5 _ _ _ _ _ _ _ _)
   | (with_reducible exact ih6 _ _ _ _ _)
   | (with_reducible exact ih7 _ _ _ _ _ _)
   | (with_reducible exact ih8 _ _ _ _ _ _ _ _ _ _ _)
   | (with_reducible exact ih9 _ _ _ _ _ _ _ _ _ _ _)
   | (with_reducible exact ih10 _ _ _ _ _ _)
   | (with_reducible exact impl_BestFew.mono _ _ _)
   | (with_reducible exact impl_BoundAt.mono _ _ _)
   | (with_reducible exact impl_GoodRow.mono _ _)
   | (with_reducible exact impl_Threshold.mono _ _ _)
   | (with_reducible exact impl_TotalOf.mono _ _ _)
   | (with_reducible exact laws_sameScores.mono _ _ _)
   | (with_reducible exact spec_BestFew.mono _ _ _)
   | (with_reducible exact spec_BoundAt.mono _ _ _)
   | (with_reducible exact spec_DrawBoundAt.mono _ _)
   | (with_reducible exact spec_DrawGoodRow.mono _ _)
   | (with_reducible exact spec_DrawThreshold.mono _ _)
   | (with_reducible exact spec_DrawTotalOf.mono _ _)
   | (with_reducible exact spec_GoodRow.mono _ _)
   | (with_reducible exact spec_Threshold.mono _ _ _)
   | (with_reducible exact spec_TotalOf.mono _ _ _)
   | (with_reducible exact LeO.refl _)
   | (with_reducible exact LeO.none _)
   | (with_reducible refine LeO.ite ?_ ?_)
   | (with_reducible refine LeO.bind ?_ (fun _ => ?_))
   | exact ih0 _ _ _ _ _ _ _ _ _
   | exact ih1 _
   | exact ih2 _
   | exact ih3 _ _ _ _ _
   | exact ih4 _ _ _ _ _ _ _
   | exact ih5 _ _ _ _ _ _ _ _
   | exact ih6 _ _ _ _ _
   | exact ih7 _ _ _ _ _ _
   | exact ih8 _ _ _ _ _ _ _ _ _ _ _
   | exact ih9 _ _ _ _ _ _ _ _ _ _ _
   | exact ih10 _ _ _ _ _ _
   | exact impl_BestFew.mono _ _ _
   | exact impl_BoundAt.mono _ _ _
   | exact impl_GoodRow.mono _ _
   | exact impl_Threshold.mono _ _ _
   | exact impl_TotalOf.mono _ _ _
   | exact laws_sameScores.mono _ _ _
   | exact spec_BestFew.mono _ _ _
   | exact spec_BoundAt.mono _ _ _
   | exact spec_DrawBoundAt.mono _ _
   | exact spec_DrawGoodRow.mono _ _
   | exact spec_DrawThreshold.mono _ _
   | exact spec_DrawTotalOf.mono _ _
   | exact spec_GoodRow.mono _ _
   | exact spec_Threshold.mono _ _ _
   | exact spec_TotalOf.mono _ _ _
   | exact LeO.none _
   | refine LeO.ite ?_ ?_
   | refine LeO.bind ?_ (fun _ => ?_)
  ·intro y0
   unfold laws_FnBest.j10
   repeat' first
   | (with_reducible exact ih0 _ _ _ _ _ _ _ _ _)
   | (with_reducible exact ih1 _)
   | (with_reducible exact ih2 _)
   | (with_reducible exact ih3 _ _ _ _ _)
   | (with_reducible exact ih4 _ _ _ _ _ _ _)
   | (with_reducible exact ih5 _ _ _ _ _ _ _ _)
   | (with_reducible exact ih6 _ _ _ _ _)
   | (with_reducible exact ih7 _ _ _ _ _ _)
   | (with_reducible exact ih8 _ _ _ _ _ _ _ _ _ _ _)
   | (with_reducible exact ih9 _ _ _ _ _ _ _ _ _ _ _)
   | (with_reducible exact ih10 _ _ _ _ _ _)
   | (with_reducible exact impl_BestFew.mono _ _ _)
   | (with_reducible exact impl_BoundAt.mono _ _ _)
   | (with_reducible exact impl_GoodRow.mono _ _)
   | (with_reducible exact impl_Threshold.mono _ _ _)
   | (with_reducible exact impl_TotalOf.mono _ _ _)
   | (with_reducible exact laws_sameScores.mono _ _ _)
   | (with_reducible exact spec_BestFew.mono _ _ _)
   | (with_reducible exact spec_BoundAt.mono _ _ _)
   | (with_reducible exact spec_DrawBoundAt.mono _ _)
   | (with_reducible exact spec_DrawGoodRow.mono _ _)
   | (with_reducible exact spec_DrawThreshold.mono _ _)
   | (with_reducible exact spec_DrawTotalOf.mono _ _)
   | (with_reducible exact spec_GoodRow.mono _ _)
   | (with_reducible exact spec_Threshold.mono _ _ _)
   | (with_reducible exact spec_TotalOf.mono _ _ _)
   | (with_reducible exact LeO.refl _)
   | (with_reducible exact LeO.none _)
   | (with_reducible refine LeO.ite ?_ ?_)
   | (with_reducible refine LeO.bind ?_ (fun _ => ?_))
   | exact ih0 _ _ _ _ _ _ _ _ _
   | exact ih1 _
   | exact ih2 _
   | exact ih3 _ _ _ _ _
   | exact ih4 _ _ _ _ _ _ _
   | exact ih5 _ _ _ _ _ _ _ _
   | exact ih6 _ _ _ _ _
   | exact ih7 _ _ _ _ _ _
   | exact ih8 _ _ _ _ _ _ _ _ _ _ _
   | exact ih9 _ _ _ _ _ _ _ _ _ _ _
   | exact ih10 _ _ _ _ _ _
   | exact impl_BestFew.mono _ _ _
   | exact impl_BoundAt.mono _ _ _
   | exact impl_GoodRow.mono _ _
   | exact impl_Threshold.mono _ _ _
   | exact impl_TotalOf.mono _ _ _
   | exact laws_sameScores.mono _ _ _
   | exact spec_BestFew.mono _ _ _
   | exact spec_BoundAt.mono _ _ _
   | exact spec_DrawBoundAt.mono _ _
   | exact spec_DrawGoodRow.mono _ _
   | exact spec_DrawThreshold.mono _ _
   | exact spec_DrawTotalOf.mono _ _
   | exact spec_GoodRow.mono _ _
   | exact spec_Threshold.mono _ _ _
   | exact spec_TotalOf.mono _ _ _
   | exact LeO.none _
   | refine LeO.ite ?_ ?_
   | refine LeO.bind ?_ (fun _ => ?_)
  ·intro y0 y1 y2 y3 y4
   unfold laws_FnBest.j1
   repeat' first
   | (with_reducible exact ih0 _ _ _ _ _ _ _ _ _)
   | (with_reducible exact ih1 _)
   | (with_reducible exact ih2 _)
   | (with_reducible exact ih3 _ _ _ _ _)
   | (with_reducible exact ih4 _ _ _ _ _ _ _)
   | (with_reducible exact ih5 _ _ _ _ _ _ _ _)
   | (with_reducible exact ih6 _ _ _ _ _)
   | (with_reducible exact ih7 _ _ _ _ _ _)
   | (with_reducible exact ih8 _ _ _ _ _ _ _ _ _ _ _)
   | (with_reducible exact ih9 _ _ _ _ _ _ _ _ _ _ _)
   | (with_reducible exact ih10 _ _ _ _ _ _)
   | (with_reducible exact impl_BestFew.mono _ _ _)
   | (with_reducible exact impl_BoundAt.mono _ _ _)
   | (with_reducible exact impl_GoodRow.mono _ _)
   | (with_reducible exact impl_Threshold.mono _ _ _)
   | (with_reducible exact impl_TotalOf.mono _ _ _)
   | (with_reducible exact laws_sameScores.mono _ _ _)
   | (with_reducible exact spec_BestFew.mono _ _ _)
   | (with_reducible exact spec_BoundAt.mono _ _ _)
   | (with_reducible exact spec_DrawBoundAt.mono _ _)
   | (with_reducible exact spec_DrawGoodRow.mono _ _)
   | (with_reducible exact spec_DrawThreshold.mono _ _)
   | (with_reducible exact spec_DrawTotalOf.mono _ _)
   | (with_reducible exact spec_GoodRow.mono _ _)
   | (with_reducible exact spec_Threshold.mono _ _ _)
   | (with_reducible exact spec_TotalOf.mono _ _ _)
   | (with_reducible exact LeO.refl _)
   | (with_reducible exact LeO.none _)
   | (with_reducible refine LeO.ite ?_ ?_)
   | (with_reducible refine LeO.bind ?_ (fun _ => ?_))
   | exact ih0 _ _ _ _ _ _ _ _ _
   | exact ih1 _
   | exact ih2 _
   | exact ih3 _ _ _ _ _
   | exact ih4 _ _ _ _ _ _ _
   | exact ih5 _ _ _ _ _ _ _ _
   | exact ih6 _ _ _ _ _
   | exact ih7 _ _ _ _ _ _
   | exact ih8 _ _ _ _ _ _ _ _ _ _ _
   | exact ih9 _ _ _ _ _ _ _ _ _ _ _
   | exact ih10 _ _ _ _ _ _
   | exact impl_BestFew.mono _ _ _
   | exact impl_BoundAt.mono _ _ _
   | exact impl_GoodRow.mono _ _
   | exact impl_Threshold.mono _ _ _
   | exact impl_TotalOf.mono _ _ _
   | exact laws_sameScores.mono _ _ _
   | exact spec_BestFew.mono _ _ _
   | exact spec_BoundAt.mono _ _ _
   | exact spec_DrawBoundAt.mono _ _
   | exact spec_DrawGoodRow.mono _ _
   | exact spec_DrawThreshold.mono _ _
   | exact spec_DrawTotalOf.mono _ _
   | exact spec_GoodRow.mono _ _
   | exact spec_Threshold.mono _ _ _
   | exact spec_TotalOf.mono _ _ _
   | exact LeO.none _
   | refine LeO.ite ?_ ?_
   | refine LeO.bind ?_ (fun _ => ?_)
  ·intro y0 y1 y2 y3 y4 y5 y6
   unfold laws_FnBest.l0
   repeat' first
   | (with_reducible exact ih0 _ _ _ _ _ _ _ _ _)
   | (with_reducible exact ih1 _)
   | (with_reducible exact ih2 _)
   | (with_reducible exact ih3 _ _ _ _ _)
   | (with_reducible exact ih4 _ _ _ _ _ _ _)
   | (with_reducible exact ih5 _ _ _ _ _ _ _ _)
   | (with_reducible exact ih6 _ _ _ _ _)
   | (with_reducible exact ih7 _ _ _ _ _ _)
   | (with_reducible exact ih8 _ _ _ _ _ _ _ _ _ _ _)
   | (with_reducible exact ih9 _ _ _ _ _ _ _ _ _ _ _)
   | (with_reducible exact ih10 _ _ _ _ _ _)
   | (with_reducible exact impl_BestFew.mono _ _ _)
   | (with_reducible exact impl_BoundAt.mono _ _ _)
   | (with_reducible exact impl_GoodRow.mono _ _)
   | (with_reducible exact impl_Threshold.mono _ _ _)
   | (with_reducible exact impl_TotalOf.mono _ _ _)
   | (with_reducible exact laws_sameScores.mono _ _ _)
   | (with_reducible exact spec_BestFew.mono _ _ _)
   | (with_reducible exact spec_BoundAt.mono _ _ _)
   | (with_reducible exact spec_DrawBoundAt.mono _ _)
   | (with_reducible exact spec_DrawGoodRow.mono _ _)
   | (with_reducible exact spec_DrawThreshold.mono _ _)
   | (with_reducible exact spec_DrawTotalOf.mono _ _)
   | (with_reducible exact spec_GoodRow.mono _ _)
   | (with_reducible exact spec_Threshold.mono _ _ _)
   | (with_reducible exact spec_TotalOf.mono _ _ _)
   | (with_reducible exact LeO.refl _)
   | (with_reducible exact LeO.none _)
   | (with_reducible refine LeO.ite ?_ ?_)
   | (with_reducible refine LeO.bind ?_ (fun _ => ?_))
   | exact ih0 _ _ _ _ _ _ _ _ _
   | exact ih1 _
   | exact ih2 _
   | exact ih3 _ _ _ _ _
   | exact ih4 _ _ _ _ _ _ _
   | exact ih5 _ _ _ _ _ _ _ _
   | exact ih6 _ _ _ _ _
   | exact ih7 _ _ _ _ _ _
   | exact ih8 _ _ _ _ _ _ _ _ _ _ _
   | exact ih9 _ _ _ _ _ _ _ _ _ _ _
   | exact ih10 _ _ _ _ _ _
   | exact impl_BestFew.mono _ _ _
   | exact impl_BoundAt.mono _ _ _
   | exact impl_GoodRow.mono _ _
   | exact impl_Threshold.mono _ _ _
   | exact impl_TotalOf.mono _ _ _
   | exact laws_sameScores.mono _ _ _
   | exact spec_BestFew.mono _ _ _
   | exact spec_BoundAt.mono _ _ _
   | exact spec_DrawBoundAt.mono _ _
   | exact spec_DrawGoodRow.mono _ _
   | exact spec_DrawThreshold.mono _ _
   | exact spec_DrawTotalOf.mono _ _
   | exact spec_GoodRow.mono _ _
   | exact spec_Threshold.mono _ _ _
   | exact spec_TotalOf.mono _ _ _
   | exact LeO.none _
   | refine LeO.ite ?_ ?_
   | refine LeO.bind ?_ (fun _ => ?_)
  ·intro y0 y1 y2 y3 y4 y5 y6 y7
   unfold laws_FnBest.j3
   repeat' first
   | (with_reducible exact ih0 _ _ _ _ _ _ _ _ _)
   | (with_reducible exact ih1 _)
   | (with_reducible exact ih2 _)
   | (with_reducible exact ih3 _ _ _ _ _)
   | (with_reducible exact ih4 _ _ _ _ _ _ _)
   | (with_reducible exact ih5 _ _ _ _ _ _ _ _)
   | (with_reducible exact ih6 _ _ _ _ _)
   | (with_reducible exact ih7 _ _ _ _ _ _)
   | (with_reducible exact ih8 _ _ _ _ _ _ _ _ _ _ _)
   | (with_reducible exact ih9 _ _ _ _ _ _ _ _ _ _ _)
   | (with_reducible exact ih10 _ _ _ _ _ _)
   | (with_reducible exact impl_BestFew.mono _ _ _)
   | (with_reducible exact impl_BoundAt.mono _ _ _)
   | (with_reducible exact impl_GoodRow.mono _ _)
   | (with_reducible exact impl_Threshold.mono _ _ _)
   | (with_reducible exact impl_TotalOf.mono _ _ _)
   | (with_reducible exact laws_sameScores.mono _ _ _)
   | (with_reducible exact spec_BestFew.mono _ _ _)
   | (with_reducible exact spec_BoundAt.mono _ _ _)
   | (with_reducible exact spec_DrawBoundAt.mono _ _)
   | (with_reducible exact spec_DrawGoodRow.mono _ _)
   | (with_reducible exact spec_DrawThreshold.mono _ _)
   | (with_reducible exact spec_DrawTotalOf.mono _ _)
   | (with_reducible exact spec_GoodRow.mono _ _)
   | (with_reducible exact spec_Threshold.mono _ _ _)
   | (with_reducible exact spec_TotalOf.mono _ _ _)
   | (with_reducible exact LeO.refl _)
   | (with_reducible exact LeO.none _)
   | (with_reducible refine LeO.ite ?_ ?_)
   | (with_reducible refine LeO.bind ?_ (fun _ => ?_))
   | exact ih0 _ _ _ _ _ _ _ _ _
   | exact ih1 _
   | exact ih2 _
   | exact ih3 _ _ _ _ _
   | exact ih4 _ _ _ _ _ _ _
   | exact ih5 _ _ _ _ _ _ _ _
   | exact ih6 _ _ _ _ _
   | exact ih7 _ _ _ _ _ _
   | exact ih8 _ _ _ _ _ _ _ _ _ _ _
   | exact ih9 _ _ _ _ _ _ _ _ _ _ _
   | exact ih10 _ _ _ _ _ _
   | exact impl_BestFew.mono _ _ _
   | exact impl_BoundAt.mono _ _ _
   | exact impl_GoodRow.mono _ _
   | exact impl_Threshold.mono _ _ _
   | exact impl_TotalOf.mono _ _ _
   | exact laws_sameScores.mono _ _ _
   | exact spec_BestFew.mono _ _ _
   | exact spec_BoundAt.mono _ _ _
   | exact spec_DrawBoundAt.mono _ _
   | exact spec_DrawGoodRow.mono _ _
   | exact spec_DrawThreshold.mono _ _
   | exact spec_DrawTotalOf.mono _ _
   | exact spec_GoodRow.mono _ _
   | exact spec_Threshold.mono _ _ _
   | exact spec_TotalOf.mono _ _ _
   | exact LeO.none _
   | refine LeO.ite ?_ ?_
   | refine LeO.bind ?_ (fun _ => ?_)
  ·intro y0 y1 y2 y3 y4
   unfold laws_FnBest.l1
   repeat' first
   | (with_reducible exact ih0 _ _ _ _ _ _ _ _ _)
   | (with_reducible exact ih1 _)
   | (with_reducible exact ih2 _)
   | (with_reducible exact ih3 _ _ _ _ _)
   | (with_reducible exact ih4 _ _ _ _ _ _ _)
   | (with_reducible exact ih5 _ _ _ _ _ _ _ _)
   | (with_reducible exact ih6 _ _ _ _ _)
   | (with_reducible exact ih7 _ _ _ _ _ _)
   | (with_reducible exact ih8 _ _ _ _ _ _ _ _ _ _ _)
   | (with_reducible exact ih9 _ _ _ _ _ _ _ _ _ _ _)
   | (with_reducible exact ih10 _ _ _ _ _ _)
   | (with_reducible exact impl_BestFew.mono _ _ _)
   | (with_reducible exact impl_BoundAt.mono _ _ _)
   | (with_reducible exact impl_GoodRow.mono _ _)
   | (with_reducible exact impl_Threshold.mono _ _ _)
   | (with_reducible exact impl_TotalOf.mono _ _ _)
   | (with_reducible exact laws_sameScores.mono _ _ _)
   | (with_reducible exact spec_BestFew.mono _ _ _)
   | (with_reducible exact spec_BoundAt.mono _ _ _)
   | (with_reducible exact spec_DrawBoundAt.mono _ _)
   | (with_reducible exact spec_DrawGoodRow.mono _ _)
   | (with_reducible exact spec_DrawThreshold.mono _ _)
   | (with_reducible exact spec_DrawTotalOf.mono _ _)
   | (with_reducible exact spec_GoodRow.mono _ _)
   | (with_reducible exact spec_Threshold.mono _ _ _)
   | (with_reducible exact spec_TotalOf.mono _ _ _)
   | (with_reducible exact LeO.refl _)
   | (with_reducible exact LeO.none _)
   | (with_reducible refine LeO.ite ?_ ?_)
   | (with_reducible refine LeO.bind ?_ (fun _ => ?_))
   | exact ih0 _ _ _ _ _ _ _ _ _
   | exact ih1 _
   | exact ih2 _
   | exact ih3 _ _ _ _ _
   | exact ih4 _ _ _ _ _ _ _
   | exact ih5 _ _ _ _ _ _ _ _
   | exact ih6 _ _ _ _ _
   | exact ih7 _ _ _ _ _ _
   | exact ih8 _ _ _ _ _ _ _ _ _ _ _
   | exact ih9 _ _ _ _ _ _ _ _ _ _ _
   | exact ih10 _ _ _ _ _ _
   | exact impl_BestFew.mono _ _ _
   | exact impl_BoundAt.mono _ _ _
   | exact impl_GoodRow.mono _ _
   | exact impl_Threshold.mono _ _ _
   | exact impl_TotalOf.mono _ _ _
   | exact laws_sameScores.mono _ _ _
   | exact spec_BestFew.mono _ _ _
   | exact spec_BoundAt.mono _ _ _
   | exact spec_DrawBoundAt.mono _ _
   | exact spec_DrawGoodRow.mono _ _
   | exact spec_DrawThreshold.mono _ _
   | exact spec_DrawTotalOf.mono _ _
   | exact spec_GoodRow.mono _ _
   | exact spec_Threshold.mono _ _ _
   | exact spec_TotalOf.mono _ _ _
   | exact LeO.none _
   | refine LeO.ite ?_ ?_
   | refine LeO.bind ?_ (fun _ => ?_)
  ·intro y0 y1 y2 y3 y4 y5
   unfold laws_FnBest.j5
   repeat' first
   | (with_reducible exact ih0 _ _ _ _ _ _ _ _ _)
   | (with_reducible exact ih1 _)
   | (with_reducible exact ih2 _)
   | (with_reducible exact ih3 _ _ _ _ _)
   | (with_reducible exact ih4 _ _ _ _ _ _ _)
   | (with_reducible exact ih5 _ _ _ _ _ _ _ _)
   | (with_reducible exact ih6 _ _ _ _ _)
   | (with_reducible exact ih7 _ _ _ _ _ _)
   | (with_reducible exact ih8 _ _ _ _ _ _ _ _ _ _ _)
   | (with_reducible exact ih9 _ _ _ _ _ _ _ _ _ _ _)
   | (with_reducible exact ih10 _ _ _ _ _ _)
   | (with_reducible exact impl_BestFew.mono _ _ _)
   | (with_reducible exact impl_BoundAt.mono _ _ _)
   | (with_reducible exact impl_GoodRow.mono _ _)
   | (with_reducible exact impl_Threshold.mono _ _ _)
   | (with_reducible exact impl_TotalOf.mono _ _ _)
   | (with_reducible exact laws_sameScores.mono _ _ _)
   | (with_reducible exact spec_BestFew.mono _ _ _)
   | (with_reducible exact spec_BoundAt.mono _ _ _)
   | (with_reducible exact spec_DrawBoundAt.mono _ _)
   | (with_reducible exact spec_DrawGoodRow.mono _ _)
   | (with_reducible exact spec_DrawThreshold.mono _ _)
   | (with_reducible exact spec_DrawTotalOf.mono _ _)
   | (with_reducible exact spec_GoodRow.mono _ _)
   | (with_reducible exact spec_Threshold.mono _ _ _)
   | (with_reducible exact spec_TotalOf.mono _ _ _)
   | (with_reducible exact LeO.refl _)
   | (with_reducible exact LeO.none _)
   | (with_reducible refine LeO.ite ?_ ?_)
   | (with_reducible refine LeO.bind ?_ (fun _ => ?_))
   | exact ih0 _ _ _ _ _ _ _ _ _
   | exact ih1 _
   | exact ih2 _
   | exact ih3 _ _ _ _ _
   | exact ih4 _ _ _ _ _ _ _
   | exact ih5 _ _ _ _ _ _ _ _
   | exact ih6 _ _ _ _ _
   | exact ih7 _ _ _ _ _ _
   | exact ih8 _ _ _ _ _ _ _ _ _ _ _
   | exact ih9 _ _ _ _ _ _ _ _ _ _ _
   | exact ih10 _ _ _ _ _ _
   | exact impl_BestFew.mono _ _ _
   | exact impl_BoundAt.mono _ _ _
   | exact impl_GoodRow.mono _ _
   | exact impl_Threshold.mono _ _ _
   | exact impl_TotalOf.mono _ _ _
   | exact laws_sameScores.mono _ _ _
   | exact spec_BestFew.mono _ _ _
   | exact spec_BoundAt.mono _ _ _
   | exact spec_DrawBoundAt.mono _ _
   | exact spec_DrawGoodRow.mono _ _
   | exact spec_DrawThreshold.mono _ _
   | exact spec_DrawTotalOf.mono _ _
   | exact spec_GoodRow.mono _ _
   | exact spec_Threshold.mono _ _ _
   | exact spec_TotalOf.mono _ _ _
   | exact LeO.none _
   | refine LeO.ite ?_ ?_
   | refine LeO.bind ?_ (fun _ => ?_)
  ·intro y0 y1 y2 y3 y4 y5 y6 y7 y8 y9 y10
   unfold laws_FnBest.l2
   repeat' first
   | (with_reducible exact ih0 _ _ _ _ _ _ _ _ _)
   | (with_reducible exact ih1 _)
   | (with_reducible exact ih2 _)
   | (with_reducible exact ih3 _ _ _ _ _)
   | (with_reducible exact ih4 _ _ _ _ _ _ _)
   | (with_reducible exact ih5 _ _ _ _ _ _ _ _)
   | (with_reducible exact ih6 _ _ _ _ _)
   | (with_reducible exact ih7 _ _ _ _ _ _)
   | (with_reducible exact ih8 _ _ _ _ _ _ _ _ _ _ _)
   | (with_reducible exact ih9 _ _ _ _ _ _ _ _ _ _ _)
   | (with_reducible exact ih10 _ _ _ _ _ _)
   | (with_reducible exact impl_BestFew.mono _ _ _)
   | (with_reducible exact impl_BoundAt.mono _ _ _)
   | (with_reducible exact impl_GoodRow.mono _ _)
   | (with_reducible exact impl_Threshold.mono _ _ _)
   | (with_reducible exact impl_TotalOf.mono _ _ _)
   | (with_reducible exact laws_sameScores.mono _ _ _)
   | (with_reducible exact spec_BestFew.mono _ _ _)
   | (with_reducible exact spec_BoundAt.mono _ _ _)
   | (with_reducible exact spec_DrawBoundAt.mono _ _)
   | (with_reducible exact spec_DrawGoodRow.mono _ _)
   | (with_reducible exact spec_DrawThreshold.mono _ _)
   | (with_reducible exact spec_DrawTotalOf.mono _ _)
   | (with_reducible exact spec_GoodRow.mono _ _)
   | (with_reducible exact spec_Threshold.mono _ _ _)
   | (with_reducible exact spec_TotalOf.mono _ _ _)
   | (with_reducible exact LeO.refl _)
   | (with_reducible exact LeO.none _)
   | (with_reducible refine LeO.ite ?_ ?_)
   | (with_reducible refine LeO.bind ?_ (fun _ => ?_))
   | exact ih0 _ _ _ _ _ _ _ _ _
   | exact ih1 _
   | exact ih2 _
   | exact ih3 _ _ _ _ _
   | exact ih4 _ _ _ _ _ _ _
   | exact ih5 _ _ _ _ _ _ _ _
   | exact ih6 _ _ _ _ _
   | exact ih7 _ _ _ _ _ _
   | exact ih8 _ _ _ _ _ _ _ _ _ _ _
   | exact ih9 _ _ _ _ _ _ _ _ _ _ _
   | exact ih10 _ _ _ _ _ _
   | exact impl_BestFew.mono _ _ _
   | exact impl_BoundAt.mono _ _ _
   | exact impl_GoodRow.mono _ _
   | exact impl_Threshold.mono _ _ _
   | exact impl_TotalOf.mono _ _ _
   | exact laws_sameScores.mono _ _ _
   | exact spec_BestFew.mono _ _ _
   | exact spec_BoundAt.mono _ _ _
   | exact spec_DrawBoundAt.mono _ _
   | exact spec_DrawGoodRow.mono _ _
   | exact spec_DrawThreshold.mono _ _
   | exact spec_DrawTotalOf.mono _ _
   | exact spec_GoodRow.mono _ _
   | exact spec_Threshold.mono _ _ _
   | exact spec_TotalOf.mono _ _ _
   | exact LeO.none _
   | refine LeO.ite ?_ ?_
   | refine LeO.bind ?_ (fun _ => ?_)
  ·intro y0 y1 y2 y3 y4 y5 y6 y7 y8 y9 y10
   unfold laws_FnBest.j7
   repeat' first
   | (with_reducible exact ih0 _ _ _ _ _ _ _ _ _)
   | (with_reducible exact ih1 _)
   | (with_reducible exact ih2 _)
   | (with_reducible exact ih3 _ _ _ _ _)
   | (with_reducible exact ih4 _ _ _ _ _ _ _)
   | (with_reducible exact ih5 _ _ _ _ _ _ _ _)
   | (with_reducible exact ih6 _ _ _ _ _)
   | (with_reducible exact ih7 _ _ _ _ _ _)
   | (with_reducible exact ih8 _ _ _ _ _ _ _ _ _ _ _)
   | (with_reducible exact ih9 _ _ _ _ _ _ _ _ _ _ _)
   | (with_reducible exact ih10 _ _ _ _ _ _)
   | (with_reducible exact impl_BestFew.mono _ _ _)
   | (with_reducible exact impl_BoundAt.mono _ _ _)
   | (with_reducible exact impl_GoodRow.mono _ _)
   | (with_reducible exact impl_Threshold.mono _ _ _)
   | (with_reducible exact impl_TotalOf.mono _ _ _)
   | (with_reducible exact laws_sameScores.mono _ _ _)
   | (with_reducible exact spec_BestFew.mono _ _ _)
   | (with_reducible exact spec_BoundAt.mono _ _ _)
   | (with_reducible exact spec_DrawBoundAt.mono _ _)
   | (with_reducible exact spec_DrawGoodRow.mono _ _)
   | (with_reducible exact spec_DrawThreshold.mono _ _)
   | (with_reducible exact spec_DrawTotalOf.mono _ _)
   | (with_reducible exact spec_GoodRow.mono _ _)
   | (with_reducible exact spec_Threshold.mono _ _ _)
   | (with_reducible exact spec_TotalOf.mono _ _ _)
   | (with_reducible exact LeO.refl _)
   | (with_reducible exact LeO.none _)
   | (with_reducible refine LeO.ite ?_ ?_)
   | (with_reducible refine LeO.bind ?_ (fun _ => ?_))
   | exact ih0 _ _ _ _ _ _ _ _ _
   | exact ih1 _
   | exact ih2 _
   | exact ih3 _ _ _ _ _
   | exact ih4 _ _ _ _ _ _ _
   | exact ih5 _ _ _ _ _ _ _ _
   | exact ih6 _ _ _ _ _
   | exact ih7 _ _ _ _ _ _
   | exact ih8 _ _ _ _ _ _ _ _ _ _ _
   | exact ih9 _ _ _ _ _ _ _ _ _ _ _
   | exact ih10 _ _ _ _ _ _
   | exact impl_BestFew.mono _ _ _
   | exact impl_BoundAt.mono _ _ _
   | exact impl_GoodRow.mono _ _
   | exact impl_Threshold.mono _ _ _
   | exact impl_TotalOf.mono _ _ _
   | exact laws_sameScores.mono _ _ _
   | exact spec_BestFew.mono _ _ _
   | exact spec_BoundAt.mono _ _ _
   | exact spec_DrawBoundAt.mono _ _
   | exact spec_DrawGoodRow.mono _ _
   | exact spec_DrawThreshold.mono _ _
   | exact spec_DrawTotalOf.mono _ _
   | exact spec_GoodRow.mono _ _
   | exact spec_Threshold.mono _ _ _
   | exact spec_TotalOf.mono _ _ _
   | exact LeO.none _
   | refine LeO.ite ?_ ?_
   | refine LeO.bind ?_ (fun _ => ?_)
  ·intro y0 y1 y2 y3 y4 y5
   unfold laws_FnBest.j8
   repeat' first
   | (with_reducible exact ih0 _ _ _ _ _ _ _ _ _)
   | (with_reducible exact ih1 _)
   | (with_reducible exact ih2 _)
   | (with_reducible exact ih3 _ _ _ _ _)
   | (with_reducible exact ih4 _ _ _ _ _ _ _)
   | (with_reducible exact ih5 _ _ _ _ _ _ _ _)
   | (with_reducible exact ih6 _ _ _ _ _)
   | (with_reducible exact ih7 _ _ _ _ _ _)
   | (with_reducible exact ih8 _ _ _ _ _ _ _ _ _ _ _)
   | (with_reducible exact ih9 _ _ _ _ _ _ _ _ _ _ _)
   | (with_reducible exact ih10 _ _ _ _ _ _)
   | (with_reducible exact impl_BestFew.mono _ _ _)
   | (with_reducible exact impl_BoundAt.mono _ _ _)
   | (with_reducible exact impl_GoodRow.mono _ _)
   | (with_reducible exact impl_Threshold.mono _ _ _)
   | (with_reducible exact impl_TotalOf.mono _ _ _)
   | (with_reducible exact laws_sameScores.mono _ _ _)
   | (with_reducible exact spec_BestFew.mono _ _ _)
   | (with_reducible exact spec_BoundAt.mono _ _ _)
   | (with_reducible exact spec_DrawBoundAt.mono _ _)
   | (with_reducible exact spec_DrawGoodRow.mono _ _)
   | (with_reducible exact spec_DrawThreshold.mono _ _)
   | (with_reducible exact spec_DrawTotalOf.mono _ _)
   | (with_reducible exact spec_GoodRow.mono _ _)
   | (with_reducible exact spec_Threshold.mono _ _ _)
   | (with_reducible exact spec_TotalOf.mono _ _ _)
   | (with_reducible exact LeO.refl _)
   | (with_reducible exact LeO.none _)
   | (with_reducible refine LeO.ite ?_ ?_)
   | (with_reducible refine LeO.bind ?_ (fun _ => ?_))
   | exact ih0 _ _ _ _ _ _ _ _ _
   | exact ih1 _
   | exact ih2 _
   | exact ih3 _ _ _ _ _
   | exact ih4 _ _ _ _ _ _ _
   | exact ih5 _ _ _ _ _ _ _ _
   | exact ih6 _ _ _ _ _
   | exact ih7 _ _ _ _ _ _
   | exact ih8 _ _ _ _ _ _ _ _ _ _ _
   | exact ih9 _ _ _ _ _ _ _ _ _ _ _
   | exact ih10 _ _ _ _ _ _
   | exact impl_BestFew.mono _ _ _
   | exact impl_BoundAt.mono _ _ _
   | exact impl_GoodRow.mono _ _
   | exact impl_Threshold.mono _ _ _
   | exact impl_TotalOf.mono _ _ _
   | exact laws_sameScores.mono _ _ _
   | exact spec_BestFew.mono _ _ _
   | exact spec_BoundAt.mono _ _ _
   | exact spec_DrawBoundAt.mono _ _
   | exact spec_DrawGoodRow.mono _ _
   | exact spec_DrawThreshold.mono _ _
   | exact spec_DrawTotalOf.mono _ _
   | exact spec_GoodRow.mono _ _
   | exact spec_Threshold.mono _ _ _
   | exact spec_TotalOf.mono _ _ _
   | exact LeO.none _
   | refine LeO.ite ?_ ?_
   | refine LeO.bind ?_ (fun _ => ?_)
theorem laws_FnBest.mono : ∀ a0 a1 k, LeO (laws_FnBest.f k a0 a1) (laws_FnBest.f (k + 1) a0 a1) := by
 intro a0 a1 k
 obtain ⟨ih0, ih1, ih2, ih3, ih4, ih5, ih6, ih7, ih8, ih9, ih10⟩ := laws_FnBest.mono_l k
 unfold laws_FnBest.f
 repeat' first
   | (with_reducible exact ih0 _ _ _ _ _ _ _ _ _)
   | (with_reducible exact ih1 _)
   | (with_reducible exact ih2 _)
   | (with_reducible exact ih3 _ _ _ _ _)
   | (with_reducible exact ih4 _ _ _ _ _ _ _)
   | (with_reducible exact ih5 _ _ _ _ _ _ _ _)
   | (with_reducible exact ih6 _ _ _ _ _)
   | (with_reducible exact ih7 _ _ _ _ _ _)
   | (with_reducible exact ih8 _ _ _ _ _ _ _ _ _ _ _)
   | (with_reducible exact ih9 _ _ _ _ _ _ _ _ _ _ _)
   | (with_reducible exact ih10 _ _ _ _ _ _)
   | (with_reducible exact impl_BestFew.mono _ _ _)
   | (with_reducible exact impl_BoundAt.mono _ _ _)
   | (with_reducible exact impl_GoodRow.mono _ _)
   | (with_reducible exact impl_Threshold.mono _ _ _)
   | (with_reducible exact impl_TotalOf.mono _ _ _)
   | (with_reducible exact laws_sameScores.mono _ _ _)
   | (with_reducible exact spec_BestFew.mono _ _ _)
   | (with_reducible exact spec_BoundAt.mono _ _ _)
   | (with_reducible exact spec_DrawBoundAt.mono _ _)
   | (with_reducible exact spec_DrawGoodRow.mono _ _)
   | (with_reducible exact spec_DrawThreshold.mono _ _)
   | (with_reducible exact spec_DrawTotalOf.mono _ _)
   | (with_reducible exact spec_GoodRow.mono _ _)
   | (with_reducible exact spec_Threshold.mono _ _ _)
   | (with_reducible exact spec_TotalOf.mono _ _ _)
   | (with_reducible exact LeO.refl _)
   | (with_reducible exact LeO.none _)
   | (with_reducible refine LeO.ite ?_ ?_)
   | (with_reducible refine LeO.bind ?_ (fun _ => ?_))
   | exact ih0 _ _ _ _ _ _ _ _ _
   | exact ih1 _
   | exact ih2 _
   | exact ih3 _ _ _ _ _
   | exact ih4 _ _ _ _ _ _ _
   | exact ih5 _ _ _ _ _ _ _ _
   | exact ih6 _ _ _ _ _
   | exact ih7 _ _ _ _ _ _
   | exact ih8 _ _ _ _ _ _ _ _ _ _ _
   | exact ih9 _ _ _ _ _ _ _ _ _ _ _
   | exact ih10 _ _ _ _ _ _
   | exact impl_BestFew.mono _ _ _
   | exact impl_BoundAt.mono _ _ _
   | exact impl_GoodRow.mono _ _
   | exact impl_Threshold.mono _ _ _
   | exact impl_TotalOf.mono _ _ _
   | exact laws_sameScores.mono _ _ _
   | exact spec_BestFew.mono _ _ _
   | exact spec_BoundAt.mono _ _ _
   | exact spec_DrawBoundAt.mono _ _
   | exact spec_DrawGoodRow.mono _ _
   | exact spec_DrawThreshold.mono _ _
   | exact spec_DrawTotalOf.mono _ _
   | exact spec_GoodRow.mono _ _
   | exact spec_Threshold.mono _ _ _
   | exact spec_TotalOf.mono _ _ _
   | exact LeO.none _
   | refine LeO.ite ?_ ?_
   | refine LeO.bind ?_ (fun _ => ?_)
theorem laws_FnBest.no_j0 {r : Bool} : ∀ k a0 a1 a2 a3 a4 a5 a6 a7, laws_FnBest.j0 k a0 a1 a2 a3 a4 a5 a6 a7 true = some r → ¬ r = true
 | 0, a0, a1, a2, a3, a4, a5, a6, a7, h => by simp [laws_FnBest.j0] at h
 | k + 1, a0, a1, a2, a3, a4, a5, a6, a7, h => by simp [laws_FnBest.j0] at h; simp [← h]
theorem laws_FnBest.no_j10 {r : Bool} : ∀ k, laws_FnBest.j10 k  false = some r → ¬ r = true
 | 0, h => by simp [laws_FnBest.j10] at h
 | k + 1, h => by simp [laws_FnBest.j10] at h; simp [← h]
theorem laws_FnBest.no_j1 {r : Bool} : ∀ k a0 a1 a2 a3, laws_FnBest.j1 k a0 a1 a2 a3 true = some r → ¬ r = true
 | 0, a0, a1, a2, a3, h => by simp [laws_FnBest.j1] at h
 | k + 1, a0, a1, a2, a3, h => by simp [laws_FnBest.j1] at h; simp [← h]
theorem laws_FnBest.no_j3 {r : Bool} : ∀ k a0 a1 a2 a3 a4 a5 a6, laws_FnBest.j3 k a0 a1 a2 a3 a4 a5 a6 true = some r → ¬ r = true
 | 0, a0, a1, a2, a3, a4, a5, a6, h => by simp [laws_FnBest.j3] at h
 | k + 1, a0, a1, a2, a3, a4, a5, a6, h => by simp [laws_FnBest.j3] at h; simp [← h]
theorem laws_FnBest.no_j8 {r : Bool} : ∀ k a0 a1 a2 a3 a4, laws_FnBest.j8 k a0 a1 a2 a3 a4 true = some r → ¬ r = true
 | 0, a0, a1, a2, a3, a4, h => by simp [laws_FnBest.j8] at h
 | k + 1, a0, a1, a2, a3, a4, h => by simp [laws_FnBest.j8] at h; simp [← h]
set_option maxHeartbeats 80000000 in
set_option maxRecDepth 100000 in
theorem laws_FnBest.calls (k : Nat) (A0 : Option Addr) (c0 : Nat) (l0 : List Int) (A1 : Option Addr) (c1 : Nat) (l1 : List Int) (r : Bool) (hrt : r = true) (w : World) (hr0 : Kd.C (Kd.int .u8) w A0 l0.length l0) (hc0 : l0.length ≤ c0) (hr1 : Kd.C (Kd.int .u8) w A1 l1.length l1) (hc1 : l1.length ≤ c1) (h : laws_FnBest.f k l0 l1 = some r) :
  Calls Try.prog 3 #[.slice A0 l0.length c0, .slice A1 l1.length c1] w fun e w' => e = .returned (.bool r) ∧ Below w.heap.size w w' := by
 have hu33 := Try.underlying33
 have HR0 := Aside0.mk hr0
 have HC0 := Aside0.mk hc0
 clear hr0 hc0
 have HR1 := Aside0.mk hr1
 have HC1 := Aside0.mk hc1
 clear hr1 hc1
 have HB := Aside0.mk (Below.refl w.heap.size w)
 have H : (if (wrap64 ((l0.length : Int) + (l1.length : Int))) > 1048576 then (some true) else ((spec_DrawThreshold.f k l0).bind fun bt419 => ((impl_Threshold.f k bt419.1 bt419.2).bind fun bt423 => ((spec_Threshold.f k bt419.1 bt419.2).bind fun bt428 => ((impl_BestFew.f k bt419.1 bt419.2).bind fun bt433 => ((spec_BestFew.f k bt419.1 bt419.2).bind fun bt437 => (if (bt423.2.2 != bt428.2.2) = true then (laws_FnBest.j0 k l1 bt419.1 bt419.2 bt423.1 bt423.2.1 bt423.2.2 bt433.1 bt433.2 true) else (if bt423.2.1 = bt428.2.1 then ((laws_sameScores.f k bt423.1 bt428.1).bind fun t441 => (if t441 = true then (if (bt433.2 != bt437.2) = true then (laws_FnBest.j0 k l1 bt419.1 bt419.2 bt423.1 bt423.2.1 bt423.2.2 bt433.1 bt433.2 true) else ((laws_sameScores.f k bt433.1 bt437.1).bind fun t442 => (laws_FnBest.j0 k l1 bt419.1 bt419.2 bt423.1 bt423.2.1 bt423.2.2 bt433.1 bt433.2 (!t442)))) else (laws_FnBest.j0 k l1 bt419.1 bt419.2 bt423.1 bt423.2.1 bt423.2.2 bt433.1 bt433.2 true))) else (laws_FnBest.j0 k l1 bt419.1 bt419.2 bt423.1 bt423.2.1 bt423.2.2 bt433.1 bt433.2 true))))))))) = some r := h
 clear h
 by_cases c3 : (wrap64 ((l0.length : Int) + (l1.length : Int))) > 1048576
 ·rw [if_pos c3] at H
  have c3b0 : decide (1048576 < (wrap64 ((l0.length : Int) + (l1.length : Int)))) = true := decide_eq_true c3
  clear c3
  obtain rfl := Option.some.inj H
  go_enter Try.func3, Try.ntmps3
  go_wp2
  repeat (go_quiet (fail); try go_wp2)
  go_ret
  exact ⟨sq_w, sq_b⟩
 ·rw [if_neg c3] at H
  have c3b0 : decide (1048576 < (wrap64 ((l0.length : Int) + (l1.length : Int)))) = false := decide_eq_false c3
  clear c3
  replace H := Option.bind_eq_some_iff.mp H
  obtain ⟨⟨t419, t420⟩, A40, H⟩ := H
  replace H : ((impl_Threshold.f k t419 t420).bind fun bt423 => ((spec_Threshold.f k t419 t420).bind fun bt428 => ((impl_BestFew.f k t419 t420).bind fun bt433 => ((spec_BestFew.f k t419 t420).bind fun bt437 => (if (bt423.2.2 != bt428.2.2) = true then (laws_FnBest.j0 k l1 t419 t420 bt423.1 bt423.2.1 bt423.2.2 bt433.1 bt433.2 true) else (if bt423.2.1 = bt428.2.1 then ((laws_sameScores.f k bt423.1 bt428.1).bind fun t441 => (if t441 = true then (if (bt433.2 != bt437.2) = true then (laws_FnBest.j0 k l1 t419 t420 bt423.1 bt423.2.1 bt423.2.2 bt433.1 bt433.2 true) else ((laws_sameScores.f k bt433.1 bt437.1).bind fun t442 => (laws_FnBest.j0 k l1 t419 t420 bt423.1 bt423.2.1 bt423.2.2 bt433.1 bt433.2 (!t442)))) else (laws_FnBest.j0 k l1 t419 t420 bt423.1 bt423.2.1 bt423.2.2 bt433.1 bt433.2 true))) else (laws_FnBest.j0 k l1 t419 t420 bt423.1 bt423.2.1 bt423.2.2 bt433.1 bt433.2 true))))))) = some r := H
  have A4 := Aside0.mk A40
  clear A40
  replace H := Option.bind_eq_some_iff.mp H
  obtain ⟨⟨t423, t424, t425⟩, A50, H⟩ := H
  replace H : ((spec_Threshold.f k t419 t420).bind fun bt428 => ((impl_BestFew.f k t419 t420).bind fun bt433 => ((spec_BestFew.f k t419 t420).bind fun bt437 => (if (t425 != bt428.2.2) = true then (laws_FnBest.j0 k l1 t419 t420 t423 t424 t425 bt433.1 bt433.2 true) else (if t424 = bt428.2.1 then ((laws_sameScores.f k t423 bt428.1).bind fun t441 => (if t441 = true then (if (bt433.2 != bt437.2) = true then (laws_FnBest.j0 k l1 t419 t420 t423 t424 t425 bt433.1 bt433.2 true) else ((laws_sameScores.f k bt433.1 bt437.1).bind fun t442 => (laws_FnBest.j0 k l1 t419 t420 t423 t424 t425 bt433.1 bt433.2 (!t442)))) else (laws_FnBest.j0 k l1 t419 t420 t423 t424 t425 bt433.1 bt433.2 true))) else (laws_FnBest.j0 k l1 t419 t420 t423 t424 t425 bt433.1 bt433.2 true)))))) = some r := H
  have A5 := Aside0.mk A50
  clear A50
  replace H := Option.bind_eq_some_iff.mp H
  obtain ⟨⟨t428, t429, t430⟩, A60, H⟩ := H
  replace H : ((impl_BestFew.f k t419 t420).bind fun bt433 => ((spec_BestFew.f k t419 t420).bind fun bt437 => (if (t425 != t430) = true then (laws_FnBest.j0 k l1 t419 t420 t423 t424 t425 bt433.1 bt433.2 true) else (if t424 = t429 then ((laws_sameScores.f k t423 t428).bind fun t441 => (if t441 = true then (if (bt433.2 != bt437.2) = true then (laws_FnBest.j0 k l1 t419 t420 t423 t424 t425 bt433.1 bt433.2 true) else ((laws_sameScores.f k bt433.1 bt437.1).bind fun t442 => (laws_FnBest.j0 k l1 t419 t420 t423 t424 t425 bt433.1 bt433.2 (!t442)))) else (laws_FnBest.j0 k l1 t419 t420 t423 t424 t425 bt433.1 bt433.2 true))) else (laws_FnBest.j0 k l1 t419 t420 t423 t424 t425 bt433.1 bt433.2 true))))) = some r := H
  have A6 := Aside0.mk A60
  clear A60
  replace H := Option.bind_eq_some_iff.mp H
  obtain ⟨⟨t433, t434⟩, A70, H⟩ := H
  replace H : ((spec_BestFew.f k t419 t420).bind fun bt437 => (if (t425 != t430) = true then (laws_FnBest.j0 k l1 t419 t420 t423 t424 t425 t433 t434 true) else (if t424 = t429 then ((laws_sameScores.f k t423 t428).bind fun t441 => (if t441 = true then (if (t434 != bt437.2) = true then (laws_FnBest.j0 k l1 t419 t420 t423 t424 t425 t433 t434 true) else ((laws_sameScores.f k t433 bt437.1).bind fun t442 => (laws_FnBest.j0 k l1 t419 t420 t423 t424 t425 t433 t434 (!t442)))) else (laws_FnBest.j0 k l1 t419 t420 t423 t424 t425 t433 t434 true))) else (laws_FnBest.j0 k l1 t419 t420 t423 t424 t425 t433 t434 true)))) = some r := H
  have A7 := Aside0.mk A70
  clear A70
  replace H := Option.bind_eq_some_iff.mp H
  obtain ⟨⟨t437, t438⟩, A80, H⟩ := H
  replace H : (if (t425 != t430) = true then (laws_FnBest.j0 k l1 t419 t420 t423 t424 t425 t433 t434 true) else (if t424 = t429 then ((laws_sameScores.f k t423 t428).bind fun t441 => (if t441 = true then (if (t434 != t438) = true then (laws_FnBest.j0 k l1 t419 t420 t423 t424 t425 t433 t434 true) else ((laws_sameScores.f k t433 t437).bind fun t442 => (laws_FnBest.j0 k l1 t419 t420 t423 t424 t425 t433 t434 (!t442)))) else (laws_FnBest.j0 k l1 t419 t420 t423 t424 t425 t433 t434 true))) else (laws_FnBest.j0 k l1 t419 t420 t423 t424 t425 t433 t434 true))) = some r := H
  have A8 := Aside0.mk A80
  clear A80
  have HC9 := Aside0.mk H
  clear H
  go_enter Try.func3, Try.ntmps3
  go_upto_region 8 with (first | (go_at_call 7; (with_reducible refine (spec_DrawThreshold.calls k _ _ l0 t419 t420 _ ?side1 ?side2 A4.out).mono ?_); (case side1 => repeat (first | exact HR0.out | (with_reducible refine Kd.C_alloc ?_ _) | (with_reducible refine Kd.C_drewN ?_ _) | (with_reducible refine Kd.C_drew ?_))); (case side2 => exact HC0.out); rintro e w10 ⟨v421, rfl, ho0, hb⟩; have n0_ := Aside0.mk (Kd.S_lower ho0 (below_size sq_b)); have n1_ := Aside0.mk (below_step sq_b hb); clear HB; have HO422 := n0_; have HB := n1_; clear n0_ n1_; (try clear hb); (try clear hb2); (try clear hk); (try clear hi); (try clear ho0); obtain ⟨Ao11, co11, eo11⟩ := Kd.S_slice HO422.out; subst eo11) | (go_at_call 8; (with_reducible refine (impl_Threshold.calls k _ _ t419 t420 t423 t424 t425 _ ?side1 ?side2 A5.out).mono ?_); (case side1 => repeat (first | exact (Kd.S_reads' HO422.out).2.2 | (with_reducible refine Kd.C_alloc ?_ _) | (with_reducible refine Kd.C_drewN ?_ _) | (with_reducible refine Kd.C_drew ?_))); (case side2 => exact (Kd.S_reads' HO422.out).2.1); rintro e w12 ⟨v426, rfl, ho0, hb⟩; have n0_ := Aside0.mk (Kd.S_elder' (by (with_reducible repeat (first | apply Kd.S_alloc | apply Kd.S_drewN | apply Kd.S_drew)); exact HO422.out) (Kd.R_base ho0) hb); have n1_ := Aside0.mk (Kd.R_lower ho0 (below_size sq_b)); have n2_ := Aside0.mk (below_step sq_b hb); clear HO422; clear HB; have HO422 := n0_; have HO427 := n1_; have HB := n2_; clear n0_ n1_ n2_; (try clear hb); (try clear hb2); (try clear hk); (try clear hi); (try clear ho0)) | (go_at_call 9; (with_reducible refine (spec_Threshold.calls k _ _ t419 t420 t428 t429 t430 _ ?side1 ?side2 A6.out).mono ?_); (case side1 => repeat (first | exact (Kd.S_reads' HO422.out).2.2 | (with_reducible refine Kd.C_alloc ?_ _) | (with_reducible refine Kd.C_drewN ?_ _) | (with_reducible refine Kd.C_drew ?_))); (case side2 => exact (Kd.S_reads' HO422.out).2.1); rintro e w13 ⟨v431, rfl, ho0, hb⟩; have n0_ := Aside0.mk (Kd.S_elder' (by (with_reducible repeat (first | apply Kd.S_alloc | apply Kd.S_drewN | apply Kd.S_drew)); exact HO422.out) (Kd.R_base ho0) hb); have n1_ := Aside0.mk (Kd.R_elder' (sq_r HO427) (Kd.R_base ho0) hb); have n2_ := Aside0.mk (Kd.R_lower (Kd.R_new' ho0 (Kd.R_lt (sq_r HO427))) (below_size sq_b)); have n3_ := Aside0.mk (below_step sq_b hb); clear HO422; clear HO427; clear HB; have HO422 := n0_; have HO427 := n1_; have HO432 := n2_; have HB := n3_; clear n0_ n1_ n2_ n3_; (try clear hb); (try clear hb2); (try clear hk); (try clear hi); (try clear ho0)) | (go_at_call 10; (with_reducible refine (impl_BestFew.calls k _ _ t419 t420 t433 t434 _ ?side1 ?side2 A7.out).mono ?_); (case side1 => repeat (first | exact (Kd.S_reads' HO422.out).2.2 | (with_reducible refine Kd.C_alloc ?_ _) | (with_reducible refine Kd.C_drewN ?_ _) | (with_reducible refine Kd.C_drew ?_))); (case side2 => exact (Kd.S_reads' HO422.out).2.1); rintro e w14 ⟨v435, rfl, ho0, hb⟩; have n0_ := Aside0.mk (Kd.S_elder' (by (with_reducible repeat (first | apply Kd.S_alloc | apply Kd.S_drewN | apply Kd.S_drew)); exact HO422.out) (Kd.R_base ho0) hb); have n1_ := Aside0.mk (Kd.R_elder' (sq_r HO427) (Kd.R_base ho0) hb); have n2_ := Aside0.mk (Kd.R_elder' (sq_r HO432) (Kd.R_base ho0) hb); have n3_ := Aside0.mk (Kd.R_lower (Kd.R_new' (Kd.R_new' ho0 (Kd.R_lt (sq_r HO427))) (Kd.R_lt (sq_r HO432))) (below_size sq_b)); have n4_ := Aside0.mk (below_step sq_b hb); clear HO422; clear HO427; clear HO432; clear HB; have HO422 := n0_; have HO427 := n1_; have HO432 := n2_; have HO436 := n3_; have HB := n4_; clear n0_ n1_ n2_ n3_ n4_; (try clear hb); (try clear hb2); (try clear hk); (try clear hi); (try clear ho0)) | (go_at_call 11; (with_reducible refine (spec_BestFew.calls k _ _ t419 t420 t437 t438 _ ?side1 ?side2 A8.out).mono ?_); (case side1 => repeat (first | exact (Kd.S_reads' HO422.out).2.2 | (with_reducible refine Kd.C_alloc ?_ _) | (with_reducible refine Kd.C_drewN ?_ _) | (with_reducible refine Kd.C_drew ?_))); (case side2 => exact (Kd.S_reads' HO422.out).2.1); rintro e w15 ⟨v439, rfl, ho0, hb⟩; have n0_ := Aside0.mk (Kd.S_elder' (by (with_reducible repeat (first | apply Kd.S_alloc | apply Kd.S_drewN | apply Kd.S_drew)); exact HO422.out) (Kd.R_base ho0) hb); have n1_ := Aside0.mk (Kd.R_elder' (sq_r HO427) (Kd.R_base ho0) hb); have n2_ := Aside0.mk (Kd.R_elder' (sq_r HO432) (Kd.R_base ho0) hb); have n3_ := Aside0.mk (Kd.R_elder' (sq_r HO436) (Kd.R_base ho0) hb); have n4_ := Aside0.mk (Kd.R_lower (Kd.R_new' (Kd.R_new' (Kd.R_new' ho0 (Kd.R_lt (sq_r HO427))) (Kd.R_lt (sq_r HO432))) (Kd.R_lt (sq_r HO436))) (below_size sq_b)); have n5_ := Aside0.mk (below_step sq_b hb); clear HO422; clear HO427; clear HO432; clear HO436; clear HB; have HO422 := n0_; have HO427 := n1_; have HO432 := n2_; have HO436 := n3_; have HO440 := n4_; have HB := n5_; clear n0_ n1_ n2_ n3_ n4_ n5_; (try clear hb); (try clear hb2); (try clear hk); (try clear hi); (try clear ho0)))
  repeat (go_quiet (first | (go_at_call 7; (with_reducible refine (spec_DrawThreshold.calls k _ _ l0 t419 t420 _ ?side1 ?side2 A4.out).mono ?_); (case side1 => repeat (first | exact HR0.out | (with_reducible refine Kd.C_alloc ?_ _) | (with_reducible refine Kd.C_drewN ?_ _) | (with_reducible refine Kd.C_drew ?_))); (case side2 => exact HC0.out); rintro e w10 ⟨v421, rfl, ho0, hb⟩; have n0_ := Aside0.mk (Kd.S_lower ho0 (below_size sq_b)); have n1_ := Aside0.mk (below_step sq_b hb); clear HB; have HO422 := n0_; have HB := n1_; clear n0_ n1_; (try clear hb); (try clear hb2); (try clear hk); (try clear hi); (try clear ho0); obtain ⟨Ao11, co11, eo11⟩ := Kd.S_slice HO422.out; subst eo11) | (go_at_call 8; (with_reducible refine (impl_Threshold.calls k _ _ t419 t420 t423 t424 t425 _ ?side1 ?side2 A5.out).mono ?_); (case side1 => repeat (first | exact (Kd.S_reads' HO422.out).2.2 | (with_reducible refine Kd.C_alloc ?_ _) | (with_reducible refine Kd.C_drewN ?_ _) | (with_reducible refine Kd.C_drew ?_))); (case side2 => exact (Kd.S_reads' HO422.out).2.1); rintro e w12 ⟨v426, rfl, ho0, hb⟩; have n0_ := Aside0.mk (Kd.S_elder' (by (with_reducible repeat (first | apply Kd.S_alloc | apply Kd.S_drewN | apply Kd.S_drew)); exact HO422.out) (Kd.R_base ho0) hb); have n1_ := Aside0.mk (Kd.R_lower ho0 (below_size sq_b)); have n2_ := Aside0.mk (below_step sq_b hb); clear HO422; clear HB; have HO422 := n0_; have HO427 := n1_; have HB := n2_; clear n0_ n1_ n2_; (try clear hb); (try clear hb2); (try clear hk); (try clear hi); (try clear ho0)) | (go_at_call 9; (with_reducible refine (spec_Threshold.calls k _ _ t419 t420 t428 t429 t430 _ ?side1 ?side2 A6.out).mono ?_); (case side1 => repeat (first | exact (Kd.S_reads' HO422.out).2.2 | (with_reducible refine Kd.C_alloc ?_ _) | (with_reducible refine Kd.C_drewN ?_ _) | (with_reducible refine Kd.C_drew ?_))); (case side2 => exact (Kd.S_reads' HO422.out).2.1); rintro e w13 ⟨v431, rfl, ho0, hb⟩; have n0_ := Aside0.mk (Kd.S_elder' (by (with_reducible repeat (first | apply Kd.S_alloc | apply Kd.S_drewN | apply Kd.S_drew)); exact HO422.out) (Kd.R_base ho0) hb); have n1_ := Aside0.mk (Kd.R_elder' (sq_r HO427) (Kd.R_base ho0) hb); have n2_ := Aside0.mk (Kd.R_lower (Kd.R_new' ho0 (Kd.R_lt (sq_r HO427))) (below_size sq_b)); have n3_ := Aside0.mk (below_step sq_b hb); clear HO422; clear HO427; clear HB; have HO422 := n0_; have HO427 := n1_; have HO432 := n2_; have HB := n3_; clear n0_ n1_ n2_ n3_; (try clear hb); (try clear hb2); (try clear hk); (try clear hi); (try clear ho0)) | (go_at_call 10; (with_reducible refine (impl_BestFew.calls k _ _ t419 t420 t433 t434 _ ?side1 ?side2 A7.out).mono ?_); (case side1 => repeat (first | exact (Kd.S_reads' HO422.out).2.2 | (with_reducible refine Kd.C_alloc ?_ _) | (with_reducible refine Kd.C_drewN ?_ _) | (with_reducible refine Kd.C_drew ?_))); (case side2 => exact (Kd.S_reads' HO422.out).2.1); rintro e w14 ⟨v435, rfl, ho0, hb⟩; have n0_ := Aside0.mk (Kd.S_elder' (by (with_reducible repeat (first | apply Kd.S_alloc | apply Kd.S_drewN | apply Kd.S_drew)); exact HO422.out) (Kd.R_base ho0) hb); have n1_ := Aside0.mk (Kd.R_elder' (sq_r HO427) (Kd.R_base ho0) hb); have n2_ := Aside0.mk (Kd.R_elder' (sq_r HO432) (Kd.R_base ho0) hb); have n3_ := Aside0.mk (Kd.R_lower (Kd.R_new' (Kd.R_new' ho0 (Kd.R_lt (sq_r HO427))) (Kd.R_lt (sq_r HO432))) (below_size sq_b)); have n4_ := Aside0.mk (below_step sq_b hb); clear HO422; clear HO427; clear HO432; clear HB; have HO422 := n0_; have HO427 := n1_; have HO432 := n2_; have HO436 := n3_; have HB := n4_; clear n0_ n1_ n2_ n3_ n4_; (try clear hb); (try clear hb2); (try clear hk); (try clear hi); (try clear ho0)) | (go_at_call 11; (with_reducible refine (spec_BestFew.calls k _ _ t419 t420 t437 t438 _ ?side1 ?side2 A8.out).mono ?_); (case side1 => repeat (first | exact (Kd.S_reads' HO422.out).2.2 | (with_reducible refine Kd.C_alloc ?_ _) | (with_reducible refine Kd.C_drewN ?_ _) | (with_reducible refine Kd.C_drew ?_))); (case side2 => exact (Kd.S_reads' HO422.out).2.1); rintro e w15 ⟨v439, rfl, ho0, hb⟩; have n0_ := Aside0.mk (Kd.S_elder' (by (with_reducible repeat (first | apply Kd.S_alloc | apply Kd.S_drewN | apply Kd.S_drew)); exact HO422.out) (Kd.R_base ho0) hb); have n1_ := Aside0.mk (Kd.R_elder' (sq_r HO427) (Kd.R_base ho0) hb); have n2_ := Aside0.mk (Kd.R_elder' (sq_r HO432) (Kd.R_base ho0) hb); have n3_ := Aside0.mk (Kd.R_elder' (sq_r HO436) (Kd.R_base ho0) hb); have n4_ := Aside0.mk (Kd.R_lower (Kd.R_new' (Kd.R_new' (Kd.R_new' ho0 (Kd.R_lt (sq_r HO427))) (Kd.R_lt (sq_r HO432))) (Kd.R_lt (sq_r HO436))) (below_size sq_b)); have n5_ := Aside0.mk (below_step sq_b hb); clear HO422; clear HO427; clear HO432; clear HO436; clear HB; have HO422 := n0_; have HO427 := n1_; have HO432 := n2_; have HO436 := n3_; have HO440 := n4_; have HB := n5_; clear n0_ n1_ n2_ n3_ n4_ n5_; (try clear hb); (try clear hb2); (try clear hk); (try clear hi); (try clear ho0))); go_upto_region 8 with (first | (go_at_call 7; (with_reducible refine (spec_DrawThreshold.calls k _ _ l0 t419 t420 _ ?side1 ?side2 A4.out).mono ?_); (case side1 => repeat (first | exact HR0.out | (with_reducible refine Kd.C_alloc ?_ _) | (with_reducible refine Kd.C_drewN ?_ _) | (with_reducible refine Kd.C_drew ?_))); (case side2 => exact HC0.out); rintro e w10 ⟨v421, rfl, ho0, hb⟩; have n0_ := Aside0.mk (Kd.S_lower ho0 (below_size sq_b)); have n1_ := Aside0.mk (below_step sq_b hb); clear HB; have HO422 := n0_; have HB := n1_; clear n0_ n1_; (try clear hb); (try clear hb2); (try clear hk); (try clear hi); (try clear ho0); obtain ⟨Ao11, co11, eo11⟩ := Kd.S_slice HO422.out; subst eo11) | (go_at_call 8; (with_reducible refine (impl_Threshold.calls k _ _ t419 t420 t423 t424 t425 _ ?side1 ?side2 A5.out).mono ?_); (case side1 => repeat (first | exact (Kd.S_reads' HO422.out).2.2 | (with_reducible refine Kd.C_alloc ?_ _) | (with_reducible refine Kd.C_drewN ?_ _) | (with_reducible refine Kd.C_drew ?_))); (case side2 => exact (Kd.S_reads' HO422.out).2.1); rintro e w12 ⟨v426, rfl, ho0, hb⟩; have n0_ := Aside0.mk (Kd.S_elder' (by (with_reducible repeat (first | apply Kd.S_alloc | apply Kd.S_drewN | apply Kd.S_drew)); exact HO422.out) (Kd.R_base ho0) hb); have n1_ := Aside0.mk (Kd.R_lower ho0 (below_size sq_b)); have n2_ := Aside0.mk (below_step sq_b hb); clear HO422; clear HB; have HO422 := n0_; have HO427 := n1_; have HB := n2_; clear n0_ n1_ n2_; (try clear hb); (try clear hb2); (try clear hk); (try clear hi); (try clear ho0)) | (go_at_call 9; (with_reducible refine (spec_Threshold.calls k _ _ t419 t420 t428 t429 t430 _ ?side1 ?side2 A6.out).mono ?_); (case side1 => repeat (first | exact (Kd.S_reads' HO422.out).2.2 | (with_reducible refine Kd.C_alloc ?_ _) | (with_reducible refine Kd.C_drewN ?_ _) | (with_reducible refine Kd.C_drew ?_))); (case side2 => exact (Kd.S_reads' HO422.out).2.1); rintro e w13 ⟨v431, rfl, ho0, hb⟩; have n0_ := Aside0.mk (Kd.S_elder' (by (with_reducible repeat (first | apply Kd.S_alloc | apply Kd.S_drewN | apply Kd.S_drew)); exact HO422.out) (Kd.R_base ho0) hb); have n1_ := Aside0.mk (Kd.R_elder' (sq_r HO427) (Kd.R_base ho0) hb); have n2_ := Aside0.mk (Kd.R_lower (Kd.R_new' ho0 (Kd.R_lt (sq_r HO427))) (below_size sq_b)); have n3_ := Aside0.mk (below_step sq_b hb); clear HO422; clear HO427; clear HB; have HO422 := n0_; have HO427 := n1_; have HO432 := n2_; have HB := n3_; clear n0_ n1_ n2_ n3_; (try clear hb); (try clear hb2); (try clear hk); (try clear hi); (try clear ho0)) | (go_at_call 10; (with_reducible refine (impl_BestFew.calls k _ _ t419 t420 t433 t434 _ ?side1 ?side2 A7.out).mono ?_); (case side1 => repeat (first | exact (Kd.S_reads' HO422.out).2.2 | (with_reducible refine Kd.C_alloc ?_ _) | (with_reducible refine Kd.C_drewN ?_ _) | (with_reducible refine Kd.C_drew ?_))); (case side2 => exact (Kd.S_reads' HO422.out).2.1); rintro e w14 ⟨v435, rfl, ho0, hb⟩; have n0_ := Aside0.mk (Kd.S_elder' (by (with_reducible repeat (first | apply Kd.S_alloc | apply Kd.S_drewN | apply Kd.S_drew)); exact HO422.out) (Kd.R_base ho0) hb); have n1_ := Aside0.mk (Kd.R_elder' (sq_r HO427) (Kd.R_base ho0) hb); have n2_ := Aside0.mk (Kd.R_elder' (sq_r HO432) (Kd.R_base ho0) hb); have n3_ := Aside0.mk (Kd.R_lower (Kd.R_new' (Kd.R_new' ho0 (Kd.R_lt (sq_r HO427))) (Kd.R_lt (sq_r HO432))) (below_size sq_b)); have n4_ := Aside0.mk (below_step sq_b hb); clear HO422; clear HO427; clear HO432; clear HB; have HO422 := n0_; have HO427 := n1_; have HO432 := n2_; have HO436 := n3_; have HB := n4_; clear n0_ n1_ n2_ n3_ n4_; (try clear hb); (try clear hb2); (try clear hk); (try clear hi); (try clear ho0)) | (go_at_call 11; (with_reducible refine (spec_BestFew.calls k _ _ t419 t420 t437 t438 _ ?side1 ?side2 A8.out).mono ?_); (case side1 => repeat (first | exact (Kd.S_reads' HO422.out).2.2 | (with_reducible refine Kd.C_alloc ?_ _) | (with_reducible refine Kd.C_drewN ?_ _) | (with_reducible refine Kd.C_drew ?_))); (case side2 => exact (Kd.S_reads' HO422.out).2.1); rintro e w15 ⟨v439, rfl, ho0, hb⟩; have n0_ := Aside0.mk (Kd.S_elder' (by (with_reducible repeat (first | apply Kd.S_alloc | apply Kd.S_drewN | apply Kd.S_drew)); exact HO422.out) (Kd.R_base ho0) hb); have n1_ := Aside0.mk (Kd.R_elder' (sq_r HO427) (Kd.R_base ho0) hb); have n2_ := Aside0.mk (Kd.R_elder' (sq_r HO432) (Kd.R_base ho0) hb); have n3_ := Aside0.mk (Kd.R_elder' (sq_r HO436) (Kd.R_base ho0) hb); have n4_ := Aside0.mk (Kd.R_lower (Kd.R_new' (Kd.R_new' (Kd.R_new' ho0 (Kd.R_lt (sq_r HO427))) (Kd.R_lt (sq_r HO432))) (Kd.R_lt (sq_r HO436))) (below_size sq_b)); have n5_ := Aside0.mk (below_step sq_b hb); clear HO422; clear HO427; clear HO432; clear HO436; clear HB; have HO422 := n0_; have HO427 := n1_; have HO432 := n2_; have HO436 := n3_; have HO440 := n4_; have HB := n5_; clear n0_ n1_ n2_ n3_ n4_ n5_; (try clear hb); (try clear hb2); (try clear hk); (try clear hi); (try clear ho0))))
  (try simp only [Act.put, List.setIfInBounds_toArray, List.set_cons_zero, List.set_cons_succ])
  go_cut [102] (fun v102 wc => ∃ (kq : Nat) (x102_8 : Bool), v102 = .bool x102_8 ∧ Aside0 (laws_FnBest.j0 kq l1 t419 t420 t423 t424 t425 t433 t434 x102_8 = some r) ∧ Aside0 (kq ≤ k) ∧ Aside0 (Kd.S (Kd.slice 33 k33) 26 wc w.heap.size (fun k_ => some k_ ≠ (v426 : Value).ownBlock ∧ some k_ ≠ (v435 : Value).ownBlock) (.slice Ao11 t419.length co11) t419) ∧ Aside0 (Kd.R k33 33 wc w.heap.size (fun k_ => some k_ ≠ (v435 : Value).ownBlock) v426 t423) ∧ Aside0 (Kd.R k33 33 wc w.heap.size (fun k_ => some k_ ≠ (v426 : Value).ownBlock) v435 t433) ∧ Aside0 (Below w.heap.size w wc))
  case first => as_aux_lemma =>
   have H := HC9.out
   clear HC9
   by_cases c16 : (t425 != t430) = true
   ·rw [if_pos c16] at H
    have c16b0 : (t425 != t430) = true := c16
    (try (have c16b1 : decide (t425 = t430) = false := by simpa using c16))
    (try (have c16b2 : (t425 == t430) = false := by simpa using c16))
    (try (have c16b3 : ¬ (t425 = t430) := by simpa using c16))
    clear c16
    (first | rw [c16b0] | (simp only [i64_w, i32_w]; rw [c16b0]) | skip)
    exact absurd hrt (laws_FnBest.no_j0 _ _ _ _ _ _ _ _ _ H)
   ·rw [if_neg c16] at H
    have c16b0 : (t425 != t430) = false := by simpa using c16
    (try (have c16b1 : decide (t425 = t430) = true := by simpa using c16))
    (try (have c16b2 : (t425 == t430) = true := by simpa using c16))
    clear c16
    (first | rw [c16b0] | (simp only [i64_w, i32_w]; rw [c16b0]) | skip)
    by_cases c17 : t424 = t429
    ·rw [if_pos c17] at H
     have c17b0 : (t424 == t429) = true := beq_iff_eq.mpr c17
     have c17b1 : (t424 != t429) = false := bne_eq_false_iff_eq.mpr c17
     clear c17
     replace H := Option.bind_eq_some_iff.mp H
     obtain ⟨t441, A180, H⟩ := H
     replace H : (if t441 = true then (if (t434 != t438) = true then (laws_FnBest.j0 k l1 t419 t420 t423 t424 t425 t433 t434 true) else ((laws_sameScores.f k t433 t437).bind fun t442 => (laws_FnBest.j0 k l1 t419 t420 t423 t424 t425 t433 t434 (!t442)))) else (laws_FnBest.j0 k l1 t419 t420 t423 t424 t425 t433 t434 true)) = some r := H
     have A18 := Aside0.mk A180
     clear A180
     by_cases c19 : t441 = true
     ·subst c19
      have H1 : (if (t434 != t438) = true then (laws_FnBest.j0 k l1 t419 t420 t423 t424 t425 t433 t434 true) else ((laws_sameScores.f k t433 t437).bind fun t442 => (laws_FnBest.j0 k l1 t419 t420 t423 t424 t425 t433 t434 (!t442)))) = some r := by rw [if_pos rfl] at H; exact H
      clear H
      have H := H1
      clear H1
      by_cases c20 : (t434 != t438) = true
      ·rw [if_pos c20] at H
       have c20b0 : (t434 != t438) = true := c20
       (try (have c20b1 : decide (t434 = t438) = false := by simpa using c20))
       (try (have c20b2 : (t434 == t438) = false := by simpa using c20))
       (try (have c20b3 : ¬ (t434 = t438) := by simpa using c20))
       clear c20
       exact absurd hrt (laws_FnBest.no_j0 _ _ _ _ _ _ _ _ _ H)
      ·rw [if_neg c20] at H
       have c20b0 : (t434 != t438) = false := by simpa using c20
       (try (have c20b1 : decide (t434 = t438) = true := by simpa using c20))
       (try (have c20b2 : (t434 == t438) = true := by simpa using c20))
       clear c20
       replace H := Option.bind_eq_some_iff.mp H
       obtain ⟨t442, A230, H⟩ := H
       replace H : (laws_FnBest.j0 k l1 t419 t420 t423 t424 t425 t433 t434 (!t442)) = some r := H
       have A23 := Aside0.mk A230
       clear A230
       have H' := Aside0.mk H
       clear H
       obtain ⟨Ao24, co24, eo24⟩ := Kd.R_slice HO427.out
       subst eo24
       obtain ⟨Ao25, co25, eo25⟩ := Kd.R_slice HO432.out
       subst eo25
       obtain ⟨Ao26, co26, eo26⟩ := Kd.R_slice HO436.out
       subst eo26
       obtain ⟨Ao27, co27, eo27⟩ := Kd.R_slice HO440.out
       subst eo27
       go_wp2_with (first | (go_at_call 12; (with_reducible refine (laws_sameScores.calls k _ _ t423 _ _ t428 true _ ?side1 ?side2 ?side3 ?side4 A18.out).mono ?_); (case side1 => repeat (first | exact (Kd.R_reads' HO427.out).2.2 | (with_reducible refine Kd.C_alloc ?_ _) | (with_reducible refine Kd.C_drewN ?_ _) | (with_reducible refine Kd.C_drew ?_))); (case side2 => exact (Kd.R_reads' HO427.out).2.1); (case side3 => repeat (first | exact (Kd.R_reads' HO432.out).2.2 | (with_reducible refine Kd.C_alloc ?_ _) | (with_reducible refine Kd.C_drewN ?_ _) | (with_reducible refine Kd.C_drew ?_))); (case side4 => exact (Kd.R_reads' HO432.out).2.1); rintro e w' ⟨rfl, ⟨nd, rfl⟩⟩; (try first | exact ⟨rfl, _, World.drewN_drewN _ _ _⟩ | exact ⟨rfl, _, Eq.trans (World.drewN_drewN _ _ _) (congrArg (World.drewN _) (Nat.add_assoc _ _ _))⟩)) | (go_at_call 12; (with_reducible refine (laws_sameScores.calls k _ _ t433 _ _ t437 t442 _ ?side1 ?side2 ?side3 ?side4 A23.out).mono ?_); (case side1 => repeat (first | exact (Kd.R_reads' HO436.out).2.2 | (with_reducible refine Kd.C_alloc ?_ _) | (with_reducible refine Kd.C_drewN ?_ _) | (with_reducible refine Kd.C_drew ?_))); (case side2 => exact (Kd.R_reads' HO436.out).2.1); (case side3 => repeat (first | exact (Kd.R_reads' HO440.out).2.2 | (with_reducible refine Kd.C_alloc ?_ _) | (with_reducible refine Kd.C_drewN ?_ _) | (with_reducible refine Kd.C_drew ?_))); (case side4 => exact (Kd.R_reads' HO440.out).2.1); rintro e w' ⟨rfl, ⟨nd, rfl⟩⟩; (try first | exact ⟨rfl, _, World.drewN_drewN _ _ _⟩ | exact ⟨rfl, _, Eq.trans (World.drewN_drewN _ _ _) (congrArg (World.drewN _) (Nat.add_assoc _ _ _))⟩)))
       repeat (go_quiet (first | (go_at_call 12; (with_reducible refine (laws_sameScores.calls k _ _ t423 _ _ t428 true _ ?side1 ?side2 ?side3 ?side4 A18.out).mono ?_); (case side1 => repeat (first | exact (Kd.R_reads' HO427.out).2.2 | (with_reducible refine Kd.C_alloc ?_ _) | (with_reducible refine Kd.C_drewN ?_ _) | (with_reducible refine Kd.C_drew ?_))); (case side2 => exact (Kd.R_reads' HO427.out).2.1); (case side3 => repeat (first | exact (Kd.R_reads' HO432.out).2.2 | (with_reducible refine Kd.C_alloc ?_ _) | (with_reducible refine Kd.C_drewN ?_ _) | (with_reducible refine Kd.C_drew ?_))); (case side4 => exact (Kd.R_reads' HO432.out).2.1); rintro e w' ⟨rfl, ⟨nd, rfl⟩⟩; (try first | exact ⟨rfl, _, World.drewN_drewN _ _ _⟩ | exact ⟨rfl, _, Eq.trans (World.drewN_drewN _ _ _) (congrArg (World.drewN _) (Nat.add_assoc _ _ _))⟩)) | (go_at_call 12; (with_reducible refine (laws_sameScores.calls k _ _ t433 _ _ t437 t442 _ ?side1 ?side2 ?side3 ?side4 A23.out).mono ?_); (case side1 => repeat (first | exact (Kd.R_reads' HO436.out).2.2 | (with_reducible refine Kd.C_alloc ?_ _) | (with_reducible refine Kd.C_drewN ?_ _) | (with_reducible refine Kd.C_drew ?_))); (case side2 => exact (Kd.R_reads' HO436.out).2.1); (case side3 => repeat (first | exact (Kd.R_reads' HO440.out).2.2 | (with_reducible refine Kd.C_alloc ?_ _) | (with_reducible refine Kd.C_drewN ?_ _) | (with_reducible refine Kd.C_drew ?_))); (case side4 => exact (Kd.R_reads' HO440.out).2.1); rintro e w' ⟨rfl, ⟨nd, rfl⟩⟩; (try first | exact ⟨rfl, _, World.drewN_drewN _ _ _⟩ | exact ⟨rfl, _, Eq.trans (World.drewN_drewN _ _ _) (congrArg (World.drewN _) (Nat.add_assoc _ _ _))⟩))); try go_wp2_with (first | (go_at_call 12; (with_reducible refine (laws_sameScores.calls k _ _ t423 _ _ t428 true _ ?side1 ?side2 ?side3 ?side4 A18.out).mono ?_); (case side1 => repeat (first | exact (Kd.R_reads' HO427.out).2.2 | (with_reducible refine Kd.C_alloc ?_ _) | (with_reducible refine Kd.C_drewN ?_ _) | (with_reducible refine Kd.C_drew ?_))); (case side2 => exact (Kd.R_reads' HO427.out).2.1); (case side3 => repeat (first | exact (Kd.R_reads' HO432.out).2.2 | (with_reducible refine Kd.C_alloc ?_ _) | (with_reducible refine Kd.C_drewN ?_ _) | (with_reducible refine Kd.C_drew ?_))); (case side4 => exact (Kd.R_reads' HO432.out).2.1); rintro e w' ⟨rfl, ⟨nd, rfl⟩⟩; (try first | exact ⟨rfl, _, World.drewN_drewN _ _ _⟩ | exact ⟨rfl, _, Eq.trans (World.drewN_drewN _ _ _) (congrArg (World.drewN _) (Nat.add_assoc _ _ _))⟩)) | (go_at_call 12; (with_reducible refine (laws_sameScores.calls k _ _ t433 _ _ t437 t442 _ ?side1 ?side2 ?side3 ?side4 A23.out).mono ?_); (case side1 => repeat (first | exact (Kd.R_reads' HO436.out).2.2 | (with_reducible refine Kd.C_alloc ?_ _) | (with_reducible refine Kd.C_drewN ?_ _) | (with_reducible refine Kd.C_drew ?_))); (case side2 => exact (Kd.R_reads' HO436.out).2.1); (case side3 => repeat (first | exact (Kd.R_reads' HO440.out).2.2 | (with_reducible refine Kd.C_alloc ?_ _) | (with_reducible refine Kd.C_drewN ?_ _) | (with_reducible refine Kd.C_drew ?_))); (case side4 => exact (Kd.R_reads' HO440.out).2.1); rintro e w' ⟨rfl, ⟨nd, rfl⟩⟩; (try first | exact ⟨rfl, _, World.drewN_drewN _ _ _⟩ | exact ⟨rfl, _, Eq.trans (World.drewN_drewN _ _ _) (congrArg (World.drewN _) (Nat.add_assoc _ _ _))⟩))))
       go_meet
       case rel => exact ⟨_, (!t442), sq_e, H', ⟨by first | omega | exact Nat.le_refl _⟩, ⟨by (with_reducible repeat (first | apply Kd.S_alloc | apply Kd.S_drewN | apply Kd.S_drew)); exact Kd.S_mono HO422.out (fun _ hk => ⟨hk.1.1.1.2, hk.1.2⟩)⟩, ⟨by (with_reducible repeat (first | apply Kd.R_alloc | apply Kd.R_drewN | apply Kd.R_drew)); exact Kd.R_mono HO427.out (fun _ hk => hk.1.2)⟩, ⟨by (with_reducible repeat (first | apply Kd.R_alloc | apply Kd.R_drewN | apply Kd.R_drew)); exact Kd.R_mono HO436.out (fun _ hk => hk.1.1.2)⟩, ⟨sq_b⟩⟩
     ·replace c19 := Bool.eq_false_iff.mpr c19
      subst c19
      have H1 : (laws_FnBest.j0 k l1 t419 t420 t423 t424 t425 t433 t434 true) = some r := by rw [if_neg (show ¬ (false = true) by decide)] at H; exact H
      clear H
      have H := H1
      clear H1
      exact absurd hrt (laws_FnBest.no_j0 _ _ _ _ _ _ _ _ _ H)
    ·rw [if_neg c17] at H
     have c17b0 : (t424 == t429) = false := beq_eq_false_iff_ne.mpr c17
     have c17b1 : (t424 != t429) = true := bne_iff_ne.mpr c17
     exact absurd hrt (laws_FnBest.no_j0 _ _ _ _ _ _ _ _ _ H)
  case rest => as_aux_lemma =>
   clear HC9
   (try clear c1); (try clear c2); (try clear p2); (try clear c3); (try clear c3b0); (try clear p6); (try clear c16); (try clear c16b0); (try clear c16b1); (try clear c16b2); (try clear c17); (try clear c17b0); (try clear c17b1); (try clear c19); (try clear c20); (try clear c20b0); (try clear c20b1); (try clear c20b2)
   obtain ⟨kq, x102_8, rfl, HA, HJ8, HO_5, HO_7, HO_13, HB⟩ := hcut
   cases kq with
   | zero => exact absurd HA.out (by simp [laws_FnBest.j0])
   | succ kj8 =>
    have H := HA.out
    clear HA
    simp only [laws_FnBest.j0] at H
    by_cases c30 : x102_8 = true
    ·subst c30
     have H1 : (some false) = some r := by rw [if_pos rfl] at H; exact H
     clear H
     have H := H1
     clear H1
     obtain rfl := Option.some.inj H
     cases hrt
    ·replace c30 := Bool.eq_false_iff.mpr c30
     subst c30
     have H1 : (if t425 = true then (if t434 = true then ((laws_sameScores.f kj8 t423 t433).bind fun t443 => (if t443 = true then (if t424 > 20 then (laws_FnBest.j1 kj8 l1 t419 t420 t433 true) else (laws_FnBest.j1 kj8 l1 t419 t420 t433 (decide ((t433.length : Int) > t420)))) else (laws_FnBest.j1 kj8 l1 t419 t420 t433 true))) else (laws_FnBest.j1 kj8 l1 t419 t420 t433 true)) else (laws_FnBest.j9 kj8 l1)) = some r := by rw [if_neg (show ¬ (false = true) by decide)] at H; exact H
     clear H
     have H := H1
     clear H1
     have HC31 := Aside0.mk H
     clear H
     go_upto_if 103 with (fail)
     repeat (go_quiet (fail); go_upto_if 103 with (fail))
     go_cut [] (fun wc => ∃ (kq : Nat), Aside0 (laws_FnBest.j9 kq l1 = some r) ∧ Aside0 (kq ≤ kj8) ∧ Aside0 (Below w.heap.size w wc))
     case first => as_aux_lemma =>
      have H := HC31.out
      clear HC31
      by_cases c32 : t425 = true
      ·subst c32
       have H1 : (if t434 = true then ((laws_sameScores.f kj8 t423 t433).bind fun t443 => (if t443 = true then (if t424 > 20 then (laws_FnBest.j1 kj8 l1 t419 t420 t433 true) else (laws_FnBest.j1 kj8 l1 t419 t420 t433 (decide ((t433.length : Int) > t420)))) else (laws_FnBest.j1 kj8 l1 t419 t420 t433 true))) else (laws_FnBest.j1 kj8 l1 t419 t420 t433 true)) = some r := by rw [if_pos rfl] at H; exact H
       clear H
       have H := H1
       clear H1
       have HC33 := Aside0.mk H
       clear H
       go_upto_region 11 with (fail)
       repeat (go_quiet (fail); go_upto_region 11 with (fail))
       go_cut [121] (fun v121 wc => ∃ (kq : Nat) (x121_32 : Bool), v121 = .bool x121_32 ∧ Aside0 (laws_FnBest.j1 kq l1 t419 t420 t433 x121_32 = some r) ∧ Aside0 (kq ≤ kj8) ∧ Aside0 (Kd.S (Kd.slice 33 k33) 26 wc w.heap.size (fun k_ => some k_ ≠ (v435 : Value).ownBlock) (.slice Ao11 t419.length co11) t419) ∧ Aside0 (Kd.R k33 33 wc w.heap.size (fun _ => True) v435 t433) ∧ Aside0 (Below w.heap.size w wc))
       case first => as_aux_lemma =>
        have H := HC33.out
        clear HC33
        by_cases c34 : t434 = true
        ·subst c34
         have H1 : ((laws_sameScores.f kj8 t423 t433).bind fun t443 => (if t443 = true then (if t424 > 20 then (laws_FnBest.j1 kj8 l1 t419 t420 t433 true) else (laws_FnBest.j1 kj8 l1 t419 t420 t433 (decide ((t433.length : Int) > t420)))) else (laws_FnBest.j1 kj8 l1 t419 t420 t433 true))) = some r := by rw [if_pos rfl] at H; exact H
         clear H
         have H := H1
         clear H1
         replace H := Option.bind_eq_some_iff.mp H
         obtain ⟨t443, A350, H⟩ := H
         replace H : (if t443 = true then (if t424 > 20 then (laws_FnBest.j1 kj8 l1 t419 t420 t433 true) else (laws_FnBest.j1 kj8 l1 t419 t420 t433 (decide ((t433.length : Int) > t420)))) else (laws_FnBest.j1 kj8 l1 t419 t420 t433 true)) = some r := H
         have A35 := Aside0.mk A350
         clear A350
         by_cases c36 : t443 = true
         ·subst c36
          have H1 : (if t424 > 20 then (laws_FnBest.j1 kj8 l1 t419 t420 t433 true) else (laws_FnBest.j1 kj8 l1 t419 t420 t433 (decide ((t433.length : Int) > t420)))) = some r := by rw [if_pos rfl] at H; exact H
          clear H
          have H := H1
          clear H1
          by_cases c37 : t424 > 20
          ·rw [if_pos c37] at H
           have c37b0 : decide (20 < t424) = true := decide_eq_true c37
           clear c37
           (first | rw [c37b0] | (simp only [i64_w, i32_w]; rw [c37b0]) | skip)
           exact absurd hrt (laws_FnBest.no_j1 _ _ _ _ _ H)
          ·rw [if_neg c37] at H
           have c37b0 : decide (20 < t424) = false := decide_eq_false c37
           clear c37
           (first | rw [c37b0] | (simp only [i64_w, i32_w]; rw [c37b0]) | skip)
           have H' := Aside0.mk H
           clear H
           obtain ⟨Ao40, co40, eo40⟩ := Kd.R_slice HO_7.out
           subst eo40
           obtain ⟨Ao41, co41, eo41⟩ := Kd.R_slice HO_13.out
           subst eo41
           go_wp2_with (first | (go_at_call 12; (with_reducible refine (laws_sameScores.calls kj8 _ _ t423 _ _ t433 true _ ?side1 ?side2 ?side3 ?side4 A35.out).mono ?_); (case side1 => repeat (first | exact (Kd.R_reads' HO_7.out).2.2 | (with_reducible refine Kd.C_alloc ?_ _) | (with_reducible refine Kd.C_drewN ?_ _) | (with_reducible refine Kd.C_drew ?_))); (case side2 => exact (Kd.R_reads' HO_7.out).2.1); (case side3 => repeat (first | exact (Kd.R_reads' HO_13.out).2.2 | (with_reducible refine Kd.C_alloc ?_ _) | (with_reducible refine Kd.C_drewN ?_ _) | (with_reducible refine Kd.C_drew ?_))); (case side4 => exact (Kd.R_reads' HO_13.out).2.1); rintro e w' ⟨rfl, ⟨nd, rfl⟩⟩; (try first | exact ⟨rfl, _, World.drewN_drewN _ _ _⟩ | exact ⟨rfl, _, Eq.trans (World.drewN_drewN _ _ _) (congrArg (World.drewN _) (Nat.add_assoc _ _ _))⟩)))
           repeat (go_quiet (first | (go_at_call 12; (with_reducible refine (laws_sameScores.calls kj8 _ _ t423 _ _ t433 true _ ?side1 ?side2 ?side3 ?side4 A35.out).mono ?_); (case side1 => repeat (first | exact (Kd.R_reads' HO_7.out).2.2 | (with_reducible refine Kd.C_alloc ?_ _) | (with_reducible refine Kd.C_drewN ?_ _) | (with_reducible refine Kd.C_drew ?_))); (case side2 => exact (Kd.R_reads' HO_7.out).2.1); (case side3 => repeat (first | exact (Kd.R_reads' HO_13.out).2.2 | (with_reducible refine Kd.C_alloc ?_ _) | (with_reducible refine Kd.C_drewN ?_ _) | (with_reducible refine Kd.C_drew ?_))); (case side4 => exact (Kd.R_reads' HO_13.out).2.1); rintro e w' ⟨rfl, ⟨nd, rfl⟩⟩; (try first | exact ⟨rfl, _, World.drewN_drewN _ _ _⟩ | exact ⟨rfl, _, Eq.trans (World.drewN_drewN _ _ _) (congrArg (World.drewN _) (Nat.add_assoc _ _ _))⟩))); try go_wp2_with (first | (go_at_call 12; (with_reducible refine (laws_sameScores.calls kj8 _ _ t423 _ _ t433 true _ ?side1 ?side2 ?side3 ?side4 A35.out).mono ?_); (case side1 => repeat (first | exact (Kd.R_reads' HO_7.out).2.2 | (with_reducible refine Kd.C_alloc ?_ _) | (with_reducible refine Kd.C_drewN ?_ _) | (with_reducible refine Kd.C_drew ?_))); (case side2 => exact (Kd.R_reads' HO_7.out).2.1); (case side3 => repeat (first | exact (Kd.R_reads' HO_13.out).2.2 | (with_reducible refine Kd.C_alloc ?_ _) | (with_reducible refine Kd.C_drewN ?_ _) | (with_reducible refine Kd.C_drew ?_))); (case side4 => exact (Kd.R_reads' HO_13.out).2.1); rintro e w' ⟨rfl, ⟨nd, rfl⟩⟩; (try first | exact ⟨rfl, _, World.drewN_drewN _ _ _⟩ | exact ⟨rfl, _, Eq.trans (World.drewN_drewN _ _ _) (congrArg (World.drewN _) (Nat.add_assoc _ _ _))⟩))))
           go_meet
           case rel => exact ⟨_, (decide ((t433.length : Int) > t420)), sq_e, H', ⟨by have := HJ8.out; first | omega | exact Nat.le_refl _⟩, ⟨by (with_reducible repeat (first | apply Kd.S_alloc | apply Kd.S_drewN | apply Kd.S_drew)); exact Kd.S_mono HO_5.out (fun _ hk => hk.2)⟩, ⟨by (with_reducible repeat (first | apply Kd.R_alloc | apply Kd.R_drewN | apply Kd.R_drew)); exact Kd.R_mono HO_13.out (fun _ hk => trivial)⟩, ⟨sq_b⟩⟩
         ·replace c36 := Bool.eq_false_iff.mpr c36
          subst c36
          have H1 : (laws_FnBest.j1 kj8 l1 t419 t420 t433 true) = some r := by rw [if_neg (show ¬ (false = true) by decide)] at H; exact H
          clear H
          have H := H1
          clear H1
          exact absurd hrt (laws_FnBest.no_j1 _ _ _ _ _ H)
        ·replace c34 := Bool.eq_false_iff.mpr c34
         subst c34
         have H1 : (laws_FnBest.j1 kj8 l1 t419 t420 t433 true) = some r := by rw [if_neg (show ¬ (false = true) by decide)] at H; exact H
         clear H
         have H := H1
         clear H1
         exact absurd hrt (laws_FnBest.no_j1 _ _ _ _ _ H)
       case rest => as_aux_lemma =>
        clear HC33
        (try clear c1); (try clear c2); (try clear p2); (try clear c3); (try clear c3b0); (try clear p6); (try clear c16); (try clear c16b0); (try clear c16b1); (try clear c16b2); (try clear c17); (try clear c17b0); (try clear c17b1); (try clear c19); (try clear c20); (try clear c20b0); (try clear c20b1); (try clear c20b2); (try clear c30); (try clear c32); (try clear c34); (try clear c36); (try clear c37)
        (try clear c37b0); (try clear p2); (try clear p6)
        obtain ⟨kq, x121_32, rfl, HA, HJ32, HO_5, HO_13, HB⟩ := hcut
        cases kq with
        | zero => exact absurd HA.out (by simp [laws_FnBest.j1])
        | succ kj32 =>
         have H := HA.out
         clear HA
         simp only [laws_FnBest.j1] at H
         by_cases c44 : x121_32 = true
         ·subst c44
          have H1 : (some false) = some r := by rw [if_pos rfl] at H; exact H
          clear H
          have H := H1
          clear H1
          obtain rfl := Option.some.inj H
          cases hrt
         ·replace c44 := Bool.eq_false_iff.mpr c44
          subst c44
          have H1 : (laws_FnBest.l0 kj32 l1 t419 t420 t433 t433 (t433.length : Int) 0) = some r := by rw [if_neg (show ¬ (false = true) by decide)] at H; exact H
          clear H
          have H := H1
          clear H1
          have H' := Aside0.mk H
          clear H
          obtain ⟨Ao45, co45, eo45⟩ := Kd.R_slice HO_13.out
          subst eo45
          go_wp2
          repeat (go_quiet (fail); try go_wp2)
          go_loopg [124] kj32 (fun kq v124 w' => ∃ (x124_3 : Int), v124 = .int .i64 x124_3 ∧ Aside0 (laws_FnBest.l0 kq l1 t419 t420 t433 t433 (t433.length : Int) x124_3 = some r) ∧ Aside0 (kq ≤ kj32) ∧ Aside0 (Kd.S (Kd.slice 33 k33) 26 w' w.heap.size (fun k_ => some k_ ≠ ((.slice Ao45 t433.length co45) : Value).ownBlock ∧ some k_ ≠ ((.slice Ao45 t433.length co45) : Value).ownBlock) (.slice Ao11 t419.length co11) t419) ∧ Aside0 (Kd.R k33 33 w' w.heap.size (fun _ => True) (.slice Ao45 t433.length co45) t433) ∧ Aside0 (Kd.R k33 33 w' w.heap.size (fun _ => True) (.slice Ao45 t433.length co45) t433) ∧ Aside0 (Below w.heap.size w w'))
          case atStart => exact ⟨(0), sq_e, H', ⟨Nat.le_refl _⟩, ⟨by (with_reducible repeat (first | apply Kd.S_alloc | apply Kd.S_drewN | apply Kd.S_drew)); exact Kd.S_mono HO_5.out (fun _ hk => ⟨hk, hk⟩)⟩, ⟨by (with_reducible repeat (first | apply Kd.R_alloc | apply Kd.R_drewN | apply Kd.R_drew)); exact HO_13.out⟩, ⟨by (with_reducible repeat (first | apply Kd.R_alloc | apply Kd.R_drewN | apply Kd.R_drew)); exact HO_13.out⟩, ⟨sq_b⟩⟩
          case round => as_aux_lemma =>
           clear H'
           (try clear c1); (try clear c2); (try clear p2); (try clear c3); (try clear c3b0); (try clear c4); (try clear p6); (try clear c16); (try clear c16b0); (try clear c16b1); (try clear c16b2); (try clear c17); (try clear c17b0); (try clear c17b1); (try clear c19); (try clear c20); (try clear c20b0); (try clear c20b1); (try clear c20b2); (try clear c30); (try clear c32); (try clear c34); (try clear c36)
           (try clear c37); (try clear c37b0); (try clear c44); (try clear p2); (try clear p6)
           obtain ⟨x124_3, rfl, HA, HK3, HO_5, HO_13, HO_122, HB⟩ := hrel
           cases gk with
           | zero => exact absurd HA.out (by simp [laws_FnBest.l0])
           | succ k3 =>
            have H := HA.out
            clear HA
            simp only [laws_FnBest.l0] at H
            by_cases c46 : x124_3 < (t433.length : Int)
            ·rw [if_pos c46] at H
             have c46b0 : decide (x124_3 < (t433.length : Int)) = true := decide_eq_true c46
             clear c46
             by_cases c47 : 0 ≤ x124_3
             rotate_left
             ·rw [if_neg c47] at H
              exact absurd H (by simp)
             rw [if_pos c47] at H
             have c47b0 : decide (0 ≤ x124_3) = true := decide_eq_true c47
             clear c47
             by_cases c48 : x124_3 < (t433.length : Int)
             rotate_left
             ·rw [if_neg c48] at H
              exact absurd H (by simp)
             rw [if_pos c48] at H
             have c48b0 : decide (x124_3 < (t433.length : Int)) = true := decide_eq_true c48
             clear c48
             replace H := Option.bind_eq_some_iff.mp H
             obtain ⟨⟨t446, t447⟩, A490, H⟩ := H
             replace H : (if t447 = true then (if t446 = ((rd_T33 t433 x124_3).f1) then (if x124_3 > 0 then (if 0 ≤ (wrap64 (x124_3 - 1)) then (if (wrap64 (x124_3 - 1)) < (t433.length : Int) then (if ((rd_T33 t433 (wrap64 (x124_3 - 1))).f1) < ((rd_T33 t433 x124_3).f1) then (laws_FnBest.j3 k3 l1 t419 t420 t433 t433 (t433.length : Int) x124_3 true) else (if ((rd_T33 t433 (wrap64 (x124_3 - 1))).f1) = ((rd_T33 t433 x124_3).f1) then (laws_FnBest.j3 k3 l1 t419 t420 t433 t433 (t433.length : Int) x124_3 (decide (((rd_T33 t433 (wrap64 (x124_3 - 1))).f0) ≥ ((rd_T33 t433 x124_3).f0)))) else (laws_FnBest.j3 k3 l1 t419 t420 t433 t433 (t433.length : Int) x124_3 false))) else (none)) else (none)) else (laws_FnBest.j3 k3 l1 t419 t420 t433 t433 (t433.length : Int) x124_3 false)) else (laws_FnBest.j3 k3 l1 t419 t420 t433 t433 (t433.length : Int) x124_3 true)) else (laws_FnBest.j3 k3 l1 t419 t420 t433 t433 (t433.length : Int) x124_3 true)) = some r := H
             have A49 := Aside0.mk A490
             clear A490
             have HC50 := Aside0.mk H
             clear H
             have p444 : 0 ≤ (x124_3 : Int) := sq_d
             have q444 : x124_3 < (t433.length : Int) := sq_d
             obtain ⟨ad444, e444, hx444_0, hx444_1⟩ := at_T33 (Kd.R_reads' HO_122.out).2.2 x124_3 p444 q444
             cases e444
             replace p444 := eq_true p444
             replace q444 := eq_true q444
             go_upto_region 17 with (first | ((with_reducible refine gate_dst (N := 18) rfl ?_); (try (refine gate_guard (by rfl) ?_; dsimp only)); refine box_event ?hg (N := 18) ?hd (cs := #[.int .i64 0, .int .i64 0]) (t := 33) ?hr ?_; (case hd => rfl); (case hg => rfl); (case hr => first | (go_simp; done) | (go_simp; rfl)); intro gb445 hg w51 hbox hb; have n0_ := Aside0.mk (Kd.S_below (Kd.S_elderB (by (with_reducible repeat (first | apply Kd.S_alloc | apply Kd.S_drewN | apply Kd.S_drew)); exact HO_5.out) gb445 (Nat.le_of_eq hg.symm)) hb); have n1_ := Aside0.mk (Kd.R_below (Kd.R_elderB (sq_r HO_13) gb445 (Nat.le_of_eq hg.symm)) hb); have n2_ := Aside0.mk (Kd.R_below (Kd.R_elderB (sq_r HO_122) gb445 (Nat.le_of_eq hg.symm)) hb); have n3_ := Aside0.mk (below_step sq_b hb); have n4_ := Aside0.mk (hbox); have n5_ := Aside0.mk ((by rw [hg]; exact (below_size sq_b) : w.heap.size ≤ gb445)); have n6_ := Aside0.mk ((by rw [hg]; exact (below_size sq_b) : w.heap.size ≤ gb445)); clear HO_5; clear HO_13; clear HO_122; clear HB; have HO_5 := n0_; have HO_13 := n1_; have HO_122 := n2_; have HB := n3_; have BK445 := n4_; have GW445 := n5_; have GE445 := n6_; clear n0_ n1_ n2_ n3_ n4_ n5_ n6_; clear hb hbox hg; have hcz52_0 : w51.cell? ⟨gb445, 0, none⟩ = some (.int .i64 0) := (blk_cell BK445.out 0).trans rfl; have hcz52_1 : w51.cell? ⟨gb445, 1, none⟩ = some (.int .i64 0) := (blk_cell BK445.out 1).trans rfl; have hfz52_0 := blk_frozen BK445.out 0; have hfz52_1 := blk_frozen BK445.out 1) | (go_at_call 13; (with_reducible refine (impl_TotalOf.calls k3 _ _ t419 ((rd_T33 t433 x124_3).f0) t446 t447 _ ?side1 ?side2 A49.out).mono ?_); (case side1 => refine (Kd.S_reads' (e := 26) (base := w.heap.size) (ok := fun k_ => ((some k_ ≠ (.slice (some ad444) t433.length co45 : Value).ownBlock ∧ some k_ ≠ (.slice (some ad444) t433.length co45 : Value).ownBlock) ∧ k_ ≠ gb445)) (n := t419.length) (c := co11) ?_).2.2; exact (by (with_reducible repeat (first | apply Kd.S_alloc | apply Kd.S_drewN | apply Kd.S_drew)); exact (Kd.S_mono (Kd.S_far (p := ⟨gb445, 1, none⟩) (Kd.S_far (p := ⟨gb445, 0, none⟩) (Kd.S_mono HO_5.out (fun k_ hk => (⟨hk, hk.2⟩ : _ ∧ k_ ≠ gb445))) (fun _ hk => hk.2) (.int .i64 ((rd_T33 t433 x124_3).f0))) (fun _ hk => hk.2) (.int .i64 ((rd_T33 t433 x124_3).f1))) (fun _ h_ => h_.1)))); (case side2 => exact (Kd.S_reads' HO_5.out).2.1); rintro e w53 ⟨rfl, hb⟩; have n0_ := Aside0.mk (Kd.S_below (by (with_reducible repeat (first | apply Kd.S_alloc | apply Kd.S_drewN | apply Kd.S_drew)); exact (Kd.S_mono (Kd.S_far (p := ⟨gb445, 1, none⟩) (Kd.S_far (p := ⟨gb445, 0, none⟩) (Kd.S_mono HO_5.out (fun k_ hk => (⟨hk, hk.2⟩ : _ ∧ k_ ≠ gb445))) (fun _ hk => hk.2) (.int .i64 ((rd_T33 t433 x124_3).f0))) (fun _ hk => hk.2) (.int .i64 ((rd_T33 t433 x124_3).f1))) (fun _ h_ => h_.1))) hb); have n1_ := Aside0.mk (Kd.R_below (by (with_reducible repeat (first | apply Kd.R_alloc | apply Kd.R_drewN | apply Kd.R_drew)); exact (Kd.R_mono (Kd.R_far (p := ⟨gb445, 1, none⟩) (Kd.R_far (p := ⟨gb445, 0, none⟩) (Kd.R_mono HO_13.out (fun k_ hk => (⟨hk, hk.2⟩ : _ ∧ k_ ≠ gb445))) (fun _ hk => hk.2) (.int .i64 ((rd_T33 t433 x124_3).f0))) (fun _ hk => hk.2) (.int .i64 ((rd_T33 t433 x124_3).f1))) (fun _ h_ => h_.1))) hb); have n2_ := Aside0.mk (Kd.R_below (by (with_reducible repeat (first | apply Kd.R_alloc | apply Kd.R_drewN | apply Kd.R_drew)); exact (Kd.R_mono (Kd.R_far (p := ⟨gb445, 1, none⟩) (Kd.R_far (p := ⟨gb445, 0, none⟩) (Kd.R_mono HO_122.out (fun k_ hk => (⟨hk, hk.2⟩ : _ ∧ k_ ≠ gb445))) (fun _ hk => hk.2) (.int .i64 ((rd_T33 t433 x124_3).f0))) (fun _ hk => hk.2) (.int .i64 ((rd_T33 t433 x124_3).f1))) (fun _ h_ => h_.1))) hb); have n3_ := Aside0.mk (blk_below (g := gb445) (o := .cells #[.int .i64 ((rd_T33 t433 x124_3).f0), .int .i64 ((rd_T33 t433 x124_3).f1)] 33 (0, 0)) (by (with_reducible repeat (first | refine blk_drewN ?_ _ | refine blk_drew ?_ | refine blk_alloc ?_ _)); refine blk_put (cs := #[.int .i64 ((rd_T33 t433 x124_3).f0), .int .i64 0]) ?_ 1 _ rfl; (with_reducible repeat (first | refine blk_drewN ?_ _ | refine blk_drew ?_ | refine blk_alloc ?_ _)); refine blk_put (cs := #[.int .i64 0, .int .i64 0]) ?_ 0 _ rfl; (with_reducible repeat (first | refine blk_drewN ?_ _ | refine blk_drew ?_ | refine blk_alloc ?_ _)); exact BK445.out) hb); have n4_ := Aside0.mk (below_step (by repeat (first | (with_reducible first | exact HB.out | apply below_alloc | apply pw_below_drewN | apply below_drew1 | refine below_set ?_ GE445.out) | exact HB.out)) hb); clear HO_5; clear HO_13; clear HO_122; clear BK445; clear HB; have HO_5 := n0_; have HO_13 := n1_; have HO_122 := n2_; have BK445 := n3_; have HB := n4_; clear n0_ n1_ n2_ n3_ n4_; (try clear hb); (try clear hb2); (try clear hk); (try clear hi)))
             repeat (go_quiet (first | ((with_reducible refine gate_dst (N := 18) rfl ?_); (try (refine gate_guard (by rfl) ?_; dsimp only)); refine box_event ?hg (N := 18) ?hd (cs := #[.int .i64 0, .int .i64 0]) (t := 33) ?hr ?_; (case hd => rfl); (case hg => rfl); (case hr => first | (go_simp; done) | (go_simp; rfl)); intro gb445 hg w51 hbox hb; have n0_ := Aside0.mk (Kd.S_below (Kd.S_elderB (by (with_reducible repeat (first | apply Kd.S_alloc | apply Kd.S_drewN | apply Kd.S_drew)); exact HO_5.out) gb445 (Nat.le_of_eq hg.symm)) hb); have n1_ := Aside0.mk (Kd.R_below (Kd.R_elderB (sq_r HO_13) gb445 (Nat.le_of_eq hg.symm)) hb); have n2_ := Aside0.mk (Kd.R_below (Kd.R_elderB (sq_r HO_122) gb445 (Nat.le_of_eq hg.symm)) hb); have n3_ := Aside0.mk (below_step sq_b hb); have n4_ := Aside0.mk (hbox); have n5_ := Aside0.mk ((by rw [hg]; exact (below_size sq_b) : w.heap.size ≤ gb445)); have n6_ := Aside0.mk ((by rw [hg]; exact (below_size sq_b) : w.heap.size ≤ gb445)); clear HO_5; clear HO_13; clear HO_122; clear HB; have HO_5 := n0_; have HO_13 := n1_; have HO_122 := n2_; have HB := n3_; have BK445 := n4_; have GW445 := n5_; have GE445 := n6_; clear n0_ n1_ n2_ n3_ n4_ n5_ n6_; clear hb hbox hg; have hcz52_0 : w51.cell? ⟨gb445, 0, none⟩ = some (.int .i64 0) := (blk_cell BK445.out 0).trans rfl; have hcz52_1 : w51.cell? ⟨gb445, 1, none⟩ = some (.int .i64 0) := (blk_cell BK445.out 1).trans rfl; have hfz52_0 := blk_frozen BK445.out 0; have hfz52_1 := blk_frozen BK445.out 1) | (go_at_call 13; (with_reducible refine (impl_TotalOf.calls k3 _ _ t419 ((rd_T33 t433 x124_3).f0) t446 t447 _ ?side1 ?side2 A49.out).mono ?_); (case side1 => refine (Kd.S_reads' (e := 26) (base := w.heap.size) (ok := fun k_ => ((some k_ ≠ (.slice (some ad444) t433.length co45 : Value).ownBlock ∧ some k_ ≠ (.slice (some ad444) t433.length co45 : Value).ownBlock) ∧ k_ ≠ gb445)) (n := t419.length) (c := co11) ?_).2.2; exact (by (with_reducible repeat (first | apply Kd.S_alloc | apply Kd.S_drewN | apply Kd.S_drew)); exact (Kd.S_mono (Kd.S_far (p := ⟨gb445, 1, none⟩) (Kd.S_far (p := ⟨gb445, 0, none⟩) (Kd.S_mono HO_5.out (fun k_ hk => (⟨hk, hk.2⟩ : _ ∧ k_ ≠ gb445))) (fun _ hk => hk.2) (.int .i64 ((rd_T33 t433 x124_3).f0))) (fun _ hk => hk.2) (.int .i64 ((rd_T33 t433 x124_3).f1))) (fun _ h_ => h_.1)))); (case side2 => exact (Kd.S_reads' HO_5.out).2.1); rintro e w53 ⟨rfl, hb⟩; have n0_ := Aside0.mk (Kd.S_below (by (with_reducible repeat (first | apply Kd.S_alloc | apply Kd.S_drewN | apply Kd.S_drew)); exact (Kd.S_mono (Kd.S_far (p := ⟨gb445, 1, none⟩) (Kd.S_far (p := ⟨gb445, 0, none⟩) (Kd.S_mono HO_5.out (fun k_ hk => (⟨hk, hk.2⟩ : _ ∧ k_ ≠ gb445))) (fun _ hk => hk.2) (.int .i64 ((rd_T33 t433 x124_3).f0))) (fun _ hk => hk.2) (.int .i64 ((rd_T33 t433 x124_3).f1))) (fun _ h_ => h_.1))) hb); have n1_ := Aside0.mk (Kd.R_below (by (with_reducible repeat (first | apply Kd.R_alloc | apply Kd.R_drewN | apply Kd.R_drew)); exact (Kd.R_mono (Kd.R_far (p := ⟨gb445, 1, none⟩) (Kd.R_far (p := ⟨gb445, 0, none⟩) (Kd.R_mono HO_13.out (fun k_ hk => (⟨hk, hk.2⟩ : _ ∧ k_ ≠ gb445))) (fun _ hk => hk.2) (.int .i64 ((rd_T33 t433 x124_3).f0))) (fun _ hk => hk.2) (.int .i64 ((rd_T33 t433 x124_3).f1))) (fun _ h_ => h_.1))) hb); have n2_ := Aside0.mk (Kd.R_below (by (with_reducible repeat (first | apply Kd.R_alloc | apply Kd.R_drewN | apply Kd.R_drew)); exact (Kd.R_mono (Kd.R_far (p := ⟨gb445, 1, none⟩) (Kd.R_far (p := ⟨gb445, 0, none⟩) (Kd.R_mono HO_122.out (fun k_ hk => (⟨hk, hk.2⟩ : _ ∧ k_ ≠ gb445))) (fun _ hk => hk.2) (.int .i64 ((rd_T33 t433 x124_3).f0))) (fun _ hk => hk.2) (.int .i64 ((rd_T33 t433 x124_3).f1))) (fun _ h_ => h_.1))) hb); have n3_ := Aside0.mk (blk_below (g := gb445) (o := .cells #[.int .i64 ((rd_T33 t433 x124_3).f0), .int .i64 ((rd_T33 t433 x124_3).f1)] 33 (0, 0)) (by (with_reducible repeat (first | refine blk_drewN ?_ _ | refine blk_drew ?_ | refine blk_alloc ?_ _)); refine blk_put (cs := #[.int .i64 ((rd_T33 t433 x124_3).f0), .int .i64 0]) ?_ 1 _ rfl; (with_reducible repeat (first | refine blk_drewN ?_ _ | refine blk_drew ?_ | refine blk_alloc ?_ _)); refine blk_put (cs := #[.int .i64 0, .int .i64 0]) ?_ 0 _ rfl; (with_reducible repeat (first | refine blk_drewN ?_ _ | refine blk_drew ?_ | refine blk_alloc ?_ _)); exact BK445.out) hb); have n4_ := Aside0.mk (below_step (by repeat (first | (with_reducible first | exact HB.out | apply below_alloc | apply pw_below_drewN | apply below_drew1 | refine below_set ?_ GE445.out) | exact HB.out)) hb); clear HO_5; clear HO_13; clear HO_122; clear BK445; clear HB; have HO_5 := n0_; have HO_13 := n1_; have HO_122 := n2_; have BK445 := n3_; have HB := n4_; clear n0_ n1_ n2_ n3_ n4_; (try clear hb); (try clear hb2); (try clear hk); (try clear hi))); go_upto_region 17 with (first | ((with_reducible refine gate_dst (N := 18) rfl ?_); (try (refine gate_guard (by rfl) ?_; dsimp only)); refine box_event ?hg (N := 18) ?hd (cs := #[.int .i64 0, .int .i64 0]) (t := 33) ?hr ?_; (case hd => rfl); (case hg => rfl); (case hr => first | (go_simp; done) | (go_simp; rfl)); intro gb445 hg w51 hbox hb; have n0_ := Aside0.mk (Kd.S_below (Kd.S_elderB (by (with_reducible repeat (first | apply Kd.S_alloc | apply Kd.S_drewN | apply Kd.S_drew)); exact HO_5.out) gb445 (Nat.le_of_eq hg.symm)) hb); have n1_ := Aside0.mk (Kd.R_below (Kd.R_elderB (sq_r HO_13) gb445 (Nat.le_of_eq hg.symm)) hb); have n2_ := Aside0.mk (Kd.R_below (Kd.R_elderB (sq_r HO_122) gb445 (Nat.le_of_eq hg.symm)) hb); have n3_ := Aside0.mk (below_step sq_b hb); have n4_ := Aside0.mk (hbox); have n5_ := Aside0.mk ((by rw [hg]; exact (below_size sq_b) : w.heap.size ≤ gb445)); have n6_ := Aside0.mk ((by rw [hg]; exact (below_size sq_b) : w.heap.size ≤ gb445)); clear HO_5; clear HO_13; clear HO_122; clear HB; have HO_5 := n0_; have HO_13 := n1_; have HO_122 := n2_; have HB := n3_; have BK445 := n4_; have GW445 := n5_; have GE445 := n6_; clear n0_ n1_ n2_ n3_ n4_ n5_ n6_; clear hb hbox hg; have hcz52_0 : w51.cell? ⟨gb445, 0, none⟩ = some (.int .i64 0) := (blk_cell BK445.out 0).trans rfl; have hcz52_1 : w51.cell? ⟨gb445, 1, none⟩ = some (.int .i64 0) := (blk_cell BK445.out 1).trans rfl; have hfz52_0 := blk_frozen BK445.out 0; have hfz52_1 := blk_frozen BK445.out 1) | (go_at_call 13; (with_reducible refine (impl_TotalOf.calls k3 _ _ t419 ((rd_T33 t433 x124_3).f0) t446 t447 _ ?side1 ?side2 A49.out).mono ?_); (case side1 => refine (Kd.S_reads' (e := 26) (base := w.heap.size) (ok := fun k_ => ((some k_ ≠ (.slice (some ad444) t433.length co45 : Value).ownBlock ∧ some k_ ≠ (.slice (some ad444) t433.length co45 : Value).ownBlock) ∧ k_ ≠ gb445)) (n := t419.length) (c := co11) ?_).2.2; exact (by (with_reducible repeat (first | apply Kd.S_alloc | apply Kd.S_drewN | apply Kd.S_drew)); exact (Kd.S_mono (Kd.S_far (p := ⟨gb445, 1, none⟩) (Kd.S_far (p := ⟨gb445, 0, none⟩) (Kd.S_mono HO_5.out (fun k_ hk => (⟨hk, hk.2⟩ : _ ∧ k_ ≠ gb445))) (fun _ hk => hk.2) (.int .i64 ((rd_T33 t433 x124_3).f0))) (fun _ hk => hk.2) (.int .i64 ((rd_T33 t433 x124_3).f1))) (fun _ h_ => h_.1)))); (case side2 => exact (Kd.S_reads' HO_5.out).2.1); rintro e w53 ⟨rfl, hb⟩; have n0_ := Aside0.mk (Kd.S_below (by (with_reducible repeat (first | apply Kd.S_alloc | apply Kd.S_drewN | apply Kd.S_drew)); exact (Kd.S_mono (Kd.S_far (p := ⟨gb445, 1, none⟩) (Kd.S_far (p := ⟨gb445, 0, none⟩) (Kd.S_mono HO_5.out (fun k_ hk => (⟨hk, hk.2⟩ : _ ∧ k_ ≠ gb445))) (fun _ hk => hk.2) (.int .i64 ((rd_T33 t433 x124_3).f0))) (fun _ hk => hk.2) (.int .i64 ((rd_T33 t433 x124_3).f1))) (fun _ h_ => h_.1))) hb); have n1_ := Aside0.mk (Kd.R_below (by (with_reducible repeat (first | apply Kd.R_alloc | apply Kd.R_drewN | apply Kd.R_drew)); exact (Kd.R_mono (Kd.R_far (p := ⟨gb445, 1, none⟩) (Kd.R_far (p := ⟨gb445, 0, none⟩) (Kd.R_mono HO_13.out (fun k_ hk => (⟨hk, hk.2⟩ : _ ∧ k_ ≠ gb445))) (fun _ hk => hk.2) (.int .i64 ((rd_T33 t433 x124_3).f0))) (fun _ hk => hk.2) (.int .i64 ((rd_T33 t433 x124_3).f1))) (fun _ h_ => h_.1))) hb); have n2_ := Aside0.mk (Kd.R_below (by (with_reducible repeat (first | apply Kd.R_alloc | apply Kd.R_drewN | apply Kd.R_drew)); exact (Kd.R_mono (Kd.R_far (p := ⟨gb445, 1, none⟩) (Kd.R_far (p := ⟨gb445, 0, none⟩) (Kd.R_mono HO_122.out (fun k_ hk => (⟨hk, hk.2⟩ : _ ∧ k_ ≠ gb445))) (fun _ hk => hk.2) (.int .i64 ((rd_T33 t433 x124_3).f0))) (fun _ hk => hk.2) (.int .i64 ((rd_T33 t433 x124_3).f1))) (fun _ h_ => h_.1))) hb); have n3_ := Aside0.mk (blk_below (g := gb445) (o := .cells #[.int .i64 ((rd_T33 t433 x124_3).f0), .int .i64 ((rd_T33 t433 x124_3).f1)] 33 (0, 0)) (by (with_reducible repeat (first | refine blk_drewN ?_ _ | refine blk_drew ?_ | refine blk_alloc ?_ _)); refine blk_put (cs := #[.int .i64 ((rd_T33 t433 x124_3).f0), .int .i64 0]) ?_ 1 _ rfl; (with_reducible repeat (first | refine blk_drewN ?_ _ | refine blk_drew ?_ | refine blk_alloc ?_ _)); refine blk_put (cs := #[.int .i64 0, .int .i64 0]) ?_ 0 _ rfl; (with_reducible repeat (first | refine blk_drewN ?_ _ | refine blk_drew ?_ | refine blk_alloc ?_ _)); exact BK445.out) hb); have n4_ := Aside0.mk (below_step (by repeat (first | (with_reducible first | exact HB.out | apply below_alloc | apply pw_below_drewN | apply below_drew1 | refine below_set ?_ GE445.out) | exact HB.out)) hb); clear HO_5; clear HO_13; clear HO_122; clear BK445; clear HB; have HO_5 := n0_; have HO_13 := n1_; have HO_122 := n2_; have BK445 := n3_; have HB := n4_; clear n0_ n1_ n2_ n3_ n4_; (try clear hb); (try clear hb2); (try clear hk); (try clear hi))))
             (try simp only [Act.put, List.setIfInBounds_toArray, List.set_cons_zero, List.set_cons_succ])
             go_cut [180] (fun v180 wc => ∃ (kq : Nat) (x180_49 : Bool), v180 = .bool x180_49 ∧ Aside0 (laws_FnBest.j3 kq l1 t419 t420 t433 t433 (t433.length : Int) x124_3 x180_49 = some r) ∧ Aside0 (kq ≤ k3) ∧ Aside0 (Kd.S (Kd.slice 33 k33) 26 wc w.heap.size (fun k_ => some k_ ≠ ((.slice (some ad444) t433.length co45) : Value).ownBlock ∧ some k_ ≠ ((.slice (some ad444) t433.length co45) : Value).ownBlock ∧ k_ ≠ gb445) (.slice Ao11 t419.length co11) t419) ∧ Aside0 (Kd.R k33 33 wc w.heap.size (fun k_ => k_ ≠ gb445) (.slice (some ad444) t433.length co45) t433) ∧ Aside0 (Kd.R k33 33 wc w.heap.size (fun k_ => k_ ≠ gb445) (.slice (some ad444) t433.length co45) t433) ∧ Aside0 (wc.heap[gb445]? = some (.cells #[.int .i64 ((rd_T33 t433 x124_3).f0), .int .i64 ((rd_T33 t433 x124_3).f1)] 33 (0, 0))) ∧ Aside0 (Below w.heap.size w wc))
             case first => as_aux_lemma =>
              have H := HC50.out
              clear HC50
              by_cases c54 : t447 = true
              ·subst c54
               have H1 : (if t446 = ((rd_T33 t433 x124_3).f1) then (if x124_3 > 0 then (if 0 ≤ (wrap64 (x124_3 - 1)) then (if (wrap64 (x124_3 - 1)) < (t433.length : Int) then (if ((rd_T33 t433 (wrap64 (x124_3 - 1))).f1) < ((rd_T33 t433 x124_3).f1) then (laws_FnBest.j3 k3 l1 t419 t420 t433 t433 (t433.length : Int) x124_3 true) else (if ((rd_T33 t433 (wrap64 (x124_3 - 1))).f1) = ((rd_T33 t433 x124_3).f1) then (laws_FnBest.j3 k3 l1 t419 t420 t433 t433 (t433.length : Int) x124_3 (decide (((rd_T33 t433 (wrap64 (x124_3 - 1))).f0) ≥ ((rd_T33 t433 x124_3).f0)))) else (laws_FnBest.j3 k3 l1 t419 t420 t433 t433 (t433.length : Int) x124_3 false))) else (none)) else (none)) else (laws_FnBest.j3 k3 l1 t419 t420 t433 t433 (t433.length : Int) x124_3 false)) else (laws_FnBest.j3 k3 l1 t419 t420 t433 t433 (t433.length : Int) x124_3 true)) = some r := by rw [if_pos rfl] at H; exact H
               clear H
               have H := H1
               clear H1
               by_cases c55 : t446 = ((rd_T33 t433 x124_3).f1)
               ·rw [if_pos c55] at H
                have c55b0 : (t446 == ((rd_T33 t433 x124_3).f1)) = true := beq_iff_eq.mpr c55
                have c55b1 : (t446 != ((rd_T33 t433 x124_3).f1)) = false := bne_eq_false_iff_eq.mpr c55
                clear c55
                (first | rw [c55b0] | (simp only [i64_w, i32_w]; rw [c55b0]) | skip)
                by_cases c56 : x124_3 > 0
                ·rw [if_pos c56] at H
                 have c56b0 : decide (0 < x124_3) = true := decide_eq_true c56
                 clear c56
                 obtain ⟨ji57, hji57⟩ : ∃ j_ : Int, (wrap64 (x124_3 - 1)) = j_ := ⟨_, rfl⟩
                 replace H : (if 0 ≤ (ji57) then (if (ji57) < (t433.length : Int) then (if ((rd_T33 t433 (ji57)).f1) < ((rd_T33 t433 x124_3).f1) then (laws_FnBest.j3 k3 l1 t419 t420 t433 t433 (t433.length : Int) x124_3 true) else (if ((rd_T33 t433 (ji57)).f1) = ((rd_T33 t433 x124_3).f1) then (laws_FnBest.j3 k3 l1 t419 t420 t433 t433 (t433.length : Int) x124_3 (decide (((rd_T33 t433 (ji57)).f0) ≥ ((rd_T33 t433 x124_3).f0)))) else (laws_FnBest.j3 k3 l1 t419 t420 t433 t433 (t433.length : Int) x124_3 false))) else (none)) else (none)) = some r := by first | (rw [hji57] at H; exact H) | (simp only [hji57] at H ⊢; exact H)
                 have hji57w : (IntKind.i64.wrap (x124_3 - 1)) = ji57 := (i64_w _).trans hji57
                 by_cases c58 : 0 ≤ (ji57)
                 rotate_left
                 ·rw [if_neg c58] at H
                  exact absurd H (by simp)
                 rw [if_pos c58] at H
                 have c58b0 : decide (0 ≤ (ji57)) = true := decide_eq_true c58
                 clear c58
                 by_cases c59 : (ji57) < (t433.length : Int)
                 rotate_left
                 ·rw [if_neg c59] at H
                  exact absurd H (by simp)
                 rw [if_pos c59] at H
                 have c59b0 : decide ((ji57) < (t433.length : Int)) = true := decide_eq_true c59
                 clear c59
                 by_cases c60 : ((rd_T33 t433 (ji57)).f1) < ((rd_T33 t433 x124_3).f1)
                 ·rw [if_pos c60] at H
                  have c60b0 : decide (((rd_T33 t433 (ji57)).f1) < ((rd_T33 t433 x124_3).f1)) = true := decide_eq_true c60
                  clear c60
                  exact absurd hrt (laws_FnBest.no_j3 _ _ _ _ _ _ _ _ H)
                 ·rw [if_neg c60] at H
                  have c60b0 : decide (((rd_T33 t433 (ji57)).f1) < ((rd_T33 t433 x124_3).f1)) = false := decide_eq_false c60
                  clear c60
                  by_cases c62 : ((rd_T33 t433 (ji57)).f1) = ((rd_T33 t433 x124_3).f1)
                  ·rw [if_pos c62] at H
                   have c62b0 : (((rd_T33 t433 (ji57)).f1) == ((rd_T33 t433 x124_3).f1)) = true := beq_iff_eq.mpr c62
                   have c62b1 : (((rd_T33 t433 (ji57)).f1) != ((rd_T33 t433 x124_3).f1)) = false := bne_eq_false_iff_eq.mpr c62
                   clear c62
                   have H' := Aside0.mk H
                   clear H
                   have hcz63_0 : w53.cell? ⟨gb445, 0, none⟩ = some (.int .i64 ((rd_T33 t433 x124_3).f0)) := (blk_cell BK445.out 0).trans rfl
                   have hcz63_1 : w53.cell? ⟨gb445, 1, none⟩ = some (.int .i64 ((rd_T33 t433 x124_3).f1)) := (blk_cell BK445.out 1).trans rfl
                   have hfz63_0 := blk_frozen BK445.out 0
                   have hfz63_1 := blk_frozen BK445.out 1
                   have p448 : 0 ≤ ((ji57) : Int) := sq_d
                   have q448 : (ji57) < (t433.length : Int) := sq_d
                   obtain ⟨ad448, e448, hx448_0, hx448_1⟩ := at_T33 (Kd.R_reads' HO_13.out).2.2 (ji57) p448 q448
                   obtain rfl : ad444 = ad448 := (by injection e448)
                   replace p448 := eq_true p448
                   replace q448 := eq_true q448
                   have p449 : 0 ≤ ((ji57) : Int) := sq_d
                   have q449 : (ji57) < (t433.length : Int) := sq_d
                   obtain ⟨ad449, e449, hx449_0, hx449_1⟩ := at_T33 (Kd.R_reads' HO_13.out).2.2 (ji57) p449 q449
                   obtain rfl : ad444 = ad449 := (by injection e449)
                   replace p449 := eq_true p449
                   replace q449 := eq_true q449
                   have p450 : 0 ≤ ((ji57) : Int) := sq_d
                   have q450 : (ji57) < (t433.length : Int) := sq_d
                   obtain ⟨ad450, e450, hx450_0, hx450_1⟩ := at_T33 (Kd.R_reads' HO_13.out).2.2 (ji57) p450 q450
                   obtain rfl : ad444 = ad450 := (by injection e450)
                   replace p450 := eq_true p450
                   replace q450 := eq_true q450
                   go_wp2
                   repeat (go_quiet (fail); try go_wp2)
                   go_meet
                   case rel => exact ⟨_, (decide (((rd_T33 t433 (ji57)).f0) ≥ ((rd_T33 t433 x124_3).f0))), (by first | rfl | (simp; done) | (simp [ext_bne_nil, ext_beq_nil]; done) | (simp only [← hji57] <;> (first | rfl | simp)) | (simp [*]; done)), H', ⟨by have := HJ8.out; have := HJ32.out; have := HK3.out; first | omega | exact Nat.le_refl _⟩, ⟨by (with_reducible repeat (first | apply Kd.S_alloc | apply Kd.S_drewN | apply Kd.S_drew)); exact Kd.S_mono HO_5.out (fun _ hk => ⟨hk.1.1, ⟨hk.1.2, hk.2⟩⟩)⟩, ⟨by (with_reducible repeat (first | apply Kd.R_alloc | apply Kd.R_drewN | apply Kd.R_drew)); exact Kd.R_mono HO_13.out (fun _ hk => hk.2)⟩, ⟨by (with_reducible repeat (first | apply Kd.R_alloc | apply Kd.R_drewN | apply Kd.R_drew)); exact Kd.R_mono HO_122.out (fun _ hk => hk.2)⟩, ⟨by (with_reducible repeat (first | refine blk_drewN ?_ _ | refine blk_drew ?_ | refine blk_alloc ?_ _)); exact BK445.out⟩, ⟨by repeat (first | (with_reducible first | exact HB.out | apply below_alloc | apply pw_below_drewN | apply below_drew1 | refine below_set ?_ GE445.out) | exact HB.out)⟩⟩
                  ·rw [if_neg c62] at H
                   have c62b0 : (((rd_T33 t433 (ji57)).f1) == ((rd_T33 t433 x124_3).f1)) = false := beq_eq_false_iff_ne.mpr c62
                   have c62b1 : (((rd_T33 t433 (ji57)).f1) != ((rd_T33 t433 x124_3).f1)) = true := bne_iff_ne.mpr c62
                   have H' := Aside0.mk H
                   clear H
                   have hcz64_0 : w53.cell? ⟨gb445, 0, none⟩ = some (.int .i64 ((rd_T33 t433 x124_3).f0)) := (blk_cell BK445.out 0).trans rfl
                   have hcz64_1 : w53.cell? ⟨gb445, 1, none⟩ = some (.int .i64 ((rd_T33 t433 x124_3).f1)) := (blk_cell BK445.out 1).trans rfl
                   have hfz64_0 := blk_frozen BK445.out 0
                   have hfz64_1 := blk_frozen BK445.out 1
                   have p448 : 0 ≤ ((ji57) : Int) := sq_d
                   have q448 : (ji57) < (t433.length : Int) := sq_d
                   obtain ⟨ad448, e448, hx448_0, hx448_1⟩ := at_T33 (Kd.R_reads' HO_13.out).2.2 (ji57) p448 q448
                   obtain rfl : ad444 = ad448 := (by injection e448)
                   replace p448 := eq_true p448
                   replace q448 := eq_true q448
                   have p449 : 0 ≤ ((ji57) : Int) := sq_d
                   have q449 : (ji57) < (t433.length : Int) := sq_d
                   obtain ⟨ad449, e449, hx449_0, hx449_1⟩ := at_T33 (Kd.R_reads' HO_13.out).2.2 (ji57) p449 q449
                   obtain rfl : ad444 = ad449 := (by injection e449)
                   replace p449 := eq_true p449
                   replace q449 := eq_true q449
                   go_wp2
                   repeat (go_quiet (fail); try go_wp2)
                   go_meet
                   case rel => exact ⟨_, (false), sq_e, H', ⟨by have := HJ8.out; have := HJ32.out; have := HK3.out; first | omega | exact Nat.le_refl _⟩, ⟨by (with_reducible repeat (first | apply Kd.S_alloc | apply Kd.S_drewN | apply Kd.S_drew)); exact Kd.S_mono HO_5.out (fun _ hk => ⟨hk.1.1, ⟨hk.1.2, hk.2⟩⟩)⟩, ⟨by (with_reducible repeat (first | apply Kd.R_alloc | apply Kd.R_drewN | apply Kd.R_drew)); exact Kd.R_mono HO_13.out (fun _ hk => hk.2)⟩, ⟨by (with_reducible repeat (first | apply Kd.R_alloc | apply Kd.R_drewN | apply Kd.R_drew)); exact Kd.R_mono HO_122.out (fun _ hk => hk.2)⟩, ⟨by (with_reducible repeat (first | refine blk_drewN ?_ _ | refine blk_drew ?_ | refine blk_alloc ?_ _)); exact BK445.out⟩, ⟨by repeat (first | (with_reducible first | exact HB.out | apply below_alloc | apply pw_below_drewN | apply below_drew1 | refine below_set ?_ GE445.out) | exact HB.out)⟩⟩
                ·rw [if_neg c56] at H
                 have c56b0 : decide (0 < x124_3) = false := decide_eq_false c56
                 clear c56
                 have H' := Aside0.mk H
                 clear H
                 have hcz65_0 : w53.cell? ⟨gb445, 0, none⟩ = some (.int .i64 ((rd_T33 t433 x124_3).f0)) := (blk_cell BK445.out 0).trans rfl
                 have hcz65_1 : w53.cell? ⟨gb445, 1, none⟩ = some (.int .i64 ((rd_T33 t433 x124_3).f1)) := (blk_cell BK445.out 1).trans rfl
                 have hfz65_0 := blk_frozen BK445.out 0
                 have hfz65_1 := blk_frozen BK445.out 1
                 go_wp2
                 repeat (go_quiet (fail); try go_wp2)
                 go_meet
                 case rel => exact ⟨_, (false), sq_e, H', ⟨by have := HJ8.out; have := HJ32.out; have := HK3.out; first | omega | exact Nat.le_refl _⟩, ⟨by (with_reducible repeat (first | apply Kd.S_alloc | apply Kd.S_drewN | apply Kd.S_drew)); exact Kd.S_mono HO_5.out (fun _ hk => ⟨hk.1.1, ⟨hk.1.2, hk.2⟩⟩)⟩, ⟨by (with_reducible repeat (first | apply Kd.R_alloc | apply Kd.R_drewN | apply Kd.R_drew)); exact Kd.R_mono HO_13.out (fun _ hk => hk.2)⟩, ⟨by (with_reducible repeat (first | apply Kd.R_alloc | apply Kd.R_drewN | apply Kd.R_drew)); exact Kd.R_mono HO_122.out (fun _ hk => hk.2)⟩, ⟨by (with_reducible repeat (first | refine blk_drewN ?_ _ | refine blk_drew ?_ | refine blk_alloc ?_ _)); exact BK445.out⟩, ⟨by repeat (first | (with_reducible first | exact HB.out | apply below_alloc | apply pw_below_drewN | apply below_drew1 | refine below_set ?_ GE445.out) | exact HB.out)⟩⟩
               ·rw [if_neg c55] at H
                have c55b0 : (t446 == ((rd_T33 t433 x124_3).f1)) = false := beq_eq_false_iff_ne.mpr c55
                have c55b1 : (t446 != ((rd_T33 t433 x124_3).f1)) = true := bne_iff_ne.mpr c55
                (first | rw [c55b0] | (simp only [i64_w, i32_w]; rw [c55b0]) | skip)
                exact absurd hrt (laws_FnBest.no_j3 _ _ _ _ _ _ _ _ H)
              ·replace c54 := Bool.eq_false_iff.mpr c54
               subst c54
               have H1 : (laws_FnBest.j3 k3 l1 t419 t420 t433 t433 (t433.length : Int) x124_3 true) = some r := by rw [if_neg (show ¬ (false = true) by decide)] at H; exact H
               clear H
               have H := H1
               clear H1
               exact absurd hrt (laws_FnBest.no_j3 _ _ _ _ _ _ _ _ H)
             case rest => as_aux_lemma =>
              clear HC50
              (try clear c1); (try clear c2); (try clear p2); (try clear c3); (try clear c3b0); (try clear c4); (try clear p4); (try clear q4); (try clear hx4); (try clear c5); (try clear c6); (try clear p6); (try clear c16); (try clear c16b0); (try clear c16b1); (try clear c16b2); (try clear c17); (try clear c17b0); (try clear c17b1); (try clear c19); (try clear c20); (try clear c20b0); (try clear c20b1)
              (try clear c20b2); (try clear c30); (try clear c32); (try clear c34); (try clear c36); (try clear c37); (try clear c37b0); (try clear c44); (try clear p44); (try clear q44); (try clear hx44); (try clear p45); (try clear q45); (try clear hx45); (try clear c46); (try clear c46b0); (try clear c47); (try clear c47b0); (try clear c48); (try clear c48b0); (try clear c54); (try clear c55); (try clear c55b0)
              (try clear c55b1); (try clear c56); (try clear c56b0); (try clear c58); (try clear c58b0); (try clear c59); (try clear c59b0); (try clear c60); (try clear c60b0); (try clear c62); (try clear c62b0); (try clear c62b1); (try clear p64); (try clear hcz52_0); (try clear hcz52_1); (try clear hcz61_0); (try clear hcz61_1); (try clear hcz63_0); (try clear hcz63_1); (try clear hcz64_0); (try clear hcz64_1)
              (try clear hcz65_0); (try clear hcz65_1); (try clear hcz66_0); (try clear hcz66_1); (try clear hfz52_0); (try clear hfz52_1); (try clear hfz61_0); (try clear hfz61_1); (try clear hfz63_0); (try clear hfz63_1); (try clear hfz64_0); (try clear hfz64_1); (try clear hfz65_0); (try clear hfz65_1); (try clear hfz66_0); (try clear hfz66_1); (try clear hx444_0); (try clear hx444_1); (try clear hx448_0)
              (try clear hx448_1); (try clear hx449_0); (try clear hx449_1); (try clear hx450_0); (try clear hx450_1); (try clear p2); (try clear p444); (try clear p448); (try clear p449); (try clear p450); (try clear p6); (try clear q444); (try clear q448); (try clear q449); (try clear q450)
              obtain ⟨kq, x180_49, rfl, HA, HJ49, HO_5, HO_13, HO_122, BK445, HB⟩ := hcut
              cases kq with
              | zero => exact absurd HA.out (by simp [laws_FnBest.j3])
              | succ kj49 =>
               have H := HA.out
               clear HA
               simp only [laws_FnBest.j3] at H
               by_cases c67 : x180_49 = true
               ·subst c67
                have H1 : (some false) = some r := by rw [if_pos rfl] at H; exact H
                clear H
                have H := H1
                clear H1
                obtain rfl := Option.some.inj H
                cases hrt
               ·replace c67 := Bool.eq_false_iff.mpr c67
                subst c67
                have H1 : (laws_FnBest.l0 kj49 l1 t419 t420 t433 t433 (t433.length : Int) (wrap64 (x124_3 + 1))) = some r := by rw [if_neg (show ¬ (false = true) by decide)] at H; exact H
                clear H
                have H := H1
                clear H1
                have H' := Aside0.mk H
                clear H
                go_wp2
                repeat (go_quiet (fail); try go_wp2)
                go_roundg kj49
                case measure => have := HJ8.out; have := HJ32.out; have := HK3.out; have := HJ49.out; omega
                case rel => exact ⟨(wrap64 (x124_3 + 1)), sq_e, H', ⟨by have := HJ8.out; have := HJ32.out; have := HK3.out; have := HJ49.out; omega⟩, ⟨by (with_reducible repeat (first | apply Kd.S_alloc | apply Kd.S_drewN | apply Kd.S_drew)); exact Kd.S_mono HO_5.out (fun _ hk => ⟨hk.1, hk.2.1⟩)⟩, ⟨by (with_reducible repeat (first | apply Kd.R_alloc | apply Kd.R_drewN | apply Kd.R_drew)); exact Kd.R_mono HO_13.out (fun _ hk => trivial)⟩, ⟨by (with_reducible repeat (first | apply Kd.R_alloc | apply Kd.R_drewN | apply Kd.R_drew)); exact Kd.R_mono HO_122.out (fun _ hk => trivial)⟩, ⟨by repeat (first | (with_reducible first | exact HB.out | apply below_alloc | apply pw_below_drewN | apply below_drew1 | refine below_set ?_ GE445.out) | exact HB.out)⟩⟩
            ·rw [if_neg c46] at H
             have c46b0 : decide (x124_3 < (t433.length : Int)) = false := decide_eq_false c46
             clear c46
             have H' := Aside0.mk H
             clear H
             go_wp2
             repeat (go_quiet (fail); try go_wp2)
             go_loopg [21] k3 (fun kq v21 w' => ∃ (x21_4 : Int), v21 = .int .i64 x21_4 ∧ Aside0 (laws_FnBest.l1 kq l1 t419 t420 t433 x21_4 = some r) ∧ Aside0 (kq ≤ k3) ∧ Aside0 (Kd.S (Kd.slice 33 k33) 26 w' w.heap.size (fun k_ => some k_ ≠ ((.slice Ao45 t433.length co45) : Value).ownBlock) (.slice Ao11 t419.length co11) t419) ∧ Aside0 (Kd.R k33 33 w' w.heap.size (fun _ => True) (.slice Ao45 t433.length co45) t433) ∧ Aside0 (Below w.heap.size w w'))
             case atStart => exact ⟨(0), sq_e, H', ⟨Nat.le_refl _⟩, ⟨by (with_reducible repeat (first | apply Kd.S_alloc | apply Kd.S_drewN | apply Kd.S_drew)); exact Kd.S_mono HO_5.out (fun _ hk => hk.1)⟩, ⟨by (with_reducible repeat (first | apply Kd.R_alloc | apply Kd.R_drewN | apply Kd.R_drew)); exact HO_13.out⟩, ⟨sq_b⟩⟩
             case round => as_aux_lemma =>
              clear H'
              (try clear c1); (try clear c2); (try clear p2); (try clear c3); (try clear c3b0); (try clear c4); (try clear p4); (try clear q4); (try clear hx4); (try clear c5); (try clear c6); (try clear p6); (try clear c16); (try clear c16b0); (try clear c16b1); (try clear c16b2); (try clear c17); (try clear c17b0); (try clear c17b1); (try clear c19); (try clear c20); (try clear c20b0); (try clear c20b1)
              (try clear c20b2); (try clear c30); (try clear c32); (try clear c34); (try clear c36); (try clear c37); (try clear c37b0); (try clear c44); (try clear p44); (try clear q44); (try clear hx44); (try clear p45); (try clear q45); (try clear hx45); (try clear c46); (try clear c46b0); (try clear c47); (try clear c47b0); (try clear c48); (try clear c48b0); (try clear c54); (try clear c55); (try clear c55b0)
              (try clear c55b1); (try clear c56); (try clear c56b0); (try clear c58); (try clear c58b0); (try clear c59); (try clear c59b0); (try clear c60); (try clear c60b0); (try clear c62); (try clear c62b0); (try clear c62b1); (try clear p64); (try clear c67); (try clear hcz52_0); (try clear hcz52_1); (try clear hcz61_0); (try clear hcz61_1); (try clear hcz63_0); (try clear hcz63_1); (try clear hcz64_0)
              (try clear hcz64_1); (try clear hcz65_0); (try clear hcz65_1); (try clear hcz66_0); (try clear hcz66_1); (try clear hfz52_0); (try clear hfz52_1); (try clear hfz61_0); (try clear hfz61_1); (try clear hfz63_0); (try clear hfz63_1); (try clear hfz64_0); (try clear hfz64_1); (try clear hfz65_0); (try clear hfz65_1); (try clear hfz66_0); (try clear hfz66_1); (try clear hx444_0); (try clear hx444_1)
              (try clear hx448_0); (try clear hx448_1); (try clear hx449_0); (try clear hx449_1); (try clear hx450_0); (try clear hx450_1); (try clear p2); (try clear p4); (try clear p44); (try clear p444); (try clear p448); (try clear p449); (try clear p45); (try clear p450); (try clear p6); (try clear p64); (try clear q4); (try clear q44); (try clear q444); (try clear q448); (try clear q449); (try clear q45)
              try clear q450
              obtain ⟨x21_4, rfl, HA, HK4, HO_5, HO_13, HB⟩ := hrel
              cases gk with
              | zero => exact absurd HA.out (by simp [laws_FnBest.l1])
              | succ k4 =>
               have H := HA.out
               clear HA
               simp only [laws_FnBest.l1] at H
               have HC68 := Aside0.mk H
               clear H
               go_upto_region 21 with (fail)
               repeat (go_quiet (fail); go_upto_region 21 with (fail))
               go_cut [189] (fun v189 wc => ∃ (kq : Nat) (x189_67 : Bool), v189 = .bool x189_67 ∧ Aside0 (laws_FnBest.j5 kq l1 t419 t420 t433 x21_4 x189_67 = some r) ∧ Aside0 (kq ≤ k4) ∧ Aside0 (Kd.S (Kd.slice 33 k33) 26 wc w.heap.size (fun k_ => some k_ ≠ ((.slice Ao45 t433.length co45) : Value).ownBlock) (.slice Ao11 t419.length co11) t419) ∧ Aside0 (Kd.R k33 33 wc w.heap.size (fun _ => True) (.slice Ao45 t433.length co45) t433) ∧ Aside0 (Below w.heap.size w wc))
               case first => as_aux_lemma =>
                have H := HC68.out
                clear HC68
                by_cases c69 : x21_4 < 100
                ·rw [if_pos c69] at H
                 have c69b0 : decide (x21_4 < 100) = true := decide_eq_true c69
                 clear c69
                 (first | rw [c69b0] | (simp only [i64_w, i32_w]; rw [c69b0]) | skip)
                 have H' := Aside0.mk H
                 clear H
                 go_wp2
                 repeat (go_quiet (fail); try go_wp2)
                 go_meet
                 case rel => exact ⟨_, (((t433.length : Int) == t420)), sq_e, H', ⟨by have := HJ8.out; have := HJ32.out; have := HK3.out; have := HK4.out; first | omega | exact Nat.le_refl _⟩, ⟨by (with_reducible repeat (first | apply Kd.S_alloc | apply Kd.S_drewN | apply Kd.S_drew)); exact HO_5.out⟩, ⟨by (with_reducible repeat (first | apply Kd.R_alloc | apply Kd.R_drewN | apply Kd.R_drew)); exact HO_13.out⟩, ⟨sq_b⟩⟩
                ·rw [if_neg c69] at H
                 have c69b0 : decide (x21_4 < 100) = false := decide_eq_false c69
                 clear c69
                 (first | rw [c69b0] | (simp only [i64_w, i32_w]; rw [c69b0]) | skip)
                 have H' := Aside0.mk H
                 clear H
                 go_wp2
                 repeat (go_quiet (fail); try go_wp2)
                 go_meet
                 case rel => exact ⟨_, (false), sq_e, H', ⟨by have := HJ8.out; have := HJ32.out; have := HK3.out; have := HK4.out; first | omega | exact Nat.le_refl _⟩, ⟨by (with_reducible repeat (first | apply Kd.S_alloc | apply Kd.S_drewN | apply Kd.S_drew)); exact HO_5.out⟩, ⟨by (with_reducible repeat (first | apply Kd.R_alloc | apply Kd.R_drewN | apply Kd.R_drew)); exact HO_13.out⟩, ⟨sq_b⟩⟩
               case rest => as_aux_lemma =>
                clear HC68
                (try clear c1); (try clear c2); (try clear p2); (try clear c3); (try clear c3b0); (try clear c4); (try clear p4); (try clear q4); (try clear hx4); (try clear c5); (try clear c6); (try clear p6); (try clear c16); (try clear c16b0); (try clear c16b1); (try clear c16b2); (try clear c17); (try clear c17b0); (try clear c17b1); (try clear c19); (try clear c20); (try clear c20b0); (try clear c20b1)
                (try clear c20b2); (try clear c30); (try clear c32); (try clear c34); (try clear c36); (try clear c37); (try clear c37b0); (try clear c44); (try clear p44); (try clear q44); (try clear hx44); (try clear p45); (try clear q45); (try clear hx45); (try clear c46); (try clear c46b0); (try clear c47); (try clear c47b0); (try clear c48); (try clear c48b0); (try clear c54); (try clear c55)
                (try clear c55b0); (try clear c55b1); (try clear c56); (try clear c56b0); (try clear c58); (try clear c58b0); (try clear c59); (try clear c59b0); (try clear c60); (try clear c60b0); (try clear c62); (try clear c62b0); (try clear c62b1); (try clear p64); (try clear c67); (try clear c69); (try clear c69b0); (try clear hcz52_0); (try clear hcz52_1); (try clear hcz61_0); (try clear hcz61_1)
                (try clear hcz63_0); (try clear hcz63_1); (try clear hcz64_0); (try clear hcz64_1); (try clear hcz65_0); (try clear hcz65_1); (try clear hcz66_0); (try clear hcz66_1); (try clear hfz52_0); (try clear hfz52_1); (try clear hfz61_0); (try clear hfz61_1); (try clear hfz63_0); (try clear hfz63_1); (try clear hfz64_0); (try clear hfz64_1); (try clear hfz65_0); (try clear hfz65_1); (try clear hfz66_0)
                (try clear hfz66_1); (try clear hx444_0); (try clear hx444_1); (try clear hx448_0); (try clear hx448_1); (try clear hx449_0); (try clear hx449_1); (try clear hx450_0); (try clear hx450_1); (try clear p2); (try clear p4); (try clear p44); (try clear p444); (try clear p448); (try clear p449); (try clear p45); (try clear p450); (try clear p6); (try clear p64); (try clear q4); (try clear q44)
                (try clear q444); (try clear q448); (try clear q449); (try clear q45); (try clear q450)
                obtain ⟨kq, x189_67, rfl, HA, HJ67, HO_5, HO_13, HB⟩ := hcut
                cases kq with
                | zero => exact absurd HA.out (by simp [laws_FnBest.j5])
                | succ kj67 =>
                 have H := HA.out
                 clear HA
                 simp only [laws_FnBest.j5] at H
                 by_cases c70 : x189_67 = true
                 ·subst c70
                  have H1 : ((impl_TotalOf.f kj67 t419 x21_4).bind fun bt451 => (laws_FnBest.l2 kj67 l1 t419 t420 t433 x21_4 bt451.1 bt451.2 false t433 (t433.length : Int) 0)) = some r := by rw [if_pos rfl] at H; exact H
                  clear H
                  have H := H1
                  clear H1
                  replace H := Option.bind_eq_some_iff.mp H
                  obtain ⟨⟨t451, t452⟩, A710, H⟩ := H
                  replace H : (laws_FnBest.l2 kj67 l1 t419 t420 t433 x21_4 t451 t452 false t433 (t433.length : Int) 0) = some r := H
                  have A71 := Aside0.mk A710
                  clear A710
                  have H' := Aside0.mk H
                  clear H
                  go_wp2_with (first | (go_at_call 13; (with_reducible refine (impl_TotalOf.calls kj67 _ _ t419 x21_4 t451 t452 _ ?side1 ?side2 A71.out).mono ?_); (case side1 => repeat (first | exact (Kd.S_reads' HO_5.out).2.2 | (with_reducible refine Kd.C_alloc ?_ _) | (with_reducible refine Kd.C_drewN ?_ _) | (with_reducible refine Kd.C_drew ?_))); (case side2 => exact (Kd.S_reads' HO_5.out).2.1); rintro e w72 ⟨rfl, hb⟩; have n0_ := Aside0.mk (Kd.S_below (by (with_reducible repeat (first | apply Kd.S_alloc | apply Kd.S_drewN | apply Kd.S_drew)); exact HO_5.out) hb); have n1_ := Aside0.mk (Kd.R_below (sq_r HO_13) hb); have n2_ := Aside0.mk (below_step sq_b hb); clear HO_5; clear HO_13; clear HB; have HO_5 := n0_; have HO_13 := n1_; have HB := n2_; clear n0_ n1_ n2_; (try clear hb); (try clear hb2); (try clear hk); (try clear hi)))
                  repeat (go_quiet (first | (go_at_call 13; (with_reducible refine (impl_TotalOf.calls kj67 _ _ t419 x21_4 t451 t452 _ ?side1 ?side2 A71.out).mono ?_); (case side1 => repeat (first | exact (Kd.S_reads' HO_5.out).2.2 | (with_reducible refine Kd.C_alloc ?_ _) | (with_reducible refine Kd.C_drewN ?_ _) | (with_reducible refine Kd.C_drew ?_))); (case side2 => exact (Kd.S_reads' HO_5.out).2.1); rintro e w72 ⟨rfl, hb⟩; have n0_ := Aside0.mk (Kd.S_below (by (with_reducible repeat (first | apply Kd.S_alloc | apply Kd.S_drewN | apply Kd.S_drew)); exact HO_5.out) hb); have n1_ := Aside0.mk (Kd.R_below (sq_r HO_13) hb); have n2_ := Aside0.mk (below_step sq_b hb); clear HO_5; clear HO_13; clear HB; have HO_5 := n0_; have HO_13 := n1_; have HB := n2_; clear n0_ n1_ n2_; (try clear hb); (try clear hb2); (try clear hk); (try clear hi))); try go_wp2_with (first | (go_at_call 13; (with_reducible refine (impl_TotalOf.calls kj67 _ _ t419 x21_4 t451 t452 _ ?side1 ?side2 A71.out).mono ?_); (case side1 => repeat (first | exact (Kd.S_reads' HO_5.out).2.2 | (with_reducible refine Kd.C_alloc ?_ _) | (with_reducible refine Kd.C_drewN ?_ _) | (with_reducible refine Kd.C_drew ?_))); (case side2 => exact (Kd.S_reads' HO_5.out).2.1); rintro e w72 ⟨rfl, hb⟩; have n0_ := Aside0.mk (Kd.S_below (by (with_reducible repeat (first | apply Kd.S_alloc | apply Kd.S_drewN | apply Kd.S_drew)); exact HO_5.out) hb); have n1_ := Aside0.mk (Kd.R_below (sq_r HO_13) hb); have n2_ := Aside0.mk (below_step sq_b hb); clear HO_5; clear HO_13; clear HB; have HO_5 := n0_; have HO_13 := n1_; have HB := n2_; clear n0_ n1_ n2_; (try clear hb); (try clear hb2); (try clear hk); (try clear hi))))
                  go_loopg [24, 200] kj67 (fun kq v24 v200 w' => ∃ (x24_6 : Bool) (x200_6 : Int), v24 = .bool x24_6 ∧ v200 = .int .i64 x200_6 ∧ Aside0 (laws_FnBest.l2 kq l1 t419 t420 t433 x21_4 t451 t452 x24_6 t433 (t433.length : Int) x200_6 = some r) ∧ Aside0 (kq ≤ kj67) ∧ Aside0 (Kd.S (Kd.slice 33 k33) 26 w' w.heap.size (fun k_ => some k_ ≠ ((.slice Ao45 t433.length co45) : Value).ownBlock ∧ some k_ ≠ ((.slice Ao45 t433.length co45) : Value).ownBlock) (.slice Ao11 t419.length co11) t419) ∧ Aside0 (Kd.R k33 33 w' w.heap.size (fun _ => True) (.slice Ao45 t433.length co45) t433) ∧ Aside0 (Kd.R k33 33 w' w.heap.size (fun _ => True) (.slice Ao45 t433.length co45) t433) ∧ Aside0 (Below w.heap.size w w'))
                  case atStart => exact ⟨(false), (0), sq_e, sq_e, H', ⟨Nat.le_refl _⟩, ⟨by (with_reducible repeat (first | apply Kd.S_alloc | apply Kd.S_drewN | apply Kd.S_drew)); exact Kd.S_mono HO_5.out (fun _ hk => ⟨hk, hk⟩)⟩, ⟨by (with_reducible repeat (first | apply Kd.R_alloc | apply Kd.R_drewN | apply Kd.R_drew)); exact HO_13.out⟩, ⟨by (with_reducible repeat (first | apply Kd.R_alloc | apply Kd.R_drewN | apply Kd.R_drew)); exact HO_13.out⟩, ⟨sq_b⟩⟩
                  case round => as_aux_lemma =>
                   clear H'
                   (try clear c1); (try clear c2); (try clear p2); (try clear c3); (try clear c3b0); (try clear c4); (try clear p4); (try clear q4); (try clear hx4); (try clear c5); (try clear c6); (try clear p6); (try clear c7); (try clear c16); (try clear c16b0); (try clear c16b1); (try clear c16b2); (try clear c17); (try clear c17b0); (try clear c17b1); (try clear c19); (try clear c20); (try clear c20b0)
                   (try clear c20b1); (try clear c20b2); (try clear c30); (try clear c32); (try clear c34); (try clear c36); (try clear c37); (try clear c37b0); (try clear c44); (try clear p44); (try clear q44); (try clear hx44); (try clear p45); (try clear q45); (try clear hx45); (try clear c46); (try clear c46b0); (try clear c47); (try clear c47b0); (try clear c48); (try clear c48b0); (try clear c54)
                   (try clear c55); (try clear c55b0); (try clear c55b1); (try clear c56); (try clear c56b0); (try clear c58); (try clear c58b0); (try clear c59); (try clear c59b0); (try clear c60); (try clear c60b0); (try clear c62); (try clear c62b0); (try clear c62b1); (try clear p64); (try clear c67); (try clear c69); (try clear c69b0); (try clear c70); (try clear hcz52_0); (try clear hcz52_1)
                   (try clear hcz61_0); (try clear hcz61_1); (try clear hcz63_0); (try clear hcz63_1); (try clear hcz64_0); (try clear hcz64_1); (try clear hcz65_0); (try clear hcz65_1); (try clear hcz66_0); (try clear hcz66_1); (try clear hfz52_0); (try clear hfz52_1); (try clear hfz61_0); (try clear hfz61_1); (try clear hfz63_0); (try clear hfz63_1); (try clear hfz64_0); (try clear hfz64_1); (try clear hfz65_0)
                   (try clear hfz65_1); (try clear hfz66_0); (try clear hfz66_1); (try clear hx444_0); (try clear hx444_1); (try clear hx448_0); (try clear hx448_1); (try clear hx449_0); (try clear hx449_1); (try clear hx450_0); (try clear hx450_1); (try clear p2); (try clear p4); (try clear p44); (try clear p444); (try clear p448); (try clear p449); (try clear p45); (try clear p450); (try clear p6)
                   (try clear p64); (try clear q4); (try clear q44); (try clear q444); (try clear q448); (try clear q449); (try clear q45); (try clear q450)
                   obtain ⟨x24_6, x200_6, rfl, rfl, HA, HK6, HO_5, HO_13, HO_198, HB⟩ := hrel
                   cases gk with
                   | zero => exact absurd HA.out (by simp [laws_FnBest.l2])
                   | succ k6 =>
                    have H := HA.out
                    clear HA
                    simp only [laws_FnBest.l2] at H
                    by_cases c73 : x200_6 < (t433.length : Int)
                    ·rw [if_pos c73] at H
                     have c73b0 : decide (x200_6 < (t433.length : Int)) = true := decide_eq_true c73
                     clear c73
                     have HC74 := Aside0.mk H
                     clear H
                     go_upto_block 5 with (fail)
                     repeat (go_quiet (fail); go_upto_block 5 with (fail))
                     go_cut [24] (fun v24 wc => ∃ (kq : Nat) (x24_73 : Bool), v24 = .bool x24_73 ∧ Aside0 (laws_FnBest.j7 kq l1 t419 t420 t433 x21_4 t451 t452 x24_73 t433 (t433.length : Int) x200_6 = some r) ∧ Aside0 (kq ≤ k6) ∧ Aside0 (Kd.S (Kd.slice 33 k33) 26 wc w.heap.size (fun k_ => some k_ ≠ ((.slice Ao45 t433.length co45) : Value).ownBlock ∧ some k_ ≠ ((.slice Ao45 t433.length co45) : Value).ownBlock) (.slice Ao11 t419.length co11) t419) ∧ Aside0 (Kd.R k33 33 wc w.heap.size (fun _ => True) (.slice Ao45 t433.length co45) t433) ∧ Aside0 (Kd.R k33 33 wc w.heap.size (fun _ => True) (.slice Ao45 t433.length co45) t433) ∧ Aside0 (Below w.heap.size w wc))
                     case first => as_aux_lemma =>
                      have H := HC74.out
                      clear HC74
                      by_cases c75 : 0 ≤ x200_6
                      rotate_left
                      ·rw [if_neg c75] at H
                       exact absurd H (by simp)
                      rw [if_pos c75] at H
                      have c75b0 : decide (0 ≤ x200_6) = true := decide_eq_true c75
                      clear c75
                      (first | rw [c75b0] | (simp only [i64_w, i32_w]; rw [c75b0]) | skip)
                      by_cases c76 : x200_6 < (t433.length : Int)
                      rotate_left
                      ·rw [if_neg c76] at H
                       exact absurd H (by simp)
                      rw [if_pos c76] at H
                      have c76b0 : decide (x200_6 < (t433.length : Int)) = true := decide_eq_true c76
                      clear c76
                      by_cases c77 : x24_6 = true
                      ·subst c77
                       have H1 : (laws_FnBest.j7 k6 l1 t419 t420 t433 x21_4 t451 t452 true t433 (t433.length : Int) x200_6) = some r := by rw [if_pos rfl] at H; exact H
                       clear H
                       have H := H1
                       clear H1
                       have H' := Aside0.mk H
                       clear H
                       have p453 : 0 ≤ (x200_6 : Int) := sq_d
                       have q453 : x200_6 < (t433.length : Int) := sq_d
                       obtain ⟨ad453, e453, hx453_0, hx453_1⟩ := at_T33 (Kd.R_reads' HO_198.out).2.2 x200_6 p453 q453
                       cases e453
                       replace p453 := eq_true p453
                       replace q453 := eq_true q453
                       go_wp2_with (first | ((with_reducible refine gate_dst (N := 26) rfl ?_); (try (refine gate_guard (by rfl) ?_; dsimp only)); refine box_event ?hg (N := 26) ?hd (cs := #[.int .i64 0, .int .i64 0]) (t := 33) ?hr ?_; (case hd => rfl); (case hg => rfl); (case hr => first | (go_simp; done) | (go_simp; rfl)); intro gb454 hg w78 hbox hb; have n0_ := Aside0.mk (Kd.S_below (Kd.S_elderB (by (with_reducible repeat (first | apply Kd.S_alloc | apply Kd.S_drewN | apply Kd.S_drew)); exact HO_5.out) gb454 (Nat.le_of_eq hg.symm)) hb); have n1_ := Aside0.mk (Kd.R_below (Kd.R_elderB (sq_r HO_13) gb454 (Nat.le_of_eq hg.symm)) hb); have n2_ := Aside0.mk (Kd.R_below (Kd.R_elderB (sq_r HO_198) gb454 (Nat.le_of_eq hg.symm)) hb); have n3_ := Aside0.mk (below_step sq_b hb); have n4_ := Aside0.mk (hbox); have n5_ := Aside0.mk ((by rw [hg]; exact (below_size sq_b) : w.heap.size ≤ gb454)); have n6_ := Aside0.mk ((by rw [hg]; exact (below_size sq_b) : w.heap.size ≤ gb454)); clear HO_5; clear HO_13; clear HO_198; clear HB; have HO_5 := n0_; have HO_13 := n1_; have HO_198 := n2_; have HB := n3_; have BK454 := n4_; have GW454 := n5_; have GE454 := n6_; clear n0_ n1_ n2_ n3_ n4_ n5_ n6_; clear hb hbox hg; have hcz79_0 : w78.cell? ⟨gb454, 0, none⟩ = some (.int .i64 0) := (blk_cell BK454.out 0).trans rfl; have hcz79_1 : w78.cell? ⟨gb454, 1, none⟩ = some (.int .i64 0) := (blk_cell BK454.out 1).trans rfl; have hfz79_0 := blk_frozen BK454.out 0; have hfz79_1 := blk_frozen BK454.out 1))
                       repeat (go_quiet (first | ((with_reducible refine gate_dst (N := 26) rfl ?_); (try (refine gate_guard (by rfl) ?_; dsimp only)); refine box_event ?hg (N := 26) ?hd (cs := #[.int .i64 0, .int .i64 0]) (t := 33) ?hr ?_; (case hd => rfl); (case hg => rfl); (case hr => first | (go_simp; done) | (go_simp; rfl)); intro gb454 hg w78 hbox hb; have n0_ := Aside0.mk (Kd.S_below (Kd.S_elderB (by (with_reducible repeat (first | apply Kd.S_alloc | apply Kd.S_drewN | apply Kd.S_drew)); exact HO_5.out) gb454 (Nat.le_of_eq hg.symm)) hb); have n1_ := Aside0.mk (Kd.R_below (Kd.R_elderB (sq_r HO_13) gb454 (Nat.le_of_eq hg.symm)) hb); have n2_ := Aside0.mk (Kd.R_below (Kd.R_elderB (sq_r HO_198) gb454 (Nat.le_of_eq hg.symm)) hb); have n3_ := Aside0.mk (below_step sq_b hb); have n4_ := Aside0.mk (hbox); have n5_ := Aside0.mk ((by rw [hg]; exact (below_size sq_b) : w.heap.size ≤ gb454)); have n6_ := Aside0.mk ((by rw [hg]; exact (below_size sq_b) : w.heap.size ≤ gb454)); clear HO_5; clear HO_13; clear HO_198; clear HB; have HO_5 := n0_; have HO_13 := n1_; have HO_198 := n2_; have HB := n3_; have BK454 := n4_; have GW454 := n5_; have GE454 := n6_; clear n0_ n1_ n2_ n3_ n4_ n5_ n6_; clear hb hbox hg; have hcz79_0 : w78.cell? ⟨gb454, 0, none⟩ = some (.int .i64 0) := (blk_cell BK454.out 0).trans rfl; have hcz79_1 : w78.cell? ⟨gb454, 1, none⟩ = some (.int .i64 0) := (blk_cell BK454.out 1).trans rfl; have hfz79_0 := blk_frozen BK454.out 0; have hfz79_1 := blk_frozen BK454.out 1)); try go_wp2_with (first | ((with_reducible refine gate_dst (N := 26) rfl ?_); (try (refine gate_guard (by rfl) ?_; dsimp only)); refine box_event ?hg (N := 26) ?hd (cs := #[.int .i64 0, .int .i64 0]) (t := 33) ?hr ?_; (case hd => rfl); (case hg => rfl); (case hr => first | (go_simp; done) | (go_simp; rfl)); intro gb454 hg w78 hbox hb; have n0_ := Aside0.mk (Kd.S_below (Kd.S_elderB (by (with_reducible repeat (first | apply Kd.S_alloc | apply Kd.S_drewN | apply Kd.S_drew)); exact HO_5.out) gb454 (Nat.le_of_eq hg.symm)) hb); have n1_ := Aside0.mk (Kd.R_below (Kd.R_elderB (sq_r HO_13) gb454 (Nat.le_of_eq hg.symm)) hb); have n2_ := Aside0.mk (Kd.R_below (Kd.R_elderB (sq_r HO_198) gb454 (Nat.le_of_eq hg.symm)) hb); have n3_ := Aside0.mk (below_step sq_b hb); have n4_ := Aside0.mk (hbox); have n5_ := Aside0.mk ((by rw [hg]; exact (below_size sq_b) : w.heap.size ≤ gb454)); have n6_ := Aside0.mk ((by rw [hg]; exact (below_size sq_b) : w.heap.size ≤ gb454)); clear HO_5; clear HO_13; clear HO_198; clear HB; have HO_5 := n0_; have HO_13 := n1_; have HO_198 := n2_; have HB := n3_; have BK454 := n4_; have GW454 := n5_; have GE454 := n6_; clear n0_ n1_ n2_ n3_ n4_ n5_ n6_; clear hb hbox hg; have hcz79_0 : w78.cell? ⟨gb454, 0, none⟩ = some (.int .i64 0) := (blk_cell BK454.out 0).trans rfl; have hcz79_1 : w78.cell? ⟨gb454, 1, none⟩ = some (.int .i64 0) := (blk_cell BK454.out 1).trans rfl; have hfz79_0 := blk_frozen BK454.out 0; have hfz79_1 := blk_frozen BK454.out 1)))
                       go_meet
                       case rel => exact ⟨_, (true), sq_e, H', ⟨by have := HJ8.out; have := HJ32.out; have := HK3.out; have := HK4.out; have := HJ67.out; have := HK6.out; first | omega | exact Nat.le_refl _⟩, ⟨by (with_reducible repeat (first | apply Kd.S_alloc | apply Kd.S_drewN | apply Kd.S_drew)); exact Kd.S_mono (Kd.S_far (p := ⟨gb454, 1, none⟩) (Kd.S_far (p := ⟨gb454, 0, none⟩) (Kd.S_mono HO_5.out (fun k_ hk => (⟨hk, hk.2⟩ : _ ∧ k_ ≠ gb454))) (fun _ hk => hk.2) (.int .i64 ((rd_T33 t433 x200_6).f0))) (fun _ hk => hk.2) (.int .i64 ((rd_T33 t433 x200_6).f1))) (fun _ hk => ⟨hk.1.1.1, hk.1.1.2⟩)⟩, ⟨by (with_reducible repeat (first | apply Kd.R_alloc | apply Kd.R_drewN | apply Kd.R_drew)); exact Kd.R_mono (Kd.R_far (p := ⟨gb454, 1, none⟩) (Kd.R_far (p := ⟨gb454, 0, none⟩) (Kd.R_mono HO_13.out (fun k_ hk => (⟨hk, hk.2⟩ : _ ∧ k_ ≠ gb454))) (fun _ hk => hk.2) (.int .i64 ((rd_T33 t433 x200_6).f0))) (fun _ hk => hk.2) (.int .i64 ((rd_T33 t433 x200_6).f1))) (fun _ hk => trivial)⟩, ⟨by (with_reducible repeat (first | apply Kd.R_alloc | apply Kd.R_drewN | apply Kd.R_drew)); exact Kd.R_mono (Kd.R_far (p := ⟨gb454, 1, none⟩) (Kd.R_far (p := ⟨gb454, 0, none⟩) (Kd.R_mono HO_198.out (fun k_ hk => (⟨hk, hk.2⟩ : _ ∧ k_ ≠ gb454))) (fun _ hk => hk.2) (.int .i64 ((rd_T33 t433 x200_6).f0))) (fun _ hk => hk.2) (.int .i64 ((rd_T33 t433 x200_6).f1))) (fun _ hk => trivial)⟩, ⟨by repeat (first | (with_reducible first | exact HB.out | apply below_alloc | apply pw_below_drewN | apply below_drew1 | refine below_set ?_ GE454.out) | exact HB.out)⟩⟩
                      ·replace c77 := Bool.eq_false_iff.mpr c77
                       subst c77
                       have H1 : (laws_FnBest.j7 k6 l1 t419 t420 t433 x21_4 t451 t452 (((rd_T33 t433 x200_6).f0) == x21_4) t433 (t433.length : Int) x200_6) = some r := by rw [if_neg (show ¬ (false = true) by decide)] at H; exact H
                       clear H
                       have H := H1
                       clear H1
                       have H' := Aside0.mk H
                       clear H
                       have p453 : 0 ≤ (x200_6 : Int) := sq_d
                       have q453 : x200_6 < (t433.length : Int) := sq_d
                       obtain ⟨ad453, e453, hx453_0, hx453_1⟩ := at_T33 (Kd.R_reads' HO_198.out).2.2 x200_6 p453 q453
                       cases e453
                       replace p453 := eq_true p453
                       replace q453 := eq_true q453
                       go_wp2_with (first | ((with_reducible refine gate_dst (N := 26) rfl ?_); (try (refine gate_guard (by rfl) ?_; dsimp only)); refine box_event ?hg (N := 26) ?hd (cs := #[.int .i64 0, .int .i64 0]) (t := 33) ?hr ?_; (case hd => rfl); (case hg => rfl); (case hr => first | (go_simp; done) | (go_simp; rfl)); intro gb454 hg w80 hbox hb; have n0_ := Aside0.mk (Kd.S_below (Kd.S_elderB (by (with_reducible repeat (first | apply Kd.S_alloc | apply Kd.S_drewN | apply Kd.S_drew)); exact HO_5.out) gb454 (Nat.le_of_eq hg.symm)) hb); have n1_ := Aside0.mk (Kd.R_below (Kd.R_elderB (sq_r HO_13) gb454 (Nat.le_of_eq hg.symm)) hb); have n2_ := Aside0.mk (Kd.R_below (Kd.R_elderB (sq_r HO_198) gb454 (Nat.le_of_eq hg.symm)) hb); have n3_ := Aside0.mk (below_step sq_b hb); have n4_ := Aside0.mk (hbox); have n5_ := Aside0.mk ((by rw [hg]; exact (below_size sq_b) : w.heap.size ≤ gb454)); have n6_ := Aside0.mk ((by rw [hg]; exact (below_size sq_b) : w.heap.size ≤ gb454)); clear HO_5; clear HO_13; clear HO_198; clear HB; have HO_5 := n0_; have HO_13 := n1_; have HO_198 := n2_; have HB := n3_; have BK454 := n4_; have GW454 := n5_; have GE454 := n6_; clear n0_ n1_ n2_ n3_ n4_ n5_ n6_; clear hb hbox hg; have hcz81_0 : w80.cell? ⟨gb454, 0, none⟩ = some (.int .i64 0) := (blk_cell BK454.out 0).trans rfl; have hcz81_1 : w80.cell? ⟨gb454, 1, none⟩ = some (.int .i64 0) := (blk_cell BK454.out 1).trans rfl; have hfz81_0 := blk_frozen BK454.out 0; have hfz81_1 := blk_frozen BK454.out 1))
                       repeat (go_quiet (first | ((with_reducible refine gate_dst (N := 26) rfl ?_); (try (refine gate_guard (by rfl) ?_; dsimp only)); refine box_event ?hg (N := 26) ?hd (cs := #[.int .i64 0, .int .i64 0]) (t := 33) ?hr ?_; (case hd => rfl); (case hg => rfl); (case hr => first | (go_simp; done) | (go_simp; rfl)); intro gb454 hg w80 hbox hb; have n0_ := Aside0.mk (Kd.S_below (Kd.S_elderB (by (with_reducible repeat (first | apply Kd.S_alloc | apply Kd.S_drewN | apply Kd.S_drew)); exact HO_5.out) gb454 (Nat.le_of_eq hg.symm)) hb); have n1_ := Aside0.mk (Kd.R_below (Kd.R_elderB (sq_r HO_13) gb454 (Nat.le_of_eq hg.symm)) hb); have n2_ := Aside0.mk (Kd.R_below (Kd.R_elderB (sq_r HO_198) gb454 (Nat.le_of_eq hg.symm)) hb); have n3_ := Aside0.mk (below_step sq_b hb); have n4_ := Aside0.mk (hbox); have n5_ := Aside0.mk ((by rw [hg]; exact (below_size sq_b) : w.heap.size ≤ gb454)); have n6_ := Aside0.mk ((by rw [hg]; exact (below_size sq_b) : w.heap.size ≤ gb454)); clear HO_5; clear HO_13; clear HO_198; clear HB; have HO_5 := n0_; have HO_13 := n1_; have HO_198 := n2_; have HB := n3_; have BK454 := n4_; have GW454 := n5_; have GE454 := n6_; clear n0_ n1_ n2_ n3_ n4_ n5_ n6_; clear hb hbox hg; have hcz81_0 : w80.cell? ⟨gb454, 0, none⟩ = some (.int .i64 0) := (blk_cell BK454.out 0).trans rfl; have hcz81_1 : w80.cell? ⟨gb454, 1, none⟩ = some (.int .i64 0) := (blk_cell BK454.out 1).trans rfl; have hfz81_0 := blk_frozen BK454.out 0; have hfz81_1 := blk_frozen BK454.out 1)); try go_wp2_with (first | ((with_reducible refine gate_dst (N := 26) rfl ?_); (try (refine gate_guard (by rfl) ?_; dsimp only)); refine box_event ?hg (N := 26) ?hd (cs := #[.int .i64 0, .int .i64 0]) (t := 33) ?hr ?_; (case hd => rfl); (case hg => rfl); (case hr => first | (go_simp; done) | (go_simp; rfl)); intro gb454 hg w80 hbox hb; have n0_ := Aside0.mk (Kd.S_below (Kd.S_elderB (by (with_reducible repeat (first | apply Kd.S_alloc | apply Kd.S_drewN | apply Kd.S_drew)); exact HO_5.out) gb454 (Nat.le_of_eq hg.symm)) hb); have n1_ := Aside0.mk (Kd.R_below (Kd.R_elderB (sq_r HO_13) gb454 (Nat.le_of_eq hg.symm)) hb); have n2_ := Aside0.mk (Kd.R_below (Kd.R_elderB (sq_r HO_198) gb454 (Nat.le_of_eq hg.symm)) hb); have n3_ := Aside0.mk (below_step sq_b hb); have n4_ := Aside0.mk (hbox); have n5_ := Aside0.mk ((by rw [hg]; exact (below_size sq_b) : w.heap.size ≤ gb454)); have n6_ := Aside0.mk ((by rw [hg]; exact (below_size sq_b) : w.heap.size ≤ gb454)); clear HO_5; clear HO_13; clear HO_198; clear HB; have HO_5 := n0_; have HO_13 := n1_; have HO_198 := n2_; have HB := n3_; have BK454 := n4_; have GW454 := n5_; have GE454 := n6_; clear n0_ n1_ n2_ n3_ n4_ n5_ n6_; clear hb hbox hg; have hcz81_0 : w80.cell? ⟨gb454, 0, none⟩ = some (.int .i64 0) := (blk_cell BK454.out 0).trans rfl; have hcz81_1 : w80.cell? ⟨gb454, 1, none⟩ = some (.int .i64 0) := (blk_cell BK454.out 1).trans rfl; have hfz81_0 := blk_frozen BK454.out 0; have hfz81_1 := blk_frozen BK454.out 1)))
                       go_meet
                       case rel => exact ⟨_, ((((rd_T33 t433 x200_6).f0) == x21_4)), sq_e, H', ⟨by have := HJ8.out; have := HJ32.out; have := HK3.out; have := HK4.out; have := HJ67.out; have := HK6.out; first | omega | exact Nat.le_refl _⟩, ⟨by (with_reducible repeat (first | apply Kd.S_alloc | apply Kd.S_drewN | apply Kd.S_drew)); exact Kd.S_mono (Kd.S_far (p := ⟨gb454, 1, none⟩) (Kd.S_far (p := ⟨gb454, 0, none⟩) (Kd.S_mono HO_5.out (fun k_ hk => (⟨hk, hk.2⟩ : _ ∧ k_ ≠ gb454))) (fun _ hk => hk.2) (.int .i64 ((rd_T33 t433 x200_6).f0))) (fun _ hk => hk.2) (.int .i64 ((rd_T33 t433 x200_6).f1))) (fun _ hk => ⟨hk.1.1.1, hk.1.1.2⟩)⟩, ⟨by (with_reducible repeat (first | apply Kd.R_alloc | apply Kd.R_drewN | apply Kd.R_drew)); exact Kd.R_mono (Kd.R_far (p := ⟨gb454, 1, none⟩) (Kd.R_far (p := ⟨gb454, 0, none⟩) (Kd.R_mono HO_13.out (fun k_ hk => (⟨hk, hk.2⟩ : _ ∧ k_ ≠ gb454))) (fun _ hk => hk.2) (.int .i64 ((rd_T33 t433 x200_6).f0))) (fun _ hk => hk.2) (.int .i64 ((rd_T33 t433 x200_6).f1))) (fun _ hk => trivial)⟩, ⟨by (with_reducible repeat (first | apply Kd.R_alloc | apply Kd.R_drewN | apply Kd.R_drew)); exact Kd.R_mono (Kd.R_far (p := ⟨gb454, 1, none⟩) (Kd.R_far (p := ⟨gb454, 0, none⟩) (Kd.R_mono HO_198.out (fun k_ hk => (⟨hk, hk.2⟩ : _ ∧ k_ ≠ gb454))) (fun _ hk => hk.2) (.int .i64 ((rd_T33 t433 x200_6).f0))) (fun _ hk => hk.2) (.int .i64 ((rd_T33 t433 x200_6).f1))) (fun _ hk => trivial)⟩, ⟨by repeat (first | (with_reducible first | exact HB.out | apply below_alloc | apply pw_below_drewN | apply below_drew1 | refine below_set ?_ GE454.out) | exact HB.out)⟩⟩
                     case rest => as_aux_lemma =>
                      clear HC74
                      (try clear c1); (try clear c2); (try clear p2); (try clear c3); (try clear c3b0); (try clear c4); (try clear p4); (try clear q4); (try clear hx4); (try clear c5); (try clear c6); (try clear p6); (try clear c7); (try clear c16); (try clear c16b0); (try clear c16b1); (try clear c16b2); (try clear c17); (try clear c17b0); (try clear c17b1); (try clear c19); (try clear c20); (try clear c20b0)
                      (try clear c20b1); (try clear c20b2); (try clear c30); (try clear c32); (try clear c34); (try clear c36); (try clear c37); (try clear c37b0); (try clear c44); (try clear p44); (try clear q44); (try clear hx44); (try clear p45); (try clear q45); (try clear hx45); (try clear c46); (try clear c46b0); (try clear c47); (try clear c47b0); (try clear c48); (try clear c48b0); (try clear c54)
                      (try clear c55); (try clear c55b0); (try clear c55b1); (try clear c56); (try clear c56b0); (try clear c58); (try clear c58b0); (try clear c59); (try clear c59b0); (try clear c60); (try clear c60b0); (try clear c62); (try clear c62b0); (try clear c62b1); (try clear p64); (try clear c67); (try clear c69); (try clear c69b0); (try clear c70); (try clear c73); (try clear c73b0); (try clear c75)
                      (try clear c75b0); (try clear c76); (try clear c76b0); (try clear c77); (try clear hcz52_0); (try clear hcz52_1); (try clear hcz61_0); (try clear hcz61_1); (try clear hcz63_0); (try clear hcz63_1); (try clear hcz64_0); (try clear hcz64_1); (try clear hcz65_0); (try clear hcz65_1); (try clear hcz66_0); (try clear hcz66_1); (try clear hcz79_0); (try clear hcz79_1); (try clear hcz81_0)
                      (try clear hcz81_1); (try clear hfz52_0); (try clear hfz52_1); (try clear hfz61_0); (try clear hfz61_1); (try clear hfz63_0); (try clear hfz63_1); (try clear hfz64_0); (try clear hfz64_1); (try clear hfz65_0); (try clear hfz65_1); (try clear hfz66_0); (try clear hfz66_1); (try clear hfz79_0); (try clear hfz79_1); (try clear hfz81_0); (try clear hfz81_1); (try clear hx444_0); (try clear hx444_1)
                      (try clear hx448_0); (try clear hx448_1); (try clear hx449_0); (try clear hx449_1); (try clear hx450_0); (try clear hx450_1); (try clear hx453_0); (try clear hx453_1); (try clear p2); (try clear p4); (try clear p44); (try clear p444); (try clear p448); (try clear p449); (try clear p45); (try clear p450); (try clear p453); (try clear p6); (try clear p64); (try clear q4); (try clear q44)
                      (try clear q444); (try clear q448); (try clear q449); (try clear q45); (try clear q450); (try clear q453)
                      obtain ⟨kq, x24_73, rfl, HA, HJ73, HO_5, HO_13, HO_198, HB⟩ := hcut
                      cases kq with
                      | zero => exact absurd HA.out (by simp [laws_FnBest.j7])
                      | succ kj73 =>
                       have H := HA.out
                       clear HA
                       simp only [laws_FnBest.j7] at H
                       have H' := Aside0.mk H
                       clear H
                       go_wp2
                       repeat (go_quiet (fail); try go_wp2)
                       go_roundg kj73
                       case measure => have := HJ8.out; have := HJ32.out; have := HK3.out; have := HK4.out; have := HJ67.out; have := HK6.out; have := HJ73.out; omega
                       case rel => exact ⟨(x24_73), (wrap64 (x200_6 + 1)), sq_e, sq_e, H', ⟨by have := HJ8.out; have := HJ32.out; have := HK3.out; have := HK4.out; have := HJ67.out; have := HK6.out; have := HJ73.out; omega⟩, ⟨by (with_reducible repeat (first | apply Kd.S_alloc | apply Kd.S_drewN | apply Kd.S_drew)); exact HO_5.out⟩, ⟨by (with_reducible repeat (first | apply Kd.R_alloc | apply Kd.R_drewN | apply Kd.R_drew)); exact HO_13.out⟩, ⟨by (with_reducible repeat (first | apply Kd.R_alloc | apply Kd.R_drewN | apply Kd.R_drew)); exact HO_198.out⟩, ⟨sq_b⟩⟩
                    ·rw [if_neg c73] at H
                     have c73b0 : decide (x200_6 < (t433.length : Int)) = false := decide_eq_false c73
                     clear c73
                     obtain ⟨ji82, hji82⟩ : ∃ j_ : Int, (wrap64 (t420 - 1)) = j_ := ⟨_, rfl⟩
                     replace H : (if 0 ≤ (ji82) then (if (ji82) < (t433.length : Int) then (if t452 = true then (if x24_6 = true then (laws_FnBest.j8 k6 l1 t419 t420 t433 x21_4 false) else (if t451 > ((rd_T33 t433 (ji82)).f1) then (laws_FnBest.j8 k6 l1 t419 t420 t433 x21_4 true) else (if t451 = ((rd_T33 t433 (ji82)).f1) then (laws_FnBest.j8 k6 l1 t419 t420 t433 x21_4 (decide (x21_4 < ((rd_T33 t433 (ji82)).f0)))) else (laws_FnBest.j8 k6 l1 t419 t420 t433 x21_4 false)))) else (laws_FnBest.j8 k6 l1 t419 t420 t433 x21_4 true)) else (none)) else (none)) = some r := by first | (rw [hji82] at H; exact H) | (simp only [hji82] at H ⊢; exact H)
                     have hji82w : (IntKind.i64.wrap (t420 - 1)) = ji82 := (i64_w _).trans hji82
                     by_cases c83 : 0 ≤ (ji82)
                     rotate_left
                     ·rw [if_neg c83] at H
                      exact absurd H (by simp)
                     rw [if_pos c83] at H
                     have c83b0 : decide (0 ≤ (ji82)) = true := decide_eq_true c83
                     clear c83
                     by_cases c84 : (ji82) < (t433.length : Int)
                     rotate_left
                     ·rw [if_neg c84] at H
                      exact absurd H (by simp)
                     rw [if_pos c84] at H
                     have c84b0 : decide ((ji82) < (t433.length : Int)) = true := decide_eq_true c84
                     clear c84
                     have HC85 := Aside0.mk H
                     clear H
                     have p455 : 0 ≤ ((ji82) : Int) := sq_d
                     have q455 : (ji82) < (t433.length : Int) := sq_d
                     obtain ⟨ad455, e455, hx455_0, hx455_1⟩ := at_T33 (Kd.R_reads' HO_13.out).2.2 (ji82) p455 q455
                     cases e455
                     replace p455 := eq_true p455
                     replace q455 := eq_true q455
                     go_upto_region 31 with (first | ((with_reducible refine gate_dst (N := 27) rfl ?_); (try (refine gate_guard (by rfl) ?_; dsimp only)); refine box_event ?hg (N := 27) ?hd (cs := #[.int .i64 0, .int .i64 0]) (t := 33) ?hr ?_; (case hd => rfl); (case hg => rfl); (case hr => first | (go_simp; done) | (go_simp; rfl)); intro gb456 hg w86 hbox hb; have n0_ := Aside0.mk (Kd.S_below (Kd.S_elderB (by (with_reducible repeat (first | apply Kd.S_alloc | apply Kd.S_drewN | apply Kd.S_drew)); exact HO_5.out) gb456 (Nat.le_of_eq hg.symm)) hb); have n1_ := Aside0.mk (Kd.R_below (Kd.R_elderB (sq_r HO_13) gb456 (Nat.le_of_eq hg.symm)) hb); have n2_ := Aside0.mk (Kd.R_below (Kd.R_elderB (sq_r HO_198) gb456 (Nat.le_of_eq hg.symm)) hb); have n3_ := Aside0.mk (below_step sq_b hb); have n4_ := Aside0.mk (hbox); have n5_ := Aside0.mk ((by rw [hg]; exact (below_size sq_b) : w.heap.size ≤ gb456)); have n6_ := Aside0.mk ((by rw [hg]; exact (below_size sq_b) : w.heap.size ≤ gb456)); clear HO_5; clear HO_13; clear HO_198; clear HB; have HO_5 := n0_; have HO_13 := n1_; have HO_198 := n2_; have HB := n3_; have BK456 := n4_; have GW456 := n5_; have GE456 := n6_; clear n0_ n1_ n2_ n3_ n4_ n5_ n6_; clear hb hbox hg; have hcz87_0 : w86.cell? ⟨gb456, 0, none⟩ = some (.int .i64 0) := (blk_cell BK456.out 0).trans rfl; have hcz87_1 : w86.cell? ⟨gb456, 1, none⟩ = some (.int .i64 0) := (blk_cell BK456.out 1).trans rfl; have hfz87_0 := blk_frozen BK456.out 0; have hfz87_1 := blk_frozen BK456.out 1))
                     repeat (go_quiet (first | ((with_reducible refine gate_dst (N := 27) rfl ?_); (try (refine gate_guard (by rfl) ?_; dsimp only)); refine box_event ?hg (N := 27) ?hd (cs := #[.int .i64 0, .int .i64 0]) (t := 33) ?hr ?_; (case hd => rfl); (case hg => rfl); (case hr => first | (go_simp; done) | (go_simp; rfl)); intro gb456 hg w86 hbox hb; have n0_ := Aside0.mk (Kd.S_below (Kd.S_elderB (by (with_reducible repeat (first | apply Kd.S_alloc | apply Kd.S_drewN | apply Kd.S_drew)); exact HO_5.out) gb456 (Nat.le_of_eq hg.symm)) hb); have n1_ := Aside0.mk (Kd.R_below (Kd.R_elderB (sq_r HO_13) gb456 (Nat.le_of_eq hg.symm)) hb); have n2_ := Aside0.mk (Kd.R_below (Kd.R_elderB (sq_r HO_198) gb456 (Nat.le_of_eq hg.symm)) hb); have n3_ := Aside0.mk (below_step sq_b hb); have n4_ := Aside0.mk (hbox); have n5_ := Aside0.mk ((by rw [hg]; exact (below_size sq_b) : w.heap.size ≤ gb456)); have n6_ := Aside0.mk ((by rw [hg]; exact (below_size sq_b) : w.heap.size ≤ gb456)); clear HO_5; clear HO_13; clear HO_198; clear HB; have HO_5 := n0_; have HO_13 := n1_; have HO_198 := n2_; have HB := n3_; have BK456 := n4_; have GW456 := n5_; have GE456 := n6_; clear n0_ n1_ n2_ n3_ n4_ n5_ n6_; clear hb hbox hg; have hcz87_0 : w86.cell? ⟨gb456, 0, none⟩ = some (.int .i64 0) := (blk_cell BK456.out 0).trans rfl; have hcz87_1 : w86.cell? ⟨gb456, 1, none⟩ = some (.int .i64 0) := (blk_cell BK456.out 1).trans rfl; have hfz87_0 := blk_frozen BK456.out 0; have hfz87_1 := blk_frozen BK456.out 1)); go_upto_region 31 with (first | ((with_reducible refine gate_dst (N := 27) rfl ?_); (try (refine gate_guard (by rfl) ?_; dsimp only)); refine box_event ?hg (N := 27) ?hd (cs := #[.int .i64 0, .int .i64 0]) (t := 33) ?hr ?_; (case hd => rfl); (case hg => rfl); (case hr => first | (go_simp; done) | (go_simp; rfl)); intro gb456 hg w86 hbox hb; have n0_ := Aside0.mk (Kd.S_below (Kd.S_elderB (by (with_reducible repeat (first | apply Kd.S_alloc | apply Kd.S_drewN | apply Kd.S_drew)); exact HO_5.out) gb456 (Nat.le_of_eq hg.symm)) hb); have n1_ := Aside0.mk (Kd.R_below (Kd.R_elderB (sq_r HO_13) gb456 (Nat.le_of_eq hg.symm)) hb); have n2_ := Aside0.mk (Kd.R_below (Kd.R_elderB (sq_r HO_198) gb456 (Nat.le_of_eq hg.symm)) hb); have n3_ := Aside0.mk (below_step sq_b hb); have n4_ := Aside0.mk (hbox); have n5_ := Aside0.mk ((by rw [hg]; exact (below_size sq_b) : w.heap.size ≤ gb456)); have n6_ := Aside0.mk ((by rw [hg]; exact (below_size sq_b) : w.heap.size ≤ gb456)); clear HO_5; clear HO_13; clear HO_198; clear HB; have HO_5 := n0_; have HO_13 := n1_; have HO_198 := n2_; have HB := n3_; have BK456 := n4_; have GW456 := n5_; have GE456 := n6_; clear n0_ n1_ n2_ n3_ n4_ n5_ n6_; clear hb hbox hg; have hcz87_0 : w86.cell? ⟨gb456, 0, none⟩ = some (.int .i64 0) := (blk_cell BK456.out 0).trans rfl; have hcz87_1 : w86.cell? ⟨gb456, 1, none⟩ = some (.int .i64 0) := (blk_cell BK456.out 1).trans rfl; have hfz87_0 := blk_frozen BK456.out 0; have hfz87_1 := blk_frozen BK456.out 1)))
                     (try simp only [Act.put, List.setIfInBounds_toArray, List.set_cons_zero, List.set_cons_succ])
                     go_cut [240] (fun v240 wc => ∃ (kq : Nat) (x240_84 : Bool), v240 = .bool x240_84 ∧ Aside0 (laws_FnBest.j8 kq l1 t419 t420 t433 x21_4 x240_84 = some r) ∧ Aside0 (kq ≤ k6) ∧ Aside0 (Kd.S (Kd.slice 33 k33) 26 wc w.heap.size (fun k_ => some k_ ≠ ((.slice (some ad455) t433.length co45) : Value).ownBlock ∧ k_ ≠ gb456) (.slice Ao11 t419.length co11) t419) ∧ Aside0 (Kd.R k33 33 wc w.heap.size (fun k_ => k_ ≠ gb456) (.slice (some ad455) t433.length co45) t433) ∧ Aside0 (wc.heap[gb456]? = some (.cells #[.int .i64 ((rd_T33 t433 (ji82)).f0), .int .i64 ((rd_T33 t433 (ji82)).f1)] 33 (0, 0))) ∧ Aside0 (Below w.heap.size w wc))
                     case first => as_aux_lemma =>
                      have H := HC85.out
                      clear HC85
                      by_cases c88 : t452 = true
                      ·subst c88
                       have H1 : (if x24_6 = true then (laws_FnBest.j8 k6 l1 t419 t420 t433 x21_4 false) else (if t451 > ((rd_T33 t433 (ji82)).f1) then (laws_FnBest.j8 k6 l1 t419 t420 t433 x21_4 true) else (if t451 = ((rd_T33 t433 (ji82)).f1) then (laws_FnBest.j8 k6 l1 t419 t420 t433 x21_4 (decide (x21_4 < ((rd_T33 t433 (ji82)).f0)))) else (laws_FnBest.j8 k6 l1 t419 t420 t433 x21_4 false)))) = some r := by rw [if_pos rfl] at H; exact H
                       clear H
                       have H := H1
                       clear H1
                       by_cases c89 : x24_6 = true
                       ·subst c89
                        have H1 : (laws_FnBest.j8 k6 l1 t419 t420 t433 x21_4 false) = some r := by rw [if_pos rfl] at H; exact H
                        clear H
                        have H := H1
                        clear H1
                        have H' := Aside0.mk H
                        clear H
                        go_wp2
                        repeat (go_quiet (fail); try go_wp2)
                        go_meet
                        case rel => exact ⟨_, (false), sq_e, H', ⟨by have := HJ8.out; have := HJ32.out; have := HK3.out; have := HK4.out; have := HJ67.out; have := HK6.out; first | omega | exact Nat.le_refl _⟩, ⟨by (with_reducible repeat (first | apply Kd.S_alloc | apply Kd.S_drewN | apply Kd.S_drew)); exact Kd.S_mono (Kd.S_far (p := ⟨gb456, 1, none⟩) (Kd.S_far (p := ⟨gb456, 0, none⟩) (Kd.S_mono HO_5.out (fun k_ hk => (⟨hk, hk.2⟩ : _ ∧ k_ ≠ gb456))) (fun _ hk => hk.2) (.int .i64 ((rd_T33 t433 (ji82)).f0))) (fun _ hk => hk.2) (.int .i64 ((rd_T33 t433 (ji82)).f1))) (fun _ hk => ⟨hk.1.1.1, hk.1.2⟩)⟩, ⟨by (with_reducible repeat (first | apply Kd.R_alloc | apply Kd.R_drewN | apply Kd.R_drew)); exact Kd.R_mono (Kd.R_far (p := ⟨gb456, 1, none⟩) (Kd.R_far (p := ⟨gb456, 0, none⟩) (Kd.R_mono HO_13.out (fun k_ hk => (⟨hk, hk.2⟩ : _ ∧ k_ ≠ gb456))) (fun _ hk => hk.2) (.int .i64 ((rd_T33 t433 (ji82)).f0))) (fun _ hk => hk.2) (.int .i64 ((rd_T33 t433 (ji82)).f1))) (fun _ hk => hk.1.2)⟩, ⟨by (with_reducible repeat (first | refine blk_drewN ?_ _ | refine blk_drew ?_ | refine blk_alloc ?_ _)); refine blk_put (cs := #[.int .i64 ((rd_T33 t433 (ji82)).f0), .int .i64 0]) ?_ 1 _ rfl; (with_reducible repeat (first | refine blk_drewN ?_ _ | refine blk_drew ?_ | refine blk_alloc ?_ _)); refine blk_put (cs := #[.int .i64 0, .int .i64 0]) ?_ 0 _ rfl; (with_reducible repeat (first | refine blk_drewN ?_ _ | refine blk_drew ?_ | refine blk_alloc ?_ _)); exact BK456.out⟩, ⟨by repeat (first | (with_reducible first | exact HB.out | apply below_alloc | apply pw_below_drewN | apply below_drew1 | refine below_set ?_ GE456.out) | exact HB.out)⟩⟩
                       ·replace c89 := Bool.eq_false_iff.mpr c89
                        subst c89
                        have H1 : (if t451 > ((rd_T33 t433 (ji82)).f1) then (laws_FnBest.j8 k6 l1 t419 t420 t433 x21_4 true) else (if t451 = ((rd_T33 t433 (ji82)).f1) then (laws_FnBest.j8 k6 l1 t419 t420 t433 x21_4 (decide (x21_4 < ((rd_T33 t433 (ji82)).f0)))) else (laws_FnBest.j8 k6 l1 t419 t420 t433 x21_4 false))) = some r := by rw [if_neg (show ¬ (false = true) by decide)] at H; exact H
                        clear H
                        have H := H1
                        clear H1
                        by_cases c90 : t451 > ((rd_T33 t433 (ji82)).f1)
                        ·rw [if_pos c90] at H
                         have c90b0 : decide (((rd_T33 t433 (ji82)).f1) < t451) = true := decide_eq_true c90
                         clear c90
                         (first | rw [c90b0] | (simp only [i64_w, i32_w]; rw [c90b0]) | skip)
                         exact absurd hrt (laws_FnBest.no_j8 _ _ _ _ _ _ H)
                        ·rw [if_neg c90] at H
                         have c90b0 : decide (((rd_T33 t433 (ji82)).f1) < t451) = false := decide_eq_false c90
                         clear c90
                         (first | rw [c90b0] | (simp only [i64_w, i32_w]; rw [c90b0]) | skip)
                         by_cases c92 : t451 = ((rd_T33 t433 (ji82)).f1)
                         ·rw [if_pos c92] at H
                          have c92b0 : (t451 == ((rd_T33 t433 (ji82)).f1)) = true := beq_iff_eq.mpr c92
                          have c92b1 : (t451 != ((rd_T33 t433 (ji82)).f1)) = false := bne_eq_false_iff_eq.mpr c92
                          clear c92
                          have H' := Aside0.mk H
                          clear H
                          have hcz93_0 : w86.cell? ⟨gb456, 0, none⟩ = some (.int .i64 0) := (blk_cell BK456.out 0).trans rfl
                          have hcz93_1 : w86.cell? ⟨gb456, 1, none⟩ = some (.int .i64 0) := (blk_cell BK456.out 1).trans rfl
                          have hfz93_0 := blk_frozen BK456.out 0
                          have hfz93_1 := blk_frozen BK456.out 1
                          go_wp2
                          repeat (go_quiet (fail); try go_wp2)
                          go_meet
                          case rel => exact ⟨_, (decide (x21_4 < ((rd_T33 t433 (ji82)).f0))), (by first | rfl | (simp; done) | (simp [ext_bne_nil, ext_beq_nil]; done) | (simp only [← hji82] <;> (first | rfl | simp)) | (simp [*]; done)), H', ⟨by have := HJ8.out; have := HJ32.out; have := HK3.out; have := HK4.out; have := HJ67.out; have := HK6.out; first | omega | exact Nat.le_refl _⟩, ⟨by (with_reducible repeat (first | apply Kd.S_alloc | apply Kd.S_drewN | apply Kd.S_drew)); exact Kd.S_mono (Kd.S_far (p := ⟨gb456, 1, none⟩) (Kd.S_far (p := ⟨gb456, 0, none⟩) (Kd.S_mono HO_5.out (fun k_ hk => (⟨hk, hk.2⟩ : _ ∧ k_ ≠ gb456))) (fun _ hk => hk.2) (.int .i64 ((rd_T33 t433 (ji82)).f0))) (fun _ hk => hk.2) (.int .i64 ((rd_T33 t433 (ji82)).f1))) (fun _ hk => ⟨hk.1.1.1, hk.1.2⟩)⟩, ⟨by (with_reducible repeat (first | apply Kd.R_alloc | apply Kd.R_drewN | apply Kd.R_drew)); exact Kd.R_mono (Kd.R_far (p := ⟨gb456, 1, none⟩) (Kd.R_far (p := ⟨gb456, 0, none⟩) (Kd.R_mono HO_13.out (fun k_ hk => (⟨hk, hk.2⟩ : _ ∧ k_ ≠ gb456))) (fun _ hk => hk.2) (.int .i64 ((rd_T33 t433 (ji82)).f0))) (fun _ hk => hk.2) (.int .i64 ((rd_T33 t433 (ji82)).f1))) (fun _ hk => hk.1.2)⟩, ⟨by (with_reducible repeat (first | refine blk_drewN ?_ _ | refine blk_drew ?_ | refine blk_alloc ?_ _)); refine blk_put (cs := #[.int .i64 ((rd_T33 t433 (ji82)).f0), .int .i64 0]) ?_ 1 _ rfl; (with_reducible repeat (first | refine blk_drewN ?_ _ | refine blk_drew ?_ | refine blk_alloc ?_ _)); refine blk_put (cs := #[.int .i64 0, .int .i64 0]) ?_ 0 _ rfl; (with_reducible repeat (first | refine blk_drewN ?_ _ | refine blk_drew ?_ | refine blk_alloc ?_ _)); exact BK456.out⟩, ⟨by repeat (first | (with_reducible first | exact HB.out | apply below_alloc | apply pw_below_drewN | apply below_drew1 | refine below_set ?_ GE456.out) | exact HB.out)⟩⟩
                         ·rw [if_neg c92] at H
                          have c92b0 : (t451 == ((rd_T33 t433 (ji82)).f1)) = false := beq_eq_false_iff_ne.mpr c92
                          have c92b1 : (t451 != ((rd_T33 t433 (ji82)).f1)) = true := bne_iff_ne.mpr c92
                          have H' := Aside0.mk H
                          clear H
                          have hcz94_0 : w86.cell? ⟨gb456, 0, none⟩ = some (.int .i64 0) := (blk_cell BK456.out 0).trans rfl
                          have hcz94_1 : w86.cell? ⟨gb456, 1, none⟩ = some (.int .i64 0) := (blk_cell BK456.out 1).trans rfl
                          have hfz94_0 := blk_frozen BK456.out 0
                          have hfz94_1 := blk_frozen BK456.out 1
                          go_wp2
                          repeat (go_quiet (fail); try go_wp2)
                          go_meet
                          case rel => exact ⟨_, (false), sq_e, H', ⟨by have := HJ8.out; have := HJ32.out; have := HK3.out; have := HK4.out; have := HJ67.out; have := HK6.out; first | omega | exact Nat.le_refl _⟩, ⟨by (with_reducible repeat (first | apply Kd.S_alloc | apply Kd.S_drewN | apply Kd.S_drew)); exact Kd.S_mono (Kd.S_far (p := ⟨gb456, 1, none⟩) (Kd.S_far (p := ⟨gb456, 0, none⟩) (Kd.S_mono HO_5.out (fun k_ hk => (⟨hk, hk.2⟩ : _ ∧ k_ ≠ gb456))) (fun _ hk => hk.2) (.int .i64 ((rd_T33 t433 (ji82)).f0))) (fun _ hk => hk.2) (.int .i64 ((rd_T33 t433 (ji82)).f1))) (fun _ hk => ⟨hk.1.1.1, hk.1.2⟩)⟩, ⟨by (with_reducible repeat (first | apply Kd.R_alloc | apply Kd.R_drewN | apply Kd.R_drew)); exact Kd.R_mono (Kd.R_far (p := ⟨gb456, 1, none⟩) (Kd.R_far (p := ⟨gb456, 0, none⟩) (Kd.R_mono HO_13.out (fun k_ hk => (⟨hk, hk.2⟩ : _ ∧ k_ ≠ gb456))) (fun _ hk => hk.2) (.int .i64 ((rd_T33 t433 (ji82)).f0))) (fun _ hk => hk.2) (.int .i64 ((rd_T33 t433 (ji82)).f1))) (fun _ hk => hk.1.2)⟩, ⟨by (with_reducible repeat (first | refine blk_drewN ?_ _ | refine blk_drew ?_ | refine blk_alloc ?_ _)); refine blk_put (cs := #[.int .i64 ((rd_T33 t433 (ji82)).f0), .int .i64 0]) ?_ 1 _ rfl; (with_reducible repeat (first | refine blk_drewN ?_ _ | refine blk_drew ?_ | refine blk_alloc ?_ _)); refine blk_put (cs := #[.int .i64 0, .int .i64 0]) ?_ 0 _ rfl; (with_reducible repeat (first | refine blk_drewN ?_ _ | refine blk_drew ?_ | refine blk_alloc ?_ _)); exact BK456.out⟩, ⟨by repeat (first | (with_reducible first | exact HB.out | apply below_alloc | apply pw_below_drewN | apply below_drew1 | refine below_set ?_ GE456.out) | exact HB.out)⟩⟩
                      ·replace c88 := Bool.eq_false_iff.mpr c88
                       subst c88
                       have H1 : (laws_FnBest.j8 k6 l1 t419 t420 t433 x21_4 true) = some r := by rw [if_neg (show ¬ (false = true) by decide)] at H; exact H
                       clear H
                       have H := H1
                       clear H1
                       exact absurd hrt (laws_FnBest.no_j8 _ _ _ _ _ _ H)
                     case rest => as_aux_lemma =>
                      clear HC85
                      (try clear c1); (try clear c2); (try clear p2); (try clear c3); (try clear c3b0); (try clear c4); (try clear p4); (try clear q4); (try clear hx4); (try clear c5); (try clear c6); (try clear p6); (try clear c7); (try clear c8); (try clear c9); (try clear c16); (try clear c16b0); (try clear c16b1); (try clear c16b2); (try clear c17); (try clear c17b0); (try clear c17b1); (try clear c19)
                      (try clear c20); (try clear c20b0); (try clear c20b1); (try clear c20b2); (try clear c30); (try clear c32); (try clear c34); (try clear c36); (try clear c37); (try clear c37b0); (try clear c44); (try clear p44); (try clear q44); (try clear hx44); (try clear p45); (try clear q45); (try clear hx45); (try clear c46); (try clear c46b0); (try clear c47); (try clear c47b0); (try clear c48)
                      (try clear c48b0); (try clear c54); (try clear c55); (try clear c55b0); (try clear c55b1); (try clear c56); (try clear c56b0); (try clear c58); (try clear c58b0); (try clear c59); (try clear c59b0); (try clear c60); (try clear c60b0); (try clear c62); (try clear c62b0); (try clear c62b1); (try clear p64); (try clear c67); (try clear c69); (try clear c69b0); (try clear c70); (try clear c73)
                      (try clear c73b0); (try clear c75); (try clear c75b0); (try clear c76); (try clear c76b0); (try clear c77); (try clear c83); (try clear c83b0); (try clear c84); (try clear c84b0); (try clear c88); (try clear c89); (try clear c90); (try clear c90b0); (try clear c92); (try clear c92b0); (try clear c92b1); (try clear hcz52_0); (try clear hcz52_1); (try clear hcz61_0); (try clear hcz61_1)
                      (try clear hcz63_0); (try clear hcz63_1); (try clear hcz64_0); (try clear hcz64_1); (try clear hcz65_0); (try clear hcz65_1); (try clear hcz66_0); (try clear hcz66_1); (try clear hcz79_0); (try clear hcz79_1); (try clear hcz81_0); (try clear hcz81_1); (try clear hcz87_0); (try clear hcz87_1); (try clear hcz91_0); (try clear hcz91_1); (try clear hcz93_0); (try clear hcz93_1); (try clear hcz94_0)
                      (try clear hcz94_1); (try clear hfz52_0); (try clear hfz52_1); (try clear hfz61_0); (try clear hfz61_1); (try clear hfz63_0); (try clear hfz63_1); (try clear hfz64_0); (try clear hfz64_1); (try clear hfz65_0); (try clear hfz65_1); (try clear hfz66_0); (try clear hfz66_1); (try clear hfz79_0); (try clear hfz79_1); (try clear hfz81_0); (try clear hfz81_1); (try clear hfz87_0); (try clear hfz87_1)
                      (try clear hfz91_0); (try clear hfz91_1); (try clear hfz93_0); (try clear hfz93_1); (try clear hfz94_0); (try clear hfz94_1); (try clear hx444_0); (try clear hx444_1); (try clear hx448_0); (try clear hx448_1); (try clear hx449_0); (try clear hx449_1); (try clear hx450_0); (try clear hx450_1); (try clear hx453_0); (try clear hx453_1); (try clear hx455_0); (try clear hx455_1); (try clear p2)
                      (try clear p4); (try clear p44); (try clear p444); (try clear p448); (try clear p449); (try clear p45); (try clear p450); (try clear p453); (try clear p455); (try clear p6); (try clear p64); (try clear q4); (try clear q44); (try clear q444); (try clear q448); (try clear q449); (try clear q45); (try clear q450); (try clear q453); (try clear q455)
                      obtain ⟨kq, x240_84, rfl, HA, HJ84, HO_5, HO_13, BK456, HB⟩ := hcut
                      cases kq with
                      | zero => exact absurd HA.out (by simp [laws_FnBest.j8])
                      | succ kj84 =>
                       have H := HA.out
                       clear HA
                       simp only [laws_FnBest.j8] at H
                       by_cases c95 : x240_84 = true
                       ·subst c95
                        have H1 : (some false) = some r := by rw [if_pos rfl] at H; exact H
                        clear H
                        have H := H1
                        clear H1
                        obtain rfl := Option.some.inj H
                        cases hrt
                       ·replace c95 := Bool.eq_false_iff.mpr c95
                        subst c95
                        have H1 : (laws_FnBest.l1 kj84 l1 t419 t420 t433 (wrap64 (x21_4 + 1))) = some r := by rw [if_neg (show ¬ (false = true) by decide)] at H; exact H
                        clear H
                        have H := H1
                        clear H1
                        have H' := Aside0.mk H
                        clear H
                        go_wp2
                        repeat (go_quiet (fail); try go_wp2)
                        go_roundg kj84
                        case measure => have := HJ8.out; have := HJ32.out; have := HK3.out; have := HK4.out; have := HJ67.out; have := HK6.out; have := HJ84.out; omega
                        case rel => exact ⟨(wrap64 (x21_4 + 1)), sq_e, H', ⟨by have := HJ8.out; have := HJ32.out; have := HK3.out; have := HK4.out; have := HJ67.out; have := HK6.out; have := HJ84.out; omega⟩, ⟨by (with_reducible repeat (first | apply Kd.S_alloc | apply Kd.S_drewN | apply Kd.S_drew)); exact Kd.S_mono HO_5.out (fun _ hk => hk.1)⟩, ⟨by (with_reducible repeat (first | apply Kd.R_alloc | apply Kd.R_drewN | apply Kd.R_drew)); exact Kd.R_mono HO_13.out (fun _ hk => trivial)⟩, ⟨by repeat (first | (with_reducible first | exact HB.out | apply below_alloc | apply pw_below_drewN | apply below_drew1 | refine below_set ?_ GE456.out) | exact HB.out)⟩⟩
                 ·replace c70 := Bool.eq_false_iff.mpr c70
                  subst c70
                  have H1 : (laws_FnBest.j9 kj67 l1) = some r := by rw [if_neg (show ¬ (false = true) by decide)] at H; exact H
                  clear H
                  have H := H1
                  clear H1
                  have H' := Aside0.mk H
                  clear H
                  go_wp2
                  repeat (go_quiet (fail); try go_wp2)
                  go_meet
                  case rel => exact ⟨_, H', ⟨by have := HJ8.out; have := HJ32.out; have := HK3.out; have := HK4.out; have := HJ67.out; first | omega | exact Nat.le_refl _⟩, ⟨sq_b⟩⟩
      ·replace c32 := Bool.eq_false_iff.mpr c32
       subst c32
       have H1 : (laws_FnBest.j9 kj8 l1) = some r := by rw [if_neg (show ¬ (false = true) by decide)] at H; exact H
       clear H
       have H := H1
       clear H1
       have H' := Aside0.mk H
       clear H
       go_wp2
       repeat (go_quiet (fail); try go_wp2)
       go_meet
       case rel => exact ⟨_, H', ⟨by have := HJ8.out; first | omega | exact Nat.le_refl _⟩, ⟨sq_b⟩⟩
     case rest => as_aux_lemma =>
      clear HC31
      (try clear c1); (try clear c2); (try clear p2); (try clear c3); (try clear c3b0); (try clear c4); (try clear p4); (try clear q4); (try clear hx4); (try clear c5); (try clear c6); (try clear p6); (try clear c7); (try clear c8); (try clear c9); (try clear c16); (try clear c16b0); (try clear c16b1); (try clear c16b2); (try clear c17); (try clear c17b0); (try clear c17b1); (try clear c19); (try clear c20)
      (try clear c20b0); (try clear c20b1); (try clear c20b2); (try clear c30); (try clear c32); (try clear c34); (try clear c36); (try clear c37); (try clear c37b0); (try clear c44); (try clear p44); (try clear q44); (try clear hx44); (try clear p45); (try clear q45); (try clear hx45); (try clear c46); (try clear c46b0); (try clear c47); (try clear c47b0); (try clear c48); (try clear c48b0); (try clear c54)
      (try clear c55); (try clear c55b0); (try clear c55b1); (try clear c56); (try clear c56b0); (try clear c58); (try clear c58b0); (try clear c59); (try clear c59b0); (try clear c60); (try clear c60b0); (try clear c62); (try clear c62b0); (try clear c62b1); (try clear p64); (try clear c67); (try clear c69); (try clear c69b0); (try clear c70); (try clear c73); (try clear c73b0); (try clear c75); (try clear c75b0)
      (try clear c76); (try clear c76b0); (try clear c77); (try clear c83); (try clear c83b0); (try clear c84); (try clear c84b0); (try clear c88); (try clear c89); (try clear c90); (try clear c90b0); (try clear c92); (try clear c92b0); (try clear c92b1); (try clear c95); (try clear hcz52_0); (try clear hcz52_1); (try clear hcz61_0); (try clear hcz61_1); (try clear hcz63_0); (try clear hcz63_1); (try clear hcz64_0)
      (try clear hcz64_1); (try clear hcz65_0); (try clear hcz65_1); (try clear hcz66_0); (try clear hcz66_1); (try clear hcz79_0); (try clear hcz79_1); (try clear hcz81_0); (try clear hcz81_1); (try clear hcz87_0); (try clear hcz87_1); (try clear hcz91_0); (try clear hcz91_1); (try clear hcz93_0); (try clear hcz93_1); (try clear hcz94_0); (try clear hcz94_1); (try clear hfz52_0); (try clear hfz52_1)
      (try clear hfz61_0); (try clear hfz61_1); (try clear hfz63_0); (try clear hfz63_1); (try clear hfz64_0); (try clear hfz64_1); (try clear hfz65_0); (try clear hfz65_1); (try clear hfz66_0); (try clear hfz66_1); (try clear hfz79_0); (try clear hfz79_1); (try clear hfz81_0); (try clear hfz81_1); (try clear hfz87_0); (try clear hfz87_1); (try clear hfz91_0); (try clear hfz91_1); (try clear hfz93_0)
      (try clear hfz93_1); (try clear hfz94_0); (try clear hfz94_1); (try clear hx444_0); (try clear hx444_1); (try clear hx448_0); (try clear hx448_1); (try clear hx449_0); (try clear hx449_1); (try clear hx450_0); (try clear hx450_1); (try clear hx453_0); (try clear hx453_1); (try clear hx455_0); (try clear hx455_1); (try clear p2); (try clear p4); (try clear p44); (try clear p444); (try clear p448)
      (try clear p449); (try clear p45); (try clear p450); (try clear p453); (try clear p455); (try clear p6); (try clear p64); (try clear q4); (try clear q44); (try clear q444); (try clear q448); (try clear q449); (try clear q45); (try clear q450); (try clear q453); (try clear q455)
      obtain ⟨kq, HA, HJ30, HB⟩ := hcut
      cases kq with
      | zero => exact absurd HA.out (by simp [laws_FnBest.j9])
      | succ kj30 =>
       have H := HA.out
       clear HA
       simp only [laws_FnBest.j9] at H
       replace H := Option.bind_eq_some_iff.mp H
       obtain ⟨⟨t457, t458⟩, A960, H⟩ := H
       replace H : ((impl_TotalOf.f kj30 t457 t458).bind fun bt461 => ((spec_TotalOf.f kj30 t457 t458).bind fun bt463 => ((spec_DrawBoundAt.f kj30 l1).bind fun bt465 => ((impl_BoundAt.f kj30 bt465.1 bt465.2).bind fun bt469 => ((spec_BoundAt.f kj30 bt465.1 bt465.2).bind fun bt471 => ((spec_DrawGoodRow.f kj30 l1).bind fun t473 => (if (bt461.2 == bt463.2) = true then (if bt461.1 = bt463.1 then (if (bt469.2 == bt471.2) = true then (if bt469.1 = bt471.1 then ((impl_GoodRow.f kj30 t473).bind fun t476 => ((spec_GoodRow.f kj30 t473).bind fun t477 => (laws_FnBest.j10 kj30 (t476 == t477)))) else (laws_FnBest.j10 kj30 false)) else (laws_FnBest.j10 kj30 false)) else (laws_FnBest.j10 kj30 false)) else (laws_FnBest.j10 kj30 false)))))))) = some r := H
       have A96 := Aside0.mk A960
       clear A960
       replace H := Option.bind_eq_some_iff.mp H
       obtain ⟨⟨t461, t462⟩, A970, H⟩ := H
       replace H : ((spec_TotalOf.f kj30 t457 t458).bind fun bt463 => ((spec_DrawBoundAt.f kj30 l1).bind fun bt465 => ((impl_BoundAt.f kj30 bt465.1 bt465.2).bind fun bt469 => ((spec_BoundAt.f kj30 bt465.1 bt465.2).bind fun bt471 => ((spec_DrawGoodRow.f kj30 l1).bind fun t473 => (if (t462 == bt463.2) = true then (if t461 = bt463.1 then (if (bt469.2 == bt471.2) = true then (if bt469.1 = bt471.1 then ((impl_GoodRow.f kj30 t473).bind fun t476 => ((spec_GoodRow.f kj30 t473).bind fun t477 => (laws_FnBest.j10 kj30 (t476 == t477)))) else (laws_FnBest.j10 kj30 false)) else (laws_FnBest.j10 kj30 false)) else (laws_FnBest.j10 kj30 false)) else (laws_FnBest.j10 kj30 false))))))) = some r := H
       have A97 := Aside0.mk A970
       clear A970
       replace H := Option.bind_eq_some_iff.mp H
       obtain ⟨⟨t463, t464⟩, A980, H⟩ := H
       replace H : ((spec_DrawBoundAt.f kj30 l1).bind fun bt465 => ((impl_BoundAt.f kj30 bt465.1 bt465.2).bind fun bt469 => ((spec_BoundAt.f kj30 bt465.1 bt465.2).bind fun bt471 => ((spec_DrawGoodRow.f kj30 l1).bind fun t473 => (if (t462 == t464) = true then (if t461 = t463 then (if (bt469.2 == bt471.2) = true then (if bt469.1 = bt471.1 then ((impl_GoodRow.f kj30 t473).bind fun t476 => ((spec_GoodRow.f kj30 t473).bind fun t477 => (laws_FnBest.j10 kj30 (t476 == t477)))) else (laws_FnBest.j10 kj30 false)) else (laws_FnBest.j10 kj30 false)) else (laws_FnBest.j10 kj30 false)) else (laws_FnBest.j10 kj30 false)))))) = some r := H
       have A98 := Aside0.mk A980
       clear A980
       replace H := Option.bind_eq_some_iff.mp H
       obtain ⟨⟨t465, t466⟩, A990, H⟩ := H
       replace H : ((impl_BoundAt.f kj30 t465 t466).bind fun bt469 => ((spec_BoundAt.f kj30 t465 t466).bind fun bt471 => ((spec_DrawGoodRow.f kj30 l1).bind fun t473 => (if (t462 == t464) = true then (if t461 = t463 then (if (bt469.2 == bt471.2) = true then (if bt469.1 = bt471.1 then ((impl_GoodRow.f kj30 t473).bind fun t476 => ((spec_GoodRow.f kj30 t473).bind fun t477 => (laws_FnBest.j10 kj30 (t476 == t477)))) else (laws_FnBest.j10 kj30 false)) else (laws_FnBest.j10 kj30 false)) else (laws_FnBest.j10 kj30 false)) else (laws_FnBest.j10 kj30 false))))) = some r := H
       have A99 := Aside0.mk A990
       clear A990
       replace H := Option.bind_eq_some_iff.mp H
       obtain ⟨⟨t469, t470⟩, A1000, H⟩ := H
       replace H : ((spec_BoundAt.f kj30 t465 t466).bind fun bt471 => ((spec_DrawGoodRow.f kj30 l1).bind fun t473 => (if (t462 == t464) = true then (if t461 = t463 then (if (t470 == bt471.2) = true then (if t469 = bt471.1 then ((impl_GoodRow.f kj30 t473).bind fun t476 => ((spec_GoodRow.f kj30 t473).bind fun t477 => (laws_FnBest.j10 kj30 (t476 == t477)))) else (laws_FnBest.j10 kj30 false)) else (laws_FnBest.j10 kj30 false)) else (laws_FnBest.j10 kj30 false)) else (laws_FnBest.j10 kj30 false)))) = some r := H
       have A100 := Aside0.mk A1000
       clear A1000
       replace H := Option.bind_eq_some_iff.mp H
       obtain ⟨⟨t471, t472⟩, A1010, H⟩ := H
       replace H : ((spec_DrawGoodRow.f kj30 l1).bind fun t473 => (if (t462 == t464) = true then (if t461 = t463 then (if (t470 == t472) = true then (if t469 = t471 then ((impl_GoodRow.f kj30 t473).bind fun t476 => ((spec_GoodRow.f kj30 t473).bind fun t477 => (laws_FnBest.j10 kj30 (t476 == t477)))) else (laws_FnBest.j10 kj30 false)) else (laws_FnBest.j10 kj30 false)) else (laws_FnBest.j10 kj30 false)) else (laws_FnBest.j10 kj30 false))) = some r := H
       have A101 := Aside0.mk A1010
       clear A1010
       replace H := Option.bind_eq_some_iff.mp H
       obtain ⟨t473, A1020, H⟩ := H
       replace H : (if (t462 == t464) = true then (if t461 = t463 then (if (t470 == t472) = true then (if t469 = t471 then ((impl_GoodRow.f kj30 t473).bind fun t476 => ((spec_GoodRow.f kj30 t473).bind fun t477 => (laws_FnBest.j10 kj30 (t476 == t477)))) else (laws_FnBest.j10 kj30 false)) else (laws_FnBest.j10 kj30 false)) else (laws_FnBest.j10 kj30 false)) else (laws_FnBest.j10 kj30 false)) = some r := H
       have A102 := Aside0.mk A1020
       clear A1020
       have HC103 := Aside0.mk H
       clear H
       go_upto_region 40 with (first | (go_at_call 14; (with_reducible refine (spec_DrawTotalOf.calls kj30 _ _ l1 t457 t458 _ ?side1 ?side2 A96.out).mono ?_); (case side1 => repeat (first | exact (Kd.C_below HR1.out HB.out) | (with_reducible refine Kd.C_alloc ?_ _) | (with_reducible refine Kd.C_drewN ?_ _) | (with_reducible refine Kd.C_drew ?_))); (case side2 => exact HC1.out); rintro e w104 ⟨v459, rfl, ho0, hb⟩; have n0_ := Aside0.mk (Kd.S_lower ho0 (below_size sq_b)); have n1_ := Aside0.mk (below_step sq_b hb); clear HB; have HO460 := n0_; have HB := n1_; clear n0_ n1_; (try clear hb); (try clear hb2); (try clear hk); (try clear hi); (try clear ho0); obtain ⟨Ao105, co105, eo105⟩ := Kd.S_slice HO460.out; subst eo105) | (go_at_call 13; (with_reducible refine (impl_TotalOf.calls kj30 _ _ t457 t458 t461 t462 _ ?side1 ?side2 A97.out).mono ?_); (case side1 => repeat (first | exact (Kd.S_reads' HO460.out).2.2 | (with_reducible refine Kd.C_alloc ?_ _) | (with_reducible refine Kd.C_drewN ?_ _) | (with_reducible refine Kd.C_drew ?_))); (case side2 => exact (Kd.S_reads' HO460.out).2.1); rintro e w106 ⟨rfl, hb⟩; have n0_ := Aside0.mk (Kd.S_below (by (with_reducible repeat (first | apply Kd.S_alloc | apply Kd.S_drewN | apply Kd.S_drew)); exact HO460.out) hb); have n1_ := Aside0.mk (below_step sq_b hb); clear HO460; clear HB; have HO460 := n0_; have HB := n1_; clear n0_ n1_; (try clear hb); (try clear hb2); (try clear hk); (try clear hi)) | (go_at_call 15; (with_reducible refine (spec_TotalOf.calls kj30 _ _ t457 t458 t463 t464 _ ?side1 ?side2 A98.out).mono ?_); (case side1 => repeat (first | exact (Kd.S_reads' HO460.out).2.2 | (with_reducible refine Kd.C_alloc ?_ _) | (with_reducible refine Kd.C_drewN ?_ _) | (with_reducible refine Kd.C_drew ?_))); (case side2 => exact (Kd.S_reads' HO460.out).2.1); rintro e w107 ⟨rfl, hb⟩; have n0_ := Aside0.mk (Kd.S_below (by (with_reducible repeat (first | apply Kd.S_alloc | apply Kd.S_drewN | apply Kd.S_drew)); exact HO460.out) hb); have n1_ := Aside0.mk (below_step sq_b hb); clear HO460; clear HB; have HO460 := n0_; have HB := n1_; clear n0_ n1_; (try clear hb); (try clear hb2); (try clear hk); (try clear hi)) | (go_at_call 16; (with_reducible refine (spec_DrawBoundAt.calls kj30 _ _ l1 t465 t466 _ ?side1 ?side2 A99.out).mono ?_); (case side1 => repeat (first | exact (Kd.C_below HR1.out HB.out) | (with_reducible refine Kd.C_alloc ?_ _) | (with_reducible refine Kd.C_drewN ?_ _) | (with_reducible refine Kd.C_drew ?_))); (case side2 => exact HC1.out); rintro e w108 ⟨v467, rfl, ho0, hb⟩; have n0_ := Aside0.mk (Kd.S_elder' (by (with_reducible repeat (first | apply Kd.S_alloc | apply Kd.S_drewN | apply Kd.S_drew)); exact HO460.out) (Kd.S_base ho0) hb); have n1_ := Aside0.mk (Kd.S_lower (Kd.S_new' ho0 (Kd.S_lt (by (with_reducible repeat (first | apply Kd.S_alloc | apply Kd.S_drewN | apply Kd.S_drew)); exact HO460.out))) (below_size sq_b)); have n2_ := Aside0.mk (below_step sq_b hb); clear HO460; clear HB; have HO460 := n0_; have HO468 := n1_; have HB := n2_; clear n0_ n1_ n2_; (try clear hb); (try clear hb2); (try clear hk); (try clear hi); (try clear ho0); obtain ⟨Ao109, co109, eo109⟩ := Kd.S_slice HO468.out; subst eo109) | (go_at_call 17; (with_reducible refine (impl_BoundAt.calls kj30 _ _ t465 t466 t469 t470 _ ?side1 ?side2 A100.out).mono ?_); (case side1 => repeat (first | exact (Kd.S_reads' HO468.out).2.2 | (with_reducible refine Kd.C_alloc ?_ _) | (with_reducible refine Kd.C_drewN ?_ _) | (with_reducible refine Kd.C_drew ?_))); (case side2 => exact (Kd.S_reads' HO468.out).2.1); rintro e w110 ⟨rfl, hb⟩; have n0_ := Aside0.mk (Kd.S_below (by (with_reducible repeat (first | apply Kd.S_alloc | apply Kd.S_drewN | apply Kd.S_drew)); exact HO460.out) hb); have n1_ := Aside0.mk (Kd.S_below (by (with_reducible repeat (first | apply Kd.S_alloc | apply Kd.S_drewN | apply Kd.S_drew)); exact HO468.out) hb); have n2_ := Aside0.mk (below_step sq_b hb); clear HO460; clear HO468; clear HB; have HO460 := n0_; have HO468 := n1_; have HB := n2_; clear n0_ n1_ n2_; (try clear hb); (try clear hb2); (try clear hk); (try clear hi)) | (go_at_call 18; (with_reducible refine (spec_BoundAt.calls kj30 _ _ t465 t466 t471 t472 _ ?side1 ?side2 A101.out).mono ?_); (case side1 => repeat (first | exact (Kd.S_reads' HO468.out).2.2 | (with_reducible refine Kd.C_alloc ?_ _) | (with_reducible refine Kd.C_drewN ?_ _) | (with_reducible refine Kd.C_drew ?_))); (case side2 => exact (Kd.S_reads' HO468.out).2.1); rintro e w111 ⟨rfl, hb⟩; have n0_ := Aside0.mk (Kd.S_below (by (with_reducible repeat (first | apply Kd.S_alloc | apply Kd.S_drewN | apply Kd.S_drew)); exact HO460.out) hb); have n1_ := Aside0.mk (Kd.S_below (by (with_reducible repeat (first | apply Kd.S_alloc | apply Kd.S_drewN | apply Kd.S_drew)); exact HO468.out) hb); have n2_ := Aside0.mk (below_step sq_b hb); clear HO460; clear HO468; clear HB; have HO460 := n0_; have HO468 := n1_; have HB := n2_; clear n0_ n1_ n2_; (try clear hb); (try clear hb2); (try clear hk); (try clear hi)) | (go_at_call 19; (with_reducible refine (spec_DrawGoodRow.calls kj30 _ _ l1 t473 _ ?side1 ?side2 A102.out).mono ?_); (case side1 => repeat (first | exact (Kd.C_below HR1.out HB.out) | (with_reducible refine Kd.C_alloc ?_ _) | (with_reducible refine Kd.C_drewN ?_ _) | (with_reducible refine Kd.C_drew ?_))); (case side2 => exact HC1.out); rintro e w112 ⟨v474, rfl, ho0, hb⟩; have n0_ := Aside0.mk (Kd.S_elder' (by (with_reducible repeat (first | apply Kd.S_alloc | apply Kd.S_drewN | apply Kd.S_drew)); exact HO460.out) (Kd.R_base ho0) hb); have n1_ := Aside0.mk (Kd.S_elder' (by (with_reducible repeat (first | apply Kd.S_alloc | apply Kd.S_drewN | apply Kd.S_drew)); exact HO468.out) (Kd.R_base ho0) hb); have n2_ := Aside0.mk (Kd.R_lower ho0 (below_size sq_b)); have n3_ := Aside0.mk (below_step sq_b hb); clear HO460; clear HO468; clear HB; have HO460 := n0_; have HO468 := n1_; have HO475 := n2_; have HB := n3_; clear n0_ n1_ n2_ n3_; (try clear hb); (try clear hb2); (try clear hk); (try clear hi); (try clear ho0)))
       repeat (go_quiet (first | (go_at_call 14; (with_reducible refine (spec_DrawTotalOf.calls kj30 _ _ l1 t457 t458 _ ?side1 ?side2 A96.out).mono ?_); (case side1 => repeat (first | exact (Kd.C_below HR1.out HB.out) | (with_reducible refine Kd.C_alloc ?_ _) | (with_reducible refine Kd.C_drewN ?_ _) | (with_reducible refine Kd.C_drew ?_))); (case side2 => exact HC1.out); rintro e w104 ⟨v459, rfl, ho0, hb⟩; have n0_ := Aside0.mk (Kd.S_lower ho0 (below_size sq_b)); have n1_ := Aside0.mk (below_step sq_b hb); clear HB; have HO460 := n0_; have HB := n1_; clear n0_ n1_; (try clear hb); (try clear hb2); (try clear hk); (try clear hi); (try clear ho0); obtain ⟨Ao105, co105, eo105⟩ := Kd.S_slice HO460.out; subst eo105) | (go_at_call 13; (with_reducible refine (impl_TotalOf.calls kj30 _ _ t457 t458 t461 t462 _ ?side1 ?side2 A97.out).mono ?_); (case side1 => repeat (first | exact (Kd.S_reads' HO460.out).2.2 | (with_reducible refine Kd.C_alloc ?_ _) | (with_reducible refine Kd.C_drewN ?_ _) | (with_reducible refine Kd.C_drew ?_))); (case side2 => exact (Kd.S_reads' HO460.out).2.1); rintro e w106 ⟨rfl, hb⟩; have n0_ := Aside0.mk (Kd.S_below (by (with_reducible repeat (first | apply Kd.S_alloc | apply Kd.S_drewN | apply Kd.S_drew)); exact HO460.out) hb); have n1_ := Aside0.mk (below_step sq_b hb); clear HO460; clear HB; have HO460 := n0_; have HB := n1_; clear n0_ n1_; (try clear hb); (try clear hb2); (try clear hk); (try clear hi)) | (go_at_call 15; (with_reducible refine (spec_TotalOf.calls kj30 _ _ t457 t458 t463 t464 _ ?side1 ?side2 A98.out).mono ?_); (case side1 => repeat (first | exact (Kd.S_reads' HO460.out).2.2 | (with_reducible refine Kd.C_alloc ?_ _) | (with_reducible refine Kd.C_drewN ?_ _) | (with_reducible refine Kd.C_drew ?_))); (case side2 => exact (Kd.S_reads' HO460.out).2.1); rintro e w107 ⟨rfl, hb⟩; have n0_ := Aside0.mk (Kd.S_below (by (with_reducible repeat (first | apply Kd.S_alloc | apply Kd.S_drewN | apply Kd.S_drew)); exact HO460.out) hb); have n1_ := Aside0.mk (below_step sq_b hb); clear HO460; clear HB; have HO460 := n0_; have HB := n1_; clear n0_ n1_; (try clear hb); (try clear hb2); (try clear hk); (try clear hi)) | (go_at_call 16; (with_reducible refine (spec_DrawBoundAt.calls kj30 _ _ l1 t465 t466 _ ?side1 ?side2 A99.out).mono ?_); (case side1 => repeat (first | exact (Kd.C_below HR1.out HB.out) | (with_reducible refine Kd.C_alloc ?_ _) | (with_reducible refine Kd.C_drewN ?_ _) | (with_reducible refine Kd.C_drew ?_))); (case side2 => exact HC1.out); rintro e w108 ⟨v467, rfl, ho0, hb⟩; have n0_ := Aside0.mk (Kd.S_elder' (by (with_reducible repeat (first | apply Kd.S_alloc | apply Kd.S_drewN | apply Kd.S_drew)); exact HO460.out) (Kd.S_base ho0) hb); have n1_ := Aside0.mk (Kd.S_lower (Kd.S_new' ho0 (Kd.S_lt (by (with_reducible repeat (first | apply Kd.S_alloc | apply Kd.S_drewN | apply Kd.S_drew)); exact HO460.out))) (below_size sq_b)); have n2_ := Aside0.mk (below_step sq_b hb); clear HO460; clear HB; have HO460 := n0_; have HO468 := n1_; have HB := n2_; clear n0_ n1_ n2_; (try clear hb); (try clear hb2); (try clear hk); (try clear hi); (try clear ho0); obtain ⟨Ao109, co109, eo109⟩ := Kd.S_slice HO468.out; subst eo109) | (go_at_call 17; (with_reducible refine (impl_BoundAt.calls kj30 _ _ t465 t466 t469 t470 _ ?side1 ?side2 A100.out).mono ?_); (case side1 => repeat (first | exact (Kd.S_reads' HO468.out).2.2 | (with_reducible refine Kd.C_alloc ?_ _) | (with_reducible refine Kd.C_drewN ?_ _) | (with_reducible refine Kd.C_drew ?_))); (case side2 => exact (Kd.S_reads' HO468.out).2.1); rintro e w110 ⟨rfl, hb⟩; have n0_ := Aside0.mk (Kd.S_below (by (with_reducible repeat (first | apply Kd.S_alloc | apply Kd.S_drewN | apply Kd.S_drew)); exact HO460.out) hb); have n1_ := Aside0.mk (Kd.S_below (by (with_reducible repeat (first | apply Kd.S_alloc | apply Kd.S_drewN | apply Kd.S_drew)); exact HO468.out) hb); have n2_ := Aside0.mk (below_step sq_b hb); clear HO460; clear HO468; clear HB; have HO460 := n0_; have HO468 := n1_; have HB := n2_; clear n0_ n1_ n2_; (try clear hb); (try clear hb2); (try clear hk); (try clear hi)) | (go_at_call 18; (with_reducible refine (spec_BoundAt.calls kj30 _ _ t465 t466 t471 t472 _ ?side1 ?side2 A101.out).mono ?_); (case side1 => repeat (first | exact (Kd.S_reads' HO468.out).2.2 | (with_reducible refine Kd.C_alloc ?_ _) | (with_reducible refine Kd.C_drewN ?_ _) | (with_reducible refine Kd.C_drew ?_))); (case side2 => exact (Kd.S_reads' HO468.out).2.1); rintro e w111 ⟨rfl, hb⟩; have n0_ := Aside0.mk (Kd.S_below (by (with_reducible repeat (first | apply Kd.S_alloc | apply Kd.S_drewN | apply Kd.S_drew)); exact HO460.out) hb); have n1_ := Aside0.mk (Kd.S_below (by (with_reducible repeat (first | apply Kd.S_alloc | apply Kd.S_drewN | apply Kd.S_drew)); exact HO468.out) hb); have n2_ := Aside0.mk (below_step sq_b hb); clear HO460; clear HO468; clear HB; have HO460 := n0_; have HO468 := n1_; have HB := n2_; clear n0_ n1_ n2_; (try clear hb); (try clear hb2); (try clear hk); (try clear hi)) | (go_at_call 19; (with_reducible refine (spec_DrawGoodRow.calls kj30 _ _ l1 t473 _ ?side1 ?side2 A102.out).mono ?_); (case side1 => repeat (first | exact (Kd.C_below HR1.out HB.out) | (with_reducible refine Kd.C_alloc ?_ _) | (with_reducible refine Kd.C_drewN ?_ _) | (with_reducible refine Kd.C_drew ?_))); (case side2 => exact HC1.out); rintro e w112 ⟨v474, rfl, ho0, hb⟩; have n0_ := Aside0.mk (Kd.S_elder' (by (with_reducible repeat (first | apply Kd.S_alloc | apply Kd.S_drewN | apply Kd.S_drew)); exact HO460.out) (Kd.R_base ho0) hb); have n1_ := Aside0.mk (Kd.S_elder' (by (with_reducible repeat (first | apply Kd.S_alloc | apply Kd.S_drewN | apply Kd.S_drew)); exact HO468.out) (Kd.R_base ho0) hb); have n2_ := Aside0.mk (Kd.R_lower ho0 (below_size sq_b)); have n3_ := Aside0.mk (below_step sq_b hb); clear HO460; clear HO468; clear HB; have HO460 := n0_; have HO468 := n1_; have HO475 := n2_; have HB := n3_; clear n0_ n1_ n2_ n3_; (try clear hb); (try clear hb2); (try clear hk); (try clear hi); (try clear ho0))); go_upto_region 40 with (first | (go_at_call 14; (with_reducible refine (spec_DrawTotalOf.calls kj30 _ _ l1 t457 t458 _ ?side1 ?side2 A96.out).mono ?_); (case side1 => repeat (first | exact (Kd.C_below HR1.out HB.out) | (with_reducible refine Kd.C_alloc ?_ _) | (with_reducible refine Kd.C_drewN ?_ _) | (with_reducible refine Kd.C_drew ?_))); (case side2 => exact HC1.out); rintro e w104 ⟨v459, rfl, ho0, hb⟩; have n0_ := Aside0.mk (Kd.S_lower ho0 (below_size sq_b)); have n1_ := Aside0.mk (below_step sq_b hb); clear HB; have HO460 := n0_; have HB := n1_; clear n0_ n1_; (try clear hb); (try clear hb2); (try clear hk); (try clear hi); (try clear ho0); obtain ⟨Ao105, co105, eo105⟩ := Kd.S_slice HO460.out; subst eo105) | (go_at_call 13; (with_reducible refine (impl_TotalOf.calls kj30 _ _ t457 t458 t461 t462 _ ?side1 ?side2 A97.out).mono ?_); (case side1 => repeat (first | exact (Kd.S_reads' HO460.out).2.2 | (with_reducible refine Kd.C_alloc ?_ _) | (with_reducible refine Kd.C_drewN ?_ _) | (with_reducible refine Kd.C_drew ?_))); (case side2 => exact (Kd.S_reads' HO460.out).2.1); rintro e w106 ⟨rfl, hb⟩; have n0_ := Aside0.mk (Kd.S_below (by (with_reducible repeat (first | apply Kd.S_alloc | apply Kd.S_drewN | apply Kd.S_drew)); exact HO460.out) hb); have n1_ := Aside0.mk (below_step sq_b hb); clear HO460; clear HB; have HO460 := n0_; have HB := n1_; clear n0_ n1_; (try clear hb); (try clear hb2); (try clear hk); (try clear hi)) | (go_at_call 15; (with_reducible refine (spec_TotalOf.calls kj30 _ _ t457 t458 t463 t464 _ ?side1 ?side2 A98.out).mono ?_); (case side1 => repeat (first | exact (Kd.S_reads' HO460.out).2.2 | (with_reducible refine Kd.C_alloc ?_ _) | (with_reducible refine Kd.C_drewN ?_ _) | (with_reducible refine Kd.C_drew ?_))); (case side2 => exact (Kd.S_reads' HO460.out).2.1); rintro e w107 ⟨rfl, hb⟩; have n0_ := Aside0.mk (Kd.S_below (by (with_reducible repeat (first | apply Kd.S_alloc | apply Kd.S_drewN | apply Kd.S_drew)); exact HO460.out) hb); have n1_ := Aside0.mk (below_step sq_b hb); clear HO460; clear HB; have HO460 := n0_; have HB := n1_; clear n0_ n1_; (try clear hb); (try clear hb2); (try clear hk); (try clear hi)) | (go_at_call 16; (with_reducible refine (spec_DrawBoundAt.calls kj30 _ _ l1 t465 t466 _ ?side1 ?side2 A99.out).mono ?_); (case side1 => repeat (first | exact (Kd.C_below HR1.out HB.out) | (with_reducible refine Kd.C_alloc ?_ _) | (with_reducible refine Kd.C_drewN ?_ _) | (with_reducible refine Kd.C_drew ?_))); (case side2 => exact HC1.out); rintro e w108 ⟨v467, rfl, ho0, hb⟩; have n0_ := Aside0.mk (Kd.S_elder' (by (with_reducible repeat (first | apply Kd.S_alloc | apply Kd.S_drewN | apply Kd.S_drew)); exact HO460.out) (Kd.S_base ho0) hb); have n1_ := Aside0.mk (Kd.S_lower (Kd.S_new' ho0 (Kd.S_lt (by (with_reducible repeat (first | apply Kd.S_alloc | apply Kd.S_drewN | apply Kd.S_drew)); exact HO460.out))) (below_size sq_b)); have n2_ := Aside0.mk (below_step sq_b hb); clear HO460; clear HB; have HO460 := n0_; have HO468 := n1_; have HB := n2_; clear n0_ n1_ n2_; (try clear hb); (try clear hb2); (try clear hk); (try clear hi); (try clear ho0); obtain ⟨Ao109, co109, eo109⟩ := Kd.S_slice HO468.out; subst eo109) | (go_at_call 17; (with_reducible refine (impl_BoundAt.calls kj30 _ _ t465 t466 t469 t470 _ ?side1 ?side2 A100.out).mono ?_); (case side1 => repeat (first | exact (Kd.S_reads' HO468.out).2.2 | (with_reducible refine Kd.C_alloc ?_ _) | (with_reducible refine Kd.C_drewN ?_ _) | (with_reducible refine Kd.C_drew ?_))); (case side2 => exact (Kd.S_reads' HO468.out).2.1); rintro e w110 ⟨rfl, hb⟩; have n0_ := Aside0.mk (Kd.S_below (by (with_reducible repeat (first | apply Kd.S_alloc | apply Kd.S_drewN | apply Kd.S_drew)); exact HO460.out) hb); have n1_ := Aside0.mk (Kd.S_below (by (with_reducible repeat (first | apply Kd.S_alloc | apply Kd.S_drewN | apply Kd.S_drew)); exact HO468.out) hb); have n2_ := Aside0.mk (below_step sq_b hb); clear HO460; clear HO468; clear HB; have HO460 := n0_; have HO468 := n1_; have HB := n2_; clear n0_ n1_ n2_; (try clear hb); (try clear hb2); (try clear hk); (try clear hi)) | (go_at_call 18; (with_reducible refine (spec_BoundAt.calls kj30 _ _ t465 t466 t471 t472 _ ?side1 ?side2 A101.out).mono ?_); (case side1 => repeat (first | exact (Kd.S_reads' HO468.out).2.2 | (with_reducible refine Kd.C_alloc ?_ _) | (with_reducible refine Kd.C_drewN ?_ _) | (with_reducible refine Kd.C_drew ?_))); (case side2 => exact (Kd.S_reads' HO468.out).2.1); rintro e w111 ⟨rfl, hb⟩; have n0_ := Aside0.mk (Kd.S_below (by (with_reducible repeat (first | apply Kd.S_alloc | apply Kd.S_drewN | apply Kd.S_drew)); exact HO460.out) hb); have n1_ := Aside0.mk (Kd.S_below (by (with_reducible repeat (first | apply Kd.S_alloc | apply Kd.S_drewN | apply Kd.S_drew)); exact HO468.out) hb); have n2_ := Aside0.mk (below_step sq_b hb); clear HO460; clear HO468; clear HB; have HO460 := n0_; have HO468 := n1_; have HB := n2_; clear n0_ n1_ n2_; (try clear hb); (try clear hb2); (try clear hk); (try clear hi)) | (go_at_call 19; (with_reducible refine (spec_DrawGoodRow.calls kj30 _ _ l1 t473 _ ?side1 ?side2 A102.out).mono ?_); (case side1 => repeat (first | exact (Kd.C_below HR1.out HB.out) | (with_reducible refine Kd.C_alloc ?_ _) | (with_reducible refine Kd.C_drewN ?_ _) | (with_reducible refine Kd.C_drew ?_))); (case side2 => exact HC1.out); rintro e w112 ⟨v474, rfl, ho0, hb⟩; have n0_ := Aside0.mk (Kd.S_elder' (by (with_reducible repeat (first | apply Kd.S_alloc | apply Kd.S_drewN | apply Kd.S_drew)); exact HO460.out) (Kd.R_base ho0) hb); have n1_ := Aside0.mk (Kd.S_elder' (by (with_reducible repeat (first | apply Kd.S_alloc | apply Kd.S_drewN | apply Kd.S_drew)); exact HO468.out) (Kd.R_base ho0) hb); have n2_ := Aside0.mk (Kd.R_lower ho0 (below_size sq_b)); have n3_ := Aside0.mk (below_step sq_b hb); clear HO460; clear HO468; clear HB; have HO460 := n0_; have HO468 := n1_; have HO475 := n2_; have HB := n3_; clear n0_ n1_ n2_ n3_; (try clear hb); (try clear hb2); (try clear hk); (try clear hi); (try clear ho0))))
       (try simp only [Act.put, List.setIfInBounds_toArray, List.set_cons_zero, List.set_cons_succ])
       go_cut [4] (fun v4 wc => ∃ (kq : Nat) (x4_102 : Bool), v4 = .bool x4_102 ∧ Aside0 (laws_FnBest.j10 kq x4_102 = some r) ∧ Aside0 (kq ≤ kj30) ∧ Aside0 (Below w.heap.size w wc))
       case first => as_aux_lemma =>
        have H := HC103.out
        clear HC103
        by_cases c113 : (t462 == t464) = true
        ·rw [if_pos c113] at H
         have c113b0 : (t462 == t464) = true := c113
         (try (have c113b1 : decide (t462 = t464) = true := by simpa using c113))
         (try (have c113b2 : (t462 == t464) = true := by simpa using c113))
         clear c113
         (first | rw [c113b0] | (simp only [i64_w, i32_w]; rw [c113b0]) | skip)
         by_cases c114 : t461 = t463
         ·rw [if_pos c114] at H
          have c114b0 : (t461 == t463) = true := beq_iff_eq.mpr c114
          have c114b1 : (t461 != t463) = false := bne_eq_false_iff_eq.mpr c114
          clear c114
          by_cases c115 : (t470 == t472) = true
          ·rw [if_pos c115] at H
           have c115b0 : (t470 == t472) = true := c115
           (try (have c115b1 : decide (t470 = t472) = true := by simpa using c115))
           (try (have c115b2 : (t470 == t472) = true := by simpa using c115))
           clear c115
           by_cases c116 : t469 = t471
           ·rw [if_pos c116] at H
            have c116b0 : (t469 == t471) = true := beq_iff_eq.mpr c116
            have c116b1 : (t469 != t471) = false := bne_eq_false_iff_eq.mpr c116
            clear c116
            replace H := Option.bind_eq_some_iff.mp H
            obtain ⟨t476, A1170, H⟩ := H
            replace H : ((spec_GoodRow.f kj30 t473).bind fun t477 => (laws_FnBest.j10 kj30 (t476 == t477))) = some r := H
            have A117 := Aside0.mk A1170
            clear A1170
            replace H := Option.bind_eq_some_iff.mp H
            obtain ⟨t477, A1180, H⟩ := H
            replace H : (laws_FnBest.j10 kj30 (t476 == t477)) = some r := H
            have A118 := Aside0.mk A1180
            clear A1180
            have H' := Aside0.mk H
            clear H
            obtain ⟨Ao119, co119, eo119⟩ := Kd.R_slice HO475.out
            subst eo119
            go_wp2_with (first | (go_at_call 20; (with_reducible refine (impl_GoodRow.calls kj30 _ _ t473 t476 _ ?side1 ?side2 A117.out).mono ?_); (case side1 => repeat (first | exact (Kd.R_reads' HO475.out).2.2 | (with_reducible refine Kd.C_alloc ?_ _) | (with_reducible refine Kd.C_drewN ?_ _) | (with_reducible refine Kd.C_drew ?_))); (case side2 => exact (Kd.R_reads' HO475.out).2.1); rintro e w120 ⟨rfl, hb⟩; have n0_ := Aside0.mk (Kd.S_below (by (with_reducible repeat (first | apply Kd.S_alloc | apply Kd.S_drewN | apply Kd.S_drew)); exact HO460.out) hb); have n1_ := Aside0.mk (Kd.S_below (by (with_reducible repeat (first | apply Kd.S_alloc | apply Kd.S_drewN | apply Kd.S_drew)); exact HO468.out) hb); have n2_ := Aside0.mk (Kd.R_below (sq_r HO475) hb); have n3_ := Aside0.mk (below_step sq_b hb); clear HO460; clear HO468; clear HO475; clear HB; have HO460 := n0_; have HO468 := n1_; have HO475 := n2_; have HB := n3_; clear n0_ n1_ n2_ n3_; (try clear hb); (try clear hb2); (try clear hk); (try clear hi)) | (go_at_call 21; (with_reducible refine (spec_GoodRow.calls kj30 _ _ t473 t477 _ ?side1 ?side2 A118.out).mono ?_); (case side1 => repeat (first | exact (Kd.R_reads' HO475.out).2.2 | (with_reducible refine Kd.C_alloc ?_ _) | (with_reducible refine Kd.C_drewN ?_ _) | (with_reducible refine Kd.C_drew ?_))); (case side2 => exact (Kd.R_reads' HO475.out).2.1); rintro e w121 ⟨rfl, hb⟩; have n0_ := Aside0.mk (Kd.S_below (by (with_reducible repeat (first | apply Kd.S_alloc | apply Kd.S_drewN | apply Kd.S_drew)); exact HO460.out) hb); have n1_ := Aside0.mk (Kd.S_below (by (with_reducible repeat (first | apply Kd.S_alloc | apply Kd.S_drewN | apply Kd.S_drew)); exact HO468.out) hb); have n2_ := Aside0.mk (Kd.R_below (sq_r HO475) hb); have n3_ := Aside0.mk (below_step sq_b hb); clear HO460; clear HO468; clear HO475; clear HB; have HO460 := n0_; have HO468 := n1_; have HO475 := n2_; have HB := n3_; clear n0_ n1_ n2_ n3_; (try clear hb); (try clear hb2); (try clear hk); (try clear hi)))
            repeat (go_quiet (first | (go_at_call 20; (with_reducible refine (impl_GoodRow.calls kj30 _ _ t473 t476 _ ?side1 ?side2 A117.out).mono ?_); (case side1 => repeat (first | exact (Kd.R_reads' HO475.out).2.2 | (with_reducible refine Kd.C_alloc ?_ _) | (with_reducible refine Kd.C_drewN ?_ _) | (with_reducible refine Kd.C_drew ?_))); (case side2 => exact (Kd.R_reads' HO475.out).2.1); rintro e w120 ⟨rfl, hb⟩; have n0_ := Aside0.mk (Kd.S_below (by (with_reducible repeat (first | apply Kd.S_alloc | apply Kd.S_drewN | apply Kd.S_drew)); exact HO460.out) hb); have n1_ := Aside0.mk (Kd.S_below (by (with_reducible repeat (first | apply Kd.S_alloc | apply Kd.S_drewN | apply Kd.S_drew)); exact HO468.out) hb); have n2_ := Aside0.mk (Kd.R_below (sq_r HO475) hb); have n3_ := Aside0.mk (below_step sq_b hb); clear HO460; clear HO468; clear HO475; clear HB; have HO460 := n0_; have HO468 := n1_; have HO475 := n2_; have HB := n3_; clear n0_ n1_ n2_ n3_; (try clear hb); (try clear hb2); (try clear hk); (try clear hi)) | (go_at_call 21; (with_reducible refine (spec_GoodRow.calls kj30 _ _ t473 t477 _ ?side1 ?side2 A118.out).mono ?_); (case side1 => repeat (first | exact (Kd.R_reads' HO475.out).2.2 | (with_reducible refine Kd.C_alloc ?_ _) | (with_reducible refine Kd.C_drewN ?_ _) | (with_reducible refine Kd.C_drew ?_))); (case side2 => exact (Kd.R_reads' HO475.out).2.1); rintro e w121 ⟨rfl, hb⟩; have n0_ := Aside0.mk (Kd.S_below (by (with_reducible repeat (first | apply Kd.S_alloc | apply Kd.S_drewN | apply Kd.S_drew)); exact HO460.out) hb); have n1_ := Aside0.mk (Kd.S_below (by (with_reducible repeat (first | apply Kd.S_alloc | apply Kd.S_drewN | apply Kd.S_drew)); exact HO468.out) hb); have n2_ := Aside0.mk (Kd.R_below (sq_r HO475) hb); have n3_ := Aside0.mk (below_step sq_b hb); clear HO460; clear HO468; clear HO475; clear HB; have HO460 := n0_; have HO468 := n1_; have HO475 := n2_; have HB := n3_; clear n0_ n1_ n2_ n3_; (try clear hb); (try clear hb2); (try clear hk); (try clear hi))); try go_wp2_with (first | (go_at_call 20; (with_reducible refine (impl_GoodRow.calls kj30 _ _ t473 t476 _ ?side1 ?side2 A117.out).mono ?_); (case side1 => repeat (first | exact (Kd.R_reads' HO475.out).2.2 | (with_reducible refine Kd.C_alloc ?_ _) | (with_reducible refine Kd.C_drewN ?_ _) | (with_reducible refine Kd.C_drew ?_))); (case side2 => exact (Kd.R_reads' HO475.out).2.1); rintro e w120 ⟨rfl, hb⟩; have n0_ := Aside0.mk (Kd.S_below (by (with_reducible repeat (first | apply Kd.S_alloc | apply Kd.S_drewN | apply Kd.S_drew)); exact HO460.out) hb); have n1_ := Aside0.mk (Kd.S_below (by (with_reducible repeat (first | apply Kd.S_alloc | apply Kd.S_drewN | apply Kd.S_drew)); exact HO468.out) hb); have n2_ := Aside0.mk (Kd.R_below (sq_r HO475) hb); have n3_ := Aside0.mk (below_step sq_b hb); clear HO460; clear HO468; clear HO475; clear HB; have HO460 := n0_; have HO468 := n1_; have HO475 := n2_; have HB := n3_; clear n0_ n1_ n2_ n3_; (try clear hb); (try clear hb2); (try clear hk); (try clear hi)) | (go_at_call 21; (with_reducible refine (spec_GoodRow.calls kj30 _ _ t473 t477 _ ?side1 ?side2 A118.out).mono ?_); (case side1 => repeat (first | exact (Kd.R_reads' HO475.out).2.2 | (with_reducible refine Kd.C_alloc ?_ _) | (with_reducible refine Kd.C_drewN ?_ _) | (with_reducible refine Kd.C_drew ?_))); (case side2 => exact (Kd.R_reads' HO475.out).2.1); rintro e w121 ⟨rfl, hb⟩; have n0_ := Aside0.mk (Kd.S_below (by (with_reducible repeat (first | apply Kd.S_alloc | apply Kd.S_drewN | apply Kd.S_drew)); exact HO460.out) hb); have n1_ := Aside0.mk (Kd.S_below (by (with_reducible repeat (first | apply Kd.S_alloc | apply Kd.S_drewN | apply Kd.S_drew)); exact HO468.out) hb); have n2_ := Aside0.mk (Kd.R_below (sq_r HO475) hb); have n3_ := Aside0.mk (below_step sq_b hb); clear HO460; clear HO468; clear HO475; clear HB; have HO460 := n0_; have HO468 := n1_; have HO475 := n2_; have HB := n3_; clear n0_ n1_ n2_ n3_; (try clear hb); (try clear hb2); (try clear hk); (try clear hi))))
            go_meet
            case rel => exact ⟨_, ((t476 == t477)), sq_e, H', ⟨by have := HJ8.out; have := HJ30.out; first | omega | exact Nat.le_refl _⟩, ⟨sq_b⟩⟩
           ·rw [if_neg c116] at H
            have c116b0 : (t469 == t471) = false := beq_eq_false_iff_ne.mpr c116
            have c116b1 : (t469 != t471) = true := bne_iff_ne.mpr c116
            exact absurd hrt (laws_FnBest.no_j10 _ H)
          ·rw [if_neg c115] at H
           have c115b0 : (t470 == t472) = false := by simpa using c115
           (try (have c115b1 : decide (t470 = t472) = false := by simpa using c115))
           (try (have c115b2 : (t470 == t472) = false := by simpa using c115))
           (try (have c115b3 : ¬ (t470 = t472) := by simpa using c115))
           clear c115
           exact absurd hrt (laws_FnBest.no_j10 _ H)
         ·rw [if_neg c114] at H
          have c114b0 : (t461 == t463) = false := beq_eq_false_iff_ne.mpr c114
          have c114b1 : (t461 != t463) = true := bne_iff_ne.mpr c114
          exact absurd hrt (laws_FnBest.no_j10 _ H)
        ·rw [if_neg c113] at H
         have c113b0 : (t462 == t464) = false := by simpa using c113
         (try (have c113b1 : decide (t462 = t464) = false := by simpa using c113))
         (try (have c113b2 : (t462 == t464) = false := by simpa using c113))
         (try (have c113b3 : ¬ (t462 = t464) := by simpa using c113))
         clear c113
         (first | rw [c113b0] | (simp only [i64_w, i32_w]; rw [c113b0]) | skip)
         exact absurd hrt (laws_FnBest.no_j10 _ H)
       case rest => as_aux_lemma =>
        clear HC103
        (try clear c1); (try clear c2); (try clear p2); (try clear c3); (try clear c3b0); (try clear c4); (try clear p4); (try clear q4); (try clear hx4); (try clear c5); (try clear c6); (try clear p6); (try clear c7); (try clear c8); (try clear c9); (try clear c11); (try clear c16); (try clear c16b0); (try clear c16b1); (try clear c16b2); (try clear c17); (try clear c17b0); (try clear c17b1); (try clear c19)
        (try clear c20); (try clear c20b0); (try clear c20b1); (try clear c20b2); (try clear c30); (try clear c32); (try clear c34); (try clear c36); (try clear c37); (try clear c37b0); (try clear c44); (try clear p44); (try clear q44); (try clear hx44); (try clear p45); (try clear q45); (try clear hx45); (try clear c46); (try clear c46b0); (try clear c47); (try clear c47b0); (try clear c48); (try clear c48b0)
        (try clear c54); (try clear c55); (try clear c55b0); (try clear c55b1); (try clear c56); (try clear c56b0); (try clear c58); (try clear c58b0); (try clear c59); (try clear c59b0); (try clear c60); (try clear c60b0); (try clear c62); (try clear c62b0); (try clear c62b1); (try clear p64); (try clear c67); (try clear c69); (try clear c69b0); (try clear c70); (try clear c73); (try clear c73b0)
        (try clear c75); (try clear c75b0); (try clear c76); (try clear c76b0); (try clear c77); (try clear c83); (try clear c83b0); (try clear c84); (try clear c84b0); (try clear c88); (try clear c89); (try clear c90); (try clear c90b0); (try clear c92); (try clear c92b0); (try clear c92b1); (try clear c95); (try clear c113); (try clear c113b0); (try clear c113b1); (try clear c113b2); (try clear c114)
        (try clear c114b0); (try clear c114b1); (try clear c115); (try clear c115b0); (try clear c115b1); (try clear c115b2); (try clear c116); (try clear c116b0); (try clear c116b1); (try clear hcz52_0); (try clear hcz52_1); (try clear hcz61_0); (try clear hcz61_1); (try clear hcz63_0); (try clear hcz63_1); (try clear hcz64_0); (try clear hcz64_1); (try clear hcz65_0); (try clear hcz65_1); (try clear hcz66_0)
        (try clear hcz66_1); (try clear hcz79_0); (try clear hcz79_1); (try clear hcz81_0); (try clear hcz81_1); (try clear hcz87_0); (try clear hcz87_1); (try clear hcz91_0); (try clear hcz91_1); (try clear hcz93_0); (try clear hcz93_1); (try clear hcz94_0); (try clear hcz94_1); (try clear hfz52_0); (try clear hfz52_1); (try clear hfz61_0); (try clear hfz61_1); (try clear hfz63_0); (try clear hfz63_1)
        (try clear hfz64_0); (try clear hfz64_1); (try clear hfz65_0); (try clear hfz65_1); (try clear hfz66_0); (try clear hfz66_1); (try clear hfz79_0); (try clear hfz79_1); (try clear hfz81_0); (try clear hfz81_1); (try clear hfz87_0); (try clear hfz87_1); (try clear hfz91_0); (try clear hfz91_1); (try clear hfz93_0); (try clear hfz93_1); (try clear hfz94_0); (try clear hfz94_1); (try clear hx444_0)
        (try clear hx444_1); (try clear hx448_0); (try clear hx448_1); (try clear hx449_0); (try clear hx449_1); (try clear hx450_0); (try clear hx450_1); (try clear hx453_0); (try clear hx453_1); (try clear hx455_0); (try clear hx455_1); (try clear p2); (try clear p4); (try clear p44); (try clear p444); (try clear p448); (try clear p449); (try clear p45); (try clear p450); (try clear p453); (try clear p455)
        (try clear p6); (try clear p64); (try clear q4); (try clear q44); (try clear q444); (try clear q448); (try clear q449); (try clear q45); (try clear q450); (try clear q453); (try clear q455)
        obtain ⟨kq, x4_102, rfl, HA, HJ102, HB⟩ := hcut
        cases kq with
        | zero => exact absurd HA.out (by simp [laws_FnBest.j10])
        | succ kj102 =>
         have H := HA.out
         clear HA
         simp only [laws_FnBest.j10] at H
         obtain rfl := Option.some.inj H
         go_wp2
         repeat (go_quiet (fail); try go_wp2)
         go_ret
         exact ⟨sq_w, sq_b⟩

/-- THE ONE PURE STATEMENT of laws_FnBest: yours. -/
def laws_FnBest.Pure : Prop := ∀ (l0 : List Int) (l1 : List Int), l0.length ≤ maxLen → l0.length * 1 ≤ 140737488351232 → (∀ x ∈ l0, (Lit.int .u8 x).wf = true) → l1.length ≤ maxLen → l1.length * 1 ≤ 140737488351232 → (∀ x ∈ l1, (Lit.int .u8 x).wf = true) → ∃ k, laws_FnBest.f k l0 l1 = some true
theorem laws_FnBest.walk (P : laws_FnBest.Pure) (a0 : Option Addr) (len0 cap0 : Nat) (z0 : List Int) (a1 : Option Addr) (len1 cap1 : Nat) (z1 : List Int) (w : World) (w0 : (a0 = none ∧ len0 = 0 ∧ cap0 = 0 ∧ z0 = []) ∨ ∃ x, a0 = some x ∧ len0 ≤ cap0 ∧ cap0 ≤ maxLen ∧ z0.length = cap0 ∧ (∀ i, i < z0.length → w.cell? (x.add i) = some (.int .u8 (z0.getD i 0))) ∧ ∀ n ∈ z0, (Lit.int .u8 n).wf = true) (y0 : len0 * 1 ≤ 140737488351232) (w1 : (a1 = none ∧ len1 = 0 ∧ cap1 = 0 ∧ z1 = []) ∨ ∃ x, a1 = some x ∧ len1 ≤ cap1 ∧ cap1 ≤ maxLen ∧ z1.length = cap1 ∧ (∀ i, i < z1.length → w.cell? (x.add i) = some (.int .u8 (z1.getD i 0))) ∧ ∀ n ∈ z1, (Lit.int .u8 n).wf = true) (y1 : len1 * 1 ≤ 140737488351232) :
  Calls Try.prog 3 #[.slice a0 len0 cap0, .slice a1 len1 cap1] w fun e w' => e = .returned (.bool true) ∧ Below w.heap.size w w' := by
 obtain ⟨l0, rfl, hr0, hm0, hw0, hc0⟩ := ReadsInt.ofRowC w0
 obtain ⟨l1, rfl, hr1, hm1, hw1, hc1⟩ := ReadsInt.ofRowC w1
 obtain ⟨k, h⟩ := P l0 l1 hm0 y0 hw0 hm1 y1 hw1
 refine (laws_FnBest.calls k _ _ l0 _ _ l1 true rfl w (Kd.C_of_reads (d := (0 : Int)) (h1 := fun _ => rfl) hr0) hc0 (Kd.C_of_reads (d := (0 : Int)) (h1 := fun _ => rfl) hr1) hc1 h).mono ?_
 rintro e w' ⟨rfl, hd⟩
 exact ⟨rfl, hd⟩

end Go.Proofs.Ytabfkalcjfjkiaa.QFnBest
