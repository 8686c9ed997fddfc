-- Written by this session's own program (wip/pp_patch.py, wip/pp.sh) out of the given translation. Not trusted: Lean checks it.
import Derived.Test.YtkoackkimdanjaaQFnLegsx0
import Derived.Test.YtkoackkimdanjaaQFnLegsx1
import Derived.Test.YtkoackkimdanjaaQFnLegsx2
import Derived.Test.YtkoackkimdanjaaQFnLegsx3
import Derived.Test.YtkoackkimdanjaaQFnLegsx5
import Derived.Test.YtkoackkimdanjaaQFnLegsx6
import Derived.Test.YtkoackkimdanjaaQFnLegsx8
import Derived.Test.YtkoackkimdanjaaQFnLegsx10
import Derived.Test.YtkoackkimdanjaaQFnLegsx11
import Derived.Test.YtkoackkimdanjaaQFnLegsx13
import Derived.Test.YtkoackkimdanjaaQFnLegsx14
namespace Go.Proofs.Ytkoackkimdanjaa.QFnLegs
open Go.RowKit Go.Proofs.YtkoackkimdanjaaW.PrintWords Go.Proofs.YtkoackkimdanjaaW.PrintLast Go.Proofs.YtkoackkimdanjaaW.PrintMore
attribute [local go_sem] max2_int min2_int max_two min_two max_three min_three max_four min_four   -- for this text's walks alone
open Go.Proofs.Ytkoackkimdanjaa.Ext
attribute [local go_sem high] ext_gtr ext_leq
set_option linter.unusedVariables false
set_option linter.unusedSimpArgs false

attribute [local go_sem high] eqA48
/-! ### laws_FnLegs: function 8 -/
mutual
def laws_FnLegs.j0 : Nat → List Int → List (S48) → List (S59) → Bool → Bool → Option (Bool)
 | 0, _, _, _, _, _ => none
 | k + 1, x1, x5, x6, x7, x67 => if x67 = true then (some false) else (if x7 = true then ((impl_EntriesIn.f k x6).bind fun bt413 => ((impl_GoodLegs.f k x6).bind fun t417 => (if t417 = true then (if bt413.2 = true then ((laws_sameEntries.f k bt413.1 x5).bind fun t418 => (if t418 = true then (laws_FnLegs.j1 k x1) else (some false))) else (some false)) else (some false)))) else (laws_FnLegs.j1 k x1))
def laws_FnLegs.j1 : Nat → List Int → Option (Bool)
 | 0, _ => none
 | k + 1, x1 => (spec_DrawEntriesIn.f k x1).bind fun t419 => ((impl_EntriesIn.f k t419).bind fun bt422 => ((spec_EntriesIn.f k t419).bind fun bt426 => ((spec_DrawPutEntry.f k x1).bind fun bt430 => ((impl_PutEntry.f k bt430.1 bt430.2.1 bt430.2.2).bind fun bt436 => ((spec_PutEntry.f k bt430.1 bt430.2.1 bt430.2.2).bind fun bt440 => (if (bt422.2 != bt426.2) = true then (laws_FnLegs.j2 k bt430.1 bt436.1 bt436.2 true bt430.2.1 bt430.2.2) else ((laws_sameEntries.f k bt422.1 bt426.1).bind fun t444 => (if t444 = true then ((impl_GoodLegs.f k t419).bind fun t445 => (if (t445 != bt422.2) = true then (laws_FnLegs.j2 k bt430.1 bt436.1 bt436.2 true bt430.2.1 bt430.2.2) else (if (bt436.2 != bt440.2) = true then (laws_FnLegs.j2 k bt430.1 bt436.1 bt436.2 true bt430.2.1 bt430.2.2) else ((laws_sameLegs.f k bt436.1 bt440.1).bind fun t446 => (laws_FnLegs.j2 k bt430.1 bt436.1 bt436.2 (!t446) bt430.2.1 bt430.2.2))))) else (laws_FnLegs.j2 k bt430.1 bt436.1 bt436.2 true bt430.2.1 bt430.2.2)))))))))
def laws_FnLegs.j2 : Nat → List (S59) → List (S59) → Bool → Bool → ByteArray → Int → Option (Bool)
 | 0, _, _, _, _, _, _ => none
 | k + 1, x17, x19, x20, x141, x436000, x436001 => if x141 = true then (some false) else (if x20 = true then ((impl_EntriesIn.f k x17).bind fun bt447 => ((impl_EntriesIn.f k x19).bind fun bt451 => (if bt447.2 = true then (laws_FnLegs.j3 k x19 bt447.1 bt451.1 (!bt451.2) x436000 x436001) else (laws_FnLegs.j3 k x19 bt447.1 bt451.1 true x436000 x436001)))) else (some true))
def laws_FnLegs.j3 : Nat → List (S59) → List (S48) → List (S48) → Bool → ByteArray → Int → Option (Bool)
 | 0, _, _, _, _, _, _ => none
 | k + 1, x19, x23, x25, x158, x436000, x436001 => if x158 = true then (some false) else (laws_FnLegs.l0 k x19 x25 x23 (x23.length : Int) 0 x436000 x436001)
def laws_FnLegs.l0 : Nat → List (S59) → List (S48) → List (S48) → Int → Int → ByteArray → Int → Option (Bool)
 | 0, _, _, _, _, _, _, _ => none
 | k + 1, x19, x25, x159, x160, x161, x436000, x436001 => if x161 < x160 then (if 0 ≤ x161 then (if x161 < (x159.length : Int) then (laws_FnLegs.l1 k x19 x25 false x159 x160 x161 x25 (x25.length : Int) 0 x436000 x436001 ((rd_T48 x159 x161).f0) ((rd_T48 x159 x161).f1)) else (none)) else (none)) else ((impl_WalkLegs.f k x19 x436000).bind fun bt455 => (if bt455.2 = true then (if 0 ≤ bt455.1 then (if bt455.1 < (x19.length : Int) then (some (((rd_T59 x19 bt455.1).f1) == x436001)) else (none)) else (none)) else (some false)))
def laws_FnLegs.l1 : Nat → List (S59) → List (S48) → Bool → List (S48) → Int → Int → List (S48) → Int → Int → ByteArray → Int → ByteArray → Int → Option (Bool)
 | 0, _, _, _, _, _, _, _, _, _, _, _, _, _ => none
 | k + 1, x19, x25, x29, x159, x160, x161, x165, x166, x167, x436000, x436001, x460000, x460001 => if x167 < x166 then (if 0 ≤ x167 then (if x167 < (x165.length : Int) then (if x29 = true then (laws_FnLegs.l1 k x19 x25 true x159 x160 x161 x165 x166 (wrap64 (x167 + 1)) x436000 x436001 x460000 x460001) else (laws_FnLegs.l1 k x19 x25 (x460000.toList == (((rd_T48 x165 x167).f0).toList) && (x460001 == ((rd_T48 x165 x167).f1))) x159 x160 x161 x165 x166 (wrap64 (x167 + 1)) x436000 x436001 x460000 x460001)) else (none)) else (none)) else (if x29 = true then (laws_FnLegs.l0 k x19 x25 x159 x160 (wrap64 (x161 + 1)) x436000 x436001) else (if x460000.toList = x436000.toList then (laws_FnLegs.l0 k x19 x25 x159 x160 (wrap64 (x161 + 1)) x436000 x436001) else (some false)))
end
def laws_FnLegs.f (k : Nat) (l0 : List Int) (l1 : List Int) : Option (Bool) := if (wrap64 ((l0.length : Int) + (l1.length : Int))) > 1048576 then (some true) else ((spec_DrawBuildLegs.f k l0).bind fun t399 => ((impl_BuildLegs.f k t399).bind fun bt402 => ((spec_BuildLegs.f k t399).bind fun bt406 => (if (bt402.2 != bt406.2) = true then (laws_FnLegs.j0 k l1 t399 bt402.1 bt402.2 true) else ((laws_sameLegs.f k bt402.1 bt406.1).bind fun t410 => (if t410 = true then ((impl_GoodEntries.f k t399).bind fun t411 => ((spec_GoodEntries.f k t399).bind fun t412 => (laws_FnLegs.j0 k l1 t399 bt402.1 bt402.2 (t411 != t412)))) else (laws_FnLegs.j0 k l1 t399 bt402.1 bt402.2 true)))))))
theorem laws_FnLegs.mono_l : ∀ k, (∀ y0 y1 y2 y3 y4, LeO (laws_FnLegs.j0 k y0 y1 y2 y3 y4) (laws_FnLegs.j0 (k + 1) y0 y1 y2 y3 y4)) ∧ (∀ y0, LeO (laws_FnLegs.j1 k y0) (laws_FnLegs.j1 (k + 1) y0)) ∧ (∀ y0 y1 y2 y3 y4 y5, LeO (laws_FnLegs.j2 k y0 y1 y2 y3 y4 y5) (laws_FnLegs.j2 (k + 1) y0 y1 y2 y3 y4 y5)) ∧ (∀ y0 y1 y2 y3 y4 y5, LeO (laws_FnLegs.j3 k y0 y1 y2 y3 y4 y5) (laws_FnLegs.j3 (k + 1) y0 y1 y2 y3 y4 y5)) ∧ (∀ y0 y1 y2 y3 y4 y5 y6, LeO (laws_FnLegs.l0 k y0 y1 y2 y3 y4 y5 y6) (laws_FnLegs.l0 (k + 1) y0 y1 y2 y3 y4 y5 y6)) ∧ (∀ y0 y1 y2 y3 y4 y5 y6 y7 y8 y9 y10 y11 y12, LeO (laws_FnLegs.l1 k y0 y1 y2 y3 y4 y5 y6 y7 y8 y9 y10 y11 y12) (laws_FnLegs.l1 (k + 1) y0 y1 y2 y3 y4 y5 y6 y7 y8 y9 y10 y11 y12))
 | 0 => ⟨fun _ _ _ _ _ r h => by simp [laws_FnLegs.j0] at h, fun _ r h => by simp [laws_FnLegs.j1] at h, fun _ _ _ _ _ _ r h => by simp [laws_FnLegs.j2] at h, fun _ _ _ _ _ _ r h => by simp [laws_FnLegs.j3] at h, fun _ _ _ _ _ _ _ r h => by simp [laws_FnLegs.l0] at h, fun _ _ _ _ _ _ _ _ _ _ _ _ _ r h => by simp [laws_FnLegs.l1] at h⟩
 | k + 1 => by
  obtain ⟨ih0, ih1, ih2, ih3, ih4, ih5⟩ := laws_FnLegs.mono_l k
  refine ⟨?_, ?_, ?_, ?_, ?_, ?_⟩
  ·intro y0 y1 y2 y3 y4
   unfold laws_FnLegs.j0
   repeat' first
   | (with_reducible exact ih0 _ _ _ _ _)
   | (with_reducible exact ih1 _)
   | (with_reducible exact ih2 _ _ _ _ _ _)
   | (with_reducible exact ih3 _ _ _ _ _ _)
   | (with_reducible exact ih4 _ _ _ _ _ _ _)
   | (with_reducible exact ih5 _ _ _ _ _ _ _ _ _ _ _ _ _)
   | (with_reducible exact impl_BuildLegs.mono _ _)
   | (with_reducible exact impl_EntriesIn.mono _ _)
   | (with_reducible exact impl_GoodEntries.mono _ _)
   | (with_reducible exact impl_GoodLegs.mono _ _)
   | (with_reducible exact impl_PutEntry.mono _ _ _ _)
   | (with_reducible exact impl_WalkLegs.mono _ _ _)
   | (with_reducible exact laws_sameEntries.mono _ _ _)
   | (with_reducible exact laws_sameLegs.mono _ _ _)
   | (with_reducible exact spec_BuildLegs.mono _ _)
   | (with_reducible exact spec_DrawBuildLegs.mono _ _)
   | (with_reducible exact spec_DrawEntriesIn.mono _ _)
   | (with_reducible exact spec_DrawPutEntry.mono _ _)
   | (with_reducible exact spec_EntriesIn.mono _ _)
   | (with_reducible exact spec_GoodEntries.mono _ _)
   | (with_reducible exact spec_PutEntry.mono _ _ _ _)
   | (with_reducible exact LeO.refl _)
   | (with_reducible exact LeO.none _)
   | (with_reducible refine LeO.ite ?_ ?_)
   | (with_reducible refine LeO.bind ?_ (fun _ => ?_))
   | exact ih0 _ _ _ _ _
   | exact ih1 _
   | exact ih2 _ _ _ _ _ _
   | exact ih3 _ _ _ _ _ _
   | exact ih4 _ _ _ _ _ _ _
   | exact ih5 _ _ _ _ _ _ _ _ _ _ _ _ _
   | exact impl_BuildLegs.mono _ _
   | exact impl_EntriesIn.mono _ _
   | exact impl_GoodEntries.mono _ _
   | exact impl_GoodLegs.mono _ _
   | exact impl_PutEntry.mono _ _ _ _
   | exact impl_WalkLegs.mono _ _ _
   | exact laws_sameEntries.mono _ _ _
   | exact laws_sameLegs.mono _ _ _
   | exact spec_BuildLegs.mono _ _
   | exact spec_DrawBuildLegs.mono _ _
   | exact spec_DrawEntriesIn.mono _ _
   | exact spec_DrawPutEntry.mono _ _
   | exact spec_EntriesIn.mono _ _
   | exact spec_GoodEntries.mono _ _
   | exact spec_PutEntry.mono _ _ _ _
   | exact LeO.none _
   | refine LeO.ite ?_ ?_
   | refine LeO.bind ?_ (fun _ => ?_)
  ·intro y0
   unfold laws_FnLegs.j1
   repeat' first
   | (with_reducible exact ih0 _ _ _ _ _)
   | (with_reducible exact ih1 _)
   | (with_reducible exact ih2 _ _ _ _ _ _)
   | (with_reducible exact ih3 _ _ _ _ _ _)
   | (with_reducible exact ih4 _ _ _ _ _ _ _)
   | (with_reducible exact ih5 _ _ _ _ _ _ _ _ _ _ _ _ _)
   | (with_reducible exact impl_BuildLegs.mono _ _)
   | (with_reducible exact impl_EntriesIn.mono _ _)
   | (with_reducible exact impl_GoodEntries.mono _ _)
   | (with_reducible exact impl_GoodLegs.mono _ _)
   | (with_reducible exact impl_PutEntry.mono _ _ _ _)
   | (with_reducible exact impl_WalkLegs.mono _ _ _)
   | (with_reducible exact laws_sameEntries.mono _ _ _)
   | (with_reducible exact laws_sameLegs.mono _ _ _)
   | (with_reducible exact spec_BuildLegs.mono _ _)
   | (with_reducible exact spec_DrawBuildLegs.mono _ _)
   | (with_reducible exact spec_DrawEntriesIn.mono _ _)
   | (with_reducible exact spec_DrawPutEntry.mono _ _)
   | (with_reducible exact spec_EntriesIn.mono _ _)
   | (with_reducible exact spec_GoodEntries.mono _ _)
   | (with_reducible exact spec_PutEntry.mono _ _ _ _)
   | (with_reducible exact LeO.refl _)
   | (with_reducible exact LeO.none _)
   | (with_reducible refine LeO.ite ?_ ?_)
   | (with_reducible refine LeO.bind ?_ (fun _ => ?_))
   | exact ih0 _ _ _ _ _
   | exact ih1 _
   | exact ih2 _ _ _ _ _ _
   | exact ih3 _ _ _ _ _ _
   | exact ih4 _ _ _ _ _ _ _
   | exact ih5 _ _ _ _ _ _ _ _ _ _ _ _ _
   | exact impl_BuildLegs.mono _ _
   | exact impl_EntriesIn.mono _ _
   | exact impl_GoodEntries.mono _ _
   | exact impl_GoodLegs.mono _ _
   | exact impl_PutEntry.mono _ _ _ _
   | exact impl_WalkLegs.mono _ _ _
   | exact laws_sameEntries.mono _ _ _
   | exact laws_sameLegs.mono _ _ _
   | exact spec_BuildLegs.mono _ _
   | exact spec_DrawBuildLegs.mono _ _
   | exact spec_DrawEntriesIn.mono _ _
   | exact spec_DrawPutEntry.mono _ _
   | exact spec_EntriesIn.mono _ _
   | exact spec_GoodEntries.mono _ _
   | exact spec_PutEntry.mono _ _ _ _
   | exact LeO.none _
   | refine LeO.ite ?_ ?_
   | refine LeO.bind ?_ (fun _ => ?_)
  ·intro y0 y1 y2 y3 y4 y5
   unfold laws_FnLegs.j2
   repeat' first
   | (with_reducible exact ih0 _ _ _ _ _)
   | (with_reducible exact ih1 _)
   | (with_reducible exact ih2 _ _ _ _ _ _)
   | (with_reducible exact ih3 _ _ _ _ _ _)
   | (with_reducible exact ih4 _ _ _ _ _ _ _)
   | (with_reducible exact ih5 _ _ _ _ _ _ _ _ _ _ _ _ _)
   | (with_reducible exact impl_BuildLegs.mono _ _)
   | (with_reducible exact impl_EntriesIn.mono _ _)
   | (with_reducible exact impl_GoodEntries.mono _ _)
   | (with_reducible exact impl_GoodLegs.mono _ _)
   | (with_reducible exact impl_PutEntry.mono _ _ _ _)
   | (with_reducible exact impl_WalkLegs.mono _ _ _)
   | (with_reducible exact laws_sameEntries.mono _ _ _)
   | (with_reducible exact laws_sameLegs.mono _ _ _)
   | (with_reducible exact spec_BuildLegs.mono _ _)
   | (with_reducible exact spec_DrawBuildLegs.mono _ _)
   | (with_reducible exact spec_DrawEntriesIn.mono _ _)
   | (with_reducible exact spec_DrawPutEntry.mono _ _)
   | (with_reducible exact spec_EntriesIn.mono _ _)
   | (with_reducible exact spec_GoodEntries.mono _ _)
   | (with_reducible exact spec_PutEntry.mono _ _ _ _)
   | (with_reducible exact LeO.refl _)
   | (with_reducible exact LeO.none _)
   | (with_reducible refine LeO.ite ?_ ?_)
   | (with_reducible refine LeO.bind ?_ (fun _ => ?_))
   | exact ih0 _ _ _ _ _
   | exact ih1 _
   | exact ih2 _ _ _ _ _ _
   | exact ih3 _ _ _ _ _ _
   | exact ih4 _ _ _ _ _ _ _
   | exact ih5 _ _ _ _ _ _ _ _ _ _ _ _ _
   | exact impl_BuildLegs.mono _ _
   | exact impl_EntriesIn.mono _ _
   | exact impl_GoodEntries.mono _ _
   | exact impl_GoodLegs.mono _ _
   | exact impl_PutEntry.mono _ _ _ _
   | exact impl_WalkLegs.mono _ _ _
   | exact laws_sameEntries.mono _ _ _
   | exact laws_sameLegs.mono _ _ _
   | exact spec_BuildLegs.mono _ _
   | exact spec_DrawBuildLegs.mono _ _
   | exact spec_DrawEntriesIn.mono _ _
   | exact spec_DrawPutEntry.mono _ _
   | exact spec_EntriesIn.mono _ _
   | exact spec_GoodEntries.mono _ _
   | exact spec_PutEntry.mono _ _ _ _
   | exact LeO.none _
   | refine LeO.ite ?_ ?_
   | refine LeO.bind ?_ (fun _ => ?_)
  ·intro y0 y1 y2 y3 y4 y5
   unfold laws_FnLegs.j3
   repeat' first
   | (with_reducible exact ih0 _ _ _ _ _)
   | (with_reducible exact ih1 _)
   | (with_reducible exact ih2 _ _ _ _ _ _)
   | (with_reducible exact ih3 _ _ _ _ _ _)
   | (with_reducible exact ih4 _ _ _ _ _ _ _)
   | (with_reducible exact ih5 _ _ _ _ _ _ _ _ _ _ _ _ _)
   | (with_reducible exact impl_BuildLegs.mono _ _)
   | (with_reducible exact impl_EntriesIn.mono _ _)
   | (with_reducible exact impl_GoodEntries.mono _ _)
   | (with_reducible exact impl_GoodLegs.mono _ _)
   | (with_reducible exact impl_PutEntry.mono _ _ _ _)
   | (with_reducible exact impl_WalkLegs.mono _ _ _)
   | (with_reducible exact laws_sameEntries.mono _ _ _)
   | (with_reducible exact laws_sameLegs.mono _ _ _)
   | (with_reducible exact spec_BuildLegs.mono _ _)
   | (with_reducible exact spec_DrawBuildLegs.mono _ _)
   | (with_reducible exact spec_DrawEntriesIn.mono _ _)
   | (with_reducible exact spec_DrawPutEntry.mono _ _)
   | (with_reducible exact spec_EntriesIn.mono _ _)
   | (with_reducible exact spec_GoodEntries.mono _ _)
   | (with_reducible exact spec_PutEntry.mono _ _ _ _)
   | (with_reducible exact LeO.refl _)
   | (with_reducible exact LeO.none _)
   | (with_reducible refine LeO.ite ?_ ?_)
   | (with_reducible refine LeO.bind ?_ (fun _ => ?_))
   | exact ih0 _ _ _ _ _
   | exact ih1 _
   | exact ih2 _ _ _ _ _ _
   | exact ih3 _ _ _ _ _ _
   | exact ih4 _ _ _ _ _ _ _
   | exact ih5 _ _ _ _ _ _ _ _ _ _ _ _ _
   | exact impl_BuildLegs.mono _ _
   | exact impl_EntriesIn.mono _ _
   | exact impl_GoodEntries.mono _ _
   | exact impl_GoodLegs.mono _ _
   | exact impl_PutEntry.mono _ _ _ _
   | exact impl_WalkLegs.mono _ _ _
   | exact laws_sameEntries.mono _ _ _
   | exact laws_sameLegs.mono _ _ _
   | exact spec_BuildLegs.mono _ _
   | exact spec_DrawBuildLegs.mono _ _
   | exact spec_DrawEntriesIn.mono _ _
   | exact spec_DrawPutEntry.mono _ _
   | exact spec_EntriesIn.mono _ _
   | exact spec_GoodEntries.mono _ _
   | exact spec_PutEntry.mono _ _ _ _
   | exact LeO.none _
   | refine LeO.ite ?_ ?_
   | refine LeO.bind ?_ (fun _ => ?_)
  ·intro y0 y1 y2 y3 y4 y5 y6
   unfold laws_FnLegs.l0
   repeat' first
   | (with_reducible exact ih0 _ _ _ _ _)
   | (with_reducible exact ih1 _)
   | (with_reducible exact ih2 _ _ _ _ _ _)
   | (with_reducible exact ih3 _ _ _ _ _ _)
   | (with_reducible exact ih4 _ _ _ _ _ _ _)
   | (with_reducible exact ih5 _ _ _ _ _ _ _ _ _ _ _ _ _)
   | (with_reducible exact impl_BuildLegs.mono _ _)
   | (with_reducible exact impl_EntriesIn.mono _ _)
   | (with_reducible exact impl_GoodEntries.mono _ _)
   | (with_reducible exact impl_GoodLegs.mono _ _)
   | (with_reducible exact impl_PutEntry.mono _ _ _ _)
   | (with_reducible exact impl_WalkLegs.mono _ _ _)
   | (with_reducible exact laws_sameEntries.mono _ _ _)
   | (with_reducible exact laws_sameLegs.mono _ _ _)
   | (with_reducible exact spec_BuildLegs.mono _ _)
   | (with_reducible exact spec_DrawBuildLegs.mono _ _)
   | (with_reducible exact spec_DrawEntriesIn.mono _ _)
   | (with_reducible exact spec_DrawPutEntry.mono _ _)
   | (with_reducible exact spec_EntriesIn.mono _ _)
   | (with_reducible exact spec_GoodEntries.mono _ _)
   | (with_reducible exact spec_PutEntry.mono _ _ _ _)
   | (with_reducible exact LeO.refl _)
   | (with_reducible exact LeO.none _)
   | (with_reducible refine LeO.ite ?_ ?_)
   | (with_reducible refine LeO.bind ?_ (fun _ => ?_))
   | exact ih0 _ _ _ _ _
   | exact ih1 _
   | exact ih2 _ _ _ _ _ _
   | exact ih3 _ _ _ _ _ _
   | exact ih4 _ _ _ _ _ _ _
   | exact ih5 _ _ _ _ _ _ _ _ _ _ _ _ _
   | exact impl_BuildLegs.mono _ _
   | exact impl_EntriesIn.mono _ _
   | exact impl_GoodEntries.mono _ _
   | exact impl_GoodLegs.mono _ _
   | exact impl_PutEntry.mono _ _ _ _
   | exact impl_WalkLegs.mono _ _ _
   | exact laws_sameEntries.mono _ _ _
   | exact laws_sameLegs.mono _ _ _
   | exact spec_BuildLegs.mono _ _
   | exact spec_DrawBuildLegs.mono _ _
   | exact spec_DrawEntriesIn.mono _ _
   | exact spec_DrawPutEntry.mono _ _
   | exact spec_EntriesIn.mono _ _
   | exact spec_GoodEntries.mono _ _
   | exact spec_PutEntry.mono _ _ _ _
   | exact LeO.none _
   | refine LeO.ite ?_ ?_
   | refine LeO.bind ?_ (fun _ => ?_)
  ·intro y0 y1 y2 y3 y4 y5 y6 y7 y8 y9 y10 y11 y12
   unfold laws_FnLegs.l1
   repeat' first
   | (with_reducible exact ih0 _ _ _ _ _)
   | (with_reducible exact ih1 _)
   | (with_reducible exact ih2 _ _ _ _ _ _)
   | (with_reducible exact ih3 _ _ _ _ _ _)
   | (with_reducible exact ih4 _ _ _ _ _ _ _)
   | (with_reducible exact ih5 _ _ _ _ _ _ _ _ _ _ _ _ _)
   | (with_reducible exact impl_BuildLegs.mono _ _)
   | (with_reducible exact impl_EntriesIn.mono _ _)
   | (with_reducible exact impl_GoodEntries.mono _ _)
   | (with_reducible exact impl_GoodLegs.mono _ _)
   | (with_reducible exact impl_PutEntry.mono _ _ _ _)
   | (with_reducible exact impl_WalkLegs.mono _ _ _)
   | (with_reducible exact laws_sameEntries.mono _ _ _)
   | (with_reducible exact laws_sameLegs.mono _ _ _)
   | (with_reducible exact spec_BuildLegs.mono _ _)
   | (with_reducible exact spec_DrawBuildLegs.mono _ _)
   | (with_reducible exact spec_DrawEntriesIn.mono _ _)
   | (with_reducible exact spec_DrawPutEntry.mono _ _)
   | (with_reducible exact spec_EntriesIn.mono _ _)
   | (with_reducible exact spec_GoodEntries.mono _ _)
   | (with_reducible exact spec_PutEntry.mono _ _ _ _)
   | (with_reducible exact LeO.refl _)
   | (with_reducible exact LeO.none _)
   | (with_reducible refine LeO.ite ?_ ?_)
   | (with_reducible refine LeO.bind ?_ (fun _ => ?_))
   | exact ih0 _ _ _ _ _
   | exact ih1 _
   | exact ih2 _ _ _ _ _ _
   | exact ih3 _ _ _ _ _ _
   | exact ih4 _ _ _ _ _ _ _
   | exact ih5 _ _ _ _ _ _ _ _ _ _ _ _ _
   | exact impl_BuildLegs.mono _ _
   | exact impl_EntriesIn.mono _ _
   | exact impl_GoodEntries.mono _ _
   | exact impl_GoodLegs.mono _ _
   | exact impl_PutEntry.mono _ _ _ _
   | exact impl_WalkLegs.mono _ _ _
   | exact laws_sameEntries.mono _ _ _
   | exact laws_sameLegs.mono _ _ _
   | exact spec_BuildLegs.mono _ _
   | exact spec_DrawBuildLegs.mono _ _
   | exact spec_DrawEntriesIn.mono _ _
   | exact spec_DrawPutEntry.mono _ _
   | exact spec_EntriesIn.mono _ _
   | exact spec_GoodEntries.mono _ _
   | exact spec_PutEntry.mono _ _ _ _
   | exact LeO.none _
   | refine LeO.ite ?_ ?_
   | refine LeO.bind ?_ (fun _ => ?_)
theorem laws_FnLegs.mono : ∀ a0 a1 k, LeO (laws_FnLegs.f k a0 a1) (laws_FnLegs.f (k + 1) a0 a1) := by
 intro a0 a1 k
 obtain ⟨ih0, ih1, ih2, ih3, ih4, ih5⟩ := laws_FnLegs.mono_l k
 unfold laws_FnLegs.f
 repeat' first
   | (with_reducible exact ih0 _ _ _ _ _)
   | (with_reducible exact ih1 _)
   | (with_reducible exact ih2 _ _ _ _ _ _)
   | (with_reducible exact ih3 _ _ _ _ _ _)
   | (with_reducible exact ih4 _ _ _ _ _ _ _)
   | (with_reducible exact ih5 _ _ _ _ _ _ _ _ _ _ _ _ _)
   | (with_reducible exact impl_BuildLegs.mono _ _)
   | (with_reducible exact impl_EntriesIn.mono _ _)
   | (with_reducible exact impl_GoodEntries.mono _ _)
   | (with_reducible exact impl_GoodLegs.mono _ _)
   | (with_reducible exact impl_PutEntry.mono _ _ _ _)
   | (with_reducible exact impl_WalkLegs.mono _ _ _)
   | (with_reducible exact laws_sameEntries.mono _ _ _)
   | (with_reducible exact laws_sameLegs.mono _ _ _)
   | (with_reducible exact spec_BuildLegs.mono _ _)
   | (with_reducible exact spec_DrawBuildLegs.mono _ _)
   | (with_reducible exact spec_DrawEntriesIn.mono _ _)
   | (with_reducible exact spec_DrawPutEntry.mono _ _)
   | (with_reducible exact spec_EntriesIn.mono _ _)
   | (with_reducible exact spec_GoodEntries.mono _ _)
   | (with_reducible exact spec_PutEntry.mono _ _ _ _)
   | (with_reducible exact LeO.refl _)
   | (with_reducible exact LeO.none _)
   | (with_reducible refine LeO.ite ?_ ?_)
   | (with_reducible refine LeO.bind ?_ (fun _ => ?_))
   | exact ih0 _ _ _ _ _
   | exact ih1 _
   | exact ih2 _ _ _ _ _ _
   | exact ih3 _ _ _ _ _ _
   | exact ih4 _ _ _ _ _ _ _
   | exact ih5 _ _ _ _ _ _ _ _ _ _ _ _ _
   | exact impl_BuildLegs.mono _ _
   | exact impl_EntriesIn.mono _ _
   | exact impl_GoodEntries.mono _ _
   | exact impl_GoodLegs.mono _ _
   | exact impl_PutEntry.mono _ _ _ _
   | exact impl_WalkLegs.mono _ _ _
   | exact laws_sameEntries.mono _ _ _
   | exact laws_sameLegs.mono _ _ _
   | exact spec_BuildLegs.mono _ _
   | exact spec_DrawBuildLegs.mono _ _
   | exact spec_DrawEntriesIn.mono _ _
   | exact spec_DrawPutEntry.mono _ _
   | exact spec_EntriesIn.mono _ _
   | exact spec_GoodEntries.mono _ _
   | exact spec_PutEntry.mono _ _ _ _
   | exact LeO.none _
   | refine LeO.ite ?_ ?_
   | refine LeO.bind ?_ (fun _ => ?_)

end Go.Proofs.Ytkoackkimdanjaa.QFnLegs
