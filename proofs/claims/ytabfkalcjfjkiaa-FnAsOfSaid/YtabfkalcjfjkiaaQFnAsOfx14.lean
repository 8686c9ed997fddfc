-- Written by this session's own program (wip/pp_patch.py, wip/pp.sh) out of the given translation. Not trusted: Lean checks it.
import Derived.Test.YtabfkalcjfjkiaaQFnAsOfx0
import Derived.Test.YtabfkalcjfjkiaaQFnAsOfx3
import Derived.Test.YtabfkalcjfjkiaaQFnAsOfx5
import Derived.Test.YtabfkalcjfjkiaaQFnAsOfx6
import Derived.Test.YtabfkalcjfjkiaaQFnAsOfx9
import Derived.Test.YtabfkalcjfjkiaaQFnAsOfx10
import Derived.Test.YtabfkalcjfjkiaaQFnAsOfx11
import Derived.Test.YtabfkalcjfjkiaaQFnAsOfx12
import Derived.Test.YtabfkalcjfjkiaaQFnAsOfx13
namespace Go.Proofs.Ytabfkalcjfjkiaa.QFnAsOf
open Go.RowKit Go.Proofs.YtabfkalcjfjkiaaW.PrintWords Go.Proofs.YtabfkalcjfjkiaaW.PrintLast Go.Proofs.YtabfkalcjfjkiaaW.PrintMore
attribute [local go_sem] max2_int min2_int max_two min_two max_three min_three max_four min_four   -- for this text's walks alone
open Go.Proofs.Ytabfkalcjfjkiaa.Ext
attribute [local go_sem high] ext_gtr ext_leq
set_option linter.unusedVariables false
set_option linter.unusedSimpArgs false

/-! ### laws_FnAsOf: function 5 -/
mutual
def laws_FnAsOf.j0 : Nat → List Int → List (S48) → List (S48) → Bool → Bool → ByteArray → Int → Bool → ByteArray → Option (Bool)
 | 0, _, _, _, _, _, _, _, _, _ => none
 | k + 1, x1, x5, x7, x8, x89, x446000, x446001, x446002, x446003 => if x89 = true then (some false) else (if x8 = true then ((impl_AsOf.f k x7 x446000 x446001).bind fun bt457 => ((impl_GoodVersions.f k x7).bind fun t460 => (if t460 = true then (if bt457.2.2 = true then (if (bt457.2.1 == x446002) = true then (laws_FnAsOf.j1 k x1 x5 x7 true x446000 x446001 x446002 x446003) else (laws_FnAsOf.j1 k x1 x5 x7 (bt457.1.toList != x446003.toList) x446000 x446001 x446002 x446003)) else (laws_FnAsOf.j1 k x1 x5 x7 true x446000 x446001 x446002 x446003)) else (laws_FnAsOf.j1 k x1 x5 x7 true x446000 x446001 x446002 x446003)))) else (laws_FnAsOf.j4 k x1))
def laws_FnAsOf.j4 : Nat → List Int → Option (Bool)
 | 0, _ => none
 | k + 1, x1 => (spec_DrawAsOf.f k x1).bind fun bt475 => ((impl_AsOf.f k bt475.1 bt475.2.1 bt475.2.2).bind fun bt480 => ((spec_AsOf.f k bt475.1 bt475.2.1 bt475.2.2).bind fun bt483 => ((spec_DrawKeysAt.f k x1).bind fun bt486 => ((impl_KeysAt.f k bt486.1 bt486.2).bind fun bt490 => ((spec_KeysAt.f k bt486.1 bt486.2).bind fun bt494 => ((spec_DrawHistoryOf.f k x1).bind fun bt498 => ((impl_HistoryOf.f k bt498.1 bt498.2).bind fun bt502 => ((spec_HistoryOf.f k bt498.1 bt498.2).bind fun bt506 => (if (bt480.2.2 != bt483.2.2) = true then (laws_FnAsOf.j5 k bt486.1 bt486.2 bt490.1 bt490.2 true) else (if bt480.1.toList = bt483.1.toList then (if (bt480.2.1 != bt483.2.1) = true then (laws_FnAsOf.j5 k bt486.1 bt486.2 bt490.1 bt490.2 true) else (if (bt490.2 != bt494.2) = true then (laws_FnAsOf.j5 k bt486.1 bt486.2 bt490.1 bt490.2 true) else ((laws_sameTexts.f k bt490.1 bt494.1).bind fun t510 => (if t510 = true then (if (bt502.2 != bt506.2) = true then (laws_FnAsOf.j5 k bt486.1 bt486.2 bt490.1 bt490.2 true) else ((laws_sameVersions.f k bt502.1 bt506.1).bind fun t511 => (laws_FnAsOf.j5 k bt486.1 bt486.2 bt490.1 bt490.2 (!t511)))) else (laws_FnAsOf.j5 k bt486.1 bt486.2 bt490.1 bt490.2 true))))) else (laws_FnAsOf.j5 k bt486.1 bt486.2 bt490.1 bt490.2 true)))))))))))
def laws_FnAsOf.j5 : Nat → List (S48) → Int → List ByteArray → Bool → Bool → Option (Bool)
 | 0, _, _, _, _, _ => none
 | k + 1, x34, x35, x36, x37, x282 => if x282 = true then (some false) else (if x37 = true then (laws_FnAsOf.l1 k x34 x35 x36 x34 (x34.length : Int) 0) else (some true))
def laws_FnAsOf.l1 : Nat → List (S48) → Int → List ByteArray → List (S48) → Int → Int → Option (Bool)
 | 0, _, _, _, _, _, _ => none
 | k + 1, x34, x35, x36, x284, x285, x286 => if x286 < x285 then (if 0 ≤ x286 then (if x286 < (x284.length : Int) then ((impl_AsOf.f k x34 ((rd_T48 x284 x286).f0) x35).bind fun bt514 => (if bt514.2.2 = true then ((laws_hasText.f k x36 ((rd_T48 x284 x286).f0)).bind fun t517 => (if (bt514.2.1 != t517) = true then (some false) else (laws_FnAsOf.l1 k x34 x35 x36 x284 x285 (wrap64 (x286 + 1))))) else (some false))) else (none)) else (none)) else (some true)
def laws_FnAsOf.j1 : Nat → List Int → List (S48) → List (S48) → Bool → ByteArray → Int → Bool → ByteArray → Option (Bool)
 | 0, _, _, _, _, _, _, _, _ => none
 | k + 1, x1, x5, x7, x119, x446000, x446001, x446002, x446003 => if x119 = true then (some false) else (laws_FnAsOf.l0 k x1 x5 x7 0 x446000 x446001 x446002 x446003)
def laws_FnAsOf.l0 : Nat → List Int → List (S48) → List (S48) → Int → ByteArray → Int → Bool → ByteArray → Option (Bool)
 | 0, _, _, _, _, _, _, _, _ => none
 | k + 1, x1, x5, x7, x14, x446000, x446001, x446002, x446003 => if x14 < x446001 then (laws_FnAsOf.j3 k x1 x5 x7 x14 (decide (x14 < 40)) x446000 x446001 x446002 x446003) else (laws_FnAsOf.j3 k x1 x5 x7 x14 false x446000 x446001 x446002 x446003)
def laws_FnAsOf.j3 : Nat → List Int → List (S48) → List (S48) → Int → Bool → ByteArray → Int → Bool → ByteArray → Option (Bool)
 | 0, _, _, _, _, _, _, _, _, _ => none
 | k + 1, x1, x5, x7, x14, x127, x446000, x446001, x446002, x446003 => if x127 = true then ((impl_AsOf.f k x5 x446000 x14).bind fun bt461 => ((impl_AsOf.f k x7 x446000 x14).bind fun bt464 => (if bt461.2.2 = true then (if bt464.2.2 = true then (if bt461.1.toList = bt464.1.toList then (if (bt461.2.1 != bt464.2.1) = true then (some false) else (laws_FnAsOf.l0 k x1 x5 x7 (wrap64 (x14 + 1)) x446000 x446001 x446002 x446003)) else (some false)) else (some false)) else (some false)))) else ((impl_HistoryOf.f k x7 x446000).bind fun bt467 => ((impl_HistoryOf.f k x5 x446000).bind fun bt471 => (if bt467.2 = true then (if bt471.2 = true then (if (bt467.1.length : Int) = (wrap64 ((bt471.1.length : Int) + 1)) then (laws_FnAsOf.j4 k x1) else (some false)) else (some false)) else (some false))))
end
def laws_FnAsOf.f (k : Nat) (l0 : List Int) (l1 : List Int) : Option (Bool) := if (wrap64 ((l0.length : Int) + (l1.length : Int))) > 1048576 then (some true) else ((spec_DrawPutVersion.f k l0).bind fun bt438 => ((impl_PutVersion.f k bt438.1 bt438.2.1 bt438.2.2.1 bt438.2.2.2.1 bt438.2.2.2.2).bind fun bt446 => ((spec_PutVersion.f k bt438.1 bt438.2.1 bt438.2.2.1 bt438.2.2.2.1 bt438.2.2.2.2).bind fun bt450 => (if (bt446.2 != bt450.2) = true then (laws_FnAsOf.j0 k l1 bt438.1 bt446.1 bt446.2 true bt438.2.1 bt438.2.2.1 bt438.2.2.2.1 bt438.2.2.2.2) else ((laws_sameVersions.f k bt446.1 bt450.1).bind fun t454 => (if t454 = true then ((impl_GoodVersions.f k bt438.1).bind fun t455 => ((spec_GoodVersions.f k bt438.1).bind fun t456 => (laws_FnAsOf.j0 k l1 bt438.1 bt446.1 bt446.2 (t455 != t456) bt438.2.1 bt438.2.2.1 bt438.2.2.2.1 bt438.2.2.2.2))) else (laws_FnAsOf.j0 k l1 bt438.1 bt446.1 bt446.2 true bt438.2.1 bt438.2.2.1 bt438.2.2.2.1 bt438.2.2.2.2)))))))
theorem laws_FnAsOf.mono_l : ∀ k, (∀ y0 y1 y2 y3 y4 y5 y6 y7 y8, LeO (laws_FnAsOf.j0 k y0 y1 y2 y3 y4 y5 y6 y7 y8) (laws_FnAsOf.j0 (k + 1) y0 y1 y2 y3 y4 y5 y6 y7 y8)) ∧ (∀ y0, LeO (laws_FnAsOf.j4 k y0) (laws_FnAsOf.j4 (k + 1) y0)) ∧ (∀ y0 y1 y2 y3 y4, LeO (laws_FnAsOf.j5 k y0 y1 y2 y3 y4) (laws_FnAsOf.j5 (k + 1) y0 y1 y2 y3 y4)) ∧ (∀ y0 y1 y2 y3 y4 y5, LeO (laws_FnAsOf.l1 k y0 y1 y2 y3 y4 y5) (laws_FnAsOf.l1 (k + 1) y0 y1 y2 y3 y4 y5)) ∧ (∀ y0 y1 y2 y3 y4 y5 y6 y7, LeO (laws_FnAsOf.j1 k y0 y1 y2 y3 y4 y5 y6 y7) (laws_FnAsOf.j1 (k + 1) y0 y1 y2 y3 y4 y5 y6 y7)) ∧ (∀ y0 y1 y2 y3 y4 y5 y6 y7, LeO (laws_FnAsOf.l0 k y0 y1 y2 y3 y4 y5 y6 y7) (laws_FnAsOf.l0 (k + 1) y0 y1 y2 y3 y4 y5 y6 y7)) ∧ (∀ y0 y1 y2 y3 y4 y5 y6 y7 y8, LeO (laws_FnAsOf.j3 k y0 y1 y2 y3 y4 y5 y6 y7 y8) (laws_FnAsOf.j3 (k + 1) y0 y1 y2 y3 y4 y5 y6 y7 y8))
 | 0 => ⟨fun _ _ _ _ _ _ _ _ _ r h => by simp [laws_FnAsOf.j0] at h, fun _ r h => by simp [laws_FnAsOf.j4] at h, fun _ _ _ _ _ r h => by simp [laws_FnAsOf.j5] at h, fun _ _ _ _ _ _ r h => by simp [laws_FnAsOf.l1] at h, fun _ _ _ _ _ _ _ _ r h => by simp [laws_FnAsOf.j1] at h, fun _ _ _ _ _ _ _ _ r h => by simp [laws_FnAsOf.l0] at h, fun _ _ _ _ _ _ _ _ _ r h => by simp [laws_FnAsOf.j3] at h⟩
 | k + 1 => by
  obtain ⟨ih0, ih1, ih2, ih3, ih4, ih5, ih6⟩ := laws_FnAsOf.mono_l k
  refine ⟨?_, ?_, ?_, ?_, ?_, ?_, ?_⟩
  ·intro y0 y1 y2 y3 y4 y5 y6 y7 y8
   unfold laws_FnAsOf.j0
   repeat' first
   | (with_reducible exact ih0 _ _ _ _ _ _ _ _ _)
   | (with_reducible exact ih1 _)
   | (with_reducible exact ih2 _ _ _ _ _)
   | (with_reducible exact ih3 _ _ _ _ _ _)
   | (with_reducible exact ih4 _ _ _ _ _ _ _ _)
   | (with_reducible exact ih5 _ _ _ _ _ _ _ _)
   | (with_reducible exact ih6 _ _ _ _ _ _ _ _ _)
   | (with_reducible exact impl_AsOf.mono _ _ _ _)
   | (with_reducible exact impl_GoodVersions.mono _ _)
   | (with_reducible exact impl_HistoryOf.mono _ _ _)
   | (with_reducible exact impl_KeysAt.mono _ _ _)
   | (with_reducible exact impl_PutVersion.mono _ _ _ _ _ _)
   | (with_reducible exact laws_hasText.mono _ _ _)
   | (with_reducible exact laws_sameTexts.mono _ _ _)
   | (with_reducible exact laws_sameVersions.mono _ _ _)
   | (with_reducible exact spec_AsOf.mono _ _ _ _)
   | (with_reducible exact spec_DrawAsOf.mono _ _)
   | (with_reducible exact spec_DrawHistoryOf.mono _ _)
   | (with_reducible exact spec_DrawKeysAt.mono _ _)
   | (with_reducible exact spec_DrawPutVersion.mono _ _)
   | (with_reducible exact spec_GoodVersions.mono _ _)
   | (with_reducible exact spec_HistoryOf.mono _ _ _)
   | (with_reducible exact spec_KeysAt.mono _ _ _)
   | (with_reducible exact spec_PutVersion.mono _ _ _ _ _ _)
   | (with_reducible exact LeO.refl _)
   | (with_reducible exact LeO.none _)
   | (with_reducible refine LeO.ite ?_ ?_)
   | (with_reducible refine LeO.bind ?_ (fun _ => ?_))
   | exact ih0 _ _ _ _ _ _ _ _ _
   | exact ih1 _
   | exact ih2 _ _ _ _ _
   | exact ih3 _ _ _ _ _ _
   | exact ih4 _ _ _ _ _ _ _ _
   | exact ih5 _ _ _ _ _ _ _ _
   | exact ih6 _ _ _ _ _ _ _ _ _
   | exact impl_AsOf.mono _ _ _ _
   | exact impl_GoodVersions.mono _ _
   | exact impl_HistoryOf.mono _ _ _
   | exact impl_KeysAt.mono _ _ _
   | exact impl_PutVersion.mono _ _ _ _ _ _
   | exact laws_hasText.mono _ _ _
   | exact laws_sameTexts.mono _ _ _
   | exact laws_sameVersions.mono _ _ _
   | exact spec_AsOf.mono _ _ _ _
   | exact spec_DrawAsOf.mono _ _
   | exact spec_DrawHistoryOf.mono _ _
   | exact spec_DrawKeysAt.mono _ _
   | exact spec_DrawPutVersion.mono _ _
   | exact spec_GoodVersions.mono _ _
   | exact spec_HistoryOf.mono _ _ _
   | exact spec_KeysAt.mono _ _ _
   | exact spec_PutVersion.mono _ _ _ _ _ _
   | exact LeO.none _
   | refine LeO.ite ?_ ?_
   | refine LeO.bind ?_ (fun _ => ?_)
  ·intro y0
   unfold laws_FnAsOf.j4
   repeat' first
   | (with_reducible exact ih0 _ _ _ _ _ _ _ _ _)
   | (with_reducible exact ih1 _)
   | (with_reducible exact ih2 _ _ _ _ _)
   | (with_reducible exact ih3 _ _ _ _ _ _)
   | (with_reducible exact ih4 _ _ _ _ _ _ _ _)
   | (with_reducible exact ih5 _ _ _ _ _ _ _ _)
   | (with_reducible exact ih6 _ _ _ _ _ _ _ _ _)
   | (with_reducible exact impl_AsOf.mono _ _ _ _)
   | (with_reducible exact impl_GoodVersions.mono _ _)
   | (with_reducible exact impl_HistoryOf.mono _ _ _)
   | (with_reducible exact impl_KeysAt.mono _ _ _)
   | (with_reducible exact impl_PutVersion.mono _ _ _ _ _ _)
   | (with_reducible exact laws_hasText.mono _ _ _)
   | (with_reducible exact laws_sameTexts.mono _ _ _)
   | (with_reducible exact laws_sameVersions.mono _ _ _)
   | (with_reducible exact spec_AsOf.mono _ _ _ _)
   | (with_reducible exact spec_DrawAsOf.mono _ _)
   | (with_reducible exact spec_DrawHistoryOf.mono _ _)
   | (with_reducible exact spec_DrawKeysAt.mono _ _)
   | (with_reducible exact spec_DrawPutVersion.mono _ _)
   | (with_reducible exact spec_GoodVersions.mono _ _)
   | (with_reducible exact spec_HistoryOf.mono _ _ _)
   | (with_reducible exact spec_KeysAt.mono _ _ _)
   | (with_reducible exact spec_PutVersion.mono _ _ _ _ _ _)
   | (with_reducible exact LeO.refl _)
   | (with_reducible exact LeO.none _)
   | (with_reducible refine LeO.ite ?_ ?_)
   | (with_reducible refine LeO.bind ?_ (fun _ => ?_))
   | exact ih0 _ _ _ _ _ _ _ _ _
   | exact ih1 _
   | exact ih2 _ _ _ _ _
   | exact ih3 _ _ _ _ _ _
   | exact ih4 _ _ _ _ _ _ _ _
   | exact ih5 _ _ _ _ _ _ _ _
   | exact ih6 _ _ _ _ _ _ _ _ _
   | exact impl_AsOf.mono _ _ _ _
   | exact impl_GoodVersions.mono _ _
   | exact impl_HistoryOf.mono _ _ _
   | exact impl_KeysAt.mono _ _ _
   | exact impl_PutVersion.mono _ _ _ _ _ _
   | exact laws_hasText.mono _ _ _
   | exact laws_sameTexts.mono _ _ _
   | exact laws_sameVersions.mono _ _ _
   | exact spec_AsOf.mono _ _ _ _
   | exact spec_DrawAsOf.mono _ _
   | exact spec_DrawHistoryOf.mono _ _
   | exact spec_DrawKeysAt.mono _ _
   | exact spec_DrawPutVersion.mono _ _
   | exact spec_GoodVersions.mono _ _
   | exact spec_HistoryOf.mono _ _ _
   | exact spec_KeysAt.mono _ _ _
   | exact spec_PutVersion.mono _ _ _ _ _ _
   | exact LeO.none _
   | refine LeO.ite ?_ ?_
   | refine LeO.bind ?_ (fun _ => ?_)
  ·intro y0 y1 y2 y3 y4
   unfold laws_FnAsOf.j5
   repeat' first
   | (with_reducible exact ih0 _ _ _ _ _ _ _ _ _)
   | (with_reducible exact ih1 _)
   | (with_reducible exact ih2 _ _ _ _ _)
   | (with_reducible exact ih3 _ _ _ _ _ _)
   | (with_reducible exact ih4 _ _ _ _ _ _ _ _)
   | (with_reducible exact ih5 _ _ _ _ _ _ _ _)
   | (with_reducible exact ih6 _ _ _ _ _ _ _ _ _)
   | (with_reducible exact impl_AsOf.mono _ _ _ _)
   | (with_reducible exact impl_GoodVersions.mono _ _)
   | (with_reducible exact impl_HistoryOf.mono _ _ _)
   | (with_reducible exact impl_KeysAt.mono _ _ _)
   | (with_reducible exact impl_PutVersion.mono _ _ _ _ _ _)
   | (with_reducible exact laws_hasText.mono _ _ _)
   | (with_reducible exact laws_sameTexts.mono _ _ _)
   | (with_reducible exact laws_sameVersions.mono _ _ _)
   | (with_reducible exact spec_AsOf.mono _ _ _ _)
   | (with_reducible exact spec_DrawAsOf.mono _ _)
   | (with_reducible exact spec_DrawHistoryOf.mono _ _)
   | (with_reducible exact spec_DrawKeysAt.mono _ _)
   | (with_reducible exact spec_DrawPutVersion.mono _ _)
   | (with_reducible exact spec_GoodVersions.mono _ _)
   | (with_reducible exact spec_HistoryOf.mono _ _ _)
   | (with_reducible exact spec_KeysAt.mono _ _ _)
   | (with_reducible exact spec_PutVersion.mono _ _ _ _ _ _)
   | (with_reducible exact LeO.refl _)
   | (with_reducible exact LeO.none _)
   | (with_reducible refine LeO.ite ?_ ?_)
   | (with_reducible refine LeO.bind ?_ (fun _ => ?_))
   | exact ih0 _ _ _ _ _ _ _ _ _
   | exact ih1 _
   | exact ih2 _ _ _ _ _
   | exact ih3 _ _ _ _ _ _
   | exact ih4 _ _ _ _ _ _ _ _
   | exact ih5 _ _ _ _ _ _ _ _
   | exact ih6 _ _ _ _ _ _ _ _ _
   | exact impl_AsOf.mono _ _ _ _
   | exact impl_GoodVersions.mono _ _
   | exact impl_HistoryOf.mono _ _ _
   | exact impl_KeysAt.mono _ _ _
   | exact impl_PutVersion.mono _ _ _ _ _ _
   | exact laws_hasText.mono _ _ _
   | exact laws_sameTexts.mono _ _ _
   | exact laws_sameVersions.mono _ _ _
   | exact spec_AsOf.mono _ _ _ _
   | exact spec_DrawAsOf.mono _ _
   | exact spec_DrawHistoryOf.mono _ _
   | exact spec_DrawKeysAt.mono _ _
   | exact spec_DrawPutVersion.mono _ _
   | exact spec_GoodVersions.mono _ _
   | exact spec_HistoryOf.mono _ _ _
   | exact spec_KeysAt.mono _ _ _
   | exact spec_PutVersion.mono _ _ _ _ _ _
   | exact LeO.none _
   | refine LeO.ite ?_ ?_
   | refine LeO.bind ?_ (fun _ => ?_)
  ·intro y0 y1 y2 y3 y4 y5
   unfold laws_FnAsOf.l1
   repeat' first
   | (with_reducible exact ih0 _ _ _ _ _ _ _ _ _)
   | (with_reducible exact ih1 _)
   | (with_reducible exact ih2 _ _ _ _ _)
   | (with_reducible exact ih3 _ _ _ _ _ _)
   | (with_reducible exact ih4 _ _ _ _ _ _ _ _)
   | (with_reducible exact ih5 _ _ _ _ _ _ _ _)
   | (with_reducible exact ih6 _ _ _ _ _ _ _ _ _)
   | (with_reducible exact impl_AsOf.mono _ _ _ _)
   | (with_reducible exact impl_GoodVersions.mono _ _)
   | (with_reducible exact impl_HistoryOf.mono _ _ _)
   | (with_reducible exact impl_KeysAt.mono _ _ _)
   | (with_reducible exact impl_PutVersion.mono _ _ _ _ _ _)
   | (with_reducible exact laws_hasText.mono _ _ _)
   | (with_reducible exact laws_sameTexts.mono _ _ _)
   | (with_reducible exact laws_sameVersions.mono _ _ _)
   | (with_reducible exact spec_AsOf.mono _ _ _ _)
   | (with_reducible exact spec_DrawAsOf.mono _ _)
   | (with_reducible exact spec_DrawHistoryOf.mono _ _)
   | (with_reducible exact spec_DrawKeysAt.mono _ _)
   | (with_reducible exact spec_DrawPutVersion.mono _ _)
   | (with_reducible exact spec_GoodVersions.mono _ _)
   | (with_reducible exact spec_HistoryOf.mono _ _ _)
   | (with_reducible exact spec_KeysAt.mono _ _ _)
   | (with_reducible exact spec_PutVersion.mono _ _ _ _ _ _)
   | (with_reducible exact LeO.refl _)
   | (with_reducible exact LeO.none _)
   | (with_reducible refine LeO.ite ?_ ?_)
   | (with_reducible refine LeO.bind ?_ (fun _ => ?_))
   | exact ih0 _ _ _ _ _ _ _ _ _
   | exact ih1 _
   | exact ih2 _ _ _ _ _
   | exact ih3 _ _ _ _ _ _
   | exact ih4 _ _ _ _ _ _ _ _
   | exact ih5 _ _ _ _ _ _ _ _
   | exact ih6 _ _ _ _ _ _ _ _ _
   | exact impl_AsOf.mono _ _ _ _
   | exact impl_GoodVersions.mono _ _
   | exact impl_HistoryOf.mono _ _ _
   | exact impl_KeysAt.mono _ _ _
   | exact impl_PutVersion.mono _ _ _ _ _ _
   | exact laws_hasText.mono _ _ _
   | exact laws_sameTexts.mono _ _ _
   | exact laws_sameVersions.mono _ _ _
   | exact spec_AsOf.mono _ _ _ _
   | exact spec_DrawAsOf.mono _ _
   | exact spec_DrawHistoryOf.mono _ _
   | exact spec_DrawKeysAt.mono _ _
   | exact spec_DrawPutVersion.mono _ _
   | exact spec_GoodVersions.mono _ _
   | exact spec_HistoryOf.mono _ _ _
   | exact spec_KeysAt.mono _ _ _
   | exact spec_PutVersion.mono _ _ _ _ _ _
   | exact LeO.none _
   | refine LeO.ite ?_ ?_
   | refine LeO.bind ?_ (fun _ => ?_)
  ·intro y0 y1 y2 y3 y4 y5 y6 y7
   unfold laws_FnAsOf.j1
   repeat' first
   | (with_reducible exact ih0 _ _ _ _ _ _ _ _ _)
   | (with_reducible exact ih1 _)
   | (with_reducible exact ih2 _ _ _ _ _)
   | (with_reducible exact ih3 _ _ _ _ _ _)
   | (with_reducible exact ih4 _ _ _ _ _ _ _ _)
   | (with_reducible exact ih5 _ _ _ _ _ _ _ _)
   | (with_reducible exact ih6 _ _ _ _ _ _ _ _ _)
   | (with_reducible exact impl_AsOf.mono _ _ _ _)
   | (with_reducible exact impl_GoodVersions.mono _ _)
   | (with_reducible exact impl_HistoryOf.mono _ _ _)
   | (with_reducible exact impl_KeysAt.mono _ _ _)
   | (with_reducible exact impl_PutVersion.mono _ _ _ _ _ _)
   | (with_reducible exact laws_hasText.mono _ _ _)
   | (with_reducible exact laws_sameTexts.mono _ _ _)
   | (with_reducible exact laws_sameVersions.mono _ _ _)
   | (with_reducible exact spec_AsOf.mono _ _ _ _)
   | (with_reducible exact spec_DrawAsOf.mono _ _)
   | (with_reducible exact spec_DrawHistoryOf.mono _ _)
   | (with_reducible exact spec_DrawKeysAt.mono _ _)
   | (with_reducible exact spec_DrawPutVersion.mono _ _)
   | (with_reducible exact spec_GoodVersions.mono _ _)
   | (with_reducible exact spec_HistoryOf.mono _ _ _)
   | (with_reducible exact spec_KeysAt.mono _ _ _)
   | (with_reducible exact spec_PutVersion.mono _ _ _ _ _ _)
   | (with_reducible exact LeO.refl _)
   | (with_reducible exact LeO.none _)
   | (with_reducible refine LeO.ite ?_ ?_)
   | (with_reducible refine LeO.bind ?_ (fun _ => ?_))
   | exact ih0 _ _ _ _ _ _ _ _ _
   | exact ih1 _
   | exact ih2 _ _ _ _ _
   | exact ih3 _ _ _ _ _ _
   | exact ih4 _ _ _ _ _ _ _ _
   | exact ih5 _ _ _ _ _ _ _ _
   | exact ih6 _ _ _ _ _ _ _ _ _
   | exact impl_AsOf.mono _ _ _ _
   | exact impl_GoodVersions.mono _ _
   | exact impl_HistoryOf.mono _ _ _
   | exact impl_KeysAt.mono _ _ _
   | exact impl_PutVersion.mono _ _ _ _ _ _
   | exact laws_hasText.mono _ _ _
   | exact laws_sameTexts.mono _ _ _
   | exact laws_sameVersions.mono _ _ _
   | exact spec_AsOf.mono _ _ _ _
   | exact spec_DrawAsOf.mono _ _
   | exact spec_DrawHistoryOf.mono _ _
   | exact spec_DrawKeysAt.mono _ _
   | exact spec_DrawPutVersion.mono _ _
   | exact spec_GoodVersions.mono _ _
   | exact spec_HistoryOf.mono _ _ _
   | exact spec_KeysAt.mono _ _ _
   | exact spec_PutVersion.mono _ _ _ _ _ _
   | exact LeO.none _
   | refine LeO.ite ?_ ?_
   | refine LeO.bind ?_ (fun _ => ?_)
  ·intro y0 y1 y2 y3 y4 y5 y6 y7
   unfold laws_FnAsOf.l0
   repeat' first
   | (with_reducible exact ih0 _ _ _ _ _ _ _ _ _)
   | (with_reducible exact ih1 _)
   | (with_reducible exact ih2 _ _ _ _ _)
   | (with_reducible exact ih3 _ _ _ _ _ _)
   | (with_reducible exact ih4 _ _ _ _ _ _ _ _)
   | (with_reducible exact ih5 _ _ _ _ _ _ _ _)
   | (with_reducible exact ih6 _ _ _ _ _ _ _ _ _)
   | (with_reducible exact impl_AsOf.mono _ _ _ _)
   | (with_reducible exact impl_GoodVersions.mono _ _)
   | (with_reducible exact impl_HistoryOf.mono _ _ _)
   | (with_reducible exact impl_KeysAt.mono _ _ _)
   | (with_reducible exact impl_PutVersion.mono _ _ _ _ _ _)
   | (with_reducible exact laws_hasText.mono _ _ _)
   | (with_reducible exact laws_sameTexts.mono _ _ _)
   | (with_reducible exact laws_sameVersions.mono _ _ _)
   | (with_reducible exact spec_AsOf.mono _ _ _ _)
   | (with_reducible exact spec_DrawAsOf.mono _ _)
   | (with_reducible exact spec_DrawHistoryOf.mono _ _)
   | (with_reducible exact spec_DrawKeysAt.mono _ _)
   | (with_reducible exact spec_DrawPutVersion.mono _ _)
   | (with_reducible exact spec_GoodVersions.mono _ _)
   | (with_reducible exact spec_HistoryOf.mono _ _ _)
   | (with_reducible exact spec_KeysAt.mono _ _ _)
   | (with_reducible exact spec_PutVersion.mono _ _ _ _ _ _)
   | (with_reducible exact LeO.refl _)
   | (with_reducible exact LeO.none _)
   | (with_reducible refine LeO.ite ?_ ?_)
   | (with_reducible refine LeO.bind ?_ (fun _ => ?_))
   | exact ih0 _ _ _ _ _ _ _ _ _
   | exact ih1 _
   | exact ih2 _ _ _ _ _
   | exact ih3 _ _ _ _ _ _
   | exact ih4 _ _ _ _ _ _ _ _
   | exact ih5 _ _ _ _ _ _ _ _
   | exact ih6 _ _ _ _ _ _ _ _ _
   | exact impl_AsOf.mono _ _ _ _
   | exact impl_GoodVersions.mono _ _
   | exact impl_HistoryOf.mono _ _ _
   | exact impl_KeysAt.mono _ _ _
   | exact impl_PutVersion.mono _ _ _ _ _ _
   | exact laws_hasText.mono _ _ _
   | exact laws_sameTexts.mono _ _ _
   | exact laws_sameVersions.mono _ _ _
   | exact spec_AsOf.mono _ _ _ _
   | exact spec_DrawAsOf.mono _ _
   | exact spec_DrawHistoryOf.mono _ _
   | exact spec_DrawKeysAt.mono _ _
   | exact spec_DrawPutVersion.mono _ _
   | exact spec_GoodVersions.mono _ _
   | exact spec_HistoryOf.mono _ _ _
   | exact spec_KeysAt.mono _ _ _
   | exact spec_PutVersion.mono _ _ _ _ _ _
   | exact LeO.none _
   | refine LeO.ite ?_ ?_
   | refine LeO.bind ?_ (fun _ => ?_)
  ·intro y0 y1 y2 y3 y4 y5 y6 y7 y8
   unfold laws_FnAsOf.j3
   repeat' first
   | (with_reducible exact ih0 _ _ _ _ _ _ _ _ _)
   | (with_reducible exact ih1 _)
   | (with_reducible exact ih2 _ _ _ _ _)
   | (with_reducible exact ih3 _ _ _ _ _ _)
   | (with_reducible exact ih4 _ _ _ _ _ _ _ _)
   | (with_reducible exact ih5 _ _ _ _ _ _ _ _)
   | (with_reducible exact ih6 _ _ _ _ _ _ _ _ _)
   | (with_reducible exact impl_AsOf.mono _ _ _ _)
   | (with_reducible exact impl_GoodVersions.mono _ _)
   | (with_reducible exact impl_HistoryOf.mono _ _ _)
   | (with_reducible exact impl_KeysAt.mono _ _ _)
   | (with_reducible exact impl_PutVersion.mono _ _ _ _ _ _)
   | (with_reducible exact laws_hasText.mono _ _ _)
   | (with_reducible exact laws_sameTexts.mono _ _ _)
   | (with_reducible exact laws_sameVersions.mono _ _ _)
   | (with_reducible exact spec_AsOf.mono _ _ _ _)
   | (with_reducible exact spec_DrawAsOf.mono _ _)
   | (with_reducible exact spec_DrawHistoryOf.mono _ _)
   | (with_reducible exact spec_DrawKeysAt.mono _ _)
   | (with_reducible exact spec_DrawPutVersion.mono _ _)
   | (with_reducible exact spec_GoodVersions.mono _ _)
   | (with_reducible exact spec_HistoryOf.mono _ _ _)
   | (with_reducible exact spec_KeysAt.mono _ _ _)
   | (with_reducible exact spec_PutVersion.mono _ _ _ _ _ _)
   | (with_reducible exact LeO.refl _)
   | (with_reducible exact LeO.none _)
   | (with_reducible refine LeO.ite ?_ ?_)
   | (with_reducible refine LeO.bind ?_ (fun _ => ?_))
   | exact ih0 _ _ _ _ _ _ _ _ _
   | exact ih1 _
   | exact ih2 _ _ _ _ _
   | exact ih3 _ _ _ _ _ _
   | exact ih4 _ _ _ _ _ _ _ _
   | exact ih5 _ _ _ _ _ _ _ _
   | exact ih6 _ _ _ _ _ _ _ _ _
   | exact impl_AsOf.mono _ _ _ _
   | exact impl_GoodVersions.mono _ _
   | exact impl_HistoryOf.mono _ _ _
   | exact impl_KeysAt.mono _ _ _
   | exact impl_PutVersion.mono _ _ _ _ _ _
   | exact laws_hasText.mono _ _ _
   | exact laws_sameTexts.mono _ _ _
   | exact laws_sameVersions.mono _ _ _
   | exact spec_AsOf.mono _ _ _ _
   | exact spec_DrawAsOf.mono _ _
   | exact spec_DrawHistoryOf.mono _ _
   | exact spec_DrawKeysAt.mono _ _
   | exact spec_DrawPutVersion.mono _ _
   | exact spec_GoodVersions.mono _ _
   | exact spec_HistoryOf.mono _ _ _
   | exact spec_KeysAt.mono _ _ _
   | exact spec_PutVersion.mono _ _ _ _ _ _
   | exact LeO.none _
   | refine LeO.ite ?_ ?_
   | refine LeO.bind ?_ (fun _ => ?_)
theorem laws_FnAsOf.mono : ∀ a0 a1 k, LeO (laws_FnAsOf.f k a0 a1) (laws_FnAsOf.f (k + 1) a0 a1) := by
 intro a0 a1 k
 obtain ⟨ih0, ih1, ih2, ih3, ih4, ih5, ih6⟩ := laws_FnAsOf.mono_l k
 unfold laws_FnAsOf.f
 repeat' first
   | (with_reducible exact ih0 _ _ _ _ _ _ _ _ _)
   | (with_reducible exact ih1 _)
   | (with_reducible exact ih2 _ _ _ _ _)
   | (with_reducible exact ih3 _ _ _ _ _ _)
   | (with_reducible exact ih4 _ _ _ _ _ _ _ _)
   | (with_reducible exact ih5 _ _ _ _ _ _ _ _)
   | (with_reducible exact ih6 _ _ _ _ _ _ _ _ _)
   | (with_reducible exact impl_AsOf.mono _ _ _ _)
   | (with_reducible exact impl_GoodVersions.mono _ _)
   | (with_reducible exact impl_HistoryOf.mono _ _ _)
   | (with_reducible exact impl_KeysAt.mono _ _ _)
   | (with_reducible exact impl_PutVersion.mono _ _ _ _ _ _)
   | (with_reducible exact laws_hasText.mono _ _ _)
   | (with_reducible exact laws_sameTexts.mono _ _ _)
   | (with_reducible exact laws_sameVersions.mono _ _ _)
   | (with_reducible exact spec_AsOf.mono _ _ _ _)
   | (with_reducible exact spec_DrawAsOf.mono _ _)
   | (with_reducible exact spec_DrawHistoryOf.mono _ _)
   | (with_reducible exact spec_DrawKeysAt.mono _ _)
   | (with_reducible exact spec_DrawPutVersion.mono _ _)
   | (with_reducible exact spec_GoodVersions.mono _ _)
   | (with_reducible exact spec_HistoryOf.mono _ _ _)
   | (with_reducible exact spec_KeysAt.mono _ _ _)
   | (with_reducible exact spec_PutVersion.mono _ _ _ _ _ _)
   | (with_reducible exact LeO.refl _)
   | (with_reducible exact LeO.none _)
   | (with_reducible refine LeO.ite ?_ ?_)
   | (with_reducible refine LeO.bind ?_ (fun _ => ?_))
   | exact ih0 _ _ _ _ _ _ _ _ _
   | exact ih1 _
   | exact ih2 _ _ _ _ _
   | exact ih3 _ _ _ _ _ _
   | exact ih4 _ _ _ _ _ _ _ _
   | exact ih5 _ _ _ _ _ _ _ _
   | exact ih6 _ _ _ _ _ _ _ _ _
   | exact impl_AsOf.mono _ _ _ _
   | exact impl_GoodVersions.mono _ _
   | exact impl_HistoryOf.mono _ _ _
   | exact impl_KeysAt.mono _ _ _
   | exact impl_PutVersion.mono _ _ _ _ _ _
   | exact laws_hasText.mono _ _ _
   | exact laws_sameTexts.mono _ _ _
   | exact laws_sameVersions.mono _ _ _
   | exact spec_AsOf.mono _ _ _ _
   | exact spec_DrawAsOf.mono _ _
   | exact spec_DrawHistoryOf.mono _ _
   | exact spec_DrawKeysAt.mono _ _
   | exact spec_DrawPutVersion.mono _ _
   | exact spec_GoodVersions.mono _ _
   | exact spec_HistoryOf.mono _ _ _
   | exact spec_KeysAt.mono _ _ _
   | exact spec_PutVersion.mono _ _ _ _ _ _
   | exact LeO.none _
   | refine LeO.ite ?_ ?_
   | refine LeO.bind ?_ (fun _ => ?_)
theorem laws_FnAsOf.no_j0 {r : Bool} : ∀ k a0 a1 a2 a3 a4 a5 a6 a7, laws_FnAsOf.j0 k a0 a1 a2 a3 true a4 a5 a6 a7 = some r → ¬ r = true
 | 0, a0, a1, a2, a3, a4, a5, a6, a7, h => by simp [laws_FnAsOf.j0] at h
 | k + 1, a0, a1, a2, a3, a4, a5, a6, a7, h => by simp [laws_FnAsOf.j0] at h; simp [← h]
theorem laws_FnAsOf.no_j5 {r : Bool} : ∀ k a0 a1 a2 a3, laws_FnAsOf.j5 k a0 a1 a2 a3 true = some r → ¬ r = true
 | 0, a0, a1, a2, a3, h => by simp [laws_FnAsOf.j5] at h
 | k + 1, a0, a1, a2, a3, h => by simp [laws_FnAsOf.j5] at h; simp [← h]
theorem laws_FnAsOf.no_j1 {r : Bool} : ∀ k a0 a1 a2 a3 a4 a5 a6, laws_FnAsOf.j1 k a0 a1 a2 true a3 a4 a5 a6 = some r → ¬ r = true
 | 0, a0, a1, a2, a3, a4, a5, a6, h => by simp [laws_FnAsOf.j1] at h
 | k + 1, a0, a1, a2, a3, a4, a5, a6, h => by simp [laws_FnAsOf.j1] at h; simp [← h]
set_option maxHeartbeats 80000000 in
set_option maxRecDepth 100000 in
theorem laws_FnAsOf.calls (k : Nat) (A0 : Option Addr) (c0 : Nat) (l0 : List Int) (A1 : Option Addr) (c1 : Nat) (l1 : List Int) (r : Bool) (hrt : r = true) (w : World) (hr0 : Kd.C (Kd.int .u8) w A0 l0.length l0) (hc0 : l0.length ≤ c0) (hr1 : Kd.C (Kd.int .u8) w A1 l1.length l1) (hc1 : l1.length ≤ c1) (h : laws_FnAsOf.f k l0 l1 = some r) :
  Calls Try.prog 5 #[.slice A0 l0.length c0, .slice A1 l1.length c1] w fun e w' => e = .returned (.bool r) ∧ Below w.heap.size w w' := by
 have hu48 := Try.underlying48
 have HR0 := Aside0.mk hr0
 have HC0 := Aside0.mk hc0
 clear hr0 hc0
 have HR1 := Aside0.mk hr1
 have HC1 := Aside0.mk hc1
 clear hr1 hc1
 have HB := Aside0.mk (Below.refl w.heap.size w)
 have H : (if (wrap64 ((l0.length : Int) + (l1.length : Int))) > 1048576 then (some true) else ((spec_DrawPutVersion.f k l0).bind fun bt438 => ((impl_PutVersion.f k bt438.1 bt438.2.1 bt438.2.2.1 bt438.2.2.2.1 bt438.2.2.2.2).bind fun bt446 => ((spec_PutVersion.f k bt438.1 bt438.2.1 bt438.2.2.1 bt438.2.2.2.1 bt438.2.2.2.2).bind fun bt450 => (if (bt446.2 != bt450.2) = true then (laws_FnAsOf.j0 k l1 bt438.1 bt446.1 bt446.2 true bt438.2.1 bt438.2.2.1 bt438.2.2.2.1 bt438.2.2.2.2) else ((laws_sameVersions.f k bt446.1 bt450.1).bind fun t454 => (if t454 = true then ((impl_GoodVersions.f k bt438.1).bind fun t455 => ((spec_GoodVersions.f k bt438.1).bind fun t456 => (laws_FnAsOf.j0 k l1 bt438.1 bt446.1 bt446.2 (t455 != t456) bt438.2.1 bt438.2.2.1 bt438.2.2.2.1 bt438.2.2.2.2))) else (laws_FnAsOf.j0 k l1 bt438.1 bt446.1 bt446.2 true bt438.2.1 bt438.2.2.1 bt438.2.2.2.1 bt438.2.2.2.2)))))))) = some r := h
 clear h
 by_cases c3 : (wrap64 ((l0.length : Int) + (l1.length : Int))) > 1048576
 ·rw [if_pos c3] at H
  have c3b0 : decide (1048576 < (wrap64 ((l0.length : Int) + (l1.length : Int)))) = true := decide_eq_true c3
  clear c3
  obtain rfl := Option.some.inj H
  go_enter Try.func5, Try.ntmps5
  go_wp2
  go_ret
  exact ⟨sq_w, sq_b⟩
 ·rw [if_neg c3] at H
  have c3b0 : decide (1048576 < (wrap64 ((l0.length : Int) + (l1.length : Int)))) = false := decide_eq_false c3
  clear c3
  replace H := Option.bind_eq_some_iff.mp H
  obtain ⟨⟨t438, t441, t442, t443, t444⟩, A40, H⟩ := H
  replace H : ((impl_PutVersion.f k t438 t441 t442 t443 t444).bind fun bt446 => ((spec_PutVersion.f k t438 t441 t442 t443 t444).bind fun bt450 => (if (bt446.2 != bt450.2) = true then (laws_FnAsOf.j0 k l1 t438 bt446.1 bt446.2 true t441 t442 t443 t444) else ((laws_sameVersions.f k bt446.1 bt450.1).bind fun t454 => (if t454 = true then ((impl_GoodVersions.f k t438).bind fun t455 => ((spec_GoodVersions.f k t438).bind fun t456 => (laws_FnAsOf.j0 k l1 t438 bt446.1 bt446.2 (t455 != t456) t441 t442 t443 t444))) else (laws_FnAsOf.j0 k l1 t438 bt446.1 bt446.2 true t441 t442 t443 t444)))))) = some r := H
  have A4 := Aside0.mk A40
  clear A40
  replace H := Option.bind_eq_some_iff.mp H
  obtain ⟨⟨t446, t449⟩, A50, H⟩ := H
  replace H : ((spec_PutVersion.f k t438 t441 t442 t443 t444).bind fun bt450 => (if (t449 != bt450.2) = true then (laws_FnAsOf.j0 k l1 t438 t446 t449 true t441 t442 t443 t444) else ((laws_sameVersions.f k t446 bt450.1).bind fun t454 => (if t454 = true then ((impl_GoodVersions.f k t438).bind fun t455 => ((spec_GoodVersions.f k t438).bind fun t456 => (laws_FnAsOf.j0 k l1 t438 t446 t449 (t455 != t456) t441 t442 t443 t444))) else (laws_FnAsOf.j0 k l1 t438 t446 t449 true t441 t442 t443 t444))))) = some r := H
  have A5 := Aside0.mk A50
  clear A50
  replace H := Option.bind_eq_some_iff.mp H
  obtain ⟨⟨t450, t453⟩, A60, H⟩ := H
  replace H : (if (t449 != t453) = true then (laws_FnAsOf.j0 k l1 t438 t446 t449 true t441 t442 t443 t444) else ((laws_sameVersions.f k t446 t450).bind fun t454 => (if t454 = true then ((impl_GoodVersions.f k t438).bind fun t455 => ((spec_GoodVersions.f k t438).bind fun t456 => (laws_FnAsOf.j0 k l1 t438 t446 t449 (t455 != t456) t441 t442 t443 t444))) else (laws_FnAsOf.j0 k l1 t438 t446 t449 true t441 t442 t443 t444)))) = some r := H
  have A6 := Aside0.mk A60
  clear A60
  have HC7 := Aside0.mk H
  clear H
  go_enter Try.func5, Try.ntmps5
  go_upto_region 6 with (first | ((with_reducible refine gate_callee (f := 31) rfl ?_); refine goesL_ (some 59) rfl rfl Try.func31 (by kernel_rfl) rfl #[.slice A0 l0.length c0] rfl (by (try simp only [List.map_toArray, List.map_cons, List.map_nil]); first | done | rfl | (simp only [List.length_drop, List.length_take]; rfl)) ?_; (with_reducible refine (spec_DrawPutVersion.calls k _ _ l0 t438 t441 t442 t443 t444 _ ?side1 ?side2 A4.out).mono ?_); (case side1 => repeat (first | exact HR0.out | (with_reducible refine Kd.C_alloc ?_ _) | (with_reducible refine Kd.C_drewN ?_ _) | (with_reducible refine Kd.C_drew ?_))); (case side2 => exact HC0.out); rintro e w8 ⟨v439, rfl, ho0, hb⟩; refine ⟨_, rfl, ?_⟩; have n0_ := Aside0.mk (Kd.R_lower ho0 (below_size sq_b)); have n1_ := Aside0.mk (below_step sq_b hb); clear HB; have HO440 := n0_; have HB := n1_; clear n0_ n1_; (try clear hb); (try clear hb2); (try clear hk); (try clear hi); (try clear ho0)) | ((with_reducible refine gate_dst (N := 6) rfl ?_); (try (refine gate_guard (by rfl) ?_; dsimp only)); refine box_event ?hg (N := 6) ?hd (cs := #[.string (⟨#[]⟩ : ByteArray), .int .i64 0, .bool false, .string (⟨#[]⟩ : ByteArray)]) (t := 48) ?hr ?_; (case hd => rfl); (case hg => rfl); (case hr => first | (go_simp; done) | (go_simp; rfl)); intro gb445 hg w9 hbox hb; have n0_ := Aside0.mk (Kd.R_below (Kd.R_elderB (sq_r HO440) gb445 (Nat.le_of_eq hg.symm)) hb); have n1_ := Aside0.mk (below_step sq_b hb); have n2_ := Aside0.mk (hbox); have n3_ := Aside0.mk ((by rw [hg]; exact (below_size sq_b) : w.heap.size ≤ gb445)); have n4_ := Aside0.mk ((by rw [hg]; exact (below_size sq_b) : w.heap.size ≤ gb445)); clear HO440; clear HB; have HO440 := n0_; have HB := n1_; have BK445 := n2_; have GW445 := n3_; have GE445 := n4_; clear n0_ n1_ n2_ n3_ n4_; clear hb hbox hg; have hcz10_0 : w9.cell? ⟨gb445, 0, none⟩ = some (.string (⟨#[]⟩ : ByteArray)) := (blk_cell BK445.out 0).trans rfl; have hcz10_1 : w9.cell? ⟨gb445, 1, none⟩ = some (.int .i64 0) := (blk_cell BK445.out 1).trans rfl; have hcz10_2 : w9.cell? ⟨gb445, 2, none⟩ = some (.bool false) := (blk_cell BK445.out 2).trans rfl; have hcz10_3 : w9.cell? ⟨gb445, 3, none⟩ = some (.string (⟨#[]⟩ : ByteArray)) := (blk_cell BK445.out 3).trans rfl; have hfz10_0 := blk_frozen BK445.out 0; have hfz10_1 := blk_frozen BK445.out 1; have hfz10_2 := blk_frozen BK445.out 2; have hfz10_3 := blk_frozen BK445.out 3; obtain ⟨Ao11, co11, eo11⟩ := Kd.R_slice HO440.out; subst eo11) | ((with_reducible refine gate_callee (f := 27) rfl ?_); refine goesL_ (some 65) rfl rfl Try.func27 (by kernel_rfl) rfl #[.slice Ao11 t438.length co11, .agg #[.string t441, .int .i64 t442, .bool t443, .string t444]] rfl (by (try simp only [List.map_toArray, List.map_cons, List.map_nil]); first | done | rfl | (simp only [List.length_drop, List.length_take]; rfl)) ?_; (with_reducible refine (impl_PutVersion.calls k _ _ t438 t441 t442 t443 t444 t446 t449 _ ?side1 ?side2 A5.out).mono ?_); (case side1 => refine (Kd.R_reads' (e := 48) (base := w.heap.size) (ok := fun k_ => (True ∧ k_ ≠ gb445)) (n := t438.length) (c := co11) ?_).2.2; exact (by (with_reducible repeat (first | apply Kd.R_alloc | apply Kd.R_drewN | apply Kd.R_drew)); exact (Kd.R_mono (Kd.R_far (p := ⟨gb445, 3, none⟩) (Kd.R_far (p := ⟨gb445, 2, none⟩) (Kd.R_far (p := ⟨gb445, 1, none⟩) (Kd.R_far (p := ⟨gb445, 0, none⟩) (Kd.R_mono HO440.out (fun k_ hk => (⟨hk, hk.2⟩ : _ ∧ k_ ≠ gb445))) (fun _ hk => hk.2) (.string t441)) (fun _ hk => hk.2) (.int .i64 t442)) (fun _ hk => hk.2) (.bool t443)) (fun _ hk => hk.2) (.string t444)) (fun _ h_ => h_.1)))); (case side2 => exact (Kd.R_reads' HO440.out).2.1); rintro e w12 ⟨v447, rfl, ho0, hb⟩; refine ⟨_, rfl, ?_⟩; have n0_ := Aside0.mk (Kd.R_elder' (by (with_reducible repeat (first | apply Kd.R_alloc | apply Kd.R_drewN | apply Kd.R_drew)); exact (Kd.R_mono (Kd.R_far (p := ⟨gb445, 3, none⟩) (Kd.R_far (p := ⟨gb445, 2, none⟩) (Kd.R_far (p := ⟨gb445, 1, none⟩) (Kd.R_far (p := ⟨gb445, 0, none⟩) (Kd.R_mono HO440.out (fun k_ hk => (⟨hk, hk.2⟩ : _ ∧ k_ ≠ gb445))) (fun _ hk => hk.2) (.string t441)) (fun _ hk => hk.2) (.int .i64 t442)) (fun _ hk => hk.2) (.bool t443)) (fun _ hk => hk.2) (.string t444)) (fun _ h_ => h_.1))) (Kd.R_base ho0) hb); have n1_ := Aside0.mk (Kd.R_lower (Kd.R_newB (Kd.R_new' ho0 (Kd.R_lt (by (with_reducible repeat (first | apply Kd.R_alloc | apply Kd.R_drewN | apply Kd.R_drew)); exact (Kd.R_mono (Kd.R_far (p := ⟨gb445, 3, none⟩) (Kd.R_far (p := ⟨gb445, 2, none⟩) (Kd.R_far (p := ⟨gb445, 1, none⟩) (Kd.R_far (p := ⟨gb445, 0, none⟩) (Kd.R_mono HO440.out (fun k_ hk => (⟨hk, hk.2⟩ : _ ∧ k_ ≠ gb445))) (fun _ hk => hk.2) (.string t441)) (fun _ hk => hk.2) (.int .i64 t442)) (fun _ hk => hk.2) (.bool t443)) (fun _ hk => hk.2) (.string t444)) (fun _ h_ => h_.1))))) (g := gb445) (o := .cells #[.string t441, .int .i64 t442, .bool t443, .string t444] 48 (0, 0)) (by (with_reducible repeat (first | refine blk_drewN ?_ _ | refine blk_drew ?_ | refine blk_alloc ?_ _)); refine blk_put (cs := #[.string t441, .int .i64 t442, .bool t443, .string (⟨#[]⟩ : ByteArray)]) ?_ 3 _ rfl; (with_reducible repeat (first | refine blk_drewN ?_ _ | refine blk_drew ?_ | refine blk_alloc ?_ _)); refine blk_put (cs := #[.string t441, .int .i64 t442, .bool false, .string (⟨#[]⟩ : ByteArray)]) ?_ 2 _ rfl; (with_reducible repeat (first | refine blk_drewN ?_ _ | refine blk_drew ?_ | refine blk_alloc ?_ _)); refine blk_put (cs := #[.string t441, .int .i64 0, .bool false, .string (⟨#[]⟩ : ByteArray)]) ?_ 1 _ rfl; (with_reducible repeat (first | refine blk_drewN ?_ _ | refine blk_drew ?_ | refine blk_alloc ?_ _)); refine blk_put (cs := #[.string (⟨#[]⟩ : ByteArray), .int .i64 0, .bool false, .string (⟨#[]⟩ : ByteArray)]) ?_ 0 _ rfl; (with_reducible repeat (first | refine blk_drewN ?_ _ | refine blk_drew ?_ | refine blk_alloc ?_ _)); exact BK445.out)) (below_size (by repeat (first | (with_reducible first | exact HB.out | apply below_alloc | apply pw_below_drewN | apply below_drew1 | refine below_set ?_ GE445.out) | exact HB.out)))); have n2_ := Aside0.mk (blk_below (g := gb445) (o := .cells #[.string t441, .int .i64 t442, .bool t443, .string t444] 48 (0, 0)) (by (with_reducible repeat (first | refine blk_drewN ?_ _ | refine blk_drew ?_ | refine blk_alloc ?_ _)); refine blk_put (cs := #[.string t441, .int .i64 t442, .bool t443, .string (⟨#[]⟩ : ByteArray)]) ?_ 3 _ rfl; (with_reducible repeat (first | refine blk_drewN ?_ _ | refine blk_drew ?_ | refine blk_alloc ?_ _)); refine blk_put (cs := #[.string t441, .int .i64 t442, .bool false, .string (⟨#[]⟩ : ByteArray)]) ?_ 2 _ rfl; (with_reducible repeat (first | refine blk_drewN ?_ _ | refine blk_drew ?_ | refine blk_alloc ?_ _)); refine blk_put (cs := #[.string t441, .int .i64 0, .bool false, .string (⟨#[]⟩ : ByteArray)]) ?_ 1 _ rfl; (with_reducible repeat (first | refine blk_drewN ?_ _ | refine blk_drew ?_ | refine blk_alloc ?_ _)); refine blk_put (cs := #[.string (⟨#[]⟩ : ByteArray), .int .i64 0, .bool false, .string (⟨#[]⟩ : ByteArray)]) ?_ 0 _ rfl; (with_reducible repeat (first | refine blk_drewN ?_ _ | refine blk_drew ?_ | refine blk_alloc ?_ _)); exact BK445.out) hb); have n3_ := Aside0.mk (below_step (by repeat (first | (with_reducible first | exact HB.out | apply below_alloc | apply pw_below_drewN | apply below_drew1 | refine below_set ?_ GE445.out) | exact HB.out)) hb); clear HO440; clear BK445; clear HB; have HO440 := n0_; have HO448 := n1_; have BK445 := n2_; have HB := n3_; clear n0_ n1_ n2_ n3_; (try clear hb); (try clear hb2); (try clear hk); (try clear hi); (try clear ho0); have hcz13_0 : w12.cell? ⟨gb445, 0, none⟩ = some (.string t441) := (blk_cell BK445.out 0).trans rfl; have hcz13_1 : w12.cell? ⟨gb445, 1, none⟩ = some (.int .i64 t442) := (blk_cell BK445.out 1).trans rfl; have hcz13_2 : w12.cell? ⟨gb445, 2, none⟩ = some (.bool t443) := (blk_cell BK445.out 2).trans rfl; have hcz13_3 : w12.cell? ⟨gb445, 3, none⟩ = some (.string t444) := (blk_cell BK445.out 3).trans rfl; have hfz13_0 := blk_frozen BK445.out 0; have hfz13_1 := blk_frozen BK445.out 1; have hfz13_2 := blk_frozen BK445.out 2; have hfz13_3 := blk_frozen BK445.out 3) | ((with_reducible refine gate_callee (f := 24) rfl ?_); refine goesL_ (some 71) rfl rfl Try.func24 (by kernel_rfl) rfl #[.slice Ao11 t438.length co11, .agg #[.string t441, .int .i64 t442, .bool t443, .string t444]] rfl (by (try simp only [List.map_toArray, List.map_cons, List.map_nil]); first | done | rfl | (simp only [List.length_drop, List.length_take]; rfl)) ?_; (with_reducible refine (spec_PutVersion.calls k _ _ t438 t441 t442 t443 t444 t450 t453 _ ?side1 ?side2 A6.out).mono ?_); (case side1 => repeat (first | exact (Kd.R_reads' HO440.out).2.2 | (with_reducible refine Kd.C_alloc ?_ _) | (with_reducible refine Kd.C_drewN ?_ _) | (with_reducible refine Kd.C_drew ?_))); (case side2 => exact (Kd.R_reads' HO440.out).2.1); rintro e w14 ⟨v451, rfl, ho0, hb⟩; refine ⟨_, rfl, ?_⟩; have n0_ := Aside0.mk (Kd.R_elder' (sq_r HO440) (Kd.R_base ho0) hb); have n1_ := Aside0.mk (Kd.R_elder' (sq_r HO448) (Kd.R_base ho0) hb); have n2_ := Aside0.mk (Kd.R_lower (Kd.R_newB (Kd.R_new' (Kd.R_new' ho0 (Kd.R_lt (sq_r HO440))) (Kd.R_lt (sq_r HO448))) (g := gb445) (o := .cells #[.string t441, .int .i64 t442, .bool t443, .string t444] 48 (0, 0)) (sq_l BK445)) (below_size (by repeat (first | (with_reducible first | exact HB.out | apply below_alloc | apply pw_below_drewN | apply below_drew1 | refine below_set ?_ GE445.out) | exact HB.out)))); have n3_ := Aside0.mk (blk_below (g := gb445) (o := .cells #[.string t441, .int .i64 t442, .bool t443, .string t444] 48 (0, 0)) (sq_l BK445) hb); have n4_ := Aside0.mk (below_step (by repeat (first | (with_reducible first | exact HB.out | apply below_alloc | apply pw_below_drewN | apply below_drew1 | refine below_set ?_ GE445.out) | exact HB.out)) hb); clear HO440; clear HO448; clear BK445; clear HB; have HO440 := n0_; have HO448 := n1_; have HO452 := n2_; have BK445 := n3_; have HB := n4_; clear n0_ n1_ n2_ n3_ n4_; (try clear hb); (try clear hb2); (try clear hk); (try clear hi); (try clear ho0)))
  (try simp only [Act.put, List.setIfInBounds_toArray, List.set_cons_zero, List.set_cons_succ])
  go_cut [89] (fun v89 wc => ∃ (kq : Nat) (x89_6 : Bool), v89 = .bool x89_6 ∧ Aside0 (laws_FnAsOf.j0 kq l1 t438 t446 t449 x89_6 t441 t442 t443 t444 = some r) ∧ Aside0 (kq ≤ k) ∧ Aside0 (Kd.R k48 48 wc w.heap.size (fun k_ => some k_ ≠ (v447 : Value).ownBlock ∧ k_ ≠ gb445) (.slice Ao11 t438.length co11) t438) ∧ Aside0 (Kd.R k48 48 wc w.heap.size (fun k_ => some k_ ≠ ((.slice Ao11 t438.length co11) : Value).ownBlock ∧ k_ ≠ gb445) v447 t446) ∧ Aside0 (wc.heap[gb445]? = some (.cells #[.string t441, .int .i64 t442, .bool t443, .string t444] 48 (0, 0))) ∧ Aside0 (Below w.heap.size w wc))
  case first => as_aux_lemma =>
   have H := HC7.out
   clear HC7
   by_cases c15 : (t449 != t453) = true
   ·rw [if_pos c15] at H
    have c15b0 : (t449 != t453) = true := c15
    (try (have c15b1 : decide (t449 = t453) = false := by simpa using c15))
    (try (have c15b2 : (t449 == t453) = false := by simpa using c15))
    (try (have c15b3 : ¬ (t449 = t453) := by simpa using c15))
    clear c15
    (first | rw [c15b0] | (simp only [i64_w, i32_w]; rw [c15b0]) | skip)
    exact absurd hrt (laws_FnAsOf.no_j0 _ _ _ _ _ _ _ _ _ H)
   ·rw [if_neg c15] at H
    have c15b0 : (t449 != t453) = false := by simpa using c15
    (try (have c15b1 : decide (t449 = t453) = true := by simpa using c15))
    (try (have c15b2 : (t449 == t453) = true := by simpa using c15))
    clear c15
    (first | rw [c15b0] | (simp only [i64_w, i32_w]; rw [c15b0]) | skip)
    replace H := Option.bind_eq_some_iff.mp H
    obtain ⟨t454, A160, H⟩ := H
    replace H : (if t454 = true then ((impl_GoodVersions.f k t438).bind fun t455 => ((spec_GoodVersions.f k t438).bind fun t456 => (laws_FnAsOf.j0 k l1 t438 t446 t449 (t455 != t456) t441 t442 t443 t444))) else (laws_FnAsOf.j0 k l1 t438 t446 t449 true t441 t442 t443 t444)) = some r := H
    have A16 := Aside0.mk A160
    clear A160
    by_cases c17 : t454 = true
    ·subst c17
     have H1 : ((impl_GoodVersions.f k t438).bind fun t455 => ((spec_GoodVersions.f k t438).bind fun t456 => (laws_FnAsOf.j0 k l1 t438 t446 t449 (t455 != t456) t441 t442 t443 t444))) = some r := by rw [if_pos rfl] at H; exact H
     clear H
     have H := H1
     clear H1
     replace H := Option.bind_eq_some_iff.mp H
     obtain ⟨t455, A180, H⟩ := H
     replace H : ((spec_GoodVersions.f k t438).bind fun t456 => (laws_FnAsOf.j0 k l1 t438 t446 t449 (t455 != t456) t441 t442 t443 t444)) = some r := H
     have A18 := Aside0.mk A180
     clear A180
     replace H := Option.bind_eq_some_iff.mp H
     obtain ⟨t456, A190, H⟩ := H
     replace H : (laws_FnAsOf.j0 k l1 t438 t446 t449 (t455 != t456) t441 t442 t443 t444) = some r := H
     have A19 := Aside0.mk A190
     clear A190
     have H' := Aside0.mk H
     clear H
     obtain ⟨Ao20, co20, eo20⟩ := Kd.R_slice HO448.out
     subst eo20
     obtain ⟨Ao21, co21, eo21⟩ := Kd.R_slice HO452.out
     subst eo21
     go_wp2_with (first | (go_at_call 32; (with_reducible refine (laws_sameVersions.calls k _ _ t446 _ _ t450 true _ ?side1 ?side2 ?side3 ?side4 A16.out).mono ?_); (case side1 => repeat (first | exact (Kd.R_reads' HO448.out).2.2 | (with_reducible refine Kd.C_alloc ?_ _) | (with_reducible refine Kd.C_drewN ?_ _) | (with_reducible refine Kd.C_drew ?_))); (case side2 => exact (Kd.R_reads' HO448.out).2.1); (case side3 => repeat (first | exact (Kd.R_reads' HO452.out).2.2 | (with_reducible refine Kd.C_alloc ?_ _) | (with_reducible refine Kd.C_drewN ?_ _) | (with_reducible refine Kd.C_drew ?_))); (case side4 => exact (Kd.R_reads' HO452.out).2.1); rintro e w' ⟨rfl, ⟨nd, rfl⟩⟩) | (go_at_call 33; (with_reducible refine (impl_GoodVersions.calls k _ _ t438 t455 _ ?side1 ?side2 A18.out).mono ?_); (case side1 => repeat (first | exact (Kd.R_reads' HO440.out).2.2 | (with_reducible refine Kd.C_alloc ?_ _) | (with_reducible refine Kd.C_drewN ?_ _) | (with_reducible refine Kd.C_drew ?_))); (case side2 => exact (Kd.R_reads' HO440.out).2.1); rintro e w22 ⟨rfl, hb⟩; have n0_ := Aside0.mk (Kd.R_below (sq_r HO440) hb); have n1_ := Aside0.mk (Kd.R_below (sq_r HO448) hb); have n2_ := Aside0.mk (Kd.R_below (sq_r HO452) hb); have n3_ := Aside0.mk (blk_below (g := gb445) (o := .cells #[.string t441, .int .i64 t442, .bool t443, .string t444] 48 (0, 0)) (sq_l BK445) hb); have n4_ := Aside0.mk (below_step (by repeat (first | (with_reducible first | exact HB.out | apply below_alloc | apply pw_below_drewN | apply below_drew1 | refine below_set ?_ GE445.out) | exact HB.out)) hb); clear HO440; clear HO448; clear HO452; clear BK445; clear HB; have HO440 := n0_; have HO448 := n1_; have HO452 := n2_; have BK445 := n3_; have HB := n4_; clear n0_ n1_ n2_ n3_ n4_; (try clear hb); (try clear hb2); (try clear hk); (try clear hi)) | (go_at_call 34; (with_reducible refine (spec_GoodVersions.calls k _ _ t438 t456 _ ?side1 ?side2 A19.out).mono ?_); (case side1 => repeat (first | exact (Kd.R_reads' HO440.out).2.2 | (with_reducible refine Kd.C_alloc ?_ _) | (with_reducible refine Kd.C_drewN ?_ _) | (with_reducible refine Kd.C_drew ?_))); (case side2 => exact (Kd.R_reads' HO440.out).2.1); rintro e w23 ⟨rfl, hb⟩; have n0_ := Aside0.mk (Kd.R_below (sq_r HO440) hb); have n1_ := Aside0.mk (Kd.R_below (sq_r HO448) hb); have n2_ := Aside0.mk (Kd.R_below (sq_r HO452) hb); have n3_ := Aside0.mk (blk_below (g := gb445) (o := .cells #[.string t441, .int .i64 t442, .bool t443, .string t444] 48 (0, 0)) (sq_l BK445) hb); have n4_ := Aside0.mk (below_step (by repeat (first | (with_reducible first | exact HB.out | apply below_alloc | apply pw_below_drewN | apply below_drew1 | refine below_set ?_ GE445.out) | exact HB.out)) hb); clear HO440; clear HO448; clear HO452; clear BK445; clear HB; have HO440 := n0_; have HO448 := n1_; have HO452 := n2_; have BK445 := n3_; have HB := n4_; clear n0_ n1_ n2_ n3_ n4_; (try clear hb); (try clear hb2); (try clear hk); (try clear hi)))
     go_meet
     case rel => exact ⟨_, ((t455 != t456)), sq_e, H', ⟨by first | omega | exact Nat.le_refl _⟩, ⟨by (with_reducible repeat (first | apply Kd.R_alloc | apply Kd.R_drewN | apply Kd.R_drew)); exact Kd.R_mono HO440.out (fun _ hk => ⟨hk.1.2, hk.1.1.2⟩)⟩, ⟨by (with_reducible repeat (first | apply Kd.R_alloc | apply Kd.R_drewN | apply Kd.R_drew)); exact Kd.R_mono HO448.out (fun _ hk => ⟨hk.1.1.2, hk.1.2⟩)⟩, ⟨by (with_reducible repeat (first | refine blk_drewN ?_ _ | refine blk_drew ?_ | refine blk_alloc ?_ _)); exact BK445.out⟩, ⟨by repeat (first | (with_reducible first | exact HB.out | apply below_alloc | apply pw_below_drewN | apply below_drew1 | refine below_set ?_ GE445.out) | exact HB.out)⟩⟩
    ·replace c17 := Bool.eq_false_iff.mpr c17
     subst c17
     have H1 : (laws_FnAsOf.j0 k l1 t438 t446 t449 true t441 t442 t443 t444) = some r := by rw [if_neg (show ¬ (false = true) by decide)] at H; exact H
     clear H
     have H := H1
     clear H1
     exact absurd hrt (laws_FnAsOf.no_j0 _ _ _ _ _ _ _ _ _ H)
  case rest => as_aux_lemma =>
   clear HC7
   (try clear c1); (try clear c2); (try clear p2); (try clear c3); (try clear c3b0); (try clear c5); (try clear p6); (try clear c15); (try clear c15b0); (try clear c15b1); (try clear c15b2); (try clear c17); (try clear c24); (try clear hcz10_0); (try clear hcz10_1); (try clear hcz10_2); (try clear hcz10_3); (try clear hcz13_0); (try clear hcz13_1); (try clear hcz13_2); (try clear hcz13_3); (try clear hfz10_0)
   (try clear hfz10_1); (try clear hfz10_2); (try clear hfz10_3); (try clear hfz13_0); (try clear hfz13_1); (try clear hfz13_2); (try clear hfz13_3)
   obtain ⟨kq, x89_6, rfl, HA, HJ6, HO_5, HO_7, BK445, HB⟩ := hcut
   cases kq with
   | zero => exact absurd HA.out (by simp [laws_FnAsOf.j0])
   | succ kj6 =>
    have H := HA.out
    clear HA
    simp only [laws_FnAsOf.j0] at H
    by_cases c26 : x89_6 = true
    ·subst c26
     have H1 : (some false) = some r := by rw [if_pos rfl] at H; exact H
     clear H
     have H := H1
     clear H1
     obtain rfl := Option.some.inj H
     cases hrt
    ·replace c26 := Bool.eq_false_iff.mpr c26
     subst c26
     have H1 : (if t449 = true then ((impl_AsOf.f kj6 t446 t441 t442).bind fun bt457 => ((impl_GoodVersions.f kj6 t446).bind fun t460 => (if t460 = true then (if bt457.2.2 = true then (if (bt457.2.1 == t443) = true then (laws_FnAsOf.j1 kj6 l1 t438 t446 true t441 t442 t443 t444) else (laws_FnAsOf.j1 kj6 l1 t438 t446 (bt457.1.toList != t444.toList) t441 t442 t443 t444)) else (laws_FnAsOf.j1 kj6 l1 t438 t446 true t441 t442 t443 t444)) else (laws_FnAsOf.j1 kj6 l1 t438 t446 true t441 t442 t443 t444)))) else (laws_FnAsOf.j4 kj6 l1)) = some r := by rw [if_neg (show ¬ (false = true) by decide)] at H; exact H
     clear H
     have H := H1
     clear H1
     have HC27 := Aside0.mk H
     clear H
     go_upto_if 90 with (fail)
     go_cut [] (fun wc => ∃ (kq : Nat), Aside0 (laws_FnAsOf.j4 kq l1 = some r) ∧ Aside0 (kq ≤ kj6) ∧ Aside0 (wc.heap[gb445]? = some (.cells #[.string t441, .int .i64 t442, .bool t443, .string t444] 48 (0, 0))) ∧ Aside0 (Below w.heap.size w wc))
     case first => as_aux_lemma =>
      have H := HC27.out
      clear HC27
      by_cases c28 : t449 = true
      ·subst c28
       have H1 : ((impl_AsOf.f kj6 t446 t441 t442).bind fun bt457 => ((impl_GoodVersions.f kj6 t446).bind fun t460 => (if t460 = true then (if bt457.2.2 = true then (if (bt457.2.1 == t443) = true then (laws_FnAsOf.j1 kj6 l1 t438 t446 true t441 t442 t443 t444) else (laws_FnAsOf.j1 kj6 l1 t438 t446 (bt457.1.toList != t444.toList) t441 t442 t443 t444)) else (laws_FnAsOf.j1 kj6 l1 t438 t446 true t441 t442 t443 t444)) else (laws_FnAsOf.j1 kj6 l1 t438 t446 true t441 t442 t443 t444)))) = some r := by rw [if_pos rfl] at H; exact H
       clear H
       have H := H1
       clear H1
       replace H := Option.bind_eq_some_iff.mp H
       obtain ⟨⟨t457, t458, t459⟩, A290, H⟩ := H
       replace H : ((impl_GoodVersions.f kj6 t446).bind fun t460 => (if t460 = true then (if t459 = true then (if (t458 == t443) = true then (laws_FnAsOf.j1 kj6 l1 t438 t446 true t441 t442 t443 t444) else (laws_FnAsOf.j1 kj6 l1 t438 t446 (t457.toList != t444.toList) t441 t442 t443 t444)) else (laws_FnAsOf.j1 kj6 l1 t438 t446 true t441 t442 t443 t444)) else (laws_FnAsOf.j1 kj6 l1 t438 t446 true t441 t442 t443 t444))) = some r := H
       have A29 := Aside0.mk A290
       clear A290
       have HC30 := Aside0.mk H
       clear H
       have hcz31_0 : wc.cell? ⟨gb445, 0, none⟩ = some (.string t441) := (blk_cell BK445.out 0).trans rfl
       have hcz31_1 : wc.cell? ⟨gb445, 1, none⟩ = some (.int .i64 t442) := (blk_cell BK445.out 1).trans rfl
       have hcz31_2 : wc.cell? ⟨gb445, 2, none⟩ = some (.bool t443) := (blk_cell BK445.out 2).trans rfl
       have hcz31_3 : wc.cell? ⟨gb445, 3, none⟩ = some (.string t444) := (blk_cell BK445.out 3).trans rfl
       have hfz31_0 := blk_frozen BK445.out 0
       have hfz31_1 := blk_frozen BK445.out 1
       have hfz31_2 := blk_frozen BK445.out 2
       have hfz31_3 := blk_frozen BK445.out 3
       obtain ⟨Ao32, co32, eo32⟩ := Kd.R_slice HO_7.out
       subst eo32
       go_upto_region 10 with (first | ((with_reducible refine gate_callee (f := 35) rfl ?_); refine goesL_ (some 97) rfl rfl Try.func35 (by kernel_rfl) rfl #[.slice Ao32 t446.length co32, .string t441, .int .i64 t442] rfl (by (try simp only [List.map_toArray, List.map_cons, List.map_nil]); first | done | rfl | (simp only [List.length_drop, List.length_take]; rfl)) ?_; (with_reducible refine (impl_AsOf.calls kj6 _ _ t446 t441 t442 t457 t458 t459 _ ?side1 ?side2 A29.out).mono ?_); (case side1 => repeat (first | exact (Kd.R_reads' HO_7.out).2.2 | (with_reducible refine Kd.C_alloc ?_ _) | (with_reducible refine Kd.C_drewN ?_ _) | (with_reducible refine Kd.C_drew ?_))); (case side2 => exact (Kd.R_reads' HO_7.out).2.1); rintro e w33 ⟨rfl, hb⟩; refine ⟨_, rfl, ?_⟩; have n0_ := Aside0.mk (Kd.R_below (sq_r HO_5) hb); have n1_ := Aside0.mk (Kd.R_below (sq_r HO_7) hb); have n2_ := Aside0.mk (blk_below (g := gb445) (o := .cells #[.string t441, .int .i64 t442, .bool t443, .string t444] 48 (0, 0)) (sq_l BK445) hb); have n3_ := Aside0.mk (below_step (by repeat (first | (with_reducible first | exact HB.out | apply below_alloc | apply pw_below_drewN | apply below_drew1 | refine below_set ?_ GE445.out) | exact HB.out)) hb); clear HO_5; clear HO_7; clear BK445; clear HB; have HO_5 := n0_; have HO_7 := n1_; have BK445 := n2_; have HB := n3_; clear n0_ n1_ n2_ n3_; (try clear hb); (try clear hb2); (try clear hk); (try clear hi)))
       (try simp only [Act.put, List.setIfInBounds_toArray, List.set_cons_zero, List.set_cons_succ])
       go_cut [119] (fun v119 wc => ∃ (kq : Nat) (x119_29 : Bool), v119 = .bool x119_29 ∧ Aside0 (laws_FnAsOf.j1 kq l1 t438 t446 x119_29 t441 t442 t443 t444 = some r) ∧ Aside0 (kq ≤ kj6) ∧ Aside0 (Kd.R k48 48 wc w.heap.size (fun k_ => some k_ ≠ ((.slice Ao32 t446.length co32) : Value).ownBlock ∧ k_ ≠ gb445) (.slice Ao11 t438.length co11) t438) ∧ Aside0 (Kd.R k48 48 wc w.heap.size (fun k_ => some k_ ≠ ((.slice Ao11 t438.length co11) : Value).ownBlock ∧ k_ ≠ gb445) (.slice Ao32 t446.length co32) t446) ∧ Aside0 (wc.heap[gb445]? = some (.cells #[.string t441, .int .i64 t442, .bool t443, .string t444] 48 (0, 0))) ∧ Aside0 (Below w.heap.size w wc))
       case first => as_aux_lemma =>
        have H := HC30.out
        clear HC30
        replace H := Option.bind_eq_some_iff.mp H
        obtain ⟨t460, A340, H⟩ := H
        replace H : (if t460 = true then (if t459 = true then (if (t458 == t443) = true then (laws_FnAsOf.j1 kj6 l1 t438 t446 true t441 t442 t443 t444) else (laws_FnAsOf.j1 kj6 l1 t438 t446 (t457.toList != t444.toList) t441 t442 t443 t444)) else (laws_FnAsOf.j1 kj6 l1 t438 t446 true t441 t442 t443 t444)) else (laws_FnAsOf.j1 kj6 l1 t438 t446 true t441 t442 t443 t444)) = some r := H
        have A34 := Aside0.mk A340
        clear A340
        by_cases c35 : t460 = true
        ·subst c35
         have H1 : (if t459 = true then (if (t458 == t443) = true then (laws_FnAsOf.j1 kj6 l1 t438 t446 true t441 t442 t443 t444) else (laws_FnAsOf.j1 kj6 l1 t438 t446 (t457.toList != t444.toList) t441 t442 t443 t444)) else (laws_FnAsOf.j1 kj6 l1 t438 t446 true t441 t442 t443 t444)) = some r := by rw [if_pos rfl] at H; exact H
         clear H
         have H := H1
         clear H1
         by_cases c36 : t459 = true
         ·subst c36
          have H1 : (if (t458 == t443) = true then (laws_FnAsOf.j1 kj6 l1 t438 t446 true t441 t442 t443 t444) else (laws_FnAsOf.j1 kj6 l1 t438 t446 (t457.toList != t444.toList) t441 t442 t443 t444)) = some r := by rw [if_pos rfl] at H; exact H
          clear H
          have H := H1
          clear H1
          by_cases c37 : (t458 == t443) = true
          ·rw [if_pos c37] at H
           have c37b0 : (t458 == t443) = true := c37
           (try (have c37b1 : decide (t458 = t443) = true := by simpa using c37))
           (try (have c37b2 : (t458 == t443) = true := by simpa using c37))
           clear c37
           (first | rw [c37b0] | (simp only [i64_w, i32_w]; rw [c37b0]) | skip)
           exact absurd hrt (laws_FnAsOf.no_j1 _ _ _ _ _ _ _ _ H)
          ·rw [if_neg c37] at H
           have c37b0 : (t458 == t443) = false := by simpa using c37
           (try (have c37b1 : decide (t458 = t443) = false := by simpa using c37))
           (try (have c37b2 : (t458 == t443) = false := by simpa using c37))
           (try (have c37b3 : ¬ (t458 = t443) := by simpa using c37))
           clear c37
           (first | rw [c37b0] | (simp only [i64_w, i32_w]; rw [c37b0]) | skip)
           have H' := Aside0.mk H
           clear H
           go_wp2_with (first | ((with_reducible refine gate_callee (f := 33) rfl ?_); refine goesL_ (some 102) rfl rfl Try.func33 (by kernel_rfl) rfl #[.slice Ao32 t446.length co32] rfl (by (try simp only [List.map_toArray, List.map_cons, List.map_nil]); first | done | rfl | (simp only [List.length_drop, List.length_take]; rfl)) ?_; (with_reducible refine (impl_GoodVersions.calls kj6 _ _ t446 true _ ?side1 ?side2 A34.out).mono ?_); (case side1 => repeat (first | exact (Kd.R_reads' HO_7.out).2.2 | (with_reducible refine Kd.C_alloc ?_ _) | (with_reducible refine Kd.C_drewN ?_ _) | (with_reducible refine Kd.C_drew ?_))); (case side2 => exact (Kd.R_reads' HO_7.out).2.1); rintro e w40 ⟨rfl, hb⟩; refine ⟨_, rfl, ?_⟩; have n0_ := Aside0.mk (Kd.R_below (sq_r HO_5) hb); have n1_ := Aside0.mk (Kd.R_below (sq_r HO_7) hb); have n2_ := Aside0.mk (blk_below (g := gb445) (o := .cells #[.string t441, .int .i64 t442, .bool t443, .string t444] 48 (0, 0)) (sq_l BK445) hb); have n3_ := Aside0.mk (below_step (by repeat (first | (with_reducible first | exact HB.out | apply below_alloc | apply pw_below_drewN | apply below_drew1 | refine below_set ?_ GE445.out) | exact HB.out)) hb); clear HO_5; clear HO_7; clear BK445; clear HB; have HO_5 := n0_; have HO_7 := n1_; have BK445 := n2_; have HB := n3_; clear n0_ n1_ n2_ n3_; (try clear hb); (try clear hb2); (try clear hk); (try clear hi); have hcz41_0 : w40.cell? ⟨gb445, 0, none⟩ = some (.string t441) := (blk_cell BK445.out 0).trans rfl; have hcz41_1 : w40.cell? ⟨gb445, 1, none⟩ = some (.int .i64 t442) := (blk_cell BK445.out 1).trans rfl; have hcz41_2 : w40.cell? ⟨gb445, 2, none⟩ = some (.bool t443) := (blk_cell BK445.out 2).trans rfl; have hcz41_3 : w40.cell? ⟨gb445, 3, none⟩ = some (.string t444) := (blk_cell BK445.out 3).trans rfl; have hfz41_0 := blk_frozen BK445.out 0; have hfz41_1 := blk_frozen BK445.out 1; have hfz41_2 := blk_frozen BK445.out 2; have hfz41_3 := blk_frozen BK445.out 3))
           go_meet
           case rel => exact ⟨_, ((t457.toList != t444.toList)), sq_e, H', ⟨by have := HJ6.out; first | omega | exact Nat.le_refl _⟩, ⟨by (with_reducible repeat (first | apply Kd.R_alloc | apply Kd.R_drewN | apply Kd.R_drew)); exact HO_5.out⟩, ⟨by (with_reducible repeat (first | apply Kd.R_alloc | apply Kd.R_drewN | apply Kd.R_drew)); exact HO_7.out⟩, ⟨by (with_reducible repeat (first | refine blk_drewN ?_ _ | refine blk_drew ?_ | refine blk_alloc ?_ _)); exact BK445.out⟩, ⟨by repeat (first | (with_reducible first | exact HB.out | apply below_alloc | apply pw_below_drewN | apply below_drew1 | refine below_set ?_ GE445.out) | exact HB.out)⟩⟩
         ·replace c36 := Bool.eq_false_iff.mpr c36
          subst c36
          have H1 : (laws_FnAsOf.j1 kj6 l1 t438 t446 true t441 t442 t443 t444) = some r := by rw [if_neg (show ¬ (false = true) by decide)] at H; exact H
          clear H
          have H := H1
          clear H1
          exact absurd hrt (laws_FnAsOf.no_j1 _ _ _ _ _ _ _ _ H)
        ·replace c35 := Bool.eq_false_iff.mpr c35
         subst c35
         have H1 : (laws_FnAsOf.j1 kj6 l1 t438 t446 true t441 t442 t443 t444) = some r := by rw [if_neg (show ¬ (false = true) by decide)] at H; exact H
         clear H
         have H := H1
         clear H1
         exact absurd hrt (laws_FnAsOf.no_j1 _ _ _ _ _ _ _ _ H)
       case rest => as_aux_lemma =>
        clear HC30
        (try clear c1); (try clear c2); (try clear p2); (try clear c3); (try clear c3b0); (try clear c5); (try clear p6); (try clear c15); (try clear c15b0); (try clear c15b1); (try clear c15b2); (try clear c17); (try clear c24); (try clear c26); (try clear c27); (try clear c28); (try clear c31); (try clear c33); (try clear c35); (try clear c36); (try clear c37); (try clear c37b0); (try clear c37b1)
        (try clear c37b2); (try clear hcz10_0); (try clear hcz10_1); (try clear hcz10_2); (try clear hcz10_3); (try clear hcz13_0); (try clear hcz13_1); (try clear hcz13_2); (try clear hcz13_3); (try clear hcz31_0); (try clear hcz31_1); (try clear hcz31_2); (try clear hcz31_3); (try clear hcz39_0); (try clear hcz39_1); (try clear hcz39_2); (try clear hcz39_3); (try clear hcz41_0); (try clear hcz41_1)
        (try clear hcz41_2); (try clear hcz41_3); (try clear hfz10_0); (try clear hfz10_1); (try clear hfz10_2); (try clear hfz10_3); (try clear hfz13_0); (try clear hfz13_1); (try clear hfz13_2); (try clear hfz13_3); (try clear hfz31_0); (try clear hfz31_1); (try clear hfz31_2); (try clear hfz31_3); (try clear hfz39_0); (try clear hfz39_1); (try clear hfz39_2); (try clear hfz39_3); (try clear hfz41_0)
        (try clear hfz41_1); (try clear hfz41_2); (try clear hfz41_3); (try clear p2); (try clear p6)
        obtain ⟨kq, x119_29, rfl, HA, HJ29, HO_5, HO_7, BK445, HB⟩ := hcut
        cases kq with
        | zero => exact absurd HA.out (by simp [laws_FnAsOf.j1])
        | succ kj29 =>
         have H := HA.out
         clear HA
         simp only [laws_FnAsOf.j1] at H
         by_cases c44 : x119_29 = true
         ·subst c44
          have H1 : (some false) = some r := by rw [if_pos rfl] at H; exact H
          clear H
          have H := H1
          clear H1
          obtain rfl := Option.some.inj H
          cases hrt
         ·replace c44 := Bool.eq_false_iff.mpr c44
          subst c44
          have H1 : (laws_FnAsOf.l0 kj29 l1 t438 t446 0 t441 t442 t443 t444) = some r := by rw [if_neg (show ¬ (false = true) by decide)] at H; exact H
          clear H
          have H := H1
          clear H1
          have H' := Aside0.mk H
          clear H
          go_wp2
          go_loopg [14] kj29 (fun kq v14 w' => ∃ (x14_3 : Int), v14 = .int .i64 x14_3 ∧ Aside0 (laws_FnAsOf.l0 kq l1 t438 t446 x14_3 t441 t442 t443 t444 = some r) ∧ Aside0 (kq ≤ kj29) ∧ Aside0 (Kd.R k48 48 w' w.heap.size (fun k_ => some k_ ≠ ((.slice Ao32 t446.length co32) : Value).ownBlock ∧ k_ ≠ gb445) (.slice Ao11 t438.length co11) t438) ∧ Aside0 (Kd.R k48 48 w' w.heap.size (fun k_ => some k_ ≠ ((.slice Ao11 t438.length co11) : Value).ownBlock ∧ k_ ≠ gb445) (.slice Ao32 t446.length co32) t446) ∧ Aside0 (w'.heap[gb445]? = some (.cells #[.string t441, .int .i64 t442, .bool t443, .string t444] 48 (0, 0))) ∧ Aside0 (Below w.heap.size w w'))
          case atStart => exact ⟨(0), sq_e, H', ⟨Nat.le_refl _⟩, ⟨by (with_reducible repeat (first | apply Kd.R_alloc | apply Kd.R_drewN | apply Kd.R_drew)); exact HO_5.out⟩, ⟨by (with_reducible repeat (first | apply Kd.R_alloc | apply Kd.R_drewN | apply Kd.R_drew)); exact HO_7.out⟩, ⟨by (with_reducible repeat (first | refine blk_drewN ?_ _ | refine blk_drew ?_ | refine blk_alloc ?_ _)); exact BK445.out⟩, ⟨by repeat (first | (with_reducible first | exact HB.out | apply below_alloc | apply pw_below_drewN | apply below_drew1 | refine below_set ?_ GE445.out) | exact HB.out)⟩⟩
          case round => as_aux_lemma =>
           clear H'
           (try clear c1); (try clear c2); (try clear p2); (try clear c3); (try clear c3b0); (try clear c4); (try clear c5); (try clear p6); (try clear c15); (try clear c15b0); (try clear c15b1); (try clear c15b2); (try clear c17); (try clear c24); (try clear c26); (try clear c27); (try clear c28); (try clear c31); (try clear c33); (try clear c35); (try clear c36); (try clear c37); (try clear c37b0)
           (try clear c37b1); (try clear c37b2); (try clear c44); (try clear hcz10_0); (try clear hcz10_1); (try clear hcz10_2); (try clear hcz10_3); (try clear hcz13_0); (try clear hcz13_1); (try clear hcz13_2); (try clear hcz13_3); (try clear hcz31_0); (try clear hcz31_1); (try clear hcz31_2); (try clear hcz31_3); (try clear hcz39_0); (try clear hcz39_1); (try clear hcz39_2); (try clear hcz39_3)
           (try clear hcz41_0); (try clear hcz41_1); (try clear hcz41_2); (try clear hcz41_3); (try clear hfz10_0); (try clear hfz10_1); (try clear hfz10_2); (try clear hfz10_3); (try clear hfz13_0); (try clear hfz13_1); (try clear hfz13_2); (try clear hfz13_3); (try clear hfz31_0); (try clear hfz31_1); (try clear hfz31_2); (try clear hfz31_3); (try clear hfz39_0); (try clear hfz39_1); (try clear hfz39_2)
           (try clear hfz39_3); (try clear hfz41_0); (try clear hfz41_1); (try clear hfz41_2); (try clear hfz41_3); (try clear p2); (try clear p6)
           obtain ⟨x14_3, rfl, HA, HK3, HO_5, HO_7, BK445, HB⟩ := hrel
           cases gk with
           | zero => exact absurd HA.out (by simp [laws_FnAsOf.l0])
           | succ k3 =>
            have H := HA.out
            clear HA
            simp only [laws_FnAsOf.l0] at H
            have HC45 := Aside0.mk H
            clear H
            go_upto_region 13 with (fail)
            go_cut [127] (fun v127 wc => ∃ (kq : Nat) (x127_44 : Bool), v127 = .bool x127_44 ∧ Aside0 (laws_FnAsOf.j3 kq l1 t438 t446 x14_3 x127_44 t441 t442 t443 t444 = some r) ∧ Aside0 (kq ≤ k3) ∧ Aside0 (Kd.R k48 48 wc w.heap.size (fun k_ => some k_ ≠ ((.slice Ao32 t446.length co32) : Value).ownBlock ∧ k_ ≠ gb445) (.slice Ao11 t438.length co11) t438) ∧ Aside0 (Kd.R k48 48 wc w.heap.size (fun k_ => some k_ ≠ ((.slice Ao11 t438.length co11) : Value).ownBlock ∧ k_ ≠ gb445) (.slice Ao32 t446.length co32) t446) ∧ Aside0 (wc.heap[gb445]? = some (.cells #[.string t441, .int .i64 t442, .bool t443, .string t444] 48 (0, 0))) ∧ Aside0 (Below w.heap.size w wc))
            case first => as_aux_lemma =>
             have H := HC45.out
             clear HC45
             by_cases c46 : x14_3 < t442
             ·rw [if_pos c46] at H
              have c46b0 : decide (x14_3 < t442) = true := decide_eq_true c46
              clear c46
              (first | rw [c46b0] | (simp only [i64_w, i32_w]; rw [c46b0]) | skip)
              have H' := Aside0.mk H
              clear H
              have hcz47_0 : wr.cell? ⟨gb445, 0, none⟩ = some (.string t441) := (blk_cell BK445.out 0).trans rfl
              have hcz47_1 : wr.cell? ⟨gb445, 1, none⟩ = some (.int .i64 t442) := (blk_cell BK445.out 1).trans rfl
              have hcz47_2 : wr.cell? ⟨gb445, 2, none⟩ = some (.bool t443) := (blk_cell BK445.out 2).trans rfl
              have hcz47_3 : wr.cell? ⟨gb445, 3, none⟩ = some (.string t444) := (blk_cell BK445.out 3).trans rfl
              have hfz47_0 := blk_frozen BK445.out 0
              have hfz47_1 := blk_frozen BK445.out 1
              have hfz47_2 := blk_frozen BK445.out 2
              have hfz47_3 := blk_frozen BK445.out 3
              go_wp2
              go_meet
              case rel => exact ⟨_, (decide (x14_3 < 40)), sq_e, H', ⟨by have := HJ6.out; have := HJ29.out; have := HK3.out; first | omega | exact Nat.le_refl _⟩, ⟨by (with_reducible repeat (first | apply Kd.R_alloc | apply Kd.R_drewN | apply Kd.R_drew)); exact HO_5.out⟩, ⟨by (with_reducible repeat (first | apply Kd.R_alloc | apply Kd.R_drewN | apply Kd.R_drew)); exact HO_7.out⟩, ⟨by (with_reducible repeat (first | refine blk_drewN ?_ _ | refine blk_drew ?_ | refine blk_alloc ?_ _)); exact BK445.out⟩, ⟨by repeat (first | (with_reducible first | exact HB.out | apply below_alloc | apply pw_below_drewN | apply below_drew1 | refine below_set ?_ GE445.out) | exact HB.out)⟩⟩
             ·rw [if_neg c46] at H
              have c46b0 : decide (x14_3 < t442) = false := decide_eq_false c46
              clear c46
              (first | rw [c46b0] | (simp only [i64_w, i32_w]; rw [c46b0]) | skip)
              have H' := Aside0.mk H
              clear H
              have hcz48_0 : wr.cell? ⟨gb445, 0, none⟩ = some (.string t441) := (blk_cell BK445.out 0).trans rfl
              have hcz48_1 : wr.cell? ⟨gb445, 1, none⟩ = some (.int .i64 t442) := (blk_cell BK445.out 1).trans rfl
              have hcz48_2 : wr.cell? ⟨gb445, 2, none⟩ = some (.bool t443) := (blk_cell BK445.out 2).trans rfl
              have hcz48_3 : wr.cell? ⟨gb445, 3, none⟩ = some (.string t444) := (blk_cell BK445.out 3).trans rfl
              have hfz48_0 := blk_frozen BK445.out 0
              have hfz48_1 := blk_frozen BK445.out 1
              have hfz48_2 := blk_frozen BK445.out 2
              have hfz48_3 := blk_frozen BK445.out 3
              go_wp2
              go_meet
              case rel => exact ⟨_, (false), sq_e, H', ⟨by have := HJ6.out; have := HJ29.out; have := HK3.out; first | omega | exact Nat.le_refl _⟩, ⟨by (with_reducible repeat (first | apply Kd.R_alloc | apply Kd.R_drewN | apply Kd.R_drew)); exact HO_5.out⟩, ⟨by (with_reducible repeat (first | apply Kd.R_alloc | apply Kd.R_drewN | apply Kd.R_drew)); exact HO_7.out⟩, ⟨by (with_reducible repeat (first | refine blk_drewN ?_ _ | refine blk_drew ?_ | refine blk_alloc ?_ _)); exact BK445.out⟩, ⟨by repeat (first | (with_reducible first | exact HB.out | apply below_alloc | apply pw_below_drewN | apply below_drew1 | refine below_set ?_ GE445.out) | exact HB.out)⟩⟩
            case rest => as_aux_lemma =>
             clear HC45
             (try clear c1); (try clear c2); (try clear p2); (try clear c3); (try clear c3b0); (try clear c4); (try clear c5); (try clear p6); (try clear c15); (try clear c15b0); (try clear c15b1); (try clear c15b2); (try clear c17); (try clear c24); (try clear c26); (try clear c27); (try clear c28); (try clear c31); (try clear c33); (try clear c35); (try clear c36); (try clear c37); (try clear c37b0)
             (try clear c37b1); (try clear c37b2); (try clear c44); (try clear c46); (try clear c46b0); (try clear hcz10_0); (try clear hcz10_1); (try clear hcz10_2); (try clear hcz10_3); (try clear hcz13_0); (try clear hcz13_1); (try clear hcz13_2); (try clear hcz13_3); (try clear hcz31_0); (try clear hcz31_1); (try clear hcz31_2); (try clear hcz31_3); (try clear hcz39_0); (try clear hcz39_1); (try clear hcz39_2)
             (try clear hcz39_3); (try clear hcz41_0); (try clear hcz41_1); (try clear hcz41_2); (try clear hcz41_3); (try clear hcz47_0); (try clear hcz47_1); (try clear hcz47_2); (try clear hcz47_3); (try clear hcz48_0); (try clear hcz48_1); (try clear hcz48_2); (try clear hcz48_3); (try clear hfz10_0); (try clear hfz10_1); (try clear hfz10_2); (try clear hfz10_3); (try clear hfz13_0); (try clear hfz13_1)
             (try clear hfz13_2); (try clear hfz13_3); (try clear hfz31_0); (try clear hfz31_1); (try clear hfz31_2); (try clear hfz31_3); (try clear hfz39_0); (try clear hfz39_1); (try clear hfz39_2); (try clear hfz39_3); (try clear hfz41_0); (try clear hfz41_1); (try clear hfz41_2); (try clear hfz41_3); (try clear hfz47_0); (try clear hfz47_1); (try clear hfz47_2); (try clear hfz47_3); (try clear hfz48_0)
             (try clear hfz48_1); (try clear hfz48_2); (try clear hfz48_3); (try clear p2); (try clear p6)
             obtain ⟨kq, x127_44, rfl, HA, HJ44, HO_5, HO_7, BK445, HB⟩ := hcut
             cases kq with
             | zero => exact absurd HA.out (by simp [laws_FnAsOf.j3])
             | succ kj44 =>
              have H := HA.out
              clear HA
              simp only [laws_FnAsOf.j3] at H
              by_cases c49 : x127_44 = true
              ·subst c49
               have H1 : ((impl_AsOf.f kj44 t438 t441 x14_3).bind fun bt461 => ((impl_AsOf.f kj44 t446 t441 x14_3).bind fun bt464 => (if bt461.2.2 = true then (if bt464.2.2 = true then (if bt461.1.toList = bt464.1.toList then (if (bt461.2.1 != bt464.2.1) = true then (some false) else (laws_FnAsOf.l0 kj44 l1 t438 t446 (wrap64 (x14_3 + 1)) t441 t442 t443 t444)) else (some false)) else (some false)) else (some false)))) = some r := by rw [if_pos rfl] at H; exact H
               clear H
               have H := H1
               clear H1
               replace H := Option.bind_eq_some_iff.mp H
               obtain ⟨⟨t461, t462, t463⟩, A500, H⟩ := H
               replace H : ((impl_AsOf.f kj44 t446 t441 x14_3).bind fun bt464 => (if t463 = true then (if bt464.2.2 = true then (if t461.toList = bt464.1.toList then (if (t462 != bt464.2.1) = true then (some false) else (laws_FnAsOf.l0 kj44 l1 t438 t446 (wrap64 (x14_3 + 1)) t441 t442 t443 t444)) else (some false)) else (some false)) else (some false))) = some r := H
               have A50 := Aside0.mk A500
               clear A500
               replace H := Option.bind_eq_some_iff.mp H
               obtain ⟨⟨t464, t465, t466⟩, A510, H⟩ := H
               replace H : (if t463 = true then (if t466 = true then (if t461.toList = t464.toList then (if (t462 != t465) = true then (some false) else (laws_FnAsOf.l0 kj44 l1 t438 t446 (wrap64 (x14_3 + 1)) t441 t442 t443 t444)) else (some false)) else (some false)) else (some false)) = some r := H
               have A51 := Aside0.mk A510
               clear A510
               by_cases c52 : t463 = true
               ·subst c52
                have H1 : (if t466 = true then (if t461.toList = t464.toList then (if (t462 != t465) = true then (some false) else (laws_FnAsOf.l0 kj44 l1 t438 t446 (wrap64 (x14_3 + 1)) t441 t442 t443 t444)) else (some false)) else (some false)) = some r := by rw [if_pos rfl] at H; exact H
                clear H
                have H := H1
                clear H1
                by_cases c53 : t466 = true
                ·subst c53
                 have H1 : (if t461.toList = t464.toList then (if (t462 != t465) = true then (some false) else (laws_FnAsOf.l0 kj44 l1 t438 t446 (wrap64 (x14_3 + 1)) t441 t442 t443 t444)) else (some false)) = some r := by rw [if_pos rfl] at H; exact H
                 clear H
                 have H := H1
                 clear H1
                 by_cases c54 : t461.toList = t464.toList
                 ·rw [if_pos c54] at H
                  have c54b0 : (t461.toList == t464.toList) = true := beq_iff_eq.mpr c54
                  have c54b1 : (t461.toList != t464.toList) = false := bne_eq_false_iff_eq.mpr c54
                  clear c54
                  by_cases c55 : (t462 != t465) = true
                  ·rw [if_pos c55] at H
                   have c55b0 : (t462 != t465) = true := c55
                   (try (have c55b1 : decide (t462 = t465) = false := by simpa using c55))
                   (try (have c55b2 : (t462 == t465) = false := by simpa using c55))
                   (try (have c55b3 : ¬ (t462 = t465) := by simpa using c55))
                   clear c55
                   obtain rfl := Option.some.inj H
                   cases hrt
                  ·rw [if_neg c55] at H
                   have c55b0 : (t462 != t465) = false := by simpa using c55
                   (try (have c55b1 : decide (t462 = t465) = true := by simpa using c55))
                   (try (have c55b2 : (t462 == t465) = true := by simpa using c55))
                   clear c55
                   have H' := Aside0.mk H
                   clear H
                   have hcz60_0 : wc.cell? ⟨gb445, 0, none⟩ = some (.string t441) := (blk_cell BK445.out 0).trans rfl
                   have hcz60_1 : wc.cell? ⟨gb445, 1, none⟩ = some (.int .i64 t442) := (blk_cell BK445.out 1).trans rfl
                   have hcz60_2 : wc.cell? ⟨gb445, 2, none⟩ = some (.bool t443) := (blk_cell BK445.out 2).trans rfl
                   have hcz60_3 : wc.cell? ⟨gb445, 3, none⟩ = some (.string t444) := (blk_cell BK445.out 3).trans rfl
                   have hfz60_0 := blk_frozen BK445.out 0
                   have hfz60_1 := blk_frozen BK445.out 1
                   have hfz60_2 := blk_frozen BK445.out 2
                   have hfz60_3 := blk_frozen BK445.out 3
                   go_wp2_with (first | ((with_reducible refine gate_callee (f := 35) rfl ?_); refine goesL_ (some 135) rfl rfl Try.func35 (by kernel_rfl) rfl #[.slice Ao11 t438.length co11, .string t441, .int .i64 x14_3] rfl (by (try simp only [List.map_toArray, List.map_cons, List.map_nil]); first | done | rfl | (simp only [List.length_drop, List.length_take]; rfl)) ?_; (with_reducible refine (impl_AsOf.calls kj44 _ _ t438 t441 x14_3 t461 t462 true _ ?side1 ?side2 A50.out).mono ?_); (case side1 => repeat (first | exact (Kd.R_reads' HO_5.out).2.2 | (with_reducible refine Kd.C_alloc ?_ _) | (with_reducible refine Kd.C_drewN ?_ _) | (with_reducible refine Kd.C_drew ?_))); (case side2 => exact (Kd.R_reads' HO_5.out).2.1); rintro e w61 ⟨rfl, hb⟩; refine ⟨_, rfl, ?_⟩; have n0_ := Aside0.mk (Kd.R_below (sq_r HO_5) hb); have n1_ := Aside0.mk (Kd.R_below (sq_r HO_7) hb); have n2_ := Aside0.mk (blk_below (g := gb445) (o := .cells #[.string t441, .int .i64 t442, .bool t443, .string t444] 48 (0, 0)) (sq_l BK445) hb); have n3_ := Aside0.mk (below_step (by repeat (first | (with_reducible first | exact HB.out | apply below_alloc | apply pw_below_drewN | apply below_drew1 | refine below_set ?_ GE445.out) | exact HB.out)) hb); clear HO_5; clear HO_7; clear BK445; clear HB; have HO_5 := n0_; have HO_7 := n1_; have BK445 := n2_; have HB := n3_; clear n0_ n1_ n2_ n3_; (try clear hb); (try clear hb2); (try clear hk); (try clear hi); have hcz62_0 : w61.cell? ⟨gb445, 0, none⟩ = some (.string t441) := (blk_cell BK445.out 0).trans rfl; have hcz62_1 : w61.cell? ⟨gb445, 1, none⟩ = some (.int .i64 t442) := (blk_cell BK445.out 1).trans rfl; have hcz62_2 : w61.cell? ⟨gb445, 2, none⟩ = some (.bool t443) := (blk_cell BK445.out 2).trans rfl; have hcz62_3 : w61.cell? ⟨gb445, 3, none⟩ = some (.string t444) := (blk_cell BK445.out 3).trans rfl; have hfz62_0 := blk_frozen BK445.out 0; have hfz62_1 := blk_frozen BK445.out 1; have hfz62_2 := blk_frozen BK445.out 2; have hfz62_3 := blk_frozen BK445.out 3) | ((with_reducible refine gate_callee (f := 35) rfl ?_); refine goesL_ (some 144) rfl rfl Try.func35 (by kernel_rfl) rfl #[.slice Ao32 t446.length co32, .string t441, .int .i64 x14_3] rfl (by (try simp only [List.map_toArray, List.map_cons, List.map_nil]); first | done | rfl | (simp only [List.length_drop, List.length_take]; rfl)) ?_; (with_reducible refine (impl_AsOf.calls kj44 _ _ t446 t441 x14_3 t464 t465 true _ ?side1 ?side2 A51.out).mono ?_); (case side1 => repeat (first | exact (Kd.R_reads' HO_7.out).2.2 | (with_reducible refine Kd.C_alloc ?_ _) | (with_reducible refine Kd.C_drewN ?_ _) | (with_reducible refine Kd.C_drew ?_))); (case side2 => exact (Kd.R_reads' HO_7.out).2.1); rintro e w63 ⟨rfl, hb⟩; refine ⟨_, rfl, ?_⟩; have n0_ := Aside0.mk (Kd.R_below (sq_r HO_5) hb); have n1_ := Aside0.mk (Kd.R_below (sq_r HO_7) hb); have n2_ := Aside0.mk (blk_below (g := gb445) (o := .cells #[.string t441, .int .i64 t442, .bool t443, .string t444] 48 (0, 0)) (sq_l BK445) hb); have n3_ := Aside0.mk (below_step (by repeat (first | (with_reducible first | exact HB.out | apply below_alloc | apply pw_below_drewN | apply below_drew1 | refine below_set ?_ GE445.out) | exact HB.out)) hb); clear HO_5; clear HO_7; clear BK445; clear HB; have HO_5 := n0_; have HO_7 := n1_; have BK445 := n2_; have HB := n3_; clear n0_ n1_ n2_ n3_; (try clear hb); (try clear hb2); (try clear hk); (try clear hi)))
                   go_roundg kj44
                   case measure => have := HJ6.out; have := HJ29.out; have := HK3.out; have := HJ44.out; omega
                   case rel => exact ⟨(wrap64 (x14_3 + 1)), sq_e, H', ⟨by have := HJ6.out; have := HJ29.out; have := HK3.out; have := HJ44.out; omega⟩, ⟨by (with_reducible repeat (first | apply Kd.R_alloc | apply Kd.R_drewN | apply Kd.R_drew)); exact HO_5.out⟩, ⟨by (with_reducible repeat (first | apply Kd.R_alloc | apply Kd.R_drewN | apply Kd.R_drew)); exact HO_7.out⟩, ⟨by (with_reducible repeat (first | refine blk_drewN ?_ _ | refine blk_drew ?_ | refine blk_alloc ?_ _)); exact BK445.out⟩, ⟨by repeat (first | (with_reducible first | exact HB.out | apply below_alloc | apply pw_below_drewN | apply below_drew1 | refine below_set ?_ GE445.out) | exact HB.out)⟩⟩
                 ·rw [if_neg c54] at H
                  have c54b0 : (t461.toList == t464.toList) = false := beq_eq_false_iff_ne.mpr c54
                  have c54b1 : (t461.toList != t464.toList) = true := bne_iff_ne.mpr c54
                  obtain rfl := Option.some.inj H
                  cases hrt
                ·replace c53 := Bool.eq_false_iff.mpr c53
                 subst c53
                 have H1 : (some false) = some r := by rw [if_neg (show ¬ (false = true) by decide)] at H; exact H
                 clear H
                 have H := H1
                 clear H1
                 obtain rfl := Option.some.inj H
                 cases hrt
               ·replace c52 := Bool.eq_false_iff.mpr c52
                subst c52
                have H1 : (some false) = some r := by rw [if_neg (show ¬ (false = true) by decide)] at H; exact H
                clear H
                have H := H1
                clear H1
                obtain rfl := Option.some.inj H
                cases hrt
              ·replace c49 := Bool.eq_false_iff.mpr c49
               subst c49
               have H1 : ((impl_HistoryOf.f kj44 t446 t441).bind fun bt467 => ((impl_HistoryOf.f kj44 t438 t441).bind fun bt471 => (if bt467.2 = true then (if bt471.2 = true then (if (bt467.1.length : Int) = (wrap64 ((bt471.1.length : Int) + 1)) then (laws_FnAsOf.j4 kj44 l1) else (some false)) else (some false)) else (some false)))) = some r := by rw [if_neg (show ¬ (false = true) by decide)] at H; exact H
               clear H
               have H := H1
               clear H1
               replace H := Option.bind_eq_some_iff.mp H
               obtain ⟨⟨t467, t468⟩, A760, H⟩ := H
               replace H : ((impl_HistoryOf.f kj44 t438 t441).bind fun bt471 => (if t468 = true then (if bt471.2 = true then (if (t467.length : Int) = (wrap64 ((bt471.1.length : Int) + 1)) then (laws_FnAsOf.j4 kj44 l1) else (some false)) else (some false)) else (some false))) = some r := H
               have A76 := Aside0.mk A760
               clear A760
               replace H := Option.bind_eq_some_iff.mp H
               obtain ⟨⟨t471, t472⟩, A770, H⟩ := H
               replace H : (if t468 = true then (if t472 = true then (if (t467.length : Int) = (wrap64 ((t471.length : Int) + 1)) then (laws_FnAsOf.j4 kj44 l1) else (some false)) else (some false)) else (some false)) = some r := H
               have A77 := Aside0.mk A770
               clear A770
               by_cases c78 : t468 = true
               ·subst c78
                have H1 : (if t472 = true then (if (t467.length : Int) = (wrap64 ((t471.length : Int) + 1)) then (laws_FnAsOf.j4 kj44 l1) else (some false)) else (some false)) = some r := by rw [if_pos rfl] at H; exact H
                clear H
                have H := H1
                clear H1
                by_cases c79 : t472 = true
                ·subst c79
                 have H1 : (if (t467.length : Int) = (wrap64 ((t471.length : Int) + 1)) then (laws_FnAsOf.j4 kj44 l1) else (some false)) = some r := by rw [if_pos rfl] at H; exact H
                 clear H
                 have H := H1
                 clear H1
                 by_cases c80 : (t467.length : Int) = (wrap64 ((t471.length : Int) + 1))
                 ·rw [if_pos c80] at H
                  have c80b0 : ((t467.length : Int) == (wrap64 ((t471.length : Int) + 1))) = true := beq_iff_eq.mpr c80
                  have c80b1 : ((t467.length : Int) != (wrap64 ((t471.length : Int) + 1))) = false := bne_eq_false_iff_eq.mpr c80
                  clear c80
                  have H' := Aside0.mk H
                  clear H
                  have hcz81_0 : wc.cell? ⟨gb445, 0, none⟩ = some (.string t441) := (blk_cell BK445.out 0).trans rfl
                  have hcz81_1 : wc.cell? ⟨gb445, 1, none⟩ = some (.int .i64 t442) := (blk_cell BK445.out 1).trans rfl
                  have hcz81_2 : wc.cell? ⟨gb445, 2, none⟩ = some (.bool t443) := (blk_cell BK445.out 2).trans rfl
                  have hcz81_3 : wc.cell? ⟨gb445, 3, none⟩ = some (.string t444) := (blk_cell BK445.out 3).trans rfl
                  have hfz81_0 := blk_frozen BK445.out 0
                  have hfz81_1 := blk_frozen BK445.out 1
                  have hfz81_2 := blk_frozen BK445.out 2
                  have hfz81_3 := blk_frozen BK445.out 3
                  go_wp2_with (first | ((with_reducible refine gate_callee (f := 36) rfl ?_); refine goesL_ (some 168) rfl rfl Try.func36 (by kernel_rfl) rfl #[.slice Ao32 t446.length co32, .string t441] rfl (by (try simp only [List.map_toArray, List.map_cons, List.map_nil]); first | done | rfl | (simp only [List.length_drop, List.length_take]; rfl)) ?_; (with_reducible refine (impl_HistoryOf.calls kj44 _ _ t446 t441 t467 true _ ?side1 ?side2 A76.out).mono ?_); (case side1 => repeat (first | exact (Kd.R_reads' HO_7.out).2.2 | (with_reducible refine Kd.C_alloc ?_ _) | (with_reducible refine Kd.C_drewN ?_ _) | (with_reducible refine Kd.C_drew ?_))); (case side2 => exact (Kd.R_reads' HO_7.out).2.1); rintro e w82 ⟨v469, rfl, ho0, hb⟩; refine ⟨_, rfl, ?_⟩; have n0_ := Aside0.mk (Kd.R_elder' (sq_r HO_5) (Kd.R_base ho0) hb); have n1_ := Aside0.mk (Kd.R_elder' (sq_r HO_7) (Kd.R_base ho0) hb); have n2_ := Aside0.mk (Kd.R_lower (Kd.R_newB (Kd.R_new' (Kd.R_new' ho0 (Kd.R_lt (sq_r HO_5))) (Kd.R_lt (sq_r HO_7))) (g := gb445) (o := .cells #[.string t441, .int .i64 t442, .bool t443, .string t444] 48 (0, 0)) (sq_l BK445)) (below_size (by repeat (first | (with_reducible first | exact HB.out | apply below_alloc | apply pw_below_drewN | apply below_drew1 | refine below_set ?_ GE445.out) | exact HB.out)))); have n3_ := Aside0.mk (blk_below (g := gb445) (o := .cells #[.string t441, .int .i64 t442, .bool t443, .string t444] 48 (0, 0)) (sq_l BK445) hb); have n4_ := Aside0.mk (below_step (by repeat (first | (with_reducible first | exact HB.out | apply below_alloc | apply pw_below_drewN | apply below_drew1 | refine below_set ?_ GE445.out) | exact HB.out)) hb); clear HO_5; clear HO_7; clear BK445; clear HB; have HO_5 := n0_; have HO_7 := n1_; have HO470 := n2_; have BK445 := n3_; have HB := n4_; clear n0_ n1_ n2_ n3_ n4_; (try clear hb); (try clear hb2); (try clear hk); (try clear hi); (try clear ho0); have hcz83_0 : w82.cell? ⟨gb445, 0, none⟩ = some (.string t441) := (blk_cell BK445.out 0).trans rfl; have hcz83_1 : w82.cell? ⟨gb445, 1, none⟩ = some (.int .i64 t442) := (blk_cell BK445.out 1).trans rfl; have hcz83_2 : w82.cell? ⟨gb445, 2, none⟩ = some (.bool t443) := (blk_cell BK445.out 2).trans rfl; have hcz83_3 : w82.cell? ⟨gb445, 3, none⟩ = some (.string t444) := (blk_cell BK445.out 3).trans rfl; have hfz83_0 := blk_frozen BK445.out 0; have hfz83_1 := blk_frozen BK445.out 1; have hfz83_2 := blk_frozen BK445.out 2; have hfz83_3 := blk_frozen BK445.out 3) | ((with_reducible refine gate_callee (f := 36) rfl ?_); refine goesL_ (some 175) rfl rfl Try.func36 (by kernel_rfl) rfl #[.slice Ao11 t438.length co11, .string t441] rfl (by (try simp only [List.map_toArray, List.map_cons, List.map_nil]); first | done | rfl | (simp only [List.length_drop, List.length_take]; rfl)) ?_; (with_reducible refine (impl_HistoryOf.calls kj44 _ _ t438 t441 t471 true _ ?side1 ?side2 A77.out).mono ?_); (case side1 => repeat (first | exact (Kd.R_reads' HO_5.out).2.2 | (with_reducible refine Kd.C_alloc ?_ _) | (with_reducible refine Kd.C_drewN ?_ _) | (with_reducible refine Kd.C_drew ?_))); (case side2 => exact (Kd.R_reads' HO_5.out).2.1); rintro e w84 ⟨v473, rfl, ho0, hb⟩; refine ⟨_, rfl, ?_⟩; have n0_ := Aside0.mk (Kd.R_elder' (sq_r HO_5) (Kd.R_base ho0) hb); have n1_ := Aside0.mk (Kd.R_elder' (sq_r HO_7) (Kd.R_base ho0) hb); have n2_ := Aside0.mk (Kd.R_elder' (sq_r HO470) (Kd.R_base ho0) hb); have n3_ := Aside0.mk (Kd.R_lower (Kd.R_newB (Kd.R_new' (Kd.R_new' (Kd.R_new' ho0 (Kd.R_lt (sq_r HO_5))) (Kd.R_lt (sq_r HO_7))) (Kd.R_lt (sq_r HO470))) (g := gb445) (o := .cells #[.string t441, .int .i64 t442, .bool t443, .string t444] 48 (0, 0)) (sq_l BK445)) (below_size (by repeat (first | (with_reducible first | exact HB.out | apply below_alloc | apply pw_below_drewN | apply below_drew1 | refine below_set ?_ GE445.out) | exact HB.out)))); have n4_ := Aside0.mk (blk_below (g := gb445) (o := .cells #[.string t441, .int .i64 t442, .bool t443, .string t444] 48 (0, 0)) (sq_l BK445) hb); have n5_ := Aside0.mk (below_step (by repeat (first | (with_reducible first | exact HB.out | apply below_alloc | apply pw_below_drewN | apply below_drew1 | refine below_set ?_ GE445.out) | exact HB.out)) hb); clear HO_5; clear HO_7; clear HO470; clear BK445; clear HB; have HO_5 := n0_; have HO_7 := n1_; have HO470 := n2_; have HO474 := n3_; have BK445 := n4_; have HB := n5_; clear n0_ n1_ n2_ n3_ n4_ n5_; (try clear hb); (try clear hb2); (try clear hk); (try clear hi); (try clear ho0); obtain ⟨Ao85, co85, eo85⟩ := Kd.R_slice HO470.out; subst eo85; obtain ⟨Ao86, co86, eo86⟩ := Kd.R_slice HO474.out; subst eo86))
                  go_meet
                  case rel => exact ⟨_, H', ⟨by have := HJ6.out; have := HJ29.out; have := HK3.out; have := HJ44.out; first | omega | exact Nat.le_refl _⟩, ⟨by (with_reducible repeat (first | refine blk_drewN ?_ _ | refine blk_drew ?_ | refine blk_alloc ?_ _)); exact BK445.out⟩, ⟨by repeat (first | (with_reducible first | exact HB.out | apply below_alloc | apply pw_below_drewN | apply below_drew1 | refine below_set ?_ GE445.out) | exact HB.out)⟩⟩
                 ·rw [if_neg c80] at H
                  have c80b0 : ((t467.length : Int) == (wrap64 ((t471.length : Int) + 1))) = false := beq_eq_false_iff_ne.mpr c80
                  have c80b1 : ((t467.length : Int) != (wrap64 ((t471.length : Int) + 1))) = true := bne_iff_ne.mpr c80
                  obtain rfl := Option.some.inj H
                  cases hrt
                ·replace c79 := Bool.eq_false_iff.mpr c79
                 subst c79
                 have H1 : (some false) = some r := by rw [if_neg (show ¬ (false = true) by decide)] at H; exact H
                 clear H
                 have H := H1
                 clear H1
                 obtain rfl := Option.some.inj H
                 cases hrt
               ·replace c78 := Bool.eq_false_iff.mpr c78
                subst c78
                have H1 : (some false) = some r := by rw [if_neg (show ¬ (false = true) by decide)] at H; exact H
                clear H
                have H := H1
                clear H1
                obtain rfl := Option.some.inj H
                cases hrt
      ·replace c28 := Bool.eq_false_iff.mpr c28
       subst c28
       have H1 : (laws_FnAsOf.j4 kj6 l1) = some r := by rw [if_neg (show ¬ (false = true) by decide)] at H; exact H
       clear H
       have H := H1
       clear H1
       have H' := Aside0.mk H
       clear H
       go_wp2
       go_meet
       case rel => exact ⟨_, H', ⟨by have := HJ6.out; first | omega | exact Nat.le_refl _⟩, ⟨by (with_reducible repeat (first | refine blk_drewN ?_ _ | refine blk_drew ?_ | refine blk_alloc ?_ _)); exact BK445.out⟩, ⟨by repeat (first | (with_reducible first | exact HB.out | apply below_alloc | apply pw_below_drewN | apply below_drew1 | refine below_set ?_ GE445.out) | exact HB.out)⟩⟩
     case rest => as_aux_lemma =>
      clear HC27
      (try clear c1); (try clear c2); (try clear p2); (try clear c3); (try clear c3b0); (try clear c4); (try clear c5); (try clear p6); (try clear c7); (try clear c8); (try clear c15); (try clear c15b0); (try clear c15b1); (try clear c15b2); (try clear c17); (try clear c24); (try clear c26); (try clear c27); (try clear c28); (try clear c31); (try clear c33); (try clear c35); (try clear c36); (try clear c37)
      (try clear c37b0); (try clear c37b1); (try clear c37b2); (try clear c44); (try clear c46); (try clear c46b0); (try clear c49); (try clear c52); (try clear c53); (try clear c54); (try clear c54b0); (try clear c54b1); (try clear c55); (try clear c55b0); (try clear c55b1); (try clear c55b2); (try clear p64); (try clear c78); (try clear c79); (try clear c80); (try clear c80b0); (try clear c80b1)
      (try clear hcz10_0); (try clear hcz10_1); (try clear hcz10_2); (try clear hcz10_3); (try clear hcz13_0); (try clear hcz13_1); (try clear hcz13_2); (try clear hcz13_3); (try clear hcz31_0); (try clear hcz31_1); (try clear hcz31_2); (try clear hcz31_3); (try clear hcz39_0); (try clear hcz39_1); (try clear hcz39_2); (try clear hcz39_3); (try clear hcz41_0); (try clear hcz41_1); (try clear hcz41_2)
      (try clear hcz41_3); (try clear hcz47_0); (try clear hcz47_1); (try clear hcz47_2); (try clear hcz47_3); (try clear hcz48_0); (try clear hcz48_1); (try clear hcz48_2); (try clear hcz48_3); (try clear hcz56_0); (try clear hcz56_1); (try clear hcz56_2); (try clear hcz56_3); (try clear hcz58_0); (try clear hcz58_1); (try clear hcz58_2); (try clear hcz58_3); (try clear hcz60_0); (try clear hcz60_1)
      (try clear hcz60_2); (try clear hcz60_3); (try clear hcz62_0); (try clear hcz62_1); (try clear hcz62_2); (try clear hcz62_3); (try clear hcz64_0); (try clear hcz64_1); (try clear hcz64_2); (try clear hcz64_3); (try clear hcz66_0); (try clear hcz66_1); (try clear hcz66_2); (try clear hcz66_3); (try clear hcz68_0); (try clear hcz68_1); (try clear hcz68_2); (try clear hcz68_3); (try clear hcz70_0)
      (try clear hcz70_1); (try clear hcz70_2); (try clear hcz70_3); (try clear hcz72_0); (try clear hcz72_1); (try clear hcz72_2); (try clear hcz72_3); (try clear hcz74_0); (try clear hcz74_1); (try clear hcz74_2); (try clear hcz74_3); (try clear hcz81_0); (try clear hcz81_1); (try clear hcz81_2); (try clear hcz81_3); (try clear hcz83_0); (try clear hcz83_1); (try clear hcz83_2); (try clear hcz83_3)
      (try clear hcz87_0); (try clear hcz87_1); (try clear hcz87_2); (try clear hcz87_3); (try clear hcz89_0); (try clear hcz89_1); (try clear hcz89_2); (try clear hcz89_3); (try clear hcz93_0); (try clear hcz93_1); (try clear hcz93_2); (try clear hcz93_3); (try clear hcz95_0); (try clear hcz95_1); (try clear hcz95_2); (try clear hcz95_3); (try clear hcz97_0); (try clear hcz97_1); (try clear hcz97_2)
      (try clear hcz97_3); (try clear hcz99_0); (try clear hcz99_1); (try clear hcz99_2); (try clear hcz99_3); (try clear hfz10_0); (try clear hfz10_1); (try clear hfz10_2); (try clear hfz10_3); (try clear hfz13_0); (try clear hfz13_1); (try clear hfz13_2); (try clear hfz13_3); (try clear hfz31_0); (try clear hfz31_1); (try clear hfz31_2); (try clear hfz31_3); (try clear hfz39_0); (try clear hfz39_1)
      (try clear hfz39_2); (try clear hfz39_3); (try clear hfz41_0); (try clear hfz41_1); (try clear hfz41_2); (try clear hfz41_3); (try clear hfz47_0); (try clear hfz47_1); (try clear hfz47_2); (try clear hfz47_3); (try clear hfz48_0); (try clear hfz48_1); (try clear hfz48_2); (try clear hfz48_3); (try clear hfz56_0); (try clear hfz56_1); (try clear hfz56_2); (try clear hfz56_3); (try clear hfz58_0)
      (try clear hfz58_1); (try clear hfz58_2); (try clear hfz58_3); (try clear hfz60_0); (try clear hfz60_1); (try clear hfz60_2); (try clear hfz60_3); (try clear hfz62_0); (try clear hfz62_1); (try clear hfz62_2); (try clear hfz62_3); (try clear hfz64_0); (try clear hfz64_1); (try clear hfz64_2); (try clear hfz64_3); (try clear hfz66_0); (try clear hfz66_1); (try clear hfz66_2); (try clear hfz66_3)
      (try clear hfz68_0); (try clear hfz68_1); (try clear hfz68_2); (try clear hfz68_3); (try clear hfz70_0); (try clear hfz70_1); (try clear hfz70_2); (try clear hfz70_3); (try clear hfz72_0); (try clear hfz72_1); (try clear hfz72_2); (try clear hfz72_3); (try clear hfz74_0); (try clear hfz74_1); (try clear hfz74_2); (try clear hfz74_3); (try clear hfz81_0); (try clear hfz81_1); (try clear hfz81_2)
      (try clear hfz81_3); (try clear hfz83_0); (try clear hfz83_1); (try clear hfz83_2); (try clear hfz83_3); (try clear hfz87_0); (try clear hfz87_1); (try clear hfz87_2); (try clear hfz87_3); (try clear hfz89_0); (try clear hfz89_1); (try clear hfz89_2); (try clear hfz89_3); (try clear hfz93_0); (try clear hfz93_1); (try clear hfz93_2); (try clear hfz93_3); (try clear hfz95_0); (try clear hfz95_1)
      (try clear hfz95_2); (try clear hfz95_3); (try clear hfz97_0); (try clear hfz97_1); (try clear hfz97_2); (try clear hfz97_3); (try clear hfz99_0); (try clear hfz99_1); (try clear hfz99_2); (try clear hfz99_3); (try clear p2); (try clear p6)
      obtain ⟨kq, HA, HJ26, BK445, HB⟩ := hcut
      cases kq with
      | zero => exact absurd HA.out (by simp [laws_FnAsOf.j4])
      | succ kj26 =>
       have H := HA.out
       clear HA
       simp only [laws_FnAsOf.j4] at H
       replace H := Option.bind_eq_some_iff.mp H
       obtain ⟨⟨t475, t476, t477⟩, A1010, H⟩ := H
       replace H : ((impl_AsOf.f kj26 t475 t476 t477).bind fun bt480 => ((spec_AsOf.f kj26 t475 t476 t477).bind fun bt483 => ((spec_DrawKeysAt.f kj26 l1).bind fun bt486 => ((impl_KeysAt.f kj26 bt486.1 bt486.2).bind fun bt490 => ((spec_KeysAt.f kj26 bt486.1 bt486.2).bind fun bt494 => ((spec_DrawHistoryOf.f kj26 l1).bind fun bt498 => ((impl_HistoryOf.f kj26 bt498.1 bt498.2).bind fun bt502 => ((spec_HistoryOf.f kj26 bt498.1 bt498.2).bind fun bt506 => (if (bt480.2.2 != bt483.2.2) = true then (laws_FnAsOf.j5 kj26 bt486.1 bt486.2 bt490.1 bt490.2 true) else (if bt480.1.toList = bt483.1.toList then (if (bt480.2.1 != bt483.2.1) = true then (laws_FnAsOf.j5 kj26 bt486.1 bt486.2 bt490.1 bt490.2 true) else (if (bt490.2 != bt494.2) = true then (laws_FnAsOf.j5 kj26 bt486.1 bt486.2 bt490.1 bt490.2 true) else ((laws_sameTexts.f kj26 bt490.1 bt494.1).bind fun t510 => (if t510 = true then (if (bt502.2 != bt506.2) = true then (laws_FnAsOf.j5 kj26 bt486.1 bt486.2 bt490.1 bt490.2 true) else ((laws_sameVersions.f kj26 bt502.1 bt506.1).bind fun t511 => (laws_FnAsOf.j5 kj26 bt486.1 bt486.2 bt490.1 bt490.2 (!t511)))) else (laws_FnAsOf.j5 kj26 bt486.1 bt486.2 bt490.1 bt490.2 true))))) else (laws_FnAsOf.j5 kj26 bt486.1 bt486.2 bt490.1 bt490.2 true))))))))))) = some r := H
       have A101 := Aside0.mk A1010
       clear A1010
       replace H := Option.bind_eq_some_iff.mp H
       obtain ⟨⟨t480, t481, t482⟩, A1020, H⟩ := H
       replace H : ((spec_AsOf.f kj26 t475 t476 t477).bind fun bt483 => ((spec_DrawKeysAt.f kj26 l1).bind fun bt486 => ((impl_KeysAt.f kj26 bt486.1 bt486.2).bind fun bt490 => ((spec_KeysAt.f kj26 bt486.1 bt486.2).bind fun bt494 => ((spec_DrawHistoryOf.f kj26 l1).bind fun bt498 => ((impl_HistoryOf.f kj26 bt498.1 bt498.2).bind fun bt502 => ((spec_HistoryOf.f kj26 bt498.1 bt498.2).bind fun bt506 => (if (t482 != bt483.2.2) = true then (laws_FnAsOf.j5 kj26 bt486.1 bt486.2 bt490.1 bt490.2 true) else (if t480.toList = bt483.1.toList then (if (t481 != bt483.2.1) = true then (laws_FnAsOf.j5 kj26 bt486.1 bt486.2 bt490.1 bt490.2 true) else (if (bt490.2 != bt494.2) = true then (laws_FnAsOf.j5 kj26 bt486.1 bt486.2 bt490.1 bt490.2 true) else ((laws_sameTexts.f kj26 bt490.1 bt494.1).bind fun t510 => (if t510 = true then (if (bt502.2 != bt506.2) = true then (laws_FnAsOf.j5 kj26 bt486.1 bt486.2 bt490.1 bt490.2 true) else ((laws_sameVersions.f kj26 bt502.1 bt506.1).bind fun t511 => (laws_FnAsOf.j5 kj26 bt486.1 bt486.2 bt490.1 bt490.2 (!t511)))) else (laws_FnAsOf.j5 kj26 bt486.1 bt486.2 bt490.1 bt490.2 true))))) else (laws_FnAsOf.j5 kj26 bt486.1 bt486.2 bt490.1 bt490.2 true)))))))))) = some r := H
       have A102 := Aside0.mk A1020
       clear A1020
       replace H := Option.bind_eq_some_iff.mp H
       obtain ⟨⟨t483, t484, t485⟩, A1030, H⟩ := H
       replace H : ((spec_DrawKeysAt.f kj26 l1).bind fun bt486 => ((impl_KeysAt.f kj26 bt486.1 bt486.2).bind fun bt490 => ((spec_KeysAt.f kj26 bt486.1 bt486.2).bind fun bt494 => ((spec_DrawHistoryOf.f kj26 l1).bind fun bt498 => ((impl_HistoryOf.f kj26 bt498.1 bt498.2).bind fun bt502 => ((spec_HistoryOf.f kj26 bt498.1 bt498.2).bind fun bt506 => (if (t482 != t485) = true then (laws_FnAsOf.j5 kj26 bt486.1 bt486.2 bt490.1 bt490.2 true) else (if t480.toList = t483.toList then (if (t481 != t484) = true then (laws_FnAsOf.j5 kj26 bt486.1 bt486.2 bt490.1 bt490.2 true) else (if (bt490.2 != bt494.2) = true then (laws_FnAsOf.j5 kj26 bt486.1 bt486.2 bt490.1 bt490.2 true) else ((laws_sameTexts.f kj26 bt490.1 bt494.1).bind fun t510 => (if t510 = true then (if (bt502.2 != bt506.2) = true then (laws_FnAsOf.j5 kj26 bt486.1 bt486.2 bt490.1 bt490.2 true) else ((laws_sameVersions.f kj26 bt502.1 bt506.1).bind fun t511 => (laws_FnAsOf.j5 kj26 bt486.1 bt486.2 bt490.1 bt490.2 (!t511)))) else (laws_FnAsOf.j5 kj26 bt486.1 bt486.2 bt490.1 bt490.2 true))))) else (laws_FnAsOf.j5 kj26 bt486.1 bt486.2 bt490.1 bt490.2 true))))))))) = some r := H
       have A103 := Aside0.mk A1030
       clear A1030
       replace H := Option.bind_eq_some_iff.mp H
       obtain ⟨⟨t486, t487⟩, A1040, H⟩ := H
       replace H : ((impl_KeysAt.f kj26 t486 t487).bind fun bt490 => ((spec_KeysAt.f kj26 t486 t487).bind fun bt494 => ((spec_DrawHistoryOf.f kj26 l1).bind fun bt498 => ((impl_HistoryOf.f kj26 bt498.1 bt498.2).bind fun bt502 => ((spec_HistoryOf.f kj26 bt498.1 bt498.2).bind fun bt506 => (if (t482 != t485) = true then (laws_FnAsOf.j5 kj26 t486 t487 bt490.1 bt490.2 true) else (if t480.toList = t483.toList then (if (t481 != t484) = true then (laws_FnAsOf.j5 kj26 t486 t487 bt490.1 bt490.2 true) else (if (bt490.2 != bt494.2) = true then (laws_FnAsOf.j5 kj26 t486 t487 bt490.1 bt490.2 true) else ((laws_sameTexts.f kj26 bt490.1 bt494.1).bind fun t510 => (if t510 = true then (if (bt502.2 != bt506.2) = true then (laws_FnAsOf.j5 kj26 t486 t487 bt490.1 bt490.2 true) else ((laws_sameVersions.f kj26 bt502.1 bt506.1).bind fun t511 => (laws_FnAsOf.j5 kj26 t486 t487 bt490.1 bt490.2 (!t511)))) else (laws_FnAsOf.j5 kj26 t486 t487 bt490.1 bt490.2 true))))) else (laws_FnAsOf.j5 kj26 t486 t487 bt490.1 bt490.2 true)))))))) = some r := H
       have A104 := Aside0.mk A1040
       clear A1040
       replace H := Option.bind_eq_some_iff.mp H
       obtain ⟨⟨t490, t491⟩, A1050, H⟩ := H
       replace H : ((spec_KeysAt.f kj26 t486 t487).bind fun bt494 => ((spec_DrawHistoryOf.f kj26 l1).bind fun bt498 => ((impl_HistoryOf.f kj26 bt498.1 bt498.2).bind fun bt502 => ((spec_HistoryOf.f kj26 bt498.1 bt498.2).bind fun bt506 => (if (t482 != t485) = true then (laws_FnAsOf.j5 kj26 t486 t487 t490 t491 true) else (if t480.toList = t483.toList then (if (t481 != t484) = true then (laws_FnAsOf.j5 kj26 t486 t487 t490 t491 true) else (if (t491 != bt494.2) = true then (laws_FnAsOf.j5 kj26 t486 t487 t490 t491 true) else ((laws_sameTexts.f kj26 t490 bt494.1).bind fun t510 => (if t510 = true then (if (bt502.2 != bt506.2) = true then (laws_FnAsOf.j5 kj26 t486 t487 t490 t491 true) else ((laws_sameVersions.f kj26 bt502.1 bt506.1).bind fun t511 => (laws_FnAsOf.j5 kj26 t486 t487 t490 t491 (!t511)))) else (laws_FnAsOf.j5 kj26 t486 t487 t490 t491 true))))) else (laws_FnAsOf.j5 kj26 t486 t487 t490 t491 true))))))) = some r := H
       have A105 := Aside0.mk A1050
       clear A1050
       replace H := Option.bind_eq_some_iff.mp H
       obtain ⟨⟨t494, t497⟩, A1060, H⟩ := H
       replace H : ((spec_DrawHistoryOf.f kj26 l1).bind fun bt498 => ((impl_HistoryOf.f kj26 bt498.1 bt498.2).bind fun bt502 => ((spec_HistoryOf.f kj26 bt498.1 bt498.2).bind fun bt506 => (if (t482 != t485) = true then (laws_FnAsOf.j5 kj26 t486 t487 t490 t491 true) else (if t480.toList = t483.toList then (if (t481 != t484) = true then (laws_FnAsOf.j5 kj26 t486 t487 t490 t491 true) else (if (t491 != t497) = true then (laws_FnAsOf.j5 kj26 t486 t487 t490 t491 true) else ((laws_sameTexts.f kj26 t490 t494).bind fun t510 => (if t510 = true then (if (bt502.2 != bt506.2) = true then (laws_FnAsOf.j5 kj26 t486 t487 t490 t491 true) else ((laws_sameVersions.f kj26 bt502.1 bt506.1).bind fun t511 => (laws_FnAsOf.j5 kj26 t486 t487 t490 t491 (!t511)))) else (laws_FnAsOf.j5 kj26 t486 t487 t490 t491 true))))) else (laws_FnAsOf.j5 kj26 t486 t487 t490 t491 true)))))) = some r := H
       have A106 := Aside0.mk A1060
       clear A1060
       replace H := Option.bind_eq_some_iff.mp H
       obtain ⟨⟨t498, t499⟩, A1070, H⟩ := H
       replace H : ((impl_HistoryOf.f kj26 t498 t499).bind fun bt502 => ((spec_HistoryOf.f kj26 t498 t499).bind fun bt506 => (if (t482 != t485) = true then (laws_FnAsOf.j5 kj26 t486 t487 t490 t491 true) else (if t480.toList = t483.toList then (if (t481 != t484) = true then (laws_FnAsOf.j5 kj26 t486 t487 t490 t491 true) else (if (t491 != t497) = true then (laws_FnAsOf.j5 kj26 t486 t487 t490 t491 true) else ((laws_sameTexts.f kj26 t490 t494).bind fun t510 => (if t510 = true then (if (bt502.2 != bt506.2) = true then (laws_FnAsOf.j5 kj26 t486 t487 t490 t491 true) else ((laws_sameVersions.f kj26 bt502.1 bt506.1).bind fun t511 => (laws_FnAsOf.j5 kj26 t486 t487 t490 t491 (!t511)))) else (laws_FnAsOf.j5 kj26 t486 t487 t490 t491 true))))) else (laws_FnAsOf.j5 kj26 t486 t487 t490 t491 true))))) = some r := H
       have A107 := Aside0.mk A1070
       clear A1070
       replace H := Option.bind_eq_some_iff.mp H
       obtain ⟨⟨t502, t503⟩, A1080, H⟩ := H
       replace H : ((spec_HistoryOf.f kj26 t498 t499).bind fun bt506 => (if (t482 != t485) = true then (laws_FnAsOf.j5 kj26 t486 t487 t490 t491 true) else (if t480.toList = t483.toList then (if (t481 != t484) = true then (laws_FnAsOf.j5 kj26 t486 t487 t490 t491 true) else (if (t491 != t497) = true then (laws_FnAsOf.j5 kj26 t486 t487 t490 t491 true) else ((laws_sameTexts.f kj26 t490 t494).bind fun t510 => (if t510 = true then (if (t503 != bt506.2) = true then (laws_FnAsOf.j5 kj26 t486 t487 t490 t491 true) else ((laws_sameVersions.f kj26 t502 bt506.1).bind fun t511 => (laws_FnAsOf.j5 kj26 t486 t487 t490 t491 (!t511)))) else (laws_FnAsOf.j5 kj26 t486 t487 t490 t491 true))))) else (laws_FnAsOf.j5 kj26 t486 t487 t490 t491 true)))) = some r := H
       have A108 := Aside0.mk A1080
       clear A1080
       replace H := Option.bind_eq_some_iff.mp H
       obtain ⟨⟨t506, t507⟩, A1090, H⟩ := H
       replace H : (if (t482 != t485) = true then (laws_FnAsOf.j5 kj26 t486 t487 t490 t491 true) else (if t480.toList = t483.toList then (if (t481 != t484) = true then (laws_FnAsOf.j5 kj26 t486 t487 t490 t491 true) else (if (t491 != t497) = true then (laws_FnAsOf.j5 kj26 t486 t487 t490 t491 true) else ((laws_sameTexts.f kj26 t490 t494).bind fun t510 => (if t510 = true then (if (t503 != t507) = true then (laws_FnAsOf.j5 kj26 t486 t487 t490 t491 true) else ((laws_sameVersions.f kj26 t502 t506).bind fun t511 => (laws_FnAsOf.j5 kj26 t486 t487 t490 t491 (!t511)))) else (laws_FnAsOf.j5 kj26 t486 t487 t490 t491 true))))) else (laws_FnAsOf.j5 kj26 t486 t487 t490 t491 true))) = some r := H
       have A109 := Aside0.mk A1090
       clear A1090
       have HC110 := Aside0.mk H
       clear H
       go_upto_region 32 with (first | ((with_reducible refine gate_callee (f := 37) rfl ?_); refine goesL_ (some 194) rfl rfl Try.func37 (by kernel_rfl) rfl #[.slice A1 l1.length c1] rfl (by (try simp only [List.map_toArray, List.map_cons, List.map_nil]); first | done | rfl | (simp only [List.length_drop, List.length_take]; rfl)) ?_; (with_reducible refine (spec_DrawAsOf.calls kj26 _ _ l1 t475 t476 t477 _ ?side1 ?side2 A101.out).mono ?_); (case side1 => repeat (first | exact (Kd.C_below HR1.out HB.out) | (with_reducible refine Kd.C_alloc ?_ _) | (with_reducible refine Kd.C_drewN ?_ _) | (with_reducible refine Kd.C_drew ?_))); (case side2 => exact HC1.out); rintro e w111 ⟨v478, rfl, ho0, hb⟩; refine ⟨_, rfl, ?_⟩; have n0_ := Aside0.mk (Kd.R_lower (Kd.R_newB ho0 (g := gb445) (o := .cells #[.string t441, .int .i64 t442, .bool t443, .string t444] 48 (0, 0)) (sq_l BK445)) (below_size (by repeat (first | (with_reducible first | exact HB.out | apply below_alloc | apply pw_below_drewN | apply below_drew1 | refine below_set ?_ GE445.out) | exact HB.out)))); have n1_ := Aside0.mk (blk_below (g := gb445) (o := .cells #[.string t441, .int .i64 t442, .bool t443, .string t444] 48 (0, 0)) (sq_l BK445) hb); have n2_ := Aside0.mk (below_step (by repeat (first | (with_reducible first | exact HB.out | apply below_alloc | apply pw_below_drewN | apply below_drew1 | refine below_set ?_ GE445.out) | exact HB.out)) hb); clear BK445; clear HB; have HO479 := n0_; have BK445 := n1_; have HB := n2_; clear n0_ n1_ n2_; (try clear hb); (try clear hb2); (try clear hk); (try clear hi); (try clear ho0); obtain ⟨Ao112, co112, eo112⟩ := Kd.R_slice HO479.out; subst eo112) | ((with_reducible refine gate_callee (f := 35) rfl ?_); refine goesL_ (some 202) rfl rfl Try.func35 (by kernel_rfl) rfl #[.slice Ao112 t475.length co112, .string t476, .int .i64 t477] rfl (by (try simp only [List.map_toArray, List.map_cons, List.map_nil]); first | done | rfl | (simp only [List.length_drop, List.length_take]; rfl)) ?_; (with_reducible refine (impl_AsOf.calls kj26 _ _ t475 t476 t477 t480 t481 t482 _ ?side1 ?side2 A102.out).mono ?_); (case side1 => repeat (first | exact (Kd.R_reads' HO479.out).2.2 | (with_reducible refine Kd.C_alloc ?_ _) | (with_reducible refine Kd.C_drewN ?_ _) | (with_reducible refine Kd.C_drew ?_))); (case side2 => exact (Kd.R_reads' HO479.out).2.1); rintro e w113 ⟨rfl, hb⟩; refine ⟨_, rfl, ?_⟩; have n0_ := Aside0.mk (Kd.R_below (sq_r HO479) hb); have n1_ := Aside0.mk (blk_below (g := gb445) (o := .cells #[.string t441, .int .i64 t442, .bool t443, .string t444] 48 (0, 0)) (sq_l BK445) hb); have n2_ := Aside0.mk (below_step (by repeat (first | (with_reducible first | exact HB.out | apply below_alloc | apply pw_below_drewN | apply below_drew1 | refine below_set ?_ GE445.out) | exact HB.out)) hb); clear HO479; clear BK445; clear HB; have HO479 := n0_; have BK445 := n1_; have HB := n2_; clear n0_ n1_ n2_; (try clear hb); (try clear hb2); (try clear hk); (try clear hi)) | ((with_reducible refine gate_callee (f := 38) rfl ?_); refine goesL_ (some 210) rfl rfl Try.func38 (by kernel_rfl) rfl #[.slice Ao112 t475.length co112, .string t476, .int .i64 t477] rfl (by (try simp only [List.map_toArray, List.map_cons, List.map_nil]); first | done | rfl | (simp only [List.length_drop, List.length_take]; rfl)) ?_; (with_reducible refine (spec_AsOf.calls kj26 _ _ t475 t476 t477 t483 t484 t485 _ ?side1 ?side2 A103.out).mono ?_); (case side1 => repeat (first | exact (Kd.R_reads' HO479.out).2.2 | (with_reducible refine Kd.C_alloc ?_ _) | (with_reducible refine Kd.C_drewN ?_ _) | (with_reducible refine Kd.C_drew ?_))); (case side2 => exact (Kd.R_reads' HO479.out).2.1); rintro e w114 ⟨rfl, hb⟩; refine ⟨_, rfl, ?_⟩; have n0_ := Aside0.mk (Kd.R_below (sq_r HO479) hb); have n1_ := Aside0.mk (blk_below (g := gb445) (o := .cells #[.string t441, .int .i64 t442, .bool t443, .string t444] 48 (0, 0)) (sq_l BK445) hb); have n2_ := Aside0.mk (below_step (by repeat (first | (with_reducible first | exact HB.out | apply below_alloc | apply pw_below_drewN | apply below_drew1 | refine below_set ?_ GE445.out) | exact HB.out)) hb); clear HO479; clear BK445; clear HB; have HO479 := n0_; have BK445 := n1_; have HB := n2_; clear n0_ n1_ n2_; (try clear hb); (try clear hb2); (try clear hk); (try clear hi)) | ((with_reducible refine gate_callee (f := 39) rfl ?_); refine goesL_ (some 216) rfl rfl Try.func39 (by kernel_rfl) rfl #[.slice A1 l1.length c1] rfl (by (try simp only [List.map_toArray, List.map_cons, List.map_nil]); first | done | rfl | (simp only [List.length_drop, List.length_take]; rfl)) ?_; (with_reducible refine (spec_DrawKeysAt.calls kj26 _ _ l1 t486 t487 _ ?side1 ?side2 A104.out).mono ?_); (case side1 => repeat (first | exact (Kd.C_below HR1.out HB.out) | (with_reducible refine Kd.C_alloc ?_ _) | (with_reducible refine Kd.C_drewN ?_ _) | (with_reducible refine Kd.C_drew ?_))); (case side2 => exact HC1.out); rintro e w115 ⟨v488, rfl, ho0, hb⟩; refine ⟨_, rfl, ?_⟩; have n0_ := Aside0.mk (Kd.R_elder' (sq_r HO479) (Kd.R_base ho0) hb); have n1_ := Aside0.mk (Kd.R_lower (Kd.R_newB (Kd.R_new' ho0 (Kd.R_lt (sq_r HO479))) (g := gb445) (o := .cells #[.string t441, .int .i64 t442, .bool t443, .string t444] 48 (0, 0)) (sq_l BK445)) (below_size (by repeat (first | (with_reducible first | exact HB.out | apply below_alloc | apply pw_below_drewN | apply below_drew1 | refine below_set ?_ GE445.out) | exact HB.out)))); have n2_ := Aside0.mk (blk_below (g := gb445) (o := .cells #[.string t441, .int .i64 t442, .bool t443, .string t444] 48 (0, 0)) (sq_l BK445) hb); have n3_ := Aside0.mk (below_step (by repeat (first | (with_reducible first | exact HB.out | apply below_alloc | apply pw_below_drewN | apply below_drew1 | refine below_set ?_ GE445.out) | exact HB.out)) hb); clear HO479; clear BK445; clear HB; have HO479 := n0_; have HO489 := n1_; have BK445 := n2_; have HB := n3_; clear n0_ n1_ n2_ n3_; (try clear hb); (try clear hb2); (try clear hk); (try clear hi); (try clear ho0); obtain ⟨Ao116, co116, eo116⟩ := Kd.R_slice HO489.out; subst eo116) | ((with_reducible refine gate_callee (f := 40) rfl ?_); refine goesL_ (some 222) rfl rfl Try.func40 (by kernel_rfl) rfl #[.slice Ao116 t486.length co116, .int .i64 t487] rfl (by (try simp only [List.map_toArray, List.map_cons, List.map_nil]); first | done | rfl | (simp only [List.length_drop, List.length_take]; rfl)) ?_; (with_reducible refine (impl_KeysAt.calls kj26 _ _ t486 t487 t490 t491 _ ?side1 ?side2 A105.out).mono ?_); (case side1 => repeat (first | exact (Kd.R_reads' HO489.out).2.2 | (with_reducible refine Kd.C_alloc ?_ _) | (with_reducible refine Kd.C_drewN ?_ _) | (with_reducible refine Kd.C_drew ?_))); (case side2 => exact (Kd.R_reads' HO489.out).2.1); rintro e w117 ⟨v492, rfl, ho0, hb⟩; refine ⟨_, rfl, ?_⟩; have n0_ := Aside0.mk (Kd.R_below (sq_r HO479) hb); have n1_ := Aside0.mk (Kd.R_below (sq_r HO489) hb); have n2_ := Aside0.mk (Kd.R_lower ho0 (below_size (by repeat (first | (with_reducible first | exact HB.out | apply below_alloc | apply pw_below_drewN | apply below_drew1 | refine below_set ?_ GE445.out) | exact HB.out)))); have n3_ := Aside0.mk (blk_below (g := gb445) (o := .cells #[.string t441, .int .i64 t442, .bool t443, .string t444] 48 (0, 0)) (sq_l BK445) hb); have n4_ := Aside0.mk (below_step (by repeat (first | (with_reducible first | exact HB.out | apply below_alloc | apply pw_below_drewN | apply below_drew1 | refine below_set ?_ GE445.out) | exact HB.out)) hb); clear HO479; clear HO489; clear BK445; clear HB; have HO479 := n0_; have HO489 := n1_; have HO493 := n2_; have BK445 := n3_; have HB := n4_; clear n0_ n1_ n2_ n3_ n4_; (try clear hb); (try clear hb2); (try clear hk); (try clear hi); (try clear ho0)) | ((with_reducible refine gate_callee (f := 41) rfl ?_); refine goesL_ (some 228) rfl rfl Try.func41 (by kernel_rfl) rfl #[.slice Ao116 t486.length co116, .int .i64 t487] rfl (by (try simp only [List.map_toArray, List.map_cons, List.map_nil]); first | done | rfl | (simp only [List.length_drop, List.length_take]; rfl)) ?_; (with_reducible refine (spec_KeysAt.calls kj26 _ _ t486 t487 t494 t497 _ ?side1 ?side2 A106.out).mono ?_); (case side1 => repeat (first | exact (Kd.R_reads' HO489.out).2.2 | (with_reducible refine Kd.C_alloc ?_ _) | (with_reducible refine Kd.C_drewN ?_ _) | (with_reducible refine Kd.C_drew ?_))); (case side2 => exact (Kd.R_reads' HO489.out).2.1); rintro e w118 ⟨v495, rfl, ho0, hb⟩; refine ⟨_, rfl, ?_⟩; have n0_ := Aside0.mk (Kd.R_below (sq_r HO479) hb); have n1_ := Aside0.mk (Kd.R_below (sq_r HO489) hb); have n2_ := Aside0.mk (Kd.R_below (sq_r HO493) hb); have n3_ := Aside0.mk (Kd.V_lower (Kd.V_mono (ok' := fun k_ => some k_ ≠ (.slice Ao112 t475.length co112 : Value).ownBlock ∧ some k_ ≠ (.slice Ao116 t486.length co116 : Value).ownBlock ∧ some k_ ≠ (v492 : Value).ownBlock ∧ k_ ≠ gb445) ho0 (fun k_ hk_ => ⟨(Kd.fresh' (Kd.R_lt (sq_r HO479)) k_ hk_), (Kd.fresh' (Kd.R_lt (sq_r HO489)) k_ hk_), (Kd.fresh' (Kd.R_lt (sq_r HO493)) k_ hk_), (Kd.freshB (g := gb445) (o := .cells #[.string t441, .int .i64 t442, .bool t443, .string t444] 48 (0, 0)) (sq_l BK445) k_ hk_)⟩)) (below_size (by repeat (first | (with_reducible first | exact HB.out | apply below_alloc | apply pw_below_drewN | apply below_drew1 | refine below_set ?_ GE445.out) | exact HB.out)))); have n4_ := Aside0.mk (blk_below (g := gb445) (o := .cells #[.string t441, .int .i64 t442, .bool t443, .string t444] 48 (0, 0)) (sq_l BK445) hb); have n5_ := Aside0.mk (below_step (by repeat (first | (with_reducible first | exact HB.out | apply below_alloc | apply pw_below_drewN | apply below_drew1 | refine below_set ?_ GE445.out) | exact HB.out)) hb); clear HO479; clear HO489; clear HO493; clear BK445; clear HB; have HO479 := n0_; have HO489 := n1_; have HO493 := n2_; have HO496 := n3_; have BK445 := n4_; have HB := n5_; clear n0_ n1_ n2_ n3_ n4_ n5_; (try clear hb); (try clear hb2); (try clear hk); (try clear hi); (try clear ho0)) | ((with_reducible refine gate_callee (f := 42) rfl ?_); refine goesL_ (some 233) rfl rfl Try.func42 (by kernel_rfl) rfl #[.slice A1 l1.length c1] rfl (by (try simp only [List.map_toArray, List.map_cons, List.map_nil]); first | done | rfl | (simp only [List.length_drop, List.length_take]; rfl)) ?_; (with_reducible refine (spec_DrawHistoryOf.calls kj26 _ _ l1 t498 t499 _ ?side1 ?side2 A107.out).mono ?_); (case side1 => repeat (first | exact (Kd.C_below HR1.out HB.out) | (with_reducible refine Kd.C_alloc ?_ _) | (with_reducible refine Kd.C_drewN ?_ _) | (with_reducible refine Kd.C_drew ?_))); (case side2 => exact HC1.out); rintro e w119 ⟨v500, rfl, ho0, hb⟩; refine ⟨_, rfl, ?_⟩; have n0_ := Aside0.mk (Kd.R_elder' (sq_r HO479) (Kd.R_base ho0) hb); have n1_ := Aside0.mk (Kd.R_elder' (sq_r HO489) (Kd.R_base ho0) hb); have n2_ := Aside0.mk (Kd.R_below (sq_r HO493) hb); have n3_ := Aside0.mk (Kd.V_elder' (sq_v HO496) (Kd.R_base ho0) hb); have n4_ := Aside0.mk (Kd.R_lower (Kd.R_newB (Kd.R_new' (Kd.R_new' ho0 (Kd.R_lt (sq_r HO479))) (Kd.R_lt (sq_r HO489))) (g := gb445) (o := .cells #[.string t441, .int .i64 t442, .bool t443, .string t444] 48 (0, 0)) (sq_l BK445)) (below_size (by repeat (first | (with_reducible first | exact HB.out | apply below_alloc | apply pw_below_drewN | apply below_drew1 | refine below_set ?_ GE445.out) | exact HB.out)))); have n5_ := Aside0.mk (blk_below (g := gb445) (o := .cells #[.string t441, .int .i64 t442, .bool t443, .string t444] 48 (0, 0)) (sq_l BK445) hb); have n6_ := Aside0.mk (below_step (by repeat (first | (with_reducible first | exact HB.out | apply below_alloc | apply pw_below_drewN | apply below_drew1 | refine below_set ?_ GE445.out) | exact HB.out)) hb); clear HO479; clear HO489; clear HO493; clear HO496; clear BK445; clear HB; have HO479 := n0_; have HO489 := n1_; have HO493 := n2_; have HO496 := n3_; have HO501 := n4_; have BK445 := n5_; have HB := n6_; clear n0_ n1_ n2_ n3_ n4_ n5_ n6_; (try clear hb); (try clear hb2); (try clear hk); (try clear hi); (try clear ho0); obtain ⟨Ao120, co120, eo120⟩ := Kd.R_slice HO501.out; subst eo120) | ((with_reducible refine gate_callee (f := 36) rfl ?_); refine goesL_ (some 239) rfl rfl Try.func36 (by kernel_rfl) rfl #[.slice Ao120 t498.length co120, .string t499] rfl (by (try simp only [List.map_toArray, List.map_cons, List.map_nil]); first | done | rfl | (simp only [List.length_drop, List.length_take]; rfl)) ?_; (with_reducible refine (impl_HistoryOf.calls kj26 _ _ t498 t499 t502 t503 _ ?side1 ?side2 A108.out).mono ?_); (case side1 => repeat (first | exact (Kd.R_reads' HO501.out).2.2 | (with_reducible refine Kd.C_alloc ?_ _) | (with_reducible refine Kd.C_drewN ?_ _) | (with_reducible refine Kd.C_drew ?_))); (case side2 => exact (Kd.R_reads' HO501.out).2.1); rintro e w121 ⟨v504, rfl, ho0, hb⟩; refine ⟨_, rfl, ?_⟩; have n0_ := Aside0.mk (Kd.R_elder' (sq_r HO479) (Kd.R_base ho0) hb); have n1_ := Aside0.mk (Kd.R_elder' (sq_r HO489) (Kd.R_base ho0) hb); have n2_ := Aside0.mk (Kd.R_below (sq_r HO493) hb); have n3_ := Aside0.mk (Kd.V_elder' (sq_v HO496) (Kd.R_base ho0) hb); have n4_ := Aside0.mk (Kd.R_elder' (sq_r HO501) (Kd.R_base ho0) hb); have n5_ := Aside0.mk (Kd.R_lower (Kd.R_newB (Kd.R_new' (Kd.R_new' (Kd.R_new' ho0 (Kd.R_lt (sq_r HO479))) (Kd.R_lt (sq_r HO489))) (Kd.R_lt (sq_r HO501))) (g := gb445) (o := .cells #[.string t441, .int .i64 t442, .bool t443, .string t444] 48 (0, 0)) (sq_l BK445)) (below_size (by repeat (first | (with_reducible first | exact HB.out | apply below_alloc | apply pw_below_drewN | apply below_drew1 | refine below_set ?_ GE445.out) | exact HB.out)))); have n6_ := Aside0.mk (blk_below (g := gb445) (o := .cells #[.string t441, .int .i64 t442, .bool t443, .string t444] 48 (0, 0)) (sq_l BK445) hb); have n7_ := Aside0.mk (below_step (by repeat (first | (with_reducible first | exact HB.out | apply below_alloc | apply pw_below_drewN | apply below_drew1 | refine below_set ?_ GE445.out) | exact HB.out)) hb); clear HO479; clear HO489; clear HO493; clear HO496; clear HO501; clear BK445; clear HB; have HO479 := n0_; have HO489 := n1_; have HO493 := n2_; have HO496 := n3_; have HO501 := n4_; have HO505 := n5_; have BK445 := n6_; have HB := n7_; clear n0_ n1_ n2_ n3_ n4_ n5_ n6_ n7_; (try clear hb); (try clear hb2); (try clear hk); (try clear hi); (try clear ho0)) | ((with_reducible refine gate_callee (f := 43) rfl ?_); refine goesL_ (some 245) rfl rfl Try.func43 (by kernel_rfl) rfl #[.slice Ao120 t498.length co120, .string t499] rfl (by (try simp only [List.map_toArray, List.map_cons, List.map_nil]); first | done | rfl | (simp only [List.length_drop, List.length_take]; rfl)) ?_; (with_reducible refine (spec_HistoryOf.calls kj26 _ _ t498 t499 t506 t507 _ ?side1 ?side2 A109.out).mono ?_); (case side1 => repeat (first | exact (Kd.R_reads' HO501.out).2.2 | (with_reducible refine Kd.C_alloc ?_ _) | (with_reducible refine Kd.C_drewN ?_ _) | (with_reducible refine Kd.C_drew ?_))); (case side2 => exact (Kd.R_reads' HO501.out).2.1); rintro e w122 ⟨v508, rfl, ho0, hb⟩; refine ⟨_, rfl, ?_⟩; have n0_ := Aside0.mk (Kd.R_elder' (sq_r HO479) (Kd.R_base ho0) hb); have n1_ := Aside0.mk (Kd.R_elder' (sq_r HO489) (Kd.R_base ho0) hb); have n2_ := Aside0.mk (Kd.R_below (sq_r HO493) hb); have n3_ := Aside0.mk (Kd.V_elder' (sq_v HO496) (Kd.R_base ho0) hb); have n4_ := Aside0.mk (Kd.R_elder' (sq_r HO501) (Kd.R_base ho0) hb); have n5_ := Aside0.mk (Kd.R_elder' (sq_r HO505) (Kd.R_base ho0) hb); have n6_ := Aside0.mk (Kd.R_lower (Kd.R_newB (Kd.R_new' (Kd.R_new' (Kd.R_new' (Kd.R_new' ho0 (Kd.R_lt (sq_r HO479))) (Kd.R_lt (sq_r HO489))) (Kd.R_lt (sq_r HO501))) (Kd.R_lt (sq_r HO505))) (g := gb445) (o := .cells #[.string t441, .int .i64 t442, .bool t443, .string t444] 48 (0, 0)) (sq_l BK445)) (below_size (by repeat (first | (with_reducible first | exact HB.out | apply below_alloc | apply pw_below_drewN | apply below_drew1 | refine below_set ?_ GE445.out) | exact HB.out)))); have n7_ := Aside0.mk (blk_below (g := gb445) (o := .cells #[.string t441, .int .i64 t442, .bool t443, .string t444] 48 (0, 0)) (sq_l BK445) hb); have n8_ := Aside0.mk (below_step (by repeat (first | (with_reducible first | exact HB.out | apply below_alloc | apply pw_below_drewN | apply below_drew1 | refine below_set ?_ GE445.out) | exact HB.out)) hb); clear HO479; clear HO489; clear HO493; clear HO496; clear HO501; clear HO505; clear BK445; clear HB; have HO479 := n0_; have HO489 := n1_; have HO493 := n2_; have HO496 := n3_; have HO501 := n4_; have HO505 := n5_; have HO509 := n6_; have BK445 := n7_; have HB := n8_; clear n0_ n1_ n2_ n3_ n4_ n5_ n6_ n7_ n8_; (try clear hb); (try clear hb2); (try clear hk); (try clear hi); (try clear ho0)))
       (try simp only [Act.put, List.setIfInBounds_toArray, List.set_cons_zero, List.set_cons_succ])
       go_cut [282] (fun v282 wc => ∃ (kq : Nat) (x282_109 : Bool), v282 = .bool x282_109 ∧ Aside0 (laws_FnAsOf.j5 kq t486 t487 t490 t491 x282_109 = some r) ∧ Aside0 (kq ≤ kj26) ∧ Aside0 (Kd.R k48 48 wc w.heap.size (fun k_ => k_ ≠ gb445) (.slice Ao116 t486.length co116) t486) ∧ Aside0 (Kd.R Kd.string 9 wc w.heap.size (fun _ => True) v492 t490) ∧ Aside0 (wc.heap[gb445]? = some (.cells #[.string t441, .int .i64 t442, .bool t443, .string t444] 48 (0, 0))) ∧ Aside0 (Below w.heap.size w wc))
       case first => as_aux_lemma =>
        have H := HC110.out
        clear HC110
        by_cases c123 : (t482 != t485) = true
        ·rw [if_pos c123] at H
         have c123b0 : (t482 != t485) = true := c123
         (try (have c123b1 : decide (t482 = t485) = false := by simpa using c123))
         (try (have c123b2 : (t482 == t485) = false := by simpa using c123))
         (try (have c123b3 : ¬ (t482 = t485) := by simpa using c123))
         clear c123
         (first | rw [c123b0] | (simp only [i64_w, i32_w]; rw [c123b0]) | skip)
         exact absurd hrt (laws_FnAsOf.no_j5 _ _ _ _ _ H)
        ·rw [if_neg c123] at H
         have c123b0 : (t482 != t485) = false := by simpa using c123
         (try (have c123b1 : decide (t482 = t485) = true := by simpa using c123))
         (try (have c123b2 : (t482 == t485) = true := by simpa using c123))
         clear c123
         (first | rw [c123b0] | (simp only [i64_w, i32_w]; rw [c123b0]) | skip)
         by_cases c124 : t480.toList = t483.toList
         ·rw [if_pos c124] at H
          have c124b0 : (t480.toList == t483.toList) = true := beq_iff_eq.mpr c124
          have c124b1 : (t480.toList != t483.toList) = false := bne_eq_false_iff_eq.mpr c124
          clear c124
          by_cases c125 : (t481 != t484) = true
          ·rw [if_pos c125] at H
           have c125b0 : (t481 != t484) = true := c125
           (try (have c125b1 : decide (t481 = t484) = false := by simpa using c125))
           (try (have c125b2 : (t481 == t484) = false := by simpa using c125))
           (try (have c125b3 : ¬ (t481 = t484) := by simpa using c125))
           clear c125
           exact absurd hrt (laws_FnAsOf.no_j5 _ _ _ _ _ H)
          ·rw [if_neg c125] at H
           have c125b0 : (t481 != t484) = false := by simpa using c125
           (try (have c125b1 : decide (t481 = t484) = true := by simpa using c125))
           (try (have c125b2 : (t481 == t484) = true := by simpa using c125))
           clear c125
           by_cases c126 : (t491 != t497) = true
           ·rw [if_pos c126] at H
            have c126b0 : (t491 != t497) = true := c126
            (try (have c126b1 : decide (t491 = t497) = false := by simpa using c126))
            (try (have c126b2 : (t491 == t497) = false := by simpa using c126))
            (try (have c126b3 : ¬ (t491 = t497) := by simpa using c126))
            clear c126
            exact absurd hrt (laws_FnAsOf.no_j5 _ _ _ _ _ H)
           ·rw [if_neg c126] at H
            have c126b0 : (t491 != t497) = false := by simpa using c126
            (try (have c126b1 : decide (t491 = t497) = true := by simpa using c126))
            (try (have c126b2 : (t491 == t497) = true := by simpa using c126))
            clear c126
            replace H := Option.bind_eq_some_iff.mp H
            obtain ⟨t510, A1270, H⟩ := H
            replace H : (if t510 = true then (if (t503 != t507) = true then (laws_FnAsOf.j5 kj26 t486 t487 t490 t491 true) else ((laws_sameVersions.f kj26 t502 t506).bind fun t511 => (laws_FnAsOf.j5 kj26 t486 t487 t490 t491 (!t511)))) else (laws_FnAsOf.j5 kj26 t486 t487 t490 t491 true)) = some r := H
            have A127 := Aside0.mk A1270
            clear A1270
            by_cases c128 : t510 = true
            ·subst c128
             have H1 : (if (t503 != t507) = true then (laws_FnAsOf.j5 kj26 t486 t487 t490 t491 true) else ((laws_sameVersions.f kj26 t502 t506).bind fun t511 => (laws_FnAsOf.j5 kj26 t486 t487 t490 t491 (!t511)))) = some r := by rw [if_pos rfl] at H; exact H
             clear H
             have H := H1
             clear H1
             by_cases c129 : (t503 != t507) = true
             ·rw [if_pos c129] at H
              have c129b0 : (t503 != t507) = true := c129
              (try (have c129b1 : decide (t503 = t507) = false := by simpa using c129))
              (try (have c129b2 : (t503 == t507) = false := by simpa using c129))
              (try (have c129b3 : ¬ (t503 = t507) := by simpa using c129))
              clear c129
              exact absurd hrt (laws_FnAsOf.no_j5 _ _ _ _ _ H)
             ·rw [if_neg c129] at H
              have c129b0 : (t503 != t507) = false := by simpa using c129
              (try (have c129b1 : decide (t503 = t507) = true := by simpa using c129))
              (try (have c129b2 : (t503 == t507) = true := by simpa using c129))
              clear c129
              replace H := Option.bind_eq_some_iff.mp H
              obtain ⟨t511, A1320, H⟩ := H
              replace H : (laws_FnAsOf.j5 kj26 t486 t487 t490 t491 (!t511)) = some r := H
              have A132 := Aside0.mk A1320
              clear A1320
              have H' := Aside0.mk H
              clear H
              obtain ⟨Ao133, co133, eo133⟩ := Kd.R_slice HO493.out
              subst eo133
              obtain ⟨Ao134, co134, eo134⟩ := Kd.V_slice HO496.out
              subst eo134
              go_wp2_with (first | (go_at_call 44; (with_reducible refine (laws_sameTexts.calls kj26 _ _ t490 _ _ t494 true _ ?side1 ?side2 ?side3 ?side4 A127.out).mono ?_); (case side1 => repeat (first | exact (Kd.R_reads' HO493.out).2.2 | (with_reducible refine Kd.C_alloc ?_ _) | (with_reducible refine Kd.C_drewN ?_ _) | (with_reducible refine Kd.C_drew ?_))); (case side2 => exact (Kd.R_reads' HO493.out).2.1); (case side3 => repeat (first | exact (Kd.V_reads' HO496.out).2.2 | (with_reducible refine Kd.C_alloc ?_ _) | (with_reducible refine Kd.C_drewN ?_ _) | (with_reducible refine Kd.C_drew ?_))); (case side4 => exact (Kd.V_reads' HO496.out).2.1); rintro e w' ⟨rfl, ⟨nd, rfl⟩⟩; obtain ⟨Ao135, co135, eo135⟩ := Kd.R_slice HO505.out; subst eo135; obtain ⟨Ao136, co136, eo136⟩ := Kd.R_slice HO509.out; subst eo136) | (go_at_call 32; (with_reducible refine (laws_sameVersions.calls kj26 _ _ t502 _ _ t506 t511 _ ?side1 ?side2 ?side3 ?side4 A132.out).mono ?_); (case side1 => repeat (first | exact (Kd.R_reads' HO505.out).2.2 | (with_reducible refine Kd.C_alloc ?_ _) | (with_reducible refine Kd.C_drewN ?_ _) | (with_reducible refine Kd.C_drew ?_))); (case side2 => exact (Kd.R_reads' HO505.out).2.1); (case side3 => repeat (first | exact (Kd.R_reads' HO509.out).2.2 | (with_reducible refine Kd.C_alloc ?_ _) | (with_reducible refine Kd.C_drewN ?_ _) | (with_reducible refine Kd.C_drew ?_))); (case side4 => exact (Kd.R_reads' HO509.out).2.1); rintro e w' ⟨rfl, ⟨nd, rfl⟩⟩))
              go_meet
              case rel => exact ⟨_, (!t511), sq_e, H', ⟨by have := HJ6.out; have := HJ26.out; first | omega | exact Nat.le_refl _⟩, ⟨by (with_reducible repeat (first | apply Kd.R_alloc | apply Kd.R_drewN | apply Kd.R_drew)); exact Kd.R_mono HO489.out (fun _ hk => hk.1.1.1.2)⟩, ⟨by (with_reducible repeat (first | apply Kd.R_alloc | apply Kd.R_drewN | apply Kd.R_drew)); exact HO493.out⟩, ⟨by (with_reducible repeat (first | refine blk_drewN ?_ _ | refine blk_drew ?_ | refine blk_alloc ?_ _)); exact BK445.out⟩, ⟨by repeat (first | (with_reducible first | exact HB.out | apply below_alloc | apply pw_below_drewN | apply below_drew1 | refine below_set ?_ GE445.out) | exact HB.out)⟩⟩
            ·replace c128 := Bool.eq_false_iff.mpr c128
             subst c128
             have H1 : (laws_FnAsOf.j5 kj26 t486 t487 t490 t491 true) = some r := by rw [if_neg (show ¬ (false = true) by decide)] at H; exact H
             clear H
             have H := H1
             clear H1
             exact absurd hrt (laws_FnAsOf.no_j5 _ _ _ _ _ H)
         ·rw [if_neg c124] at H
          have c124b0 : (t480.toList == t483.toList) = false := beq_eq_false_iff_ne.mpr c124
          have c124b1 : (t480.toList != t483.toList) = true := bne_iff_ne.mpr c124
          exact absurd hrt (laws_FnAsOf.no_j5 _ _ _ _ _ H)
       case rest => as_aux_lemma =>
        clear HC110
        (try clear c1); (try clear c2); (try clear p2); (try clear c3); (try clear c3b0); (try clear c4); (try clear c5); (try clear p6); (try clear c7); (try clear c8); (try clear c12); (try clear c15); (try clear c15b0); (try clear c15b1); (try clear c15b2); (try clear c17); (try clear c24); (try clear c26); (try clear c27); (try clear c28); (try clear c31); (try clear c33); (try clear c35); (try clear c36)
        (try clear c37); (try clear c37b0); (try clear c37b1); (try clear c37b2); (try clear c38); (try clear c39); (try clear c40); (try clear c41); (try clear c42); (try clear c43); (try clear c44); (try clear c46); (try clear c46b0); (try clear c49); (try clear c52); (try clear c53); (try clear c54); (try clear c54b0); (try clear c54b1); (try clear c55); (try clear c55b0); (try clear c55b1); (try clear c55b2)
        (try clear p64); (try clear c78); (try clear c79); (try clear c80); (try clear c80b0); (try clear c80b1); (try clear c123); (try clear c123b0); (try clear c123b1); (try clear c123b2); (try clear c124); (try clear c124b0); (try clear c124b1); (try clear c125); (try clear c125b0); (try clear c125b1); (try clear c125b2); (try clear c126); (try clear c126b0); (try clear c126b1); (try clear c126b2)
        (try clear c128); (try clear c129); (try clear c129b0); (try clear c129b1); (try clear c129b2); (try clear hcz10_0); (try clear hcz10_1); (try clear hcz10_2); (try clear hcz10_3); (try clear hcz13_0); (try clear hcz13_1); (try clear hcz13_2); (try clear hcz13_3); (try clear hcz31_0); (try clear hcz31_1); (try clear hcz31_2); (try clear hcz31_3); (try clear hcz39_0); (try clear hcz39_1); (try clear hcz39_2)
        (try clear hcz39_3); (try clear hcz41_0); (try clear hcz41_1); (try clear hcz41_2); (try clear hcz41_3); (try clear hcz47_0); (try clear hcz47_1); (try clear hcz47_2); (try clear hcz47_3); (try clear hcz48_0); (try clear hcz48_1); (try clear hcz48_2); (try clear hcz48_3); (try clear hcz56_0); (try clear hcz56_1); (try clear hcz56_2); (try clear hcz56_3); (try clear hcz58_0); (try clear hcz58_1)
        (try clear hcz58_2); (try clear hcz58_3); (try clear hcz60_0); (try clear hcz60_1); (try clear hcz60_2); (try clear hcz60_3); (try clear hcz62_0); (try clear hcz62_1); (try clear hcz62_2); (try clear hcz62_3); (try clear hcz64_0); (try clear hcz64_1); (try clear hcz64_2); (try clear hcz64_3); (try clear hcz66_0); (try clear hcz66_1); (try clear hcz66_2); (try clear hcz66_3); (try clear hcz68_0)
        (try clear hcz68_1); (try clear hcz68_2); (try clear hcz68_3); (try clear hcz70_0); (try clear hcz70_1); (try clear hcz70_2); (try clear hcz70_3); (try clear hcz72_0); (try clear hcz72_1); (try clear hcz72_2); (try clear hcz72_3); (try clear hcz74_0); (try clear hcz74_1); (try clear hcz74_2); (try clear hcz74_3); (try clear hcz81_0); (try clear hcz81_1); (try clear hcz81_2); (try clear hcz81_3)
        (try clear hcz83_0); (try clear hcz83_1); (try clear hcz83_2); (try clear hcz83_3); (try clear hcz87_0); (try clear hcz87_1); (try clear hcz87_2); (try clear hcz87_3); (try clear hcz89_0); (try clear hcz89_1); (try clear hcz89_2); (try clear hcz89_3); (try clear hcz93_0); (try clear hcz93_1); (try clear hcz93_2); (try clear hcz93_3); (try clear hcz95_0); (try clear hcz95_1); (try clear hcz95_2)
        (try clear hcz95_3); (try clear hcz97_0); (try clear hcz97_1); (try clear hcz97_2); (try clear hcz97_3); (try clear hcz99_0); (try clear hcz99_1); (try clear hcz99_2); (try clear hcz99_3); (try clear hfz10_0); (try clear hfz10_1); (try clear hfz10_2); (try clear hfz10_3); (try clear hfz13_0); (try clear hfz13_1); (try clear hfz13_2); (try clear hfz13_3); (try clear hfz31_0); (try clear hfz31_1)
        (try clear hfz31_2); (try clear hfz31_3); (try clear hfz39_0); (try clear hfz39_1); (try clear hfz39_2); (try clear hfz39_3); (try clear hfz41_0); (try clear hfz41_1); (try clear hfz41_2); (try clear hfz41_3); (try clear hfz47_0); (try clear hfz47_1); (try clear hfz47_2); (try clear hfz47_3); (try clear hfz48_0); (try clear hfz48_1); (try clear hfz48_2); (try clear hfz48_3); (try clear hfz56_0)
        (try clear hfz56_1); (try clear hfz56_2); (try clear hfz56_3); (try clear hfz58_0); (try clear hfz58_1); (try clear hfz58_2); (try clear hfz58_3); (try clear hfz60_0); (try clear hfz60_1); (try clear hfz60_2); (try clear hfz60_3); (try clear hfz62_0); (try clear hfz62_1); (try clear hfz62_2); (try clear hfz62_3); (try clear hfz64_0); (try clear hfz64_1); (try clear hfz64_2); (try clear hfz64_3)
        (try clear hfz66_0); (try clear hfz66_1); (try clear hfz66_2); (try clear hfz66_3); (try clear hfz68_0); (try clear hfz68_1); (try clear hfz68_2); (try clear hfz68_3); (try clear hfz70_0); (try clear hfz70_1); (try clear hfz70_2); (try clear hfz70_3); (try clear hfz72_0); (try clear hfz72_1); (try clear hfz72_2); (try clear hfz72_3); (try clear hfz74_0); (try clear hfz74_1); (try clear hfz74_2)
        (try clear hfz74_3); (try clear hfz81_0); (try clear hfz81_1); (try clear hfz81_2); (try clear hfz81_3); (try clear hfz83_0); (try clear hfz83_1); (try clear hfz83_2); (try clear hfz83_3); (try clear hfz87_0); (try clear hfz87_1); (try clear hfz87_2); (try clear hfz87_3); (try clear hfz89_0); (try clear hfz89_1); (try clear hfz89_2); (try clear hfz89_3); (try clear hfz93_0); (try clear hfz93_1)
        (try clear hfz93_2); (try clear hfz93_3); (try clear hfz95_0); (try clear hfz95_1); (try clear hfz95_2); (try clear hfz95_3); (try clear hfz97_0); (try clear hfz97_1); (try clear hfz97_2); (try clear hfz97_3); (try clear hfz99_0); (try clear hfz99_1); (try clear hfz99_2); (try clear hfz99_3); (try clear p2); (try clear p6); (try clear p64)
        obtain ⟨kq, x282_109, rfl, HA, HJ109, HO_34, HO_36, BK445, HB⟩ := hcut
        cases kq with
        | zero => exact absurd HA.out (by simp [laws_FnAsOf.j5])
        | succ kj109 =>
         have H := HA.out
         clear HA
         simp only [laws_FnAsOf.j5] at H
         by_cases c139 : x282_109 = true
         ·subst c139
          have H1 : (some false) = some r := by rw [if_pos rfl] at H; exact H
          clear H
          have H := H1
          clear H1
          obtain rfl := Option.some.inj H
          cases hrt
         ·replace c139 := Bool.eq_false_iff.mpr c139
          subst c139
          have H1 : (if t491 = true then (laws_FnAsOf.l1 kj109 t486 t487 t490 t486 (t486.length : Int) 0) else (some true)) = some r := by rw [if_neg (show ¬ (false = true) by decide)] at H; exact H
          clear H
          have H := H1
          clear H1
          by_cases c140 : t491 = true
          ·subst c140
           have H1 : (laws_FnAsOf.l1 kj109 t486 t487 t490 t486 (t486.length : Int) 0) = some r := by rw [if_pos rfl] at H; exact H
           clear H
           have H := H1
           clear H1
           have H' := Aside0.mk H
           clear H
           go_wp2
           go_loopg [286] kj109 (fun kq v286 w' => ∃ (x286_4 : Int), v286 = .int .i64 x286_4 ∧ Aside0 (laws_FnAsOf.l1 kq t486 t487 t490 t486 (t486.length : Int) x286_4 = some r) ∧ Aside0 (kq ≤ kj109) ∧ Aside0 (Kd.R k48 48 w' w.heap.size (fun k_ => k_ ≠ gb445) (.slice Ao116 t486.length co116) t486) ∧ Aside0 (Kd.R Kd.string 9 w' w.heap.size (fun _ => True) v492 t490) ∧ Aside0 (Kd.R k48 48 w' w.heap.size (fun k_ => k_ ≠ gb445) (.slice Ao116 t486.length co116) t486) ∧ Aside0 (w'.heap[gb445]? = some (.cells #[.string t441, .int .i64 t442, .bool t443, .string t444] 48 (0, 0))) ∧ Aside0 (Below w.heap.size w w'))
           case atStart => exact ⟨(0), sq_e, H', ⟨Nat.le_refl _⟩, ⟨by (with_reducible repeat (first | apply Kd.R_alloc | apply Kd.R_drewN | apply Kd.R_drew)); exact HO_34.out⟩, ⟨by (with_reducible repeat (first | apply Kd.R_alloc | apply Kd.R_drewN | apply Kd.R_drew)); exact HO_36.out⟩, ⟨by (with_reducible repeat (first | apply Kd.R_alloc | apply Kd.R_drewN | apply Kd.R_drew)); exact HO_34.out⟩, ⟨by (with_reducible repeat (first | refine blk_drewN ?_ _ | refine blk_drew ?_ | refine blk_alloc ?_ _)); exact BK445.out⟩, ⟨by repeat (first | (with_reducible first | exact HB.out | apply below_alloc | apply pw_below_drewN | apply below_drew1 | refine below_set ?_ GE445.out) | exact HB.out)⟩⟩
           case round => as_aux_lemma =>
            clear H'
            (try clear c1); (try clear c2); (try clear p2); (try clear c3); (try clear c3b0); (try clear c4); (try clear c5); (try clear p6); (try clear c7); (try clear c8); (try clear c12); (try clear c13); (try clear c14); (try clear c15); (try clear c15b0); (try clear c15b1); (try clear c15b2); (try clear c17); (try clear c24); (try clear c26); (try clear c27); (try clear c28); (try clear c31); (try clear c33)
            (try clear c35); (try clear c36); (try clear c37); (try clear c37b0); (try clear c37b1); (try clear c37b2); (try clear c38); (try clear c39); (try clear c40); (try clear c41); (try clear c42); (try clear c43); (try clear c44); (try clear c46); (try clear c46b0); (try clear c49); (try clear c52); (try clear c53); (try clear c54); (try clear c54b0); (try clear c54b1); (try clear c55); (try clear c55b0)
            (try clear c55b1); (try clear c55b2); (try clear p64); (try clear c78); (try clear c79); (try clear c80); (try clear c80b0); (try clear c80b1); (try clear c123); (try clear c123b0); (try clear c123b1); (try clear c123b2); (try clear c124); (try clear c124b0); (try clear c124b1); (try clear c125); (try clear c125b0); (try clear c125b1); (try clear c125b2); (try clear c126); (try clear c126b0)
            (try clear c126b1); (try clear c126b2); (try clear c128); (try clear c129); (try clear c129b0); (try clear c129b1); (try clear c129b2); (try clear c139); (try clear c140); (try clear hcz10_0); (try clear hcz10_1); (try clear hcz10_2); (try clear hcz10_3); (try clear hcz13_0); (try clear hcz13_1); (try clear hcz13_2); (try clear hcz13_3); (try clear hcz31_0); (try clear hcz31_1); (try clear hcz31_2)
            (try clear hcz31_3); (try clear hcz39_0); (try clear hcz39_1); (try clear hcz39_2); (try clear hcz39_3); (try clear hcz41_0); (try clear hcz41_1); (try clear hcz41_2); (try clear hcz41_3); (try clear hcz47_0); (try clear hcz47_1); (try clear hcz47_2); (try clear hcz47_3); (try clear hcz48_0); (try clear hcz48_1); (try clear hcz48_2); (try clear hcz48_3); (try clear hcz56_0); (try clear hcz56_1)
            (try clear hcz56_2); (try clear hcz56_3); (try clear hcz58_0); (try clear hcz58_1); (try clear hcz58_2); (try clear hcz58_3); (try clear hcz60_0); (try clear hcz60_1); (try clear hcz60_2); (try clear hcz60_3); (try clear hcz62_0); (try clear hcz62_1); (try clear hcz62_2); (try clear hcz62_3); (try clear hcz64_0); (try clear hcz64_1); (try clear hcz64_2); (try clear hcz64_3); (try clear hcz66_0)
            (try clear hcz66_1); (try clear hcz66_2); (try clear hcz66_3); (try clear hcz68_0); (try clear hcz68_1); (try clear hcz68_2); (try clear hcz68_3); (try clear hcz70_0); (try clear hcz70_1); (try clear hcz70_2); (try clear hcz70_3); (try clear hcz72_0); (try clear hcz72_1); (try clear hcz72_2); (try clear hcz72_3); (try clear hcz74_0); (try clear hcz74_1); (try clear hcz74_2); (try clear hcz74_3)
            (try clear hcz81_0); (try clear hcz81_1); (try clear hcz81_2); (try clear hcz81_3); (try clear hcz83_0); (try clear hcz83_1); (try clear hcz83_2); (try clear hcz83_3); (try clear hcz87_0); (try clear hcz87_1); (try clear hcz87_2); (try clear hcz87_3); (try clear hcz89_0); (try clear hcz89_1); (try clear hcz89_2); (try clear hcz89_3); (try clear hcz93_0); (try clear hcz93_1); (try clear hcz93_2)
            (try clear hcz93_3); (try clear hcz95_0); (try clear hcz95_1); (try clear hcz95_2); (try clear hcz95_3); (try clear hcz97_0); (try clear hcz97_1); (try clear hcz97_2); (try clear hcz97_3); (try clear hcz99_0); (try clear hcz99_1); (try clear hcz99_2); (try clear hcz99_3); (try clear hfz10_0); (try clear hfz10_1); (try clear hfz10_2); (try clear hfz10_3); (try clear hfz13_0); (try clear hfz13_1)
            (try clear hfz13_2); (try clear hfz13_3); (try clear hfz31_0); (try clear hfz31_1); (try clear hfz31_2); (try clear hfz31_3); (try clear hfz39_0); (try clear hfz39_1); (try clear hfz39_2); (try clear hfz39_3); (try clear hfz41_0); (try clear hfz41_1); (try clear hfz41_2); (try clear hfz41_3); (try clear hfz47_0); (try clear hfz47_1); (try clear hfz47_2); (try clear hfz47_3); (try clear hfz48_0)
            (try clear hfz48_1); (try clear hfz48_2); (try clear hfz48_3); (try clear hfz56_0); (try clear hfz56_1); (try clear hfz56_2); (try clear hfz56_3); (try clear hfz58_0); (try clear hfz58_1); (try clear hfz58_2); (try clear hfz58_3); (try clear hfz60_0); (try clear hfz60_1); (try clear hfz60_2); (try clear hfz60_3); (try clear hfz62_0); (try clear hfz62_1); (try clear hfz62_2); (try clear hfz62_3)
            (try clear hfz64_0); (try clear hfz64_1); (try clear hfz64_2); (try clear hfz64_3); (try clear hfz66_0); (try clear hfz66_1); (try clear hfz66_2); (try clear hfz66_3); (try clear hfz68_0); (try clear hfz68_1); (try clear hfz68_2); (try clear hfz68_3); (try clear hfz70_0); (try clear hfz70_1); (try clear hfz70_2); (try clear hfz70_3); (try clear hfz72_0); (try clear hfz72_1); (try clear hfz72_2)
            (try clear hfz72_3); (try clear hfz74_0); (try clear hfz74_1); (try clear hfz74_2); (try clear hfz74_3); (try clear hfz81_0); (try clear hfz81_1); (try clear hfz81_2); (try clear hfz81_3); (try clear hfz83_0); (try clear hfz83_1); (try clear hfz83_2); (try clear hfz83_3); (try clear hfz87_0); (try clear hfz87_1); (try clear hfz87_2); (try clear hfz87_3); (try clear hfz89_0); (try clear hfz89_1)
            (try clear hfz89_2); (try clear hfz89_3); (try clear hfz93_0); (try clear hfz93_1); (try clear hfz93_2); (try clear hfz93_3); (try clear hfz95_0); (try clear hfz95_1); (try clear hfz95_2); (try clear hfz95_3); (try clear hfz97_0); (try clear hfz97_1); (try clear hfz97_2); (try clear hfz97_3); (try clear hfz99_0); (try clear hfz99_1); (try clear hfz99_2); (try clear hfz99_3); (try clear p2)
            (try clear p6); (try clear p64)
            obtain ⟨x286_4, rfl, HA, HK4, HO_34, HO_36, HO_284, BK445, HB⟩ := hrel
            cases gk with
            | zero => exact absurd HA.out (by simp [laws_FnAsOf.l1])
            | succ k4 =>
             have H := HA.out
             clear HA
             simp only [laws_FnAsOf.l1] at H
             by_cases c141 : x286_4 < (t486.length : Int)
             ·rw [if_pos c141] at H
              have c141b0 : decide (x286_4 < (t486.length : Int)) = true := decide_eq_true c141
              clear c141
              by_cases c142 : 0 ≤ x286_4
              rotate_left
              ·rw [if_neg c142] at H
               exact absurd H (by simp)
              rw [if_pos c142] at H
              have c142b0 : decide (0 ≤ x286_4) = true := decide_eq_true c142
              clear c142
              by_cases c143 : x286_4 < (t486.length : Int)
              rotate_left
              ·rw [if_neg c143] at H
               exact absurd H (by simp)
              rw [if_pos c143] at H
              have c143b0 : decide (x286_4 < (t486.length : Int)) = true := decide_eq_true c143
              clear c143
              replace H := Option.bind_eq_some_iff.mp H
              obtain ⟨⟨t514, t515, t516⟩, A1440, H⟩ := H
              replace H : (if t516 = true then ((laws_hasText.f k4 t490 ((rd_T48 t486 x286_4).f0)).bind fun t517 => (if (t515 != t517) = true then (some false) else (laws_FnAsOf.l1 k4 t486 t487 t490 t486 (t486.length : Int) (wrap64 (x286_4 + 1))))) else (some false)) = some r := H
              have A144 := Aside0.mk A1440
              clear A1440
              by_cases c145 : t516 = true
              ·subst c145
               have H1 : ((laws_hasText.f k4 t490 ((rd_T48 t486 x286_4).f0)).bind fun t517 => (if (t515 != t517) = true then (some false) else (laws_FnAsOf.l1 k4 t486 t487 t490 t486 (t486.length : Int) (wrap64 (x286_4 + 1))))) = some r := by rw [if_pos rfl] at H; exact H
               clear H
               have H := H1
               clear H1
               replace H := Option.bind_eq_some_iff.mp H
               obtain ⟨t517, A1460, H⟩ := H
               replace H : (if (t515 != t517) = true then (some false) else (laws_FnAsOf.l1 k4 t486 t487 t490 t486 (t486.length : Int) (wrap64 (x286_4 + 1)))) = some r := H
               have A146 := Aside0.mk A1460
               clear A1460
               by_cases c147 : (t515 != t517) = true
               ·rw [if_pos c147] at H
                have c147b0 : (t515 != t517) = true := c147
                (try (have c147b1 : decide (t515 = t517) = false := by simpa using c147))
                (try (have c147b2 : (t515 == t517) = false := by simpa using c147))
                (try (have c147b3 : ¬ (t515 = t517) := by simpa using c147))
                clear c147
                obtain rfl := Option.some.inj H
                cases hrt
               ·rw [if_neg c147] at H
                have c147b0 : (t515 != t517) = false := by simpa using c147
                (try (have c147b1 : decide (t515 = t517) = true := by simpa using c147))
                (try (have c147b2 : (t515 == t517) = true := by simpa using c147))
                clear c147
                have H' := Aside0.mk H
                clear H
                have p512 : 0 ≤ (x286_4 : Int) := sq_d
                have q512 : x286_4 < (t486.length : Int) := sq_d
                obtain ⟨ad512, e512, hx512_0, hx512_1, hx512_2, hx512_3⟩ := at_T48 (Kd.R_reads' HO_284.out).2.2 x286_4 p512 q512
                cases e512
                replace p512 := eq_true p512
                replace q512 := eq_true q512
                go_wp2_with (first | ((with_reducible refine gate_dst (N := 47) rfl ?_); (try (refine gate_guard (by rfl) ?_; dsimp only)); refine box_event ?hg (N := 47) ?hd (cs := #[.string (⟨#[]⟩ : ByteArray), .int .i64 0, .bool false, .string (⟨#[]⟩ : ByteArray)]) (t := 48) ?hr ?_; (case hd => rfl); (case hg => rfl); (case hr => first | (go_simp; done) | (go_simp; rfl)); intro gb513 hg w154 hbox hb; have n0_ := Aside0.mk (Kd.R_below (Kd.R_elderB (sq_r HO_34) gb513 (Nat.le_of_eq hg.symm)) hb); have n1_ := Aside0.mk (Kd.R_below (sq_r HO_36) hb); have n2_ := Aside0.mk (Kd.R_below (Kd.R_elderB (sq_r HO_284) gb513 (Nat.le_of_eq hg.symm)) hb); have n3_ := Aside0.mk (blk_below (g := gb445) (o := .cells #[.string t441, .int .i64 t442, .bool t443, .string t444] 48 (0, 0)) (sq_l BK445) hb); have n4_ := Aside0.mk (below_step (by repeat (first | (with_reducible first | exact HB.out | apply below_alloc | apply pw_below_drewN | apply below_drew1 | refine below_set ?_ GE445.out) | exact HB.out)) hb); have n5_ := Aside0.mk (hbox); have n6_ := Aside0.mk ((by rw [hg]; exact (below_size (by repeat (first | (with_reducible first | exact HB.out | apply below_alloc | apply pw_below_drewN | apply below_drew1 | refine below_set ?_ GE445.out) | exact HB.out))) : w.heap.size ≤ gb513)); have n7_ := Aside0.mk ((by rw [hg]; exact (below_size (by repeat (first | (with_reducible first | exact HB.out | apply below_alloc | apply pw_below_drewN | apply below_drew1 | refine below_set ?_ GE445.out) | exact HB.out))) : w.heap.size ≤ gb513)); have n8_ := Aside0.mk ((by rw [hg]; exact Nat.ne_of_lt (blk_lt (g := gb445) (o := .cells #[.string t441, .int .i64 t442, .bool t443, .string t444] 48 (0, 0)) (sq_l BK445)) : gb445 ≠ gb513)); have n9_ := Aside0.mk ((by rw [hg]; exact Nat.ne_of_gt (blk_lt (g := gb445) (o := .cells #[.string t441, .int .i64 t442, .bool t443, .string t444] 48 (0, 0)) (sq_l BK445)) : gb513 ≠ gb445)); clear HO_34; clear HO_36; clear HO_284; clear BK445; clear HB; have HO_34 := n0_; have HO_36 := n1_; have HO_284 := n2_; have BK445 := n3_; have HB := n4_; have BK513 := n5_; have GW513 := n6_; have GE513 := n7_; have NB445_513 := n8_; have NB513_445 := n9_; clear n0_ n1_ n2_ n3_ n4_ n5_ n6_ n7_ n8_ n9_; clear hb hbox hg; have hnb155 := NB513_445.out; have hnc155 := NB445_513.out; have hcz156_0 : w154.cell? ⟨gb513, 0, none⟩ = some (.string (⟨#[]⟩ : ByteArray)) := (blk_cell BK513.out 0).trans rfl; have hcz156_1 : w154.cell? ⟨gb513, 1, none⟩ = some (.int .i64 0) := (blk_cell BK513.out 1).trans rfl; have hcz156_2 : w154.cell? ⟨gb513, 2, none⟩ = some (.bool false) := (blk_cell BK513.out 2).trans rfl; have hcz156_3 : w154.cell? ⟨gb513, 3, none⟩ = some (.string (⟨#[]⟩ : ByteArray)) := (blk_cell BK513.out 3).trans rfl; have hfz156_0 := blk_frozen BK513.out 0; have hfz156_1 := blk_frozen BK513.out 1; have hfz156_2 := blk_frozen BK513.out 2; have hfz156_3 := blk_frozen BK513.out 3) | ((with_reducible refine gate_callee (f := 35) rfl ?_); refine goesL_ (some 295) rfl rfl Try.func35 (by kernel_rfl) rfl #[.slice (some ad512) t486.length co116, .string ((rd_T48 t486 x286_4).f0), .int .i64 t487] rfl (by (try simp only [List.map_toArray, List.map_cons, List.map_nil]); first | done | rfl | (simp only [List.length_drop, List.length_take]; rfl)) ?_; (with_reducible refine (impl_AsOf.calls k4 _ _ t486 ((rd_T48 t486 x286_4).f0) t487 t514 t515 true _ ?side1 ?side2 A144.out).mono ?_); (case side1 => refine (Kd.R_reads' (e := 48) (base := w.heap.size) (ok := fun k_ => (k_ ≠ gb445 ∧ k_ ≠ gb513)) (n := t486.length) (c := co116) ?_).2.2; exact (by (with_reducible repeat (first | apply Kd.R_alloc | apply Kd.R_drewN | apply Kd.R_drew)); exact (Kd.R_mono (Kd.R_far (p := ⟨gb513, 3, none⟩) (Kd.R_far (p := ⟨gb513, 2, none⟩) (Kd.R_far (p := ⟨gb513, 1, none⟩) (Kd.R_far (p := ⟨gb513, 0, none⟩) (Kd.R_mono HO_34.out (fun k_ hk => (⟨hk, hk.2⟩ : _ ∧ k_ ≠ gb513))) (fun _ hk => hk.2) (.string ((rd_T48 t486 x286_4).f0))) (fun _ hk => hk.2) (.int .i64 ((rd_T48 t486 x286_4).f1))) (fun _ hk => hk.2) (.bool ((rd_T48 t486 x286_4).f2))) (fun _ hk => hk.2) (.string ((rd_T48 t486 x286_4).f3))) (fun _ h_ => h_.1)))); (case side2 => exact (Kd.R_reads' HO_34.out).2.1); rintro e w157 ⟨rfl, hb⟩; refine ⟨_, rfl, ?_⟩; have n0_ := Aside0.mk (Kd.R_below (by (with_reducible repeat (first | apply Kd.R_alloc | apply Kd.R_drewN | apply Kd.R_drew)); exact (Kd.R_mono (Kd.R_far (p := ⟨gb513, 3, none⟩) (Kd.R_far (p := ⟨gb513, 2, none⟩) (Kd.R_far (p := ⟨gb513, 1, none⟩) (Kd.R_far (p := ⟨gb513, 0, none⟩) (Kd.R_mono HO_34.out (fun k_ hk => (⟨hk, hk.2⟩ : _ ∧ k_ ≠ gb513))) (fun _ hk => hk.2) (.string ((rd_T48 t486 x286_4).f0))) (fun _ hk => hk.2) (.int .i64 ((rd_T48 t486 x286_4).f1))) (fun _ hk => hk.2) (.bool ((rd_T48 t486 x286_4).f2))) (fun _ hk => hk.2) (.string ((rd_T48 t486 x286_4).f3))) (fun _ h_ => h_.1))) hb); have n1_ := Aside0.mk (Kd.R_below (by (with_reducible repeat (first | apply Kd.R_alloc | apply Kd.R_drewN | apply Kd.R_drew)); exact (Kd.R_mono (Kd.R_far (p := ⟨gb513, 3, none⟩) (Kd.R_far (p := ⟨gb513, 2, none⟩) (Kd.R_far (p := ⟨gb513, 1, none⟩) (Kd.R_far (p := ⟨gb513, 0, none⟩) (Kd.R_types HO_36.out BK513.out (by decide)) (fun _ hk => hk.2) (.string ((rd_T48 t486 x286_4).f0))) (fun _ hk => hk.2) (.int .i64 ((rd_T48 t486 x286_4).f1))) (fun _ hk => hk.2) (.bool ((rd_T48 t486 x286_4).f2))) (fun _ hk => hk.2) (.string ((rd_T48 t486 x286_4).f3))) (fun _ h_ => h_.1))) hb); have n2_ := Aside0.mk (Kd.R_below (by (with_reducible repeat (first | apply Kd.R_alloc | apply Kd.R_drewN | apply Kd.R_drew)); exact (Kd.R_mono (Kd.R_far (p := ⟨gb513, 3, none⟩) (Kd.R_far (p := ⟨gb513, 2, none⟩) (Kd.R_far (p := ⟨gb513, 1, none⟩) (Kd.R_far (p := ⟨gb513, 0, none⟩) (Kd.R_mono HO_284.out (fun k_ hk => (⟨hk, hk.2⟩ : _ ∧ k_ ≠ gb513))) (fun _ hk => hk.2) (.string ((rd_T48 t486 x286_4).f0))) (fun _ hk => hk.2) (.int .i64 ((rd_T48 t486 x286_4).f1))) (fun _ hk => hk.2) (.bool ((rd_T48 t486 x286_4).f2))) (fun _ hk => hk.2) (.string ((rd_T48 t486 x286_4).f3))) (fun _ h_ => h_.1))) hb); have n3_ := Aside0.mk (blk_below (g := gb445) (o := .cells #[.string t441, .int .i64 t442, .bool t443, .string t444] 48 (0, 0)) (by (with_reducible repeat (first | refine blk_drewN ?_ _ | refine blk_drew ?_ | refine blk_alloc ?_ _)); refine blk_far ?_ NB445_513.out _; (with_reducible repeat (first | refine blk_drewN ?_ _ | refine blk_drew ?_ | refine blk_alloc ?_ _)); refine blk_far ?_ NB445_513.out _; (with_reducible repeat (first | refine blk_drewN ?_ _ | refine blk_drew ?_ | refine blk_alloc ?_ _)); refine blk_far ?_ NB445_513.out _; (with_reducible repeat (first | refine blk_drewN ?_ _ | refine blk_drew ?_ | refine blk_alloc ?_ _)); refine blk_far ?_ NB445_513.out _; (with_reducible repeat (first | refine blk_drewN ?_ _ | refine blk_drew ?_ | refine blk_alloc ?_ _)); exact BK445.out) hb); have n4_ := Aside0.mk (blk_below (g := gb513) (o := .cells #[.string ((rd_T48 t486 x286_4).f0), .int .i64 ((rd_T48 t486 x286_4).f1), .bool ((rd_T48 t486 x286_4).f2), .string ((rd_T48 t486 x286_4).f3)] 48 (0, 0)) (by (with_reducible repeat (first | refine blk_drewN ?_ _ | refine blk_drew ?_ | refine blk_alloc ?_ _)); refine blk_put (cs := #[.string ((rd_T48 t486 x286_4).f0), .int .i64 ((rd_T48 t486 x286_4).f1), .bool ((rd_T48 t486 x286_4).f2), .string (⟨#[]⟩ : ByteArray)]) ?_ 3 _ rfl; (with_reducible repeat (first | refine blk_drewN ?_ _ | refine blk_drew ?_ | refine blk_alloc ?_ _)); refine blk_put (cs := #[.string ((rd_T48 t486 x286_4).f0), .int .i64 ((rd_T48 t486 x286_4).f1), .bool false, .string (⟨#[]⟩ : ByteArray)]) ?_ 2 _ rfl; (with_reducible repeat (first | refine blk_drewN ?_ _ | refine blk_drew ?_ | refine blk_alloc ?_ _)); refine blk_put (cs := #[.string ((rd_T48 t486 x286_4).f0), .int .i64 0, .bool false, .string (⟨#[]⟩ : ByteArray)]) ?_ 1 _ rfl; (with_reducible repeat (first | refine blk_drewN ?_ _ | refine blk_drew ?_ | refine blk_alloc ?_ _)); refine blk_put (cs := #[.string (⟨#[]⟩ : ByteArray), .int .i64 0, .bool false, .string (⟨#[]⟩ : ByteArray)]) ?_ 0 _ rfl; (with_reducible repeat (first | refine blk_drewN ?_ _ | refine blk_drew ?_ | refine blk_alloc ?_ _)); exact BK513.out) hb); have n5_ := Aside0.mk (below_step (by repeat (first | (with_reducible first | exact HB.out | apply below_alloc | apply pw_below_drewN | apply below_drew1 | refine below_set ?_ GE445.out | refine below_set ?_ GE513.out) | exact HB.out)) hb); clear HO_34; clear HO_36; clear HO_284; clear BK445; clear BK513; clear HB; have HO_34 := n0_; have HO_36 := n1_; have HO_284 := n2_; have BK445 := n3_; have BK513 := n4_; have HB := n5_; clear n0_ n1_ n2_ n3_ n4_ n5_; (try clear hb); (try clear hb2); (try clear hk); (try clear hi); have hcz158_0 : w157.cell? ⟨gb513, 0, none⟩ = some (.string ((rd_T48 t486 x286_4).f0)) := (blk_cell BK513.out 0).trans rfl; have hcz158_1 : w157.cell? ⟨gb513, 1, none⟩ = some (.int .i64 ((rd_T48 t486 x286_4).f1)) := (blk_cell BK513.out 1).trans rfl; have hcz158_2 : w157.cell? ⟨gb513, 2, none⟩ = some (.bool ((rd_T48 t486 x286_4).f2)) := (blk_cell BK513.out 2).trans rfl; have hcz158_3 : w157.cell? ⟨gb513, 3, none⟩ = some (.string ((rd_T48 t486 x286_4).f3)) := (blk_cell BK513.out 3).trans rfl; have hfz158_0 := blk_frozen BK513.out 0; have hfz158_1 := blk_frozen BK513.out 1; have hfz158_2 := blk_frozen BK513.out 2; have hfz158_3 := blk_frozen BK513.out 3; obtain ⟨Ao159, co159, eo159⟩ := Kd.R_slice HO_36.out; subst eo159) | (go_at_call 45; (with_reducible refine (laws_hasText.calls k4 _ _ t490 ((rd_T48 t486 x286_4).f0) t517 _ ?side1 ?side2 A146.out).mono ?_); (case side1 => repeat (first | exact (Kd.R_reads' HO_36.out).2.2 | (with_reducible refine Kd.C_alloc ?_ _) | (with_reducible refine Kd.C_drewN ?_ _) | (with_reducible refine Kd.C_drew ?_))); (case side2 => exact (Kd.R_reads' HO_36.out).2.1); rintro e w' ⟨rfl, ⟨nd, rfl⟩⟩))
                go_roundg k4
                case measure => have := HJ6.out; have := HJ26.out; have := HJ109.out; have := HK4.out; omega
                case rel => exact ⟨(wrap64 (x286_4 + 1)), sq_e, H', ⟨by have := HJ6.out; have := HJ26.out; have := HJ109.out; have := HK4.out; omega⟩, ⟨by (with_reducible repeat (first | apply Kd.R_alloc | apply Kd.R_drewN | apply Kd.R_drew)); exact Kd.R_mono HO_34.out (fun _ hk => hk.1)⟩, ⟨by (with_reducible repeat (first | apply Kd.R_alloc | apply Kd.R_drewN | apply Kd.R_drew)); exact HO_36.out⟩, ⟨by (with_reducible repeat (first | apply Kd.R_alloc | apply Kd.R_drewN | apply Kd.R_drew)); exact Kd.R_mono HO_284.out (fun _ hk => hk.1)⟩, ⟨by (with_reducible repeat (first | refine blk_drewN ?_ _ | refine blk_drew ?_ | refine blk_alloc ?_ _)); exact BK445.out⟩, ⟨by repeat (first | (with_reducible first | exact HB.out | apply below_alloc | apply pw_below_drewN | apply below_drew1 | refine below_set ?_ GE445.out | refine below_set ?_ GE513.out) | exact HB.out)⟩⟩
              ·replace c145 := Bool.eq_false_iff.mpr c145
               subst c145
               have H1 : (some false) = some r := by rw [if_neg (show ¬ (false = true) by decide)] at H; exact H
               clear H
               have H := H1
               clear H1
               obtain rfl := Option.some.inj H
               cases hrt
             ·rw [if_neg c141] at H
              have c141b0 : decide (x286_4 < (t486.length : Int)) = false := decide_eq_false c141
              clear c141
              obtain rfl := Option.some.inj H
              go_wp2
              go_ret
              exact ⟨sq_w, by repeat (first | (with_reducible first | exact HB.out | apply below_alloc | apply pw_below_drewN | apply below_drew1 | refine below_set ?_ GE445.out) | exact HB.out)⟩
          ·replace c140 := Bool.eq_false_iff.mpr c140
           subst c140
           have H1 : (some true) = some r := by rw [if_neg (show ¬ (false = true) by decide)] at H; exact H
           clear H
           have H := H1
           clear H1
           obtain rfl := Option.some.inj H
           go_wp2
           go_ret
           exact ⟨sq_w, by repeat (first | (with_reducible first | exact HB.out | apply below_alloc | apply pw_below_drewN | apply below_drew1 | refine below_set ?_ GE445.out) | exact HB.out)⟩

/-- THE ONE PURE STATEMENT of laws_FnAsOf: yours. -/
def laws_FnAsOf.Pure : Prop := ∀ (l0 : List Int) (l1 : List Int), l0.length ≤ maxLen → l0.length * 1 ≤ 140737488351232 → (∀ x ∈ l0, (Lit.int .u8 x).wf = true) → l1.length ≤ maxLen → l1.length * 1 ≤ 140737488351232 → (∀ x ∈ l1, (Lit.int .u8 x).wf = true) → ∃ k, laws_FnAsOf.f k l0 l1 = some true
theorem laws_FnAsOf.walk (P : laws_FnAsOf.Pure) (a0 : Option Addr) (len0 cap0 : Nat) (z0 : List Int) (a1 : Option Addr) (len1 cap1 : Nat) (z1 : List Int) (w : World) (w0 : (a0 = none ∧ len0 = 0 ∧ cap0 = 0 ∧ z0 = []) ∨ ∃ x, a0 = some x ∧ len0 ≤ cap0 ∧ cap0 ≤ maxLen ∧ z0.length = cap0 ∧ (∀ i, i < z0.length → w.cell? (x.add i) = some (.int .u8 (z0.getD i 0))) ∧ ∀ n ∈ z0, (Lit.int .u8 n).wf = true) (y0 : len0 * 1 ≤ 140737488351232) (w1 : (a1 = none ∧ len1 = 0 ∧ cap1 = 0 ∧ z1 = []) ∨ ∃ x, a1 = some x ∧ len1 ≤ cap1 ∧ cap1 ≤ maxLen ∧ z1.length = cap1 ∧ (∀ i, i < z1.length → w.cell? (x.add i) = some (.int .u8 (z1.getD i 0))) ∧ ∀ n ∈ z1, (Lit.int .u8 n).wf = true) (y1 : len1 * 1 ≤ 140737488351232) :
  Calls Try.prog 5 #[.slice a0 len0 cap0, .slice a1 len1 cap1] w fun e w' => e = .returned (.bool true) ∧ Below w.heap.size w w' := by
 obtain ⟨l0, rfl, hr0, hm0, hw0, hc0⟩ := ReadsInt.ofRowC w0
 obtain ⟨l1, rfl, hr1, hm1, hw1, hc1⟩ := ReadsInt.ofRowC w1
 obtain ⟨k, h⟩ := P l0 l1 hm0 y0 hw0 hm1 y1 hw1
 refine (laws_FnAsOf.calls k _ _ l0 _ _ l1 true rfl w (Kd.C_of_reads (d := (0 : Int)) (h1 := fun _ => rfl) hr0) hc0 (Kd.C_of_reads (d := (0 : Int)) (h1 := fun _ => rfl) hr1) hc1 h).mono ?_
 rintro e w' ⟨rfl, hd⟩
 exact ⟨rfl, hd⟩

end Go.Proofs.Ytabfkalcjfjkiaa.QFnAsOf
