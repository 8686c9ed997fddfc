/- This session's own words for printed walks, the fourth lot: slices.Grow of a nil slice, by the library's contract. No conditions. -/
import Derived.Test.YtabfkalcjfjkiaaExtB
import Derived.Test.YtabfkalcjfjkiaaWKept
import Derived.Shelf.Spec.SlicesGrow
namespace Go.Proofs.Ytabfkalcjfjkiaa.Ext
open Go.Shelf Go.RowKit Go.Proofs.YtabfkalcjfjkiaaW.PrintWords
set_option linter.unusedSimpArgs false
set_option linter.unusedVariables false
variable {P : Program} {ρ : Ren}
/-- slices.Grow(nil, n): a row of the call's own with no element. -/
theorem grow_nil_calls (L : Lays8.n4 P ρ) {α : Type} (d : Kd α) (i0 : TypeInfo) (z : Value) (hi0 : P.info? (ρ.t 25) = some i0) (hz0 : i0.zero = some z) (hs0 : 0 < i0.size) (hsz : d.sz = i0.size) (hzs : z.cells.size = i0.size) (n : Nat) (hn : n * i0.bytes ≤ 140737488355328) (h63 : n ≤ 1073741824) (w : World) :
    Calls P (ρ.f 4) #[.slice none 0 0, .int .i64 n] w fun e w' => ∃ v : Value, e = .returned v ∧ d.R (ρ.t 25) w' w.heap.size (fun _ => True) v [] ∧ Below w.heap.size w w' := by
  rcases Nat.eq_zero_or_pos n with rfl | hp
  · refine (Any8.slices_Grow_room L none 0 0 0 w (Nat.le_refl _) (by omega) (by omega) (Nat.le_refl _)).mono ?_
    rintro e w' ⟨rfl, rfl⟩
    exact ⟨_, rfl, Kd.R_nil _ _ _ _ _, Below.refl _ _⟩
  · refine (Any8.slices_Grow_grow L i0 z hi0 hz0 hs0 none 0 0 n [] w (Nat.le_refl _) (by omega) (by simpa using hn) (by omega) (by simp) (fun _ => rfl) (fun a h => by cases h)).mono ?_
    rintro e w' ⟨rfl, rfl⟩
    refine ⟨_, rfl, ⟨fun _ _ => trivial, [], ⟨by simp, .inr ⟨w.heap.size, grownCap w (0 + n) 0 (ρ.t 25), ([] : List Value).toArray ++ Builtin.zeroCells z.cells (0 + n - 0) ++ Builtin.zeroCells z.cells (grownCap w (0 + n) 0 (ρ.t 25) - (0 + n)), rfl, Nat.le_refl _, ?_, Nat.zero_le _, grownCap_le_maxLen w (0 + n) 0 (ρ.t 25) ?_, ?_, by simp⟩⟩, ⟨by simp, fun j p hj => by simp at hj⟩⟩, below_alloc (below_drew1 (Below.refl _ _)) _⟩
    · exact heap_alloc_new w.drew _
    · simp only [maxLen]; omega
    · have hge := grownCap_ge w (0 + n) 0 (ρ.t 25)
      simp only [Array.size_append, size_zeroCells, hzs, hsz, List.size_toArray, List.length_nil]
      rw [Nat.zero_add, Nat.sub_zero, ← Nat.add_mul]
      congr 1
      omega
end Go.Proofs.Ytabfkalcjfjkiaa.Ext
