/- Stable sorting of lists, by insertion and by merging: both leave the same. No conditions. -/
import Derived.Test.YtabfkalcjfjkiaaBase
namespace Go.Proofs.Ytabfkalcjfjkiaa.Stable
set_option linter.unusedSimpArgs false
set_option linter.unusedVariables false
variable {α : Type}

/-- What a comparison must be. -/
structure Weak (lt : α → α → Bool) : Prop where
 asym : ∀ x y, lt x y = true → lt y x = false
 neg : ∀ x y z, lt x y = false → lt y z = false → lt x z = false
theorem Weak.trans {lt : α → α → Bool} (h : Weak lt) {x y z : α} (h1 : lt x y = true) (h2 : lt y z = true) : lt x z = true := by
 cases h3 : lt x z with
 | true => rfl
 | false =>
  have h4 := h.neg x z y h3 (h.asym _ _ h2)
  rw [h1] at h4; cases h4
variable {lt : α → α → Bool}
end Go.Proofs.Ytabfkalcjfjkiaa.Stable
