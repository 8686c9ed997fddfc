/- This session's own words for walks by hand: rows of rows, taken apart and put together; predicates that answer or not. No conditions. -/
import Derived.Test.YtkoackkimdanjaaExtG
import Derived.Test.YtkoackkimdanjaaExtE
namespace Go.Proofs.Ytkoackkimdanjaa.Ext
open Go.RowKit Go.Proofs.YtkoackkimdanjaaW.PrintWords
set_option linter.unusedSimpArgs false
set_option linter.unusedVariables false
section
variable {α : Type} {d : Kd α} {e base : Nat} {w : World} {v : Value} {ok : Nat → Prop}
end
/-- The first one that is such. -/
def idxF {α : Type} (p : α → Bool) : List α → Nat → Int
 | [], _ => -1
 | x :: l, i => if p x then i else idxF p l (i + 1)
theorem idxF_drop {α : Type} (p : α → Bool) (xs : List α) (i : Nat) (x : α) (l : List α) (h : xs.drop i = x :: l) : idxF p (xs.drop i) i = if p x then (i : Int) else idxF p (xs.drop (i + 1)) (i + 1) := by
 have h2 : xs.drop (i + 1) = l := by rw [← List.drop_drop, h]; rfl
 rw [h, h2, idxF]
theorem idxF_none {α : Type} (p : α → Bool) : ∀ (l : List α) (i : Nat), idxF p l i = -1 → l.filter (fun x => !p x) = l
 | [], _, _ => rfl
 | x :: l, i, h => by
  unfold idxF at h
  by_cases hp : p x = true
  ·rw [if_pos hp] at h; omega
  ·rw [if_neg hp] at h
   rw [List.filter_cons_of_pos (by simpa using hp), idxF_none p l (i + 1) h]
theorem idxF_some {α : Type} (p : α → Bool) : ∀ (l : List α) (i : Nat), idxF p l i ≠ -1 → ∃ k x, k < l.length ∧ idxF p l i = ((i + k : Nat) : Int) ∧ l[k]? = some x ∧ p x = true ∧ (l.take k).filter (fun x => !p x) = l.take k
 | [], _, h => absurd rfl h
 | x :: l, i, h => by
  unfold idxF at h ⊢
  by_cases hp : p x = true
  ·rw [if_pos hp]
   exact ⟨0, x, by simp, by simp, rfl, hp, rfl⟩
  ·rw [if_neg hp] at h ⊢
   obtain ⟨k, y, h1, h2, h3, h4, h5⟩ := idxF_some p l (i + 1) h
   refine ⟨k + 1, y, by simpa using h1, by rw [h2]; congr 1; omega, by simpa using h3, h4, ?_⟩
   rw [List.take_succ_cons, List.filter_cons_of_pos (by simpa using hp), h5]
end Go.Proofs.Ytkoackkimdanjaa.Ext
