/- This session's own words for walks by hand: rows of rows, taken apart and put together; predicates that answer or not. No conditions. -/
import Derived.Test.YtkoackkimdanjaaExtG
import Derived.Test.YtkoackkimdanjaaExtE
namespace Go.Proofs.Ytkoackkimdanjaa.Ext
open Go.RowKit Go.Proofs.YtkoackkimdanjaaW.PrintWords
set_option linter.unusedSimpArgs false
set_option linter.unusedVariables false
section
variable {α : Type} {d : Kd α} {e base : Nat} {w : World} {v : Value} {ok : Nat → Prop}
end
/-- The first one that is such. -/
def idxF {α : Type} (p : α → Bool) : List α → Nat → Int
 | [], _ => -1
 | x :: l, i => if p x then i else idxF p l (i + 1)
theorem idxF_drop {α : Type} (p : α → Bool) (xs : List α) (i : Nat) (x : α) (l : List α) (h : xs.drop i = x :: l) : idxF p (xs.drop i) i = if p x then (i : Int) else idxF p (xs.drop (i + 1)) (i + 1) := by
 have h2 : xs.drop (i + 1) = l := by rw [← List.drop_drop, h]; rfl
 rw [h, h2, idxF]
theorem idxF_none {α : Type} (p : α → Bool) : ∀ (l : List α) (i : Nat), idxF p l i = -1 → l.filter (fun x => !p x) = l
 | [], _, _ => rfl
 | x :: l, i, h => by
  unfold idxF at h
  by_cases hp : p x = true
  ·rw [if_pos hp] at h; omega
  ·rw [if_neg hp] at h
   rw [List.filter_cons_of_pos (by simpa using hp), idxF_none p l (i + 1) h]
theorem idxF_some {α : Type} (p : α → Bool) : ∀ (l : List α) (i : Nat), idxF p l i ≠ -1 → ∃ k x, k < l.length ∧ idxF p l i = ((i + k : Nat) : Int) ∧ l[k]? = some x ∧ p x = true ∧ (l.take k).filter (fun x => !p x) = l.take k
 | [], _, h => absurd rfl h
 | x :: l, i, h => by
  unfold idxF at h ⊢
  by_cases hp : p x = true
  ·rw [if_pos hp]
   exact ⟨0, x, by simp, by simp, rfl, hp, rfl⟩
  ·rw [if_neg hp] at h ⊢
   obtain ⟨k, y, h1, h2, h3, h4, h5⟩ := idxF_some p l (i + 1) h
   refine ⟨k + 1, y, by simpa using h1, by rw [h2]; congr 1; omega, by simpa using h3, h4, ?_⟩
   rw [List.take_succ_cons, List.filter_cons_of_pos (by simpa using hp), h5]
/-- slices.DeleteFunc's second loop: j elements are looked at, i of them are kept. -/
def DelRel {α : Type} (p : α → Bool) (xs ys : List α) (i j : Nat) : Prop := i < j ∧ j ≤ xs.length ∧ ys.length = xs.length ∧ ys.take i = (xs.take j).filter (fun x => !p x) ∧ ys.drop j = xs.drop j
theorem DelRel.start {α : Type} {p : α → Bool} {xs : List α} {k : Nat} {x : α} (h1 : k < xs.length) (h3 : xs[k]? = some x) (h4 : p x = true) (h5 : (xs.take k).filter (fun x => !p x) = xs.take k) : DelRel p xs xs k (k + 1) := by
 refine ⟨by omega, by omega, rfl, ?_, rfl⟩
 rw [List.take_add_one, h3, List.filter_append, h5]
 simp [h4]
theorem DelRel.next {α : Type} {p : α → Bool} {xs ys : List α} {i j : Nat} (h : DelRel p xs ys i j) (hj : j < xs.length) : ∃ x, ys[j]? = some x ∧ xs[j]? = some x ∧ (p x = true → DelRel p xs ys i (j + 1)) ∧ (p x = false → DelRel p xs (ys.set i x) (i + 1) (j + 1)) := by
 obtain ⟨h0, h1, h2, h3, h4⟩ := h
 have e1 : ys[j]? = xs[j]? := by
  have := congrArg (fun q => q[0]?) h4
  simpa using this
 have e2 : xs[j]? = some xs[j] := List.getElem?_eq_getElem hj
 refine ⟨xs[j], e1.trans e2, e2, fun hp => ⟨by omega, by omega, h2, ?_, ?_⟩, fun hp => ⟨by omega, by omega, by rw [List.length_set]; exact h2, ?_, ?_⟩⟩
 ·rw [h3, List.take_add_one, e2, List.filter_append]
  simp [hp]
 ·rw [← List.drop_drop, h4, List.drop_drop]
 ·rw [List.take_add_one (l := xs), e2, List.filter_append, ← h3, List.take_add_one, List.getElem?_set_self (by omega), List.take_set_of_le (Nat.le_refl _)]
  simp [hp]
 ·rw [List.drop_set_of_lt (by omega), ← List.drop_drop, h4, List.drop_drop]
theorem DelRel.done {α : Type} {p : α → Bool} {xs ys : List α} {i j : Nat} (h : DelRel p xs ys i j) (hj : ¬ j < xs.length) : ys.take i = xs.filter (fun x => !p x) := by
 have : j = xs.length := by have := h.2.1; omega
 subst this
 rw [h.2.2.2.1, List.take_length]
end Go.Proofs.Ytkoackkimdanjaa.Ext
