/- Stable sorting of lists, by insertion and by merging: both leave the same. No conditions. -/
import Derived.Test.YtabfkalcjfjkiaaBase
namespace Go.Proofs.Ytabfkalcjfjkiaa.Stable
set_option linter.unusedSimpArgs false
set_option linter.unusedVariables false
variable {α : Type}

/-- Put behind all that it isn't less than, from the left. -/
def ins (lt : α → α → Bool) (x : α) : List α → List α
  | [] => [x]
  | y :: l => if lt x y = true then x :: y :: l else y :: ins lt x l
def isort (lt : α → α → Bool) (l : List α) : List α := l.foldl (fun a x => ins lt x a) []
/-- Two lists merged; the right one's element goes first only where it is less. -/
def mrg (lt : α → α → Bool) : List α → List α → List α
  | [], r => r
  | l, [] => l
  | x :: l, y :: r => if lt y x = true then y :: mrg lt (x :: l) r else x :: mrg lt l (y :: r)
termination_by l r => l.length + r.length
/-- What a comparison must be. -/
structure Weak (lt : α → α → Bool) : Prop where
  asym : ∀ x y, lt x y = true → lt y x = false
  neg : ∀ x y z, lt x y = false → lt y z = false → lt x z = false
theorem Weak.trans {lt : α → α → Bool} (h : Weak lt) {x y z : α} (h1 : lt x y = true) (h2 : lt y z = true) : lt x z = true := by
  cases h3 : lt x z with
  | true => rfl
  | false =>
    have h4 := h.neg x z y h3 (h.asym _ _ h2)
    rw [h1] at h4; cases h4
variable {lt : α → α → Bool}
theorem mrg_nil (l : List α) : mrg lt l [] = l := by cases l <;> simp [mrg]
theorem nil_mrg (l : List α) : mrg lt [] l = l := by simp [mrg]
theorem mrg_cons (x y : α) (l r : List α) : mrg lt (x :: l) (y :: r) = if lt y x = true then y :: mrg lt (x :: l) r else x :: mrg lt l (y :: r) := by rw [mrg]
theorem mrg_ins (h : Weak lt) (x : α) : ∀ (n : Nat) (l r : List α), l.length + r.length ≤ n → mrg lt l (ins lt x r) = ins lt x (mrg lt l r)
  | _, [], r, _ => by rw [nil_mrg, nil_mrg]
  | 0, l :: L, r, hn => by simp at hn
  | n + 1, l :: L, [], hn => by
    have ih := mrg_ins h x n L [] (by simp at hn ⊢; omega)
    simp only [ins, mrg_nil] at ih ⊢
    rw [mrg_cons]
    split
    · rw [mrg_nil]
    · rw [ih]
  | n + 1, l :: L, r :: R, hn => by
    have ih1 := mrg_ins h x n L (r :: R) (by simp at hn ⊢; omega)
    have ih2 := mrg_ins h x n (l :: L) R (by simp at hn ⊢; omega)
    rw [mrg_cons]
    by_cases h1 : lt x r = true
    · have e1 : ins lt x (r :: R) = x :: r :: R := by rw [ins, if_pos h1]
      rw [e1] at ih1 ⊢
      rw [mrg_cons]
      by_cases h2 : lt r l = true
      · rw [if_pos h2, if_pos (h.trans h1 h2), ins, if_pos h1, mrg_cons, if_pos h2]
      · rw [if_neg h2, ins]
        by_cases h3 : lt x l = true
        · rw [if_pos h3, if_pos h3, mrg_cons, if_neg h2]
        · rw [if_neg h3, if_neg h3, ih1]
    · have e1 : ins lt x (r :: R) = r :: ins lt x R := by rw [ins, if_neg h1]
      rw [e1] at ih1 ⊢
      rw [mrg_cons]
      by_cases h2 : lt r l = true
      · rw [if_pos h2, if_pos h2, ins, if_neg h1, ih2]
      · rw [if_neg h2, if_neg h2, ins]
        have h3 : lt x l = false := h.neg x r l (by simpa using h1) (by simpa using h2)
        rw [if_neg (by rw [h3]; simp), ih1]
theorem mrg_foldl (h : Weak lt) : ∀ (r l acc : List α), mrg lt l (r.foldl (fun a x => ins lt x a) acc) = r.foldl (fun a x => ins lt x a) (mrg lt l acc)
  | [], l, acc => rfl
  | x :: r, l, acc => by
    simp only [List.foldl_cons]
    rw [mrg_foldl h r l (ins lt x acc), mrg_ins h x _ l acc (Nat.le_refl _)]
/-- Sorting two lists behind one another is merging them, sorted. -/
theorem isort_append (h : Weak lt) (l r : List α) : isort lt (l ++ r) = mrg lt (isort lt l) (isort lt r) := by
  unfold isort
  rw [mrg_foldl h, mrg_nil, List.foldl_append]
theorem ins_length (x : α) : ∀ l : List α, (ins lt x l).length = l.length + 1
  | [] => rfl
  | y :: l => by
    unfold ins
    split
    · rfl
    · rw [List.length_cons, ins_length x l]; rfl
theorem foldl_ins_length : ∀ (l acc : List α), (l.foldl (fun a x => ins lt x a) acc).length = acc.length + l.length
  | [], acc => rfl
  | x :: l, acc => by
    rw [List.foldl_cons, foldl_ins_length l, ins_length, List.length_cons]; omega
theorem isort_length (l : List α) : (isort lt l).length = l.length := by
  unfold isort
  rw [foldl_ins_length]; simp
theorem mem_ins (x y : α) : ∀ l : List α, y ∈ ins lt x l ↔ y = x ∨ y ∈ l
  | [] => by simp [ins]
  | z :: l => by
    unfold ins
    split
    · simp
    · rw [List.mem_cons, mem_ins x y l, List.mem_cons]
      constructor
      · rintro (h | h | h) <;> simp [h]
      · rintro (h | h | h) <;> simp [h]
/-- None is less than one ahead of it. -/
def Sorted (lt : α → α → Bool) (l : List α) : Prop := l.Pairwise fun x y => lt y x = false
theorem Sorted.ins (h : Weak lt) (x : α) : ∀ {l : List α}, Sorted lt l → Sorted lt (ins lt x l)
  | [], _ => by simp [Stable.ins, Sorted]
  | y :: l, hs => by
    unfold Sorted at hs
    rw [List.pairwise_cons] at hs
    unfold Stable.ins
    split
    · rename_i hx
      unfold Sorted
      rw [List.pairwise_cons, List.pairwise_cons]
      refine ⟨fun z hz => ?_, hs⟩
      rw [List.mem_cons] at hz
      rcases hz with rfl | hz
      · exact h.asym _ _ hx
      · exact h.neg z y x (hs.1 z hz) (h.asym _ _ hx)
    · rename_i hx
      unfold Sorted
      rw [List.pairwise_cons]
      refine ⟨fun z hz => ?_, Sorted.ins h x hs.2⟩
      rcases (mem_ins x z l).1 hz with rfl | hz
      · simpa using hx
      · exact hs.1 z hz
theorem foldl_sorted (h : Weak lt) : ∀ (l acc : List α), Sorted lt acc → Sorted lt (l.foldl (fun a x => Stable.ins lt x a) acc)
  | [], acc, hs => hs
  | x :: l, acc, hs => foldl_sorted h l _ (hs.ins h x)
theorem isort_sorted (h : Weak lt) (l : List α) : Sorted lt (isort lt l) := foldl_sorted h l [] (by simp [Sorted])
/-- Behind a sorted list's end: put where it belongs. -/
theorem ins_append (h : Weak lt) (x : α) : ∀ (l r : List α), (∀ y ∈ l, lt x y = false) → ins lt x (l ++ r) = l ++ ins lt x r
  | [], r, _ => rfl
  | y :: l, r, hl => by
    rw [List.cons_append, ins, if_neg (by rw [hl y (by simp)]; simp), ins_append h x l r (fun z hz => hl z (by simp [hz]))]; rfl
theorem ins_front (x : α) : ∀ (r : List α), (∀ y ∈ r.head?, lt x y = true) → ins lt x r = x :: r
  | [], _ => rfl
  | y :: r, hr => by rw [ins, if_pos (hr y rfl)]
/-- Cut where all goes apart, merging is merging the parts. -/
theorem mrg_cut : ∀ (n : Nat) (l1 r1 l2 r2 : List α), l1.length + r1.length ≤ n → (∀ x ∈ l1, ∀ y ∈ r2, lt y x = false) → (∀ y ∈ r1, ∀ x ∈ l2, lt y x = true) →
    mrg lt (l1 ++ l2) (r1 ++ r2) = mrg lt l1 r1 ++ mrg lt l2 r2
  | _, [], [], l2, r2, _, _, _ => by simp [nil_mrg]
  | 0, x :: l1, r1, l2, r2, hn, _, _ => by simp at hn
  | 0, [], y :: r1, l2, r2, hn, _, _ => by simp at hn
  | n + 1, [], y :: r1, l2, r2, hn, h1, h2 => by
    have ih := mrg_cut n [] r1 l2 r2 (by simp at hn ⊢; omega) (by simp) (fun z hz x hx => h2 z (by simp [hz]) x hx)
    rw [nil_mrg] at ih ⊢
    rw [List.nil_append] at ih ⊢
    cases l2 with
    | nil => rw [nil_mrg, nil_mrg]
    | cons x l2 =>
      rw [List.cons_append, mrg_cons, if_pos (h2 y (by simp) x (by simp)), ih]; rfl
  | n + 1, x :: l1, [], l2, r2, hn, h1, h2 => by
    have ih := mrg_cut n l1 [] l2 r2 (by simp at hn ⊢; omega) (fun z hz y hy => h1 z (by simp [hz]) y hy) (by simp)
    rw [mrg_nil] at ih ⊢
    rw [List.nil_append] at ih ⊢
    cases r2 with
    | nil => rw [mrg_nil, mrg_nil]
    | cons y r2 =>
      rw [List.cons_append, mrg_cons, if_neg (by rw [h1 x (by simp) y (by simp)]; simp), ih]; rfl
  | n + 1, x :: l1, y :: r1, l2, r2, hn, h1, h2 => by
    have ih1 := mrg_cut n l1 (y :: r1) l2 r2 (by simp at hn ⊢; omega) (fun z hz w hw => h1 z (by simp [hz]) w hw) h2
    have ih2 := mrg_cut n (x :: l1) r1 l2 r2 (by simp at hn ⊢; omega) h1 (fun z hz w hw => h2 z (by simp [hz]) w hw)
    rw [List.cons_append, List.cons_append, mrg_cons, mrg_cons]
    rw [List.cons_append] at ih1 ih2
    split
    · rw [ih2]; rfl
    · rw [ih1]; rfl
theorem mrg_one (h : Weak lt) (x : α) : ∀ r : List α, mrg lt r [x] = ins lt x r
  | [] => by rw [nil_mrg]; rfl
  | y :: r => by
    rw [mrg_cons, ins]
    split
    · rw [mrg_nil]
    · rw [mrg_one h x r]
end Go.Proofs.Ytabfkalcjfjkiaa.Stable
