/- Two strictly rising lists put together: one by one, and by sorting all and taking neighbours but once: the same, or both refuse. No conditions. -/
import Derived.Test.YtabfkalcjfjkiaaStable
namespace Go.Proofs.Ytabfkalcjfjkiaa.Merge
open Go.Proofs.Ytabfkalcjfjkiaa.Stable
set_option linter.unusedSimpArgs false
set_option linter.unusedVariables false
set_option linter.unusedSectionVars false
variable {α : Type} [DecidableEq α]
def compFrom (p : α) : List α → List α
  | [] => []
  | y :: l => if y = p then compFrom p l else y :: compFrom y l
/-- Neighbours that are equal, but once. -/
def comp : List α → List α
  | [] => []
  | x :: l => x :: compFrom x l
def Strict (lt : α → α → Bool) (l : List α) : Prop := l.Pairwise fun x y => lt x y = true
/-- One put in its place; none where another one is there. -/
def put (lt : α → α → Bool) (x : α) : List α → Option (List α)
  | [] => some [x]
  | y :: l => if lt y x = true then (put lt x l).map (y :: ·) else if lt x y = true then some (x :: y :: l) else if y = x then some (y :: l) else none
def puts (lt : α → α → Bool) (a : List α) : List α → Option (List α)
  | [] => some a
  | x :: b => (put lt x a).bind fun a' => puts lt a' b
def um (lt : α → α → Bool) : List α → List α → Option (List α)
  | [], b => some b
  | a, [] => some a
  | x :: a, y :: b => if lt x y = true then (um lt a (y :: b)).map (x :: ·) else if lt y x = true then (um lt (x :: a) b).map (y :: ·) else if x = y then (um lt a b).map (x :: ·) else none
termination_by a b => a.length + b.length
variable {lt : α → α → Bool}
theorem um_nil (a : List α) : um lt a [] = some a := by cases a <;> simp [um]
theorem nil_um (b : List α) : um lt [] b = some b := by simp [um]
theorem um_cons (x y : α) (a b : List α) : um lt (x :: a) (y :: b) = if lt x y = true then (um lt a (y :: b)).map (x :: ·) else if lt y x = true then (um lt (x :: a) b).map (y :: ·) else if x = y then (um lt a b).map (x :: ·) else none := by rw [um]
theorem put_front (x : α) : ∀ (a : List α), (∀ z ∈ a, lt x z = true) → (hw : Weak lt) → put lt x a = some (x :: a)
  | [], _, _ => rfl
  | y :: a, h, hw => by
    have h1 := h y (by simp)
    rw [put, if_neg (by rw [hw.asym _ _ h1]; simp), if_pos h1]
/-- What comes ahead of all that is put stays ahead. -/
theorem puts_cons (x : α) : ∀ (b a : List α), (∀ z ∈ b, lt x z = true) → puts lt (x :: a) b = (puts lt a b).map (x :: ·)
  | [], a, _ => rfl
  | y :: b, a, h => by
    have h1 := h y (by simp)
    unfold puts
    rw [put, if_pos h1]
    cases hp : put lt y a with
    | none => rfl
    | some a' =>
      simp only [Option.map_some, Option.bind_some]
      exact puts_cons x b a' (fun z hz => h z (by simp [hz]))
theorem puts_um (hw : Weak lt) : ∀ (n : Nat) (a b : List α), a.length + b.length ≤ n → Strict lt a → Strict lt b → puts lt a b = um lt a b
  | _, a, [], _, _, _ => by rw [um_nil]; rfl
  | 0, a, y :: b, hn, _, _ => by simp at hn
  | n + 1, [], y :: b, hn, ha, hb => by
    unfold Strict at hb
    rw [List.pairwise_cons] at hb
    unfold puts
    rw [put, Option.bind_some, puts_cons y b [] hb.1, puts_um hw n [] b (by simp at hn ⊢; omega) ha hb.2, nil_um, nil_um]; rfl
  | n + 1, x :: a, y :: b, hn, ha, hb => by
    have ha' := ha
    have hb' := hb
    unfold Strict at ha hb
    rw [List.pairwise_cons] at ha hb
    rw [um_cons]
    by_cases h1 : lt x y = true
    · rw [if_pos h1, puts_cons x (y :: b) a (fun z hz => by
        rcases List.mem_cons.1 hz with rfl | hz
        · exact h1
        · exact hw.trans h1 (hb.1 z hz)), puts_um hw n a (y :: b) (by simp at hn ⊢; omega) ha.2 hb']
    · rw [if_neg h1]
      unfold puts
      rw [put, if_neg h1]
      by_cases h2 : lt y x = true
      · rw [if_pos h2, if_pos h2, Option.bind_some, puts_cons y b (x :: a) hb.1, puts_um hw n (x :: a) b (by simp at hn ⊢; omega) ha' hb.2]
      · rw [if_neg h2, if_neg h2]
        by_cases h3 : x = y
        · subst h3
          rw [if_pos rfl, if_pos rfl, Option.bind_some, puts_cons x b a hb.1, puts_um hw n a b (by simp at hn ⊢; omega) ha.2 hb.2]
        · rw [if_neg h3, if_neg h3]; rfl
theorem compFrom_mem (p : α) : ∀ (l : List α) (z : α), z ∈ compFrom p l → z ∈ l
  | [], z, h => by simp [compFrom] at h
  | y :: l, z, h => by
    unfold compFrom at h
    split at h
    · exact List.mem_cons_of_mem _ (compFrom_mem p l z h)
    · rcases List.mem_cons.1 h with rfl | h
      · simp
      · exact List.mem_cons_of_mem _ (compFrom_mem y l z h)
theorem compFrom_lt (hw : Weak lt) (p : α) : ∀ (l : List α), (∀ z ∈ l, lt p z = true) → compFrom p l = comp l
  | [], _ => rfl
  | y :: l, h => by
    have h1 := h y (by simp)
    unfold compFrom comp
    rw [if_neg (fun e => by subst e; have := hw.asym _ _ h1; rw [h1] at this; cases this)]
theorem mem_mrg : ∀ (n : Nat) (a b : List α), a.length + b.length ≤ n → ∀ z, z ∈ mrg lt a b → z ∈ a ∨ z ∈ b
  | _, [], b, _, z, h => by rw [nil_mrg] at h; exact .inr h
  | _, x :: a, [], _, z, h => by rw [mrg_nil] at h; exact .inl h
  | 0, x :: a, y :: b, hn, z, h => by simp at hn
  | n + 1, x :: a, y :: b, hn, z, h => by
    rw [mrg_cons] at h
    split at h
    · rcases List.mem_cons.1 h with rfl | h
      · exact .inr (by simp)
      · rcases mem_mrg n (x :: a) b (by simp at hn ⊢; omega) z h with h | h
        · exact .inl h
        · exact .inr (by simp [h])
    · rcases List.mem_cons.1 h with rfl | h
      · exact .inl (by simp)
      · rcases mem_mrg n a (y :: b) (by simp at hn ⊢; omega) z h with h | h
        · exact .inl (by simp [h])
        · exact .inr h
theorem comp_strict (hw : Weak lt) : ∀ (l : List α), Strict lt l → comp l = l
  | [], _ => rfl
  | x :: l, h => by
    unfold Strict at h
    rw [List.pairwise_cons] at h
    show x :: compFrom x l = x :: l
    rw [compFrom_lt hw x l h.1, comp_strict hw l h.2]
/-- Both ways: where one answers, the other one's list is strictly rising, and the same; where it refuses, that list isn't. -/
theorem um_comp (hw : Weak lt) : ∀ (n : Nat) (a b : List α), a.length + b.length ≤ n → Strict lt a → Strict lt b →
    (∀ c, um lt a b = some c → comp (mrg lt a b) = c ∧ Strict lt c) ∧ (um lt a b = none → ¬ Strict lt (comp (mrg lt a b)))
  | _, [], b, _, ha, hb => by
    rw [nil_um, nil_mrg]
    refine ⟨fun c h => ?_, fun h => by cases h⟩
    injection h with h
    subst h
    exact ⟨comp_strict hw b hb, hb⟩
  | _, x :: a, [], _, ha, hb => by
    rw [um_nil, mrg_nil]
    refine ⟨fun c h => ?_, fun h => by cases h⟩
    injection h with h
    subst h
    exact ⟨comp_strict hw _ ha, ha⟩
  | 0, x :: a, y :: b, hn, _, _ => by simp at hn
  | n + 1, x :: a, y :: b, hn, ha, hb => by
    have ha' := ha
    have hb' := hb
    unfold Strict at ha hb
    rw [List.pairwise_cons] at ha hb
    rw [um_cons, mrg_cons]
    by_cases h1 : lt x y = true
    · obtain ⟨i1, i2⟩ := um_comp hw n a (y :: b) (by simp at hn ⊢; omega) ha.2 hb'
      have hall : ∀ z ∈ mrg lt a (y :: b), lt x z = true := by
        intro z hz
        rcases mem_mrg _ a (y :: b) (Nat.le_refl _) z hz with hz | hz
        · exact ha.1 z hz
        · rcases List.mem_cons.1 hz with rfl | hz
          · exact h1
          · exact hw.trans h1 (hb.1 z hz)
      rw [if_pos h1, if_neg (by rw [hw.asym _ _ h1]; simp)]
      have hc : comp (x :: mrg lt a (y :: b)) = x :: comp (mrg lt a (y :: b)) := by rw [comp, compFrom_lt hw x _ hall]
      rw [hc]
      have hcm : ∀ z ∈ comp (mrg lt a (y :: b)), lt x z = true := by
        intro z hz
        cases hm : mrg lt a (y :: b) with
        | nil => rw [hm] at hz; simp [comp] at hz
        | cons w l =>
          rw [hm] at hz hall
          rw [comp, List.mem_cons] at hz
          rcases hz with rfl | hz
          · exact hall _ (by simp)
          · exact hall z (List.mem_cons_of_mem _ (compFrom_mem w l z hz))
      refine ⟨fun c h => ?_, fun h hs => ?_⟩
      · obtain ⟨c', hc', rfl⟩ := Option.map_eq_some_iff.1 h
        obtain ⟨e, s⟩ := i1 c' hc'
        rw [e] at hcm ⊢
        exact ⟨rfl, by unfold Strict; rw [List.pairwise_cons]; exact ⟨hcm, s⟩⟩
      · unfold Strict at hs
        rw [List.pairwise_cons] at hs
        exact i2 (by simpa using h) hs.2
    · rw [if_neg h1]
      by_cases h2 : lt y x = true
      · obtain ⟨i1, i2⟩ := um_comp hw n (x :: a) b (by simp at hn ⊢; omega) ha' hb.2
        have hall : ∀ z ∈ mrg lt (x :: a) b, lt y z = true := by
          intro z hz
          rcases mem_mrg _ (x :: a) b (Nat.le_refl _) z hz with hz | hz
          · rcases List.mem_cons.1 hz with rfl | hz
            · exact h2
            · exact hw.trans h2 (ha.1 z hz)
          · exact hb.1 z hz
        rw [if_pos h2, if_pos h2]
        have hc : comp (y :: mrg lt (x :: a) b) = y :: comp (mrg lt (x :: a) b) := by rw [comp, compFrom_lt hw y _ hall]
        rw [hc]
        have hcm : ∀ z ∈ comp (mrg lt (x :: a) b), lt y z = true := by
          intro z hz
          cases hm : mrg lt (x :: a) b with
          | nil => rw [hm] at hz; simp [comp] at hz
          | cons w l =>
            rw [hm] at hz hall
            rw [comp, List.mem_cons] at hz
            rcases hz with rfl | hz
            · exact hall _ (by simp)
            · exact hall z (List.mem_cons_of_mem _ (compFrom_mem w l z hz))
        refine ⟨fun c h => ?_, fun h hs => ?_⟩
        · obtain ⟨c', hc', rfl⟩ := Option.map_eq_some_iff.1 h
          obtain ⟨e, s⟩ := i1 c' hc'
          rw [e] at hcm ⊢
          exact ⟨rfl, by unfold Strict; rw [List.pairwise_cons]; exact ⟨hcm, s⟩⟩
        · unfold Strict at hs
          rw [List.pairwise_cons] at hs
          exact i2 (by simpa using h) hs.2
      · rw [if_neg h2, if_neg h2]
        -- the left one's first, then the right one's: side by side
        have hnext : mrg lt a (y :: b) = y :: mrg lt a b := by
          cases a with
          | nil => rw [nil_mrg, nil_mrg]
          | cons z a =>
            have hz : lt y z = true := by
              cases hc : lt y z with
              | true => rfl
              | false =>
                have k1 := ha.1 z (by simp)
                have := hw.neg x y z (by simpa using h1) hc
                rw [k1] at this; cases this
            rw [mrg_cons, if_pos hz]
        rw [hnext]
        by_cases h3 : x = y
        · subst h3
          obtain ⟨i1, i2⟩ := um_comp hw n a b (by simp at hn ⊢; omega) ha.2 hb.2
          have hall : ∀ z ∈ mrg lt a b, lt x z = true := by
            intro z hz
            rcases mem_mrg _ a b (Nat.le_refl _) z hz with hz | hz
            · exact ha.1 z hz
            · exact hb.1 z hz
          rw [if_pos rfl]
          have hc : comp (x :: x :: mrg lt a b) = x :: comp (mrg lt a b) := by rw [comp, compFrom, if_pos rfl, compFrom_lt hw x _ hall]
          rw [hc]
          have hcm : ∀ z ∈ comp (mrg lt a b), lt x z = true := by
            intro z hz
            cases hm : mrg lt a b with
            | nil => rw [hm] at hz; simp [comp] at hz
            | cons w l =>
              rw [hm] at hz hall
              rw [comp, List.mem_cons] at hz
              rcases hz with rfl | hz
              · exact hall _ (by simp)
              · exact hall z (List.mem_cons_of_mem _ (compFrom_mem w l z hz))
          refine ⟨fun c h => ?_, fun h hs => ?_⟩
          · obtain ⟨c', hc', rfl⟩ := Option.map_eq_some_iff.1 h
            obtain ⟨e, s⟩ := i1 c' hc'
            rw [e] at hcm ⊢
            exact ⟨rfl, by unfold Strict; rw [List.pairwise_cons]; exact ⟨hcm, s⟩⟩
          · unfold Strict at hs
            rw [List.pairwise_cons] at hs
            exact i2 (by simpa using h) hs.2
        · rw [if_neg h3]
          refine ⟨fun c h => (by cases h), fun _ hs => ?_⟩
          rw [comp, compFrom, if_neg (fun e => h3 e.symm)] at hs
          unfold Strict at hs
          rw [List.pairwise_cons] at hs
          exact h1 (hs.1 y (by simp))
theorem isort_strict (hw : Weak lt) : ∀ (l acc : List α), (∀ x ∈ acc, ∀ y ∈ l, lt x y = true) → Strict lt l → l.foldl (fun q x => ins lt x q) acc = acc ++ l
  | [], acc, _, _ => by simp
  | x :: l, acc, h, hs => by
    unfold Strict at hs
    rw [List.pairwise_cons] at hs
    have e : ins lt x acc = acc ++ [x] := by
      have := ins_append hw x acc [] (fun z hz => hw.asym _ _ (h z hz x (by simp)))
      simpa [ins] using this
    rw [List.foldl_cons, e, isort_strict hw l (acc ++ [x]) (fun z hz w hwl => by
      rcases List.mem_append.1 hz with hz | hz
      · exact h z hz w (by simp [hwl])
      · rw [List.mem_singleton] at hz; subst hz; exact hs.1 w hwl) hs.2]
    simp
/-- The whole: sorted together and neighbours but once, against one put behind another. -/
theorem merge_both (hw : Weak lt) (a b : List α) (ha : Strict lt a) (hb : Strict lt b) :
    (∀ c, puts lt a b = some c → comp (isort lt (a ++ b)) = c ∧ Strict lt c) ∧ (puts lt a b = none → ¬ Strict lt (comp (isort lt (a ++ b)))) := by
  have e1 : isort lt a = a := isort_strict hw a [] (by simp) ha
  have e2 : isort lt b = b := isort_strict hw b [] (by simp) hb
  rw [isort_append hw, e1, e2, puts_um hw _ a b (Nat.le_refl _) ha hb]
  exact um_comp hw _ a b (Nat.le_refl _) ha hb
end Go.Proofs.Ytabfkalcjfjkiaa.Merge
