/- This session's own words for walks by hand: rows of rows, taken apart and put together; predicates that answer or not. No conditions. -/
import Derived.Test.YtlohhmoaomlieaaExtG
import Derived.Test.YtlohhmoaomlieaaExtE
namespace Go.Proofs.Ytlohhmoaomlieaa.Ext
open Go.RowKit Go.Proofs.YtlohhmoaomlieaaW.PrintWords
set_option linter.unusedSimpArgs false
set_option linter.unusedVariables false
section
variable {α : Type} {d : Kd α} {e base : Nat} {w : World} {v : Value} {ok : Nat → Prop}
/-- Elements that are tagged each with another one: apart, however they are numbered. -/
theorem S_of_tagged {f : Nat → Nat} {zs : List (α × Nat)} (h : (Kd.tag f d).R e w base ok v zs) (hn : (zs.map (·.2)).Nodup) : Kd.S d e w base ok v (zs.map (·.1)) := by
  obtain ⟨h0, inner, ho, hr⟩ := h
  refine ⟨fun b => (zs.map (·.2)).idxOf (f b), h0, inner, by rw [List.length_zipIdx, List.length_map]; exact ho, by rw [List.length_zipIdx, List.length_map]; exact hr.1, fun j p hj => ?_⟩
  rw [List.getElem?_zipIdx, Nat.zero_add] at hj
  obtain ⟨x, hx, rfl⟩ := Option.map_eq_some_iff.1 hj
  rw [List.getElem?_map] at hx
  obtain ⟨q, hq, rfl⟩ := Option.map_eq_some_iff.1 hx
  refine d.M_mono (fun b hb => ⟨hb.1, ?_⟩) (hr.2 j q hq)
  have h2 : f b = q.2 := hb.2
  show (zs.map (·.2)).idxOf (f b) = j
  rw [h2]
  obtain ⟨hlt, hqe⟩ := List.getElem?_eq_some_iff.1 hq
  have hlt' : j < (zs.map (·.2)).length := by rw [List.length_map]; exact hlt
  have he : (zs.map (·.2))[j] = q.2 := by rw [List.getElem_map, hqe]
  rw [← he]
  exact hn.idxOf_getElem j hlt'
theorem M_ne {g n c : Nat} {x : α} {cs : List Value} (h : d.M w base (fun k => ok k ∧ k ≠ g) x cs) : d.M w base (fun k => ok k ∧ some k ≠ (Value.slice (some ⟨g, 0, none⟩) n c).ownBlock) x cs :=
  d.M_mono (fun k hk => ⟨hk.1, fun he => hk.2 (by simpa [Value.ownBlock] using he)⟩) h
theorem zip_snd (xs : List α) : (xs.zipIdx.map (·.2)) = List.range xs.length := by
  rw [List.zipIdx_map_snd]
  exact List.range_eq_range'.symm
theorem nodup_filter_zip (xs : List α) (p : α × Nat → Bool) : ((xs.zipIdx.filter p).map (·.2)).Nodup :=
  List.Nodup.sublist ((List.filter_sublist (p := p) (l := xs.zipIdx)).map _) (by rw [zip_snd]; exact List.nodup_range)
theorem zip_filter_fst (xs : List α) (p : α → Bool) : ((xs.zipIdx.filter fun z => p z.1).map (·.1)) = xs.filter p := by
  conv => rhs; rw [← List.zipIdx_map_fst 0 xs]
  rw [List.filter_map]
  rfl
end
/-- The first one that is such. -/
def idxF {α : Type} (p : α → Bool) : List α → Nat → Int
  | [], _ => -1
  | x :: l, i => if p x then i else idxF p l (i + 1)
theorem idxF_drop {α : Type} (p : α → Bool) (xs : List α) (i : Nat) (x : α) (l : List α) (h : xs.drop i = x :: l) : idxF p (xs.drop i) i = if p x then (i : Int) else idxF p (xs.drop (i + 1)) (i + 1) := by
  have h2 : xs.drop (i + 1) = l := by rw [← List.drop_drop, h]; rfl
  rw [h, h2, idxF]
theorem idxF_none {α : Type} (p : α → Bool) : ∀ (l : List α) (i : Nat), idxF p l i = -1 → l.filter (fun x => !p x) = l
  | [], _, _ => rfl
  | x :: l, i, h => by
    unfold idxF at h
    by_cases hp : p x = true
    · rw [if_pos hp] at h; omega
    · rw [if_neg hp] at h
      rw [List.filter_cons_of_pos (by simpa using hp), idxF_none p l (i + 1) h]
theorem idxF_some {α : Type} (p : α → Bool) : ∀ (l : List α) (i : Nat), idxF p l i ≠ -1 → ∃ k x, k < l.length ∧ idxF p l i = ((i + k : Nat) : Int) ∧ l[k]? = some x ∧ p x = true ∧ (l.take k).filter (fun x => !p x) = l.take k
  | [], _, h => absurd rfl h
  | x :: l, i, h => by
    unfold idxF at h ⊢
    by_cases hp : p x = true
    · rw [if_pos hp]
      exact ⟨0, x, by simp, by simp, rfl, hp, rfl⟩
    · rw [if_neg hp] at h ⊢
      obtain ⟨k, y, h1, h2, h3, h4, h5⟩ := idxF_some p l (i + 1) h
      refine ⟨k + 1, y, by simpa using h1, by rw [h2]; congr 1; omega, by simpa using h3, h4, ?_⟩
      rw [List.take_succ_cons, List.filter_cons_of_pos (by simpa using hp), h5]
/-- Those of which the predicate says no; none where it does not answer. -/
def delM {α : Type} (p : α → Option Bool) : List α → Option (List α)
  | [] => some []
  | x :: l => (p x).bind fun b => (delM p l).bind fun r => some (if b then r else x :: r)
theorem delM_eq {α : Type} (p : α → Option Bool) (q : α → Bool) : ∀ (l r : List α), delM p l = some r → (∀ x b, p x = some b → q x = b) → r = l.filter (fun x => !q x)
  | [], r, h, _ => by simpa [delM] using h.symm
  | x :: l, r, h, hq => by
    unfold delM at h
    obtain ⟨b, hb, h⟩ := Option.bind_eq_some_iff.mp h
    obtain ⟨s, hs, h⟩ := Option.bind_eq_some_iff.mp h
    have hx := hq x b hb
    have ih := delM_eq p q l s hs hq
    injection h with h
    subst h
    cases b with
    | true => rw [if_pos rfl, List.filter_cons_of_neg (by simp [hx]), ih]
    | false => rw [if_neg (by simp), List.filter_cons_of_pos (by simp [hx]), ih]
theorem delM_all {α : Type} (p : α → Option Bool) : ∀ (l r : List α), delM p l = some r → ∀ x ∈ l, ∃ b, p x = some b
  | [], _, _, x, hx => by cases hx
  | y :: l, r, h, x, hx => by
    unfold delM at h
    obtain ⟨b, hb, h⟩ := Option.bind_eq_some_iff.mp h
    obtain ⟨s, hs, h⟩ := Option.bind_eq_some_iff.mp h
    rcases List.mem_cons.1 hx with hx | hx
    · subst hx; exact ⟨b, hb⟩
    · exact delM_all p l s hs x hx
/-- slices.DeleteFunc's second loop: j elements are looked at, i of them are kept. -/
def DelRel {α : Type} (p : α → Bool) (xs ys : List α) (i j : Nat) : Prop := i < j ∧ j ≤ xs.length ∧ ys.length = xs.length ∧ ys.take i = (xs.take j).filter (fun x => !p x) ∧ ys.drop j = xs.drop j
theorem DelRel.start {α : Type} {p : α → Bool} {xs : List α} {k : Nat} {x : α} (h1 : k < xs.length) (h3 : xs[k]? = some x) (h4 : p x = true) (h5 : (xs.take k).filter (fun x => !p x) = xs.take k) : DelRel p xs xs k (k + 1) := by
  refine ⟨by omega, by omega, rfl, ?_, rfl⟩
  rw [List.take_add_one, h3, List.filter_append, h5]
  simp [h4]
theorem DelRel.next {α : Type} {p : α → Bool} {xs ys : List α} {i j : Nat} (h : DelRel p xs ys i j) (hj : j < xs.length) : ∃ x, ys[j]? = some x ∧ xs[j]? = some x ∧ (p x = true → DelRel p xs ys i (j + 1)) ∧ (p x = false → DelRel p xs (ys.set i x) (i + 1) (j + 1)) := by
  obtain ⟨h0, h1, h2, h3, h4⟩ := h
  have e1 : ys[j]? = xs[j]? := by
    have := congrArg (fun q => q[0]?) h4
    simpa using this
  have e2 : xs[j]? = some xs[j] := List.getElem?_eq_getElem hj
  refine ⟨xs[j], e1.trans e2, e2, fun hp => ⟨by omega, by omega, h2, ?_, ?_⟩, fun hp => ⟨by omega, by omega, by rw [List.length_set]; exact h2, ?_, ?_⟩⟩
  · rw [h3, List.take_add_one, e2, List.filter_append]
    simp [hp]
  · rw [← List.drop_drop, h4, List.drop_drop]
  · rw [List.take_add_one (l := xs), e2, List.filter_append, ← h3, List.take_add_one, List.getElem?_set_self (by omega), List.take_set_of_le (Nat.le_refl _)]
    simp [hp]
  · rw [List.drop_set_of_lt (by omega), ← List.drop_drop, h4, List.drop_drop]
theorem DelRel.done {α : Type} {p : α → Bool} {xs ys : List α} {i j : Nat} (h : DelRel p xs ys i j) (hj : ¬ j < xs.length) : ys.take i = xs.filter (fun x => !p x) := by
  have : j = xs.length := by have := h.2.1; omega
  subst this
  rw [h.2.2.2.1, List.take_length]
/-- All lists of so many numbers out of lo, .., 2, rising. -/
def valsL (lo : Int) : List Int := (List.range (3 - lo).toNat).map fun j => lo + ((j : Nat) : Int)
def nextL (lo : Int) (out : List (List Int)) : List (List Int) := out.flatMap fun t => (valsL lo).map fun n => t ++ [n]
def allL (lo : Int) : Nat → List (List Int)
  | 0 => [[]]
  | n + 1 => nextL lo (allL lo n)
theorem valsL_length (lo : Int) : (valsL lo).length = (3 - lo).toNat := by simp [valsL]
theorem valsL_take (lo : Int) (m : Nat) (h : m < (3 - lo).toNat) : (valsL lo).take (m + 1) = (valsL lo).take m ++ [lo + (m : Int)] := by
  rw [List.take_add_one]
  congr 1
  simp [valsL, h]
theorem nextL_take (lo : Int) (out : List (List Int)) (j : Nat) (t : List Int) (h : out[j]? = some t) : nextL lo (out.take (j + 1)) = nextL lo (out.take j) ++ (valsL lo).map fun n => t ++ [n] := by
  unfold nextL
  rw [List.take_add_one, h, List.flatMap_append]
  simp
theorem nextL_length (lo : Int) (out : List (List Int)) : (nextL lo out).length = out.length * (3 - lo).toNat := by
  unfold nextL
  induction out with
  | nil => simp
  | cons t l ih => rw [List.flatMap_cons, List.length_append, ih, List.length_map, valsL_length, List.length_cons, Nat.add_mul, Nat.one_mul, Nat.add_comm]
theorem allL_length (lo : Int) : ∀ n, (allL lo n).length = (3 - lo).toNat ^ n
  | 0 => rfl
  | n + 1 => by rw [allL, nextL_length, allL_length lo n, Nat.pow_succ]
theorem allL_mem (lo : Int) : ∀ (n : Nat) (t : List Int), t ∈ allL lo n → t.length = n
  | 0, t, h => by
    have : t = [] := by simpa [allL] using h
    rw [this]; rfl
  | n + 1, t, h => by
    unfold allL nextL at h
    obtain ⟨s, hs, ht⟩ := List.mem_flatMap.1 h
    obtain ⟨x, _, rfl⟩ := List.mem_map.1 ht
    rw [List.length_append, allL_mem lo n s hs]; rfl
theorem allL_small (lo : Int) (h : 0 ≤ lo) (n : Nat) (hn : n ≤ 8) : (allL lo n).length ≤ 6561 := by
  rw [allL_length]
  have h3 : (3 - lo).toNat ≤ 3 := by omega
  exact Nat.le_trans (Nat.pow_le_pow_left h3 n) (Nat.le_trans (Nat.pow_le_pow_right (by decide) hn) (by decide))
theorem delM_mono {α : Type} {p q : α → Option Bool} (h : ∀ x, LeO (p x) (q x)) : ∀ l, LeO (delM p l) (delM q l)
  | [] => LeO.refl _
  | x :: l => LeO.bind (h x) (fun _ => LeO.bind (delM_mono h l) (fun _ => LeO.refl _))
end Go.Proofs.Ytlohhmoaomlieaa.Ext
