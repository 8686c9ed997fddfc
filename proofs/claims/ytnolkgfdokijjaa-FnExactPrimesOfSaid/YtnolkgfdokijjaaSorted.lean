/- Lists of texts, strictly rising: what sorting and taking neighbours but once leaves, and what putting one by one leaves, is one and the same. No conditions. -/
import Derived.Test.YtnolkgfdokijjaaExtC
import Derived.Test.YtnolkgfdokijjaaBase
namespace Go.Proofs.Ytnolkgfdokijjaa.Sorted
open Go.Proofs.Ytnolkgfdokijjaa.Ext Go.Sort
set_option linter.unusedSimpArgs false
set_option linter.unusedVariables false

def lessB (a b : ByteArray) : Bool := Op.bytesLess a.toList b.toList
theorem lb_toList (a : ByteArray) : lb a = a.toList := (Lib.toList_data a).symm ▸ rfl
theorem lessB_lt (a b : ByteArray) : lessB a b = decide (lb a < lb b) := by
 unfold lessB
 rw [bytesLess_eq, lb_toList, lb_toList]
theorem lb_inj {a b : ByteArray} (h : lb a = lb b) : a = b := by
 have := congrArg bl h
 simpa [bl_lb] using this
theorem lessB_trans {a b c : ByteArray} (h : lessB a b = true) (k : lessB b c = true) : lessB a c = true := by
 rw [lessB_lt, decide_eq_true_iff] at *
 exact List.lt_trans h k
theorem lessB_irrefl (a : ByteArray) : lessB a a = false := by
 rw [lessB_lt, decide_eq_false_iff_not]
 exact List.lt_irrefl _
theorem lessB_tri {a b : ByteArray} (h : lessB a b = false) (k : a ≠ b) : lessB b a = true := by
 rw [lessB_lt, decide_eq_false_iff_not] at h
 rw [lessB_lt, decide_eq_true_iff]
 rcases List.le_iff_lt_or_eq.1 (List.not_lt.1 h) with h | h
 ·exact h
 ·exact absurd (lb_inj h).symm k

/-- Strictly rising. -/
def Rising (l : List ByteArray) : Prop := l.Pairwise fun a b => lessB a b = true
theorem Rising.ext : ∀ {l m : List ByteArray}, Rising l → Rising m → (∀ x, x ∈ l ↔ x ∈ m) → l = m
 | [], [], _, _, _ => rfl
 | [], b :: m, _, _, h => absurd ((h b).2 (by simp)) (by simp)
 | a :: l, [], _, _, h => absurd ((h a).1 (by simp)) (by simp)
 | a :: l, b :: m, h1, h2, h => by
  unfold Rising at h1 h2
  rw [List.pairwise_cons] at h1 h2
  have e : a = b := by
   have ha := (h a).1 (by simp)
   have hb := (h b).2 (by simp)
   rw [List.mem_cons] at ha hb
   rcases ha with ha | ha
   ·exact ha
   ·rcases hb with hb | hb
    ·exact hb.symm
    ·have k1 := h2.1 a ha
     have k2 := h1.1 b hb
     have k3 := lessB_trans k1 k2
     rw [lessB_irrefl] at k3
     cases k3
  subst e
  have hn1 : a ∉ l := fun k => by have := h1.1 a k; rw [lessB_irrefl] at this; cases this
  have hn2 : a ∉ m := fun k => by have := h2.1 a k; rw [lessB_irrefl] at this; cases this
  rw [Rising.ext h1.2 h2.2 (fun x => by
   have := h x
   rw [List.mem_cons, List.mem_cons] at this
   constructor
   ·intro hx
    rcases this.1 (.inr hx) with rfl | k
    ·exact absurd hx hn1
    ·exact k
   ·intro hx
    rcases this.2 (.inr hx) with rfl | k
    ·exact absurd hx hn2
    ·exact k)]
/-- One text put in its place. -/
def put (s : ByteArray) : List ByteArray → List ByteArray
 | [] => [s]
 | x :: l => if lessB x s = true then x :: put s l else if x = s then x :: l else s :: x :: l
theorem put_mem (s : ByteArray) : ∀ (l : List ByteArray) (x : ByteArray), x ∈ put s l ↔ x = s ∨ x ∈ l
 | [], x => by simp [put]
 | y :: l, x => by
  unfold put
  split
  ·rw [List.mem_cons, put_mem s l x, List.mem_cons]
   constructor
   ·rintro (h | h | h) <;> simp [h]
   ·rintro (h | h | h) <;> simp [h]
  ·split
   ·rename_i h
    subst h
    simp
   ·simp
theorem put_rising (s : ByteArray) : ∀ (l : List ByteArray), Rising l → Rising (put s l)
 | [], _ => by simp [put, Rising]
 | y :: l, h => by
  unfold Rising at h
  rw [List.pairwise_cons] at h
  unfold put
  split
  ·rename_i hy
   unfold Rising
   rw [List.pairwise_cons]
   refine ⟨fun x hx => ?_, put_rising s l h.2⟩
   rcases (put_mem s l x).1 hx with rfl | hx
   ·exact hy
   ·exact h.1 x hx
  ·split
   ·unfold Rising
    rw [List.pairwise_cons]; exact h
   ·rename_i h1 h2
    have h3 := lessB_tri (by simpa using h1) h2
    unfold Rising
    rw [List.pairwise_cons, List.pairwise_cons]
    refine ⟨fun x hx => ?_, h⟩
    rw [List.mem_cons] at hx
    rcases hx with rfl | hx
    ·exact h3
    ·exact lessB_trans h3 (h.1 x hx)
theorem put_length (s : ByteArray) : ∀ (l : List ByteArray), (put s l).length ≤ l.length + 1
 | [] => by simp [put]
 | y :: l => by
  have := put_length s l
  unfold put
  split
  ·simp only [List.length_cons]; omega
  ·split <;> simp
/-- All of a list put one by one. -/
def puts (acc : List ByteArray) (l : List ByteArray) : List ByteArray := l.foldl (fun a s => put s a) acc
theorem puts_rising : ∀ (l acc : List ByteArray), Rising acc → Rising (puts acc l)
 | [], acc, h => h
 | s :: l, acc, h => puts_rising l (put s acc) (put_rising s acc h)
theorem puts_mem : ∀ (l acc : List ByteArray) (x : ByteArray), x ∈ puts acc l ↔ x ∈ acc ∨ x ∈ l
 | [], acc, x => by simp [puts]
 | s :: l, acc, x => by
  refine (puts_mem l (put s acc) x).trans ?_
  rw [put_mem, List.mem_cons]
  constructor
  ·rintro ((h | h) | h) <;> simp [h]
  ·rintro (h | h | h) <;> simp [h]
theorem puts_length : ∀ (l acc : List ByteArray), (puts acc l).length ≤ acc.length + l.length
 | [], acc => by simp [puts]
 | s :: l, acc => by
  refine Nat.le_trans (puts_length l (put s acc)) ?_
  have := put_length s acc
  rw [List.length_cons]; omega

/-- Of a row that rises (equal neighbours let in), neighbours but once: strictly rising. -/
theorem compact_mem_lt (d : Array (List UInt8)) (hs : ∀ i j : Nat, i < j → j < d.size → d[i]! ≤ d[j]!) : ∀ m, m ≤ d.size →
  (Lib.compactUpTo d m).Pairwise (· < ·) ∧ (∀ x, x ∈ Lib.compactUpTo d m ↔ ∃ j, j < m ∧ d[j]! = x)
 | 0, _ => by simp [Lib.compactUpTo]
 | m + 1, h => by
  obtain ⟨h1, h2⟩ := compact_mem_lt d hs m (by omega)
  rw [Lib.compactUpTo_succ]
  have hall : ∀ x, x ∈ Lib.compactUpTo d m → 0 < m → x ≤ d[m - 1]! := by
   intro x hx h0
   obtain ⟨j, hj, rfl⟩ := (h2 x).1 hx
   rcases Nat.lt_or_ge j (m - 1) with hl | hl
   ·exact hs j (m - 1) hl (by omega)
   ·have : j = m - 1 := by omega
    subst this
    exact List.le_refl _
  by_cases hk : Lib.keeps d m = true
  ·rw [if_pos hk]
   refine ⟨?_, fun x => ?_⟩
   ·rw [List.pairwise_append]
    refine ⟨h1, by simp, fun x hx y hy => ?_⟩
    rw [List.mem_singleton] at hy
    subst hy
    have h0 : 0 < m := by
     obtain ⟨j, hj, _⟩ := (h2 x).1 hx
     omega
    have hne : d[m]! ≠ d[m - 1]! := by
     unfold Lib.keeps at hk
     rw [decide_eq_true_iff] at hk
     rcases hk with hk | hk
     ·omega
     ·exact hk
    have hlt : d[m - 1]! < d[m]! := by
     rcases List.le_iff_lt_or_eq.1 (hs (m - 1) m (by omega) (by omega)) with k | k
     ·exact k
     ·exact absurd k.symm hne
    exact List.lt_of_le_of_lt (hall x hx h0) hlt
   ·rw [List.mem_append, h2, List.mem_singleton]
    constructor
    ·rintro (⟨j, hj, rfl⟩ | rfl)
     ·exact ⟨j, by omega, rfl⟩
     ·exact ⟨m, by omega, rfl⟩
    ·rintro ⟨j, hj, rfl⟩
     rcases Nat.lt_or_ge j m with hl | hl
     ·exact .inl ⟨j, hl, rfl⟩
     ·have : j = m := by omega
      subst this
      exact .inr rfl
  ·rw [if_neg hk, List.append_nil]
   refine ⟨h1, fun x => ?_⟩
   rw [h2]
   have hk' : ¬ (m = 0 ∨ d[m]! ≠ d[m - 1]!) := by
    intro h
    exact hk (by unfold Lib.keeps; exact decide_eq_true h)
   have h0 : m ≠ 0 := fun h => hk' (.inl h)
   have he : d[m]! = d[m - 1]! := Classical.byContradiction fun h => hk' (.inr h)
   constructor
   ·rintro ⟨j, hj, rfl⟩
    exact ⟨j, by omega, rfl⟩
   ·rintro ⟨j, hj, rfl⟩
    rcases Nat.lt_or_ge j m with hl | hl
    ·exact ⟨j, hl, rfl⟩
    ·have : j = m := by omega
     subst this
     exact ⟨j - 1, by omega, he.symm⟩
theorem sorted_get (l : List (List UInt8)) : ∀ i j : Nat, i < j → j < (l.mergeSort fun x y => decide (x ≤ y)).toArray.size → (l.mergeSort fun x y => decide (x ≤ y)).toArray[i]! ≤ (l.mergeSort fun x y => decide (x ≤ y)).toArray[j]! := by
 intro i j hij hj
 have hp : (l.mergeSort fun x y => decide (x ≤ y)).Pairwise fun a b => decide (a ≤ b) = true := by
  refine List.pairwise_mergeSort (fun a b c h k => ?_) (fun a b => ?_) l
  ·rw [decide_eq_true_iff] at *
   exact List.le_trans h k
  ·rw [Bool.or_eq_true, decide_eq_true_iff, decide_eq_true_iff]
   exact List.le_total a b
 rw [List.pairwise_iff_getElem] at hp
 have hj' : j < (l.mergeSort fun x y => decide (x ≤ y)).length := by simpa using hj
 have := hp i j (by omega) hj' hij
 rw [decide_eq_true_iff] at this
 rw [getElem!_pos _ i (by omega), getElem!_pos _ j hj]
 simpa using this
theorem compStrs_sort (l : List ByteArray) : Rising (compStrs (sortStrs l)) ∧ ∀ x, x ∈ compStrs (sortStrs l) ↔ x ∈ l := by
 unfold compStrs sortStrs
 have e : ∀ (q : List (List UInt8)), (q.map bl).map lb = q := by
  intro q
  rw [List.map_map]
  exact (List.map_congr_left (fun a _ => lb_bl a)).trans (List.map_id q)
 rw [e]
 unfold Lib.compact
 obtain ⟨h1, h2⟩ := compact_mem_lt _ (sorted_get (l.map lb)) (((l.map lb).mergeSort fun x y => decide (x ≤ y)).length) (by simp)
 refine ⟨?_, fun x => ?_⟩
 ·unfold Rising
  rw [List.pairwise_map]
  refine h1.imp (fun {a b} hab => ?_)
  rw [lessB_lt, lb_bl, lb_bl]
  exact decide_eq_true hab
 ·rw [List.mem_map]
  constructor
  ·rintro ⟨a, ha, rfl⟩
   obtain ⟨j, hj, hx⟩ := (h2 a).1 ha
   have hm : a ∈ (l.map lb).mergeSort fun x y => decide (x ≤ y) := by
    rw [getElem!_pos _ j (by simpa using hj)] at hx
    rw [← hx]
    simp
   rw [(List.mergeSort_perm _ _).mem_iff, List.mem_map] at hm
   obtain ⟨s, hs, rfl⟩ := hm
   rw [bl_lb]; exact hs
  ·intro hx
   have hm : lb x ∈ (l.map lb).mergeSort fun x y => decide (x ≤ y) := by
    rw [(List.mergeSort_perm _ _).mem_iff, List.mem_map]
    exact ⟨x, hx, rfl⟩
   obtain ⟨j, hj, hx'⟩ := List.mem_iff_getElem.1 hm
   exact ⟨lb x, (h2 _).2 ⟨j, hj, by rw [getElem!_pos _ j (by simpa using hj)]; simpa using hx'⟩, bl_lb x⟩
theorem compStrs_puts (l : List ByteArray) : compStrs (sortStrs l) = puts [] l := by
 obtain ⟨h1, h2⟩ := compStrs_sort l
 exact h1.ext (puts_rising l [] (by simp [Rising])) (fun x => by rw [h2, puts_mem]; simp)
end Go.Proofs.Ytnolkgfdokijjaa.Sorted
