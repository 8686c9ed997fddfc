/- Legs of entries (words with a weight): one function of lists for both builds. No conditions. -/
import Derived.Test.YtkoackkimdanjaaWMore
import Derived.Test.YtkoackkimdanjaaWApart
namespace Go.Proofs.Ytkoackkimdanjaa.Ext
open Go.RowKit Go.Proofs.YtkoackkimdanjaaW.PrintWords
set_option linter.unusedSimpArgs false
set_option linter.unusedVariables false
set_option linter.unusedSectionVars false
theorem getD_data (s : ByteArray) (i : Nat) (h : i < s.size) : s.data.toList.getD i 0 = s[i]'h := by
 have hs : s.data.toList.length = s.size := by rw [Array.length_toList]; rfl
 rw [List.getD_eq_getElem?_getD, List.getElem?_eq_getElem (by omega)]; rfl
theorem size_data (s : ByteArray) : s.data.toList.length = s.size := by rw [Array.length_toList]; rfl
theorem bt_data (s : ByteArray) (i : Nat) : bt s (i : Int) = ((s.data.toList.getD i 0).toNat : Int) := by
 have hs := size_data s
 unfold bt
 rw [Int.toNat_natCast]
 by_cases h : i < s.size
 ·rw [dif_pos h, List.getD_eq_getElem?_getD, List.getElem?_eq_getElem (by omega)]; rfl
 ·rw [dif_neg h, List.getD_eq_getElem?_getD, List.getElem?_eq_none (by omega)]; rfl
section
variable {α β : Type} (wd : α → List UInt8) (wt : α → Int) (mk : Int → Int → Int → List Int → β)
/-- The letter ahead of place n, as a number. -/
def legLetter (n : Nat) : List α → Int
 | [] => 0
 | x :: _ => if 0 < n then (((((wd x).getD (n - 1) 0).toNat : Int)) - 97) % 256 else 0
def legWeight (n : Nat) : List α → Int
 | [] => 0
 | x :: _ => if (wd x).length = n then wt x else 0
def legBest : List α → Int → Int
 | [], b => b
 | x :: l, b => legBest l (max b (wt x))
/-- Behind the word that ends here. -/
def legRest (n : Nat) : List α → List α
 | [] => []
 | x :: l => if (wd x).length = n then l else x :: l
/-- Runs of words with the same letter at n. -/
def groups (n : Nat) : List α → List (List α)
 | [] => []
 | x :: l => match groups n l with
  | (y :: g) :: gs => if (wd x).getD n 0 = (wd y).getD n 0 then (x :: y :: g) :: gs else [x] :: (y :: g) :: gs
  | _ => [[x]]
def foldK (F : List α → Nat → List β) (at_ : Nat) : List (List α) → List Int → List β → List Int × List β
 | [], ks, bs => (ks, bs)
 | g :: gs, ks, bs => foldK F at_ gs (ks ++ [((at_ + 1 + bs.length : Nat) : Int)]) (bs ++ F g (at_ + 1 + bs.length))
def legsF : Nat → List α → Nat → Nat → List β
 | 0, _, _, _ => []
 | k + 1, l, n, at_ => mk (legLetter wd n l) (legWeight wd wt n l) (legBest wt l 0) (foldK (fun g a => legsF k g (n + 1) a) at_ (groups wd n (legRest wd n l)) [] []).1 :: (foldK (fun g a => legsF k g (n + 1) a) at_ (groups wd n (legRest wd n l)) [] []).2
/-- Entries with a common beginning of n letters, in order. -/
structure LegGood (n : Nat) (l : List α) : Prop where
 n12 : n ≤ 12
 size : ∀ x ∈ l, n ≤ (wd x).length ∧ (wd x).length ≤ 12
 pre : ∀ x ∈ l, ∀ y ∈ l, (wd x).take n = (wd y).take n
 less : l.Pairwise fun x y => Op.bytesLess (wd x) (wd y) = true
 many : l.length ≤ 20
variable {wd wt mk}
instance (n : Nat) (l : List α) : Decidable (LegGood wd n l) :=
 decidable_of_iff (n ≤ 12 ∧ (∀ x ∈ l, n ≤ (wd x).length ∧ (wd x).length ≤ 12) ∧ (∀ x ∈ l, ∀ y ∈ l, (wd x).take n = (wd y).take n) ∧ (l.Pairwise fun x y => Op.bytesLess (wd x) (wd y) = true) ∧ l.length ≤ 20)
  ⟨fun h => ⟨h.1, h.2.1, h.2.2.1, h.2.2.2.1, h.2.2.2.2⟩, fun h => ⟨h.1, h.2, h.3, h.4, h.5⟩⟩
theorem groups_ne (n : Nat) : ∀ (l : List α) (g : List α), g ∈ groups wd n l → g ≠ []
 | [], g, h => by cases h
 | x :: l, g, h => by
  have ih := groups_ne n l
  unfold groups at h
  split at h
  ·rename_i y g' gs e
   split at h
   ·rcases List.mem_cons.1 h with rfl | h
    ·simp
    ·exact ih g (by rw [e]; simp [h])
   ·rcases List.mem_cons.1 h with rfl | h
    ·simp
    ·exact ih g (by rw [e]; exact h)
  ·rcases List.mem_cons.1 h with rfl | h
   ·simp
   ·cases h
/-- The first run. -/
theorem groups_run (n : Nat) (s : List α) : ∀ (r : List α) (x : α), (∀ y ∈ r, (wd y).getD n 0 = (wd x).getD n 0) → (∀ y t, s = y :: t → (wd y).getD n 0 ≠ (wd x).getD n 0) → groups wd n (x :: r ++ s) = (x :: r) :: groups wd n s
 | [], x, _, h2 => by
  cases s with
  | nil => rfl
  | cons y t =>
   have h := h2 y t rfl
   have hc : groups wd n ([x] ++ y :: t) = match groups wd n (y :: t) with
    | (y :: g) :: gs => if (wd x).getD n 0 = (wd y).getD n 0 then (x :: y :: g) :: gs else [x] :: (y :: g) :: gs
    | _ => [[x]] := rfl
   rw [hc]
   have hy : ∃ g gs, groups wd n (y :: t) = (y :: g) :: gs := by
    rw [groups]
    split
    ·split
     ·exact ⟨_, _, rfl⟩
     ·exact ⟨_, _, rfl⟩
    ·exact ⟨_, _, rfl⟩
   obtain ⟨g, gs, e⟩ := hy
   rw [e]
   show (if _ then _ else _) = _
   rw [if_neg (fun h' => h h'.symm)]
 | z :: r, x, h1, h2 => by
  have hz := h1 z (by simp)
  have ih := groups_run n s r z (fun y hy => by rw [hz]; exact h1 y (by simp [hy])) (fun y t e => by rw [hz]; exact h2 y t e)
  have hc : groups wd n (x :: (z :: r) ++ s) = match groups wd n (z :: r ++ s) with
    | (y :: g) :: gs => if (wd x).getD n 0 = (wd y).getD n 0 then (x :: y :: g) :: gs else [x] :: (y :: g) :: gs
    | _ => [[x]] := rfl
  rw [hc, ih]
  show (if _ then _ else _) = _
  rw [if_pos hz.symm]
theorem bytesLess_nil (x : List UInt8) : Op.bytesLess x [] = false := by cases x <;> rfl
theorem bytesLess_pre : ∀ (p x y : List UInt8), Op.bytesLess (p ++ x) (p ++ y) = Op.bytesLess x y
 | [], x, y => rfl
 | a :: p, x, y => by simp [Op.bytesLess, bytesLess_pre p x y]
/-- Only the first word may end here. -/
theorem LegGood.tail_long {n : Nat} {x : α} {l : List α} (h : LegGood wd n (x :: l)) : ∀ y ∈ l, n < (wd y).length := by
 intro y hy
 rcases Nat.lt_or_ge n (wd y).length with hlt | hge
 ·exact hlt
 ·exfalso
  have h1 := (List.pairwise_cons.1 h.less).1 y hy
  have h2 := h.pre x (by simp) y (by simp [hy])
  have h3 := h.size y (by simp [hy])
  have e : wd y = (wd x).take n := by rw [h2, List.take_of_length_le hge]
  have h4 := List.take_append_drop n (wd x)
  rw [← h4, ← e] at h1
  have := bytesLess_pre (wd y) ((wd x).drop n) []
  rw [List.append_nil, bytesLess_nil] at this
  rw [this] at h1
  cases h1
theorem LegGood.rest_long {n : Nat} {l : List α} (h : LegGood wd n l) : ∀ y ∈ legRest wd n l, n < (wd y).length := by
 intro y hy
 cases l with
 | nil => cases hy
 | cons x l =>
  have e : legRest wd n (x :: l) = if (wd x).length = n then l else x :: l := rfl
  rw [e] at hy
  split at hy
  ·exact h.tail_long y hy
  ·rename_i hne
   rcases List.mem_cons.1 hy with rfl | hy
   ·have := (h.size y (by simp)).1; omega
   ·exact h.tail_long y hy
theorem LegGood.sub {n : Nat} {l l' : List α} (h : LegGood wd n l) (hs : l'.Sublist l) : LegGood wd n l' :=
 ⟨h.n12, fun x hx => h.size x (hs.subset hx), fun x hx y hy => h.pre x (hs.subset hx) y (hs.subset hy), h.less.sublist hs, Nat.le_trans hs.length_le h.many⟩
theorem LegGood.next {n : Nat} {g : List α} (h : LegGood wd n g) (hl : ∀ x ∈ g, n < (wd x).length) (hc : ∀ x ∈ g, ∀ y ∈ g, (wd x).getD n 0 = (wd y).getD n 0) (hne : g ≠ []) : LegGood wd (n + 1) g := by
 refine ⟨?_, fun x hx => ⟨hl x hx, (h.size x hx).2⟩, fun x hx y hy => ?_, h.less, h.many⟩
 ·cases g with
  | nil => exact absurd rfl hne
  | cons x g => have := hl x (by simp); have := (h.size x (by simp)).2; omega
 ·have e : ∀ z ∈ g, (wd z).take (n + 1) = (wd z).take n ++ [(wd z).getD n 0] := fun z hz => by
   rw [List.take_add_one, List.getD_eq_getElem?_getD, List.getElem?_eq_getElem (hl z hz)]; rfl
  rw [e x hx, e y hy, h.pre x hx y hy, hc x hx y hy]
theorem legLetter_zero (l : List α) : legLetter wd 0 l = 0 := by cases l <;> rfl
theorem LegGood.letter {n : Nat} {l : List α} {y : α} (h : LegGood wd n l) (hn : 0 < n) (hy : y ∈ l) : legLetter wd n l = (((((wd y).getD (n - 1) 0).toNat : Int)) - 97) % 256 := by
 cases l with
 | nil => cases hy
 | cons x l =>
  have e : legLetter wd n (x :: l) = if 0 < n then (((((wd x).getD (n - 1) 0).toNat : Int)) - 97) % 256 else 0 := rfl
  have hp := h.pre x (by simp) y hy
  have g : ∀ z : List UInt8, z.getD (n - 1) 0 = (z.take n).getD (n - 1) 0 := fun z => by
   rw [List.getD_eq_getElem?_getD, List.getD_eq_getElem?_getD, List.getElem?_take, if_pos (by omega)]
  rw [e, if_pos hn, g (wd x), g (wd y), hp]
theorem LegGood.weight {n i : Nat} {l : List α} {y : α} (h : LegGood wd n l) (hy : l[i]? = some y) : legWeight wd wt n l = if (wd y).length = n then wt y else if i = 0 then 0 else legWeight wd wt n l := by
 cases l with
 | nil => cases hy
 | cons x l =>
  have e : legWeight wd wt n (x :: l) = if (wd x).length = n then wt x else 0 := rfl
  cases i with
  | zero =>
   have hy : x = y := by simpa using hy
   subst hy
   rw [e, if_pos rfl]
  | succ i =>
   have hy : y ∈ l := List.mem_of_getElem? (by simpa using hy : l[i]? = some y)
   have := h.tail_long y hy
   rw [if_neg (by omega), if_neg (by omega)]
theorem legBest_take (l : List α) (i : Nat) (y : α) (hy : l[i]? = some y) : legBest wt (l.take (i + 1)) 0 = max (legBest wt (l.take i) 0) (wt y) := by
 have hap : ∀ (l : List α) (x : α) (b : Int), legBest wt (l ++ [x]) b = max (legBest wt l b) (wt x) := by
  intro l x
  induction l with
  | nil => intro b; rfl
  | cons z l ih => intro b; exact ih _
 rw [List.take_add_one, hy]
 exact hap _ _ _
theorem legRest_length (n : Nat) (l : List α) : (legRest wd n l).length ≤ l.length := by
 cases l with
 | nil => exact Nat.le_refl _
 | cons x l =>
  have e : legRest wd n (x :: l) = if (wd x).length = n then l else x :: l := rfl
  rw [e]
  split <;> simp
theorem legRest_sub (n : Nat) (l : List α) : (legRest wd n l).Sublist l := by
 cases l with
 | nil => exact List.Sublist.refl _
 | cons x l =>
  have e : legRest wd n (x :: l) = if (wd x).length = n then l else x :: l := rfl
  rw [e]
  split
  ·exact List.sublist_cons_self _ _
  ·exact List.Sublist.refl _
theorem groups_cons (n : Nat) (x : α) (l : List α) : ∃ g gs, groups wd n (x :: l) = (x :: g) :: gs := by
 rw [groups]
 split
 ·split
  ·exact ⟨_, _, rfl⟩
  ·exact ⟨_, _, rfl⟩
 ·exact ⟨_, _, rfl⟩
/-- All runs together are the list. -/
theorem groups_flat (n : Nat) : ∀ l : List α, (groups wd n l).flatten = l
 | [] => rfl
 | [x] => rfl
 | x :: y :: l => by
  have ih := groups_flat n (y :: l)
  obtain ⟨g, gs, e⟩ := groups_cons (wd := wd) n y l
  rw [groups, e]
  rw [e] at ih
  show List.flatten (if _ then _ else _) = _
  split
  ·simpa using ih
  ·simpa using ih
theorem groups_same (n : Nat) : ∀ (l : List α) (g : List α), g ∈ groups wd n l → ∀ x ∈ g, ∀ y ∈ g, (wd x).getD n 0 = (wd y).getD n 0
 | [], g, h => by cases h
 | [x], g, h => by
  have e : g = [x] := by simpa [groups] using h
  subst e
  intro a ha b hb
  rw [List.mem_singleton.1 ha, List.mem_singleton.1 hb]
 | x :: y :: l, g, h => by
  have ih := groups_same n (y :: l)
  obtain ⟨g', gs, e⟩ := groups_cons (wd := wd) n y l
  rw [groups, e] at h
  rw [e] at ih
  have h : g ∈ (if (wd x).getD n 0 = (wd y).getD n 0 then (x :: y :: g') :: gs else [x] :: (y :: g') :: gs) := h
  split at h
  ·rename_i hxy
   rcases List.mem_cons.1 h with rfl | h
   ·have k := ih (y :: g') (by simp)
    intro a ha b hb
    have tob : ∀ a ∈ x :: y :: g', (wd a).getD n 0 = (wd y).getD n 0 := by
     intro a ha
     rcases List.mem_cons.1 ha with rfl | ha
     ·exact hxy
     ·exact k a ha y (by simp)
    rw [tob a ha, tob b hb]
   ·exact ih g (by simp [h])
  ·rcases List.mem_cons.1 h with rfl | h
   ·intro a ha b hb
    rw [List.mem_singleton.1 ha, List.mem_singleton.1 hb]
   ·exact ih g h
theorem groups_sub (n : Nat) (l g : List α) (h : g ∈ groups wd n l) : g.Sublist l := by
 have e := groups_flat (wd := wd) n l
 have : g.Sublist (groups wd n l).flatten := List.sublist_flatten_of_mem h
 rw [e] at this
 exact this
/-- A run of what is behind the word that ends here is good one letter on. -/
theorem LegGood.group {n : Nat} {l g : List α} (h : LegGood wd n l) (hg : g ∈ groups wd n (legRest wd n l)) : LegGood wd (n + 1) g := by
 have hs := groups_sub n _ g hg
 exact (h.sub (hs.trans (legRest_sub n l))).next (fun x hx => h.rest_long x (hs.subset hx)) (groups_same n _ g hg) (groups_ne n _ g hg)
theorem foldK_le (F : List α → Nat → List β) (at_ B : Nat) (hF : ∀ g a, (F g a).length ≤ 1 + g.length * B) : ∀ (gs : List (List α)) (ks : List Int) (bs : List β), (∀ g ∈ gs, g ≠ []) → (foldK F at_ gs ks bs).2.length ≤ bs.length + gs.flatten.length * (B + 1)
 | [], ks, bs, _ => by simp [foldK]
 | g :: gs, ks, bs, hne => by
  have ih := foldK_le F at_ B hF gs (ks ++ [((at_ + 1 + bs.length : Nat) : Int)]) (bs ++ F g (at_ + 1 + bs.length)) (fun g' hg' => hne g' (by simp [hg']))
  have h1 := hF g (at_ + 1 + bs.length)
  have h2 : 1 ≤ g.length := by
   have := hne g (by simp)
   cases g with
   | nil => exact absurd rfl this
   | cons _ _ => simp
  rw [List.length_append] at ih
  rw [List.flatten_cons, List.length_append, Nat.add_mul, Nat.mul_add g.length B 1]
  unfold foldK
  omega
theorem legsF_le : ∀ (k : Nat) (l : List α) (n at_ : Nat), (legsF wd wt mk k l n at_).length ≤ 1 + l.length * k
 | 0, l, n, at_ => by simp [legsF]
 | k + 1, l, n, at_ => by
  have h := foldK_le (fun g a => legsF wd wt mk k g (n + 1) a) at_ k (fun g a => legsF_le k g (n + 1) a) (groups wd n (legRest wd n l)) [] [] (groups_ne n _)
  rw [groups_flat, List.length_nil, Nat.zero_add] at h
  have h2 := Nat.mul_le_mul_right (k + 1) (legRest_length (wd := wd) n l)
  unfold legsF
  rw [List.length_cons]
  omega
/-- The run from p on ends at q. -/
theorem groups_drop {n p q : Nat} {l : List α} {y : α} (hy : l[p]? = some y) (hpq : p ≤ q) (hq : q ≤ l.length) (hall : ∀ m y', p ≤ m → m < q → l[m]? = some y' → (wd y').getD n 0 = (wd y).getD n 0) (hno : ¬ ∃ y', l[q]? = some y' ∧ (wd y').getD n 0 = (wd y).getD n 0) :
  p < q ∧ groups wd n (l.drop p) = ((l.drop p).take (q - p)) :: groups wd n (l.drop q) := by
 have hlt : p < q := by
  rcases Nat.lt_or_ge p q with h | h
  ·exact h
  ·exact absurd ⟨y, by rw [show q = p by omega]; exact hy, rfl⟩ hno
 refine ⟨hlt, ?_⟩
 have hpl : p < l.length := by omega
 have e0 : l[p] = y := by rw [List.getElem?_eq_getElem hpl] at hy; injection hy
 have e1 : l.drop p = y :: l.drop (p + 1) := by rw [List.drop_eq_getElem_cons hpl, e0]
 have e2 : (l.drop p).take (q - p) = y :: (l.drop (p + 1)).take (q - p - 1) := by rw [e1, show q - p = (q - p - 1) + 1 by omega, List.take_succ_cons, Nat.add_sub_cancel]
 have e3 : l.drop p = (l.drop p).take (q - p) ++ l.drop q := by
  have h := (List.take_append_drop (q - p) (l.drop p)).symm
  rw [List.drop_drop, show p + (q - p) = q by omega] at h
  exact h
 have h := groups_run (wd := wd) n (l.drop q) ((l.drop (p + 1)).take (q - p - 1)) y (fun y' hy' => ?_) (fun y' t e => ?_)
 ·rw [← e2, ← e3] at h
  exact h
 ·obtain ⟨m, hm⟩ := List.mem_iff_getElem?.1 hy'
  rw [List.getElem?_take] at hm
  split at hm
  ·rw [List.getElem?_drop] at hm
   exact hall (p + 1 + m) y' (by omega) (by omega) hm
  ·cases hm
 ·intro hs
  refine hno ⟨y', ?_, hs⟩
  have : (l.drop q)[0]? = some y' := by rw [e]; rfl
  rw [List.getElem?_drop, Nat.add_zero] at this
  exact this
end
end Go.Proofs.Ytkoackkimdanjaa.Ext
