/- The law FnLegs holds at every input; no conditions. -/
import Derived.Test.YtkoackkimdanjaaQFnLegsx16
import Derived.Test.YtkoackkimdanjaaBase
import Derived.OpenShut
namespace Go.Proofs.Ytkoackkimdanjaa.Pure
open Go.RowKit Go.Proofs.Ytkoackkimdanjaa.QFnLegs Go.Proofs.YtkoackkimdanjaaW.PrintWords Go.Proofs.YtkoackkimdanjaaW.PrintLast Go.Proofs.Ytkoackkimdanjaa.Base
set_option linter.unusedSimpArgs false
set_option linter.unusedVariables false
def lettersN (s : ByteArray) : Nat → Nat → Bool
 | 0, _ => true
 | d + 1, i => (decide (97 ≤ bt s i) && decide (bt s i ≤ 122)) && lettersN s d (i + 1)
def isWordB (s : ByteArray) : Bool := lettersN s s.size 0 && (decide (1 ≤ s.size) && decide (s.size ≤ 12))
theorem spec_word_ev (s : ByteArray) (hs : s.size ≤ 1048576) : ∀ (d i : Nat), i + d = s.size → Ev (fun k => spec_l9Word.l0 k s i) (lettersN s d i && (decide (1 ≤ s.size) && decide (s.size ≤ 12)))
 | 0, i, hi => by
  refine Ev.step (fun k => spec_l9Word.l0.eq_2 ..) (ev_if_neg (by omega) (ev_fun fun k => ?_))
  simp only [spec_l1In.f, lettersN]
  by_cases h1 : 1 ≤ s.size
  ·have h1' : (s.size : Int) ≥ 1 := by omega
   have h2 : ((s.size : Int) ≤ 12) = (s.size ≤ 12) := by apply propext; omega
   simp [h1, h1', h2]
  ·have h1' : ¬ (s.size : Int) ≥ 1 := by omega
   simp [h1, h1']
 | d + 1, i, hi => by
  refine Ev.step (fun k => spec_l9Word.l0.eq_2 ..) (ev_if_pos (by omega) (ev_if_pos (by omega) ?_))
  by_cases h1 : bt s i < 97
  ·exact ev_if_pos h1 (ev_some (by simp [lettersN, show ¬ 97 ≤ bt s i by omega]))
  ·by_cases h2 : bt s i > 122
   ·exact ev_if_neg h1 (ev_if_pos h2 (ev_some (by simp [lettersN, show ¬ bt s i ≤ 122 by omega])))
   ·refine ev_if_neg h1 (ev_if_neg h2 ?_)
    rw [wrap_succ (by omega)]
    refine ev_eq (spec_word_ev s hs d (i + 1) (by omega)) ?_
    simp [lettersN, show 97 ≤ bt s i by omega, show bt s i ≤ 122 by omega]
theorem spec_l9Word_ev (s : ByteArray) (hs : s.size ≤ 1048576) : Ev (fun k => spec_l9Word.f k s) (isWordB s) := spec_word_ev s hs s.size 0 (by omega)
theorem impl_letters_ev (s : ByteArray) (hs : s.size ≤ 1048576) : ∀ (d i : Nat), i + d = s.size → Ev (fun k => impl_areLetters.l0 k s s.size i) (lettersN s d i && decide (s.size ≤ 12))
 | 0, i, hi => by
  refine Ev.step (fun k => impl_areLetters.l0.eq_2 ..) (ev_if_neg (by omega) (ev_fun fun k => ?_))
  have h2 : ((s.size : Int) ≤ 12) = (s.size ≤ 12) := by apply propext; omega
  simp [lettersN, h2]
 | d + 1, i, hi => by
  refine Ev.step (fun k => impl_areLetters.l0.eq_2 ..) (ev_if_pos (by omega) (ev_if_pos (by omega) (ev_if_pos (by omega) ?_)))
  unfold impl_isLetter.f
  by_cases h1 : bt s i ≥ 97
  ·by_cases h2 : bt s i ≤ 122
   ·simp only [h1, h2, if_true, decide_true, Option.bind_some]
    rw [wrap_succ (by omega)]
    refine ev_eq (impl_letters_ev s hs d (i + 1) (by omega)) ?_
    simp [lettersN, show 97 ≤ bt s i by omega, h2]
   ·exact ev_fun fun k => by simp [lettersN, h1, h2]
  ·exact ev_fun fun k => by simp [lettersN, h1]
theorem impl_isWord_ev (s : ByteArray) (hs : s.size ≤ 1048576) : Ev (fun k => impl_isWord.f k s) (isWordB s) := by
 unfold impl_isWord.f impl_areLetters.f
 by_cases h : s.toList = ([] : List UInt8)
 ·have h0 := (toList_nil s).1 h
  exact ev_if_pos h (ev_some (by simp [isWordB, h0]))
 ·have h0 : s.size ≠ 0 := fun h' => h ((toList_nil s).2 h')
  refine ev_if_neg h (ev_bind (impl_letters_ev s hs s.size 0 (by omega)) (ev_some ?_))
  simp [isWordB, show 1 ≤ s.size by omega]
def goodE (x : S48) : Bool := isWordB x.f0 && (decide (1 ≤ x.f1) && decide (x.f1 ≤ 1000))
def chainE : Option (S48) → List (S48) → Bool
 | _, [] => true
 | none, x :: l => goodE x && chainE (some x) l
 | some p, x :: l => goodE x && (Op.bytesLess p.f0.toList x.f0.toList && chainE (some x) l)
def goodEs (l : List (S48)) : Bool := chainE none l && decide (l.length ≤ 20)
theorem spec_GoodEntries_loop (l : List (S48)) (hl : l.length ≤ 1048576) (hw : ∀ x ∈ l, x.f0.size ≤ 1048576) : ∀ (rest pre : List (S48)), l = pre ++ rest →
  Ev (fun k => spec_GoodEntries.l0 k l l l.length pre.length) (chainE pre.getLast? rest && decide (l.length ≤ 20))
 | [], pre, hd => by
  have e : l.length = pre.length := by rw [hd]; simp
  refine Ev.step (fun k => spec_GoodEntries.l0.eq_2 ..) (ev_if_neg (by omega) (ev_some ?_))
  have h2 : ((l.length : Int) ≤ 20) = (l.length ≤ 20) := by apply propext; omega
  cases pre.getLast? <;> simp [chainE, h2]
 | x :: rest, pre, hd => by
  obtain ⟨hi, hx⟩ := mid_at hd
  have hx : rd_T48 l pre.length = x := hx _
  have hs := hw x (by rw [hd]; simp)
  refine Ev.step (fun k => spec_GoodEntries.l0.eq_2 ..) (ev_if_pos (by omega) (ev_if_pos (by omega) (ev_if_pos (by omega) ?_)))
  rw [hx]
  refine ev_bind (spec_l9Word_ev x.f0 hs) ?_
  have ih := spec_GoodEntries_loop l hl hw rest (pre ++ [x]) (by rw [hd]; simp)
  rw [List.length_append, List.length_singleton] at ih
  simp only [List.getLast?_append, List.getLast?_singleton, Option.some_or] at ih
  by_cases h1 : isWordB x.f0 = true
  ·refine ev_true h1 ?_
   unfold spec_l1In.f
   by_cases h2 : x.f1 ≥ 1
   ·by_cases h3 : x.f1 ≤ 1000
    ·simp only [h2, h3, if_true, decide_true, Option.bind_some]
     have hg : goodE x = true := by simp [goodE, h1, h3]; omega
     rcases nil_or_snoc pre with rfl | ⟨q, p, rfl⟩
     ·refine ev_if_neg (by simp) ?_
      rw [wrap_succ (by omega)]
      refine ev_eq ih ?_
      simp [chainE, hg]
     ·have hlast := last_at hd z48
      have hlast : rd_T48 l (((q ++ [p]).length : Int) - 1) = p := hlast
      have hpos : ((q ++ [p]).length : Int) > 0 := by rw [List.length_append, List.length_singleton]; omega
      rw [wrap_id (x := ((q ++ [p]).length : Int) - 1) (by omega) (by omega), hlast]
      refine ev_if_pos hpos (ev_if_pos (by omega) (ev_if_pos (by omega) ?_))
      by_cases h4 : Op.bytesLess p.f0.toList x.f0.toList = true
      ·refine ev_if_pos h4 ?_
       rw [wrap_succ (by omega)]
       refine ev_eq ih ?_
       simp [chainE, hg, h4]
      ·refine ev_if_neg h4 (ev_some ?_)
       simp [chainE, h4]
    ·simp only [h2, h3, if_true, decide_false, Option.bind_some, if_false, Bool.false_eq_true]
     refine ev_some ?_
     rcases nil_or_snoc pre with rfl | ⟨q, p, rfl⟩ <;> simp [chainE, goodE, h3]
   ·simp only [h2, if_false, Option.bind_some, Bool.false_eq_true]
    refine ev_some ?_
    have h2' : ¬ 1 ≤ x.f1 := by omega
    rcases nil_or_snoc pre with rfl | ⟨q, p, rfl⟩ <;> simp [chainE, goodE, h2']
  ·refine ev_if_neg h1 (ev_some ?_)
   rcases nil_or_snoc pre with rfl | ⟨q, p, rfl⟩ <;> simp [chainE, goodE, h1]
theorem spec_GoodEntries_ev (l : List (S48)) (hl : l.length ≤ 1048576) (hw : ∀ x ∈ l, x.f0.size ≤ 1048576) : Ev (fun k => spec_GoodEntries.f k l) (goodEs l) :=
 spec_GoodEntries_loop l hl hw l [] rfl
theorem impl_isEntry_ev (x : S48) (hs : x.f0.size ≤ 1048576) : Ev (fun k => impl_isEntry.f k x.f0 x.f1) (goodE x) := by
 unfold impl_isEntry.f impl_within.f
 refine ev_bind (impl_isWord_ev x.f0 hs) ?_
 by_cases h1 : isWordB x.f0 = true
 ·refine ev_true h1 (ev_fun fun _ => ?_)
  by_cases h2 : x.f1 ≥ 1
  ·have h2' : 1 ≤ x.f1 := h2
   simp [goodE, h1, h2']
  ·have h2' : ¬ 1 ≤ x.f1 := h2
   simp [goodE, h1, h2']
 ·exact ev_if_neg h1 (ev_some (by simp [goodE, h1]))
theorem impl_GoodEntries_loop (l : List (S48)) (hl : l.length ≤ 1048576) (hw : ∀ x ∈ l, x.f0.size ≤ 1048576) : ∀ (rest pre : List (S48)), l = pre ++ rest →
  Ev (fun k => impl_GoodEntries.l0 k l l l.length pre.length) (chainE pre.getLast? rest && decide (l.length ≤ 20))
 | [], pre, hd => by
  have e : l.length = pre.length := by rw [hd]; simp
  refine Ev.step (fun k => impl_GoodEntries.l0.eq_2 ..) (ev_if_neg (by omega) (ev_some ?_))
  have h2 : ((l.length : Int) ≤ 20) = (l.length ≤ 20) := by apply propext; omega
  cases pre.getLast? <;> simp [chainE, h2]
 | x :: rest, pre, hd => by
  obtain ⟨hi, hx⟩ := mid_at hd
  have hx : rd_T48 l pre.length = x := hx _
  have hs := hw x (by rw [hd]; simp)
  refine Ev.step (fun k => impl_GoodEntries.l0.eq_2 ..) (ev_if_pos (by omega) (ev_if_pos (by omega) (ev_if_pos (by omega) ?_)))
  rw [hx]
  refine ev_bind (impl_isEntry_ev x hs) ?_
  have ih := impl_GoodEntries_loop l hl hw rest (pre ++ [x]) (by rw [hd]; simp)
  rw [List.length_append, List.length_singleton] at ih
  simp only [List.getLast?_append, List.getLast?_singleton, Option.some_or] at ih
  by_cases hg : goodE x = true
  ·refine ev_true hg ?_
   rcases nil_or_snoc pre with rfl | ⟨q, p, rfl⟩
   ·refine ev_if_neg (by simp) ?_
    rw [wrap_succ (by omega)]
    refine ev_eq ih ?_
    simp [chainE, hg]
   ·have hlast := last_at hd z48
    have hlast : rd_T48 l (((q ++ [p]).length : Int) - 1) = p := hlast
    have hpos : ((q ++ [p]).length : Int) > 0 := by rw [List.length_append, List.length_singleton]; omega
    rw [wrap_id (x := ((q ++ [p]).length : Int) - 1) (by omega) (by omega), hlast]
    refine ev_if_pos hpos (ev_if_pos (by omega) (ev_if_pos (by omega) ?_))
    by_cases h4 : Op.bytesLess p.f0.toList x.f0.toList = true
    ·refine ev_if_pos h4 ?_
     rw [wrap_succ (by omega)]
     refine ev_eq ih ?_
     simp [chainE, hg, h4]
    ·refine ev_if_neg h4 (ev_some ?_)
     simp [chainE, h4]
  ·refine ev_if_neg hg (ev_some ?_)
   rcases nil_or_snoc pre with rfl | ⟨q, p, rfl⟩ <;> simp [chainE, hg]
theorem impl_GoodEntries_ev (l : List (S48)) (hl : l.length ≤ 1048576) (hw : ∀ x ∈ l, x.f0.size ≤ 1048576) : Ev (fun k => impl_GoodEntries.f k l) (goodEs l) :=
 impl_GoodEntries_loop l hl hw l [] rfl
open Go.Proofs.Ytkoackkimdanjaa.Ext (LegGood legsF groups foldK legRest legsF_le groups_flat groups_ne groups_sub legRest_length)
theorem bl_trans3 : ∀ x y z : List UInt8, Op.bytesLess x y = true → Op.bytesLess y z = true → Op.bytesLess x z = true
 | [], [], z, h, _ => by simp [Op.bytesLess] at h
 | [], _ :: _, [], _, k => by simp [Op.bytesLess] at k
 | [], _ :: _, _ :: _, _, _ => rfl
 | _ :: _, [], _, h, _ => by simp [Op.bytesLess] at h
 | _ :: _, _ :: _, [], _, k => by simp [Op.bytesLess] at k
 | a :: x, b :: y, c :: z, h, k => by
  simp only [Op.bytesLess, Bool.or_eq_true, decide_eq_true_eq, Bool.and_eq_true, beq_iff_eq] at h k ⊢
  rcases h with h | ⟨h, h'⟩
  ·rcases k with k | ⟨k, k'⟩
   ·exact .inl (UInt8.lt_trans h k)
   ·exact .inl (k ▸ h)
  ·rcases k with k | ⟨k, k'⟩
   ·exact .inl (h ▸ k)
   ·exact .inr ⟨h.trans k, bl_trans3 x y z h' k'⟩
theorem chainE_all : ∀ (l : List (S48)) (p : Option (S48)), chainE p l = true → (∀ q, p = some q → ∀ x ∈ l, Op.bytesLess q.f0.data.toList x.f0.data.toList = true) ∧ (l.Pairwise fun x y => Op.bytesLess x.f0.data.toList y.f0.data.toList = true) ∧ ∀ x ∈ l, goodE x = true
 | [], _, _ => ⟨fun _ _ _ hx => absurd hx List.not_mem_nil, List.Pairwise.nil, fun _ hx => absurd hx List.not_mem_nil⟩
 | x :: l, none, h => by
  simp only [chainE, Bool.and_eq_true] at h
  obtain ⟨h1, h2, h3⟩ := chainE_all l (some x) h.2
  refine ⟨fun q hq => (by cases hq), List.pairwise_cons.2 ⟨fun y hy => h1 x rfl y hy, h2⟩, fun y hy => ?_⟩
  rcases List.mem_cons.1 hy with rfl | hy
  ·exact h.1
  ·exact h3 y hy
 | x :: l, some p, h => by
  simp only [chainE, Bool.and_eq_true] at h
  obtain ⟨h1, h2, h3⟩ := chainE_all l (some x) h.2.2
  have hpx : Op.bytesLess p.f0.data.toList x.f0.data.toList = true := by have := h.2.1; rwa [toList_data, toList_data] at this
  refine ⟨fun q hq y hy => ?_, List.pairwise_cons.2 ⟨fun y hy => h1 x rfl y hy, h2⟩, fun y hy => ?_⟩
  ·injection hq with hq
   subst hq
   rcases List.mem_cons.1 hy with rfl | hy
   ·exact hpx
   ·exact bl_trans3 _ _ _ hpx (h1 x rfl y hy)
  ·rcases List.mem_cons.1 hy with rfl | hy
   ·exact h.1
   ·exact h3 y hy
theorem goodE_size {x : S48} (h : goodE x = true) : 1 ≤ x.f0.size ∧ x.f0.size ≤ 12 := by
 simp only [goodE, isWordB, Bool.and_eq_true, decide_eq_true_eq] at h
 exact h.1.2
theorem goodEs_leg {l : List (S48)} (h : goodEs l = true) : LegGood (fun x : S48 => x.f0.data.toList) 0 l := by
 simp only [goodEs, Bool.and_eq_true, decide_eq_true_eq] at h
 obtain ⟨_, h2, h3⟩ := chainE_all l none h.1
 exact ⟨by omega, fun x hx => ⟨Nat.zero_le _, by have := (goodE_size (h3 x hx)).2; rw [Array.length_toList]; exact this⟩, fun _ _ _ _ => rfl, h2, h.2⟩
def allLegs (l : List (S48)) : List (S59) := legsF (fun x : S48 => x.f0.data.toList) (fun x => x.f1) (fun a b c k => (⟨a, b, c, k⟩ : S59)) 13 l 0 0
theorem foldK_fst {α β : Type} (F : List α → Nat → List β) (at_ : Nat) : ∀ (gs : List (List α)) (ks : List Int) (bs : List β), (foldK F at_ gs ks bs).1.length = ks.length + gs.length
 | [], ks, bs => rfl
 | g :: gs, ks, bs => by
  unfold foldK
  rw [foldK_fst F at_ gs]
  simp
  omega
theorem foldK_mem {α β : Type} (F : List α → Nat → List β) (at_ : Nat) (x : β) : ∀ (gs : List (List α)) (ks : List Int) (bs : List β), x ∈ (foldK F at_ gs ks bs).2 → x ∈ bs ∨ ∃ g ∈ gs, ∃ a, x ∈ F g a
 | [], ks, bs, h => .inl h
 | g :: gs, ks, bs, h => by
  unfold foldK at h
  rcases foldK_mem F at_ x gs _ _ h with h | ⟨g', hg', h⟩
  ·rcases List.mem_append.1 h with h | h
   ·exact .inl h
   ·exact .inr ⟨g, by simp, _, h⟩
  ·exact .inr ⟨g', by simp [hg'], h⟩
theorem length_le_flatten {α : Type} : ∀ gs : List (List α), (∀ g ∈ gs, g ≠ []) → gs.length ≤ gs.flatten.length
 | [], _ => Nat.le_refl _
 | g :: gs, h => by
  have h1 := length_le_flatten gs (fun g' hg' => h g' (by simp [hg']))
  have h2 : 1 ≤ g.length := List.length_pos_iff.2 (h g (by simp))
  rw [List.flatten_cons, List.length_append, List.length_cons]
  omega
theorem legsF_kids : ∀ (k : Nat) (l : List (S48)) (n at_ : Nat), ∀ x ∈ legsF (fun x : S48 => x.f0.data.toList) (fun x => x.f1) (fun a b c k => (⟨a, b, c, k⟩ : S59)) k l n at_, x.f3.length ≤ l.length
 | 0, l, n, at_, x, hx => by cases hx
 | k + 1, l, n, at_, x, hx => by
  unfold legsF at hx
  have hgl := groups_flat (wd := fun x : S48 => x.f0.data.toList) n (legRest (fun x : S48 => x.f0.data.toList) n l)
  have hrl := legRest_length (wd := fun x : S48 => x.f0.data.toList) n l
  rcases List.mem_cons.1 hx with rfl | hx
  ·show (foldK _ _ _ _ _).1.length ≤ _
   rw [foldK_fst]
   have h1 := length_le_flatten _ (groups_ne (wd := fun x : S48 => x.f0.data.toList) n (legRest (fun x : S48 => x.f0.data.toList) n l))
   rw [hgl] at h1
   simp
   omega
  ·rcases foldK_mem _ _ x _ _ _ hx with hx | ⟨g, hg, a, hx⟩
   ·cases hx
   ·have h1 := legsF_kids k g (n + 1) a x hx
    have h2 := (groups_sub n _ g hg).length_le
    omega
theorem allLegs_le (l : List (S48)) : (allLegs l).length ≤ 1 + l.length * 13 := legsF_le 13 l 0 0
theorem allLegs_kids (l : List (S48)) : ∀ x ∈ allLegs l, x.f3.length ≤ l.length := legsF_kids 13 l 0 0
def buildR (l : List (S48)) : List (S59) × Bool := if goodEs l = true then (if ((allLegs l).length : Int) > 120 then ([], false) else (allLegs l, true)) else ([], false)
theorem spec_l13Build_eq {l : List (S48)} (h : goodEs l = true) : spec_l13Build.f l 0 [] = some (allLegs l) := by
 have hg := goodEs_leg h
 have hm := hg.many
 unfold spec_l13Build.f
 rw [if_pos ⟨Int.le_refl 0, hg, by simp; omega⟩]
 rfl
theorem impl_legs_eq {l : List (S48)} (h : goodEs l = true) : impl_legs.f [] l 0 = some (allLegs l) := by
 have hg := goodEs_leg h
 have hm := hg.many
 unfold impl_legs.f
 rw [if_pos ⟨Int.le_refl 0, hg, fun h => absurd h (by simp), by simp; omega⟩]
 rfl
theorem impl_build_ev (l : List (S48)) (hl : l.length ≤ 1048576) (hw : ∀ x ∈ l, x.f0.size ≤ 1048576) : Ev (fun k => impl_build.f k l) (buildR l) := by
 unfold impl_build.f buildR
 refine ev_bind (impl_GoodEntries_ev l hl hw) ?_
 cases hg : goodEs l with
 | true =>
  refine ev_if_pos rfl ?_
  rw [impl_legs_eq hg]
  simp only [Option.bind_some]
  exact ev_ite (fun _ => ev_some rfl) (fun _ => ev_some rfl)
 | false => exact ev_if_neg (by simp) (ev_some rfl)
theorem buildR_small (l : List (S48)) : (buildR l).1.length ≤ 120 ∧ ∀ x ∈ (buildR l).1, x.f3.length ≤ 20 := by
 unfold buildR
 by_cases hg : goodEs l = true
 ·rw [if_pos hg]
  by_cases h : ((allLegs l).length : Int) > 120
  ·rw [if_pos h]; exact ⟨by simp, by simp⟩
  ·rw [if_neg h]
   exact ⟨by show (allLegs l).length ≤ 120; omega, fun x hx => Nat.le_trans (allLegs_kids l x hx) (goodEs_leg hg).many⟩
 ·rw [if_neg hg]; exact ⟨by simp, by simp⟩
theorem spec_BuildLegs_ev (l : List (S48)) (hl : l.length ≤ 1048576) (hw : ∀ x ∈ l, x.f0.size ≤ 1048576) : Ev (fun k => spec_BuildLegs.f k l) (buildR l) := by
 unfold spec_BuildLegs.f buildR
 refine ev_bind (spec_GoodEntries_ev l hl hw) ?_
 cases hg : goodEs l with
 | true =>
  refine ev_if_pos rfl ?_
  rw [spec_l13Build_eq hg]
  simp only [Option.bind_some]
  exact ev_ite (fun _ => ev_some rfl) (fun _ => ev_some rfl)
 | false => exact ev_if_neg (by simp) (ev_some rfl)
theorem impl_BuildLegs_ev (l : List (S48)) (hl : l.length ≤ 1048576) (hw : ∀ x ∈ l, x.f0.size ≤ 1048576) : Ev (fun k => impl_BuildLegs.f k l) (buildR l) := by
 unfold impl_BuildLegs.f
 exact ev_bind (impl_build_ev l hl hw) (ev_some rfl)
abbrev wdE : S48 → List UInt8 := fun x => x.f0.data.toList
def segL (k : Nat) (l : List (S48)) (n at_ : Nat) : List (S59) := legsF wdE (fun x => x.f1) (fun a b c k => (⟨a, b, c, k⟩ : S59)) k l n at_
def kidsF {α β : Type} (F : List α → Nat → List β) : List (List α) → Nat → List Int
 | [], _ => []
 | g :: gs, pos => (pos : Int) :: kidsF F gs (pos + (F g pos).length)
def bodyF {α β : Type} (F : List α → Nat → List β) : List (List α) → Nat → List β
 | [], _ => []
 | g :: gs, pos => F g pos ++ bodyF F gs (pos + (F g pos).length)
theorem foldK_eq {α β : Type} (F : List α → Nat → List β) (at_ : Nat) : ∀ (gs : List (List α)) (ks : List Int) (bs : List β), foldK F at_ gs ks bs = (ks ++ kidsF F gs (at_ + 1 + bs.length), bs ++ bodyF F gs (at_ + 1 + bs.length))
 | [], ks, bs => by simp [foldK, kidsF, bodyF]
 | g :: gs, ks, bs => by
  unfold foldK
  rw [foldK_eq F at_ gs]
  simp only [kidsF, bodyF, List.append_assoc, List.length_append, List.singleton_append, Nat.add_assoc]
theorem segL_succ (k : Nat) (l : List (S48)) (n at_ : Nat) : segL (k + 1) l n at_ = ⟨Go.Proofs.Ytkoackkimdanjaa.Ext.legLetter wdE n l, Go.Proofs.Ytkoackkimdanjaa.Ext.legWeight wdE (fun x => x.f1) n l, Go.Proofs.Ytkoackkimdanjaa.Ext.legBest (fun x => x.f1) l 0, kidsF (fun g a => segL k g (n + 1) a) (groups wdE n (legRest wdE n l)) (at_ + 1)⟩ :: bodyF (fun g a => segL k g (n + 1) a) (groups wdE n (legRest wdE n l)) (at_ + 1) := by
 unfold segL
 rw [show legsF wdE (fun x => x.f1) (fun a b c k => (⟨a, b, c, k⟩ : S59)) (k + 1) l n at_ = ⟨Go.Proofs.Ytkoackkimdanjaa.Ext.legLetter wdE n l, Go.Proofs.Ytkoackkimdanjaa.Ext.legWeight wdE (fun x => x.f1) n l, Go.Proofs.Ytkoackkimdanjaa.Ext.legBest (fun x => x.f1) l 0, (foldK (fun g a => legsF wdE (fun x => x.f1) (fun a b c k => (⟨a, b, c, k⟩ : S59)) k g (n + 1) a) at_ (groups wdE n (legRest wdE n l)) [] []).1⟩ :: (foldK (fun g a => legsF wdE (fun x => x.f1) (fun a b c k => (⟨a, b, c, k⟩ : S59)) k g (n + 1) a) at_ (groups wdE n (legRest wdE n l)) [] []).2 from rfl, foldK_eq]
 rfl
theorem segL_ne {k n at_ : Nat} {l : List (S48)} (hn : n + k = 13) (hg : LegGood wdE n l) : segL k l n at_ ≠ [] := by
 cases k with
 | zero => have := hg.n12; omega
 | succ k => rw [segL_succ]; simp
theorem kidsF_range {α β : Type} (F : List α → Nat → List β) : ∀ (gs : List (List α)) (pos : Nat), (∀ g ∈ gs, ∀ a, F g a ≠ []) → (∀ x ∈ kidsF F gs pos, (pos : Int) ≤ x ∧ x < ((pos + (bodyF F gs pos).length : Nat) : Int)) ∧ (kidsF F gs pos).Pairwise (· < ·)
 | [], pos, _ => ⟨fun x hx => absurd hx List.not_mem_nil, List.Pairwise.nil⟩
 | g :: gs, pos, h => by
  obtain ⟨h1, h2⟩ := kidsF_range F gs (pos + (F g pos).length) (fun g' hg' => h g' (by simp [hg']))
  have hp : 0 < (F g pos).length := List.length_pos_iff.2 (h g (by simp) pos)
  have e : (bodyF F (g :: gs) pos).length = (F g pos).length + (bodyF F gs (pos + (F g pos).length)).length := by simp [bodyF]
  refine ⟨fun x hx => ?_, List.pairwise_cons.2 ⟨fun x hx => ?_, h2⟩⟩
  ·rw [e]
   rcases List.mem_cons.1 hx with rfl | hx
   ·omega
   ·have := h1 x hx; omega
  ·have := h1 x hx; omega
theorem kidsF_length {α β : Type} (F : List α → Nat → List β) : ∀ (gs : List (List α)) (pos : Nat), (kidsF F gs pos).length = gs.length
 | [], _ => rfl
 | g :: gs, pos => by simp [kidsF, kidsF_length F gs]
theorem bodyF_get {α β : Type} (F : List α → Nat → List β) : ∀ (gs : List (List α)) (pos j : Nat) (x : β), (bodyF F gs pos)[j]? = some x → ∃ g ∈ gs, ∃ p' j', p' + j' = pos + j ∧ (F g p')[j']? = some x ∧ pos ≤ p' ∧ p' + (F g p').length ≤ pos + (bodyF F gs pos).length
 | [], pos, j, x, h => by simp [bodyF] at h
 | g :: gs, pos, j, x, h => by
  have e : (bodyF F (g :: gs) pos).length = (F g pos).length + (bodyF F gs (pos + (F g pos).length)).length := by simp [bodyF]
  unfold bodyF at h
  rcases Nat.lt_or_ge j (F g pos).length with hj | hj
  ·rw [List.getElem?_append_left hj] at h
   exact ⟨g, by simp, pos, j, rfl, h, Nat.le_refl _, by omega⟩
  ·rw [List.getElem?_append_right hj] at h
   obtain ⟨g', hg', p', j', h1, h2, h3, h4⟩ := bodyF_get F gs _ _ x h
   exact ⟨g', by simp [hg'], p', j', by omega, h2, by omega, by omega⟩
theorem segL_rising : ∀ (k : Nat) (l : List (S48)) (n at_ : Nat), n + k = 13 → LegGood wdE n l → ∀ j x, (segL k l n at_)[j]? = some x → (∀ y ∈ x.f3, ((at_ + j + 1 : Nat) : Int) ≤ y ∧ y < ((at_ + (segL k l n at_).length : Nat) : Int)) ∧ x.f3.Pairwise (· < ·)
 | 0, l, n, at_, hn, hg, _, _, _ => by have := hg.n12; omega
 | k + 1, l, n, at_, hn, hg, j, x, hx => by
  have hne : ∀ g ∈ groups wdE n (legRest wdE n l), ∀ a, segL k g (n + 1) a ≠ [] := fun g hgm a => segL_ne (by omega) (hg.group hgm)
  have e : (segL (k + 1) l n at_).length = 1 + (bodyF (fun g a => segL k g (n + 1) a) (groups wdE n (legRest wdE n l)) (at_ + 1)).length := by rw [segL_succ, List.length_cons, Nat.add_comm]
  rw [e]
  rw [segL_succ] at hx
  cases j with
  | zero =>
   rw [List.getElem?_cons_zero] at hx
   injection hx with hx
   subst hx
   obtain ⟨h1, h2⟩ := kidsF_range (fun g a => segL k g (n + 1) a) (groups wdE n (legRest wdE n l)) (at_ + 1) hne
   exact ⟨fun y hy => by have := h1 y hy; omega, h2⟩
  | succ j =>
   rw [List.getElem?_cons_succ] at hx
   obtain ⟨g, hgm, p', j', h1, h2, h3, h4⟩ := bodyF_get _ _ _ _ _ hx
   obtain ⟨h5, h6⟩ := segL_rising k g (n + 1) p' (by omega) (hg.group hgm) j' x h2
   exact ⟨fun y hy => by have := h5 y hy; omega, h6⟩
def sumK : List (S59) → Nat
 | [] => 0
 | x :: l => x.f3.length + sumK l
theorem sumK_append : ∀ a b : List (S59), sumK (a ++ b) = sumK a + sumK b
 | [], b => by simp [sumK]
 | x :: a, b => by simp [sumK, sumK_append a b, Nat.add_assoc]
theorem bodyF_sum (F : List (S48) → Nat → List (S59)) : ∀ (gs : List (List (S48))) (pos : Nat), (∀ g ∈ gs, ∀ a, sumK (F g a) + 1 = (F g a).length) → sumK (bodyF F gs pos) + gs.length = (bodyF F gs pos).length
 | [], _, _ => rfl
 | g :: gs, pos, h => by
  have h1 := bodyF_sum F gs (pos + (F g pos).length) (fun g' hg' => h g' (by simp [hg']))
  have h2 := h g (by simp) pos
  simp only [bodyF, sumK_append, List.length_append, List.length_cons]
  omega
theorem segL_sum : ∀ (k : Nat) (l : List (S48)) (n at_ : Nat), n + k = 13 → LegGood wdE n l → sumK (segL k l n at_) + 1 = (segL k l n at_).length
 | 0, l, n, at_, hn, hg => by have := hg.n12; omega
 | k + 1, l, n, at_, hn, hg => by
  have h := bodyF_sum (fun g a => segL k g (n + 1) a) (groups wdE n (legRest wdE n l)) (at_ + 1) (fun g hgm a => segL_sum k g (n + 1) a (by omega) (hg.group hgm))
  rw [segL_succ]
  simp only [sumK, List.length_cons, kidsF_length]
  omega
def entK (E : Nat → ByteArray → List (S48) → List (S48)) (t : List (S59)) (at_ : Nat) (word : ByteArray) : List Int → List (S48) → List (S48)
 | [], out => out
 | x :: ks, out => entK E t at_ word ks (if (x > (at_ : Int) ∧ x < (t.length : Int) ∧ (out.length : Int) ≤ 20 ∧ (word.size : Int) < 12) ∧ 0 ≤ (rd_T59 t x).f0 ∧ (rd_T59 t x).f0 ≤ 25 then E x.toNat (word ++ strOfNums [97 + (rd_T59 t x).f0]) out else out)
def entS (t : List (S59)) : Nat → Nat → ByteArray → List (S48) → List (S48)
 | 0, _, _, out => out
 | f + 1, at_, word, out => entK (entS t f) t at_ word (rd_T59 t at_).f3 (if (rd_T59 t at_).f1 > 0 then out ++ [⟨word, (rd_T59 t at_).f1⟩] else out)
theorem l1In_eq (a lo hi : Int) : spec_l1In.f a lo hi = some (decide (lo ≤ a) && decide (a ≤ hi)) := by
 unfold spec_l1In.f
 by_cases h : a ≥ lo
 ·rw [if_pos h]; simp [h]
 ·rw [if_neg h]; simp [show ¬ lo ≤ a by omega]
theorem l13Loop (t : List (S59)) (ht : t.length ≤ 120) (E : Nat → ByteArray → List (S48) → List (S48)) (at_ : Nat) (word : ByteArray) (hw : word.size ≤ 12)
  (hE : ∀ p w o, at_ < p → p < t.length → w.size ≤ 12 → o.length ≤ 20 → Ev (fun k => spec_l13Entries.f k t (p : Int) w o) (E p w o) ∧ (E p w o).length ≤ 21) (ks : List Int) (hks : ks.length ≤ 1048576) :
  ∀ (rest : List Int) (i : Nat) (out : List (S48)), ks.drop i = rest → out.length ≤ 21 → Ev (fun k => spec_l13Entries.l0 k t (at_ : Int) word out ks (ks.length : Int) i) (entK E t at_ word rest out) ∧ (entK E t at_ word rest out).length ≤ 21
 | [], i, out, hd, ho => by
  have h := drop_nil hd
  exact ⟨Ev.step (fun k => spec_l13Entries.l0.eq_2 ..) (ev_if_neg (by omega) (ev_some rfl)), ho⟩
 | x :: rest, i, out, hd, ho => by
  obtain ⟨hi, hd', hx⟩ := drop_cons hd
  have hx : rd ks i = x := hx 0
  have hs : wrap64 ((i : Int) + 1) = ((i + 1 : Nat) : Int) := wrap_succ (by omega)
  by_cases hc : (x > (at_ : Int) ∧ x < (t.length : Int) ∧ (out.length : Int) ≤ 20 ∧ (word.size : Int) < 12) ∧ 0 ≤ (rd_T59 t x).f0 ∧ (rd_T59 t x).f0 ≤ 25
  ·obtain ⟨p, rfl⟩ : ∃ p : Nat, x = p := ⟨x.toNat, by omega⟩
   have hsz : (word ++ strOfNums [97 + (rd_T59 t (p : Int)).f0]).size ≤ 12 := by rw [size_append, one_size]; omega
   obtain ⟨h1, h2⟩ := hE p (word ++ strOfNums [97 + (rd_T59 t (p : Int)).f0]) out (by omega) (by omega) hsz (by omega)
   obtain ⟨h3, h4⟩ := l13Loop t ht E at_ word hw hE ks hks rest (i + 1) (E p (word ++ strOfNums [97 + (rd_T59 t (p : Int)).f0]) out) hd' h2
   have e : entK E t at_ word ((p : Int) :: rest) out = entK E t at_ word rest (E p (word ++ strOfNums [97 + (rd_T59 t (p : Int)).f0]) out) := by
    show entK E t at_ word rest (if _ then _ else _) = _
    rw [if_pos hc, Int.toNat_natCast]
   rw [e]
   refine ⟨Ev.step (fun k => spec_l13Entries.l0.eq_2 ..) (ev_if_pos (by omega) (ev_if_pos (by omega) (ev_if_pos (by omega) ?_))), h4⟩
   simp only [hx, hs, l1In_eq, Option.bind_some]
   have hb : (decide (0 ≤ (rd_T59 t (p : Int)).f0) && decide ((rd_T59 t (p : Int)).f0 ≤ 25)) = true := by simp [hc.2.1, hc.2.2]
   have hwr : wrap64 (97 + (rd_T59 t (p : Int)).f0) % 256 = 97 + (rd_T59 t (p : Int)).f0 := by rw [wrap_id (by omega) (by omega)]; omega
   rw [hwr]
   refine ev_if_pos hc.1.1 (ev_if_pos hc.1.2.1 (ev_if_pos hc.1.2.2.1 (ev_if_pos hc.1.2.2.2 (ev_if_pos (by omega) (ev_if_pos hb (ev_if_pos (by rw [one_size]; omega) (ev_bind h1 h3)))))))
  ·have e : entK E t at_ word (x :: rest) out = entK E t at_ word rest out := by
    show entK E t at_ word rest (if _ then _ else _) = _
    rw [if_neg hc]
   obtain ⟨h3, h4⟩ := l13Loop t ht E at_ word hw hE ks hks rest (i + 1) out hd' ho
   rw [e]
   refine ⟨Ev.step (fun k => spec_l13Entries.l0.eq_2 ..) (ev_if_pos (by omega) (ev_if_pos (by omega) (ev_if_pos (by omega) ?_))), h4⟩
   simp only [hx, hs, l1In_eq, Option.bind_some]
   by_cases c1 : x > (at_ : Int)
   ·refine ev_if_pos c1 ?_
    by_cases c2 : x < (t.length : Int)
    ·refine ev_if_pos c2 ?_
     by_cases c3 : (out.length : Int) ≤ 20
     ·refine ev_if_pos c3 ?_
      by_cases c4 : (word.size : Int) < 12
      ·refine ev_if_pos c4 (ev_if_pos (by omega) ?_)
       refine ev_if_neg (fun hb => hc ⟨⟨c1, c2, c3, c4⟩, ?_⟩) h3
       simpa using hb
      ·exact ev_if_neg c4 h3
     ·exact ev_if_neg c3 h3
    ·exact ev_if_neg c2 h3
   ·exact ev_if_neg c1 h3
theorem l13Ent_ev (t : List (S59)) (ht : t.length ≤ 120) (hk : ∀ x ∈ t, x.f3.length ≤ 1048576) : ∀ (f at_ : Nat) (word : ByteArray) (out : List (S48)), at_ < t.length → t.length ≤ at_ + f → word.size ≤ 12 → out.length ≤ 20 → Ev (fun k => spec_l13Entries.f k t (at_ : Int) word out) (entS t f at_ word out) ∧ (entS t f at_ word out).length ≤ 21
 | 0, at_, word, out, h1, h2, _, _ => by omega
 | f + 1, at_, word, out, h1, h2, hw, ho => by
  have hmem : (rd_T59 t (at_ : Int)).f3.length ≤ 1048576 := by
   have e : rd_T59 t (at_ : Int) = t[at_] := by
    show t.getD (at_ : Int).toNat _ = _
    rw [Int.toNat_natCast, List.getD_eq_getElem?_getD, List.getElem?_eq_getElem h1]; rfl
   rw [e]
   exact hk _ (List.getElem_mem h1)
  have hE : ∀ p w o, at_ < p → p < t.length → w.size ≤ 12 → o.length ≤ 20 → Ev (fun k => spec_l13Entries.f k t (p : Int) w o) (entS t f p w o) ∧ (entS t f p w o).length ≤ 21 := fun p w o hp hpt hw ho => l13Ent_ev t ht hk f p w o hpt (by omega) hw ho
  have hj : ∀ out' : List (S48), out'.length ≤ 21 → Ev (fun k => spec_l13Entries.j0 k t (at_ : Int) word out') (entK (entS t f) t at_ word (rd_T59 t at_).f3 out') ∧ (entK (entS t f) t at_ word (rd_T59 t at_).f3 out').length ≤ 21 := fun out' ho' => by
   obtain ⟨h3, h4⟩ := l13Loop t ht (entS t f) at_ word hw hE _ hmem _ 0 out' rfl ho'
   exact ⟨Ev.step (fun k => spec_l13Entries.j0.eq_2 ..) (ev_if_pos (by omega) (ev_if_pos (by omega) h3)), h4⟩
  unfold entS
  by_cases hp : (rd_T59 t (at_ : Int)).f1 > 0
  ·rw [if_pos hp]
   obtain ⟨h3, h4⟩ := hj (out ++ [⟨word, (rd_T59 t at_).f1⟩]) (by simp; omega)
   exact ⟨Ev.step (fun k => spec_l13Entries.f.eq_2 ..) (ev_if_pos (by omega) (ev_if_pos (by omega) (ev_if_pos hp (ev_if_pos (by omega) h3)))), h4⟩
  ·rw [if_neg hp]
   obtain ⟨h3, h4⟩ := hj out (by omega)
   exact ⟨Ev.step (fun k => spec_l13Entries.f.eq_2 ..) (ev_if_pos (by omega) (ev_if_pos (by omega) (ev_if_neg hp h3))), h4⟩
theorem entK_words (E : Nat → ByteArray → List (S48) → List (S48)) (hE : ∀ p w o, w.size ≤ 12 → ∀ x ∈ E p w o, x ∈ o ∨ x.f0.size ≤ 12) (t : List (S59)) (at_ : Nat) (word : ByteArray) : ∀ (ks : List Int) (out : List (S48)), ∀ x ∈ entK E t at_ word ks out, x ∈ out ∨ x.f0.size ≤ 12
 | [], out, x, hx => .inl hx
 | y :: ks, out, x, hx => by
  have hx : x ∈ entK E t at_ word ks (if (y > (at_ : Int) ∧ y < (t.length : Int) ∧ (out.length : Int) ≤ 20 ∧ (word.size : Int) < 12) ∧ 0 ≤ (rd_T59 t y).f0 ∧ (rd_T59 t y).f0 ≤ 25 then E y.toNat (word ++ strOfNums [97 + (rd_T59 t y).f0]) out else out) := hx
  rcases entK_words E hE t at_ word ks _ x hx with h | h
  ·split at h
   ·rename_i hc
    exact hE _ _ _ (by rw [size_append, one_size]; omega) x h
   ·exact .inl h
  ·exact .inr h
theorem entS_words (t : List (S59)) : ∀ (f at_ : Nat) (word : ByteArray) (out : List (S48)), word.size ≤ 12 → ∀ x ∈ entS t f at_ word out, x ∈ out ∨ x.f0.size ≤ 12
 | 0, _, _, _, _, x, hx => .inl hx
 | f + 1, at_, word, out, hw, x, hx => by
  unfold entS at hx
  rcases entK_words (entS t f) (fun p w o h => entS_words t f p w o h) t at_ word _ _ x hx with h | h
  ·split at h
   ·rcases List.mem_append.1 h with h | h
    ·exact .inl h
    ·rw [List.mem_singleton.1 h]; exact .inr hw
   ·exact .inl h
  ·exact .inr h
def AtSeg (t b : List (S59)) (p : Nat) : Prop := ∀ j, j < b.length → t[p + j]? = b[j]?
theorem AtSeg.left {t a b : List (S59)} {p : Nat} (h : AtSeg t (a ++ b) p) : AtSeg t a p := fun j hj => by
 rw [h j (by rw [List.length_append]; omega), List.getElem?_append_left hj]
theorem AtSeg.right {t a b : List (S59)} {p : Nat} (h : AtSeg t (a ++ b) p) : AtSeg t b (p + a.length) := fun j hj => by
 have := h (a.length + j) (by rw [List.length_append]; omega)
 rw [List.getElem?_append_right (by omega), Nat.add_sub_cancel_left, ← Nat.add_assoc] at this
 exact this
theorem AtSeg.head {t b : List (S59)} {x : S59} {p : Nat} (h : AtSeg t (x :: b) p) : t[p]? = some x := by
 have := h 0 (by simp)
 simpa using this
theorem AtSeg.tail {t b : List (S59)} {x : S59} {p : Nat} (h : AtSeg t (x :: b) p) : AtSeg t b (p + 1) := AtSeg.right (a := [x]) h
theorem rd_at {t : List (S59)} {p : Nat} {x : S59} (h : t[p]? = some x) : rd_T59 t (p : Int) = x := by
 show t.getD (p : Int).toNat _ = _
 rw [Int.toNat_natCast, List.getD_eq_getElem?_getD, h]; rfl
theorem getD_letter {s : ByteArray} : ∀ (d i : Nat), lettersN s d i = true → i + d = s.size → ∀ j, i ≤ j → j < s.size → 97 ≤ bt s (j : Int) ∧ bt s (j : Int) ≤ 122
 | 0, i, _, h, j, h1, h2 => by omega
 | d + 1, i, hl, h, j, h1, h2 => by
  simp only [lettersN, Bool.and_eq_true, decide_eq_true_eq] at hl
  rcases Nat.lt_or_ge i j with hij | hij
  ·exact getD_letter d (i + 1) (by first | exact hl.2 | exact hl.2.2) (by omega) j (by omega) h2
  ·obtain rfl : i = j := by omega
   first | exact hl.1 | exact ⟨hl.1, hl.2.1⟩
theorem goodE_letter {y : S48} (h : goodE y = true) {n : Nat} (hn : n < y.f0.size) : 97 ≤ (((wdE y).getD n 0).toNat : Int) ∧ (((wdE y).getD n 0).toNat : Int) ≤ 122 := by
 simp only [goodE, isWordB, Bool.and_eq_true] at h
 have := getD_letter y.f0.size 0 h.1.1 (by omega) n (Nat.zero_le _) hn
 rw [Go.Proofs.Ytkoackkimdanjaa.Ext.bt_data] at this
 exact this
theorem wdE_length (y : S48) : (wdE y).length = y.f0.size := by show y.f0.data.toList.length = _; rw [Array.length_toList]; rfl
theorem segL_head {k n pos : Nat} {g : List (S48)} (hn : n + 1 + k = 13) (hg : LegGood wdE (n + 1) g) (y : S48) (hy : y ∈ g) : ∃ x b, segL k g (n + 1) pos = x :: b ∧ x.f0 = ((((wdE y).getD n 0).toNat : Int) - 97) % 256 := by
 cases k with
 | zero => have := hg.n12; omega
 | succ k =>
  rw [segL_succ]
  refine ⟨_, _, rfl, ?_⟩
  show Go.Proofs.Ytkoackkimdanjaa.Ext.legLetter wdE (n + 1) g = _
  rw [hg.letter (by omega) hy, Nat.add_sub_cancel]
theorem byte_back {b : UInt8} (h1 : 97 ≤ (b.toNat : Int)) (h2 : (b.toNat : Int) ≤ 122) : UInt8.ofNat (97 + ((b.toNat : Int) - 97) % 256).toNat = b := by
 rw [show (97 + ((b.toNat : Int) - 97) % 256).toNat = b.toNat by omega]
 exact UInt8.ofNat_toNat
theorem entK_seg (t : List (S59)) (E : Nat → ByteArray → List (S48) → List (S48)) (at_ n k : Nat) (hnk : n + 1 + k = 13) (word : ByteArray) (hws : word.size = n)
  (hE : ∀ g p w o, LegGood wdE (n + 1) g → g ≠ [] → (∀ x ∈ g, goodE x = true) → (∀ x ∈ g, (wdE x).take (n + 1) = w.data.toList) → w.size = n + 1 → AtSeg t (segL k g (n + 1) p) p → p + (segL k g (n + 1) p).length ≤ t.length → at_ < p → o.length + g.length ≤ 20 → E p w o = o ++ g) :
  ∀ (gs : List (List (S48))) (pos : Nat) (out : List (S48)), (∀ g ∈ gs, LegGood wdE (n + 1) g ∧ g ≠ [] ∧ (∀ x ∈ g, goodE x = true) ∧ ∀ x ∈ g, (wdE x).take n = word.data.toList) → AtSeg t (bodyF (fun g a => segL k g (n + 1) a) gs pos) pos → pos + (bodyF (fun g a => segL k g (n + 1) a) gs pos).length ≤ t.length → at_ < pos → out.length + gs.flatten.length ≤ 20 →
  entK E t at_ word (kidsF (fun g a => segL k g (n + 1) a) gs pos) out = out ++ gs.flatten
 | [], pos, out, _, _, _, _, _ => by simp [kidsF, entK]
 | g :: gs, pos, out, hall, hseg, hlen, hat, ho => by
  obtain ⟨hg, hne, hgood, hpre⟩ := hall g (by simp)
  obtain ⟨y, g', rfl⟩ : ∃ y g', g = y :: g' := by cases g with | nil => exact absurd rfl hne | cons y g' => exact ⟨y, g', rfl⟩
  have hyg := hgood y (by simp)
  have hsz := hg.size y (by simp)
  rw [wdE_length] at hsz
  obtain ⟨hl1, hl2⟩ := goodE_letter hyg (n := n) (by omega)
  obtain ⟨x, b, hxb, hx0⟩ := segL_head (pos := pos) hnk hg y (by simp)
  have e : (bodyF (fun g a => segL k g (n + 1) a) ((y :: g') :: gs) pos) = segL k (y :: g') (n + 1) pos ++ bodyF (fun g a => segL k g (n + 1) a) gs (pos + (segL k (y :: g') (n + 1) pos).length) := rfl
  rw [e] at hseg hlen
  rw [List.length_append] at hlen
  have hs1 := hseg.left
  have hs2 := hseg.right
  have hrd : rd_T59 t (pos : Int) = x := rd_at (by rw [hxb] at hs1; exact hs1.head)
  have hpl : 0 < (segL k (y :: g') (n + 1) pos).length := by rw [hxb]; simp
  rw [List.flatten_cons, List.length_append] at ho
  have hn12 := hg.n12
  show entK E t at_ word (kidsF (fun g a => segL k g (n + 1) a) gs (pos + (segL k (y :: g') (n + 1) pos).length)) (if _ then _ else _) = _
  have hyl : 1 ≤ (y :: g').length := by simp
  rw [hrd, hx0, if_pos ⟨⟨by omega, by omega, by omega, by omega⟩, by omega, by omega⟩, Int.toNat_natCast]
  have hw2 : (word ++ strOfNums [97 + ((((wdE y).getD n 0).toNat : Int) - 97) % 256]).size = n + 1 := by rw [size_append, one_size, hws]
  have hp2 : ∀ z ∈ y :: g', (wdE z).take (n + 1) = (word ++ strOfNums [97 + ((((wdE y).getD n 0).toNat : Int) - 97) % 256]).data.toList := by
   intro z hz
   have h1 : (wdE z).take (n + 1) = (wdE y).take (n + 1) := hg.pre z hz y (by simp)
   have h2 : (wdE y).take (n + 1) = (wdE y).take n ++ [(wdE y).getD n 0] := by
    rw [List.take_add_one, List.getD_eq_getElem?_getD, List.getElem?_eq_getElem (by rw [wdE_length]; omega)]; rfl
   rw [h1, h2, hpre y (by simp), ByteArray.data_append, Array.toList_append, strOfNums_data]
   simp only [List.map_cons, List.map_nil]
   rw [byte_back hl1 hl2]
  rw [hE (y :: g') pos _ out hg hne hgood hp2 hw2 hs1 (by omega) hat (by omega)]
  have ih := entK_seg t E at_ n k hnk word hws hE gs (pos + (segL k (y :: g') (n + 1) pos).length) (out ++ (y :: g')) (fun g hg => hall g (by simp [hg])) hs2 (by omega) (by omega) (by rw [List.length_append]; omega)
  rw [ih, List.flatten_cons, List.append_assoc]
theorem byteArray_ext {a b : ByteArray} (h : a.data.toList = b.data.toList) : a = b := by
 cases a; cases b
 congr 1
 exact Array.toList_inj.mp h
theorem leg_first {n : Nat} {l : List (S48)} {word : ByteArray} (hg : LegGood wdE n l) (hgood : ∀ x ∈ l, goodE x = true) (hpre : ∀ x ∈ l, (wdE x).take n = word.data.toList) (out : List (S48)) :
  (if Go.Proofs.Ytkoackkimdanjaa.Ext.legWeight wdE (fun x : S48 => x.f1) n l > 0 then out ++ [⟨word, Go.Proofs.Ytkoackkimdanjaa.Ext.legWeight wdE (fun x : S48 => x.f1) n l⟩] else out) ++ legRest wdE n l = out ++ l := by
 cases l with
 | nil => simp [Go.Proofs.Ytkoackkimdanjaa.Ext.legWeight, legRest]
 | cons y l' =>
  show (if (if (wdE y).length = n then y.f1 else 0) > 0 then out ++ [⟨word, (if (wdE y).length = n then y.f1 else 0)⟩] else out) ++ (if (wdE y).length = n then l' else y :: l') = _
  by_cases hn : (wdE y).length = n
  ·have h1 : 1 ≤ y.f1 := by
    have := hgood y (by simp)
    simp only [goodE, Bool.and_eq_true, decide_eq_true_eq] at this
    exact this.2.1
   have hw : y.f0 = word := by
    apply byteArray_ext
    have := hpre y (by simp)
    rw [← hn, List.take_length] at this
    exact this
   rw [if_pos hn, if_pos hn, if_pos (by omega), List.append_assoc, ← hw]
   rfl
  ·rw [if_neg hn, if_neg hn, if_neg (by omega)]
theorem entS_seg (t : List (S59)) : ∀ (k : Nat) (l : List (S48)) (n at_ : Nat), n + k = 13 → LegGood wdE n l → (∀ x ∈ l, goodE x = true) → ∀ (word : ByteArray), (∀ x ∈ l, (wdE x).take n = word.data.toList) → word.size = n → AtSeg t (segL k l n at_) at_ → at_ + (segL k l n at_).length ≤ t.length → ∀ (f : Nat), t.length ≤ at_ + f → ∀ out : List (S48), out.length + l.length ≤ 20 → entS t f at_ word out = out ++ l
 | 0, l, n, at_, hn, hg, _, _, _, _, _, _, _, _, _, _ => by have := hg.n12; omega
 | k + 1, l, n, at_, hn, hg, hgood, word, hpre, hws, hseg, hlen, f, hf, out, ho => by
  rw [segL_succ] at hseg hlen
  rw [List.length_cons] at hlen
  obtain ⟨f', rfl⟩ : ∃ f', f = f' + 1 := ⟨f - 1, by omega⟩
  unfold entS
  rw [rd_at hseg.head]
  have hflat := groups_flat (wd := wdE) n (legRest wdE n l)
  have hfirst := leg_first hg hgood hpre out
  have hsub : ∀ g ∈ groups wdE n (legRest wdE n l), ∀ x ∈ g, x ∈ l := fun g hgm x hx => (Go.Proofs.Ytkoackkimdanjaa.Ext.legRest_sub n l).subset ((groups_sub n _ g hgm).subset hx)
  have h := entK_seg t (entS t f') at_ n k (by omega) word hws (fun g p w o h1 h2 h3 h4 h5 h6 h7 h8 h9 => entS_seg t k g (n + 1) p (by omega) h1 h3 w h4 h5 h6 h7 f' (by omega) o h9)
   (groups wdE n (legRest wdE n l)) (at_ + 1) (if Go.Proofs.Ytkoackkimdanjaa.Ext.legWeight wdE (fun x : S48 => x.f1) n l > 0 then out ++ [⟨word, Go.Proofs.Ytkoackkimdanjaa.Ext.legWeight wdE (fun x : S48 => x.f1) n l⟩] else out)
   (fun g hgm => ⟨hg.group hgm, groups_ne n _ g hgm, fun x hx => hgood x (hsub g hgm x hx), fun x hx => hpre x (hsub g hgm x hx)⟩) hseg.tail (by omega) (by omega) (by
    have h2 := congrArg List.length hfirst
    rw [List.length_append, List.length_append] at h2
    rw [hflat]
    omega)
  rw [hflat, hfirst] at h
  exact h
theorem entS_all {l : List (S48)} (h : goodEs l = true) (f : Nat) (hf : (allLegs l).length ≤ f) : entS (allLegs l) f 0 ByteArray.empty [] = l := by
 have hg := goodEs_leg h
 have hgood : ∀ x ∈ l, goodE x = true := by
  simp only [goodEs, Bool.and_eq_true] at h
  exact (chainE_all l none h.1).2.2
 have := entS_seg (allLegs l) 13 l 0 0 rfl hg hgood ByteArray.empty (fun x _ => rfl) rfl (fun j _ => by rw [Nat.zero_add]; rfl) (by rw [Nat.zero_add]; exact Nat.le_refl _) f (by omega) [] (by have := hg.many; simp; omega)
 simpa using this
def risB (lo hi : Int) : Option Int → List Int → Bool
 | _, [] => true
 | none, x :: l => (decide (lo ≤ x) && decide (x ≤ hi)) && risB lo hi (some x) l
 | some q, x :: l => (decide (lo ≤ x) && decide (x ≤ hi)) && (decide (q < x) && risB lo hi (some x) l)
theorem rising_loop (l : List Int) (hl : l.length ≤ 1048576) (lo hi : Int) : ∀ (rest : List Int) (i : Nat) (p : Option Int), l.drop i = rest → (p = if i = 0 then none else some (rd l ((i - 1 : Nat) : Int))) → Ev (fun k => spec_l1Rising.l0 k l lo hi l (l.length : Int) i) (risB lo hi p rest)
 | [], i, p, hd, hp => by
  have h := drop_nil hd
  rw [show risB lo hi p [] = true by cases p <;> rfl]
  exact Ev.step (fun k => spec_l1Rising.l0.eq_2 ..) (ev_if_neg (by omega) (ev_some rfl))
 | x :: rest, i, p, hd, hp => by
  obtain ⟨hi', hd', hx⟩ := drop_cons hd
  have hx : rd l i = x := hx 0
  have hs : wrap64 ((i : Int) + 1) = ((i + 1 : Nat) : Int) := wrap_succ (by omega)
  have ih := rising_loop l hl lo hi rest (i + 1) (some x) hd' (by rw [if_neg (by omega), Nat.add_sub_cancel, hx])
  refine Ev.step (fun k => spec_l1Rising.l0.eq_2 ..) (ev_if_pos (by omega) (ev_if_pos (by omega) (ev_if_pos (by omega) ?_)))
  simp only [hx, hs, l1In_eq, Option.bind_some]
  by_cases hr : (decide (lo ≤ x) && decide (x ≤ hi)) = true
  ·refine ev_if_pos hr ?_
   cases hz : i with
   | zero =>
    have hp : p = none := by rw [hp, if_pos hz]
    subst hp
    rw [show risB lo hi none (x :: rest) = risB lo hi (some x) rest by show (_ && _) = _; rw [hr, Bool.true_and]]
    rw [hz] at ih
    exact ev_if_neg (by omega) ih
   | succ j =>
    have hp : p = some (rd l (j : Int)) := by rw [hp, if_neg (by omega), hz, Nat.add_sub_cancel]
    subst hp
    have hw : wrap64 (((j + 1 : Nat) : Int) - 1) = (j : Int) := by rw [wrap_id (by omega) (by omega)]; omega
    rw [hz] at ih
    rw [hw]
    refine ev_if_pos (by omega) (ev_if_pos (by omega) (ev_if_pos (by omega) ?_))
    by_cases hq : rd l (j : Int) ≥ x
    ·rw [show risB lo hi (some (rd l (j : Int))) (x :: rest) = false by show (_ && (decide (rd l (j : Int) < x) && _)) = _; rw [decide_eq_false (show ¬ rd l (j : Int) < x by omega)]; simp]
     exact ev_if_pos hq (ev_some rfl)
    ·rw [show risB lo hi (some (rd l (j : Int))) (x :: rest) = risB lo hi (some x) rest by show (_ && (decide (rd l (j : Int) < x) && _)) = _; rw [hr, decide_eq_true (show rd l (j : Int) < x by omega)]; simp]
     exact ev_if_neg hq ih
  ·rw [show risB lo hi p (x :: rest) = false by cases p <;> (show ((_ && _) && _) = _) <;> rw [Bool.eq_false_iff.2 hr] <;> rfl]
   exact ev_if_neg hr (ev_some rfl)
theorem spec_l1Rising_ev (l : List Int) (hl : l.length ≤ 1048576) (lo hi : Int) : Ev (fun k => spec_l1Rising.f k l lo hi) (risB lo hi none l) := rising_loop l hl lo hi l 0 none rfl rfl
theorem many_loop (t : List (S59)) (ht : t.length ≤ 1048576) : ∀ (rest : List (S59)) (i n : Nat), t.drop i = rest → n + sumK rest ≤ 4611686018427387904 → Ev (fun k => spec_l13Many.l0 k (n : Int) t (t.length : Int) i) ((n + sumK rest : Nat) : Int)
 | [], i, n, hd, hb => by
  have h := drop_nil hd
  exact Ev.step (fun k => spec_l13Many.l0.eq_2 ..) (ev_if_neg (by omega) (ev_some (by simp [sumK])))
 | x :: rest, i, n, hd, hb => by
  obtain ⟨hi, hd', hx⟩ := drop_cons hd
  have hx : rd_T59 t i = x := hx _
  unfold sumK at hb
  refine Ev.step (fun k => spec_l13Many.l0.eq_2 ..) (ev_if_pos (by omega) (ev_if_pos (by omega) (ev_if_pos (by omega) ?_)))
  have hw : wrap64 ((n : Int) + (x.f3.length : Int)) = ((n + x.f3.length : Nat) : Int) := by rw [wrap_id (by omega) (by omega)]; omega
  rw [hx, hw, wrap_succ (by omega)]
  refine ev_eq (many_loop t ht rest (i + 1) (n + x.f3.length) hd' (by omega)) ?_
  show ((n + x.f3.length + sumK rest : Nat) : Int) = ((n + (x.f3.length + sumK rest) : Nat) : Int)
  rw [Nat.add_assoc]
theorem spec_l13Many_ev (t : List (S59)) (ht : t.length ≤ 1048576) (hb : sumK t ≤ 4611686018427387904) : Ev (fun k => spec_l13Many.f k t) ((sumK t : Nat) : Int) := by
 have h := many_loop t ht t 0 0 rfl (by omega)
 rw [Nat.zero_add] at h
 exact h
def sameB : List (S59) → List (S59) → Bool
 | [], [] => true
 | x :: a, y :: b => if x.f0 = y.f0 ∧ x.f1 = y.f1 ∧ x.f2 = y.f2 ∧ x.f3 = y.f3 then sameB a b else false
 | _, _ => false
theorem sameB_iff : ∀ a b : List (S59), sameB a b = true ↔ a = b
 | [], [] => by simp [sameB]
 | [], y :: b => by simp [sameB]
 | x :: a, [] => by simp [sameB]
 | x :: a, y :: b => by
  unfold sameB
  by_cases h : x.f0 = y.f0 ∧ x.f1 = y.f1 ∧ x.f2 = y.f2 ∧ x.f3 = y.f3
  ·rw [if_pos h, sameB_iff a b]
   have e : x = y := by
    cases x; cases y
    obtain ⟨h0, h1, h2, h3⟩ := h
    simp only at h0 h1 h2 h3
    rw [h0, h1, h2, h3]
   rw [e]
   simp
  ·rw [if_neg h]
   constructor
   ·intro h'; cases h'
   ·intro h'
    injection h' with h1 h2
    exact absurd (by rw [h1]; exact ⟨rfl, rfl, rfl, rfl⟩) h
theorem spec_l1Same_loop (a b : List Int) (hl : a.length ≤ 1048576) (hab : a.length = b.length) : ∀ (rest : List Int) (i : Nat), a.drop i = rest → Ev (fun k => spec_l1Same.l0 k a b (a.length : Int) i) (decide (rest = b.drop i))
 | [], i, hd => by
  have h := drop_nil hd
  rw [List.drop_of_length_le (by omega : b.length ≤ i)]
  exact Ev.step (fun k => spec_l1Same.l0.eq_2 ..) (ev_if_neg (by omega) (ev_some (by simp)))
 | x :: rest, i, hd => by
  obtain ⟨hi, hd', hx⟩ := drop_cons hd
  have hx : rd a i = x := hx 0
  have hb : b.drop i = b[i] :: b.drop (i + 1) := List.drop_eq_getElem_cons (by omega)
  have hy : rd b i = b[i] := by
   obtain ⟨_, _, h⟩ := drop_cons hb
   exact h 0
  have ih := spec_l1Same_loop a b hl hab rest (i + 1) hd'
  refine Ev.step (fun k => spec_l1Same.l0.eq_2 ..) (ev_if_pos (by omega) (ev_if_pos (by omega) (ev_if_pos (by omega) (ev_if_pos (by omega) ?_))))
  rw [hx, hy, wrap_succ (by omega), hb]
  by_cases h : x = b[i]
  ·refine ev_if_pos h (ev_eq ih ?_)
   rw [← h]
   simp
  ·refine ev_if_neg h (ev_some ?_)
   rw [decide_eq_false]
   intro e
   injection e with e _
   exact h e
theorem spec_l1Same_ev (a b : List Int) (hl : a.length ≤ 1048576) : Ev (fun k => spec_l1Same.f k a b) (decide (a = b)) := by
 unfold spec_l1Same.f
 by_cases h : a.length = b.length
 ·exact ev_if_pos (by omega) (spec_l1Same_loop a b hl h a 0 rfl)
 ·refine ev_if_neg (by omega) (ev_some ?_)
  rw [decide_eq_false]
  exact fun e => h (congrArg List.length e)
theorem slices_Equal_int_int_loop (a b : List Int) (hl : a.length ≤ 1048576) (hab : a.length = b.length) : ∀ (rest : List Int) (i : Nat), a.drop i = rest → Ev (fun k => slices_Equal_int_int.l0 k a b (a.length : Int) i) (decide (rest = b.drop i))
 | [], i, hd => by
  have h := drop_nil hd
  rw [List.drop_of_length_le (by omega : b.length ≤ i)]
  exact Ev.step (fun k => slices_Equal_int_int.l0.eq_2 ..) (ev_if_neg (by omega) (ev_some (by simp)))
 | x :: rest, i, hd => by
  obtain ⟨hi, hd', hx⟩ := drop_cons hd
  have hx : rd a i = x := hx 0
  have hb : b.drop i = b[i] :: b.drop (i + 1) := List.drop_eq_getElem_cons (by omega)
  have hy : rd b i = b[i] := by
   obtain ⟨_, _, h⟩ := drop_cons hb
   exact h 0
  have ih := slices_Equal_int_int_loop a b hl hab rest (i + 1) hd'
  refine Ev.step (fun k => slices_Equal_int_int.l0.eq_2 ..) (ev_if_pos (by omega) (ev_if_pos (by omega) (ev_if_pos (by omega) (ev_if_pos (by omega) ?_))))
  rw [hx, hy, wrap_succ (by omega), hb]
  by_cases h : x = b[i]
  ·refine ev_if_pos h (ev_eq ih ?_)
   rw [← h]
   simp
  ·refine ev_if_neg h (ev_some ?_)
   rw [decide_eq_false]
   intro e
   injection e with e _
   exact h e
theorem slices_Equal_int_int_ev (a b : List Int) (hl : a.length ≤ 1048576) : Ev (fun k => slices_Equal_int_int.f k a b) (decide (a = b)) := by
 unfold slices_Equal_int_int.f
 by_cases h : a.length = b.length
 ·exact ev_if_pos (by omega) (slices_Equal_int_int_loop a b hl h a 0 rfl)
 ·refine ev_if_neg (by omega) (ev_some ?_)
  rw [decide_eq_false]
  exact fun e => h (congrArg List.length e)
theorem spec_l13Same_loop (a b : List (S59)) (hl : a.length ≤ 1048576) (hk : ∀ x ∈ a, x.f3.length ≤ 1048576) (hab : a.length = b.length) : ∀ (rest : List (S59)) (i : Nat), a.drop i = rest → Ev (fun k => spec_l13Same.l0 k b a (a.length : Int) i) (sameB rest (b.drop i))
 | [], i, hd => by
  have h := drop_nil hd
  rw [List.drop_of_length_le (by omega : b.length ≤ i)]
  exact Ev.step (fun k => spec_l13Same.l0.eq_2 ..) (ev_if_neg (by omega) (ev_some rfl))
 | x :: rest, i, hd => by
  obtain ⟨hi, hd', hx⟩ := drop_cons hd
  have hx : rd_T59 a i = x := hx _
  have hb : b.drop i = b[i] :: b.drop (i + 1) := List.drop_eq_getElem_cons (by omega)
  have hy : rd_T59 b i = b[i] := by
   obtain ⟨_, _, h⟩ := drop_cons hb
   exact h _
  have hxa : x ∈ a := List.mem_of_mem_drop (by rw [hd]; exact List.mem_cons_self : x ∈ a.drop i)
  have ih := spec_l13Same_loop a b hl hk hab rest (i + 1) hd'
  refine Ev.step (fun k => spec_l13Same.l0.eq_2 ..) (ev_if_pos (by omega) (ev_if_pos (by omega) (ev_if_pos (by omega) (ev_if_pos (by omega) ?_))))
  rw [hb]
  simp only [hx, hy]
  by_cases h0 : x.f0 = b[i].f0
  ·refine ev_if_pos h0 ?_
   by_cases h1 : x.f1 = b[i].f1
   ·refine ev_if_pos h1 ?_
    by_cases h2 : x.f2 = b[i].f2
    ·refine ev_if_pos h2 (ev_bind (spec_l1Same_ev x.f3 b[i].f3 (hk x hxa)) ?_)
     rw [wrap_succ (by omega)]
     by_cases h3 : x.f3 = b[i].f3
     ·refine ev_if_pos (decide_eq_true h3) (ev_eq ih ?_)
      show _ = (if _ then _ else _)
      rw [if_pos ⟨h0, h1, h2, h3⟩]
     ·refine ev_if_neg (by simp [h3]) (ev_some ?_)
      show _ = (if _ then _ else _)
      rw [if_neg (fun h => h3 h.2.2.2)]
    ·refine ev_if_neg h2 (ev_some ?_)
     show _ = (if _ then _ else _)
     rw [if_neg (fun h => h2 h.2.2.1)]
   ·refine ev_if_neg h1 (ev_some ?_)
    show _ = (if _ then _ else _)
    rw [if_neg (fun h => h1 h.2.1)]
  ·refine ev_if_neg h0 (ev_some ?_)
   show _ = (if _ then _ else _)
   rw [if_neg (fun h => h0 h.1)]
theorem spec_l13Same_ev (a b : List (S59)) (hl : a.length ≤ 1048576) (hk : ∀ x ∈ a, x.f3.length ≤ 1048576) : Ev (fun k => spec_l13Same.f k a b) (sameB a b) := by
 unfold spec_l13Same.f
 by_cases h : a.length = b.length
 ·exact ev_if_pos (by omega) (spec_l13Same_loop a b hl hk h a 0 rfl)
 ·refine ev_if_neg (by omega) (ev_some ?_)
  cases hs : sameB a b with
  | false => rfl
  | true => exact absurd (congrArg List.length ((sameB_iff a b).1 hs)) h
theorem slices_EqualFunc_impl_Leg__impl_entries_1_loop (a b : List (S59)) (hl : a.length ≤ 1048576) (hk : ∀ x ∈ a, x.f3.length ≤ 1048576) (hab : a.length = b.length) : ∀ (rest : List (S59)) (i : Nat), a.drop i = rest → Ev (fun k => slices_EqualFunc_impl_Leg__impl_entries_1.l0 k b a (a.length : Int) i) (sameB rest (b.drop i))
 | [], i, hd => by
  have h := drop_nil hd
  rw [List.drop_of_length_le (by omega : b.length ≤ i)]
  exact Ev.step (fun k => slices_EqualFunc_impl_Leg__impl_entries_1.l0.eq_2 ..) (ev_if_neg (by omega) (ev_some rfl))
 | x :: rest, i, hd => by
  obtain ⟨hi, hd', hx⟩ := drop_cons hd
  have hx : rd_T59 a i = x := hx _
  have hb : b.drop i = b[i] :: b.drop (i + 1) := List.drop_eq_getElem_cons (by omega)
  have hy : rd_T59 b i = b[i] := by
   obtain ⟨_, _, h⟩ := drop_cons hb
   exact h _
  have hxa : x ∈ a := List.mem_of_mem_drop (by rw [hd]; exact List.mem_cons_self : x ∈ a.drop i)
  have ih := slices_EqualFunc_impl_Leg__impl_entries_1_loop a b hl hk hab rest (i + 1) hd'
  refine Ev.step (fun k => slices_EqualFunc_impl_Leg__impl_entries_1.l0.eq_2 ..) (ev_if_pos (by omega) (ev_if_pos (by omega) (ev_if_pos (by omega) (ev_if_pos (by omega) ?_))))
  rw [hb]
  simp only [hx, hy]
  rw [wrap_succ (by omega)]
  have he : Ev (fun k => impl_entries_1.f k x.f0 x.f1 x.f2 x.f3 b[i].f0 b[i].f1 b[i].f2 b[i].f3) (decide (x.f0 = b[i].f0 ∧ x.f1 = b[i].f1 ∧ x.f2 = b[i].f2 ∧ x.f3 = b[i].f3)) := by
   unfold impl_entries_1.f
   by_cases h0 : x.f0 = b[i].f0
   ·refine ev_if_pos h0 ?_
    by_cases h1 : x.f1 = b[i].f1
    ·refine ev_if_pos h1 ?_
     by_cases h2 : x.f2 = b[i].f2
     ·refine ev_if_pos h2 (ev_bind (slices_Equal_int_int_ev x.f3 b[i].f3 (hk x hxa)) (ev_some ?_))
      simp [h0, h1, h2]
     ·exact ev_if_neg h2 (ev_some (by simp [h2]))
    ·exact ev_if_neg h1 (ev_some (by simp [h1]))
   ·exact ev_if_neg h0 (ev_some (by simp [h0]))
  refine ev_bind he ?_
  by_cases h : x.f0 = b[i].f0 ∧ x.f1 = b[i].f1 ∧ x.f2 = b[i].f2 ∧ x.f3 = b[i].f3
  ·refine ev_if_pos (decide_eq_true h) (ev_eq ih ?_)
   show _ = (if _ then _ else _)
   rw [if_pos h]
  ·refine ev_if_neg (by rw [decide_eq_false h]; simp) (ev_some ?_)
   show _ = (if _ then _ else _)
   rw [if_neg h]
theorem slices_EqualFunc_impl_Leg__impl_entries_1_ev (a b : List (S59)) (hl : a.length ≤ 1048576) (hk : ∀ x ∈ a, x.f3.length ≤ 1048576) : Ev (fun k => slices_EqualFunc_impl_Leg__impl_entries_1.f k a b) (sameB a b) := by
 unfold slices_EqualFunc_impl_Leg__impl_entries_1.f
 by_cases h : a.length = b.length
 ·exact ev_if_pos (by omega) (slices_EqualFunc_impl_Leg__impl_entries_1_loop a b hl hk h a 0 rfl)
 ·refine ev_if_neg (by omega) (ev_some ?_)
  cases hs : sameB a b with
  | false => rfl
  | true => exact absurd (congrArg List.length ((sameB_iff a b).1 hs)) h
def risAll (len : Nat) : List (S59) → Nat → Bool
 | [], _ => true
 | x :: l, i => risB ((i + 1 : Nat) : Int) ((len : Int) - 1) none x.f3 && risAll len l (i + 1)
def ofEnd (t : List (S59)) : List (S48) × Bool :=
 if ((sumK t : Nat) : Int) = (t.length : Int) - 1 then (entS t t.length 0 ByteArray.empty [], goodEs (entS t t.length 0 ByteArray.empty []) && sameB t (allLegs (entS t t.length 0 ByteArray.empty []))) else ([], false)
def ofS (t : List (S59)) : List (S48) × Bool :=
 if (decide (1 ≤ (t.length : Int)) && decide ((t.length : Int) ≤ 120)) = true then (if risAll t.length t 0 = true then ofEnd t else ([], false)) else ([], false)
theorem sumK_le (m : Nat) : ∀ l : List (S59), (∀ x ∈ l, x.f3.length ≤ m) → sumK l ≤ l.length * m
 | [], _ => Nat.zero_le _
 | x :: l, h => by
  have h1 := h x (by simp)
  have h2 := sumK_le m l (fun y hy => h y (by simp [hy]))
  unfold sumK
  rw [List.length_cons, Nat.add_mul, Nat.one_mul]
  omega
theorem ofEnd_ev (t : List (S59)) (h1 : 1 ≤ t.length) (ht : t.length ≤ 120) (hk : ∀ x ∈ t, x.f3.length ≤ 1048576) : Ev (fun k => (spec_l13Many.f k t).bind fun t153 => (if t153 = (wrap64 ((t.length : Int) - 1)) then ((spec_l13Entries.f k t 0 (⟨#[]⟩ : ByteArray) ([] : List (S48))).bind fun t154 => ((spec_GoodEntries.f k t154).bind fun t157 => (if t157 = true then ((spec_l13Build.f t154 0 ([] : List (S59))).bind fun t158 => ((spec_l13Same.f k t t158).bind fun t161 => (some (t154, t161)))) else (some (t154, false))))) else (some (([] : List (S48)), false)))) (ofEnd t) := by
 have hsum := sumK_le 1048576 t hk
 have hs2 : t.length * 1048576 ≤ 120 * 1048576 := Nat.mul_le_mul_right _ ht
 obtain ⟨e1, e2⟩ := l13Ent_ev t ht hk t.length 0 ByteArray.empty [] (by omega) (by omega) (by decide) (by simp)
 refine ev_bind (spec_l13Many_ev t (by omega) (by omega)) ?_
 rw [wrap_id (by omega) (by omega)]
 unfold ofEnd
 by_cases hc : ((sumK t : Nat) : Int) = (t.length : Int) - 1
 ·rw [if_pos hc]
  refine ev_if_pos hc (ev_bind e1 ?_)
  have hg := spec_GoodEntries_ev (entS t t.length 0 ByteArray.empty []) (by omega) (fun x hx => by
   rcases entS_words t t.length 0 ByteArray.empty [] (by decide) x hx with h | h
   ·cases h
   ·omega)
  refine ev_bind hg ?_
  cases hge : goodEs (entS t t.length 0 ByteArray.empty []) with
  | true =>
   refine ev_if_pos rfl ?_
   rw [spec_l13Build_eq hge]
   simp only [Option.bind_some]
   exact ev_bind (spec_l13Same_ev t _ (by omega) hk) (ev_some rfl)
  | false => exact ev_if_neg (by simp) (ev_some rfl)
 ·rw [if_neg hc]
  exact ev_if_neg hc (ev_some rfl)
theorem of_loop (t : List (S59)) (h1 : 1 ≤ t.length) (ht : t.length ≤ 120) (hk : ∀ x ∈ t, x.f3.length ≤ 1048576) : ∀ (rest : List (S59)) (i : Nat), t.drop i = rest → Ev (fun k => spec_l13Of.l0 k t t (t.length : Int) i) (if risAll t.length rest i = true then ofEnd t else ([], false))
 | [], i, hd => by
  have h := drop_nil hd
  refine Ev.step (fun k => spec_l13Of.l0.eq_2 ..) (ev_if_neg (by omega) ?_)
  exact ofEnd_ev t h1 ht hk
 | x :: rest, i, hd => by
  obtain ⟨hi, hd', hx⟩ := drop_cons hd
  have hx : rd_T59 t i = x := hx _
  have hxa : x ∈ t := List.mem_of_mem_drop (by rw [hd]; exact List.mem_cons_self : x ∈ t.drop i)
  refine Ev.step (fun k => spec_l13Of.l0.eq_2 ..) (ev_if_pos (by omega) (ev_if_pos (by omega) (ev_if_pos (by omega) ?_)))
  rw [hx, wrap_succ (by omega), wrap_id (x := (t.length : Int) - 1) (by omega) (by omega)]
  refine ev_bind (spec_l1Rising_ev x.f3 (hk x hxa) _ _) ?_
  cases hr : risB ((i + 1 : Nat) : Int) ((t.length : Int) - 1) none x.f3 with
  | true =>
   refine ev_if_pos rfl (ev_eq (of_loop t h1 ht hk rest (i + 1) hd') ?_)
   show _ = if (_ && _) = true then _ else _
   rw [hr, Bool.true_and]
  | false =>
   refine ev_if_neg (by simp) (ev_some ?_)
   show _ = if (_ && _) = true then _ else _
   rw [hr]; rfl
theorem spec_l13Of_ev (t : List (S59)) (hk : ∀ x ∈ t, x.f3.length ≤ 1048576) : Ev (fun k => spec_l13Of.f k t) (ofS t) := by
 unfold spec_l13Of.f ofS
 simp only [l1In_eq, Option.bind_some]
 by_cases hc : (decide (1 ≤ (t.length : Int)) && decide ((t.length : Int) ≤ 120)) = true
 ·rw [if_pos hc]
  have h := hc
  simp only [Bool.and_eq_true, decide_eq_true_eq] at h
  exact ev_if_pos hc (of_loop t (by omega) (by omega) hk t 0 rfl)
 ·rw [if_neg hc]
  exact ev_if_neg hc (ev_some rfl)
theorem step_word {n : Nat} {y : S48} {g : List (S48)} {word : ByteArray} (hg : LegGood wdE (n + 1) g) (hy : y ∈ g) (hyg : goodE y = true) (hpre : (wdE y).take n = word.data.toList) (hws : word.size = n) :
  (word ++ strOfNums [97 + ((((wdE y).getD n 0).toNat : Int) - 97) % 256]).size = n + 1 ∧ (∀ z ∈ g, (wdE z).take (n + 1) = (word ++ strOfNums [97 + ((((wdE y).getD n 0).toNat : Int) - 97) % 256]).data.toList) ∧ 0 ≤ ((((wdE y).getD n 0).toNat : Int) - 97) % 256 ∧ ((((wdE y).getD n 0).toNat : Int) - 97) % 256 ≤ 25 := by
 have hsz := hg.size y hy
 rw [wdE_length] at hsz
 obtain ⟨hl1, hl2⟩ := goodE_letter hyg (n := n) (by omega)
 refine ⟨by rw [size_append, one_size, hws], fun z hz => ?_, by omega, by omega⟩
 have h1 : (wdE z).take (n + 1) = (wdE y).take (n + 1) := hg.pre z hz y hy
 have h2 : (wdE y).take (n + 1) = (wdE y).take n ++ [(wdE y).getD n 0] := by
  rw [List.take_add_one, List.getD_eq_getElem?_getD, List.getElem?_eq_getElem (by rw [wdE_length]; omega)]; rfl
 rw [h1, h2, hpre, ByteArray.data_append, Array.toList_append, strOfNums_data]
 simp only [List.map_cons, List.map_nil]
 rw [byte_back hl1 hl2]
def KidsAt (k n : Nat) (ws : List ByteArray) : List (List (S48)) → Nat → Prop
 | [], _ => True
 | g :: gs, pos => ((ws.getD pos ByteArray.empty).size = n + 1 ∧ ∀ z ∈ g, (wdE z).take (n + 1) = (ws.getD pos ByteArray.empty).data.toList) ∧ KidsAt k n ws gs (pos + (segL k g (n + 1) pos).length)
theorem KidsAt_congr (k n : Nat) {ws ws' : List ByteArray} : ∀ (gs : List (List (S48))) (pos : Nat), (∀ j, pos ≤ j → ws'.getD j ByteArray.empty = ws.getD j ByteArray.empty) → KidsAt k n ws gs pos → KidsAt k n ws' gs pos
 | [], _, _, _ => trivial
 | g :: gs, pos, h, hk => ⟨by rw [h pos (Nat.le_refl _)]; exact hk.1, KidsAt_congr k n gs _ (fun j hj => h j (by omega)) hk.2⟩
theorem kids_seg (t : List (S59)) (at_ n k : Nat) (hnk : n + 1 + k = 13) (word : ByteArray) (hws : word.size = n) :
  ∀ (gs : List (List (S48))) (pos : Nat) (ws : List ByteArray), ws.length = t.length → ws.getD at_ ByteArray.empty = word → (∀ g ∈ gs, LegGood wdE (n + 1) g ∧ g ≠ [] ∧ (∀ x ∈ g, goodE x = true) ∧ ∀ x ∈ g, (wdE x).take n = word.data.toList) → AtSeg t (bodyF (fun g a => segL k g (n + 1) a) gs pos) pos → pos + (bodyF (fun g a => segL k g (n + 1) a) gs pos).length ≤ t.length → at_ < pos →
  ∃ ws', impl_entries.kids t at_ (kidsF (fun g a => segL k g (n + 1) a) gs pos) ws = some ws' ∧ ws'.length = t.length ∧ KidsAt k n ws' gs pos ∧ ∀ j, (j < pos ∨ pos + (bodyF (fun g a => segL k g (n + 1) a) gs pos).length ≤ j) → ws'.getD j ByteArray.empty = ws.getD j ByteArray.empty
 | [], pos, ws, hl, _, _, _, _, _ => ⟨ws, rfl, hl, trivial, fun _ _ => rfl⟩
 | g :: gs, pos, ws, hl, hwat, hall, hseg, hlen, hat => by
  obtain ⟨hg, hne, hgood, hpre⟩ := hall g (by simp)
  obtain ⟨y, g', rfl⟩ : ∃ y g', g = y :: g' := by cases g with | nil => exact absurd rfl hne | cons y g' => exact ⟨y, g', rfl⟩
  obtain ⟨hw1, hw2, hl1, hl2⟩ := step_word hg (y := y) (by simp) (hgood y (by simp)) (hpre y (by simp)) hws
  obtain ⟨x, b, hxb, hx0⟩ := segL_head (pos := pos) hnk hg y (by simp)
  have e : (bodyF (fun g a => segL k g (n + 1) a) ((y :: g') :: gs) pos) = segL k (y :: g') (n + 1) pos ++ bodyF (fun g a => segL k g (n + 1) a) gs (pos + (segL k (y :: g') (n + 1) pos).length) := rfl
  rw [e] at hseg hlen
  rw [List.length_append] at hlen
  have hs1 := hseg.left
  have hs2 := hseg.right
  have hrd : rd_T59 t (pos : Int) = x := rd_at (by rw [hxb] at hs1; exact hs1.head)
  have hpl : 0 < (segL k (y :: g') (n + 1) pos).length := by rw [hxb]; simp
  have hn12 := hg.n12
  obtain ⟨w, hw⟩ : ∃ w, w = word ++ strOfNums [97 + ((((wdE y).getD n 0).toNat : Int) - 97) % 256] := ⟨_, rfl⟩
  rw [← hw] at hw1 hw2
  have hget : ∀ j, (ws.set pos w).getD j ByteArray.empty = if j = pos then w else ws.getD j ByteArray.empty := fun j => by
   rw [List.getD_eq_getElem?_getD, List.getD_eq_getElem?_getD, List.getElem?_set]
   by_cases hj : pos = j
   ·subst hj; rw [if_pos rfl, if_pos rfl, if_pos (by omega)]; rfl
   ·rw [if_neg hj, if_neg (fun h => hj h.symm)]
  obtain ⟨ws', h1, h2, h3, h4⟩ := kids_seg t at_ n k hnk word hws gs (pos + (segL k (y :: g') (n + 1) pos).length) (ws.set pos w) (by rw [List.length_set]; exact hl) (by rw [hget, if_neg (by omega)]; exact hwat) (fun g hg => hall g (by simp [hg])) hs2 (by omega) (by omega)
  refine ⟨ws', ?_, h2, ⟨?_, h3⟩, fun j hj => ?_⟩
  ·show (if _ then _ else _) = _
   rw [hwat, hrd, hx0, if_pos ⟨⟨by omega, by omega⟩, ⟨hl1, hl2⟩, by omega⟩, Int.toNat_natCast, ← hw]
   exact h1
  ·have e2 : ws'.getD pos ByteArray.empty = w := by rw [h4 pos (Or.inl (by omega)), hget, if_pos rfl]
   rw [e2]
   exact ⟨hw1, hw2⟩
  ·have e3 : (bodyF (fun g a => segL k g (n + 1) a) ((y :: g') :: gs) pos).length = (segL k (y :: g') (n + 1) pos).length + (bodyF (fun g a => segL k g (n + 1) a) gs (pos + (segL k (y :: g') (n + 1) pos).length)).length := by rw [e, List.length_append]
   rw [e3] at hj
   rw [h4 j (by omega), hget, if_neg (by omega)]
theorem go_gs (t : List (S59)) (n k : Nat)
  (hG : ∀ g p, LegGood wdE (n + 1) g → (∀ x ∈ g, goodE x = true) → AtSeg t (segL k g (n + 1) p) p → p + (segL k g (n + 1) p).length ≤ t.length → ∀ ws : List ByteArray, ws.length = t.length → (ws.getD p ByteArray.empty).size = n + 1 → (∀ z ∈ g, (wdE z).take (n + 1) = (ws.getD p ByteArray.empty).data.toList) →
   ∃ ws', ws'.length = t.length ∧ (∀ j, p + (segL k g (n + 1) p).length ≤ j → ws'.getD j ByteArray.empty = ws.getD j ByteArray.empty) ∧ ∀ out, impl_entries.go t (t.drop p) p ws out = impl_entries.go t (t.drop (p + (segL k g (n + 1) p).length)) (p + (segL k g (n + 1) p).length) ws' (out ++ g)) :
  ∀ (gs : List (List (S48))) (pos : Nat) (ws : List ByteArray), ws.length = t.length → (∀ g ∈ gs, LegGood wdE (n + 1) g ∧ ∀ x ∈ g, goodE x = true) → KidsAt k n ws gs pos → AtSeg t (bodyF (fun g a => segL k g (n + 1) a) gs pos) pos → pos + (bodyF (fun g a => segL k g (n + 1) a) gs pos).length ≤ t.length →
  ∃ ws', ws'.length = t.length ∧ (∀ j, pos + (bodyF (fun g a => segL k g (n + 1) a) gs pos).length ≤ j → ws'.getD j ByteArray.empty = ws.getD j ByteArray.empty) ∧ ∀ out, impl_entries.go t (t.drop pos) pos ws out = impl_entries.go t (t.drop (pos + (bodyF (fun g a => segL k g (n + 1) a) gs pos).length)) (pos + (bodyF (fun g a => segL k g (n + 1) a) gs pos).length) ws' (out ++ gs.flatten)
 | [], pos, ws, hl, _, _, _, _ => ⟨ws, hl, fun _ _ => rfl, fun out => by simp [bodyF]⟩
 | g :: gs, pos, ws, hl, hall, hk, hseg, hlen => by
  obtain ⟨hg, hgood⟩ := hall g (by simp)
  have e : (bodyF (fun g a => segL k g (n + 1) a) (g :: gs) pos) = segL k g (n + 1) pos ++ bodyF (fun g a => segL k g (n + 1) a) gs (pos + (segL k g (n + 1) pos).length) := rfl
  rw [e] at hseg hlen ⊢
  rw [List.length_append] at hlen ⊢
  obtain ⟨ws1, h1, h2, h3⟩ := hG g pos hg hgood hseg.left (by omega) ws hl hk.1.1 hk.1.2
  obtain ⟨ws2, h4, h5, h6⟩ := go_gs t n k hG gs (pos + (segL k g (n + 1) pos).length) ws1 h1 (fun g hg => hall g (by simp [hg])) (KidsAt_congr k n gs _ (fun j hj => h2 j hj) hk.2) hseg.right (by omega)
  refine ⟨ws2, h4, fun j hj => by rw [h5 j (by omega), h2 j (by omega)], fun out => ?_⟩
  rw [h3, h6, List.append_assoc, List.flatten_cons, Nat.add_assoc]
theorem leg_first2 {n : Nat} {l : List (S48)} {word : ByteArray} (hg : LegGood wdE n l) (hgood : ∀ x ∈ l, goodE x = true) (hpre : ∀ x ∈ l, (wdE x).take n = word.data.toList) (out : List (S48)) :
  (if Go.Proofs.Ytkoackkimdanjaa.Ext.legWeight wdE (fun x : S48 => x.f1) n l = 0 then out else out ++ [⟨word, Go.Proofs.Ytkoackkimdanjaa.Ext.legWeight wdE (fun x : S48 => x.f1) n l⟩]) ++ legRest wdE n l = out ++ l := by
 have h := leg_first hg hgood hpre out
 have h0 : 0 ≤ Go.Proofs.Ytkoackkimdanjaa.Ext.legWeight wdE (fun x : S48 => x.f1) n l := by
  cases l with
  | nil => exact Int.le_refl 0
  | cons y l' =>
   show 0 ≤ (if (wdE y).length = n then y.f1 else 0)
   have := hgood y (by simp)
   simp only [goodE, Bool.and_eq_true, decide_eq_true_eq] at this
   split <;> omega
 by_cases hz : Go.Proofs.Ytkoackkimdanjaa.Ext.legWeight wdE (fun x : S48 => x.f1) n l = 0
 ·rw [if_neg (by omega)] at h
  rw [if_pos hz]; exact h
 ·rw [if_pos (by omega)] at h
  rw [if_neg hz]; exact h
theorem go_seg (t : List (S59)) : ∀ (k : Nat) (l : List (S48)) (n at_ : Nat), n + k = 13 → LegGood wdE n l → (∀ x ∈ l, goodE x = true) → AtSeg t (segL k l n at_) at_ → at_ + (segL k l n at_).length ≤ t.length → ∀ ws : List ByteArray, ws.length = t.length → (ws.getD at_ ByteArray.empty).size = n → (∀ z ∈ l, (wdE z).take n = (ws.getD at_ ByteArray.empty).data.toList) →
   ∃ ws', ws'.length = t.length ∧ (∀ j, at_ + (segL k l n at_).length ≤ j → ws'.getD j ByteArray.empty = ws.getD j ByteArray.empty) ∧ ∀ out, impl_entries.go t (t.drop at_) at_ ws out = impl_entries.go t (t.drop (at_ + (segL k l n at_).length)) (at_ + (segL k l n at_).length) ws' (out ++ l)
 | 0, l, n, at_, hn, hg, _, _, _, _, _, _, _ => by have := hg.n12; omega
 | k + 1, l, n, at_, hn, hg, hgood, hseg, hlen, ws, hl, hws, hpre => by
  rw [segL_succ] at hseg hlen ⊢
  rw [List.length_cons] at hlen ⊢
  have hhead := hseg.head
  have htail := hseg.tail
  obtain ⟨word, hword⟩ : ∃ word, word = ws.getD at_ ByteArray.empty := ⟨_, rfl⟩
  rw [← hword] at hws hpre
  have hsub : ∀ g ∈ groups wdE n (legRest wdE n l), ∀ x ∈ g, x ∈ l := fun g hgm x hx => (Go.Proofs.Ytkoackkimdanjaa.Ext.legRest_sub n l).subset ((groups_sub n _ g hgm).subset hx)
  obtain ⟨ws1, h1, h2, h3, h4⟩ := kids_seg t at_ n k (by omega) word hws (groups wdE n (legRest wdE n l)) (at_ + 1) ws hl hword.symm (fun g hgm => ⟨hg.group hgm, groups_ne n _ g hgm, fun x hx => hgood x (hsub g hgm x hx), fun x hx => hpre x (hsub g hgm x hx)⟩) htail (by omega) (by omega)
  obtain ⟨ws2, h5, h6, h7⟩ := go_gs t n k (fun g p hg1 hg2 hs hp ws' hl' hw1 hw2 => go_seg t k g (n + 1) p (by omega) hg1 hg2 hs hp ws' hl' hw1 hw2) (groups wdE n (legRest wdE n l)) (at_ + 1) ws1 h2 (fun g hgm => ⟨hg.group hgm, fun x hx => hgood x (hsub g hgm x hx)⟩) h3 htail (by omega)
  refine ⟨ws2, h5, fun j hj => by rw [h6 j (by omega), h4 j (Or.inr (by omega))], fun out => ?_⟩
  have hat : at_ < t.length := by omega
  have hd : t.drop at_ = t[at_] :: t.drop (at_ + 1) := List.drop_eq_getElem_cons hat
  have hx := Option.some.inj ((List.getElem?_eq_getElem hat).symm.trans hhead)
  rw [hd, hx]
  show (impl_entries.kids t at_ (kidsF _ _ _) ws).bind _ = _
  rw [h1]
  show impl_entries.go t (t.drop (at_ + 1)) (at_ + 1) ws1 _ = _
  rw [h7, ← hword]
  have hf := leg_first2 hg hgood hpre out
  have hflat := groups_flat (wd := wdE) n (legRest wdE n l)
  rw [hflat]
  rw [show at_ + 1 + (bodyF (fun g a => segL k g (n + 1) a) (groups wdE n (legRest wdE n l)) (at_ + 1)).length = at_ + ((bodyF (fun g a => segL k g (n + 1) a) (groups wdE n (legRest wdE n l)) (at_ + 1)).length + 1) by omega]
  congr 1
theorem go_all {l : List (S48)} (h : goodEs l = true) : impl_entries.go (allLegs l) (allLegs l) 0 (List.replicate (allLegs l).length ByteArray.empty) [] = some l := by
 have hg := goodEs_leg h
 have hgood : ∀ x ∈ l, goodE x = true := by
  simp only [goodEs, Bool.and_eq_true] at h
  exact (chainE_all l none h.1).2.2
 have h0 : (List.replicate (allLegs l).length ByteArray.empty).getD 0 ByteArray.empty = ByteArray.empty := by
  rw [List.getD_eq_getElem?_getD, List.getElem?_replicate]
  split <;> rfl
 obtain ⟨ws', _, _, h3⟩ := go_seg (allLegs l) 13 l 0 0 rfl hg hgood (fun j _ => by rw [Nat.zero_add]; rfl) (by rw [Nat.zero_add]; exact Nat.le_refl _) (List.replicate (allLegs l).length ByteArray.empty) List.length_replicate (by rw [h0]; rfl) (fun z _ => by rw [h0]; rfl)
 have h4 := h3 []
 rw [List.drop_zero, Nat.zero_add] at h4
 rw [h4]
 have : (allLegs l).drop (segL 13 l 0 0).length = [] := List.drop_length
 rw [this, List.nil_append]
 rfl
theorem getD_small {ws : List ByteArray} (h : ∀ s ∈ ws, s.size ≤ 12) (i : Nat) : (ws.getD i ByteArray.empty).size ≤ 12 := by
 rw [List.getD_eq_getElem?_getD]
 cases hx : ws[i]? with
 | none => decide
 | some s => exact h s (List.mem_of_getElem? hx)
theorem kids_small (t : List (S59)) (i : Nat) : ∀ (ks : List Int) (ws ws' : List ByteArray), impl_entries.kids t i ks ws = some ws' → (∀ s ∈ ws, s.size ≤ 12) → ∀ s ∈ ws', s.size ≤ 12
 | [], ws, ws', h, hs => by
  have h : some ws = some ws' := h
  injection h with h
  rw [← h]; exact hs
 | k :: ks, ws, ws', h, hs => by
  unfold impl_entries.kids at h
  split at h
  ·rename_i hc
   refine kids_small t i ks _ ws' h (fun s hm => ?_)
   have h1 := getD_small hs i
   rcases List.mem_or_eq_of_mem_set hm with hm | hm
   ·exact hs s hm
   ·rw [hm, size_append, one_size]; have := hc.2.2; omega
  ·cases h
theorem go_small (t : List (S59)) : ∀ (l : List (S59)) (i : Nat) (ws : List ByteArray) (out r : List (S48)), impl_entries.go t l i ws out = some r → (∀ s ∈ ws, s.size ≤ 12) → (∀ x ∈ out, x.f0.size ≤ 12) → r.length ≤ out.length + l.length ∧ ∀ x ∈ r, x.f0.size ≤ 12
 | [], i, ws, out, r, h, hs, ho => by
  have h : some out = some r := h
  injection h with h
  rw [← h]; exact ⟨by simp, ho⟩
 | x :: l, i, ws, out, r, h, hs, ho => by
  have h : (impl_entries.kids t i x.f3 ws).bind (fun ws' => impl_entries.go t l (i + 1) ws' (if x.f1 = 0 then out else out ++ [⟨ws.getD i ByteArray.empty, x.f1⟩])) = some r := h
  obtain ⟨ws', h1, h2⟩ := Option.bind_eq_some_iff.mp h
  have h3 := go_small t l (i + 1) ws' _ r h2 (kids_small t i _ _ _ h1 hs) (fun y hy => by
   split at hy
   ·exact ho y hy
   ·rcases List.mem_append.1 hy with hy | hy
    ·exact ho y hy
    ·rw [List.mem_singleton.1 hy]; exact getD_small hs i)
  refine ⟨?_, h3.2⟩
  have h4 := h3.1
  split at h4
  ·rw [List.length_cons]; omega
  ·rw [List.length_append, List.length_singleton] at h4; rw [List.length_cons]; omega
def implS (t : List (S59)) : List (S48) × Bool :=
 if 1 ≤ t.length ∧ t.length ≤ 120 then (match impl_entries.go t t 0 (List.replicate t.length ByteArray.empty) [] with
 | none => ([], false)
 | some out => if (buildR out).2 = true then (if sameB t (buildR out).1 = true then (out, true) else ([], false)) else ([], false)) else ([], false)
theorem impl_entries_ev (t : List (S59)) (hk : ∀ x ∈ t, x.f3.length ≤ 1048576) : Ev (fun k => impl_entries.f k t) (implS t) := by
 unfold impl_entries.f implS
 by_cases hc : 1 ≤ t.length ∧ t.length ≤ 120
 ·rw [if_pos hc]
  refine ev_if_pos hc ?_
  cases hg : impl_entries.go t t 0 (List.replicate t.length ByteArray.empty) [] with
  | none => exact ev_some rfl
  | some out =>
   obtain ⟨h1, h2⟩ := go_small t t 0 _ _ _ hg (fun s hs => by rw [(List.mem_replicate.1 hs).2]; decide) (fun x hx => by cases hx)
   show Ev _ (if (buildR out).2 = true then (if sameB t (buildR out).1 = true then (out, true) else ([], false)) else ([], false))
   refine ev_bind (impl_build_ev out (by simp at h1; omega) (fun x hx => by have := h2 x hx; omega)) ?_
   by_cases hb : (buildR out).2 = true
   ·rw [if_pos hb]
    refine ev_if_pos hb (ev_bind (slices_EqualFunc_impl_Leg__impl_entries_1_ev t _ (by omega) hk) ?_)
    exact ev_ite (fun _ => ev_some rfl) (fun _ => ev_some rfl)
   ·rw [if_neg hb]
    exact ev_if_neg hb (ev_some rfl)
 ·rw [if_neg hc]
  exact ev_if_neg hc (ev_some rfl)
theorem segL_all (l : List (S48)) : segL 13 l 0 0 = allLegs l := rfl
theorem risB_of {lo hi : Int} : ∀ (l : List Int) (p : Option Int), (∀ y ∈ l, lo ≤ y ∧ y ≤ hi) → l.Pairwise (· < ·) → (∀ q, p = some q → ∀ y ∈ l, q < y) → risB lo hi p l = true
 | [], p, _, _, _ => by cases p <;> rfl
 | x :: l, p, h, hp, hq => by
  have h1 := h x (by simp)
  have h2 := List.pairwise_cons.1 hp
  have ih := risB_of (lo := lo) (hi := hi) l (some x) (fun y hy => h y (by simp [hy])) h2.2 (fun q e y hy => by injection e with e; rw [← e]; exact h2.1 y hy)
  cases p with
  | none => show ((decide (lo ≤ x) && decide (x ≤ hi)) && _) = true; rw [ih]; simp [h1.1, h1.2]
  | some q => show ((decide (lo ≤ x) && decide (x ≤ hi)) && (decide (q < x) && _)) = true; rw [ih]; simp [h1.1, h1.2, hq q rfl x (by simp)]
theorem risAll_of (len : Nat) : ∀ (l : List (S59)) (i : Nat), (∀ j x, l[j]? = some x → (∀ y ∈ x.f3, ((i + j + 1 : Nat) : Int) ≤ y ∧ y ≤ (len : Int) - 1) ∧ x.f3.Pairwise (· < ·)) → risAll len l i = true
 | [], _, _ => rfl
 | x :: l, i, h => by
  have h0 := h 0 x rfl
  have ih := risAll_of len l (i + 1) (fun j y hy => by
   have := h (j + 1) y (by simpa using hy)
   rw [show i + (j + 1) + 1 = i + 1 + j + 1 by omega] at this
   exact this)
  show (risB _ _ none x.f3 && _) = true
  rw [ih, Bool.and_true]
  exact risB_of x.f3 none (fun y hy => by have := h0.1 y hy; rw [Nat.add_zero] at this; exact this) h0.2 (fun q e => by cases e)
theorem ofS_good {l : List (S48)} (h : goodEs l = true) (hl : (allLegs l).length ≤ 120) : ofS (allLegs l) = (l, true) := by
 have hg := goodEs_leg h
 have hne : 1 ≤ (allLegs l).length := List.length_pos_iff.2 (by rw [← segL_all]; exact segL_ne rfl hg)
 have hr : risAll (allLegs l).length (allLegs l) 0 = true := risAll_of _ _ _ (fun j x hx => by
  obtain ⟨h1, h2⟩ := segL_rising 13 l 0 0 rfl hg j x hx
  rw [segL_all] at h1
  exact ⟨fun y hy => by have := h1 y hy; omega, h2⟩)
 have hs : sumK (allLegs l) + 1 = (allLegs l).length := segL_sum 13 l 0 0 rfl hg
 unfold ofS
 rw [if_pos (by simp; omega), if_pos hr]
 unfold ofEnd
 rw [if_pos (by omega), entS_all h _ (Nat.le_refl _), h, (sameB_iff _ _).2 rfl]
 rfl
theorem implS_good {l : List (S48)} (h : goodEs l = true) (hl : (allLegs l).length ≤ 120) : implS (allLegs l) = (l, true) := by
 have hg := goodEs_leg h
 have hne : 1 ≤ (allLegs l).length := List.length_pos_iff.2 (by rw [← segL_all]; exact segL_ne rfl hg)
 have hb : buildR l = (allLegs l, true) := by
  unfold buildR
  rw [if_pos h, if_neg (by omega)]
 unfold implS
 rw [if_pos ⟨hne, hl⟩, go_all h]
 show (if (buildR l).2 = true then _ else _) = _
 rw [hb, if_pos rfl, if_pos ((sameB_iff _ _).2 rfl)]
theorem ofS_true {t : List (S59)} (h : (ofS t).2 = true) : ∃ l, goodEs l = true ∧ t = allLegs l ∧ t.length ≤ 120 := by
 unfold ofS at h
 split at h
 ·rename_i hc
  simp only [Bool.and_eq_true, decide_eq_true_eq] at hc
  split at h
  ·unfold ofEnd at h
   split at h
   ·simp only [Bool.and_eq_true] at h
    exact ⟨_, h.1, (sameB_iff _ _).1 h.2, by omega⟩
   ·cases h
  ·cases h
 ·cases h
theorem implS_cases (t : List (S59)) : implS t = ([], false) ∨ ∃ l, goodEs l = true ∧ t = allLegs l ∧ t.length ≤ 120 := by
 unfold implS
 split
 ·rename_i hc
  split
  ·exact .inl rfl
  ·rename_i out _
   by_cases hb : (buildR out).2 = true
   ·rw [if_pos hb]
    by_cases hs : sameB t (buildR out).1 = true
    ·refine .inr ⟨out, ?_, ?_, hc.2⟩
     ·unfold buildR at hb
      split at hb
      ·assumption
      ·cases hb
     ·rw [(sameB_iff _ _).1 hs]
      unfold buildR at hb ⊢
      split at hb
      ·rename_i hg
       rw [if_pos hg]
       split at hb
       ·cases hb
       ·rename_i hn; rw [if_neg hn]
      ·cases hb
    ·rw [if_neg hs]; exact .inl rfl
   ·rw [if_neg hb]; exact .inl rfl
 ·exact .inl rfl
theorem legs_alike (t : List (S59)) : implS t = (if (ofS t).2 = true then ((ofS t).1, true) else ([], false)) := by
 by_cases h : (ofS t).2 = true
 ·obtain ⟨l, h1, rfl, h3⟩ := ofS_true h
  rw [if_pos h, implS_good h1 h3, ofS_good h1 h3]
 ·rw [if_neg h]
  rcases implS_cases t with h' | ⟨l, h1, rfl, h3⟩
  ·exact h'
  ·exact absurd (by rw [ofS_good h1 h3]) h
theorem wf_u8 {x : Int} (h : (Lit.int .u8 x).wf = true) : 0 ≤ x ∧ x ≤ 255 := by
 have a : IntKind.u8.min = 0 := by decide
 have b : IntKind.u8.max = 255 := by decide
 simp [Lit.wf] at h
 omega
theorem and255 (x : Int) (h0 : 0 ≤ x) (h1 : x < 9223372036854775808) : Go.bits .and .u64 x 255 = x % 256 :=
 Go.bits_mask .u64 63 (by decide) (fun n a b => by simp [IntKind.wrap, IntKind.bits, IntKind.signed]; omega) 8 (by decide) x h0 h1
theorem u64_range (x : Int) : 0 ≤ IntKind.u64.wrap x ∧ IntKind.u64.wrap x < 18446744073709551616 := by
 simp [IntKind.wrap, IntKind.bits, IntKind.signed]; omega
def Bytes (code : List Int) : Prop := ∀ x ∈ code, 0 ≤ x ∧ x ≤ 255
theorem rd_byte {code : List Int} (hc : Bytes code) {i : Int} : 0 ≤ rd code i ∧ rd code i ≤ 255 := by
 unfold rd
 rw [List.getD_eq_getElem?_getD]
 cases h : code[i.toNat]? with
 | none => simp
 | some x => exact hc x (List.mem_of_getElem? h)
def At (n : Int) (at_ : Int) : Prop := 0 ≤ at_ ∧ at_ ≤ n
theorem next_ok {code : List Int} (hc : Bytes code) {n at_ : Int} (seed : Int) (h : At n at_) (hn : n ≤ 1000000000) : ∃ x a s, spec_l1Cur_next.f code at_ seed = some (x, a, s) ∧ 0 ≤ x ∧ x ≤ 255 ∧ At (n + 1) a := by
 obtain ⟨h0, h1⟩ := h
 have hw : wrap64 (at_ + 1) = at_ + 1 := wrap_id (by omega) (by omega)
 have hb := rd_byte hc (i := at_)
 have hlow : ∀ X : Int, 0 ≤ wrap64 (Go.bits .and .u64 ((IntKind.u64.wrap X) / 1099511627776) 255) ∧ wrap64 (Go.bits .and .u64 ((IntKind.u64.wrap X) / 1099511627776) 255) ≤ 255 := by
  intro X
  have := u64_range X
  rw [and255 _ (by omega) (by omega), wrap_id (by omega) (by omega)]
  omega
 have hr : wrap64 (rd code at_) = rd code at_ := wrap_id (by omega) (by omega)
 unfold spec_l1Cur_next.f
 rw [hw]
 have hA : At (n + 1) (at_ + 1) := ⟨by omega, by omega⟩
 by_cases c1 : at_ < (code.length : Int)
 ·rw [if_pos c1, if_pos h0]
  by_cases c2 : at_ + 1 ≤ (code.length : Int)
  ·rw [if_pos c2]
   exact ⟨_, _, _, rfl, by rw [hr]; omega, by rw [hr]; omega, hA⟩
  ·rw [if_neg c2]
   exact ⟨_, _, _, rfl, (hlow _).1, (hlow _).2, hA⟩
 ·rw [if_neg c1]
  by_cases c2 : at_ + 1 ≤ (code.length : Int)
  ·rw [if_pos c2]
   exact ⟨_, _, _, rfl, by omega, by omega, hA⟩
  ·rw [if_neg c2]
   exact ⟨_, _, _, rfl, (hlow _).1, (hlow _).2, hA⟩
theorem pick_ok {code : List Int} (hc : Bytes code) {n at_ : Int} (seed m : Int) (h : At n at_) (hn : n ≤ 999999999) (hm : 1 ≤ m) : ∃ x a s, spec_l1Cur_pick.f code at_ seed m = some (x, a, s) ∧ 0 ≤ x ∧ x < m ∧ At (n + 2) a := by
 unfold spec_l1Cur_pick.f
 by_cases c1 : m ≤ 1
 ·rw [if_pos c1]
  exact ⟨_, _, _, rfl, by omega, by omega, ⟨h.1, by have := h.2; omega⟩⟩
 ·rw [if_neg c1]
  obtain ⟨x, a, s, e, h0, h1, h2⟩ := next_ok hc seed h (by omega)
  rw [e]
  simp only [Option.bind_some]
  have hmod : ∀ y : Int, 0 ≤ y → 0 ≤ Int.tmod y m ∧ Int.tmod y m < m := fun y hy => by
   rw [tmod_nn hy]
   exact ⟨Int.emod_nonneg _ (by omega), Int.emod_lt_of_pos _ (by omega)⟩
  by_cases c2 : m > 200
  ·rw [if_pos c2]
   obtain ⟨x2, a2, s2, e2, h3, h4, h5⟩ := next_ok hc s h2 (by omega)
   rw [e2]
   simp only [Option.bind_some]
   have w1 : wrap64 (x * 256) = x * 256 := wrap_id (by omega) (by omega)
   have w2 : wrap64 (x * 256 + x2) = x * 256 + x2 := wrap_id (by omega) (by omega)
   rw [if_neg (by omega), w1, w2]
   obtain ⟨h6, h7⟩ := hmod (x * 256 + x2) (by omega)
   exact ⟨_, _, _, rfl, h6, h7, ⟨h5.1, by have := h5.2; omega⟩⟩
  ·rw [if_neg c2, if_neg (by omega)]
   obtain ⟨h6, h7⟩ := hmod x h0
   exact ⟨_, _, _, rfl, h6, h7, ⟨h2.1, by have := h2.2; omega⟩⟩
theorem one_ok {code : List Int} (hc : Bytes code) {n at_ : Int} (seed m : Int) (h : At n at_) (hn : n ≤ 999999999) (hm : 1 ≤ m) : ∃ x a s, spec_l1Cur_one.f code at_ seed m = some (x, a, s) ∧ At (n + 2) a := by
 obtain ⟨x, a, s, e, _, _, h2⟩ := pick_ok hc seed m h hn hm
 unfold spec_l1Cur_one.f
 rw [e]
 exact ⟨_, _, _, rfl, h2⟩
theorem among_ok {code : List Int} (hc : Bytes code) {n at_ : Int} (seed : Int) (l : List Int) (h : At n at_) (hn : n ≤ 999999999) (hl : l ≠ []) : ∃ x a s, spec_l1Cur_among.f code at_ seed l = some (x, a, s) ∧ x ∈ l ∧ At (n + 2) a := by
 have hp : 0 < l.length := List.length_pos_iff.2 hl
 obtain ⟨x, a, s, e, h0, h1, h2⟩ := pick_ok hc seed l.length h hn (by omega)
 unfold spec_l1Cur_among.f
 rw [e]
 simp only [Option.bind_some]
 rw [if_pos h0, if_pos h1]
 refine ⟨_, _, _, rfl, ?_, h2⟩
 unfold rd
 rw [List.getD_eq_getElem?_getD, List.getElem?_eq_getElem (by omega)]
 exact List.getElem_mem _
theorem of_ok {code : List Int} (hc : Bytes code) {n at_ : Int} (seed : Int) (l : List ByteArray) (h : At n at_) (hn : n ≤ 999999999) (hl : l ≠ []) : ∃ x a s, spec_l1Cur_of.f code at_ seed l = some (x, a, s) ∧ x ∈ l ∧ At (n + 2) a := by
 have hp : 0 < l.length := List.length_pos_iff.2 hl
 obtain ⟨x, a, s, e, h0, h1, h2⟩ := pick_ok hc seed l.length h hn (by omega)
 unfold spec_l1Cur_of.f
 rw [e]
 simp only [Option.bind_some]
 rw [if_pos h0, if_pos h1]
 refine ⟨_, _, _, rfl, ?_, h2⟩
 unfold rdOf
 rw [List.getD_eq_getElem?_getD, List.getElem?_eq_getElem (by omega)]
 exact List.getElem_mem _
theorem near_ok {code : List Int} (hc : Bytes code) {n at_ : Int} (seed : Int) (h : At n at_) (hn : n ≤ 999999999) : ∃ x a s, spec_l1Cur_near.f code at_ seed = some (x, a, s) ∧ x.size ≤ 12 ∧ At (n + 2) a := by
 obtain ⟨x, a, s, e, hx, h2⟩ := of_ok hc seed ([(⟨#[98, 111, 111, 107]⟩ : ByteArray), (⟨#[98, 111, 111, 107, 115]⟩ : ByteArray), (⟨#[98, 111, 111]⟩ : ByteArray), (⟨#[99, 111, 111, 107]⟩ : ByteArray), (⟨#[99, 97, 107, 101]⟩ : ByteArray), (⟨#[99, 97, 112, 101]⟩ : ByteArray), (⟨#[99, 97, 114, 116]⟩ : ByteArray), (⟨#[98, 111, 111, 110]⟩ : ByteArray), (⟨#[97]⟩ : ByteArray), (⟨#[97, 98]⟩ : ByteArray), (⟨#[108, 111, 111, 107]⟩ : ByteArray), (⟨#[110, 111, 111, 107]⟩ : ByteArray), (⟨#[98, 97, 107, 101]⟩ : ByteArray), (⟨#[108, 97, 107, 101]⟩ : ByteArray), (⟨#[116, 97, 107, 101]⟩ : ByteArray), (⟨#[109, 97, 107, 101]⟩ : ByteArray), (⟨#[116, 119, 101, 108, 118, 101, 108, 101, 116, 116, 101, 114]⟩ : ByteArray)] : List ByteArray) h hn (by simp)
 refine ⟨x, a, s, ?_, ?_, h2⟩
 ·unfold spec_l1Cur_near.f
  rw [e]; rfl
 ·simp only [List.mem_cons, List.not_mem_nil, or_false] at hx
  rcases hx with h | h | h | h | h | h | h | h | h | h | h | h | h | h | h | h | h <;> (rw [h]; decide)
theorem insert_eq (l : List ByteArray) (hl : l.length ≤ 1000) (i : Nat) (hi : i ≤ l.length) (w : ByteArray) : spec_l5Insert.f l i w = some (l.take i ++ [w] ++ l.drop i) := by
 unfold spec_l5Insert.f
 simp only [Option.bind_some, List.nil_append, List.length_nil, Int.toNat_natCast]
 rw [if_pos (by omega), if_pos (by omega), if_pos (by rw [List.length_take]; omega), if_pos (by rw [List.length_take]; omega), if_pos (by rw [List.length_append, List.length_take, List.length_drop, List.length_singleton]; omega)]
theorem put9_loop (l : List ByteArray) (hl : l.length ≤ 1000) (w : ByteArray) : ∀ (rest : List ByteArray) (i : Nat), l.drop i = rest → i ≤ l.length → ∃ r, Ev (fun k => spec_l9Put.l0 k l w i) r ∧ r.length ≤ l.length + 1 ∧ ∀ x ∈ r, x ∈ l ∨ x = w
 | [], i, hd, hi => by
  have h := drop_nil hd
  refine ⟨l.take i ++ [w] ++ l.drop i, Ev.step (fun k => spec_l9Put.l0.eq_2 ..) (ev_if_neg (by omega) ?_), ?_, fun x hx => ?_⟩
  ·rw [insert_eq l hl i hi w]; exact ev_some rfl
  ·simp only [List.length_append, List.length_take, List.length_drop, List.length_singleton]; omega
  ·rcases List.mem_append.1 hx with hx | hx
   ·rcases List.mem_append.1 hx with hx | hx
    ·exact .inl (List.mem_of_mem_take hx)
    ·exact .inr (by simpa using hx)
   ·exact .inl (List.mem_of_mem_drop hx)
 | s :: rest, i, hd, hi => by
  obtain ⟨hi', hd', hx⟩ := drop_cons hd
  have hx : rdOf ByteArray.empty l i = s := hx _
  by_cases h1 : Op.bytesLess s.toList w.toList = true
  ·obtain ⟨r, hr, h2, h3⟩ := put9_loop l hl w rest (i + 1) hd' (by omega)
   refine ⟨r, Ev.step (fun k => spec_l9Put.l0.eq_2 ..) (ev_if_pos (by omega) (ev_if_pos (by omega) ?_)), h2, h3⟩
   rw [hx, wrap_succ (by omega)]
   exact ev_if_pos h1 hr
  ·by_cases h4 : s.toList = w.toList
   ·refine ⟨l, Ev.step (fun k => spec_l9Put.l0.eq_2 ..) (ev_if_pos (by omega) (ev_if_pos (by omega) ?_)), by omega, fun x hx => .inl hx⟩
    rw [hx]
    exact ev_if_neg h1 (ev_if_pos h4 (ev_some rfl))
   ·refine ⟨l.take i ++ [w] ++ l.drop i, Ev.step (fun k => spec_l9Put.l0.eq_2 ..) (ev_if_pos (by omega) (ev_if_pos (by omega) ?_)), ?_, fun x hx => ?_⟩
    ·rw [hx, insert_eq l hl i hi w]
     exact ev_if_neg h1 (ev_if_neg h4 (ev_some rfl))
    ·simp only [List.length_append, List.length_take, List.length_drop, List.length_singleton]; omega
    ·rcases List.mem_append.1 hx with hx | hx
     ·rcases List.mem_append.1 hx with hx | hx
      ·exact .inl (List.mem_of_mem_take hx)
      ·exact .inr (by simpa using hx)
     ·exact .inl (List.mem_of_mem_drop hx)
theorem put9_ok (l : List ByteArray) (hl : l.length ≤ 1000) (w : ByteArray) : ∃ r, Ev (fun k => spec_l9Put.f k l w) r ∧ r.length ≤ l.length + 1 ∧ ∀ x ∈ r, x ∈ l ∨ x = w := put9_loop l hl w l 0 rfl (Nat.zero_le _)
def SmallE (l : List (S48)) : Prop := ∀ x ∈ l, x.f0.size ≤ 12
theorem entries_j2 {code : List Int} (hc : Bytes code) {n at_ : Int} (seed : Int) (h : At n at_) (hn : n ≤ 9999999) (b : Bool) (l : List (S48)) (hl : l.length ≤ 1000) (hb : b = true → l ≠ []) (hs : SmallE l) :
  ∃ r a s, Ev (fun k => spec_l1Cur_entries.j2 k l b code at_ seed) (r, a, s) ∧ r.length = l.length ∧ SmallE r ∧ At (n + 4) a := by
 cases b with
 | false => exact ⟨l, at_, seed, Ev.step (fun k => spec_l1Cur_entries.j2.eq_2 ..) (ev_if_neg (by simp) (ev_some rfl)), rfl, hs, ⟨h.1, by have := h.2; omega⟩⟩
 | true =>
  obtain ⟨x, a, s, e, hx, h2⟩ := of_ok hc seed ([(⟨#[]⟩ : ByteArray), (⟨#[122, 122]⟩ : ByteArray), (⟨#[65]⟩ : ByteArray)] : List ByteArray) h (by omega) (by simp)
  obtain ⟨y, a2, s2, e2, hy, h3⟩ := among_ok hc s ([0, 1000, 1001] : List Int) h2 (by omega) (by simp)
  have hp : 0 < l.length := List.length_pos_iff.2 (hb rfl)
  refine ⟨l.set 0 ⟨x, y⟩, a2, s2, Ev.step (fun k => spec_l1Cur_entries.j2.eq_2 ..) (ev_if_pos rfl ?_), by simp, fun z hz => ?_, ⟨h3.1, by have := h3.2; omega⟩⟩
  ·simp only [e, e2, Option.bind_some]
   exact ev_if_pos (by omega) (ev_some rfl)
  ·rcases List.mem_or_eq_of_mem_set hz with hz | hz
   ·exact hs z hz
   ·rw [hz]
    simp only [List.mem_cons, List.not_mem_nil, or_false] at hx
    show x.size ≤ 12
    rcases hx with h | h | h <;> (rw [h]; decide)
theorem entries_l1 {code : List Int} (hc : Bytes code) (ws : List ByteArray) (hw : ws.length ≤ 100) (hz : ∀ x ∈ ws, x.size ≤ 12) : ∀ (rest : List ByteArray) (i : Nat) (n at_ seed : Int) (l : List (S48)), ws.drop i = rest → i ≤ ws.length → At n at_ → n + 2 * rest.length ≤ 999999 → l.length = i → SmallE l →
  ∃ r a s, Ev (fun k => spec_l1Cur_entries.l1 k l ws ws.length i code at_ seed) (r, a, s) ∧ r.length ≤ ws.length ∧ SmallE r ∧ At (n + 2 * rest.length + 6) a
 | [], i, n, at_, seed, l, hd, hi, h, hn, hl, hs => by
  have h0 := drop_nil hd
  simp only [List.length_nil] at hn ⊢
  by_cases hp : (l.length : Int) > 0
  ·obtain ⟨b, a, s, e, h2⟩ := one_ok hc seed 20 h (by omega) (by omega)
   obtain ⟨r, a2, s2, hr, h3, h4, h5⟩ := entries_j2 hc s h2 (by omega) b l (by omega) (fun _ e => by rw [e] at hp; simp at hp) hs
   refine ⟨r, a2, s2, Ev.step (fun k => spec_l1Cur_entries.l1.eq_2 ..) (ev_if_neg (by omega) (ev_if_pos hp ?_)), by omega, h4, ⟨h5.1, by have := h5.2; omega⟩⟩
   simp only [e, Option.bind_some]
   exact hr
  ·obtain ⟨r, a2, s2, hr, h3, h4, h5⟩ := entries_j2 hc seed h (by omega) false l (by omega) (fun e => by cases e) hs
   exact ⟨r, a2, s2, Ev.step (fun k => spec_l1Cur_entries.l1.eq_2 ..) (ev_if_neg (by omega) (ev_if_neg hp hr)), by omega, h4, ⟨h5.1, by have := h5.2; omega⟩⟩
 | w :: rest, i, n, at_, seed, l, hd, hi0, h, hn, hl, hs => by
  obtain ⟨hi, hd', hx⟩ := drop_cons hd
  have hx : rdOf ByteArray.empty ws i = w := hx _
  have hw' : w ∈ ws := List.mem_of_mem_drop (by rw [hd]; exact List.mem_cons_self)
  rw [List.length_cons] at hn ⊢
  obtain ⟨x, a, s, e, h0, h1, h2⟩ := pick_ok hc seed 5 h (by omega) (by omega)
  obtain ⟨r, a2, s2, hr, h3, h4, h5⟩ := entries_l1 hc ws hw hz rest (i + 1) (n + 2) a s (l ++ [⟨w, wrap64 (1 + x)⟩]) hd' (by omega) h2 (by omega) (by rw [List.length_append, List.length_singleton]; omega) (fun z hz' => by
   rcases List.mem_append.1 hz' with h | h
   ·exact hs z h
   ·have h : z = ⟨w, wrap64 (1 + x)⟩ := by simpa using h
    rw [h]; exact hz w hw')
  refine ⟨r, a2, s2, Ev.step (fun k => spec_l1Cur_entries.l1.eq_2 ..) (ev_if_pos (by omega) (ev_if_pos (by omega) (ev_if_pos (by omega) ?_))), h3, h4, ⟨h5.1, by have := h5.2; omega⟩⟩
  simp only [e, Option.bind_some, hx]
  rw [wrap_succ (by omega)]
  exact ev_if_pos (by omega) hr
theorem entries_l0 {code : List Int} (hc : Bytes code) : ∀ (m : Nat) (ws : List ByteArray) (n at_ seed : Int), At n at_ → n + 2 * m ≤ 2000 → m ≤ 20 → ws.length + m ≤ 20 → (∀ x ∈ ws, x.size ≤ 12) →
  ∃ r a s, Ev (fun k => spec_l1Cur_entries.l0 k ws (m : Int) code at_ seed) (r, a, s) ∧ r.length ≤ ws.length + m ∧ SmallE r ∧ At (n + 2 * m + 2 * (ws.length + m) + 6) a
 | 0, ws, n, at_, seed, h, hn, hm, hw, hz => by
  obtain ⟨r, a, s, hr, h3, h4, h5⟩ := entries_l1 hc ws (by omega) hz ws 0 n at_ seed [] rfl (by omega) h (by omega) rfl (fun _ h => by cases h)
  exact ⟨r, a, s, Ev.step (fun k => spec_l1Cur_entries.l0.eq_2 ..) (ev_if_neg (by omega) hr), by omega, h4, ⟨h5.1, by have := h5.2; omega⟩⟩
 | m + 1, ws, n, at_, seed, h, hn, hm, hw, hz => by
  obtain ⟨x, a, s, e, hx, h2⟩ := near_ok hc seed h (by omega)
  obtain ⟨ws', hp, hl, hin⟩ := put9_ok ws (by omega) x
  have hz' : ∀ y ∈ ws', y.size ≤ 12 := fun y hy => by
   rcases hin y hy with h | h
   ·exact hz y h
   ·rw [h]; exact hx
  obtain ⟨r, a2, s2, hr, h3, h4, h5⟩ := entries_l0 hc m ws' (n + 2) a s h2 (by omega) (by omega) (by omega) hz'
  refine ⟨r, a2, s2, Ev.step (fun k => spec_l1Cur_entries.l0.eq_2 ..) (ev_if_pos (by omega) ?_), by omega, h4, ⟨h5.1, by have := h5.2; omega⟩⟩
  simp only [e, Option.bind_some]
  refine ev_bind hp ?_
  rw [show wrap64 (((m + 1 : Nat) : Int) - 1) = (m : Int) by rw [wrap_id (by omega) (by omega)]; omega]
  exact hr
theorem entries_ok {code : List Int} (hc : Bytes code) {n at_ : Int} (seed : Int) (h : At n at_) (hn : n ≤ 500) : ∃ r a s, Ev (fun k => spec_l1Cur_entries.f k code at_ seed) (r, a, s) ∧ r.length ≤ 20 ∧ SmallE r ∧ At (n + 100) a := by
 obtain ⟨x, a, s, e, h0, h1, h2⟩ := pick_ok hc seed 10 h (by omega) (by omega)
 obtain ⟨m, hm⟩ : ∃ m : Nat, x = (m : Int) := ⟨x.toNat, by omega⟩
 subst hm
 obtain ⟨r, a2, s2, hr, h3, h4, h5⟩ := entries_l0 hc m [] (n + 2) a s h2 (by omega) (by omega) (by simp; omega) (fun _ h => by cases h)
 simp only [List.length_nil] at h3 h5
 refine ⟨r, a2, s2, ?_, by omega, h4, ⟨h5.1, by have := h5.2; omega⟩⟩
 unfold spec_l1Cur_entries.f
 simp only [e, Option.bind_some]
 exact hr
theorem root_kids (l : List (S48)) (h : 1 < (buildR l).1.length) : 0 < ((buildR l).1[0]'(by omega)).f3.length := by
 have hb : (buildR l).1 = allLegs l ∧ goodEs l = true := by
  unfold buildR at h ⊢
  split at h
  ·rename_i hg
   rw [if_pos hg]
   split at h
   ·simp at h
   ·rename_i hn
    rw [if_neg hn]
    exact ⟨rfl, hg⟩
  ·simp at h
 have hg := goodEs_leg hb.2
 have key : ∀ (T : List (S59)) (hT : 1 < T.length), T = allLegs l → 0 < (T[0]'(by omega)).f3.length := by
  intro T hT e
  have e2 := segL_succ 12 l 0 0
  rw [show segL (12 + 1) l 0 0 = allLegs l from rfl, ← e] at e2
  subst e2
  show 0 < (kidsF _ _ _).length
  rw [kidsF_length]
  rw [List.length_cons] at hT
  generalize groups wdE 0 (legRest wdE 0 l) = gs at hT ⊢
  cases gs with
  | nil => simp [bodyF] at hT
  | cons g gs => simp
 exact key _ h hb.1
def SmallG (T : List (S59)) : Prop := T.length ≤ 120 ∧ ∀ x ∈ T, x.f3.length ≤ 20
theorem rdG_in {T : List (S59)} {i : Int} (h0 : 0 ≤ i) (h1 : i < (T.length : Int)) : rd_T59 T i ∈ T := by
 unfold rd_T59
 rw [List.getD_eq_getElem?_getD, List.getElem?_eq_getElem (by omega)]
 exact List.getElem_mem _
theorem legs_j1 {code : List Int} (hc : Bytes code) {n at_ : Int} (seed : Int) (h : At n at_) (hn : n ≤ 9999) (T : List (S59)) (hT : SmallG T) (hr : 1 < T.length → 0 < (rd_T59 T 0).f3.length) :
  ∃ r a s, Ev (fun k => spec_l1Cur_legs.j1 k T code at_ seed) (r, a, s) ∧ SmallG r ∧ At (n + 4) a := by
 by_cases hp : (T.length : Int) > 1
 ·obtain ⟨b, a, s, e, h2⟩ := one_ok hc seed 20 h (by omega) (by omega)
  cases b with
  | false =>
   refine ⟨T, a, s, Ev.step (fun k => spec_l1Cur_legs.j1.eq_2 ..) (ev_if_pos hp ?_), hT, ⟨h2.1, by have := h2.2; omega⟩⟩
   simp only [e, Option.bind_some]
   exact ev_if_neg (by simp) (ev_some rfl)
  | true =>
   obtain ⟨x, a2, s2, e2, _, _, h3⟩ := pick_ok hc s 4 h2 (by omega) (by omega)
   have hk := hr (by omega)
   refine ⟨T.set 0 ⟨(rd_T59 T 0).f0, (rd_T59 T 0).f1, (rd_T59 T 0).f2, (rd_T59 T 0).f3.set 0 x⟩, a2, s2, Ev.step (fun k => spec_l1Cur_legs.j1.eq_2 ..) (ev_if_pos hp ?_), ⟨by rw [List.length_set]; exact hT.1, fun y hy => ?_⟩, ⟨h3.1, by have := h3.2; omega⟩⟩
   ·simp only [e, e2, Option.bind_some]
    exact ev_if_pos trivial (ev_if_pos (by omega) (ev_if_pos (by omega) (ev_some rfl)))
   ·rcases List.mem_or_eq_of_mem_set hy with hy | hy
    ·exact hT.2 y hy
    ·rw [hy]
     show ((rd_T59 T 0).f3.set 0 x).length ≤ 20
     rw [List.length_set]
     exact hT.2 _ (rdG_in (by omega) (by omega))
 ·exact ⟨T, at_, seed, Ev.step (fun k => spec_l1Cur_legs.j1.eq_2 ..) (ev_if_neg hp (ev_some rfl)), hT, ⟨h.1, by have := h.2; omega⟩⟩
theorem legs_j0 {code : List Int} (hc : Bytes code) {n at_ : Int} (seed : Int) (h : At n at_) (hn : n ≤ 9990) (T : List (S59)) (b : Bool) (hb : b = true → 0 < T.length) (hT : SmallG T) (hr : 1 < T.length → 0 < (rd_T59 T 0).f3.length) :
  ∃ r a s, Ev (fun k => spec_l1Cur_legs.j0 k T b code at_ seed) (r, a, s) ∧ SmallG r ∧ At (n + 6) a := by
 cases b with
 | false =>
  obtain ⟨r, a, s, e, h2, h3⟩ := legs_j1 hc seed h (by omega) T hT hr
  exact ⟨r, a, s, Ev.step (fun k => spec_l1Cur_legs.j0.eq_2 ..) (ev_if_neg (by simp) e), h2, ⟨h3.1, by have := h3.2; omega⟩⟩
 | true =>
  have hp := hb rfl
  obtain ⟨x, a, s, e, h0, h1, h2⟩ := pick_ok hc seed T.length h (by omega) (by omega)
  have hlen : (T.set x.toNat ⟨(rd_T59 T x).f0, (rd_T59 T x).f1, wrap64 ((rd_T59 T x).f2 + 1), (rd_T59 T x).f3⟩).length = T.length := List.length_set
  obtain ⟨r, a2, s2, e2, h3, h4⟩ := legs_j1 hc s h2 (by omega) (T.set x.toNat ⟨(rd_T59 T x).f0, (rd_T59 T x).f1, wrap64 ((rd_T59 T x).f2 + 1), (rd_T59 T x).f3⟩) ⟨by rw [hlen]; exact hT.1, fun y hy => by
   rcases List.mem_or_eq_of_mem_set hy with hy | hy
   ·exact hT.2 y hy
   ·rw [hy]
    show (rd_T59 T x).f3.length ≤ 20
    exact hT.2 _ (rdG_in h0 h1)⟩ (fun h => by
   rw [hlen] at h
   have h5 := hr h
   have e0 : ∀ U : List (S59), (hU : 0 < U.length) → rd_T59 U 0 = U[0] := fun U hU => by
    unfold rd_T59
    rw [List.getD_eq_getElem?_getD, show (0 : Int).toNat = 0 from rfl, List.getElem?_eq_getElem hU]; rfl
   rw [e0 _ (by rw [hlen]; omega), List.getElem_set]
   split
   ·rename_i hx
    show 0 < (rd_T59 T x).f3.length
    rw [show x = 0 by omega]
    exact h5
   ·rw [← e0 T (by omega)]; exact h5)
  refine ⟨r, a2, s2, Ev.step (fun k => spec_l1Cur_legs.j0.eq_2 ..) (ev_if_pos rfl ?_), h3, ⟨h4.1, by have := h4.2; omega⟩⟩
  simp only [e, Option.bind_some]
  exact ev_if_pos h0 (ev_if_pos h1 e2)
theorem legs_ok {code : List Int} (hc : Bytes code) {n at_ : Int} (seed : Int) (h : At n at_) (hn : n ≤ 500) : ∃ r a s, Ev (fun k => spec_l1Cur_legs.f k code at_ seed) (r, a, s) ∧ SmallG r ∧ At (n + 110) a := by
 obtain ⟨l, a, s, e, hl, hs, h2⟩ := entries_ok hc seed h hn
 have hb := spec_BuildLegs_ev l (by omega) (fun x hx => Nat.le_trans (hs x hx) (by decide))
 have hsm := buildR_small l
 have hrt : 1 < (buildR l).1.length → 0 < (rd_T59 (buildR l).1 0).f3.length := fun h => by
  have := root_kids l h
  unfold rd_T59
  rw [List.getD_eq_getElem?_getD, show (0 : Int).toNat = 0 from rfl, List.getElem?_eq_getElem (by omega)]
  exact this
 unfold spec_l1Cur_legs.f
 by_cases hp : ((buildR l).1.length : Int) > 0
 ·obtain ⟨b, a2, s2, e2, h3⟩ := one_ok hc s 20 h2 (by omega) (by omega)
  obtain ⟨r, a3, s3, e3, h4, h5⟩ := legs_j0 hc s2 h3 (by omega) (buildR l).1 b (fun _ => by omega) hsm hrt
  refine ⟨r, a3, s3, ev_bind e (ev_bind hb (ev_if_pos hp ?_)), h4, ⟨h5.1, by have := h5.2; omega⟩⟩
  simp only [e2, Option.bind_some]
  exact e3
 ·obtain ⟨r, a3, s3, e3, h4, h5⟩ := legs_j0 hc s h2 (by omega) (buildR l).1 false (fun h => by cases h) hsm hrt
  exact ⟨r, a3, s3, ev_bind e (ev_bind hb (ev_if_neg hp e3)), h4, ⟨h5.1, by have := h5.2; omega⟩⟩
open Go.Proofs.Ytkoackkimdanjaa.Ext (idxF)
theorem bl_letter {n : Nat} {x y : List UInt8} (hx : n < x.length) (hy : n < y.length) (hp : x.take n = y.take n) (h : Op.bytesLess x y = true) : x.getD n 0 ≤ y.getD n 0 := by
 have ee : ∀ z : List UInt8, n < z.length → z.take n ++ (z.getD n 0 :: z.drop (n + 1)) = z := fun z hz => by
  rw [List.getD_eq_getElem?_getD, List.getElem?_eq_getElem hz]
  show z.take n ++ (z[n] :: z.drop (n + 1)) = z
  rw [← List.drop_eq_getElem_cons hz, List.take_append_drop]
 have h2 : Op.bytesLess (y.take n ++ (x.getD n 0 :: x.drop (n + 1))) (y.take n ++ (y.getD n 0 :: y.drop (n + 1))) = true := by
  rw [ee y hy, ← hp, ee x hx]; exact h
 rw [Go.Proofs.Ytkoackkimdanjaa.Ext.bytesLess_pre] at h2
 simp only [Op.bytesLess, Bool.or_eq_true, decide_eq_true_eq, Bool.and_eq_true, beq_iff_eq] at h2
 rcases h2 with h2 | ⟨h2, _⟩
 ·exact UInt8.le_of_lt h2
 ·rw [h2]; exact UInt8.le_refl _
theorem less_letter {n : Nat} {l : List (S48)} (h : LegGood wdE n l) {r : List (S48)} (hr : r.Sublist l) (hl : ∀ x ∈ r, n < (wdE x).length) : r.Pairwise fun x y => (wdE x).getD n 0 ≤ (wdE y).getD n 0 := by
 have h1 := h.sub hr
 refine (List.Pairwise.and_mem.1 h1.less).imp ?_
 rintro x y ⟨hx, hy, hxy⟩
 exact bl_letter (hl x hx) (hl y hy) (h1.pre x hx y hy) hxy
theorem groups_less (n : Nat) : ∀ l : List (S48), (l.Pairwise fun x y => (wdE x).getD n 0 ≤ (wdE y).getD n 0) → (groups wdE n l).Pairwise fun g h => ∀ x ∈ g, ∀ y ∈ h, (wdE x).getD n 0 < (wdE y).getD n 0
 | [], _ => List.Pairwise.nil
 | [x], _ => List.pairwise_singleton _ _
 | x :: y' :: l', hp => by
  have hp' := List.pairwise_cons.1 hp
  have ih := groups_less n (y' :: l') hp'.2
  obtain ⟨g, gs, e⟩ := Go.Proofs.Ytkoackkimdanjaa.Ext.groups_cons (wd := wdE) n y' l'
  have hflat := groups_flat (wd := wdE) n (y' :: l')
  rw [e] at ih hflat
  rw [Go.Proofs.Ytkoackkimdanjaa.Ext.groups, e]
  show (if (wdE x).getD n 0 = (wdE y').getD n 0 then (x :: y' :: g) :: gs else [x] :: (y' :: g) :: gs).Pairwise _
  have ih' := List.pairwise_cons.1 ih
  by_cases hxy : (wdE x).getD n 0 = (wdE y').getD n 0
  ·rw [if_pos hxy]
   refine List.pairwise_cons.2 ⟨fun h hh z hz w hw => ?_, ih'.2⟩
   rcases List.mem_cons.1 hz with rfl | hz
   ·rw [hxy]; exact ih'.1 h hh y' (by simp) w hw
   ·exact ih'.1 h hh z hz w hw
  ·rw [if_neg hxy]
   refine List.pairwise_cons.2 ⟨fun h hh z hz w hw => ?_, ih⟩
   have hz : z = x := by simpa using hz
   subst hz
   have hw' : w ∈ y' :: l' := by rw [← hflat]; exact List.mem_flatten.2 ⟨h, hh, hw⟩
   have h1 : (wdE z).getD n 0 < (wdE y').getD n 0 := UInt8.lt_of_le_of_ne (hp'.1 y' (by simp)) hxy
   rcases List.mem_cons.1 hw' with rfl | hw'
   ·exact h1
   ·exact UInt8.lt_of_lt_of_le h1 ((List.pairwise_cons.1 hp'.2).1 w hw')
def SegAt (T : List (S59)) (k : Nat) (l : List (S48)) (n at_ : Nat) : Prop := ∀ j, j < (segL k l n at_).length → T[at_ + j]? = (segL k l n at_)[j]?
theorem kids_at (F : List (S48) → Nat → List (S59)) (T : List (S59)) : ∀ (gs : List (List (S48))) (pos : Nat), (∀ j, j < (bodyF F gs pos).length → T[pos + j]? = (bodyF F gs pos)[j]?) → ∀ y ∈ kidsF F gs pos, ∃ g ∈ gs, ∃ p : Nat, y = (p : Int) ∧ ∀ j, j < (F g p).length → T[p + j]? = (F g p)[j]?
 | [], pos, _, y, hy => by cases hy
 | g :: gs, pos, h, y, hy => by
  have e : (bodyF F (g :: gs) pos).length = (F g pos).length + (bodyF F gs (pos + (F g pos).length)).length := by simp [bodyF]
  rcases List.mem_cons.1 hy with rfl | hy
  ·refine ⟨g, by simp, pos, rfl, fun j hj => ?_⟩
   rw [h j (by omega)]
   unfold bodyF
   rw [List.getElem?_append_left hj]
  ·obtain ⟨g', hg', p, h1, h2⟩ := kids_at F T gs (pos + (F g pos).length) (fun j hj => by
    have := h ((F g pos).length + j) (by omega)
    unfold bodyF at this
    rw [List.getElem?_append_right (by omega), Nat.add_sub_cancel_left, ← Nat.add_assoc] at this
    exact this) y hy
   exact ⟨g', by simp [hg'], p, h1, h2⟩
theorem kids_map (F : List (S48) → Nat → List (S59)) (φ : List (S48) → Int) (T : List (S59)) : ∀ (gs : List (List (S48))) (pos : Nat), (∀ j, j < (bodyF F gs pos).length → T[pos + j]? = (bodyF F gs pos)[j]?) → (∀ g ∈ gs, ∀ a, ∃ x r, F g a = x :: r ∧ x.f0 = φ g) → (kidsF F gs pos).map (fun y => (rd_T59 T y).f0) = gs.map φ
 | [], pos, _, _ => rfl
 | g :: gs, pos, h, hF => by
  have e : (bodyF F (g :: gs) pos).length = (F g pos).length + (bodyF F gs (pos + (F g pos).length)).length := by simp [bodyF]
  obtain ⟨x, r, hx, hf⟩ := hF g (by simp) pos
  have hl : 0 < (F g pos).length := by rw [hx]; simp
  have h0 := h 0 (by omega)
  unfold bodyF at h0
  rw [List.getElem?_append_left hl, hx, List.getElem?_cons_zero, Nat.add_zero] at h0
  have ih := kids_map F φ T gs (pos + (F g pos).length) (fun j hj => by
   have := h ((F g pos).length + j) (by omega)
   unfold bodyF at this
   rw [List.getElem?_append_right (by omega), Nat.add_sub_cancel_left, ← Nat.add_assoc] at this
   exact this) (fun g' hg' => hF g' (by simp [hg']))
  unfold kidsF
  rw [List.map_cons, List.map_cons, ih]
  congr 1
  unfold rd_T59
  rw [Int.toNat_natCast, List.getD_eq_getElem?_getD, h0]
  exact hf
theorem seg_walk {T : List (S59)} {k n at_ : Nat} {l : List (S48)} (hn : n + (k + 1) = 13) (hg : LegGood wdE n l) (h : SegAt T (k + 1) l n at_) : at_ < T.length ∧ ((rd_T59 T at_).f3.map fun y => (rd_T59 T y).f0).Pairwise (· ≠ ·) ∧ ∀ y ∈ (rd_T59 T at_).f3, ∃ (g : List (S48)) (p : Nat), y = (p : Int) ∧ LegGood wdE (n + 1) g ∧ SegAt T k g (n + 1) p := by
 unfold SegAt at h
 rw [segL_succ] at h
 have h0 := h 0 (by simp)
 rw [List.getElem?_cons_zero, Nat.add_zero] at h0
 have hlt := (List.getElem?_eq_some_iff.1 h0).1
 have hrd : (rd_T59 T (at_ : Int)).f3 = kidsF (fun g a => segL k g (n + 1) a) (groups wdE n (legRest wdE n l)) (at_ + 1) := by
  unfold rd_T59
  rw [Int.toNat_natCast, List.getD_eq_getElem?_getD, h0]
  rfl
 have hb : ∀ j, j < (bodyF (fun g a => segL k g (n + 1) a) (groups wdE n (legRest wdE n l)) (at_ + 1)).length → T[at_ + 1 + j]? = (bodyF (fun g a => segL k g (n + 1) a) (groups wdE n (legRest wdE n l)) (at_ + 1))[j]? := by
  intro j hj
  have := h (j + 1) (by simp; omega)
  rw [List.getElem?_cons_succ] at this
  rw [← this]
  congr 1
  omega
 have hgood : ∀ g ∈ groups wdE n (legRest wdE n l), LegGood wdE (n + 1) g := fun g hgm => hg.group hgm
 refine ⟨hlt, ?_, ?_⟩
 ·rw [hrd, kids_map _ (fun g => Go.Proofs.Ytkoackkimdanjaa.Ext.legLetter wdE (n + 1) g) T _ _ hb (fun g hgm a => by
   cases k with
   | zero => have := (hgood g hgm).n12; omega
   | succ k => exact ⟨_, _, segL_succ k g (n + 1) a, rfl⟩)]
  rw [List.pairwise_map]
  have hl := groups_less n (legRest wdE n l) (less_letter hg (Go.Proofs.Ytkoackkimdanjaa.Ext.legRest_sub n l) hg.rest_long)
  refine (List.Pairwise.and_mem.1 hl).imp ?_
  rintro g g' ⟨hg1, hg2, hlt⟩
  have n1 := groups_ne (wd := wdE) n _ g hg1
  have n2 := groups_ne (wd := wdE) n _ g' hg2
  cases g with
  | nil => exact absurd rfl n1
  | cons x g =>
   cases g' with
   | nil => exact absurd rfl n2
   | cons y g' =>
    have := hlt x (by simp) y (by simp)
    have h3 : ((wdE x).getD n 0).toNat < ((wdE y).getD n 0).toNat := UInt8.lt_iff_toNat_lt.1 this
    have h4 := ((wdE y).getD n 0).toNat_lt
    have e1 : Go.Proofs.Ytkoackkimdanjaa.Ext.legLetter wdE (n + 1) (x :: g) = (((((wdE x).getD n 0).toNat : Int)) - 97) % 256 := by
     show (if 0 < n + 1 then (((((wdE x).getD (n + 1 - 1) 0).toNat : Int)) - 97) % 256 else 0) = _
     rw [if_pos (by omega)]; rfl
    have e2 : Go.Proofs.Ytkoackkimdanjaa.Ext.legLetter wdE (n + 1) (y :: g') = (((((wdE y).getD n 0).toNat : Int)) - 97) % 256 := by
     show (if 0 < n + 1 then (((((wdE y).getD (n + 1 - 1) 0).toNat : Int)) - 97) % 256 else 0) = _
     rw [if_pos (by omega)]; rfl
    show Go.Proofs.Ytkoackkimdanjaa.Ext.legLetter wdE (n + 1) (x :: g) ≠ Go.Proofs.Ytkoackkimdanjaa.Ext.legLetter wdE (n + 1) (y :: g')
    rw [e1, e2]
    generalize ((wdE x).getD n 0).toNat = a at h3 ⊢
    generalize ((wdE y).getD n 0).toNat = b at h3 h4 ⊢
    omega
 ·rw [hrd]
  intro y hy
  obtain ⟨g, hgm, p, h1, h2⟩ := kids_at _ T _ _ hb y hy
  exact ⟨g, p, h1, hgood g hgm, h2⟩
def lastM (p : Int → Bool) : List Int → Int → Int
 | [], m => m
 | k :: ks, m => lastM p ks (if p k = true then k else m)
theorem lastM_none (p : Int → Bool) : ∀ (ks : List Int) (m : Int), (∀ k ∈ ks, p k = false) → lastM p ks m = m
 | [], _, _ => rfl
 | k :: ks, m, h => by
  unfold lastM
  rw [if_neg (by rw [h k (by simp)]; simp)]
  exact lastM_none p ks m (fun q hq => h q (by simp [hq]))
theorem last_first (φ : Int → Int) (c : Int) : ∀ (ks : List Int) (i : Nat), (ks.map φ).Pairwise (· ≠ ·) → (idxF (fun k => decide (φ k = c)) ks i = -1 ∧ ∀ m, lastM (fun k => decide (φ k = c)) ks m = m) ∨ ∃ (j : Nat) (x : Int), idxF (fun k => decide (φ k = c)) ks i = ((i + j : Nat) : Int) ∧ ks[j]? = some x ∧ ∀ m, lastM (fun k => decide (φ k = c)) ks m = x
 | [], i, _ => .inl ⟨rfl, fun _ => rfl⟩
 | k :: ks, i, h => by
  rw [List.map_cons] at h
  have h' := List.pairwise_cons.1 h
  have e : idxF (fun k => decide (φ k = c)) (k :: ks) i = if decide (φ k = c) = true then (i : Int) else idxF (fun k => decide (φ k = c)) ks (i + 1) := rfl
  by_cases hk : φ k = c
  ·refine .inr ⟨0, k, ?_, rfl, fun m => ?_⟩
   ·rw [e, if_pos (decide_eq_true hk)]; rfl
   ·unfold lastM
    rw [if_pos (decide_eq_true hk)]
    exact lastM_none _ ks k (fun q hq => decide_eq_false (fun hc => h'.1 (φ q) (List.mem_map_of_mem hq) (by rw [hk, hc])))
  ·have hd : ¬ decide (φ k = c) = true := by simpa using hk
   rcases last_first φ c ks (i + 1) h'.2 with ⟨h1, h2⟩ | ⟨j, x, h1, h2, h3⟩
   ·exact .inl ⟨by rw [e, if_neg hd, h1], fun m => by unfold lastM; rw [if_neg hd]; exact h2 m⟩
   ·refine .inr ⟨j + 1, x, ?_, by rw [List.getElem?_cons_succ]; exact h2, fun m => by unfold lastM; rw [if_neg hd]; exact h3 m⟩
    rw [e, if_neg hd, h1]
    congr 1
    omega
def Inv (T : List (S59)) (i at_ : Nat) : Prop := ∃ l, LegGood wdE i l ∧ SegAt T (13 - i) l i at_
theorem inv_step {T : List (S59)} {i at_ : Nat} (h : Inv T i at_) : at_ < T.length ∧ ((rd_T59 T at_).f3.map fun y => (rd_T59 T y).f0).Pairwise (· ≠ ·) ∧ ∀ y ∈ (rd_T59 T at_).f3, ∃ p : Nat, y = (p : Int) ∧ p < T.length ∧ Inv T (i + 1) p := by
 obtain ⟨l, hg, hs⟩ := h
 have hn := hg.n12
 obtain ⟨k, hk⟩ : ∃ k, 13 - i = k + 1 := ⟨12 - i, by omega⟩
 rw [hk] at hs
 obtain ⟨h1, h2, h3⟩ := seg_walk (by omega) hg hs
 refine ⟨h1, h2, fun y hy => ?_⟩
 obtain ⟨g, p, e, hg', hs'⟩ := h3 y hy
 have hk' : k = 13 - (i + 1) := by omega
 have hne := segL_ne (k := k) (n := i + 1) (at_ := p) (by omega) hg'
 have h0 := hs' 0 (List.length_pos_iff.2 hne)
 rw [Nat.add_zero, List.getElem?_eq_getElem (List.length_pos_iff.2 hne)] at h0
 exact ⟨p, e, (List.getElem?_eq_some_iff.1 h0).1, g, hg', by rw [← hk']; exact hs'⟩
def walkS (T : List (S59)) (s : ByteArray) : Nat → Nat → Int → Int × Bool
 | 0, _, a => (a, true)
 | d + 1, i, a => if idxF (fun k => decide ((rd_T59 T k).f0 = impl_WalkLegs_1.ltr s i)) (rd_T59 T a).f3 0 < 0 then (0, false) else walkS T s d (i + 1) (rd (rd_T59 T a).f3 (idxF (fun k => decide ((rd_T59 T k).f0 = impl_WalkLegs_1.ltr s i)) (rd_T59 T a).f3 0))
theorem rdk_at {ks : List Int} {j : Nat} {x : Int} (h : ks[j]? = some x) : rd ks (j : Int) = x := by
 unfold rd
 rw [Int.toNat_natCast, List.getD_eq_getElem?_getD, h]; rfl
theorem impl_go (T : List (S59)) (s : ByteArray) : ∀ (d i at_ : Nat), Inv T i at_ → impl_WalkLegs.go T s d i at_ = some (walkS T s d i at_)
 | 0, _, _, _ => rfl
 | d + 1, i, at_, h => by
  obtain ⟨h1, h2, h3⟩ := inv_step h
  unfold impl_WalkLegs.go walkS
  rw [if_pos ⟨⟨by omega, by omega⟩, fun k hk => by obtain ⟨p, rfl, hp, _⟩ := h3 k hk; omega⟩]
  rcases last_first (fun y => (rd_T59 T y).f0) (impl_WalkLegs_1.ltr s i) _ 0 h2 with ⟨e, _⟩ | ⟨j, x, e, hx, _⟩
  ·rw [e, if_pos (by omega), if_pos (by omega)]
  ·rw [Nat.zero_add] at e
   rw [e, if_neg (by omega), if_neg (by omega), rdk_at hx]
   obtain ⟨p, rfl, _, hi⟩ := h3 x (List.mem_of_getElem? hx)
   exact impl_go T s d (i + 1) p hi
theorem inv_all {l : List (S48)} (h : goodEs l = true) : Inv (allLegs l) 0 0 := ⟨l, goodEs_leg h, fun j hj => by rw [Nat.zero_add, ← segL_all]⟩
theorem kids_of (F : List (S48) → Nat → List (S59)) (T : List (S59)) : ∀ (gs : List (List (S48))) (pos : Nat), (∀ j, j < (bodyF F gs pos).length → T[pos + j]? = (bodyF F gs pos)[j]?) → ∀ g ∈ gs, ∃ p : Nat, (p : Int) ∈ kidsF F gs pos ∧ ∀ j, j < (F g p).length → T[p + j]? = (F g p)[j]?
 | [], pos, _, g, hg => by cases hg
 | g0 :: gs, pos, h, g, hg => by
  have e : (bodyF F (g0 :: gs) pos).length = (F g0 pos).length + (bodyF F gs (pos + (F g0 pos).length)).length := by simp [bodyF]
  rcases List.mem_cons.1 hg with rfl | hg
  ·refine ⟨pos, by simp [kidsF], fun j hj => ?_⟩
   rw [h j (by omega)]
   unfold bodyF
   rw [List.getElem?_append_left hj]
  ·obtain ⟨p, h1, h2⟩ := kids_of F T gs (pos + (F g0 pos).length) (fun j hj => by
    have := h ((F g0 pos).length + j) (by omega)
    unfold bodyF at this
    rw [List.getElem?_append_right (by omega), Nat.add_sub_cancel_left, ← Nat.add_assoc] at this
    exact this) g hg
   exact ⟨p, by simp [kidsF, h1], h2⟩
theorem map_inj_mem (φ : Int → Int) : ∀ (ks : List Int), (ks.map φ).Pairwise (· ≠ ·) → ∀ x ∈ ks, ∀ y ∈ ks, φ x = φ y → x = y
 | [], _, x, hx, _, _, _ => by cases hx
 | k :: ks, h, x, hx, y, hy, e => by
  rw [List.map_cons] at h
  have h' := List.pairwise_cons.1 h
  rcases List.mem_cons.1 hx with hx1 | hx1
  ·rcases List.mem_cons.1 hy with hy1 | hy1
   ·rw [hx1, hy1]
   ·exact absurd (by rw [← e, hx1]) (h'.1 _ (List.mem_map_of_mem hy1))
  ·rcases List.mem_cons.1 hy with hy1 | hy1
   ·exact absurd (by rw [e, hy1]) (h'.1 _ (List.mem_map_of_mem hx1))
   ·exact map_inj_mem φ ks h'.2 x hx1 y hy1 e
theorem word_step {T : List (S59)} {i at_ : Nat} {l : List (S48)} (hg : LegGood wdE i l) (h : SegAt T (13 - i) l i at_) {y : S48} (hy : y ∈ l) (hl : i < y.f0.size) :
  ∃ (j : Nat) (p : Nat) (g : List (S48)), idxF (fun k => decide ((rd_T59 T k).f0 = impl_WalkLegs_1.ltr y.f0 i)) (rd_T59 T at_).f3 0 = (j : Int) ∧ rd (rd_T59 T at_).f3 (j : Int) = (p : Int) ∧ y ∈ g ∧ LegGood wdE (i + 1) g ∧ SegAt T (13 - (i + 1)) g (i + 1) p := by
 have hn := hg.n12
 obtain ⟨k, hk⟩ : ∃ k, 13 - i = k + 1 := ⟨12 - i, by omega⟩
 have hk' : 13 - (i + 1) = k := by omega
 rw [hk] at h
 obtain ⟨h1, h2, h3⟩ := seg_walk (by omega) hg h
 have hs := h
 unfold SegAt at hs
 rw [segL_succ] at hs
 have h0 := hs 0 (by simp)
 rw [List.getElem?_cons_zero, Nat.add_zero] at h0
 have hrd : (rd_T59 T (at_ : Int)).f3 = kidsF (fun g a => segL k g (i + 1) a) (groups wdE i (legRest wdE i l)) (at_ + 1) := by
  unfold rd_T59
  rw [Int.toNat_natCast, List.getD_eq_getElem?_getD, h0]
  rfl
 have hb : ∀ j, j < (bodyF (fun g a => segL k g (i + 1) a) (groups wdE i (legRest wdE i l)) (at_ + 1)).length → T[at_ + 1 + j]? = (bodyF (fun g a => segL k g (i + 1) a) (groups wdE i (legRest wdE i l)) (at_ + 1))[j]? := by
  intro j hj
  have := hs (j + 1) (by simp; omega)
  rw [List.getElem?_cons_succ] at this
  rw [← this]
  congr 1
  omega
 have hrest : y ∈ legRest wdE i l := by
  cases l with
  | nil => cases hy
  | cons x l =>
   show y ∈ (if (wdE x).length = i then l else x :: l)
   split
   ·rename_i hx
    rcases List.mem_cons.1 hy with rfl | hy
    ·have : (wdE y).length = y.f0.size := Go.Proofs.Ytkoackkimdanjaa.Ext.size_data _
     omega
    ·exact hy
   ·exact hy
 have hflat := groups_flat (wd := wdE) i (legRest wdE i l)
 rw [← hflat] at hrest
 obtain ⟨g, hgm, hyg⟩ := List.mem_flatten.1 hrest
 have hgg := hg.group hgm
 obtain ⟨p, hp, hseg⟩ := kids_of _ T _ _ hb g hgm
 rw [← hrd] at hp
 have hsegp : SegAt T k g (i + 1) p := hseg
 have hne := segL_ne (k := k) (n := i + 1) (at_ := p) (by have := hgg.n12; omega) hgg
 have hlet : (rd_T59 T (p : Int)).f0 = impl_WalkLegs_1.ltr y.f0 i := by
  have hp0 := hsegp 0 (List.length_pos_iff.2 hne)
  rw [Nat.add_zero] at hp0
  obtain ⟨k2, rfl⟩ : ∃ k2, k = k2 + 1 := ⟨k - 1, by have := hgg.n12; omega⟩
  rw [segL_succ, List.getElem?_cons_zero] at hp0
  unfold rd_T59
  rw [Int.toNat_natCast, List.getD_eq_getElem?_getD, hp0]
  show Go.Proofs.Ytkoackkimdanjaa.Ext.legLetter wdE (i + 1) g = _
  rw [hgg.letter (by omega) hyg]
  show ((((wdE y).getD (i + 1 - 1) 0).toNat : Int) - 97) % 256 = (bt y.f0 i - 97) % 256
  rw [Go.Proofs.Ytkoackkimdanjaa.Ext.bt_data]
  rfl
 rcases last_first (fun y => (rd_T59 T y).f0) (impl_WalkLegs_1.ltr y.f0 i) _ 0 h2 with ⟨e, hm⟩ | ⟨j, x, e, hx, hm⟩
 ·exfalso
  obtain ⟨q, hq1, hq2⟩ := List.mem_iff_getElem.1 hp
  have hf := Go.Proofs.Ytkoackkimdanjaa.Ext.idxF_none _ _ 0 e
  rw [List.filter_eq_self] at hf
  have := hf _ hp
  simp [hlet] at this
 ·rw [Nat.zero_add] at e
  have hxm := List.mem_of_getElem? hx
  have hxl : (rd_T59 T x).f0 = impl_WalkLegs_1.ltr y.f0 i := by
   obtain ⟨k3, x3, q1, q2, q3, q4, _⟩ := Go.Proofs.Ytkoackkimdanjaa.Ext.idxF_some _ _ 0 (show idxF (fun k => decide ((rd_T59 T k).f0 = impl_WalkLegs_1.ltr y.f0 i)) (rd_T59 T at_).f3 0 ≠ -1 by rw [e]; omega)
   rw [e] at q2
   have : k3 = j := by omega
   subst this
   rw [hx] at q3
   injection q3 with q3
   rw [q3]
   simpa using q4
  have hxp : x = (p : Int) := map_inj_mem _ _ h2 x hxm p hp (by rw [hxl, hlet])
  exact ⟨j, p, g, e, by rw [rdk_at hx, hxp], hyg, hgg, by rw [hk']; exact hsegp⟩
theorem walk_word {T : List (S59)} (y : S48) : ∀ (d i at_ : Nat) (l : List (S48)), i + d = y.f0.size → LegGood wdE i l → SegAt T (13 - i) l i at_ → y ∈ l → ∃ p : Nat, walkS T y.f0 d i at_ = ((p : Int), true) ∧ p < T.length ∧ (rd_T59 T p).f1 = y.f1
 | 0, i, at_, l, hi, hg, h, hy => by
  have hn := hg.n12
  obtain ⟨k, hk⟩ : ∃ k, 13 - i = k + 1 := ⟨12 - i, by omega⟩
  rw [hk] at h
  unfold SegAt at h
  rw [segL_succ] at h
  have h0 := h 0 (by simp)
  rw [List.getElem?_cons_zero, Nat.add_zero] at h0
  refine ⟨at_, rfl, (List.getElem?_eq_some_iff.1 h0).1, ?_⟩
  unfold rd_T59
  rw [Int.toNat_natCast, List.getD_eq_getElem?_getD, h0]
  show Go.Proofs.Ytkoackkimdanjaa.Ext.legWeight wdE (fun x => x.f1) i l = y.f1
  obtain ⟨q, hq1, hq2⟩ := List.mem_iff_getElem.1 hy
  have hsz : (wdE y).length = y.f0.size := Go.Proofs.Ytkoackkimdanjaa.Ext.size_data _
  rw [hg.weight (wt := fun x => x.f1) (i := q) (y := y) (by rw [List.getElem?_eq_getElem hq1, hq2]), if_pos (by omega)]
 | d + 1, i, at_, l, hi, hg, h, hy => by
  obtain ⟨j, p, g, e1, e2, hyg, hgg, hs⟩ := word_step hg h hy (by omega)
  obtain ⟨p2, h1, h2, h3⟩ := walk_word y d (i + 1) p g (by omega) hgg hs hyg
  refine ⟨p2, ?_, h2, h3⟩
  unfold walkS
  rw [e1, if_neg (by omega), e2]
  exact h1
def cmpT (a b : ByteArray) : Int := if Op.bytesLess a.toList b.toList = true then -1 else if Op.bytesLess b.toList a.toList = true then 1 else 0
theorem cmpBytes_eq : ∀ x y : List UInt8, Lib.compareBytes x y = if Op.bytesLess x y = true then -1 else if Op.bytesLess y x = true then 1 else 0
 | [], [] => rfl
 | [], b :: y => rfl
 | a :: x, [] => rfl
 | a :: x, b :: y => by
  have ih := cmpBytes_eq x y
  by_cases h1 : a < b
  ·have h3 : ¬ b < a := UInt8.lt_asymm h1
   simp [Lib.compareBytes, Op.bytesLess, h1, h3]
  ·by_cases h2 : b < a
   ·have h3 : b ≠ a := UInt8.ne_of_lt h2
    simp [Lib.compareBytes, Op.bytesLess, h1, h2, Ne.symm h3]
   ·have h3 : a = b := UInt8.le_antisymm (UInt8.not_lt.1 h2) (UInt8.not_lt.1 h1)
    subst h3
    simp [Lib.compareBytes, Op.bytesLess, ih]
theorem cmpB_eq (a b : ByteArray) : Go.Proofs.Ytkoackkimdanjaa.Ext.cmpB a b = cmpT a b := by
 unfold Go.Proofs.Ytkoackkimdanjaa.Ext.cmpB cmpT
 rw [cmpBytes_eq, toList_data, toList_data]
theorem strings_Compare_eq (a b : ByteArray) : strings_Compare.f a b = some (cmpT a b) := by
 unfold strings_Compare.f bytealg_CompareString.f
 rw [Option.bind_some, cmpB_eq]
theorem bl_total : ∀ x y : List UInt8, Op.bytesLess x y = false → Op.bytesLess y x = false → x = y
 | [], [], _, _ => rfl
 | [], b :: y, h, _ => by simp [Op.bytesLess] at h
 | a :: x, [], _, h => by simp [Op.bytesLess] at h
 | a :: x, b :: y, h, k => by
  simp only [Op.bytesLess, Bool.or_eq_false_iff, decide_eq_false_iff_not, Bool.and_eq_false_iff] at h k
  have e : a = b := UInt8.le_antisymm (UInt8.not_lt.1 k.1) (UInt8.not_lt.1 h.1)
  subst e
  have h2 : Op.bytesLess x y = false := h.2.elim (fun h => by simp at h) id
  have k2 : Op.bytesLess y x = false := k.2.elim (fun h => by simp at h) id
  rw [bl_total x y h2 k2]
theorem bl_irrefl : ∀ x : List UInt8, Op.bytesLess x x = false
 | [] => rfl
 | a :: x => by simp [Op.bytesLess, bl_irrefl x]
theorem cmpT_zero (a b : ByteArray) : cmpT a b = 0 ↔ a = b := by
 unfold cmpT
 by_cases h1 : Op.bytesLess a.toList b.toList = true
 ·simp only [h1, if_true]
  constructor
  ·intro h; cases h
  ·intro h; subst h; rw [bl_irrefl] at h1; cases h1
 ·by_cases h2 : Op.bytesLess b.toList a.toList = true
  ·simp only [h1, h2, if_true, if_false]
   constructor
   ·intro h; cases h
   ·intro h; subst h; rw [bl_irrefl] at h2; cases h2
  ·simp only [h1, h2, if_false, true_iff, Bool.false_eq_true]
   exact toList_inj.1 (bl_total _ _ (by simpa using h1) (by simpa using h2))
theorem goodEs_all {l : List (S48)} (h : goodEs l = true) : l.length ≤ 20 ∧ (l.Pairwise fun p q => Op.bytesLess p.f0.toList q.f0.toList = true) ∧ ∀ x ∈ l, x.f0.size ≤ 12 := by
 simp only [goodEs, Bool.and_eq_true, decide_eq_true_eq] at h
 obtain ⟨_, h2, h3⟩ := chainE_all l none h.1
 refine ⟨h.2, h2.imp fun h => ?_, fun x hx => (goodE_size (h3 x hx)).2⟩
 rw [toList_data, toList_data]; exact h
theorem half_eq {i j : Nat} (h : i + j ≤ 4194304) : wrap64 ((IntKind.u64.wrap (wrap64 ((i : Int) + (j : Int)))) / 2) = (((i + j) / 2 : Nat) : Int) := by
 rw [wrap_id (x := (i : Int) + j) (by omega) (by omega)]
 have e : IntKind.u64.wrap ((i : Int) + (j : Int)) = (i : Int) + j := by
  simp [IntKind.wrap, IntKind.bits, IntKind.signed]
  omega
 rw [e, wrap_id (by omega) (by omega)]
 omega
def lw (y : S48) (w : ByteArray) : Bool := Op.bytesLess y.f0.toList w.toList
def tailE (w : ByteArray) : List (S48) → List (S48)
 | [] => []
 | y :: b => if y.f0.toList = w.toList then b else y :: b
theorem cmpT_neg (a b : ByteArray) : (cmpT a b < 0) ↔ Op.bytesLess a.toList b.toList = true := by
 unfold cmpT
 by_cases h1 : Op.bytesLess a.toList b.toList = true
 ·simp [h1]
 ·by_cases h2 : Op.bytesLess b.toList a.toList = true <;> simp [h1, h2]
theorem spec_put_true (l : List (S48)) (hl : l.length ≤ 1000) (x : S48) {R : List (S59) × Bool} : ∀ (rest out : List (S48)) (i : Nat), l.drop i = rest → out.length + rest.length ≤ 2000 → (∀ z ∈ rest, z.f0.toList ≠ x.f0.toList) → Ev (fun k => spec_BuildLegs.f k (out ++ rest)) R →
  Ev (fun k => spec_PutEntry.l0 k out true l l.length i x.f0 x.f1) R
 | [], out, i, hd, hb, hz, hB => by
  have h := drop_nil hd
  rw [List.append_nil] at hB
  exact Ev.step (fun k => spec_PutEntry.l0.eq_2 ..) (ev_if_neg (by omega) (ev_if_pos rfl (ev_bind hB (ev_some rfl))))
 | y :: rest, out, i, hd, hb, hz, hB => by
  obtain ⟨hi, hd', hx⟩ := drop_cons hd
  have hx : rd_T48 l i = y := hx _
  rw [List.length_cons] at hb
  refine Ev.step (fun k => spec_PutEntry.l0.eq_2 ..) (ev_if_pos (by omega) (ev_if_pos (by omega) (ev_if_pos (by omega) (ev_if_pos rfl ?_))))
  rw [hx]
  refine Ev.step (fun k => spec_PutEntry.j1.eq_2 ..) (ev_if_neg (by simp) (ev_if_neg (hz y (by simp)) (ev_if_pos (by omega) ?_)))
  rw [wrap_succ (by omega)]
  exact spec_put_true l hl x rest (out ++ [y]) (i + 1) hd' (by rw [List.length_append, List.length_singleton]; omega) (fun z hz' => hz z (by simp [hz'])) (by rw [List.append_assoc]; exact hB)
theorem spec_put_false (l : List (S48)) (hl : l.length ≤ 1000) (x : S48) (b : List (S48)) (hb : ∀ y ∈ b, lw y x.f0 = false) (hs : b.Pairwise fun p q => Op.bytesLess p.f0.toList q.f0.toList = true) {R : List (S59) × Bool} : ∀ (a out : List (S48)) (i : Nat), l.drop i = a ++ b → out.length + (a.length + b.length) ≤ 1000 → (∀ y ∈ a, lw y x.f0 = true) → Ev (fun k => spec_BuildLegs.f k (out ++ (a ++ x :: tailE x.f0 b))) R →
  Ev (fun k => spec_PutEntry.l0 k out false l l.length i x.f0 x.f1) R
 | [], out, i, hd, hn, ha, hB => by
  rw [List.nil_append] at hd
  cases b with
  | nil =>
   have h := drop_nil hd
   exact Ev.step (fun k => spec_PutEntry.l0.eq_2 ..) (ev_if_neg (by omega) (ev_if_neg (by simp) (ev_if_pos (by simp at hn; omega) (ev_bind hB (ev_some rfl)))))
  | cons y b =>
   obtain ⟨hi, hd', hx⟩ := drop_cons hd
   have hx : rd_T48 l i = y := hx _
   have hy := hb y (by simp)
   have hs' := List.pairwise_cons.1 hs
   rw [List.length_cons] at hn
   refine Ev.step (fun k => spec_PutEntry.l0.eq_2 ..) (ev_if_pos (by omega) (ev_if_pos (by omega) (ev_if_pos (by omega) (ev_if_neg (by simp) ?_))))
   rw [hx, show Op.bytesLess y.f0.toList x.f0.toList = false from hy]
   refine Ev.step (fun k => spec_PutEntry.j1.eq_2 ..) (ev_if_pos rfl (ev_if_pos (by simp at hn; omega) ?_))
   simp only [Option.bind_some]
   have hne : ∀ z ∈ b, z.f0.toList ≠ x.f0.toList := fun z hz e => by
    have h1 := hs'.1 z hz
    rw [e] at h1
    rw [show Op.bytesLess y.f0.toList x.f0.toList = false from hy] at h1
    cases h1
   rw [wrap_succ (by omega)]
   by_cases he : y.f0.toList = x.f0.toList
   ·refine ev_if_pos he ?_
    refine spec_put_true l hl x b (out ++ [x]) (i + 1) hd' (by rw [List.length_append, List.length_singleton]; simp at hn; omega) hne ?_
    rw [List.append_assoc]
    have : tailE x.f0 (y :: b) = b := by show (if y.f0.toList = x.f0.toList then b else y :: b) = b; rw [if_pos he]
    rw [this] at hB
    exact hB
   ·refine ev_if_neg he (ev_if_pos (by rw [List.length_append, List.length_singleton]; simp at hn; omega) ?_)
    refine spec_put_true l hl x b (out ++ [x] ++ [y]) (i + 1) hd' (by rw [List.length_append, List.length_append, List.length_singleton, List.length_singleton]; simp at hn; omega) hne ?_
    have : tailE x.f0 (y :: b) = y :: b := by show (if y.f0.toList = x.f0.toList then b else y :: b) = y :: b; rw [if_neg he]
    rw [this] at hB
    rw [List.append_assoc, List.append_assoc]
    exact hB
 | y :: a, out, i, hd, hn, ha, hB => by
  obtain ⟨hi, hd', hx⟩ := drop_cons hd
  have hx : rd_T48 l i = y := hx _
  have hy := ha y (by simp)
  rw [List.length_cons] at hn
  refine Ev.step (fun k => spec_PutEntry.l0.eq_2 ..) (ev_if_pos (by omega) (ev_if_pos (by omega) (ev_if_pos (by omega) (ev_if_neg (by simp) ?_))))
  rw [hx, show Op.bytesLess y.f0.toList x.f0.toList = true from hy]
  have hne : y.f0.toList ≠ x.f0.toList := fun e => by
   have h : Op.bytesLess y.f0.toList x.f0.toList = true := hy
   rw [e, bl_irrefl] at h
   cases h
  refine Ev.step (fun k => spec_PutEntry.j1.eq_2 ..) (ev_if_neg (by simp) (ev_if_neg hne (ev_if_pos (by omega) ?_)))
  rw [wrap_succ (by omega)]
  exact spec_put_false l hl x b hb hs a (out ++ [y]) (i + 1) hd' (by rw [List.length_append, List.length_singleton]; omega) (fun z hz => ha z (by simp [hz])) (by rw [List.append_assoc]; exact hB)
theorem part_at (w : ByteArray) : ∀ l : List (S48), (l.Pairwise fun p q => Op.bytesLess p.f0.toList q.f0.toList = true) → ∃ a b, l = a ++ b ∧ (∀ y ∈ a, lw y w = true) ∧ (∀ y ∈ b, lw y w = false) ∧ (b.Pairwise fun p q => Op.bytesLess p.f0.toList q.f0.toList = true)
 | [], _ => ⟨[], [], rfl, by simp, by simp, List.Pairwise.nil⟩
 | y :: l, hs => by
  have hs' := List.pairwise_cons.1 hs
  cases h : lw y w with
  | true =>
   obtain ⟨a, b, e, h1, h2, h3⟩ := part_at w l hs'.2
   refine ⟨y :: a, b, by rw [e]; rfl, ?_, h2, h3⟩
   intro z hz
   rcases List.mem_cons.1 hz with rfl | hz
   ·exact h
   ·exact h1 z hz
  | false =>
   refine ⟨[], y :: l, rfl, by simp, ?_, hs⟩
   intro z hz
   rcases List.mem_cons.1 hz with rfl | hz
   ·exact h
   ·cases hc : lw z w with
    | false => rfl
    | true =>
     have := bl_trans3 _ _ _ (hs'.1 z hz) hc
     rw [show Op.bytesLess y.f0.toList w.toList = false from h] at this
     cases this
theorem rdE_get (l : List (S48)) (i : Nat) (h : i < l.length) : rd_T48 l (i : Int) = l[i] := by
 unfold rd_T48
 rw [Int.toNat_natCast, List.getD_eq_getElem?_getD, List.getElem?_eq_getElem h]; rfl
theorem impl_PutEntry_1_eq (a : ByteArray) (v : Int) (w : ByteArray) : impl_PutEntry_1.f a v w = some (cmpT a w) := by
 unfold impl_PutEntry_1.f
 rw [strings_Compare_eq, Option.bind_some]
theorem bsE_loop (l : List (S48)) (w : ByteArray) (hl : l.length ≤ 1000) (p : Nat) (hp : p ≤ l.length) (hlt : ∀ (i : Nat) (h : i < l.length), lw l[i] w = decide (i < p)) : ∀ (n i j : Nat), j - i = n → i ≤ p → p ≤ j → j ≤ l.length →
  Ev (fun k => slices_BinarySearchFunc_string__impl_PutEntry_1.l0 k l w l.length i j) ((p : Int), if h : p < l.length then cmpT l[p].f0 w == 0 else false) := by
 intro n
 induction n using Nat.strongRecOn with
 | ind n ih =>
  intro i j hn hi hj hjl
  refine Ev.step (fun k => slices_BinarySearchFunc_string__impl_PutEntry_1.l0.eq_2 ..) ?_
  by_cases hij : i < j
  ·refine ev_if_pos (by omega) ?_
   rw [half_eq (by omega)]
   have hm : (i + j) / 2 < l.length := by omega
   refine ev_if_pos (by omega) (ev_if_pos (by omega) ?_)
   rw [rdE_get l _ hm, impl_PutEntry_1_eq]
   simp only [Option.bind_some]
   have hc := cmpT_neg l[(i + j) / 2].f0 w
   have hl2 := hlt _ hm
   by_cases hmp : (i + j) / 2 < p
   ·rw [decide_eq_true hmp] at hl2
    refine ev_if_pos (hc.2 hl2) ?_
    rw [wrap_succ (by omega)]
    exact ih (j - ((i + j) / 2 + 1)) (by omega) ((i + j) / 2 + 1) j rfl (by omega) hj hjl
   ·rw [decide_eq_false hmp] at hl2
    refine ev_if_neg (fun h => by have := hc.1 h; rw [show Op.bytesLess l[(i + j) / 2].f0.toList w.toList = false from hl2] at this; cases this) ?_
    exact ih ((i + j) / 2 - i) (by omega) i ((i + j) / 2) rfl hi (by omega) (by omega)
  ·have e : i = p := by omega
   subst e
   refine ev_if_neg (by omega) ?_
   by_cases hpl : i < l.length
   ·refine ev_if_pos (by omega) (ev_if_pos (by omega) (ev_if_pos (by omega) ?_))
    rw [rdE_get l _ hpl, impl_PutEntry_1_eq]
    refine ev_some ?_
    rw [dif_pos hpl]
   ·refine ev_if_neg (by omega) (ev_some ?_)
    rw [dif_neg hpl]
def putS (t : List (S59)) (a b : List (S48)) (x : S48) : List (S59) × Bool := buildR (a ++ x :: tailE x.f0 b)
theorem tailE_sub (w : ByteArray) (b : List (S48)) : (tailE w b).length ≤ b.length ∧ ∀ x ∈ tailE w b, x ∈ b := by
 cases b with
 | nil => exact ⟨Nat.le_refl _, fun _ h => h⟩
 | cons y b =>
  have e : tailE w (y :: b) = if y.f0.toList = w.toList then b else y :: b := rfl
  by_cases h : y.f0.toList = w.toList
  ·rw [e, if_pos h]; exact ⟨by simp, fun x h => by simp [h]⟩
  ·rw [e, if_neg h]; exact ⟨Nat.le_refl _, fun _ h => h⟩
theorem put_good {a b : List (S48)} (h1 : goodEs (a ++ b) = true) (h3 : (allLegs (a ++ b)).length ≤ 120) (hk : ∀ x ∈ allLegs (a ++ b), x.f3.length ≤ 1048576) (x : S48) (hx : x.f0.size ≤ 1048576) (ha : ∀ y ∈ a, lw y x.f0 = true) (hb : ∀ y ∈ b, lw y x.f0 = false) (hsb : b.Pairwise fun p q => Op.bytesLess p.f0.toList q.f0.toList = true) :
  Ev (fun k => spec_PutEntry.f k (allLegs (a ++ b)) x.f0 x.f1) (buildR (a ++ x :: tailE x.f0 b)) ∧ Ev (fun k => impl_PutEntry.f k (allLegs (a ++ b)) x.f0 x.f1) (buildR (a ++ x :: tailE x.f0 b)) := by
 obtain ⟨hl, hs, hz⟩ := goodEs_all h1
 have hab : a.length + b.length ≤ 20 := by rw [← List.length_append]; exact hl
 have hts := tailE_sub x.f0 b
 have hL1 : (a ++ x :: tailE x.f0 b).length ≤ 1048576 := by rw [List.length_append, List.length_cons]; omega
 have hL2 : ∀ y ∈ a ++ x :: tailE x.f0 b, y.f0.size ≤ 1048576 := by
  intro y hy
  rcases List.mem_append.1 hy with hy | hy
  ·exact Nat.le_trans (hz y (by simp [hy])) (by decide)
  ·rcases List.mem_cons.1 hy with rfl | hy
   ·exact hx
   ·exact Nat.le_trans (hz y (by simp [hts.2 y hy])) (by decide)
 refine ⟨?_, ?_⟩
 ·unfold spec_PutEntry.f
  refine ev_bind (spec_l13Of_ev _ hk) ?_
  rw [ofS_good h1 h3]
  refine ev_if_pos rfl ?_
  refine spec_put_false (a ++ b) (by omega) x b hb hsb a [] 0 rfl (by simp only [List.length_nil]; omega) ha ?_
  rw [List.nil_append]
  exact spec_BuildLegs_ev _ hL1 hL2
 ·unfold impl_PutEntry.f
  refine ev_bind (impl_entries_ev _ hk) ?_
  rw [implS_good h1 h3]
  refine ev_if_pos rfl ?_
  have hlt : ∀ (i : Nat) (h : i < (a ++ b).length), lw (a ++ b)[i] x.f0 = decide (i < a.length) := by
   intro i h
   by_cases hi : i < a.length
   ·rw [List.getElem_append_left hi, decide_eq_true hi]
    exact ha _ (List.getElem_mem _)
   ·rw [List.getElem_append_right (by omega), decide_eq_false hi]
    exact hb _ (List.getElem_mem _)
  have hbs := bsE_loop (a ++ b) x.f0 (by omega) a.length (by rw [List.length_append]; omega) hlt _ 0 (a ++ b).length rfl (Nat.zero_le _) (by rw [List.length_append]; omega) (Nat.le_refl _)
  unfold slices_BinarySearchFunc_string__impl_PutEntry_1.f
  refine ev_bind hbs ?_
  have hbuild := impl_build_ev _ hL1 hL2
  have hins : slices_Insert_impl_Entry.f (a ++ b) (a.length : Int) [(⟨x.f0, x.f1⟩ : S48)] = some (a ++ x :: b) := by
   unfold slices_Insert_impl_Entry.f
   rw [if_pos ⟨by omega, by rw [List.length_append]; omega, by omega⟩]
   show some ((a ++ b).take (a.length : Int).toNat ++ [x] ++ (a ++ b).drop (a.length : Int).toNat) = _
   rw [Int.toNat_natCast, List.take_left, List.drop_left, List.append_assoc]
   rfl
  cases b with
  | nil =>
   rw [dif_neg (by simp)]
   refine ev_if_neg (by simp) ?_
   simp only [hins, Option.bind_some]
   exact ev_bind hbuild (ev_some rfl)
  | cons y b =>
   rw [dif_pos (by simp)]
   have hget : (a ++ y :: b)[a.length]'(by simp) = y := by simp
   simp only [hget]
   by_cases he : y.f0.toList = x.f0.toList
   ·have h0 : cmpT y.f0 x.f0 = 0 := (cmpT_zero _ _).2 (toList_inj.1 he)
    have ht : tailE x.f0 (y :: b) = b := by show (if y.f0.toList = x.f0.toList then b else y :: b) = b; rw [if_pos he]
    rw [ht] at hbuild ⊢
    rw [h0]
    refine ev_if_pos rfl (ev_if_pos (by omega) (ev_if_pos (by simp; omega) ?_))
    have hset : (a ++ y :: b).set (a.length : Int).toNat (⟨x.f0, x.f1⟩ : S48) = a ++ x :: b := by
     rw [Int.toNat_natCast, set_at]
    simp only [hset]
    exact ev_bind hbuild (ev_some rfl)
   ·have h0 : ¬ cmpT y.f0 x.f0 = 0 := fun h => he (by rw [(cmpT_zero _ _).1 h])
    have ht : tailE x.f0 (y :: b) = y :: b := by show (if y.f0.toList = x.f0.toList then b else y :: b) = y :: b; rw [if_neg he]
    rw [ht] at hbuild ⊢
    refine ev_if_neg (by simpa using h0) ?_
    simp only [hins, Option.bind_some]
    exact ev_bind hbuild (ev_some rfl)
theorem put_alike (t : List (S59)) (hk : ∀ x ∈ t, x.f3.length ≤ 1048576) (x : S48) (hx : x.f0.size ≤ 1048576) : ∃ R, Ev (fun k => spec_PutEntry.f k t x.f0 x.f1) R ∧ Ev (fun k => impl_PutEntry.f k t x.f0 x.f1) R ∧ R.1.length ≤ 120 ∧ ∀ y ∈ R.1, y.f3.length ≤ 20 := by
 by_cases hok : (ofS t).2 = true
 ·obtain ⟨l, h1, rfl, h3⟩ := ofS_true hok
  obtain ⟨hl, hs, hz⟩ := goodEs_all h1
  obtain ⟨a, b, rfl, ha, hb, hsb⟩ := part_at x.f0 l hs
  obtain ⟨k1, k2⟩ := put_good h1 h3 hk x hx ha hb hsb
  exact ⟨_, k1, k2, buildR_small _⟩
 ·refine ⟨([], false), ?_, ?_, by simp, by simp⟩
  ·unfold spec_PutEntry.f
   refine ev_bind (spec_l13Of_ev _ hk) (ev_if_neg hok (ev_some rfl))
  ·unfold impl_PutEntry.f
   refine ev_bind (impl_entries_ev _ hk) ?_
   rw [legs_alike, if_neg hok]
   exact ev_if_neg (by simp) (ev_some rfl)
theorem implS_small (t : List (S59)) : (implS t).1.length ≤ 20 := by
 rcases implS_cases t with h | ⟨l, h1, rfl, h3⟩
 ·rw [h]; exact Nat.zero_le _
 ·rw [implS_good h1 h3]
  unfold goodEs at h1
  simp only [Bool.and_eq_true, decide_eq_true_eq] at h1
  exact h1.2
def begB (s : ByteArray) : Bool := lettersN s s.size 0 && decide (s.size ≤ 12)
theorem impl_areLetters_ev (s : ByteArray) (hs : s.size ≤ 1048576) : Ev (fun k => impl_areLetters.f k s) (begB s) := impl_letters_ev s hs s.size 0 (by omega)
theorem impl_GoodLegs_ev (t : List (S59)) (hk : ∀ x ∈ t, x.f3.length ≤ 1048576) : Ev (fun k => impl_GoodLegs.f k t) (ofS t).2 := by
 unfold impl_GoodLegs.f
 refine ev_bind (impl_entries_ev t hk) (ev_some ?_)
 rw [legs_alike]
 split
 ·rename_i h; exact h.symm
 ·rename_i h; exact (Bool.eq_false_iff.mpr h).symm
theorem spec_EntriesIn_ev (t : List (S59)) (hk : ∀ x ∈ t, x.f3.length ≤ 1048576) : Ev (fun k => spec_EntriesIn.f k t) (implS t) := by
 unfold spec_EntriesIn.f
 rw [legs_alike]
 refine ev_bind (spec_l13Of_ev t hk) ?_
 exact ev_ite (fun _ => ev_some rfl) (fun _ => ev_some rfl)
theorem impl_EntriesIn_ev (t : List (S59)) (hk : ∀ x ∈ t, x.f3.length ≤ 1048576) : Ev (fun k => impl_EntriesIn.f k t) (implS t) := by
 unfold impl_EntriesIn.f
 exact ev_bind (impl_entries_ev t hk) (ev_some rfl)
theorem drawLegs_ok {code : List Int} (hc : Bytes code) : ∃ r, Ev (fun k => spec_DrawGoodLegs.f k code) r ∧ SmallG r := by
 obtain ⟨r, a, s, e, h, _⟩ := legs_ok hc 0 (n := 0) (at_ := 0) ⟨by omega, by omega⟩ (by omega)
 exact ⟨r, ev_bind e (ev_some rfl), h⟩
theorem legs_buildR (l : List (S48)) : SmallG (buildR l).1 := buildR_small l
theorem small_len {T : List (S59)} (h : SmallG T) : ∀ x ∈ T, x.f3.length ≤ 1048576 := fun x hx => Nat.le_trans (h.2 x hx) (by decide)
theorem sameInts_loop (l : List Int) (hl : l.length ≤ 1048576) : ∀ (rest : List Int) (i : Nat), l.drop i = rest → Ev (fun k => laws_sameInts.l0 k l l l.length i) true
 | [], i, hd => by
  have h := drop_nil hd
  exact Ev.step (fun k => laws_sameInts.l0.eq_2 ..) (ev_if_neg (by omega) (ev_some rfl))
 | s :: rest, i, hd => by
  obtain ⟨hi, hd', hx⟩ := drop_cons hd
  refine Ev.step (fun k => laws_sameInts.l0.eq_2 ..) (ev_if_pos (by omega) (ev_if_pos (by omega) (ev_if_pos (by omega) (ev_if_pos (by omega) (ev_if_pos rfl ?_)))))
  rw [wrap_succ (by omega)]
  exact sameInts_loop l hl rest (i + 1) hd'
theorem sameInts_ev (l : List Int) (hl : l.length ≤ 1048576) : Ev (fun k => laws_sameInts.f k l l) true := by
 unfold laws_sameInts.f
 exact ev_if_pos rfl (sameInts_loop l hl l 0 rfl)
theorem sameLegsL_loop (l : List (S59)) (hl : SmallG l) : ∀ (rest : List (S59)) (i : Nat), l.drop i = rest → Ev (fun k => laws_sameLegs.l0 k l l l.length i) true
 | [], i, hd => by
  have h := drop_nil hd
  exact Ev.step (fun k => laws_sameLegs.l0.eq_2 ..) (ev_if_neg (by omega) (ev_some rfl))
 | s :: rest, i, hd => by
  obtain ⟨hi, hd', hx⟩ := drop_cons hd
  have hx : rd_T59 l i = s := hx _
  have hs : s ∈ l := List.mem_of_mem_drop (by rw [hd]; exact List.mem_cons_self)
  have h120 := hl.1
  refine Ev.step (fun k => laws_sameLegs.l0.eq_2 ..) (ev_if_pos (by omega) (ev_if_pos (by omega) (ev_if_pos (by omega) (ev_if_pos (by omega) ?_))))
  rw [hx]
  refine ev_if_pos rfl (ev_if_pos rfl (ev_if_pos rfl (ev_bind (sameInts_ev s.f3 (small_len hl s hs)) (ev_if_pos rfl ?_))))
  rw [wrap_succ (by omega)]
  exact sameLegsL_loop l hl rest (i + 1) hd'
theorem sameLegsL_ev (l : List (S59)) (hl : SmallG l) : Ev (fun k => laws_sameLegs.f k l l) true := by
 unfold laws_sameLegs.f
 exact ev_if_pos rfl (sameLegsL_loop l hl l 0 rfl)
theorem sameE_loop (l : List (S48)) (hl : l.length ≤ 1000) : ∀ (rest : List (S48)) (i : Nat), l.drop i = rest → Ev (fun k => laws_sameEntries.l0 k l l l.length i) true
 | [], i, hd => by
  have h := drop_nil hd
  exact Ev.step (fun k => laws_sameEntries.l0.eq_2 ..) (ev_if_neg (by omega) (ev_some rfl))
 | s :: rest, i, hd => by
  obtain ⟨hi, hd', hx⟩ := drop_cons hd
  refine Ev.step (fun k => laws_sameEntries.l0.eq_2 ..) (ev_if_pos (by omega) (ev_if_pos (by omega) (ev_if_pos (by omega) (ev_if_pos (by omega) (ev_if_neg (by simp) ?_)))))
  rw [wrap_succ (by omega)]
  exact sameE_loop l hl rest (i + 1) hd'
theorem sameE_ev (l : List (S48)) (hl : l.length ≤ 1000) : Ev (fun k => laws_sameEntries.f k l l) true := by
 unfold laws_sameEntries.f
 exact ev_if_pos rfl (sameE_loop l hl l 0 rfl)
def anyE (y : S48) (l : List (S48)) : Bool := l.any fun z => (y.f0.toList == z.f0.toList) && (y.f1 == z.f1)
theorem anyE_mem {y : S48} {l : List (S48)} (h : y ∈ l) : anyE y l = true := by
 unfold anyE
 rw [List.any_eq_true]
 exact ⟨y, h, by simp⟩
theorem legs_l1 (P : List (S59)) (b a : List (S48)) (hb : b.length ≤ 100) (i : Nat) (hi : i < 1000) (w : ByteArray) (v : Int) (y : S48) (hok : anyE y b = true ∨ y.f0.toList = w.toList) (h : Ev (fun k => laws_FnLegs.l0 k P b a a.length ((i + 1 : Nat) : Int) w v) true) : ∀ (rest : List (S48)) (j : Nat) (f : Bool), b.drop j = rest → (f = true ∨ anyE y rest = anyE y b) →
  Ev (fun k => laws_FnLegs.l1 k P b f a a.length i b b.length j w v y.f0 y.f1) true
 | [], j, f, hd, hf => by
  have h0 := drop_nil hd
  refine Ev.step (fun k => laws_FnLegs.l1.eq_2 ..) (ev_if_neg (by omega) ?_)
  rw [wrap_succ (by omega)]
  cases f with
  | true => exact ev_if_pos rfl h
  | false =>
   refine ev_if_neg (by simp) ?_
   rcases hf with hf | hf
   ·cases hf
   ·rcases hok with hok | hok
    ·rw [← hf] at hok
     simp [anyE] at hok
    ·exact ev_if_pos hok h
 | z :: rest, j, f, hd, hf => by
  obtain ⟨hj, hd', hx⟩ := drop_cons hd
  have hx : rd_T48 b j = z := hx _
  refine Ev.step (fun k => laws_FnLegs.l1.eq_2 ..) (ev_if_pos (by omega) (ev_if_pos (by omega) (ev_if_pos (by omega) ?_)))
  rw [wrap_succ (by omega)]
  cases f with
  | true => exact ev_if_pos rfl (legs_l1 P b a hb i hi w v y hok h rest (j + 1) true hd' (.inl rfl))
  | false =>
   refine ev_if_neg (by simp) ?_
   rw [hx]
   refine legs_l1 P b a hb i hi w v y hok h rest (j + 1) _ hd' ?_
   rcases hf with hf | hf
   ·cases hf
   ·have e : anyE y (z :: rest) = (((y.f0.toList == z.f0.toList) && (y.f1 == z.f1)) || anyE y rest) := rfl
    cases hc : ((y.f0.toList == z.f0.toList) && (y.f1 == z.f1)) with
    | true => exact .inl rfl
    | false => rw [e, hc, Bool.false_or] at hf; exact .inr hf
theorem legs_l0 (P : List (S59)) (b a : List (S48)) (hb : b.length ≤ 100) (ha : a.length ≤ 100) (w : ByteArray) (v : Int) (hok : ∀ y ∈ a, anyE y b = true ∨ y.f0.toList = w.toList) (hend : Ev (fun k => (impl_WalkLegs.f k P w).bind fun bt => (if bt.2 = true then (if 0 ≤ bt.1 then (if bt.1 < (P.length : Int) then (some (((rd_T59 P bt.1).f1) == v)) else (none)) else (none)) else (some false))) true) : ∀ (rest : List (S48)) (i : Nat), a.drop i = rest →
  Ev (fun k => laws_FnLegs.l0 k P b a a.length i w v) true
 | [], i, hd => by
  have h0 := drop_nil hd
  exact Ev.step (fun k => laws_FnLegs.l0.eq_2 ..) (ev_if_neg (by omega) hend)
 | y :: rest, i, hd => by
  obtain ⟨hi, hd', hx⟩ := drop_cons hd
  have hx : rd_T48 a i = y := hx _
  have hy : y ∈ a := List.mem_of_mem_drop (by rw [hd]; exact List.mem_cons_self)
  refine Ev.step (fun k => laws_FnLegs.l0.eq_2 ..) (ev_if_pos (by omega) (ev_if_pos (by omega) (ev_if_pos (by omega) ?_)))
  rw [hx]
  exact legs_l1 P b a hb i (by omega) w v y (hok y hy) (legs_l0 P b a hb ha w v hok hend rest (i + 1) hd') b 0 false rfl (.inr rfl)
theorem put_true (t : List (S59)) (ht : SmallG t) (x : S48) (hx : x.f0.size ≤ 1048576) : ∃ R, Ev (fun k => spec_PutEntry.f k t x.f0 x.f1) R ∧ Ev (fun k => impl_PutEntry.f k t x.f0 x.f1) R ∧ SmallG R.1 ∧ (R.2 = true → ∃ l0 l1, implS t = (l0, true) ∧ l0.length ≤ 20 ∧ goodEs l1 = true ∧ R.1 = allLegs l1 ∧ (allLegs l1).length ≤ 120 ∧ x ∈ l1 ∧ ∀ y ∈ l0, y ∈ l1 ∨ y.f0.toList = x.f0.toList) := by
 have hk := small_len ht
 by_cases hok : (ofS t).2 = true
 ·obtain ⟨l, h1, rfl, h3⟩ := ofS_true hok
  obtain ⟨hl, hs, hz⟩ := goodEs_all h1
  obtain ⟨a, b, rfl, ha, hb, hsb⟩ := part_at x.f0 l hs
  obtain ⟨k1, k2⟩ := put_good h1 h3 hk x hx ha hb hsb
  refine ⟨_, k1, k2, buildR_small _, fun hR => ?_⟩
  unfold buildR at hR ⊢
  split at hR
  ·rename_i hg
   rw [if_pos hg]
   split at hR
   ·cases hR
   ·rename_i hlen
    rw [if_neg hlen]
    refine ⟨a ++ b, a ++ x :: tailE x.f0 b, implS_good h1 h3, hl, hg, rfl, by omega, by simp, fun y hy => ?_⟩
    rcases List.mem_append.1 hy with hy | hy
    ·exact .inl (by simp [hy])
    ·cases b with
     | nil => cases hy
     | cons z b =>
      by_cases he : z.f0.toList = x.f0.toList
      ·have ht : tailE x.f0 (z :: b) = b := by show (if z.f0.toList = x.f0.toList then b else z :: b) = b; rw [if_pos he]
       rw [ht]
       rcases List.mem_cons.1 hy with rfl | hy
       ·exact .inr he
       ·exact .inl (by simp [hy])
      ·have ht : tailE x.f0 (z :: b) = z :: b := by show (if z.f0.toList = x.f0.toList then b else z :: b) = z :: b; rw [if_neg he]
       rw [ht]
       exact .inl (List.mem_append.2 (.inr (List.mem_cons_of_mem _ hy)))
  ·cases hR
 ·obtain ⟨R, k1, k2, q1, q2⟩ := put_alike t hk x hx
  refine ⟨R, k1, k2, ⟨q1, q2⟩, fun hR => ?_⟩
  exfalso
  have k1' : Ev (fun k => spec_PutEntry.f k t x.f0 x.f1) ([], false) := by
   unfold spec_PutEntry.f
   exact ev_bind (spec_l13Of_ev _ hk) (ev_if_neg hok (ev_some rfl))
  have e := ev_unique k1 k1'
  rw [e] at hR
  cases hR
theorem drawBuild_ok {code : List Int} (hc : Bytes code) : ∃ l, Ev (fun k => spec_DrawBuildLegs.f k code) l ∧ l.length ≤ 20 ∧ SmallE l := by
 obtain ⟨r, a, s, e, h1, h2, _⟩ := entries_ok hc 0 (n := 0) (at_ := 0) ⟨by omega, by omega⟩ (by omega)
 refine ⟨r, ?_, h1, h2⟩
 unfold spec_DrawBuildLegs.f spec_DrawGoodEntries.f
 exact ev_bind (ev_bind e (ev_some rfl)) (ev_some rfl)
theorem drawPut_ok {code : List Int} (hc : Bytes code) : ∃ T w v, Ev (fun k => spec_DrawPutEntry.f k code) (T, w, v) ∧ SmallG T ∧ w.size ≤ 12 := by
 obtain ⟨T, a, s, e, hT, h2⟩ := legs_ok hc 0 (n := 0) (at_ := 0) ⟨by omega, by omega⟩ (by omega)
 obtain ⟨x, a2, s2, e2, hx, h3⟩ := near_ok hc s h2 (by omega)
 obtain ⟨w, a3, s3, e3, hw, h4⟩ := of_ok hc s2 ([x, (⟨#[122, 101, 98, 114, 97]⟩ : ByteArray), (⟨#[]⟩ : ByteArray)] : List ByteArray) h3 (by omega) (by simp)
 obtain ⟨v, a4, s4, e4, _, _⟩ := among_ok hc s3 ([0, 1, 7, 1000] : List Int) h4 (by omega) (by simp)
 refine ⟨T, w, v, ?_, hT, ?_⟩
 ·unfold spec_DrawPutEntry.f
  refine ev_bind e ?_
  simp only [e2, e3, e4, Option.bind_some]
  exact ev_some rfl
 ·simp only [List.mem_cons, List.not_mem_nil, or_false] at hw
  rcases hw with h | h | h
  ·rw [h]; exact hx
  ·rw [h]; decide
  ·rw [h]; decide
theorem legs_j1L {more : List Int} (hm : Bytes more) : Ev (fun k => laws_FnLegs.j1 k more) true := by
 obtain ⟨u, du, hu⟩ := drawLegs_ok hm
 obtain ⟨T, w, v, dp, hT, hw⟩ := drawPut_ok hm
 have du' : Ev (fun k => spec_DrawEntriesIn.f k more) u := by
  unfold spec_DrawEntriesIn.f
  exact ev_bind du (ev_some rfl)
 have hku := small_len hu
 have e1 := impl_EntriesIn_ev u hku
 have e2 := spec_EntriesIn_ev u hku
 have g1 := impl_GoodLegs_ev u hku
 have hg : (ofS u).2 = (implS u).2 := by
  rw [legs_alike]
  split
  ·rename_i h; exact h
  ·rename_i h; simpa using h
 obtain ⟨R, p1, p2, hR, hput⟩ := put_true T hT ⟨w, v⟩ (Nat.le_trans hw (by decide))
 refine Ev.step (fun k => laws_FnLegs.j1.eq_2 ..) (ev_bind du' (ev_bind e1 (ev_bind e2 (ev_bind dp (ev_bind p2 (ev_bind p1 ?_))))))
 refine ev_if_neg (by simp) (ev_bind (sameE_ev _ (Nat.le_trans (implS_small u) (by decide))) (ev_if_pos rfl (ev_bind g1 (ev_if_neg (by rw [hg]; simp) (ev_if_neg (by simp) (ev_bind (sameLegsL_ev R.1 hR) ?_))))))
 refine Ev.step (fun k => laws_FnLegs.j2.eq_2 ..) (ev_if_neg (by simp) ?_)
 by_cases hr : R.2 = true
 ·refine ev_if_pos hr ?_
  obtain ⟨l0, l1, q1, q2, q3, q4, q5, q6, q7⟩ := hput hr
  have a1 := impl_EntriesIn_ev T (small_len hT)
  have a2 := impl_EntriesIn_ev R.1 (small_len hR)
  have gR := impl_GoodLegs_ev R.1 (small_len hR)
  rw [q1] at a1
  rw [q4, implS_good q3 q5] at a2
  rw [q4, ofS_good q3 q5] at gR
  obtain ⟨ha20, _, hz1⟩ := goodEs_all q3
  rw [q4]
  refine ev_bind a1 (ev_bind a2 (ev_if_pos rfl ?_))
  refine Ev.step (fun k => laws_FnLegs.j3.eq_2 ..) (ev_if_neg (by simp) ?_)
  refine legs_l0 (allLegs l1) l1 l0 (by omega) (by omega) w v (fun y hy => ?_) ?_ l0 0 rfl
  ·rcases q7 y hy with h | h
   ·exact .inl (anyE_mem h)
   ·exact .inr h
  ·have hgl := goodEs_leg q3
   have hletters : begB w = true := by
    have hge : goodE ⟨w, v⟩ = true := by
     have hh := q3
     simp only [goodEs, Bool.and_eq_true, decide_eq_true_eq] at hh
     exact (chainE_all l1 none hh.1).2.2 _ q6
    simp only [goodE, isWordB, Bool.and_eq_true, decide_eq_true_eq] at hge
    unfold begB
    rw [hge.1.1, decide_eq_true hge.1.2.2]; rfl
   obtain ⟨p, w1, w2, w3⟩ := walk_word (T := allLegs l1) (⟨w, v⟩ : S48) w.size 0 0 l1 (by show 0 + w.size = w.size; omega) hgl (fun j hj => by rw [Nat.zero_add, ← segL_all]) q6
   have hwk : Ev (fun k => impl_WalkLegs.f k (allLegs l1) w) ((p : Int), true) := by
    unfold impl_WalkLegs.f
    have b2 := impl_areLetters_ev w (Nat.le_trans hw (by decide))
    rw [hletters] at b2
    refine ev_bind gR (ev_if_pos rfl (ev_bind b2 (ev_if_pos rfl (ev_if_pos (Nat.le_trans hw (by decide)) (ev_fun fun k => ?_)))))
    have := impl_go (allLegs l1) w w.size 0 0 (inv_all q3)
    rw [show ((0 : Nat) : Int) = 0 from rfl] at this w1
    rw [this]
    exact congrArg some w1
   refine ev_bind hwk (ev_if_pos rfl (ev_if_pos (by omega) (ev_if_pos (by omega) (ev_some ?_))))
   rw [w3]
   simp
 ·exact ev_if_neg hr (ev_some rfl)
theorem FnLegs : laws_FnLegs.Pure := by
 intro code more _ _ hc _ _ hm
 have hc : Bytes code := fun x hx => wf_u8 (hc x hx)
 have hm : Bytes more := fun x hx => wf_u8 (hm x hx)
 suffices h : Ev (fun k => laws_FnLegs.f k code more) true by
  obtain ⟨K, h⟩ := h
  exact ⟨K, h K (Nat.le_refl _)⟩
 unfold laws_FnLegs.f
 by_cases hbig : (wrap64 ((code.length : Int) + (more.length : Int))) > 1048576
 ·exact ev_if_pos hbig (ev_some rfl)
 refine ev_if_neg hbig ?_
 obtain ⟨l, d, hl, hs⟩ := drawBuild_ok hc
 have hs' : ∀ x ∈ l, x.f0.size ≤ 1048576 := fun x hx => Nat.le_trans (hs x hx) (by decide)
 have k1 := impl_BuildLegs_ev l (by omega) hs'
 have k2 := spec_BuildLegs_ev l (by omega) hs'
 have g1 := impl_GoodEntries_ev l (by omega) hs'
 have g2 := spec_GoodEntries_ev l (by omega) hs'
 refine ev_bind d (ev_bind k1 (ev_bind k2 (ev_if_neg (by simp) (ev_bind (sameLegsL_ev _ (legs_buildR l)) (ev_if_pos rfl (ev_bind g1 (ev_bind g2 ?_)))))))
 rw [bne_self_eq_false]
 refine Ev.step (fun k => laws_FnLegs.j0.eq_2 ..) (ev_if_neg (by simp) ?_)
 by_cases hb : (buildR l).2 = true
 ·refine ev_if_pos hb ?_
  have hsm := legs_buildR l
  have hB : (buildR l).1 = allLegs l ∧ goodEs l = true ∧ (allLegs l).length ≤ 120 := by
   unfold buildR at hb ⊢
   split at hb
   ·rename_i hg
    rw [if_pos hg]
    split at hb
    ·cases hb
    ·rename_i hn
     rw [if_neg hn]
     exact ⟨rfl, hg, by omega⟩
   ·cases hb
  have e1 := impl_EntriesIn_ev (buildR l).1 (small_len hsm)
  have e2 := impl_GoodLegs_ev (buildR l).1 (small_len hsm)
  rw [hB.1, implS_good hB.2.1 hB.2.2] at e1
  rw [hB.1, ofS_good hB.2.1 hB.2.2] at e2
  rw [hB.1]
  exact ev_bind e1 (ev_bind e2 (ev_if_pos rfl (ev_if_pos rfl (ev_bind (sameE_ev l (by omega)) (ev_if_pos rfl (legs_j1L hm))))))
 ·exact ev_if_neg hb (legs_j1L hm)
end Go.Proofs.Ytkoackkimdanjaa.Pure
