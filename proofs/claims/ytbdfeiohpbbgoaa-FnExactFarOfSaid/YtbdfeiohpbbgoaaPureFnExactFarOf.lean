/- The law FnExactFarOf holds at every input; no conditions. -/
import Derived.Test.YtbdfeiohpbbgoaaQFnExactFarOfx5
import Derived.Test.YtbdfeiohpbbgoaaBase
import Derived.OpenShut
namespace Go.Proofs.Ytbdfeiohpbbgoaa.Pure
open Go.RowKit Go.Proofs.Ytbdfeiohpbbgoaa.QFnExactFarOf Go.Proofs.YtbdfeiohpbbgoaaW.PrintWords Go.Proofs.YtbdfeiohpbbgoaaW.PrintLast Go.Proofs.Ytbdfeiohpbbgoaa.Base
set_option linter.unusedSimpArgs false
set_option linter.unusedVariables false

/-! ### words -/
def lettersN (s : ByteArray) : Nat → Nat → Bool
  | 0, _ => true
  | d + 1, i => (decide (97 ≤ bt s i) && decide (bt s i ≤ 122)) && lettersN s d (i + 1)

def isWordB (s : ByteArray) : Bool := lettersN s s.size 0 && (decide (1 ≤ s.size) && decide (s.size ≤ 12))

theorem spec_word_ev (s : ByteArray) (hs : s.size ≤ 1048576) : ∀ (d i : Nat), i + d = s.size → Ev (fun k => spec_l9Word.l0 k s i) (lettersN s d i && (decide (1 ≤ s.size) && decide (s.size ≤ 12)))
  | 0, i, hi => by
    refine Ev.step (fun k => spec_l9Word.l0.eq_2 ..) (ev_if_neg (by omega) (ev_fun fun k => ?_))
    simp only [spec_l1In.f, lettersN]
    by_cases h1 : 1 ≤ s.size
    · have h1' : (s.size : Int) ≥ 1 := by omega
      have h2 : ((s.size : Int) ≤ 12) = (s.size ≤ 12) := by apply propext; omega
      simp [h1, h1', h2]
    · have h1' : ¬ (s.size : Int) ≥ 1 := by omega
      simp [h1, h1']
  | d + 1, i, hi => by
    refine Ev.step (fun k => spec_l9Word.l0.eq_2 ..) (ev_if_pos (by omega) (ev_if_pos (by omega) ?_))
    by_cases h1 : bt s i < 97
    · exact ev_if_pos h1 (ev_some (by simp [lettersN, show ¬ 97 ≤ bt s i by omega]))
    · by_cases h2 : bt s i > 122
      · exact ev_if_neg h1 (ev_if_pos h2 (ev_some (by simp [lettersN, show ¬ bt s i ≤ 122 by omega])))
      · refine ev_if_neg h1 (ev_if_neg h2 ?_)
        rw [wrap_succ (by omega)]
        refine ev_eq (spec_word_ev s hs d (i + 1) (by omega)) ?_
        simp [lettersN, show 97 ≤ bt s i by omega, show bt s i ≤ 122 by omega]

theorem spec_l9Word_ev (s : ByteArray) (hs : s.size ≤ 1048576) : Ev (fun k => spec_l9Word.f k s) (isWordB s) := spec_word_ev s hs s.size 0 (by omega)

theorem impl_letters_ev (s : ByteArray) (hs : s.size ≤ 1048576) : ∀ (d i : Nat), i + d = s.size → Ev (fun k => impl_areLetters.l0 k s s.size i) (lettersN s d i && decide (s.size ≤ 12))
  | 0, i, hi => by
    refine Ev.step (fun k => impl_areLetters.l0.eq_2 ..) (ev_if_neg (by omega) (ev_fun fun k => ?_))
    have h2 : ((s.size : Int) ≤ 12) = (s.size ≤ 12) := by apply propext; omega
    simp [lettersN, h2]
  | d + 1, i, hi => by
    refine Ev.step (fun k => impl_areLetters.l0.eq_2 ..) (ev_if_pos (by omega) (ev_if_pos (by omega) (ev_if_pos (by omega) ?_)))
    unfold impl_isLetter.f
    by_cases h1 : bt s i ≥ 97
    · by_cases h2 : bt s i ≤ 122
      · simp only [h1, h2, if_true, decide_true, Option.bind_some]
        rw [wrap_succ (by omega)]
        refine ev_eq (impl_letters_ev s hs d (i + 1) (by omega)) ?_
        simp [lettersN, show 97 ≤ bt s i by omega, h2]
      · exact ev_fun fun k => by simp [lettersN, h1, h2]
    · exact ev_fun fun k => by simp [lettersN, h1]

theorem impl_isWord_ev (s : ByteArray) (hs : s.size ≤ 1048576) : Ev (fun k => impl_isWord.f k s) (isWordB s) := by
  unfold impl_isWord.f impl_areLetters.f
  by_cases h : s.toList = ([] : List UInt8)
  · have h0 := (toList_nil s).1 h
    exact ev_if_pos h (ev_some (by simp [isWordB, h0]))
  · have h0 : s.size ≠ 0 := fun h' => h ((toList_nil s).2 h')
    refine ev_if_neg h (ev_bind (impl_letters_ev s hs s.size 0 (by omega)) (ev_some ?_))
    simp [isWordB, show 1 ≤ s.size by omega]

/-! ### how far two words are apart -/
def farRow (b : ByteArray) (c : Int) (row : List Int) : Nat → Nat → List Int → List Int
  | 0, _, acc => acc
  | d + 1, k, acc => farRow b c row d (k + 1) (acc ++ [min (min (rd row k + if c = bt b k then 0 else 1) (rd row ((k + 1 : Nat) : Int) + 1)) (rd acc k + 1)])

def farRows (a b : ByteArray) : Nat → Nat → List Int → Int
  | 0, _, row => rd row b.size
  | d + 1, i, row => farRows a b d (i + 1) (farRow b (bt a i) row b.size 0 [((i + 1 : Nat) : Int)])

def upTo : Nat → Nat → List Int
  | 0, _ => []
  | d + 1, i => (i : Int) :: upTo d (i + 1)

theorem upTo_length : ∀ d i, (upTo d i).length = d
  | 0, _ => rfl
  | d + 1, i => by simp [upTo, upTo_length d (i + 1)]
theorem upTo_range : ∀ d i (x : Int), x ∈ upTo d i → 0 ≤ x ∧ x < i + d
  | 0, _, _, h => by simp [upTo] at h
  | d + 1, i, x, h => by
    rcases List.mem_cons.1 h with h | h
    · omega
    · have := upTo_range d (i + 1) x h; omega

def farD (a b : ByteArray) : Int := farRows a b a.size 0 (upTo (b.size + 1) 0)

theorem rd_nat (l : List Int) (k : Nat) (h : k < l.length) : rd l k = l[k] := by
  unfold rd; rw [Int.toNat_natCast, List.getD_eq_getElem?_getD, List.getElem?_eq_getElem h]; rfl
theorem rd_mem (l : List Int) (k : Nat) (h : k < l.length) : rd l k ∈ l := by rw [rd_nat l k h]; exact List.getElem_mem h

theorem farRow_ok (b : ByteArray) (c : Int) (row : List Int) (B : Int) (hr : ∀ x ∈ row, 0 ≤ x ∧ x ≤ B) : ∀ (d k : Nat) (acc : List Int), k + d + 1 = row.length → acc.length = k + 1 → (∀ x ∈ acc, 0 ≤ x ∧ x ≤ B + 1) →
    (farRow b c row d k acc).length = row.length ∧ ∀ x ∈ farRow b c row d k acc, 0 ≤ x ∧ x ≤ B + 1
  | 0, k, acc, h1, h2, h3 => ⟨by show acc.length = _; omega, h3⟩
  | d + 1, k, acc, h1, h2, h3 => by
    refine farRow_ok b c row B hr d (k + 1) _ (by omega) (by simp [h2]) ?_
    intro x hx
    rcases List.mem_append.1 hx with hx | hx
    · exact h3 x hx
    · have q1 := hr _ (rd_mem row k (by omega))
      have q2 := hr _ (rd_mem row (k + 1) (by omega))
      have q3 := h3 _ (rd_mem acc k (by omega))
      simp only [List.mem_singleton] at hx
      subst hx
      split <;> omega

theorem spec_least_eq (a b : Int) : spec_l1Least.f a b = some (min a b) := by
  unfold spec_l1Least.f; split <;> (congr 1; omega)

theorem spec_far2_ev (a b : ByteArray) (ha : a.size ≤ 1000) (hb : b.size ≤ 1000) (row : List Int) (i : Nat) (hi : i < a.size) (B : Int) (hB : B ≤ 100000) (hr : ∀ x ∈ row, 0 ≤ x ∧ x ≤ B) (hrl : row.length = b.size + 1) (r : Int) (K : ∀ row', row'.length = b.size + 1 → (∀ x ∈ row', 0 ≤ x ∧ x ≤ B + 1) → row' = farRow b (bt a i) row b.size 0 [((i + 1 : Nat) : Int)] → Ev (fun k => spec_l12Far.l1 k a b row' ((i + 1 : Nat) : Int)) r) :
    ∀ (d k : Nat) (acc : List Int), k + d = b.size → acc.length = k + 1 → (∀ x ∈ acc, 0 ≤ x ∧ x ≤ B + 1) → farRow b (bt a i) row d k acc = farRow b (bt a i) row b.size 0 [((i + 1 : Nat) : Int)] →
      Ev (fun n => spec_l12Far.l2 n a b row i acc k) r
  | 0, k, acc, hd, hl, hx, he => by
    refine Ev.step (fun k => spec_l12Far.l2.eq_2 ..) (ev_if_neg (by omega) ?_)
    rw [wrap_succ (by omega)]
    exact K acc (by omega) hx (by rw [← he]; rfl)
  | d + 1, k, acc, hd, hl, hx, he => by
    refine Ev.step (fun k => spec_l12Far.l2.eq_2 ..) ?_
    have q1 := hr _ (rd_mem row k (by omega))
    have q2 := hr _ (rd_mem row (k + 1) (by omega))
    have q3 := hx _ (rd_mem acc k (by omega))
    refine ev_if_pos (by omega) (ev_if_pos (by omega) (ev_if_pos (by omega) (ev_if_pos (by omega) (ev_if_pos (by omega) ?_))))
    rw [wrap_succ (by omega)]
    simp only [spec_least_eq, Option.bind_some]
    rw [wrap_id (x := min (rd row ((k + 1 : Nat) : Int)) (rd acc k) + 1) (by omega) (by omega)]
    by_cases hc : bt a i = bt b k
    · refine ev_if_pos hc (ev_if_pos (by omega) (ev_if_pos (by omega) (ev_if_pos (by omega) (ev_if_pos (by omega) ?_))))
      refine spec_far2_ev a b ha hb row i hi B hB hr hrl r K d (k + 1) _ (by omega) (by simp [hl]) ?_ ?_
      · intro x hx'
        rcases List.mem_append.1 hx' with hx' | hx'
        · exact hx x hx'
        · simp only [List.mem_singleton] at hx'; omega
      · rw [← he]
        show _ = farRow b (bt a i) row d (k + 1) _
        rw [if_pos hc]
        congr 3
        omega
    · rw [wrap_id (x := rd row k + 1) (by omega) (by omega)]
      refine ev_if_neg hc (ev_if_pos (by omega) (ev_if_pos (by omega) (ev_if_pos (by omega) (ev_if_pos (by omega) ?_))))
      refine spec_far2_ev a b ha hb row i hi B hB hr hrl r K d (k + 1) _ (by omega) (by simp [hl]) ?_ ?_
      · intro x hx'
        rcases List.mem_append.1 hx' with hx' | hx'
        · exact hx x hx'
        · simp only [List.mem_singleton] at hx'; omega
      · rw [← he]
        show _ = farRow b (bt a i) row d (k + 1) _
        rw [if_neg hc]
        congr 3
        omega

theorem spec_far1_ev (a b : ByteArray) (ha : a.size ≤ 1000) (hb : b.size ≤ 1000) : ∀ (d i : Nat) (row : List Int), i + d = a.size → row.length = b.size + 1 → (∀ x ∈ row, 0 ≤ x ∧ x ≤ 1000 + (i : Int)) →
    Ev (fun n => spec_l12Far.l1 n a b row i) (farRows a b d i row)
  | 0, i, row, hd, hl, hx => by
    refine Ev.step (fun k => spec_l12Far.l1.eq_2 ..) (ev_if_neg (by omega) (ev_if_pos (by omega) (ev_if_pos (by omega) (ev_some rfl))))
  | d + 1, i, row, hd, hl, hx => by
    refine Ev.step (fun k => spec_l12Far.l1.eq_2 ..) (ev_if_pos (by omega) ?_)
    rw [wrap_succ (by omega)]
    refine spec_far2_ev a b ha hb row i (by omega) (1000 + i) (by omega) hx hl _ ?_ b.size 0 _ (by omega) rfl ?_ rfl
    · intro row' h1 h2 h3
      subst h3
      exact spec_far1_ev a b ha hb d (i + 1) _ (by omega) h1 (fun x hx => by have := h2 x hx; omega)
    · intro x hx
      simp only [List.mem_singleton] at hx
      omega

theorem spec_far0_ev (a b : ByteArray) (ha : a.size ≤ 1000) (hb : b.size ≤ 1000) : ∀ (d k : Nat) (acc : List Int), k + d = b.size + 1 → acc.length = k → acc ++ upTo d k = upTo (b.size + 1) 0 →
    Ev (fun n => spec_l12Far.l0 n a b acc k) (farD a b)
  | 0, k, acc, hd, hl, he => by
    refine Ev.step (fun k => spec_l12Far.l0.eq_2 ..) (ev_if_neg (by omega) ?_)
    rw [show upTo 0 k = [] from rfl, List.append_nil] at he
    subst he
    exact spec_far1_ev a b ha hb a.size 0 _ (by omega) (upTo_length _ _) (fun x hx => by have := upTo_range _ _ x hx; omega)
  | d + 1, k, acc, hd, hl, he => by
    refine Ev.step (fun k => spec_l12Far.l0.eq_2 ..) (ev_if_pos (by omega) (ev_if_pos (by omega) ?_))
    rw [wrap_succ (by omega)]
    exact spec_far0_ev a b ha hb d (k + 1) _ (by omega) (by simp [hl]) (by rw [← he]; simp [upTo])

theorem spec_far_ev (a b : ByteArray) (ha : a.size ≤ 1000) (hb : b.size ≤ 1000) : Ev (fun n => spec_l12Far.f n a b) (farD a b) :=
  spec_far0_ev a b ha hb (b.size + 1) 0 [] (by omega) rfl rfl

theorem impl_far2_ev (a b : ByteArray) (ha : a.size ≤ 1000) (hb : b.size ≤ 1000) (row : List Int) (i : Nat) (hi : i < a.size) (B : Int) (hB : B ≤ 100000) (hr : ∀ x ∈ row, 0 ≤ x ∧ x ≤ B) (hrl : row.length = b.size + 1) (r : Int) (K : ∀ row', row'.length = b.size + 1 → (∀ x ∈ row', 0 ≤ x ∧ x ≤ B + 1) → row' = farRow b (bt a i) row b.size 0 [((i + 1 : Nat) : Int)] → Ev (fun k => impl_farOf.l1 k a b row' a.size ((i + 1 : Nat) : Int)) r) :
    ∀ (d k : Nat) (acc : List Int), k + d = b.size → acc.length = k + 1 → (∀ x ∈ acc, 0 ≤ x ∧ x ≤ B + 1) → farRow b (bt a i) row d k acc = farRow b (bt a i) row b.size 0 [((i + 1 : Nat) : Int)] →
      Ev (fun n => impl_farOf.l2 n a b row i acc a.size i b.size k) r
  | 0, k, acc, hd, hl, hx, he => by
    refine Ev.step (fun k => impl_farOf.l2.eq_2 ..) (ev_if_neg (by omega) ?_)
    rw [wrap_succ (by omega)]
    exact K acc (by omega) hx (by rw [← he]; rfl)
  | d + 1, k, acc, hd, hl, hx, he => by
    refine Ev.step (fun k => impl_farOf.l2.eq_2 ..) ?_
    have q1 := hr _ (rd_mem row k (by omega))
    have q2 := hr _ (rd_mem row (k + 1) (by omega))
    have q3 := hx _ (rd_mem acc k (by omega))
    refine ev_if_pos (by omega) (ev_if_pos (by omega) (ev_if_pos (by omega) (ev_if_pos (by omega) (ev_if_pos (by omega) (ev_if_pos (by omega) ?_)))))
    rw [wrap_succ (by omega), wrap_id (x := rd row ((k + 1 : Nat) : Int) + 1) (by omega) (by omega), wrap_id (x := rd acc k + 1) (by omega) (by omega)]
    simp only [mn_min]
    by_cases hc : bt a i = bt b k
    · refine ev_if_pos hc (ev_if_pos (by omega) (ev_if_pos (by omega) (ev_if_pos (by omega) (ev_if_pos (by omega) ?_))))
      refine impl_far2_ev a b ha hb row i hi B hB hr hrl r K d (k + 1) _ (by omega) (by simp [hl]) ?_ ?_
      · intro x hx'
        rcases List.mem_append.1 hx' with hx' | hx'
        · exact hx x hx'
        · simp only [List.mem_singleton] at hx'; omega
      · rw [← he]
        show _ = farRow b (bt a i) row d (k + 1) _
        rw [if_pos hc]
        congr 3
        omega
    · rw [wrap_id (x := rd row k + 1) (by omega) (by omega)]
      refine ev_if_neg hc (ev_if_pos (by omega) (ev_if_pos (by omega) (ev_if_pos (by omega) (ev_if_pos (by omega) ?_))))
      refine impl_far2_ev a b ha hb row i hi B hB hr hrl r K d (k + 1) _ (by omega) (by simp [hl]) ?_ ?_
      · intro x hx'
        rcases List.mem_append.1 hx' with hx' | hx'
        · exact hx x hx'
        · simp only [List.mem_singleton] at hx'; omega
      · rw [← he]
        show _ = farRow b (bt a i) row d (k + 1) _
        rw [if_neg hc]

theorem impl_far1_ev (a b : ByteArray) (ha : a.size ≤ 1000) (hb : b.size ≤ 1000) : ∀ (d i : Nat) (row : List Int), i + d = a.size → row.length = b.size + 1 → (∀ x ∈ row, 0 ≤ x ∧ x ≤ 1000 + (i : Int)) →
    Ev (fun n => impl_farOf.l1 n a b row a.size i) (farRows a b d i row)
  | 0, i, row, hd, hl, hx => by
    refine Ev.step (fun k => impl_farOf.l1.eq_2 ..) (ev_if_neg (by omega) (ev_if_pos (by omega) (ev_if_pos (by omega) (ev_some rfl))))
  | d + 1, i, row, hd, hl, hx => by
    refine Ev.step (fun k => impl_farOf.l1.eq_2 ..) (ev_if_pos (by omega) ?_)
    rw [wrap_succ (by omega)]
    refine impl_far2_ev a b ha hb row i (by omega) (1000 + i) (by omega) hx hl _ ?_ b.size 0 _ (by omega) rfl ?_ rfl
    · intro row' h1 h2 h3
      subst h3
      exact impl_far1_ev a b ha hb d (i + 1) _ (by omega) h1 (fun x hx => by have := h2 x hx; omega)
    · intro x hx
      simp only [List.mem_singleton] at hx
      omega

theorem impl_far0_ev (a b : ByteArray) (ha : a.size ≤ 1000) (hb : b.size ≤ 1000) : ∀ (d k : Nat) (row pre : List Int), k + d = b.size + 1 → pre.length = k → row = pre ++ List.replicate d 0 → pre ++ upTo d k = upTo (b.size + 1) 0 →
    Ev (fun n => impl_farOf.l0 n a b row ((b.size + 1 : Nat) : Int) k) (farD a b)
  | 0, k, row, pre, hd, hl, hr, he => by
    refine Ev.step (fun k => impl_farOf.l0.eq_2 ..) (ev_if_neg (by omega) ?_)
    rw [show upTo 0 k = [] from rfl, List.append_nil] at he
    rw [show List.replicate 0 (0 : Int) = [] from rfl, List.append_nil] at hr
    subst hr
    subst he
    exact impl_far1_ev a b ha hb a.size 0 _ (by omega) (upTo_length _ _) (fun x hx => by have := upTo_range _ _ x hx; omega)
  | d + 1, k, row, pre, hd, hl, hr, he => by
    have hrl : row.length = b.size + 1 := by rw [hr]; simp; omega
    refine Ev.step (fun k => impl_farOf.l0.eq_2 ..) (ev_if_pos (by omega) (ev_if_pos (by omega) (ev_if_pos (by omega) ?_)))
    rw [wrap_succ (by omega), Int.toNat_natCast]
    refine impl_far0_ev a b ha hb d (k + 1) _ (pre ++ [(k : Int)]) (by omega) (by simp [hl]) ?_ (by rw [← he]; simp [upTo])
    subst hr
    subst hl
    simp [List.replicate_succ]

theorem impl_far_ev (a b : ByteArray) (ha : a.size ≤ 1000) (hb : b.size ≤ 1000) : Ev (fun n => impl_farOf.f n a b) (farD a b) := by
  unfold impl_farOf.f
  rw [wrap_succ (by omega)]
  refine ev_if_pos (by omega) (ev_if_pos (by rw [Int.toNat_natCast]; omega) ?_)
  simp only [Option.bind_some, List.length_replicate, Int.toNat_natCast]
  exact impl_far0_ev a b ha hb (b.size + 1) 0 _ [] (by omega) rfl rfl rfl

theorem isWordB_size {s : ByteArray} (h : isWordB s = true) : 1 ≤ s.size ∧ s.size ≤ 12 := by
  unfold isWordB at h
  simp only [Bool.and_eq_true, decide_eq_true_eq] at h
  exact h.2

theorem FnExactFarOf : laws_FnExactFarOf.Pure := by
  intro a b _ _
  refine Ev.rounds (g := fun k => laws_FnExactFarOf.f k a b) ?_
  unfold laws_FnExactFarOf.f
  by_cases ha : (a.size : Int) > 1048576
  · exact ev_if_pos ha (ev_some rfl)
  by_cases hb : (b.size : Int) > 1048576
  · exact ev_if_neg ha (ev_if_pos hb (ev_some rfl))
  refine ev_if_neg ha (ev_if_neg hb ?_)
  have key : ∃ r, Ev (fun k => spec_FarOf.f k a b) r ∧ Ev (fun k => impl_FarOf.f k a b) r := by
    unfold spec_FarOf.f impl_FarOf.f
    have a1 := spec_l9Word_ev a (by omega)
    have b1 := spec_l9Word_ev b (by omega)
    have a2 := impl_isWord_ev a (by omega)
    have b2 := impl_isWord_ev b (by omega)
    cases h1 : isWordB a with
    | false =>
      rw [h1] at a1 a2
      exact ⟨(0, false), ev_bind a1 (ev_if_neg (by simp) (ev_some rfl)), ev_bind a2 (ev_if_neg (by simp) (ev_some rfl))⟩
    | true =>
      rw [h1] at a1 a2
      cases h2 : isWordB b with
      | false =>
        rw [h2] at b1 b2
        exact ⟨(0, false), ev_bind a1 (ev_if_pos rfl (ev_bind b1 (ev_if_neg (by simp) (ev_some rfl)))), ev_bind a2 (ev_if_pos rfl (ev_bind b2 (ev_if_neg (by simp) (ev_some rfl))))⟩
      | true =>
        rw [h2] at b1 b2
        have s1 := isWordB_size h1
        have s2 := isWordB_size h2
        exact ⟨(farD a b, true), ev_bind a1 (ev_if_pos rfl (ev_bind b1 (ev_if_pos rfl (ev_bind (spec_far_ev a b (by omega) (by omega)) (ev_some rfl))))), ev_bind a2 (ev_if_pos rfl (ev_bind b2 (ev_if_pos rfl (ev_bind (impl_far_ev a b (by omega) (by omega)) (ev_some rfl)))))⟩
  obtain ⟨r, k1, k2⟩ := key
  refine ev_bind k1 (ev_bind k2 ?_)
  simp only [bne_self_eq_false, Bool.false_eq_true, if_true, if_false]
  exact ev_some rfl

end Go.Proofs.Ytbdfeiohpbbgoaa.Pure
