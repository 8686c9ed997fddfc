/- The law FnExactNearestOf holds at every input; no conditions. -/
import Derived.Test.YtlohhmoaomlieaaQFnExactNearestOfx11
import Derived.Test.YtlohhmoaomlieaaBase
import Derived.OpenShut
namespace Go.Proofs.Ytlohhmoaomlieaa.Pure
open Go.RowKit Go.Proofs.Ytlohhmoaomlieaa.QFnExactNearestOf Go.Proofs.YtlohhmoaomlieaaW.PrintWords Go.Proofs.YtlohhmoaomlieaaW.PrintLast Go.Proofs.Ytlohhmoaomlieaa.Base
set_option linter.unusedSimpArgs false
set_option linter.unusedVariables false

def wf66 (x : S66) : Prop := x.f0.size ≤ 9223372036854775807 ∧ (x.f1.length ≤ 9223372036854775807 ∧ ∀ y ∈ x.f1, (Lit.int .i64 y).wf = true) ∧ (x.f2.length ≤ 9223372036854775807 ∧ ∀ y ∈ x.f2, (Lit.int .i64 y).wf = true)
def laws_FnExactNearestOf.Pure : Prop := ∀ (l0 : List (S66)) (a1 : ByteArray), (l0.length ≤ 9223372036854775807 ∧ ∀ y ∈ l0, wf66 y) → a1.size ≤ 140737488351232 → ∃ k, laws_FnExactNearestOf.f k l0 a1 = some true

/-! ### lists of whole numbers: alike, marked, held -/
theorem rd_rdOf (l : List Int) (i : Int) : rd l i = rdOf 0 l i := rfl
theorem eqIntS_loop (l : List Int) (hl : l.length ≤ 1152921504606846976) : ∀ (rest : List Int) (i : Nat), l.drop i = rest → Ev (fun k => laws_eqIntS.l0 k l l i) true
  | [], i, hd => by
    have h := drop_nil hd
    exact Ev.step (fun k => laws_eqIntS.l0.eq_2 ..) (ev_if_neg (by omega) (ev_some rfl))
  | s :: rest, i, hd => by
    obtain ⟨hi, hd', hx⟩ := drop_cons hd
    refine Ev.step (fun k => laws_eqIntS.l0.eq_2 ..) (ev_if_pos (by omega) (ev_if_pos (by omega) (ev_if_pos (by omega) (ev_if_pos rfl ?_))))
    rw [wrap_succ (by omega)]
    exact eqIntS_loop l hl rest (i + 1) hd'
theorem eqIntS_ev (l : List Int) (hl : l.length ≤ 1152921504606846976) : Ev (fun k => laws_eqIntS.f k l l) true := by
  unfold laws_eqIntS.f
  exact ev_if_pos rfl (eqIntS_loop l hl l 0 rfl)

/-! ### words -/
def lettersN (s : ByteArray) : Nat → Nat → Bool
  | 0, _ => true
  | d + 1, i => (decide (97 ≤ bt s i) && decide (bt s i ≤ 122)) && lettersN s d (i + 1)

def isWordB (s : ByteArray) : Bool := lettersN s s.size 0 && (decide (1 ≤ s.size) && decide (s.size ≤ 12))

theorem spec_word_ev (s : ByteArray) (hs : s.size ≤ 1048576) : ∀ (d i : Nat), i + d = s.size → Ev (fun k => spec_l9Word.l0 k s i) (lettersN s d i && (decide (1 ≤ s.size) && decide (s.size ≤ 12)))
  | 0, i, hi => by
    refine Ev.step (fun k => spec_l9Word.l0.eq_2 ..) (ev_if_neg (by omega) (ev_fun fun k => ?_))
    simp only [spec_l1In.f, lettersN]
    by_cases h1 : 1 ≤ s.size
    · have h1' : (s.size : Int) ≥ 1 := by omega
      have h2 : ((s.size : Int) ≤ 12) = (s.size ≤ 12) := by apply propext; omega
      simp [h1, h1', h2]
    · have h1' : ¬ (s.size : Int) ≥ 1 := by omega
      simp [h1, h1']
  | d + 1, i, hi => by
    refine Ev.step (fun k => spec_l9Word.l0.eq_2 ..) (ev_if_pos (by omega) (ev_if_pos (by omega) ?_))
    by_cases h1 : bt s i < 97
    · exact ev_if_pos h1 (ev_some (by simp [lettersN, show ¬ 97 ≤ bt s i by omega]))
    · by_cases h2 : bt s i > 122
      · exact ev_if_neg h1 (ev_if_pos h2 (ev_some (by simp [lettersN, show ¬ bt s i ≤ 122 by omega])))
      · refine ev_if_neg h1 (ev_if_neg h2 ?_)
        rw [wrap_succ (by omega)]
        refine ev_eq (spec_word_ev s hs d (i + 1) (by omega)) ?_
        simp [lettersN, show 97 ≤ bt s i by omega, show bt s i ≤ 122 by omega]

theorem spec_l9Word_ev (s : ByteArray) (hs : s.size ≤ 1048576) : Ev (fun k => spec_l9Word.f k s) (isWordB s) := spec_word_ev s hs s.size 0 (by omega)

theorem impl_letters_ev (s : ByteArray) (hs : s.size ≤ 1048576) : ∀ (d i : Nat), i + d = s.size → Ev (fun k => impl_areLetters.l0 k s s.size i) (lettersN s d i && decide (s.size ≤ 12))
  | 0, i, hi => by
    refine Ev.step (fun k => impl_areLetters.l0.eq_2 ..) (ev_if_neg (by omega) (ev_fun fun k => ?_))
    have h2 : ((s.size : Int) ≤ 12) = (s.size ≤ 12) := by apply propext; omega
    simp [lettersN, h2]
  | d + 1, i, hi => by
    refine Ev.step (fun k => impl_areLetters.l0.eq_2 ..) (ev_if_pos (by omega) (ev_if_pos (by omega) (ev_if_pos (by omega) ?_)))
    unfold impl_isLetter.f
    by_cases h1 : bt s i ≥ 97
    · by_cases h2 : bt s i ≤ 122
      · simp only [h1, h2, if_true, decide_true, Option.bind_some]
        rw [wrap_succ (by omega)]
        refine ev_eq (impl_letters_ev s hs d (i + 1) (by omega)) ?_
        simp [lettersN, show 97 ≤ bt s i by omega, h2]
      · exact ev_fun fun k => by simp [lettersN, h1, h2]
    · exact ev_fun fun k => by simp [lettersN, h1]

theorem impl_isWord_ev (s : ByteArray) (hs : s.size ≤ 1048576) : Ev (fun k => impl_isWord.f k s) (isWordB s) := by
  unfold impl_isWord.f impl_areLetters.f
  by_cases h : s.toList = ([] : List UInt8)
  · have h0 := (toList_nil s).1 h
    exact ev_if_pos h (ev_some (by simp [isWordB, h0]))
  · have h0 : s.size ≠ 0 := fun h' => h ((toList_nil s).2 h')
    refine ev_if_neg h (ev_bind (impl_letters_ev s hs s.size 0 (by omega)) (ev_some ?_))
    simp [isWordB, show 1 ≤ s.size by omega]

/-! ### how far two words are apart -/
def farRow (b : ByteArray) (c : Int) (row : List Int) : Nat → Nat → List Int → List Int
  | 0, _, acc => acc
  | d + 1, k, acc => farRow b c row d (k + 1) (acc ++ [min (min (rd row k + if c = bt b k then 0 else 1) (rd row ((k + 1 : Nat) : Int) + 1)) (rd acc k + 1)])

def farRows (a b : ByteArray) : Nat → Nat → List Int → Int
  | 0, _, row => rd row b.size
  | d + 1, i, row => farRows a b d (i + 1) (farRow b (bt a i) row b.size 0 [((i + 1 : Nat) : Int)])

def upTo : Nat → Nat → List Int
  | 0, _ => []
  | d + 1, i => (i : Int) :: upTo d (i + 1)

theorem upTo_length : ∀ d i, (upTo d i).length = d
  | 0, _ => rfl
  | d + 1, i => by simp [upTo, upTo_length d (i + 1)]
theorem upTo_range : ∀ d i (x : Int), x ∈ upTo d i → 0 ≤ x ∧ x < i + d
  | 0, _, _, h => by simp [upTo] at h
  | d + 1, i, x, h => by
    rcases List.mem_cons.1 h with h | h
    · omega
    · have := upTo_range d (i + 1) x h; omega

def farD (a b : ByteArray) : Int := farRows a b a.size 0 (upTo (b.size + 1) 0)

theorem rd_nat (l : List Int) (k : Nat) (h : k < l.length) : rd l k = l[k] := by
  unfold rd; rw [Int.toNat_natCast, List.getD_eq_getElem?_getD, List.getElem?_eq_getElem h]; rfl
theorem rd_mem (l : List Int) (k : Nat) (h : k < l.length) : rd l k ∈ l := by rw [rd_nat l k h]; exact List.getElem_mem h

theorem farRow_ok (b : ByteArray) (c : Int) (row : List Int) (B : Int) (hr : ∀ x ∈ row, 0 ≤ x ∧ x ≤ B) : ∀ (d k : Nat) (acc : List Int), k + d + 1 = row.length → acc.length = k + 1 → (∀ x ∈ acc, 0 ≤ x ∧ x ≤ B + 1) →
    (farRow b c row d k acc).length = row.length ∧ ∀ x ∈ farRow b c row d k acc, 0 ≤ x ∧ x ≤ B + 1
  | 0, k, acc, h1, h2, h3 => ⟨by show acc.length = _; omega, h3⟩
  | d + 1, k, acc, h1, h2, h3 => by
    refine farRow_ok b c row B hr d (k + 1) _ (by omega) (by simp [h2]) ?_
    intro x hx
    rcases List.mem_append.1 hx with hx | hx
    · exact h3 x hx
    · have q1 := hr _ (rd_mem row k (by omega))
      have q2 := hr _ (rd_mem row (k + 1) (by omega))
      have q3 := h3 _ (rd_mem acc k (by omega))
      simp only [List.mem_singleton] at hx
      subst hx
      split <;> omega

theorem spec_least_eq (a b : Int) : spec_l1Least.f a b = some (min a b) := by
  unfold spec_l1Least.f; split <;> (congr 1; omega)

theorem spec_far2_ev (a b : ByteArray) (ha : a.size ≤ 1000) (hb : b.size ≤ 1000) (row : List Int) (i : Nat) (hi : i < a.size) (B : Int) (hB : B ≤ 100000) (hr : ∀ x ∈ row, 0 ≤ x ∧ x ≤ B) (hrl : row.length = b.size + 1) (r : Int) (K : ∀ row', row'.length = b.size + 1 → (∀ x ∈ row', 0 ≤ x ∧ x ≤ B + 1) → row' = farRow b (bt a i) row b.size 0 [((i + 1 : Nat) : Int)] → Ev (fun k => spec_l12Far.l1 k a b row' ((i + 1 : Nat) : Int)) r) :
    ∀ (d k : Nat) (acc : List Int), k + d = b.size → acc.length = k + 1 → (∀ x ∈ acc, 0 ≤ x ∧ x ≤ B + 1) → farRow b (bt a i) row d k acc = farRow b (bt a i) row b.size 0 [((i + 1 : Nat) : Int)] →
      Ev (fun n => spec_l12Far.l2 n a b row i acc k) r
  | 0, k, acc, hd, hl, hx, he => by
    refine Ev.step (fun k => spec_l12Far.l2.eq_2 ..) (ev_if_neg (by omega) ?_)
    rw [wrap_succ (by omega)]
    exact K acc (by omega) hx (by rw [← he]; rfl)
  | d + 1, k, acc, hd, hl, hx, he => by
    refine Ev.step (fun k => spec_l12Far.l2.eq_2 ..) ?_
    have q1 := hr _ (rd_mem row k (by omega))
    have q2 := hr _ (rd_mem row (k + 1) (by omega))
    have q3 := hx _ (rd_mem acc k (by omega))
    refine ev_if_pos (by omega) (ev_if_pos (by omega) (ev_if_pos (by omega) (ev_if_pos (by omega) (ev_if_pos (by omega) ?_))))
    rw [wrap_succ (by omega)]
    simp only [spec_least_eq, Option.bind_some]
    rw [wrap_id (x := min (rd row ((k + 1 : Nat) : Int)) (rd acc k) + 1) (by omega) (by omega)]
    by_cases hc : bt a i = bt b k
    · refine ev_if_pos hc (ev_if_pos (by omega) (ev_if_pos (by omega) (ev_if_pos (by omega) (ev_if_pos (by omega) ?_))))
      refine spec_far2_ev a b ha hb row i hi B hB hr hrl r K d (k + 1) _ (by omega) (by simp [hl]) ?_ ?_
      · intro x hx'
        rcases List.mem_append.1 hx' with hx' | hx'
        · exact hx x hx'
        · simp only [List.mem_singleton] at hx'; omega
      · rw [← he]
        show _ = farRow b (bt a i) row d (k + 1) _
        rw [if_pos hc]
        congr 3
        omega
    · rw [wrap_id (x := rd row k + 1) (by omega) (by omega)]
      refine ev_if_neg hc (ev_if_pos (by omega) (ev_if_pos (by omega) (ev_if_pos (by omega) (ev_if_pos (by omega) ?_))))
      refine spec_far2_ev a b ha hb row i hi B hB hr hrl r K d (k + 1) _ (by omega) (by simp [hl]) ?_ ?_
      · intro x hx'
        rcases List.mem_append.1 hx' with hx' | hx'
        · exact hx x hx'
        · simp only [List.mem_singleton] at hx'; omega
      · rw [← he]
        show _ = farRow b (bt a i) row d (k + 1) _
        rw [if_neg hc]
        congr 3
        omega

theorem spec_far1_ev (a b : ByteArray) (ha : a.size ≤ 1000) (hb : b.size ≤ 1000) : ∀ (d i : Nat) (row : List Int), i + d = a.size → row.length = b.size + 1 → (∀ x ∈ row, 0 ≤ x ∧ x ≤ 1000 + (i : Int)) →
    Ev (fun n => spec_l12Far.l1 n a b row i) (farRows a b d i row)
  | 0, i, row, hd, hl, hx => by
    refine Ev.step (fun k => spec_l12Far.l1.eq_2 ..) (ev_if_neg (by omega) (ev_if_pos (by omega) (ev_if_pos (by omega) (ev_some rfl))))
  | d + 1, i, row, hd, hl, hx => by
    refine Ev.step (fun k => spec_l12Far.l1.eq_2 ..) (ev_if_pos (by omega) ?_)
    rw [wrap_succ (by omega)]
    refine spec_far2_ev a b ha hb row i (by omega) (1000 + i) (by omega) hx hl _ ?_ b.size 0 _ (by omega) rfl ?_ rfl
    · intro row' h1 h2 h3
      subst h3
      exact spec_far1_ev a b ha hb d (i + 1) _ (by omega) h1 (fun x hx => by have := h2 x hx; omega)
    · intro x hx
      simp only [List.mem_singleton] at hx
      omega

theorem spec_far0_ev (a b : ByteArray) (ha : a.size ≤ 1000) (hb : b.size ≤ 1000) : ∀ (d k : Nat) (acc : List Int), k + d = b.size + 1 → acc.length = k → acc ++ upTo d k = upTo (b.size + 1) 0 →
    Ev (fun n => spec_l12Far.l0 n a b acc k) (farD a b)
  | 0, k, acc, hd, hl, he => by
    refine Ev.step (fun k => spec_l12Far.l0.eq_2 ..) (ev_if_neg (by omega) ?_)
    rw [show upTo 0 k = [] from rfl, List.append_nil] at he
    subst he
    exact spec_far1_ev a b ha hb a.size 0 _ (by omega) (upTo_length _ _) (fun x hx => by have := upTo_range _ _ x hx; omega)
  | d + 1, k, acc, hd, hl, he => by
    refine Ev.step (fun k => spec_l12Far.l0.eq_2 ..) (ev_if_pos (by omega) (ev_if_pos (by omega) ?_))
    rw [wrap_succ (by omega)]
    exact spec_far0_ev a b ha hb d (k + 1) _ (by omega) (by simp [hl]) (by rw [← he]; simp [upTo])

theorem spec_far_ev (a b : ByteArray) (ha : a.size ≤ 1000) (hb : b.size ≤ 1000) : Ev (fun n => spec_l12Far.f n a b) (farD a b) :=
  spec_far0_ev a b ha hb (b.size + 1) 0 [] (by omega) rfl rfl

theorem impl_far2_ev (a b : ByteArray) (ha : a.size ≤ 1000) (hb : b.size ≤ 1000) (row : List Int) (i : Nat) (hi : i < a.size) (B : Int) (hB : B ≤ 100000) (hr : ∀ x ∈ row, 0 ≤ x ∧ x ≤ B) (hrl : row.length = b.size + 1) (r : Int) (K : ∀ row', row'.length = b.size + 1 → (∀ x ∈ row', 0 ≤ x ∧ x ≤ B + 1) → row' = farRow b (bt a i) row b.size 0 [((i + 1 : Nat) : Int)] → Ev (fun k => impl_farOf.l1 k a b row' a.size ((i + 1 : Nat) : Int)) r) :
    ∀ (d k : Nat) (acc : List Int), k + d = b.size → acc.length = k + 1 → (∀ x ∈ acc, 0 ≤ x ∧ x ≤ B + 1) → farRow b (bt a i) row d k acc = farRow b (bt a i) row b.size 0 [((i + 1 : Nat) : Int)] →
      Ev (fun n => impl_farOf.l2 n a b row i acc a.size i b.size k) r
  | 0, k, acc, hd, hl, hx, he => by
    refine Ev.step (fun k => impl_farOf.l2.eq_2 ..) (ev_if_neg (by omega) ?_)
    rw [wrap_succ (by omega)]
    exact K acc (by omega) hx (by rw [← he]; rfl)
  | d + 1, k, acc, hd, hl, hx, he => by
    refine Ev.step (fun k => impl_farOf.l2.eq_2 ..) ?_
    have q1 := hr _ (rd_mem row k (by omega))
    have q2 := hr _ (rd_mem row (k + 1) (by omega))
    have q3 := hx _ (rd_mem acc k (by omega))
    refine ev_if_pos (by omega) (ev_if_pos (by omega) (ev_if_pos (by omega) (ev_if_pos (by omega) (ev_if_pos (by omega) (ev_if_pos (by omega) ?_)))))
    rw [wrap_succ (by omega), wrap_id (x := rd row ((k + 1 : Nat) : Int) + 1) (by omega) (by omega), wrap_id (x := rd acc k + 1) (by omega) (by omega)]
    simp only [mn_min]
    by_cases hc : bt a i = bt b k
    · refine ev_if_pos hc (ev_if_pos (by omega) (ev_if_pos (by omega) (ev_if_pos (by omega) (ev_if_pos (by omega) ?_))))
      refine impl_far2_ev a b ha hb row i hi B hB hr hrl r K d (k + 1) _ (by omega) (by simp [hl]) ?_ ?_
      · intro x hx'
        rcases List.mem_append.1 hx' with hx' | hx'
        · exact hx x hx'
        · simp only [List.mem_singleton] at hx'; omega
      · rw [← he]
        show _ = farRow b (bt a i) row d (k + 1) _
        rw [if_pos hc]
        congr 3
        omega
    · rw [wrap_id (x := rd row k + 1) (by omega) (by omega)]
      refine ev_if_neg hc (ev_if_pos (by omega) (ev_if_pos (by omega) (ev_if_pos (by omega) (ev_if_pos (by omega) ?_))))
      refine impl_far2_ev a b ha hb row i hi B hB hr hrl r K d (k + 1) _ (by omega) (by simp [hl]) ?_ ?_
      · intro x hx'
        rcases List.mem_append.1 hx' with hx' | hx'
        · exact hx x hx'
        · simp only [List.mem_singleton] at hx'; omega
      · rw [← he]
        show _ = farRow b (bt a i) row d (k + 1) _
        rw [if_neg hc]

theorem impl_far1_ev (a b : ByteArray) (ha : a.size ≤ 1000) (hb : b.size ≤ 1000) : ∀ (d i : Nat) (row : List Int), i + d = a.size → row.length = b.size + 1 → (∀ x ∈ row, 0 ≤ x ∧ x ≤ 1000 + (i : Int)) →
    Ev (fun n => impl_farOf.l1 n a b row a.size i) (farRows a b d i row)
  | 0, i, row, hd, hl, hx => by
    refine Ev.step (fun k => impl_farOf.l1.eq_2 ..) (ev_if_neg (by omega) (ev_if_pos (by omega) (ev_if_pos (by omega) (ev_some rfl))))
  | d + 1, i, row, hd, hl, hx => by
    refine Ev.step (fun k => impl_farOf.l1.eq_2 ..) (ev_if_pos (by omega) ?_)
    rw [wrap_succ (by omega)]
    refine impl_far2_ev a b ha hb row i (by omega) (1000 + i) (by omega) hx hl _ ?_ b.size 0 _ (by omega) rfl ?_ rfl
    · intro row' h1 h2 h3
      subst h3
      exact impl_far1_ev a b ha hb d (i + 1) _ (by omega) h1 (fun x hx => by have := h2 x hx; omega)
    · intro x hx
      simp only [List.mem_singleton] at hx
      omega

theorem impl_far0_ev (a b : ByteArray) (ha : a.size ≤ 1000) (hb : b.size ≤ 1000) : ∀ (d k : Nat) (row pre : List Int), k + d = b.size + 1 → pre.length = k → row = pre ++ List.replicate d 0 → pre ++ upTo d k = upTo (b.size + 1) 0 →
    Ev (fun n => impl_farOf.l0 n a b row ((b.size + 1 : Nat) : Int) k) (farD a b)
  | 0, k, row, pre, hd, hl, hr, he => by
    refine Ev.step (fun k => impl_farOf.l0.eq_2 ..) (ev_if_neg (by omega) ?_)
    rw [show upTo 0 k = [] from rfl, List.append_nil] at he
    rw [show List.replicate 0 (0 : Int) = [] from rfl, List.append_nil] at hr
    subst hr
    subst he
    exact impl_far1_ev a b ha hb a.size 0 _ (by omega) (upTo_length _ _) (fun x hx => by have := upTo_range _ _ x hx; omega)
  | d + 1, k, row, pre, hd, hl, hr, he => by
    have hrl : row.length = b.size + 1 := by rw [hr]; simp; omega
    refine Ev.step (fun k => impl_farOf.l0.eq_2 ..) (ev_if_pos (by omega) (ev_if_pos (by omega) (ev_if_pos (by omega) ?_)))
    rw [wrap_succ (by omega), Int.toNat_natCast]
    refine impl_far0_ev a b ha hb d (k + 1) _ (pre ++ [(k : Int)]) (by omega) (by simp [hl]) ?_ (by rw [← he]; simp [upTo])
    subst hr
    subst hl
    simp [List.replicate_succ]

theorem impl_far_ev (a b : ByteArray) (ha : a.size ≤ 1000) (hb : b.size ≤ 1000) : Ev (fun n => impl_farOf.f n a b) (farD a b) := by
  unfold impl_farOf.f
  rw [wrap_succ (by omega)]
  refine ev_if_pos (by omega) (ev_if_pos (by rw [Int.toNat_natCast]; omega) ?_)
  simp only [Option.bind_some, List.length_replicate, Int.toNat_natCast]
  exact impl_far0_ev a b ha hb (b.size + 1) 0 _ [] (by omega) rfl rfl rfl

/-! ### a text among texts -/
def hasB (words : List ByteArray) (s : ByteArray) : Bool := words.any fun x => decide (x = s)
theorem spec_hasText_loop (s : ByteArray) (l : List ByteArray) (hl : l.length ≤ 1048576) : ∀ (rest : List ByteArray) (i : Nat), l.drop i = rest → Ev (fun k => spec_l1HasText.l0 k s l l.length i) (hasB rest s)
  | [], i, hd => by
    have h := drop_nil hd
    exact Ev.step (fun k => spec_l1HasText.l0.eq_2 ..) (ev_if_neg (by omega) (ev_some rfl))
  | x :: rest, i, hd => by
    obtain ⟨hi, hd', hx⟩ := drop_cons hd
    refine Ev.step (fun k => spec_l1HasText.l0.eq_2 ..) (ev_if_pos (by omega) (ev_if_pos (by omega) (ev_if_pos (by omega) ?_)))
    rw [hx, wrap_succ (by omega)]
    by_cases h : x = s
    · exact ev_if_pos (by rw [h]) (ev_some (by simp [hasB, h]))
    · exact ev_if_neg (fun e => h (toList_inj.1 e)) (ev_eq (spec_hasText_loop s l hl rest (i + 1) hd') (by simp [hasB, h]))
theorem spec_hasText_ev (s : ByteArray) (l : List ByteArray) (hl : l.length ≤ 1048576) : Ev (fun k => spec_l1HasText.f k l s) (hasB l s) := by
  unfold spec_l1HasText.f
  exact spec_hasText_loop s l hl l 0 rfl
theorem index_loop (s : ByteArray) (l : List ByteArray) (hl : l.length ≤ 1048576) : ∀ (rest : List ByteArray) (i : Nat), l.drop i = rest → ∃ r, Ev (fun k => slices_Index_string_string.l0 k l s l.length i) r ∧ decide (r ≥ 0) = hasB rest s
  | [], i, hd => by
    have h := drop_nil hd
    exact ⟨-1, Ev.step (fun k => slices_Index_string_string.l0.eq_2 ..) (ev_if_neg (by omega) (ev_some rfl)), by simp [hasB]⟩
  | x :: rest, i, hd => by
    obtain ⟨hi, hd', hx⟩ := drop_cons hd
    by_cases h : s = x
    · refine ⟨i, Ev.step (fun k => slices_Index_string_string.l0.eq_2 ..) (ev_if_pos (by omega) (ev_if_pos (by omega) (ev_if_pos (by omega) ?_))), by simp [hasB, h]⟩
      rw [hx]
      exact ev_if_pos (by rw [h]) (ev_some rfl)
    · obtain ⟨r, hr, hb⟩ := index_loop s l hl rest (i + 1) hd'
      refine ⟨r, Ev.step (fun k => slices_Index_string_string.l0.eq_2 ..) (ev_if_pos (by omega) (ev_if_pos (by omega) (ev_if_pos (by omega) ?_))), by rw [hb]; unfold hasB; rw [List.any_cons, show decide (x = s) = false from decide_eq_false (fun e => h e.symm), Bool.false_or]⟩
      rw [hx, wrap_succ (by omega)]
      exact ev_if_neg (fun e => h (toList_inj.1 e)) hr
theorem contains_ev (s : ByteArray) (l : List ByteArray) (hl : l.length ≤ 1048576) : Ev (fun k => slices_Contains_string_string.f k l s) (hasB l s) := by
  unfold slices_Contains_string_string.f slices_Index_string_string.f
  obtain ⟨r, hr, hb⟩ := index_loop s l hl l 0 rfl
  exact ev_bind hr (ev_some hb)

/-! ### knots of words: both builds -/
open Go.Proofs.Ytlohhmoaomlieaa.Ext
theorem kn_half {i j : Nat} (h : i + j ≤ 4194304) : wrap64 ((IntKind.u64.wrap (wrap64 ((i : Int) + (j : Int)))) / 2) = (((i + j) / 2 : Nat) : Int) := by
  rw [wrap_id (x := (i : Int) + j) (by omega) (by omega)]
  have e : IntKind.u64.wrap ((i : Int) + (j : Int)) = (i : Int) + j := by
    simp [IntKind.wrap, IntKind.bits, IntKind.signed]
    omega
  rw [e, wrap_id (by omega) (by omega)]
  omega
def Rises (l : List Int) : Prop := l.Pairwise fun a b => a < b
theorem place_lt {d : Int} : ∀ {l : List Int}, Rises l → ∀ (i : Nat) (h : i < l.length), (l[i] < d) ↔ i < placeL d l
  | [], _, i, h => by simp at h
  | x :: l, hs, i, h => by
    obtain ⟨h1, h2⟩ := List.pairwise_cons.1 hs
    unfold placeL
    by_cases hx : x < d
    · rw [if_pos hx]
      cases i with
      | zero => simp [hx]
      | succ i =>
        have := place_lt (d := d) h2 i (by simpa using h)
        simp only [List.getElem_cons_succ]
        omega
    · rw [if_neg hx]
      constructor
      · intro h3
        exfalso
        cases i with
        | zero => exact hx (by simpa using h3)
        | succ i =>
          have h4 := h1 (l[i]'(by simpa using h)) (List.getElem_mem _)
          simp only [List.getElem_cons_succ] at h3
          omega
      · intro h3; omega
theorem less_eq (a b : Int) : cmp_Less_int.f a b = some (decide (a < b)) := by
  unfold cmp_Less_int.f cmp_isNaN_int.f
  simp
theorem rd_get (l : List Int) (i : Nat) (h : i < l.length) : rd l (i : Int) = l[i] := by
  unfold rd
  rw [Int.toNat_natCast, List.getD_eq_getElem?_getD, List.getElem?_eq_getElem h]; rfl
def isAt (d : Int) (l : List Int) : Bool := if h : placeL d l < l.length then decide (l[placeL d l] = d) else false
theorem bs_loop (l : List Int) (d : Int) (hl : l.length ≤ 1000) (hs : Rises l) : ∀ (n i j : Nat), j - i = n → i ≤ placeL d l → placeL d l ≤ j → j ≤ l.length →
    Ev (fun k => slices_BinarySearch_int_int.l0 k l d l.length i j) ((placeL d l : Int), isAt d l) := by
  intro n
  induction n using Nat.strongRecOn with
  | ind n ih =>
    intro i j hn hi hj hjl
    refine Ev.step (fun k => slices_BinarySearch_int_int.l0.eq_2 ..) ?_
    by_cases hij : i < j
    · refine ev_if_pos (by omega) ?_
      rw [kn_half (by omega)]
      have hm : (i + j) / 2 < l.length := by omega
      refine ev_if_pos (by omega) (ev_if_pos (by omega) ?_)
      rw [rd_get l _ hm]
      simp only [less_eq, Option.bind_some]
      have hc := place_lt (d := d) hs _ hm
      by_cases hmp : l[(i + j) / 2] < d
      · refine ev_if_pos (decide_eq_true hmp) ?_
        rw [wrap_succ (by omega)]
        exact ih (j - ((i + j) / 2 + 1)) (by omega) ((i + j) / 2 + 1) j rfl (by have := hc.1 hmp; omega) hj hjl
      · refine ev_if_neg (by rw [decide_eq_false hmp]; simp) ?_
        exact ih ((i + j) / 2 - i) (by omega) i ((i + j) / 2) rfl hi (by have := fun q => hmp (hc.2 q); omega) (by omega)
    · have e : i = placeL d l := by omega
      refine ev_if_neg (by omega) ?_
      unfold isAt
      by_cases hpl : i < l.length
      · refine ev_if_pos (by omega) (ev_if_pos (by omega) (ev_if_pos (by omega) ?_))
        rw [rd_get l _ hpl, dif_pos (by omega)]
        subst e
        by_cases he : l[placeL d l] = d
        · exact ev_if_pos he (ev_some (by rw [decide_eq_true he]))
        · refine ev_if_neg he ?_
          unfold slices_isNaN_int.f
          simp only [Option.bind_some, bne_self_eq_false]
          exact ev_if_neg (by simp) (ev_some (by rw [decide_eq_false he]))
      · refine ev_if_neg (by omega) (ev_some ?_)
        rw [dif_neg (by omega), e]
theorem bs_ev (l : List Int) (d : Int) (hl : l.length ≤ 1000) (hs : Rises l) : Ev (fun k => slices_BinarySearch_int_int.f k l d) ((placeL d l : Int), isAt d l) :=
  bs_loop l d hl hs l.length 0 l.length rfl (Nat.zero_le _) (placeL_le d l) (Nat.le_refl _)
/-- The kid of a knot with a distance. -/
def kidOf (x : S62) (d : Int) : Int := if isAt d x.f1 = true then rd x.f2 (placeL d x.f1) else -1
theorem kid_loop (x : S62) (d : Int) (hl : x.f1.length ≤ 1000) (hk : x.f1.length = x.f2.length) (hs : Rises x.f1) : ∀ (n i : Nat), x.f1.length - i = n → i ≤ placeL d x.f1 →
    Ev (fun k => spec_l12Kid.l0 k d x.f1 x.f1.length i x.f0 x.f1 x.f2) (kidOf x d) := by
  intro n
  induction n with
  | zero =>
    intro i hn hi
    have := placeL_le d x.f1
    refine Ev.step (fun k => spec_l12Kid.l0.eq_2 ..) (ev_if_neg (by omega) (ev_some ?_))
    unfold kidOf isAt
    rw [dif_neg (by omega)]; rfl
  | succ n ih =>
    intro i hn hi
    refine Ev.step (fun k => spec_l12Kid.l0.eq_2 ..) (ev_if_pos (by omega) (ev_if_pos (by omega) (ev_if_pos (by omega) ?_)))
    rw [rd_get x.f1 i (by omega)]
    have hc := place_lt (d := d) hs i (by omega)
    by_cases he : x.f1[i]'(by omega) = d
    · refine ev_if_pos he (ev_if_pos (by omega) (ev_some ?_))
      have e : i = placeL d x.f1 := by
        have : ¬ i < placeL d x.f1 := fun q => by have := hc.2 q; omega
        omega
      subst e
      unfold kidOf isAt
      rw [dif_pos (by omega), if_pos (decide_eq_true he)]
    · refine ev_if_neg he ?_
      rw [wrap_succ (by omega)]
      by_cases hip : i < placeL d x.f1
      · exact ih (i + 1) (by omega) hip
      · -- past the place: none is there
        have e : i = placeL d x.f1 := by omega
        have hrest : ∀ (m j : Nat), x.f1.length - j = m → i < j → Ev (fun k => spec_l12Kid.l0 k d x.f1 x.f1.length j x.f0 x.f1 x.f2) (-1) := by
          intro m
          induction m with
          | zero =>
            intro j hm hj
            exact Ev.step (fun k => spec_l12Kid.l0.eq_2 ..) (ev_if_neg (by omega) (ev_some rfl))
          | succ m ihm =>
            intro j hm hj
            refine Ev.step (fun k => spec_l12Kid.l0.eq_2 ..) (ev_if_pos (by omega) (ev_if_pos (by omega) (ev_if_pos (by omega) (ev_if_neg ?_ ?_))))
            · rw [rd_get x.f1 j (by omega)]
              intro q
              have h1 := List.pairwise_iff_getElem.1 hs i j (by omega) (by omega) hj
              have h2 : ¬ x.f1[i]'(by omega) < d := fun q2 => by have := hc.1 q2; omega
              omega
            · rw [wrap_succ (by omega)]
              exact ihm (j + 1) (by omega) (by omega)
        refine ev_eq (hrest _ (i + 1) rfl (by omega)) ?_
        unfold kidOf isAt
        subst e
        rw [dif_pos (by omega), decide_eq_false he]; rfl
theorem kid_ev (x : S62) (d : Int) (hl : x.f1.length ≤ 1000) (hk : x.f1.length = x.f2.length) (hs : Rises x.f1) : Ev (fun k => spec_l12Kid.f k x.f0 x.f1 x.f2 d) (kidOf x d) :=
  kid_loop x d hl hk hs x.f1.length 0 rfl (Nat.zero_le _)
/-- Good knots: distances rise, kids lie behind. -/
structure KGood (L : List (S62)) : Prop where
  small : L.length ≤ 20
  word : ∀ x ∈ L, x.f0.size ≤ 12
  len : ∀ x ∈ L, x.f1.length = x.f2.length
  rise : ∀ x ∈ L, Rises x.f1
  kids : ∀ (i : Nat) (x : S62), L[i]? = some x → ∀ q ∈ x.f2, (i : Int) < q ∧ q < L.length
  few : ∀ x ∈ L, x.f1.length ≤ L.length
theorem kid_mem {x : S62} {d : Int} (hk : x.f1.length = x.f2.length) (h : kidOf x d ≠ -1) : kidOf x d ∈ x.f2 := by
  unfold kidOf isAt at h ⊢
  by_cases hp : placeL d x.f1 < x.f1.length
  · rw [dif_pos hp] at h ⊢
    split at h
    · rename_i he
      rw [if_pos he, rd_get x.f2 _ (by omega)]
      exact List.getElem_mem _
    · exact absurd rfl h
  · rw [dif_neg hp] at h
    exact absurd rfl h
def insK (x : S62) (d n : Int) : S62 := ⟨x.f0, x.f1.take (placeL d x.f1) ++ [d] ++ x.f1.drop (placeL d x.f1), x.f2.take (placeL d x.f1) ++ [n] ++ x.f2.drop (placeL d x.f1)⟩
theorem ins_eq (l : List Int) (a : Nat) (x : Int) (ha : a ≤ l.length) (hl : l.length < 1000000) : slices_Insert_int_int.f l (a : Int) [x] = some (l.take a ++ [x] ++ l.drop a) := by
  unfold slices_Insert_int_int.f
  rw [if_pos ⟨by omega, by omega, hl⟩, Int.toNat_natCast]
/-- Where a word is put: both ways down. -/
theorem go_both (L : List (S62)) (hG : KGood L) (s : ByteArray) (hs : s.size ≤ 12) : ∀ (m at_ : Nat), L.length - at_ ≤ m → at_ < L.length →
    ∃ (AT : Nat) (D : Int) (x : S62), L[AT]? = some x ∧ D = farD x.f0 s ∧ isAt D x.f1 = false ∧
      (∃ K, ∀ k, K ≤ k → ∀ j, m ≤ j → spec_l12Put.go k L s j at_ = some (AT, D)) ∧
      (∃ K, ∀ k, K ≤ k → ∀ j, m ≤ j → impl_knots.go k (L ++ [(⟨s, [], []⟩ : S62)]) s L.length j (at_ : Int) = some ((L ++ [(⟨s, [], []⟩ : S62)]).set AT (insK x D L.length))) := by
  intro m
  induction m with
  | zero => intro at_ h1 h2; omega
  | succ m ih =>
    intro at_ h1 h2
    obtain ⟨x, hx⟩ : ∃ x, L[at_]? = some x := ⟨_, List.getElem?_eq_getElem h2⟩
    have hm := List.mem_of_getElem? hx
    have hw := hG.word x hm
    have hlen := hG.len x hm
    have hri := hG.rise x hm
    have hsm := hG.small
    have hfew := hG.few x hm
    obtain ⟨K1, e1⟩ := spec_far_ev x.f0 s (by omega) (by omega)
    obtain ⟨K2, e2⟩ := impl_far_ev x.f0 s (by omega) (by omega)
    revert e1 e2
    generalize hD : farD x.f0 s = D
    intro e1 e2
    obtain ⟨K3, e3⟩ := kid_ev x D (by omega) hlen hri
    obtain ⟨K4, e4⟩ := bs_ev x.f1 D (by omega) hri
    have e1 : ∀ k, K1 ≤ k → spec_l12Far.f k x.f0 s = some D := e1
    have e2 : ∀ k, K2 ≤ k → impl_farOf.f k x.f0 s = some D := e2
    have e3 : ∀ k, K3 ≤ k → spec_l12Kid.f k x.f0 x.f1 x.f2 D = some (kidOf x D) := e3
    have e4 : ∀ k, K4 ≤ k → slices_BinarySearch_int_int.f k x.f1 D = some ((placeL D x.f1 : Int), isAt D x.f1) := e4
    have hpl := placeL_le D x.f1
    have hx2 : (L ++ [(⟨s, [], []⟩ : S62)])[at_]? = some x := by rw [List.getElem?_append_left h2]; exact hx
    have hat0 : (at_ : Int) < (L.length : Int) := by omega
    have hat1 : (0 : Int) ≤ (at_ : Int) := by omega
    have hf6 : x.f1.length < 1000000 := by omega
    have hf7 : x.f2.length < 1000000 := by omega
    have hpl2 : placeL D x.f1 ≤ x.f2.length := by omega
    cases hat : isAt D x.f1 with
    | false =>
      have hkid : ¬ 0 ≤ kidOf x D := by unfold kidOf; rw [hat]; simp
      refine ⟨at_, D, x, hx, hD.symm, hat, ⟨max K1 K3, fun k hk j hj => ?_⟩, ⟨max K2 K4, fun k hk j hj => ?_⟩⟩
      · obtain ⟨j, rfl⟩ : ∃ j', j = j' + 1 := ⟨j - 1, by clear hkid; omega⟩
        unfold spec_l12Put.go
        rw [hx]
        dsimp only
        rw [e1 k (Nat.le_trans (Nat.le_max_left _ _) hk), Option.bind_some, e3 k (Nat.le_trans (Nat.le_max_right _ _) hk), Option.bind_some, if_neg hkid]
      · obtain ⟨j, rfl⟩ : ∃ j', j = j' + 1 := ⟨j - 1, by clear hkid; omega⟩
        unfold impl_knots.go
        rw [if_pos hat0, if_pos hat1, Int.toNat_natCast, hx2, Option.bind_some, e2 k (Nat.le_trans (Nat.le_max_left _ _) hk), Option.bind_some, e4 k (Nat.le_trans (Nat.le_max_right _ _) hk), Option.bind_some]
        dsimp only
        rw [hat, if_neg (by decide), ins_eq _ _ _ hpl hf6, Option.bind_some, ins_eq _ _ _ hpl2 hf7, Option.bind_some]
        rfl
    | true =>
      have hp : placeL D x.f1 < x.f1.length := by
        apply Classical.byContradiction
        intro q
        unfold isAt at hat
        rw [dif_neg q] at hat
        cases hat
      have hkv : kidOf x D = rd x.f2 (placeL D x.f1) := by unfold kidOf; rw [if_pos hat]
      have hp2 : placeL D x.f1 < x.f2.length := by omega
      have hmem : rd x.f2 (placeL D x.f1) ∈ x.f2 := by rw [rd_get _ _ hp2]; exact List.getElem_mem _
      have hk := hG.kids at_ x hx _ hmem
      have hq0 : (0 : Int) ≤ (placeL D x.f1 : Int) ∧ (placeL D x.f1 : Int) < (x.f2.length : Int) := ⟨by omega, by omega⟩
      rw [← hkv] at hk
      obtain ⟨n, hn⟩ : ∃ n : Nat, kidOf x D = (n : Int) := by
        revert hk
        generalize kidOf x D = Q
        intro hk
        exact ⟨Q.toNat, by omega⟩
      rw [hn] at hk
      have hk0 : 0 ≤ (n : Int) := by omega
      clear hp hp2 hmem hpl hpl2 hf6 hf7
      obtain ⟨AT, D2, y, g1, g2, g3, ⟨K5, g4⟩, ⟨K6, g5⟩⟩ := ih n (by clear hkv hq0 hn; omega) (by clear hkv hq0 hn; omega)
      refine ⟨AT, D2, y, g1, g2, g3, ⟨max (max K1 K3) K5, fun k hk_ j hj => ?_⟩, ⟨max (max K2 K4) K6, fun k hk_ j hj => ?_⟩⟩
      · obtain ⟨j, rfl⟩ : ∃ j', j = j' + 1 := ⟨j - 1, by clear hkv hq0 hn; omega⟩
        unfold spec_l12Put.go
        rw [hx]
        dsimp only
        rw [e1 k (Nat.le_trans (Nat.le_trans (Nat.le_max_left _ _) (Nat.le_max_left _ _)) hk_), Option.bind_some, e3 k (Nat.le_trans (Nat.le_trans (Nat.le_max_right _ _) (Nat.le_max_left _ _)) hk_), Option.bind_some, hn, if_pos hk0, Int.toNat_natCast]
        exact g4 k (Nat.le_trans (Nat.le_max_right _ _) hk_) j (by clear hkv hq0 hn; omega)
      · obtain ⟨j, rfl⟩ : ∃ j', j = j' + 1 := ⟨j - 1, by clear hkv hq0 hn; omega⟩
        unfold impl_knots.go
        rw [if_pos hat0, if_pos hat1, Int.toNat_natCast, hx2, Option.bind_some, e2 k (Nat.le_trans (Nat.le_trans (Nat.le_max_left _ _) (Nat.le_max_left _ _)) hk_), Option.bind_some, e4 k (Nat.le_trans (Nat.le_trans (Nat.le_max_right _ _) (Nat.le_max_left _ _)) hk_), Option.bind_some]
        dsimp only
        rw [hat, if_pos rfl, if_pos hq0, ← hkv, hn]
        exact g5 k (Nat.le_trans (Nat.le_max_right _ _) hk_) j (by clear hkv hq0 hn; omega)
theorem rises_ins {d : Int} {l : List Int} (hs : Rises l) (hn : isAt d l = false) : Rises (l.take (placeL d l) ++ [d] ++ l.drop (placeL d l)) := by
  have hlow : ∀ x ∈ l.take (placeL d l), x < d := by
    intro x hx
    obtain ⟨i, hi, rfl⟩ := List.getElem_of_mem hx
    rw [List.length_take] at hi
    rw [List.getElem_take]
    exact (place_lt hs i (by omega)).2 (by omega)
  have hhigh : ∀ x ∈ l.drop (placeL d l), d < x := by
    intro x hx
    obtain ⟨i, hi, rfl⟩ := List.getElem_of_mem hx
    rw [List.length_drop] at hi
    rw [List.getElem_drop]
    have h2 : ¬ l[placeL d l + i]'(by omega) < d := fun q => by have := (place_lt (d := d) hs (placeL d l + i) (by omega)).1 q; omega
    by_cases h0 : i = 0
    · subst h0
      unfold isAt at hn
      rw [dif_pos (by omega)] at hn
      have := of_decide_eq_false hn
      simp only [Nat.add_zero] at h2 ⊢
      omega
    · have h3 := List.pairwise_iff_getElem.1 hs (placeL d l) (placeL d l + i) (by omega) (by omega) (by omega)
      have h4 : ¬ l[placeL d l]'(by omega) < d := fun q => by have := (place_lt (d := d) hs (placeL d l) (by omega)).1 q; omega
      omega
  unfold Rises
  rw [List.append_assoc, List.pairwise_append]
  refine ⟨hs.sublist (List.take_sublist _ _), List.pairwise_cons.2 ⟨hhigh, hs.sublist (List.drop_sublist _ _)⟩, fun a ha b hb => ?_⟩
  rcases List.mem_cons.1 hb with rfl | hb
  · exact hlow a ha
  · have h1 := hlow a ha
    have h2 := hhigh b hb
    omega
/-- One word more. -/
theorem put_both (L : List (S62)) (hG : KGood L) (h20 : L.length < 20) (s : ByteArray) (hs : s.size ≤ 12) : ∃ L2, KGood L2 ∧ L2.map (fun x => x.f0) = L.map (fun x => x.f0) ++ [s] ∧ L2.length = L.length + 1 ∧
    Ev (fun k => spec_l12Put.f k L s) L2 ∧ Ev (fun k => impl_knots.go k (L ++ [(⟨s, [], []⟩ : S62)]) s L.length k 0) L2 := by
  by_cases h0 : L = []
  · subst h0
    refine ⟨[⟨s, [], []⟩], ⟨by simp, by simpa using hs, by simp, by simp [Rises], fun i x hx => ?_, by simp⟩, rfl, rfl, ?_, ⟨1, fun k hk => ?_⟩⟩
    · cases i with
      | zero => simp only [List.getElem?_cons_zero, Option.some.injEq] at hx; subst hx; simp
      | succ i => simp at hx
    · exact ev_fun fun k => by unfold spec_l12Put.f; rw [if_pos rfl]
    · obtain ⟨k, rfl⟩ : ∃ k', k = k' + 1 := ⟨k - 1, by omega⟩
      show impl_knots.go (k + 1) ([] ++ [(⟨s, [], []⟩ : S62)]) s (([] : List (S62)).length : Int) (k + 1) 0 = _
      rw [impl_knots.go, if_neg (by simp)]; rfl
  · have hpos : 0 < L.length := List.length_pos_iff.2 h0
    obtain ⟨AT, D, x, hx, hD, hat, ⟨K1, g1⟩, ⟨K2, g2⟩⟩ := go_both L hG s hs L.length 0 (by omega) hpos
    have hm := List.mem_of_getElem? hx
    have hA : AT < L.length := (List.getElem?_eq_some_iff.1 hx).1
    have hpl := placeL_le D x.f1
    have hlen := hG.len x hm
    have hfew := hG.few x hm
    have hset : (L ++ [(⟨s, [], []⟩ : S62)]).set AT (insK x D L.length) = L.set AT (insK x D L.length) ++ [⟨s, [], []⟩] := List.set_append_left _ _ hA
    have hw : (L.set AT (insK x D L.length)).map (fun x => x.f0) = L.map (fun x => x.f0) := by
      rw [List.map_set]
      apply List.ext_getElem?
      intro j
      rw [List.getElem?_set]
      split
      · next e =>
        subst e
        rw [List.length_map, if_pos hA, List.getElem?_map, hx]; rfl
      · rfl
    refine ⟨L.set AT (insK x D L.length) ++ [⟨s, [], []⟩], ?_, by rw [List.map_append, hw]; rfl, by rw [List.length_append, List.length_set]; rfl, ⟨max K1 L.length, fun k hk => ?_⟩, ⟨max K2 L.length, fun k hk => ?_⟩⟩
    · have hmem : ∀ y ∈ L.set AT (insK x D L.length) ++ [(⟨s, [], []⟩ : S62)], y ∈ L ∨ y = insK x D L.length ∨ y = ⟨s, [], []⟩ := by
        intro y hy
        rcases List.mem_append.1 hy with hy | hy
        · rcases List.mem_or_eq_of_mem_set hy with h | h
          · exact .inl h
          · exact .inr (.inl h)
        · exact .inr (.inr (by simpa using hy))
      have hl2 : (insK x D L.length).f1.length = x.f1.length + 1 ∧ (insK x D L.length).f2.length = x.f2.length + 1 := by
        simp only [insK, List.length_append, List.length_take, List.length_drop, List.length_singleton]
        omega
      have hLL : (L.set AT (insK x D L.length) ++ [(⟨s, [], []⟩ : S62)]).length = L.length + 1 := by rw [List.length_append, List.length_set]; rfl
      refine ⟨by omega, fun y hy => ?_, fun y hy => ?_, fun y hy => ?_, fun i y hy q hq => ?_, fun y hy => ?_⟩
      · rcases hmem y hy with h | h | h
        · exact hG.word y h
        · rw [h]; exact hG.word x hm
        · rw [h]; exact hs
      · rcases hmem y hy with h | h | h
        · exact hG.len y h
        · rw [h]; omega
        · rw [h]
      · rcases hmem y hy with h | h | h
        · exact hG.rise y h
        · rw [h]; exact rises_ins (hG.rise x hm) hat
        · rw [h]; simp [Rises]
      · rw [hLL]
        by_cases hi : i < L.length
        · rw [List.getElem?_append_left (by rw [List.length_set]; exact hi), List.getElem?_set] at hy
          split at hy
          · next e =>
            subst e
            try rw [if_pos hA] at hy
            obtain rfl := Option.some.inj hy
            have hq2 : q ∈ x.f2 ∨ q = (L.length : Int) := by
              simp only [insK, List.mem_append, List.mem_singleton] at hq
              rcases hq with (hq | hq) | hq
              · exact .inl (List.mem_of_mem_take hq)
              · exact .inr hq
              · exact .inl (List.mem_of_mem_drop hq)
            rcases hq2 with hq2 | hq2
            · have := hG.kids AT x hx q hq2
              omega
            · omega
          · have := hG.kids i y hy q hq
            omega
        · rw [List.getElem?_append_right (by rw [List.length_set]; omega)] at hy
          have : y = ⟨s, [], []⟩ := by
            cases hk : i - (L.set AT (insK x D L.length)).length with
            | zero => rw [hk] at hy; simpa using hy.symm
            | succ m => rw [hk] at hy; simp at hy
          rw [this] at hq
          cases hq
      · rw [hLL]
        rcases hmem y hy with h | h | h
        · have := hG.few y h; omega
        · rw [h]; omega
        · rw [h]; simp
    · show spec_l12Put.f k L s = _
      unfold spec_l12Put.f
      rw [if_neg h0, if_pos (by omega), g1 k (Nat.le_trans (Nat.le_max_left _ _) hk) k (Nat.le_trans (Nat.le_max_right _ _) hk), Option.bind_some]
      dsimp only
      rw [hx, Option.bind_some, if_pos ⟨by have := hG.small; omega, by have := hG.small; omega, by omega⟩]
      rfl
    · have := g2 k (Nat.le_trans (Nat.le_max_left _ _) hk) k (Nat.le_trans (Nat.le_max_right _ _) hk)
      rw [hset] at this
      exact this
/-- Words of their own. -/
def kwords : List ByteArray → List ByteArray → Bool
  | _, [] => true
  | pre, s :: rest => (isWordB s && !hasB pre s) && kwords (pre ++ [s]) rest
def goodKw (W : List ByteArray) : Bool := kwords [] W && decide (W.length ≤ 20)
theorem isWordB_size {s : ByteArray} (h : isWordB s = true) : s.size ≤ 12 := by
  simp only [isWordB, Bool.and_eq_true, decide_eq_true_eq] at h
  exact h.2.2
theorem take_pre {W pre rest : List ByteArray} (h : W = pre ++ rest) : W.take pre.length = pre := by rw [h]; exact List.take_left' rfl
theorem kw_loop (W : List ByteArray) (hW : W.length ≤ 1048576) (hs : ∀ s ∈ W, s.size ≤ 1048576) : ∀ (rest pre : List ByteArray), W = pre ++ rest → Ev (fun k => spec_l12Words.l0 k W W W.length pre.length) (kwords pre rest && decide (W.length ≤ 20))
  | [], pre, h => by
    have e : W.length = pre.length := by rw [h, List.append_nil]
    refine Ev.step (fun k => spec_l12Words.l0.eq_2 ..) (ev_if_neg (by omega) (ev_some ?_))
    rw [kwords, Bool.true_and]
    by_cases h2 : W.length ≤ 20
    · rw [decide_eq_true h2, decide_eq_true (by omega)]
    · rw [decide_eq_false h2, decide_eq_false (by omega)]
  | s :: rest, pre, h => by
    obtain ⟨hi, hx⟩ := mid_at h
    have hx : rdOf ByteArray.empty W pre.length = s := hx _
    have hsz := hs s (by rw [h]; simp)
    have hpre : pre.length ≤ 1048576 := by omega
    refine Ev.step (fun k => spec_l12Words.l0.eq_2 ..) (ev_if_pos (by omega) (ev_if_pos (by omega) (ev_if_pos (by omega) ?_)))
    rw [hx, Int.toNat_natCast, take_pre h, wrap_succ (by omega), kwords]
    refine ev_bind (spec_l9Word_ev s hsz) ?_
    cases isWordB s with
    | false => exact ev_if_neg (by simp) (ev_some rfl)
    | true =>
      refine ev_if_pos rfl (ev_if_pos (by omega) (ev_bind (spec_hasText_ev s pre hpre) ?_))
      cases hasB pre s with
      | true => exact ev_if_pos rfl (ev_some rfl)
      | false =>
        refine ev_if_neg (by simp) ?_
        have ih := kw_loop W hW hs rest (pre ++ [s]) (by rw [h]; simp)
        rw [List.length_append, List.length_singleton] at ih
        exact ih
theorem kw_ev (W : List ByteArray) (hW : W.length ≤ 1048576) (hs : ∀ s ∈ W, s.size ≤ 1048576) : Ev (fun k => spec_l12Words.f k W) (goodKw W) := by
  unfold spec_l12Words.f
  exact kw_loop W hW hs W [] rfl
/-- Both builds over the words that are left. -/
theorem build_loop (W : List ByteArray) : ∀ (rest pre : List ByteArray) (L : List (S62)), W = pre ++ rest → L.length = pre.length → L.map (fun x => x.f0) = pre → KGood L → kwords pre rest = true → W.length ≤ 20 →
    ∃ M, KGood M ∧ M.map (fun x => x.f0) = W ∧ Ev (fun k => spec_l12Build.l k rest L) M ∧ Ev (fun k => impl_knots.l k W pre.length rest L) (M, true)
  | [], pre, L, h, hl, hm, hG, _, _ => ⟨L, hG, by rw [hm, h, List.append_nil], ev_fun fun _ => rfl, ev_fun fun _ => rfl⟩
  | s :: rest, pre, L, h, hl, hm, hG, hk, h20 => by
    rw [kwords, Bool.and_eq_true, Bool.and_eq_true, Bool.not_eq_true'] at hk
    obtain ⟨⟨hw, hn⟩, hk⟩ := hk
    have hsz := isWordB_size hw
    have hlen : pre.length < W.length := by rw [h]; simp
    obtain ⟨L2, g1, g2, g3, e1, e2⟩ := put_both L hG (by omega) s hsz
    obtain ⟨M, m1, m2, m3, m4⟩ := build_loop W rest (pre ++ [s]) L2 (by rw [h]; simp) (by rw [g3, hl, List.length_append]; rfl) (by rw [g2, hm]) g1 hk h20
    have hi := impl_isWord_ev s (by omega)
    rw [hw] at hi
    have hc := contains_ev s pre (by omega)
    rw [hn] at hc
    rw [hl] at e2
    refine ⟨M, m1, m2, ev_bind e1 m3, ?_⟩
    have hU : (fun k => impl_knots.l k W pre.length (s :: rest) L) = fun k => (impl_isWord.f k s).bind fun b => if b = true then (slices_Contains_string_string.f k pre s).bind fun c => if c = true then some ([], false) else (impl_knots.go k (L ++ [(⟨s, [], []⟩ : S62)]) s pre.length k 0).bind fun a => impl_knots.l k W (pre.length + 1) rest a else some ([], false) := by
      funext k
      rw [impl_knots.l, take_pre h]
    rw [hU]
    refine ev_bind hi (ev_if_pos rfl (ev_bind hc (ev_if_neg (by simp) (ev_bind e2 ?_))))
    rw [List.length_append, List.length_singleton] at m4
    exact m4
theorem bad_loop (W : List ByteArray) (hs : ∀ s ∈ W, s.size ≤ 1048576) : ∀ (rest pre : List ByteArray) (L : List (S62)), W = pre ++ rest → L.length = pre.length → L.map (fun x => x.f0) = pre → KGood L → kwords pre rest = false → W.length ≤ 20 →
    Ev (fun k => impl_knots.l k W pre.length rest L) (([] : List (S62)), false)
  | [], pre, L, _, _, _, _, hk, _ => by cases hk
  | s :: rest, pre, L, h, hl, hm, hG, hk, h20 => by
    have hlen : pre.length < W.length := by rw [h]; simp
    have hsz0 := hs s (by rw [h]; simp)
    have hi := impl_isWord_ev s hsz0
    have hU : (fun k => impl_knots.l k W pre.length (s :: rest) L) = fun k => (impl_isWord.f k s).bind fun b => if b = true then (slices_Contains_string_string.f k pre s).bind fun c => if c = true then some ([], false) else (impl_knots.go k (L ++ [(⟨s, [], []⟩ : S62)]) s pre.length k 0).bind fun a => impl_knots.l k W (pre.length + 1) rest a else some ([], false) := by
      funext k
      rw [impl_knots.l, take_pre h]
    rw [hU]
    cases hw : isWordB s with
    | false =>
      rw [hw] at hi
      exact ev_bind hi (ev_if_neg (by simp) (ev_some rfl))
    | true =>
      rw [hw] at hi
      have hsz := isWordB_size hw
      refine ev_bind hi (ev_if_pos rfl ?_)
      have hc := contains_ev s pre (by omega)
      cases hn : hasB pre s with
      | true =>
        rw [hn] at hc
        exact ev_bind hc (ev_if_pos rfl (ev_some rfl))
      | false =>
        rw [hn] at hc
        obtain ⟨L2, g1, g2, g3, e1, e2⟩ := put_both L hG (by omega) s hsz
        rw [hl] at e2
        have hk2 : kwords (pre ++ [s]) rest = false := by rw [kwords, hw, hn] at hk; simpa using hk
        have ih := bad_loop W hs rest (pre ++ [s]) L2 (by rw [h]; simp) (by rw [g3, hl, List.length_append]; rfl) (by rw [g2, hm]) g1 hk2 h20
        rw [List.length_append, List.length_singleton] at ih
        exact ev_bind hc (ev_if_neg (by simp) (ev_bind e2 ih))
theorem kgood_nil : KGood [] := ⟨by simp, by simp, by simp, by simp, fun i x hx => by simp at hx, by simp⟩
/-- What both answer. -/
theorem knots_both (W : List ByteArray) (hW : W.length ≤ 1048576) (hs : ∀ s ∈ W, s.size ≤ 1048576) : ∃ R : List (S62) × Bool, R.2 = goodKw W ∧ KGood R.1 ∧ (R.2 = true → R.1.map (fun x => x.f0) = W ∧ Ev (fun k => spec_l12Build.f k W) R.1) ∧ Ev (fun k => impl_knots.f k W) R := by
  by_cases h20 : W.length ≤ 20
  · have hf : ∀ k, impl_knots.f k W = impl_knots.l k W 0 W [] := fun k => by unfold impl_knots.f; rw [if_neg (by omega)]
    cases hk : kwords [] W with
    | true =>
      obtain ⟨M, m1, m2, m3, m4⟩ := build_loop W W [] [] rfl rfl rfl kgood_nil hk h20
      refine ⟨(M, true), by unfold goodKw; rw [hk, decide_eq_true h20]; rfl, m1, fun _ => ⟨m2, ?_⟩, ?_⟩
      · obtain ⟨K, h⟩ := m3
        exact ⟨K, fun k hk' => by show spec_l12Build.f k W = _; unfold spec_l12Build.f; rw [if_pos (by omega)]; exact h k hk'⟩
      · obtain ⟨K, h⟩ := m4
        exact ⟨K, fun k hk' => (hf k).trans (h k hk')⟩
    | false =>
      obtain ⟨K, h⟩ := bad_loop W hs W [] [] rfl rfl rfl kgood_nil hk h20
      exact ⟨([], false), by unfold goodKw; rw [hk]; rfl, kgood_nil, fun q => (by cases q), ⟨K, fun k hk' => (hf k).trans (h k hk')⟩⟩
  · refine ⟨([], false), by unfold goodKw; rw [decide_eq_false h20, Bool.and_false], kgood_nil, fun q => (by cases q), ev_fun fun k => ?_⟩
    unfold impl_knots.f
    rw [if_pos (by omega)]
theorem KGood.sizes {L : List (S62)} (h : KGood L) : ∀ x ∈ L, x.f1.length ≤ 1048576 ∧ x.f2.length ≤ 1048576 := fun x hx => by
  have h1 := h.few x hx
  have h2 := h.small
  have h3 := h.len x hx
  omega

/-! ### lists of numbers alike -/
theorem eqInts_loop (a b : List Int) (hl : a.length = b.length) (ha : a.length ≤ 1048576) : ∀ (r1 r2 : List Int) (i : Nat), a.drop i = r1 → b.drop i = r2 → Ev (fun k => slices_Equal_int_int.l0 k a b a.length i) (decide (r1 = r2))
  | [], r2, i, h1, h2 => by
    have h := drop_nil h1
    have h3 : r2 = [] := by rw [← h2]; exact List.drop_eq_nil_of_le (by omega)
    exact Ev.step (fun k => slices_Equal_int_int.l0.eq_2 ..) (ev_if_neg (by omega) (ev_some (by simp [h3])))
  | x :: r1, [], i, h1, h2 => by
    have := drop_nil h2
    have := (drop_cons h1).1
    omega
  | x :: r1, y :: r2, i, h1, h2 => by
    obtain ⟨hi, hd1, hx⟩ := drop_cons h1
    obtain ⟨hj, hd2, hy⟩ := drop_cons h2
    have hx : rd a i = x := hx _
    have hy : rd b i = y := hy _
    refine Ev.step (fun k => slices_Equal_int_int.l0.eq_2 ..) (ev_if_pos (by omega) (ev_if_pos (by omega) (ev_if_pos (by omega) (ev_if_pos (by omega) ?_))))
    rw [hx, hy]
    by_cases h : x = y
    · refine ev_if_pos h ?_
      rw [wrap_succ (by omega)]
      refine ev_eq (eqInts_loop a b hl ha r1 r2 (i + 1) hd1 hd2) ?_
      simp [h]
    · exact ev_if_neg h (ev_some (by simp [h]))
theorem eqInts_ev (a b : List Int) (ha : a.length ≤ 1048576) : Ev (fun k => slices_Equal_int_int.f k a b) (decide (a = b)) := by
  unfold slices_Equal_int_int.f
  by_cases hl : a.length = b.length
  · exact ev_if_pos (by rw [hl]) (eqInts_loop a b hl ha a b 0 rfl rfl)
  · exact ev_if_neg (by omega) (ev_some (by rw [decide_eq_false (fun h => hl (by rw [h]))]))

theorem sameI_loop (a b : List Int) (hl : a.length = b.length) (ha : a.length ≤ 1048576) : ∀ (r1 r2 : List Int) (i : Nat), a.drop i = r1 → b.drop i = r2 → Ev (fun k => spec_l1Same.l0 k a b a.length i) (decide (r1 = r2))
  | [], r2, i, h1, h2 => by
    have h := drop_nil h1
    have h3 : r2 = [] := by rw [← h2]; exact List.drop_eq_nil_of_le (by omega)
    exact Ev.step (fun k => spec_l1Same.l0.eq_2 ..) (ev_if_neg (by omega) (ev_some (by simp [h3])))
  | x :: r1, [], i, h1, h2 => by
    have := drop_nil h2
    have := (drop_cons h1).1
    omega
  | x :: r1, y :: r2, i, h1, h2 => by
    obtain ⟨hi, hd1, hx⟩ := drop_cons h1
    obtain ⟨hj, hd2, hy⟩ := drop_cons h2
    have hx : rd a i = x := hx _
    have hy : rd b i = y := hy _
    refine Ev.step (fun k => spec_l1Same.l0.eq_2 ..) (ev_if_pos (by omega) (ev_if_pos (by omega) (ev_if_pos (by omega) (ev_if_pos (by omega) ?_))))
    rw [hx, hy]
    by_cases h : x = y
    · refine ev_if_pos h ?_
      rw [wrap_succ (by omega)]
      refine ev_eq (sameI_loop a b hl ha r1 r2 (i + 1) hd1 hd2) ?_
      simp [h]
    · exact ev_if_neg h (ev_some (by simp [h]))
theorem sameI_ev (a b : List Int) (ha : a.length ≤ 1048576) : Ev (fun k => spec_l1Same.f k a b) (decide (a = b)) := by
  unfold spec_l1Same.f
  by_cases hl : a.length = b.length
  · exact ev_if_pos (by rw [hl]) (sameI_loop a b hl ha a b 0 rfl rfl)
  · exact ev_if_neg (by omega) (ev_some (by rw [decide_eq_false (fun h => hl (by rw [h]))]))

/-! ### good knots -/
def wordsK (L : List (S62)) : List ByteArray := L.map fun x => x.f0
theorem of_loop (L : List (S62)) (hl : L.length ≤ 1048576) : ∀ (rest : List (S62)) (acc : List ByteArray) (i : Nat), L.drop i = rest → acc.length ≤ i → Ev (fun k => spec_l12Of.l0 k acc L L.length i) (acc ++ wordsK rest)
  | [], acc, i, hd, ha => by
    have h := drop_nil hd
    exact Ev.step (fun k => spec_l12Of.l0.eq_2 ..) (ev_if_neg (by omega) (ev_some (by simp [wordsK])))
  | x :: rest, acc, i, hd, ha => by
    obtain ⟨hi, hd', hx⟩ := drop_cons hd
    have hx : rd_T62 L i = x := hx _
    refine Ev.step (fun k => spec_l12Of.l0.eq_2 ..) (ev_if_pos (by omega) (ev_if_pos (by omega) (ev_if_pos (by omega) (ev_if_pos (by omega) ?_))))
    rw [hx, wrap_succ (by omega)]
    refine ev_eq (of_loop L hl rest (acc ++ [x.f0]) (i + 1) hd' (by rw [List.length_append, List.length_singleton]; omega)) (by simp [wordsK])
theorem of_ev (L : List (S62)) (hl : L.length ≤ 1048576) : Ev (fun k => spec_l12Of.f k L) (wordsK L) := ev_eq (of_loop L hl L [] 0 rfl (Nat.le_refl _)) (by simp)
theorem kws_loop (L : List (S62)) (hl : L.length ≤ 1048576) : ∀ (rest : List (S62)) (acc : List ByteArray) (i : Nat), L.drop i = rest → acc.length ≤ i → Ev (fun k => impl_knotWords.l0 k acc L L.length i) (acc ++ wordsK rest)
  | [], acc, i, hd, ha => by
    have h := drop_nil hd
    exact Ev.step (fun k => impl_knotWords.l0.eq_2 ..) (ev_if_neg (by omega) (ev_some (by simp [wordsK])))
  | x :: rest, acc, i, hd, ha => by
    obtain ⟨hi, hd', hx⟩ := drop_cons hd
    have hx : rd_T62 L i = x := hx _
    refine Ev.step (fun k => impl_knotWords.l0.eq_2 ..) (ev_if_pos (by omega) (ev_if_pos (by omega) (ev_if_pos (by omega) (ev_if_pos (by omega) ?_))))
    rw [hx, wrap_succ (by omega)]
    refine ev_eq (kws_loop L hl rest (acc ++ [x.f0]) (i + 1) hd' (by rw [List.length_append, List.length_singleton]; omega)) (by simp [wordsK])
theorem kws_ev (L : List (S62)) (hl : L.length ≤ 1048576) : Ev (fun k => impl_knotWords.f k L) (wordsK L) := ev_eq (kws_loop L hl L [] 0 rfl (Nat.le_refl _)) (by simp)
def likeB : List (S62) → List (S62) → Bool
  | [], _ => true
  | _ :: _, [] => true
  | x :: M, y :: L => decide (x.f1 = y.f1) && (decide (x.f2 = y.f2) && likeB M L)
theorem like_eq : ∀ (M L : List (S62)), wordsK M = wordsK L → likeB M L = true → M = L
  | [], [], _, _ => rfl
  | [], y :: L, h, _ => by simp [wordsK] at h
  | x :: M, [], h, _ => by simp [wordsK] at h
  | x :: M, y :: L, h, hl => by
    simp only [likeB, Bool.and_eq_true, decide_eq_true_eq] at hl
    have h1 : x.f0 = y.f0 ∧ wordsK M = wordsK L := by simpa [wordsK] using h
    rw [like_eq M L h1.2 hl.2.2]
    obtain ⟨a, b, c⟩ := x
    obtain ⟨a', b', c'⟩ := y
    simp only at h1 hl
    rw [h1.1, hl.1, hl.2.1]
theorem spec_gk_loop (L M : List (S62)) (hM : M.length ≤ 20) (hlen : M.length = L.length) (hf : ∀ x ∈ M, x.f1.length ≤ 1048576 ∧ x.f2.length ≤ 1048576) : ∀ (rM rL : List (S62)) (i : Nat), M.drop i = rM → L.drop i = rL → Ev (fun k => spec_GoodKnots.l0 k L M M.length i) (likeB rM rL)
  | [], rL, i, h1, h2 => by
    have h := drop_nil h1
    exact Ev.step (fun k => spec_GoodKnots.l0.eq_2 ..) (ev_if_neg (by omega) (ev_some (by unfold likeB; rfl)))
  | x :: rM, [], i, h1, h2 => by
    have := drop_nil h2
    have := (drop_cons h1).1
    omega
  | x :: rM, y :: rL, i, h1, h2 => by
    obtain ⟨hi, hd1, hx⟩ := drop_cons h1
    obtain ⟨hj, hd2, hy⟩ := drop_cons h2
    have hx : rd_T62 M i = x := hx _
    have hy : rd_T62 L i = y := hy _
    have hm : x ∈ M := by
      have : x ∈ M.drop i := by rw [h1]; simp
      exact List.mem_of_mem_drop this
    refine Ev.step (fun k => spec_GoodKnots.l0.eq_2 ..) (ev_if_pos (by omega) (ev_if_pos (by omega) (ev_if_pos (by omega) (ev_if_pos (by omega) ?_))))
    rw [hx, hy, wrap_succ (by omega), likeB]
    refine ev_bind (sameI_ev x.f1 y.f1 (hf x hm).1) ?_
    by_cases e1 : x.f1 = y.f1
    · rw [decide_eq_true e1]
      refine ev_if_pos rfl (ev_bind (sameI_ev x.f2 y.f2 (hf x hm).2) ?_)
      by_cases e2 : x.f2 = y.f2
      · rw [decide_eq_true e2]
        exact ev_if_pos rfl (ev_eq (spec_gk_loop L M hM hlen hf rM rL (i + 1) hd1 hd2) (by simp))
      · rw [decide_eq_false e2]
        exact ev_if_neg (by simp) (ev_some rfl)
    · rw [decide_eq_false e1]
      exact ev_if_neg (by simp) (ev_some rfl)
theorem impl_gk_loop (L M : List (S62)) (hM : M.length ≤ 20) (hlen : M.length = L.length) (hf : ∀ x ∈ L, x.f1.length ≤ 1048576 ∧ x.f2.length ≤ 1048576) : ∀ (rM rL : List (S62)) (i : Nat), M.drop i = rM → L.drop i = rL → wordsK rM = wordsK rL → Ev (fun k => slices_EqualFunc_impl_Knot__impl_GoodKnots_1.l0 k M L L.length i) (likeB rM rL)
  | [], rL, i, h1, h2, _ => by
    have h := drop_nil h1
    exact Ev.step (fun k => slices_EqualFunc_impl_Knot__impl_GoodKnots_1.l0.eq_2 ..) (ev_if_neg (by omega) (ev_some (by unfold likeB; rfl)))
  | x :: rM, [], i, h1, h2, _ => by
    have := drop_nil h2
    have := (drop_cons h1).1
    omega
  | x :: rM, y :: rL, i, h1, h2, hw => by
    obtain ⟨hi, hd1, hx⟩ := drop_cons h1
    obtain ⟨hj, hd2, hy⟩ := drop_cons h2
    have hx : rd_T62 M i = x := hx _
    have hy : rd_T62 L i = y := hy _
    have hm : y ∈ L := by
      have : y ∈ L.drop i := by rw [h2]; simp
      exact List.mem_of_mem_drop this
    have hw1 : x.f0 = y.f0 ∧ wordsK rM = wordsK rL := by simpa [wordsK] using hw
    refine Ev.step (fun k => slices_EqualFunc_impl_Knot__impl_GoodKnots_1.l0.eq_2 ..) (ev_if_pos (by omega) (ev_if_pos (by omega) (ev_if_pos (by omega) (ev_if_pos (by omega) ?_))))
    rw [hx, hy, wrap_succ (by omega), likeB]
    have e0 : y.f0.toList = x.f0.toList := by rw [hw1.1]
    have ih := impl_gk_loop L M hM hlen hf rM rL (i + 1) hd1 hd2 hw1.2
    by_cases e1 : x.f1 = y.f1
    · by_cases e2 : x.f2 = y.f2
      · refine ev_bind (a := true) ?_ (ev_if_pos rfl (ev_eq ih (by simp [e1, e2])))
        unfold impl_GoodKnots_1.f
        refine ev_if_pos e0 (ev_bind (eqInts_ev y.f1 x.f1 (hf y hm).1) (ev_if_pos (by simp [e1]) (ev_bind (eqInts_ev y.f2 x.f2 (hf y hm).2) (ev_some (by simp [e2])))))
      · refine ev_bind (a := false) ?_ (ev_if_neg (by simp) (ev_some (by simp [e2])))
        unfold impl_GoodKnots_1.f
        refine ev_if_pos e0 (ev_bind (eqInts_ev y.f1 x.f1 (hf y hm).1) (ev_if_pos (by simp [e1]) (ev_bind (eqInts_ev y.f2 x.f2 (hf y hm).2) (ev_some (by simpa using fun q => e2 q.symm)))))
    · refine ev_bind (a := false) ?_ (ev_if_neg (by simp) (ev_some (by simp [e1])))
      unfold impl_GoodKnots_1.f
      exact ev_if_pos e0 (ev_bind (eqInts_ev y.f1 x.f1 (hf y hm).1) (ev_if_neg (by simpa using fun q => e1 q.symm) (ev_some rfl)))
/-- What both answer, and what it says. -/
theorem GoodKnots_both (L : List (S62)) (hL : L.length ≤ 1048576) (hs : ∀ x ∈ L, x.f0.size ≤ 1048576) (hf : ∀ x ∈ L, x.f1.length ≤ 1048576 ∧ x.f2.length ≤ 1048576) :
    ∃ b : Bool, Ev (fun k => spec_GoodKnots.f k L) b ∧ Ev (fun k => impl_GoodKnots.f k L) b ∧ (b = true → KGood L ∧ goodKw (wordsK L) = true) := by
  have hW : (wordsK L).length ≤ 1048576 := by simpa [wordsK] using hL
  have hS : ∀ s ∈ wordsK L, s.size ≤ 1048576 := by
    intro s hs'
    obtain ⟨x, hx, rfl⟩ := List.mem_map.1 hs'
    exact hs x hx
  obtain ⟨⟨M, ok⟩, h1, hG, h3, h4⟩ := knots_both (wordsK L) hW hS
  have h1 : ok = goodKw (wordsK L) := h1
  have hG : KGood M := hG
  have e := kw_ev (wordsK L) hW hS
  rw [← h1] at e
  cases ok with
  | false =>
    refine ⟨false, ?_, ?_, fun q => (by cases q)⟩
    · unfold spec_GoodKnots.f
      exact ev_bind (of_ev L hL) (ev_bind e (ev_if_neg (by simp) (ev_some rfl)))
    · unfold impl_GoodKnots.f
      exact ev_bind (kws_ev L hL) (ev_bind h4 (ev_if_neg (by simp) (ev_some rfl)))
  | true =>
    obtain ⟨hm, hb⟩ := h3 rfl
    have hm : wordsK M = wordsK L := hm
    have hb : Ev (fun k => spec_l12Build.f k (wordsK L)) M := hb
    have hlen : M.length = L.length := by
      have := congrArg List.length hm
      simpa [wordsK] using this
    have hsm : M.length ≤ 20 := hG.small
    have s1 := spec_gk_loop L M hsm hlen hG.sizes M L 0 rfl rfl
    have s2 := impl_gk_loop L M hsm hlen hf M L 0 rfl rfl hm
    refine ⟨likeB M L, ?_, ?_, fun q => ?_⟩
    · unfold spec_GoodKnots.f
      exact ev_bind (of_ev L hL) (ev_bind e (ev_if_pos rfl (ev_bind hb s1)))
    · unfold impl_GoodKnots.f
      refine ev_bind (kws_ev L hL) (ev_bind h4 (ev_if_pos rfl (ev_bind ?_ (ev_some rfl))))
      unfold slices_EqualFunc_impl_Knot__impl_GoodKnots_1.f
      have hli : (L.length : Int) = (M.length : Int) := by omega
      exact ev_if_pos hli s2
    · have := like_eq M L hm q
      subst this
      exact ⟨hG, h1.symm⟩

/-! ### marks and likeness of knots -/
theorem eqKnot_ev (x : S62) (h1 : x.f1.length ≤ 1048576) (h2 : x.f2.length ≤ 1048576) : Ev (fun k => laws_eqKnot.f k x.f0 x.f1 x.f2 x.f0 x.f1 x.f2) true := by
  unfold laws_eqKnot.f
  exact ev_if_pos rfl (ev_bind (eqIntS_ev x.f1 (by omega)) (ev_if_pos rfl (ev_bind (eqIntS_ev x.f2 (by omega)) (ev_if_pos rfl (ev_some rfl)))))
theorem eqKnotS_loop (l : List (S62)) (hl : l.length ≤ 1048576) (hw : ∀ x ∈ l, x.f1.length ≤ 1048576 ∧ x.f2.length ≤ 1048576) : ∀ (rest : List (S62)) (i : Nat), l.drop i = rest → Ev (fun k => laws_eqKnotS.l0 k l l i) true
  | [], i, hd => by
    have h := drop_nil hd
    exact Ev.step (fun k => laws_eqKnotS.l0.eq_2 ..) (ev_if_neg (by omega) (ev_some rfl))
  | x :: rest, i, hd => by
    obtain ⟨hi, hd', hx⟩ := drop_cons hd
    have hx : rd_T62 l i = x := hx _
    have hm : x ∈ l := by
      have : x ∈ l.drop i := by rw [hd]; simp
      exact List.mem_of_mem_drop this
    refine Ev.step (fun k => laws_eqKnotS.l0.eq_2 ..) (ev_if_pos (by omega) (ev_if_pos (by omega) (ev_if_pos (by omega) ?_)))
    rw [hx, wrap_succ (by omega)]
    exact ev_bind (eqKnot_ev x (hw x hm).1 (hw x hm).2) (ev_if_pos rfl (eqKnotS_loop l hl hw rest (i + 1) hd'))
theorem eqKnotS_ev (l : List (S62)) (hl : l.length ≤ 1048576) (hw : ∀ x ∈ l, x.f1.length ≤ 1048576 ∧ x.f2.length ≤ 1048576) : Ev (fun k => laws_eqKnotS.f k l l) true := by
  unfold laws_eqKnotS.f
  exact ev_if_pos rfl (eqKnotS_loop l hl hw l 0 rfl)

/-! ### Knot: sizes -/
theorem szIntS_ev (l : List Int) (left : Int) (h0 : 0 ≤ left) (h1 : left ≤ 1048576) (hw : l.length ≤ 9223372036854775807) : ∃ r, laws_szIntS.f l left = some r ∧ r ≤ 1048576 ∧ (0 ≤ r → r = left - l.length) ∧ (r < 0 ∨ 0 ≤ r) := by
  unfold laws_szIntS.f
  have e : wrap64 (left - (l.length : Int)) = left - l.length := wrap_id (by omega) (by omega)
  rw [e]
  by_cases h : left - (l.length : Int) < 0
  · exact ⟨-1, by rw [if_pos h], by omega, fun h => by omega, by omega⟩
  · exact ⟨_, by rw [if_neg h], by omega, fun _ => rfl, by omega⟩
def knotSz (x : S66) : Nat := x.f0.size + x.f1.length + x.f2.length
def sumKK : List (S66) → Nat
  | [] => 0
  | x :: l => knotSz x + sumKK l
theorem sumKK_mem : ∀ (l : List (S66)) (x : S66), x ∈ l → knotSz x ≤ sumKK l
  | y :: l, x, h => by
    unfold sumKK
    rcases List.mem_cons.1 h with rfl | h
    · omega
    · have := sumKK_mem l x h; omega
theorem szKnot_ev (x : S66) (left : Int) (h0 : 0 ≤ left) (h1 : left ≤ 1048576) (hs : x.f0.size ≤ 9223372036854775807) (hw : x.f1.length ≤ 9223372036854775807) (hw2 : x.f2.length ≤ 9223372036854775807) : ∃ r, laws_szKnot.f x.f0 x.f1 x.f2 left = some r ∧ r ≤ 1048576 ∧ (0 ≤ r → r = left - knotSz x) := by
  unfold laws_szKnot.f
  have e : wrap64 (left - (x.f0.size : Int)) = left - x.f0.size := wrap_id (by omega) (by omega)
  rw [e]
  by_cases h : left - (x.f0.size : Int) < 0
  · exact ⟨-1, by rw [if_pos h], by omega, fun h => by omega⟩
  obtain ⟨r1, e1, b1, a1, _⟩ := szIntS_ev x.f1 (left - x.f0.size) (by omega) (by omega) hw
  rw [if_neg h, e1, Option.bind_some]
  by_cases h2 : r1 < 0
  · exact ⟨-1, by rw [if_pos h2], by omega, fun h => by omega⟩
  obtain ⟨r2, e2, b2, a2, _⟩ := szIntS_ev x.f2 r1 (by omega) b1 hw2
  rw [if_neg h2, e2, Option.bind_some]
  by_cases h3 : r2 < 0
  · exact ⟨-1, by rw [if_pos h3], by omega, fun h => by omega⟩
  · refine ⟨r2, by rw [if_neg h3], b2, fun _ => ?_⟩
    have := a1 (by omega)
    have := a2 (by omega)
    unfold knotSz
    omega
theorem szKnotS_loop (l : List (S66)) (hl : l.length ≤ 1048576) (hw : ∀ x ∈ l, x.f0.size ≤ 9223372036854775807 ∧ x.f1.length ≤ 9223372036854775807 ∧ x.f2.length ≤ 9223372036854775807) : ∀ (rest : List (S66)) (i : Nat) (left : Int), l.drop i = rest → 0 ≤ left → left ≤ 1048576 →
    ∃ r, Ev (fun k => laws_szKnotS.l0 k l left i) r ∧ r ≤ 1048576 ∧ (0 ≤ r → r + (sumKK rest : Int) = left)
  | [], i, left, hd, h0, h1 => by
    have h := drop_nil hd
    exact ⟨left, Ev.step (fun k => laws_szKnotS.l0.eq_2 ..) (ev_if_neg (by omega) (ev_some rfl)), h1, fun _ => by unfold sumKK; omega⟩
  | s :: rest, i, left, hd, h0, h1 => by
    obtain ⟨hi, hd', hx⟩ := drop_cons hd
    have hx : rd_T66 l i = s := hx _
    have hs : s ∈ l := List.mem_of_mem_drop (by rw [hd]; exact List.mem_cons_self)
    obtain ⟨q, hq, hq1, hq2⟩ := szKnot_ev s left h0 h1 (hw s hs).1 (hw s hs).2.1 (hw s hs).2.2
    by_cases hn : q < 0
    · refine ⟨-1, Ev.step (fun k => laws_szKnotS.l0.eq_2 ..) (ev_if_pos (by omega) (ev_if_pos (by omega) ?_)), by omega, fun h => by omega⟩
      simp only [hx, hq, Option.bind_some]
      exact ev_if_pos hn (ev_some rfl)
    · obtain ⟨r, hr, hb, hall⟩ := szKnotS_loop l hl hw rest (i + 1) q hd' (by omega) hq1
      refine ⟨r, Ev.step (fun k => laws_szKnotS.l0.eq_2 ..) (ev_if_pos (by omega) (ev_if_pos (by omega) ?_)), hb, fun h => ?_⟩
      · simp only [hx, hq, Option.bind_some]
        rw [wrap_succ (by omega)]
        exact ev_if_neg hn hr
      · have h1 := hall h
        have h2 := hq2 (by omega)
        unfold sumKK
        omega
theorem szKnotS_ev (l : List (S66)) (left : Int) (h0 : 0 ≤ left) (h1 : left ≤ 1048576) (hl : l.length ≤ 9223372036854775807) (hw : ∀ x ∈ l, x.f0.size ≤ 9223372036854775807 ∧ x.f1.length ≤ 9223372036854775807 ∧ x.f2.length ≤ 9223372036854775807) :
    ∃ r, Ev (fun k => laws_szKnotS.f k l left) r ∧ r ≤ 1048576 ∧ (0 ≤ r → l.length ≤ 1048576 ∧ sumKK l ≤ 1048576 ∧ ∀ x ∈ l, x.f0.size ≤ 1048576 ∧ x.f1.length ≤ 1048576 ∧ x.f2.length ≤ 1048576) := by
  unfold laws_szKnotS.f
  have e : wrap64 (left - (l.length : Int)) = left - l.length := wrap_id (by omega) (by omega)
  simp only [e]
  by_cases hn : left - (l.length : Int) < 0
  · exact ⟨-1, ev_if_pos hn (ev_some rfl), by omega, fun h => by omega⟩
  · obtain ⟨r, hr, hb, hall⟩ := szKnotS_loop l (by omega) hw l 0 (left - l.length) rfl (by omega) (by omega)
    exact ⟨r, ev_if_neg hn hr, hb, fun h => by
      have h2 := hall h
      exact ⟨by omega, by omega, fun x hx => by have := sumKK_mem l x hx; unfold knotSz at this; omega⟩⟩

/-! ### Knot: copied -/
theorem toIntS_loop (l : List Int) (hl : l.length ≤ 1048576) : ∀ (rest : List Int) (pre : List Int) (i : Nat), l.drop i = rest → pre.length = i →
    Ev (fun k => laws_toIntS.l0 k l (pre ++ List.replicate rest.length 0) i) (pre ++ rest)
  | [], pre, i, hd, hp => by
    have h := drop_nil hd
    exact Ev.step (fun k => laws_toIntS.l0.eq_2 ..) (ev_if_neg (by omega) (ev_some rfl))
  | s :: rest, pre, i, hd, hp => by
    obtain ⟨hi, hd', hx⟩ := drop_cons hd
    refine Ev.step (fun k => laws_toIntS.l0.eq_2 ..) (ev_if_pos (by omega) (ev_if_pos (by omega) ?_))
    refine ev_if_pos (by rw [List.length_append, List.length_replicate, List.length_cons]; omega) ?_
    rw [rd_rdOf, hx, wrap_succ (by omega), Int.toNat_natCast, List.length_cons, List.replicate_succ]
    subst hp
    rw [set_at]
    have := toIntS_loop l hl rest (pre ++ [s]) (pre.length + 1) hd' (by simp)
    simpa using this
theorem toIntS_ev (l : List Int) (hl : l.length ≤ 1048576) : Ev (fun k => laws_toIntS.f k l) l := by
  unfold laws_toIntS.f
  refine ev_if_pos (by omega) (ev_if_pos (by omega) ?_)
  rw [Int.toNat_natCast]
  exact toIntS_loop l hl l [] 0 rfl rfl
def toKnot (x : S66) : S62 := ⟨x.f0, x.f1, x.f2⟩
theorem toKnot_ev (x : S66) (h : x.f1.length ≤ 1048576 ∧ x.f2.length ≤ 1048576) : Ev (fun k => laws_toKnot.f k x.f0 x.f1 x.f2) (x.f0, x.f1, x.f2) := by
  unfold laws_toKnot.f
  exact ev_bind (toIntS_ev x.f1 h.1) (ev_bind (toIntS_ev x.f2 h.2) (ev_some rfl))
theorem toKnotS_loop (l : List (S66)) (hl : l.length ≤ 1048576) (hw : ∀ x ∈ l, x.f1.length ≤ 1048576 ∧ x.f2.length ≤ 1048576) : ∀ (rest : List (S66)) (pre : List (S62)) (i : Nat), l.drop i = rest → pre.length = i →
    Ev (fun k => laws_toKnotS.l0 k l (pre ++ List.replicate rest.length z62) i) (pre ++ rest.map toKnot)
  | [], pre, i, hd, hp => by
    have h := drop_nil hd
    exact Ev.step (fun k => laws_toKnotS.l0.eq_2 ..) (ev_if_neg (by omega) (ev_some rfl))
  | s :: rest, pre, i, hd, hp => by
    obtain ⟨hi, hd', hx⟩ := drop_cons hd
    have hx : rd_T66 l i = s := hx _
    have hs : s ∈ l := List.mem_of_mem_drop (by rw [hd]; exact List.mem_cons_self)
    refine Ev.step (fun k => laws_toKnotS.l0.eq_2 ..) (ev_if_pos (by omega) (ev_if_pos (by omega) ?_))
    simp only [hx]
    refine ev_bind (toKnot_ev s (hw s hs)) ?_
    refine ev_if_pos (by rw [List.length_append, List.length_replicate, List.length_cons]; omega) ?_
    rw [wrap_succ (by omega), Int.toNat_natCast, List.length_cons, List.replicate_succ]
    subst hp
    rw [set_at]
    have := toKnotS_loop l hl hw rest (pre ++ [toKnot s]) (pre.length + 1) hd' (by simp)
    simpa [toKnot] using this
theorem toKnotS_ev (l : List (S66)) (hl : l.length ≤ 1048576) (hw : ∀ x ∈ l, x.f1.length ≤ 1048576 ∧ x.f2.length ≤ 1048576) : Ev (fun k => laws_toKnotS.f k l) (l.map toKnot) := by
  unfold laws_toKnotS.f
  refine ev_if_pos (by omega) (ev_if_pos (by omega) ?_)
  rw [Int.toNat_natCast]
  exact toKnotS_loop l hl hw l [] 0 rfl rfl

/-! ### the nearest word -/
def nearB (t x b : ByteArray) : Bool := decide (farD x t < farD b t) || (decide (farD x t = farD b t) && Op.bytesLess x.toList b.toList)
def nearL (t : ByteArray) : List ByteArray → ByteArray → ByteArray
  | [], b => b
  | x :: l, b => nearL t l (if nearB t x b = true then x else b)
theorem cmpI_ev (a b : Int) : cmp_Compare_int.f a b = some (if a < b then -1 else if a > b then 1 else 0) := by
  unfold cmp_Compare_int.f cmp_isNaN_int.f
  simp only [bne_self_eq_false, Option.bind_some]
  rw [if_neg (by decide), if_neg (by decide)]
  split
  · rfl
  · split <;> rfl
theorem cmpS_ev (a b : ByteArray) : cmp_Compare_string.f a b = some (if Op.bytesLess a.toList b.toList = true then -1 else if Op.bytesLess b.toList a.toList = true then 1 else 0) := by
  unfold cmp_Compare_string.f cmp_isNaN_string.f
  simp only [bne_self_eq_false, Option.bind_some]
  rw [if_neg (by decide), if_neg (by decide)]
  split
  · rfl
  · split <;> rfl
theorem or2_ev (a b : Int) : Ev (fun k => cmp_Or_int.f k [a, b]) (if a = 0 then b else a) := by
  unfold cmp_Or_int.f
  refine Ev.step (fun k => cmp_Or_int.l0.eq_2 ..) (ev_if_pos (by simp) (ev_if_pos (by omega) (ev_if_pos (by simp) ?_)))
  have e0 : rd [a, b] 0 = a := rfl
  rw [e0]
  by_cases h : a = 0
  · refine ev_if_pos h ?_
    rw [if_pos h]
    have w1 : wrap64 (0 + 1) = 1 := by rw [wrap_id (by omega) (by omega)]; rfl
    rw [w1]
    refine Ev.step (fun k => cmp_Or_int.l0.eq_2 ..) (ev_if_pos (by simp) (ev_if_pos (by omega) (ev_if_pos (by simp) ?_)))
    have e1 : rd [a, b] 1 = b := rfl
    rw [e1]
    by_cases h2 : b = 0
    · refine ev_if_pos h2 ?_
      have w2 : wrap64 (1 + 1) = 2 := by rw [wrap_id (by omega) (by omega)]; rfl
      rw [w2, h2]
      exact Ev.step (fun k => cmp_Or_int.l0.eq_2 ..) (ev_if_neg (by simp) (ev_some rfl))
    · exact ev_if_neg h2 (ev_some rfl)
  · rw [if_neg h]
    exact ev_if_neg h (ev_some rfl)
theorem near1_ev (x b t : ByteArray) (hx : x.size ≤ 1000) (hb : b.size ≤ 1000) (ht : t.size ≤ 1000) : ∃ r, Ev (fun k => impl_NearestOf_1.f k x b t) r ∧ (r < 0 ↔ nearB t x b = true) := by
  have e : ∀ k, impl_NearestOf_1.f k x b t = (impl_farOf.f k x t).bind fun p => (impl_farOf.f k b t).bind fun q => (cmp_Or_int.f k [(if p < q then -1 else if p > q then 1 else 0), (if Op.bytesLess x.toList b.toList = true then -1 else if Op.bytesLess b.toList x.toList = true then 1 else 0)]).bind fun r => some r := fun k => by
    unfold impl_NearestOf_1.f
    simp only [cmpI_ev, cmpS_ev, Option.bind_some]
  refine ⟨if (if farD x t < farD b t then (-1 : Int) else if farD x t > farD b t then 1 else 0) = 0 then (if Op.bytesLess x.toList b.toList = true then -1 else if Op.bytesLess b.toList x.toList = true then 1 else 0) else (if farD x t < farD b t then -1 else if farD x t > farD b t then 1 else 0), ?_, ?_⟩
  · rw [funext e]
    exact ev_bind (impl_far_ev x t hx ht) (ev_bind (impl_far_ev b t hb ht) (ev_bind (or2_ev _ _) (ev_some rfl)))
  unfold nearB
  rw [Bool.or_eq_true, Bool.and_eq_true, decide_eq_true_eq, decide_eq_true_eq]
  generalize farD x t = p
  generalize farD b t = q
  by_cases h1 : p < q
  · simp [h1]
  · by_cases h2 : p > q
    · have h3 : p ≠ q := by omega
      simp [h1, h2, h3]
    · have h3 : p = q := by omega
      subst h3
      simp only [Int.lt_irrefl, gt_iff_lt, if_false, if_true, true_and, false_or]
      by_cases h4 : Op.bytesLess x.toList b.toList = true
      · simp [h4]
      · by_cases h5 : Op.bytesLess b.toList x.toList = true
        · simp [h4, h5]
        · simp [h4, h5]
theorem min_loop (W : List ByteArray) (t : ByteArray) (hW : W.length ≤ 1000) (hs : ∀ s ∈ W, s.size ≤ 1000) (ht : t.size ≤ 1000) : ∀ (rest : List ByteArray) (b : ByteArray) (i : Nat), W.drop i = rest → b.size ≤ 1000 →
    Ev (fun k => slices_MinFunc_string__impl_NearestOf_1.l0 k W b i t) (nearL t rest b)
  | [], b, i, hd, hb => by
    have h := drop_nil hd
    exact Ev.step (fun k => slices_MinFunc_string__impl_NearestOf_1.l0.eq_2 ..) (ev_if_neg (by omega) (ev_some rfl))
  | x :: rest, b, i, hd, hb => by
    obtain ⟨hi, hd', hx⟩ := drop_cons hd
    have hm : x ∈ W := List.mem_of_mem_drop (by rw [hd]; exact List.mem_cons_self)
    obtain ⟨r, hr, hn⟩ := near1_ev x b t (hs x hm) hb ht
    refine Ev.step (fun k => slices_MinFunc_string__impl_NearestOf_1.l0.eq_2 ..) (ev_if_pos (by omega) (ev_if_pos (by omega) ?_))
    rw [hx, wrap_succ (by omega), nearL]
    refine ev_bind hr ?_
    by_cases h : nearB t x b = true
    · rw [if_pos h]
      exact ev_if_pos (hn.2 h) (min_loop W t hW hs ht rest x (i + 1) hd' (hs x hm))
    · rw [if_neg h]
      exact ev_if_neg (fun q => h (hn.1 q)) (min_loop W t hW hs ht rest b (i + 1) hd' hb)
theorem spec_near_loop (W : List ByteArray) (t : ByteArray) (hW : W.length ≤ 1000) (hs : ∀ s ∈ W, s.size ≤ 1000 ∧ s.size ≠ 0) (ht : t.size ≤ 1000) : ∀ (rest : List ByteArray) (b : ByteArray) (i : Nat), W.drop i = rest → b.size ≠ 0 →
    Ev (fun k => spec_NearestOf.l0 k t b (farD b t) W W.length i) (nearL t rest b, farD (nearL t rest b) t, true)
  | [], b, i, hd, hb => by
    have h := drop_nil hd
    exact Ev.step (fun k => spec_NearestOf.l0.eq_2 ..) (ev_if_neg (by omega) (ev_some rfl))
  | x :: rest, b, i, hd, hb => by
    obtain ⟨hi, hd', hx⟩ := drop_cons hd
    have hm : x ∈ W := List.mem_of_mem_drop (by rw [hd]; exact List.mem_cons_self)
    have i1 := spec_near_loop W t hW hs ht rest x (i + 1) hd' (hs x hm).2
    have i2 := spec_near_loop W t hW hs ht rest b (i + 1) hd' hb
    refine Ev.step (fun k => spec_NearestOf.l0.eq_2 ..) (ev_if_pos (by omega) (ev_if_pos (by omega) (ev_if_pos (by omega) ?_)))
    rw [hx, wrap_succ (by omega), nearL]
    refine ev_bind (spec_far_ev x t (hs x hm).1 ht) (ev_if_neg (fun h => hb ((toList_nil b).1 h)) ?_)
    by_cases h1 : farD x t < farD b t
    · have e : nearB t x b = true := by simp [nearB, h1]
      rw [if_pos e]
      exact ev_if_pos h1 i1
    · refine ev_if_neg h1 ?_
      by_cases h2 : farD x t = farD b t
      · refine ev_if_pos h2 ?_
        by_cases h3 : Op.bytesLess x.toList b.toList = true
        · have e : nearB t x b = true := by simp [nearB, h2, h3]
          rw [if_pos e]
          exact ev_if_pos h3 i1
        · have e : ¬ nearB t x b = true := by simp [nearB, h2, h3]
          rw [if_neg e]
          exact ev_if_neg h3 i2
      · have e : ¬ nearB t x b = true := by simp [nearB, h1, h2]
        rw [if_neg e]
        exact ev_if_neg h2 i2
theorem kwords_all : ∀ (W pre : List ByteArray), kwords pre W = true → ∀ s ∈ W, isWordB s = true
  | [], _, _, s, hs => by cases hs
  | x :: W, pre, h, s, hs => by
    rw [kwords, Bool.and_eq_true, Bool.and_eq_true] at h
    rcases List.mem_cons.1 hs with rfl | hs
    · exact h.1.1
    · exact kwords_all W _ h.2 s hs
theorem isWordB_pos {s : ByteArray} (h : isWordB s = true) : s.size ≠ 0 := by
  simp only [isWordB, Bool.and_eq_true, decide_eq_true_eq] at h
  omega
theorem Nearest_both (L : List (S62)) (t : ByteArray) (ht : t.size ≤ 1048576) (hL : L.length ≤ 1048576) (hs : ∀ x ∈ L, x.f0.size ≤ 1048576) (hf : ∀ x ∈ L, x.f1.length ≤ 1048576 ∧ x.f2.length ≤ 1048576) :
    ∃ R : ByteArray × Int × Bool, Ev (fun k => spec_NearestOf.f k L t) R ∧ Ev (fun k => impl_NearestOf.f k L t) R := by
  obtain ⟨b, e1, e2, e3⟩ := GoodKnots_both L hL hs hf
  have j1 : Ev (fun k => spec_NearestOf.j0 k L t true) ((⟨#[]⟩ : ByteArray), (0 : Int), false) := Ev.step (fun k => spec_NearestOf.j0.eq_2 ..) (ev_if_pos rfl (ev_some rfl))
  have j2 : Ev (fun k => impl_NearestOf.j0 k L true t) ((⟨#[]⟩ : ByteArray), (0 : Int), false) := Ev.step (fun k => impl_NearestOf.j0.eq_2 ..) (ev_if_pos rfl (ev_some rfl))
  cases b with
  | false =>
    refine ⟨((⟨#[]⟩ : ByteArray), (0 : Int), false), ?_, ?_⟩
    · unfold spec_NearestOf.f
      exact ev_bind e1 (ev_if_neg (by simp) j1)
    · unfold impl_NearestOf.f
      exact ev_bind e2 (ev_if_neg (by simp) j2)
  | true =>
    have w1 := spec_l9Word_ev t ht
    have w2 := impl_isWord_ev t ht
    cases ew : isWordB t with
    | false =>
      rw [ew] at w1 w2
      refine ⟨((⟨#[]⟩ : ByteArray), (0 : Int), false), ?_, ?_⟩
      · unfold spec_NearestOf.f
        exact ev_bind e1 (ev_if_pos rfl (ev_bind w1 (ev_if_neg (by simp) j1)))
      · unfold impl_NearestOf.f
        exact ev_bind e2 (ev_if_pos rfl (ev_bind w2 (ev_if_neg (by simp) j2)))
    | true =>
      rw [ew] at w1 w2
      have ht12 := isWordB_size ew
      obtain ⟨_, hg⟩ := e3 rfl
      have hg' := hg
      unfold goodKw at hg'
      rw [Bool.and_eq_true, decide_eq_true_eq] at hg'
      have hall := kwords_all (wordsK L) [] hg'.1
      cases hW : wordsK L with
      | nil =>
        have hl : L.length = 0 := by
          have := congrArg List.length hW
          simpa [wordsK] using this
        have hz : ((L.length : Int) == 0) = true := by rw [hl]; rfl
        refine ⟨((⟨#[]⟩ : ByteArray), (0 : Int), false), ?_, ?_⟩
        · unfold spec_NearestOf.f
          rw [hz]
          exact ev_bind e1 (ev_if_pos rfl (ev_bind w1 (ev_if_pos rfl j1)))
        · unfold impl_NearestOf.f
          rw [hz]
          exact ev_bind e2 (ev_if_pos rfl (ev_bind w2 (ev_if_pos rfl j2)))
      | cons x rest =>
        have hl : L.length ≠ 0 := by
          have := congrArg List.length hW
          simp [wordsK] at this
          omega
        have hz : ((L.length : Int) == 0) = false := beq_eq_false_iff_ne.mpr (by omega)
        have hwl : (wordsK L).length ≤ 1000 := by omega
        have hs1 : ∀ s ∈ wordsK L, s.size ≤ 1000 ∧ s.size ≠ 0 := fun s hs => ⟨by have := isWordB_size (hall s hs); omega, isWordB_pos (hall s hs)⟩
        have hx := hs1 x (by rw [hW]; simp)
        have hd1 : (wordsK L).drop 1 = rest := by rw [hW]; rfl
        have hx0 : rdOf ByteArray.empty (wordsK L) 0 = x := by rw [hW]; rfl
        have hlen : 0 < (wordsK L).length := by rw [hW]; simp
        refine ⟨(nearL t rest x, farD (nearL t rest x) t, true), ?_, ?_⟩
        · unfold spec_NearestOf.f
          rw [hz]
          refine ev_bind e1 (ev_if_pos rfl (ev_bind w1 (ev_if_pos rfl (Ev.step (fun k => spec_NearestOf.j0.eq_2 ..) (ev_if_neg (by simp) (ev_bind (of_ev L hL) ?_))))))
          refine Ev.step (fun k => spec_NearestOf.l0.eq_2 ..) (ev_if_pos (by omega) (ev_if_pos (by omega) (ev_if_pos (by omega) ?_)))
          rw [hx0]
          have w1 : wrap64 (0 + 1) = ((1 : Nat) : Int) := by rw [wrap_id (by omega) (by omega)]; rfl
          rw [w1]
          exact ev_bind (spec_far_ev x t hx.1 (by omega)) (ev_if_pos ((toList_nil _).2 rfl) (spec_near_loop (wordsK L) t hwl hs1 (by omega) rest x 1 hd1 hx.2))
        · unfold impl_NearestOf.f
          rw [hz]
          have hb : ∀ (r : List ByteArray) (b : ByteArray), b.size ≤ 1000 → (∀ s ∈ r, s.size ≤ 1000) → (nearL t r b).size ≤ 1000 := by
            intro r
            induction r with
            | nil => intro b hb _; exact hb
            | cons y r ih =>
              intro b hb hr
              rw [nearL]
              refine ih _ ?_ (fun s hs => hr s (by simp [hs]))
              split
              · exact hr y (by simp)
              · exact hb
          have hN := hb rest x hx.1 (fun s hs => (hs1 s (by rw [hW]; simp [hs])).1)
          refine ev_bind e2 (ev_if_pos rfl (ev_bind w2 (ev_if_pos rfl (Ev.step (fun k => impl_NearestOf.j0.eq_2 ..) (ev_if_neg (by simp) (ev_bind (kws_ev L hL) (ev_bind (a := nearL t rest x) ?_ (ev_bind (impl_far_ev _ t hN (by omega)) (ev_some rfl)))))))))
          unfold slices_MinFunc_string__impl_NearestOf_1.f
          refine ev_if_neg (by omega) (ev_if_pos (by omega) ?_)
          rw [hx0]
          exact min_loop (wordsK L) t hwl (fun s hs => (hs1 s hs).1) (by omega) rest x 1 hd1 hx.1

theorem FnExactNearestOf : laws_FnExactNearestOf.Pure := by
  intro l a hw _
  refine Ev.rounds (g := fun k => laws_FnExactNearestOf.f k l a) ?_
  unfold laws_FnExactNearestOf.f
  by_cases ha : (a.size : Int) > 1048576
  · exact ev_if_pos ha (ev_some rfl)
  refine ev_if_neg ha ?_
  obtain ⟨r, hr, _, hall⟩ := szKnotS_ev l 1048576 (by omega) (by omega) hw.1 (fun x hx => ⟨(hw.2 x hx).1, (hw.2 x hx).2.1.1, (hw.2 x hx).2.2.1⟩)
  refine ev_bind hr ?_
  by_cases hn : r < 0
  · exact ev_if_pos hn (ev_some rfl)
  obtain ⟨h1, _, h2⟩ := hall (by omega)
  refine ev_if_neg hn ?_
  have hto := toKnotS_ev l h1 (fun x hx => (h2 x hx).2)
  have h1' : (l.map toKnot).length ≤ 1048576 := by simpa using h1
  have h2' : ∀ x ∈ l.map toKnot, x.f0.size ≤ 1048576 ∧ x.f1.length ≤ 1048576 ∧ x.f2.length ≤ 1048576 := by
    intro x hx
    obtain ⟨y, hy, rfl⟩ := List.mem_map.1 hx
    exact h2 y hy
  revert hto h1' h2'
  generalize l.map toKnot = L
  intro hto hL hK
  have eL := eqKnotS_ev L hL (fun x hx => (hK x hx).2)
  obtain ⟨⟨s, d, ok⟩, e1, e2⟩ := Nearest_both L a (by omega) hL (fun x hx => (hK x hx).1) (fun x hx => (hK x hx).2)
  refine ev_bind hto (ev_bind e1 (ev_bind hto (ev_bind e2 (ev_if_pos rfl (ev_if_pos rfl ?_)))))
  have hb : (ok != ok) = false := by cases ok <;> rfl
  rw [hb]
  exact Ev.step (fun k => laws_FnExactNearestOf.j0.eq_2 ..) (ev_if_neg (by simp) (ev_bind hto (ev_bind eL (ev_if_pos rfl (ev_some rfl)))))

end Go.Proofs.Ytlohhmoaomlieaa.Pure
