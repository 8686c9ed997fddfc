/- The law FnExactWordsIn holds at every input; no conditions. -/
import Derived.Test.YtkccinkodbkfdaaQFnExactWordsInx5
import Derived.Test.YtkccinkodbkfdaaBase
import Derived.OpenShut
import Derived.Test.YtkccinkodbkfdaaSorted
namespace Go.Proofs.Ytkccinkodbkfdaa.Pure
open Go.RowKit Go.Proofs.Ytkccinkodbkfdaa.QFnExactWordsIn Go.Proofs.YtkccinkodbkfdaaW.PrintWords Go.Proofs.YtkccinkodbkfdaaW.PrintLast Go.Proofs.Ytkccinkodbkfdaa.Base
set_option linter.unusedSimpArgs false
set_option linter.unusedVariables false

def wf50 (x : S50) : Prop := (Lit.int .i64 x.f0).wf = true ∧ x.f1.size ≤ 9223372036854775807 ∧ (Lit.int .i64 x.f2).wf = true ∧ (Lit.int .i64 x.f3).wf = true
def laws_FnExactWordsIn.Pure : Prop := ∀ (l0 : List (S50)), (l0.length ≤ 9223372036854775807 ∧ ∀ y ∈ l0, wf50 y) → ∃ k, laws_FnExactWordsIn.f k l0 = some true

/-! ### words -/
def lettersN (s : ByteArray) : Nat → Nat → Bool
  | 0, _ => true
  | d + 1, i => (decide (97 ≤ bt s i) && decide (bt s i ≤ 122)) && lettersN s d (i + 1)

def isWordB (s : ByteArray) : Bool := lettersN s s.size 0 && (decide (1 ≤ s.size) && decide (s.size ≤ 12))

theorem spec_word_ev (s : ByteArray) (hs : s.size ≤ 1048576) : ∀ (d i : Nat), i + d = s.size → Ev (fun k => spec_l9Word.l0 k s i) (lettersN s d i && (decide (1 ≤ s.size) && decide (s.size ≤ 12)))
  | 0, i, hi => by
    refine Ev.step (fun k => spec_l9Word.l0.eq_2 ..) (ev_if_neg (by omega) (ev_fun fun k => ?_))
    simp only [spec_l1In.f, lettersN]
    by_cases h1 : 1 ≤ s.size
    · have h1' : (s.size : Int) ≥ 1 := by omega
      have h2 : ((s.size : Int) ≤ 12) = (s.size ≤ 12) := by apply propext; omega
      simp [h1, h1', h2]
    · have h1' : ¬ (s.size : Int) ≥ 1 := by omega
      simp [h1, h1']
  | d + 1, i, hi => by
    refine Ev.step (fun k => spec_l9Word.l0.eq_2 ..) (ev_if_pos (by omega) (ev_if_pos (by omega) ?_))
    by_cases h1 : bt s i < 97
    · exact ev_if_pos h1 (ev_some (by simp [lettersN, show ¬ 97 ≤ bt s i by omega]))
    · by_cases h2 : bt s i > 122
      · exact ev_if_neg h1 (ev_if_pos h2 (ev_some (by simp [lettersN, show ¬ bt s i ≤ 122 by omega])))
      · refine ev_if_neg h1 (ev_if_neg h2 ?_)
        rw [wrap_succ (by omega)]
        refine ev_eq (spec_word_ev s hs d (i + 1) (by omega)) ?_
        simp [lettersN, show 97 ≤ bt s i by omega, show bt s i ≤ 122 by omega]

theorem spec_l9Word_ev (s : ByteArray) (hs : s.size ≤ 1048576) : Ev (fun k => spec_l9Word.f k s) (isWordB s) := spec_word_ev s hs s.size 0 (by omega)

theorem impl_letters_ev (s : ByteArray) (hs : s.size ≤ 1048576) : ∀ (d i : Nat), i + d = s.size → Ev (fun k => impl_areLetters.l0 k s s.size i) (lettersN s d i && decide (s.size ≤ 12))
  | 0, i, hi => by
    refine Ev.step (fun k => impl_areLetters.l0.eq_2 ..) (ev_if_neg (by omega) (ev_fun fun k => ?_))
    have h2 : ((s.size : Int) ≤ 12) = (s.size ≤ 12) := by apply propext; omega
    simp [lettersN, h2]
  | d + 1, i, hi => by
    refine Ev.step (fun k => impl_areLetters.l0.eq_2 ..) (ev_if_pos (by omega) (ev_if_pos (by omega) (ev_if_pos (by omega) ?_)))
    unfold impl_isLetter.f
    by_cases h1 : bt s i ≥ 97
    · by_cases h2 : bt s i ≤ 122
      · simp only [h1, h2, if_true, decide_true, Option.bind_some]
        rw [wrap_succ (by omega)]
        refine ev_eq (impl_letters_ev s hs d (i + 1) (by omega)) ?_
        simp [lettersN, show 97 ≤ bt s i by omega, h2]
      · exact ev_fun fun k => by simp [lettersN, h1, h2]
    · exact ev_fun fun k => by simp [lettersN, h1]

theorem impl_isWord_ev (s : ByteArray) (hs : s.size ≤ 1048576) : Ev (fun k => impl_isWord.f k s) (isWordB s) := by
  unfold impl_isWord.f impl_areLetters.f
  by_cases h : s.toList = ([] : List UInt8)
  · have h0 := (toList_nil s).1 h
    exact ev_if_pos h (ev_some (by simp [isWordB, h0]))
  · have h0 : s.size ≠ 0 := fun h' => h ((toList_nil s).2 h')
    refine ev_if_neg h (ev_bind (impl_letters_ev s hs s.size 0 (by omega)) (ev_some ?_))
    simp [isWordB, show 1 ≤ s.size by omega]

/-! ### Part: sizes -/
theorem szPart_ev (x : S50) (left : Int) (h0 : 0 ≤ left) (h1 : left ≤ 1048576) (hw : x.f1.size ≤ 9223372036854775807) : ∃ r, laws_szPart.f x.f0 x.f1 x.f2 x.f3 left = some r ∧ r ≤ 1048576 ∧ (0 ≤ r → x.f1.size ≤ 1048576) := by
  unfold laws_szPart.f
  have e : wrap64 (left - (x.f1.size : Int)) = left - x.f1.size := wrap_id (by omega) (by omega)
  rw [e]
  by_cases h : left - (x.f1.size : Int) < 0
  · exact ⟨-1, by rw [if_pos h], by omega, fun h => by omega⟩
  · exact ⟨_, by rw [if_neg h], by omega, fun _ => by omega⟩
theorem szPartS_loop (l : List (S50)) (hl : l.length ≤ 1048576) (hw : ∀ x ∈ l, x.f1.size ≤ 9223372036854775807) : ∀ (rest : List (S50)) (i : Nat) (left : Int), l.drop i = rest → 0 ≤ left → left ≤ 1048576 →
    ∃ r, Ev (fun k => laws_szPartS.l0 k l left i) r ∧ r ≤ 1048576 ∧ (0 ≤ r → ∀ x ∈ rest, x.f1.size ≤ 1048576)
  | [], i, left, hd, h0, h1 => by
    have h := drop_nil hd
    exact ⟨left, Ev.step (fun k => laws_szPartS.l0.eq_2 ..) (ev_if_neg (by omega) (ev_some rfl)), h1, fun _ s hs => by simp at hs⟩
  | s :: rest, i, left, hd, h0, h1 => by
    obtain ⟨hi, hd', hx⟩ := drop_cons hd
    have hx : rd_T50 l i = s := hx _
    have hs : s ∈ l := List.mem_of_mem_drop (by rw [hd]; exact List.mem_cons_self)
    obtain ⟨q, hq, hq1, hq2⟩ := szPart_ev s left h0 h1 (hw s hs)
    by_cases hn : q < 0
    · refine ⟨-1, Ev.step (fun k => laws_szPartS.l0.eq_2 ..) (ev_if_pos (by omega) (ev_if_pos (by omega) ?_)), by omega, fun h => by omega⟩
      simp only [hx, hq, Option.bind_some]
      exact ev_if_pos hn (ev_some rfl)
    · obtain ⟨r, hr, hb, hall⟩ := szPartS_loop l hl hw rest (i + 1) q hd' (by omega) hq1
      refine ⟨r, Ev.step (fun k => laws_szPartS.l0.eq_2 ..) (ev_if_pos (by omega) (ev_if_pos (by omega) ?_)), hb, fun h t ht => ?_⟩
      · simp only [hx, hq, Option.bind_some]
        rw [wrap_succ (by omega)]
        exact ev_if_neg hn hr
      · rcases List.mem_cons.1 ht with rfl | ht
        · exact hq2 (by omega)
        · exact hall h t ht
theorem szPartS_ev (l : List (S50)) (left : Int) (h0 : 0 ≤ left) (h1 : left ≤ 1048576) (hl : l.length ≤ 9223372036854775807) (hw : ∀ x ∈ l, x.f1.size ≤ 9223372036854775807) :
    ∃ r, Ev (fun k => laws_szPartS.f k l left) r ∧ r ≤ 1048576 ∧ (0 ≤ r → l.length ≤ 1048576 ∧ ∀ x ∈ l, x.f1.size ≤ 1048576) := by
  unfold laws_szPartS.f
  have e : wrap64 (left - (l.length : Int)) = left - l.length := wrap_id (by omega) (by omega)
  simp only [e]
  by_cases hn : left - (l.length : Int) < 0
  · exact ⟨-1, ev_if_pos hn (ev_some rfl), by omega, fun h => by omega⟩
  · obtain ⟨r, hr, hb, hall⟩ := szPartS_loop l (by omega) hw l 0 (left - l.length) rfl (by omega) (by omega)
    exact ⟨r, ev_if_neg hn hr, hb, fun h => ⟨by omega, hall h⟩⟩

/-! ### Part: copied -/
def toPart (x : S50) : S51 := ⟨x.f0, x.f1, x.f2, x.f3⟩
theorem toPart_eq (x : S50) : laws_toPart.f x.f0 x.f1 x.f2 x.f3 = some ((toPart x).f0, (toPart x).f1, (toPart x).f2, (toPart x).f3) := rfl
theorem toPartS_loop (l : List (S50)) (hl : l.length ≤ 1048576) : ∀ (rest : List (S50)) (pre : List (S51)) (i : Nat), l.drop i = rest → pre.length = i →
    Ev (fun k => laws_toPartS.l0 k l (pre ++ List.replicate rest.length z51) i) (pre ++ rest.map toPart)
  | [], pre, i, hd, hp => by
    have h := drop_nil hd
    exact Ev.step (fun k => laws_toPartS.l0.eq_2 ..) (ev_if_neg (by omega) (ev_some rfl))
  | s :: rest, pre, i, hd, hp => by
    obtain ⟨hi, hd', hx⟩ := drop_cons hd
    have hx : rd_T50 l i = s := hx _
    refine Ev.step (fun k => laws_toPartS.l0.eq_2 ..) (ev_if_pos (by omega) (ev_if_pos (by omega) ?_))
    simp only [hx, toPart_eq, Option.bind_some]
    refine ev_if_pos (by rw [List.length_append, List.length_replicate, List.length_cons]; omega) ?_
    rw [wrap_succ (by omega), Int.toNat_natCast, List.length_cons, List.replicate_succ]
    subst hp
    rw [set_at]
    have := toPartS_loop l hl rest (pre ++ [toPart s]) (pre.length + 1) hd' (by simp)
    simpa using this
theorem toPartS_ev (l : List (S50)) (hl : l.length ≤ 1048576) : Ev (fun k => laws_toPartS.f k l) (l.map toPart) := by
  unfold laws_toPartS.f
  refine ev_if_pos (by omega) (ev_if_pos (by omega) ?_)
  rw [Int.toNat_natCast]
  exact toPartS_loop l hl l [] 0 rfl rfl

/-! ### Part: alike -/
theorem eqPart_eq (x : S51) : laws_eqPart.f x.f0 x.f1 x.f2 x.f3 x.f0 x.f1 x.f2 x.f3 = some true := by
  unfold laws_eqPart.f
  simp
theorem eqPartS_loop (l : List (S51)) (hl : l.length ≤ 1152921504606846976) : ∀ (rest : List (S51)) (i : Nat), l.drop i = rest → Ev (fun k => laws_eqPartS.l0 k l l i) true
  | [], i, hd => by
    have h := drop_nil hd
    exact Ev.step (fun k => laws_eqPartS.l0.eq_2 ..) (ev_if_neg (by omega) (ev_some rfl))
  | s :: rest, i, hd => by
    obtain ⟨hi, hd', hx⟩ := drop_cons hd
    have hx : rd_T51 l i = s := hx _
    refine Ev.step (fun k => laws_eqPartS.l0.eq_2 ..) (ev_if_pos (by omega) (ev_if_pos (by omega) (ev_if_pos (by omega) ?_)))
    simp only [hx, eqPart_eq, Option.bind_some]
    rw [wrap_succ (by omega)]
    exact ev_if_pos (by simp) (eqPartS_loop l hl rest (i + 1) hd')
theorem eqPartS_ev (l : List (S51)) (hl : l.length ≤ 1152921504606846976) : Ev (fun k => laws_eqPartS.f k l l) true := by
  unfold laws_eqPartS.f
  exact ev_if_pos rfl (eqPartS_loop l hl l 0 rfl)

/-! ### questions: parts, words -/
open Go.Proofs.Ytkccinkodbkfdaa.Ext Go.Proofs.Ytkccinkodbkfdaa.Sorted
def inB (a b c : Int) : Bool := decide (b ≤ a) && decide (a ≤ c)
theorem spec_l1In_eq (a b c : Int) : spec_l1In.f a b c = some (inB a b c) := by
  unfold spec_l1In.f inB
  by_cases h : a ≥ b
  · rw [if_pos h]; simp [show b ≤ a from h]
  · rw [if_neg h]; simp [show ¬ b ≤ a from h]
theorem impl_within_eq (a b c : Int) : impl_within.f a b c = some (inB a b c) := by
  unfold impl_within.f inB
  by_cases h : a ≥ b
  · rw [if_pos h]; simp [show b ≤ a from h]
  · rw [if_neg h]; simp [show ¬ b ≤ a from h]
def partB (p : S51) (i : Int) : Bool :=
  if p.f0 = 1 then isWordB p.f1 && (decide (p.f2 = 0) && decide (p.f3 = 0))
  else if p.f0 = 2 ∨ p.f0 = 3 then decide (p.f1.toList = []) && (inB p.f2 0 (i - 1) && inB p.f3 0 (i - 1))
  else if p.f0 = 4 then decide (p.f1.toList = []) && (inB p.f2 0 (i - 1) && decide (p.f3 = 0))
  else false
theorem spec_l11Part_ev (p : S51) (i : Nat) (hs : p.f1.size ≤ 1048576) (hi : i ≤ 1048576) : Ev (fun k => spec_l11Part.f k p.f0 p.f1 p.f2 p.f3 i) (partB p i) := by
  unfold spec_l11Part.f
  have e : wrap64 ((i : Int) - 1) = (i : Int) - 1 := wrap_id (by omega) (by omega)
  by_cases h1 : p.f0 = 1
  · refine ev_if_pos h1 (ev_bind (spec_l9Word_ev p.f1 hs) (ev_fun fun _ => ?_))
    unfold partB
    rw [if_pos h1]
    cases isWordB p.f1 <;> by_cases h2 : p.f2 = 0 <;> simp [h2]
    exact rfl
  · refine ev_if_neg h1 ?_
    have key : ∀ b : Bool, b = true → (p.f0 = 2 ∨ p.f0 = 3) → Ev (fun k => spec_l11Part.j0 k i p.f0 b p.f0 p.f1 p.f2 p.f3) (partB p i) := by
      rintro b rfl h
      refine Ev.step (fun k => spec_l11Part.j0.eq_2 ..) (ev_if_pos rfl (ev_fun fun _ => ?_))
      unfold partB
      rw [if_neg h1, if_pos h]
      simp only [spec_l1In_eq, Option.bind_some, e]
      by_cases h3 : p.f1.toList = ([] : List UInt8)
      · rw [if_pos h3]
        cases inB p.f2 0 (i - 1) <;> simp [h3]
      · rw [if_neg h3]; simp [h3]
    by_cases h2 : p.f0 = 2
    · exact ev_if_pos h2 (key _ (by simp [h2]) (.inl h2))
    · refine ev_if_neg h2 ?_
      by_cases h3 : p.f0 = 3
      · exact key _ (by simp [h3]) (.inr h3)
      · have hb : (p.f0 == 3) = false := by simp [h3]
        rw [hb]
        refine Ev.step (fun k => spec_l11Part.j0.eq_2 ..) (ev_if_neg (by simp) (ev_fun fun _ => ?_))
        unfold partB
        rw [if_neg h1, if_neg (show ¬ (p.f0 = 2 ∨ p.f0 = 3) from fun h => h.elim h2 h3)]
        simp only [spec_l1In_eq, Option.bind_some, e]
        by_cases h4 : p.f0 = 4
        · rw [if_pos h4, if_pos h4]
          by_cases h5 : p.f1.toList = ([] : List UInt8)
          · rw [if_pos h5]
            cases inB p.f2 0 (i - 1) <;> simp [h5]
            exact rfl
          · rw [if_neg h5]; simp [h5]
        · rw [if_neg h4, if_neg h4]
theorem impl_isPart_ev (p : S51) (i : Nat) (hs : p.f1.size ≤ 1048576) (hi : i ≤ 1048576) : Ev (fun k => impl_isPart.f k p.f0 p.f1 p.f2 p.f3 i) (partB p i) := by
  unfold impl_isPart.f
  have e : wrap64 ((i : Int) - 1) = (i : Int) - 1 := wrap_id (by omega) (by omega)
  by_cases h1 : p.f0 = 1
  · refine ev_if_pos h1 (ev_bind (impl_isWord_ev p.f1 hs) (ev_fun fun _ => ?_))
    unfold partB
    rw [if_pos h1]
    cases isWordB p.f1 <;> by_cases h2 : p.f2 = 0 <;> simp [h2]
    exact rfl
  · refine ev_if_neg h1 ?_
    have key : ∀ b : Bool, b = true → (p.f0 = 2 ∨ p.f0 = 3) → Ev (fun k => impl_isPart.j0 k i p.f0 b p.f0 p.f1 p.f2 p.f3) (partB p i) := by
      rintro b rfl h
      refine Ev.step (fun k => impl_isPart.j0.eq_2 ..) (ev_if_pos rfl (ev_fun fun _ => ?_))
      unfold partB
      rw [if_neg h1, if_pos h]
      simp only [impl_within_eq, Option.bind_some, e]
      by_cases h3 : p.f1.toList = ([] : List UInt8)
      · rw [if_pos h3]
        cases inB p.f2 0 (i - 1) <;> simp [h3]
      · rw [if_neg h3]; simp [h3]
    by_cases h2 : p.f0 = 2
    · exact ev_if_pos h2 (key _ (by simp [h2]) (.inl h2))
    · refine ev_if_neg h2 ?_
      by_cases h3 : p.f0 = 3
      · exact key _ (by simp [h3]) (.inr h3)
      · have hb : (p.f0 == 3) = false := by simp [h3]
        rw [hb]
        refine Ev.step (fun k => impl_isPart.j0.eq_2 ..) (ev_if_neg (by simp) (ev_fun fun _ => ?_))
        unfold partB
        rw [if_neg h1, if_neg (show ¬ (p.f0 = 2 ∨ p.f0 = 3) from fun h => h.elim h2 h3)]
        simp only [impl_within_eq, Option.bind_some, e]
        by_cases h4 : p.f0 = 4
        · rw [if_pos h4, if_pos h4]
          by_cases h5 : p.f1.toList = ([] : List UInt8)
          · rw [if_pos h5]
            cases inB p.f2 0 (i - 1) <;> simp [h5]
            exact rfl
          · rw [if_neg h5]; simp [h5]
        · rw [if_neg h4, if_neg h4]
def wordsL : List (S51) → List ByteArray
  | [] => []
  | p :: l => if p.f0 = 1 then p.f1 :: wordsL l else wordsL l
theorem wordsL_length : ∀ l : List (S51), (wordsL l).length ≤ l.length
  | [] => Nat.le_refl _
  | p :: l => by
    have := wordsL_length l
    unfold wordsL
    split <;> simp only [List.length_cons] <;> omega
def wordsQ (q : List (S51)) : List ByteArray := puts [] (wordsL q)
theorem wordsQ_length (q : List (S51)) : (wordsQ q).length ≤ q.length := by
  have h1 := puts_length (wordsL q) []
  have h2 := wordsL_length q
  unfold wordsQ
  simp only [List.length_nil] at h1
  omega
theorem l5Insert_at (pre rest : List ByteArray) (s : ByteArray) (hl : pre.length + rest.length ≤ 1048576) : spec_l5Insert.f (pre ++ rest) pre.length s = some (pre ++ s :: rest) := by
  unfold spec_l5Insert.f
  simp only [Option.bind_some, Int.toNat_natCast, List.take_left', List.drop_left', List.nil_append, List.length_nil, List.length_append, List.length_singleton]
  rw [if_pos (by omega), if_pos (by omega), if_pos (by omega), if_pos (by omega), if_pos (by omega)]
  simp
theorem l9Put_loop (s : ByteArray) : ∀ (rest pre : List ByteArray), pre.length + rest.length ≤ 1048576 →
    Ev (fun k => spec_l9Put.l0 k (pre ++ rest) s pre.length) (pre ++ put s rest)
  | [], pre, hl => by
    refine Ev.step (fun k => spec_l9Put.l0.eq_2 ..) (ev_if_neg (by simp) ?_)
    rw [l5Insert_at pre [] s hl]
    exact ev_some rfl
  | x :: rest, pre, hl => by
    obtain ⟨hi, hx⟩ := mid_at (l := pre ++ x :: rest) (pre := pre) (rest := rest) (x := x) rfl
    rw [List.length_cons] at hl
    refine Ev.step (fun k => spec_l9Put.l0.eq_2 ..) (ev_if_pos (by omega) (ev_if_pos (by omega) ?_))
    rw [hx]
    unfold put
    by_cases h1 : lessB x s = true
    · rw [if_pos h1]
      refine ev_if_pos h1 ?_
      rw [wrap_succ (by omega)]
      have ih := l9Put_loop s rest (pre ++ [x]) (by rw [List.length_append, List.length_singleton]; omega)
      rw [List.length_append, List.length_singleton] at ih
      simpa using ih
    · rw [if_neg h1]
      refine ev_if_neg h1 ?_
      by_cases h2 : x = s
      · rw [if_pos h2]
        exact ev_if_pos (by rw [h2]) (ev_some rfl)
      · rw [if_neg h2]
        refine ev_if_neg (fun h => h2 (toList_inj.1 h)) ?_
        rw [l5Insert_at pre (x :: rest) s (by rw [List.length_cons]; omega)]
        exact ev_some rfl
theorem l9Put_ev (s : ByteArray) (l : List ByteArray) (hl : l.length ≤ 1048576) : Ev (fun k => spec_l9Put.f k l s) (put s l) := by
  unfold spec_l9Put.f
  exact l9Put_loop s l [] (by simpa using hl)
theorem spec_l11Words_loop (l : List (S51)) (hl : l.length ≤ 1048576) : ∀ (rest : List (S51)) (acc : List ByteArray) (i : Nat), l.drop i = rest → acc.length ≤ i →
    Ev (fun k => spec_l11Words.l0 k acc l l.length i) (puts acc (wordsL rest))
  | [], acc, i, hd, ha => by
    have h := drop_nil hd
    exact Ev.step (fun k => spec_l11Words.l0.eq_2 ..) (ev_if_neg (by omega) (ev_some rfl))
  | x :: rest, acc, i, hd, ha => by
    obtain ⟨hi, hd', hx⟩ := drop_cons hd
    have hx : rd_T51 l i = x := hx _
    refine Ev.step (fun k => spec_l11Words.l0.eq_2 ..) (ev_if_pos (by omega) (ev_if_pos (by omega) (ev_if_pos (by omega) ?_)))
    rw [hx, wrap_succ (by omega)]
    unfold wordsL
    by_cases h1 : x.f0 = 1
    · rw [if_pos h1]
      have := put_length x.f1 acc
      exact ev_if_pos h1 (ev_bind (l9Put_ev x.f1 acc (by omega)) (spec_l11Words_loop l hl rest (put x.f1 acc) (i + 1) hd' (by omega)))
    · rw [if_neg h1]
      exact ev_if_neg h1 (spec_l11Words_loop l hl rest acc (i + 1) hd' (by omega))
theorem spec_l11Words_ev (l : List (S51)) (hl : l.length ≤ 1048576) : Ev (fun k => spec_l11Words.f k l) (wordsQ l) := by
  unfold spec_l11Words.f
  exact spec_l11Words_loop l hl l [] 0 rfl (Nat.le_refl _)
theorem impl_wordsIn_loop (l : List (S51)) (hl : l.length ≤ 1048576) : ∀ (rest : List (S51)) (acc : List ByteArray) (i : Nat), l.drop i = rest → acc.length ≤ i → i ≤ l.length →
    Ev (fun k => impl_wordsIn.l0 k acc l l.length i) (puts [] (acc ++ wordsL rest))
  | [], acc, i, hd, ha, hle => by
    have h := drop_nil hd
    refine Ev.step (fun k => impl_wordsIn.l0.eq_2 ..) (ev_if_neg (by omega) ?_)
    unfold slices_Sort_string_string.f slices_Compact_string_string.f
    rw [if_pos (by omega)]
    exact ev_some (by rw [compStrs_puts]; simp [wordsL])
  | x :: rest, acc, i, hd, ha, hle => by
    obtain ⟨hi, hd', hx⟩ := drop_cons hd
    have hx : rd_T51 l i = x := hx _
    refine Ev.step (fun k => impl_wordsIn.l0.eq_2 ..) (ev_if_pos (by omega) (ev_if_pos (by omega) (ev_if_pos (by omega) ?_)))
    rw [hx, wrap_succ (by omega)]
    unfold wordsL
    by_cases h1 : x.f0 = 1
    · rw [if_pos h1]
      refine ev_if_pos h1 (ev_if_pos (by omega) ?_)
      have ih := impl_wordsIn_loop l hl rest (acc ++ [x.f1]) (i + 1) hd' (by rw [List.length_append, List.length_singleton]; omega) (by omega)
      simpa using ih
    · rw [if_neg h1]
      exact ev_if_neg h1 (impl_wordsIn_loop l hl rest acc (i + 1) hd' (by omega) (by omega))
theorem impl_wordsIn_ev (l : List (S51)) (hl : l.length ≤ 1048576) : Ev (fun k => impl_wordsIn.f k l) (wordsQ l) := by
  unfold impl_wordsIn.f
  exact impl_wordsIn_loop l hl l [] 0 rfl (Nat.le_refl _) (Nat.zero_le _)
def partsB : Nat → List (S51) → Bool
  | _, [] => true
  | i, p :: l => partB p i && partsB (i + 1) l
def goodQ (q : List (S51)) : Bool := partsB 0 q && (inB q.length 1 24 && decide (((wordsQ q).length : Int) ≤ 5))
theorem spec_GoodQuery_loop (l : List (S51)) (hl : l.length ≤ 1048576) (hw : ∀ p ∈ l, p.f1.size ≤ 1048576) : ∀ (rest : List (S51)) (i : Nat), l.drop i = rest →
    Ev (fun k => spec_GoodQuery.l0 k l l l.length i) (partsB i rest && (inB l.length 1 24 && decide (((wordsQ l).length : Int) ≤ 5)))
  | [], i, hd => by
    have h := drop_nil hd
    refine Ev.step (fun k => spec_GoodQuery.l0.eq_2 ..) (ev_if_neg (by omega) ?_)
    rw [spec_l1In_eq]
    simp only [Option.bind_some]
    cases hb : inB l.length 1 24 with
    | true => exact ev_if_pos rfl (ev_bind (spec_l11Words_ev l hl) (ev_some (by simp [partsB])))
    | false => exact ev_if_neg (by simp) (ev_some (by simp))
  | x :: rest, i, hd => by
    obtain ⟨hi, hd', hx⟩ := drop_cons hd
    have hx : rd_T51 l i = x := hx _
    have hm : x ∈ l := List.mem_of_mem_drop (by rw [hd]; exact List.mem_cons_self)
    refine Ev.step (fun k => spec_GoodQuery.l0.eq_2 ..) (ev_if_pos (by omega) (ev_if_pos (by omega) (ev_if_pos (by omega) ?_)))
    rw [hx, wrap_succ (by omega)]
    refine ev_bind (spec_l11Part_ev x i (hw x hm) (by omega)) ?_
    unfold partsB
    cases hb : partB x i with
    | true => exact ev_if_pos rfl (ev_eq (spec_GoodQuery_loop l hl hw rest (i + 1) hd') (by simp))
    | false => exact ev_if_neg (by simp) (ev_some (by simp))
theorem spec_GoodQuery_ev (l : List (S51)) (hl : l.length ≤ 1048576) (hw : ∀ p ∈ l, p.f1.size ≤ 1048576) : Ev (fun k => spec_GoodQuery.f k l) (goodQ l) := by
  unfold spec_GoodQuery.f
  exact spec_GoodQuery_loop l hl hw l 0 rfl
theorem impl_GoodQuery_loop (l : List (S51)) (hl : l.length ≤ 1048576) (hw : ∀ p ∈ l, p.f1.size ≤ 1048576) : ∀ (rest : List (S51)) (i : Nat), l.drop i = rest →
    Ev (fun k => impl_GoodQuery.l0 k l l l.length i) (partsB i rest && decide (((wordsQ l).length : Int) ≤ 5))
  | [], i, hd => by
    have h := drop_nil hd
    exact Ev.step (fun k => impl_GoodQuery.l0.eq_2 ..) (ev_if_neg (by omega) (ev_bind (impl_wordsIn_ev l hl) (ev_some (by simp [partsB]))))
  | x :: rest, i, hd => by
    obtain ⟨hi, hd', hx⟩ := drop_cons hd
    have hx : rd_T51 l i = x := hx _
    have hm : x ∈ l := List.mem_of_mem_drop (by rw [hd]; exact List.mem_cons_self)
    refine Ev.step (fun k => impl_GoodQuery.l0.eq_2 ..) (ev_if_pos (by omega) (ev_if_pos (by omega) (ev_if_pos (by omega) ?_)))
    rw [hx, wrap_succ (by omega)]
    refine ev_bind (impl_isPart_ev x i (hw x hm) (by omega)) ?_
    unfold partsB
    cases hb : partB x i with
    | true => exact ev_if_pos rfl (ev_eq (impl_GoodQuery_loop l hl hw rest (i + 1) hd') (by simp))
    | false => exact ev_if_neg (by simp) (ev_some (by simp))
theorem impl_GoodQuery_ev (l : List (S51)) (hl : l.length ≤ 1048576) (hw : ∀ p ∈ l, p.f1.size ≤ 1048576) : Ev (fun k => impl_GoodQuery.f k l) (goodQ l) := by
  unfold impl_GoodQuery.f goodQ
  rw [impl_within_eq]
  simp only [Option.bind_some]
  cases hb : inB l.length 1 24 with
  | true => exact ev_if_pos rfl (ev_eq (impl_GoodQuery_loop l hl hw l 0 rfl) (by simp))
  | false => exact ev_if_neg (by simp) (ev_some (by simp))

/-! ### lists of texts: alike -/
theorem eqStringS_loop (l : List ByteArray) (hl : l.length ≤ 1152921504606846976) : ∀ (rest : List ByteArray) (i : Nat), l.drop i = rest → Ev (fun k => laws_eqStringS.l0 k l l i) true
  | [], i, hd => by
    have h := drop_nil hd
    exact Ev.step (fun k => laws_eqStringS.l0.eq_2 ..) (ev_if_neg (by omega) (ev_some rfl))
  | s :: rest, i, hd => by
    obtain ⟨hi, hd', hx⟩ := drop_cons hd
    refine Ev.step (fun k => laws_eqStringS.l0.eq_2 ..) (ev_if_pos (by omega) (ev_if_pos (by omega) (ev_if_pos (by omega) (ev_if_pos rfl ?_))))
    rw [wrap_succ (by omega)]
    exact eqStringS_loop l hl rest (i + 1) hd'
theorem eqStringS_ev (l : List ByteArray) (hl : l.length ≤ 1152921504606846976) : Ev (fun k => laws_eqStringS.f k l l) true := by
  unfold laws_eqStringS.f
  exact ev_if_pos rfl (eqStringS_loop l hl l 0 rfl)

/-! ### marks -/
def mtN : Nat → Int → ByteArray → ByteArray
  | 0, _, acc => (⟨#[109]⟩ : ByteArray) ++ acc
  | f + 1, n, acc => if n > 0 then mtN f (n / 10) (strOfNums [(48 + n % 10) % 256] ++ acc) else (⟨#[109]⟩ : ByteArray) ++ acc
def mtx (n : Int) : ByteArray := if n ≤ 0 then ⟨#[109, 48]⟩ else mtN n.toNat n ⟨#[]⟩

theorem markText_loop : ∀ (f : Nat) (n : Int) (acc : ByteArray), 0 ≤ n → n ≤ f → acc.size + f ≤ 1152921504606846976 → Ev (fun k => laws_markText.l0 k n acc) (mtN f n acc)
  | 0, n, acc, h0, h1, h2 => by
    refine Ev.step (fun k => laws_markText.l0.eq_2 ..) (ev_if_neg (by omega) (ev_if_pos (by omega) (ev_some rfl)))
  | f + 1, n, acc, h0, h1, h2 => by
    refine Ev.step (fun k => laws_markText.l0.eq_2 ..) ?_
    unfold mtN
    by_cases hn : n > 0
    · refine ev_if_pos hn ?_
      rw [if_pos hn, tmod_nn (by omega), tdiv_nn (by omega), wrap_id (x := 48 + n % 10) (by omega) (by omega), wrap_id (x := n / 10) (by omega) (by omega)]
      simp only [Option.bind_some]
      exact ev_if_pos (by rw [one_size]; omega) (markText_loop f (n / 10) _ (by omega) (by omega) (by rw [size_append, one_size]; omega))
    · rw [if_neg hn]
      exact ev_if_neg hn (ev_if_pos (by omega) (ev_some rfl))
theorem markText_ev (n : Int) (h1 : n ≤ 576460752303423488) : Ev (fun k => laws_markText.f k n) (mtx n) := by
  unfold laws_markText.f mtx
  by_cases hn : n ≤ 0
  · rw [if_pos hn]; exact ev_if_pos hn (ev_some rfl)
  · rw [if_neg hn]; exact ev_if_neg hn (markText_loop n.toNat n ⟨#[]⟩ (by omega) (by omega) (by show 0 + _ ≤ _; omega))

def marksR : Nat → Nat → List ByteArray
  | 0, _ => []
  | d + 1, n => mtx n :: marksR d (n + 1)
theorem marksR_length : ∀ d n, (marksR d n).length = d
  | 0, _ => rfl
  | d + 1, n => by simp [marksR, marksR_length d (n + 1)]

/-! ### Part: marks -/
def mkPart (n : Int) : S51 := ⟨n, mtx (n + 1), n + 2, n + 3⟩
def marksPart : Nat → Nat → List (S51)
  | 0, _ => []
  | d + 1, n => mkPart n :: marksPart d (n + 4)
theorem marksPart_length : ∀ d n, (marksPart d n).length = d
  | 0, _ => rfl
  | d + 1, n => by simp [marksPart, marksPart_length d (n + 4)]
theorem rdPart_mid (p : List (S51)) (x : S51) (q : List (S51)) : rd_T51 (p ++ x :: q) (p.length : Int) = x := (mid_at (l := p ++ x :: q) rfl).2 _
theorem wrap_four {n : Nat} (h : n ≤ 1073741824) : (Unit → wrap64 ((n : Int) + 1) = (n : Int) + 1) ∧ (Unit → wrap64 ((n : Int) + 1 + 1) = (n : Int) + 2) ∧ (Unit → wrap64 ((n : Int) + 2 + 1) = (n : Int) + 3) ∧ (Unit → wrap64 ((n : Int) + 3 + 1) = ((n + 4 : Nat) : Int)) :=
  ⟨fun _ => wrap_id (by omega) (by omega), fun _ => by rw [wrap_id (by omega) (by omega)]; omega, fun _ => by rw [wrap_id (by omega) (by omega)]; omega, fun _ => by rw [wrap_id (by omega) (by omega)]; omega⟩
theorem markPartS_loop : ∀ (rest pre : List (S51)) (n : Nat), pre.length + rest.length ≤ 1073741824 → n + 4 * rest.length ≤ 1073741824 →
    Ev (fun k => laws_markPartS.l0 k (pre ++ rest) n pre.length) (((n + 4 * rest.length : Nat) : Int), pre ++ marksPart rest.length n)
  | [], pre, n, h1, h2 => by
    refine Ev.step (fun k => laws_markPartS.l0.eq_2 ..) (ev_if_neg (by rw [List.append_nil]; omega) (ev_some (by simp [marksPart])))
  | s :: rest, pre, n, h1, h2 => by
    rw [List.length_cons] at h1 h2
    obtain ⟨w1, w2, w3, w4⟩ := wrap_four (n := n) (by omega)
    have e0 : (pre.length : Int).toNat = pre.length := Int.toNat_natCast _
    refine Ev.step (fun k => laws_markPartS.l0.eq_2 ..) (ev_if_pos (by rw [List.length_append, List.length_cons]; omega) (ev_if_pos (by omega) ?_))
    simp only [Option.bind_some, e0, set_at, rdPart_mid, w1 (), w2 (), w3 (), w4 ()]
    refine ev_bind (markText_ev ((n : Int) + 1) (by omega)) ?_
    rw [wrap_succ (by omega)]
    have ih := markPartS_loop rest (pre ++ [mkPart n]) (n + 4) (by rw [List.length_append, List.length_singleton]; omega) (by omega)
    rw [List.append_assoc, List.length_append, List.length_singleton] at ih
    refine ev_eq ih ?_
    have e2 : n + 4 + 4 * rest.length = n + 4 * (rest.length + 1) := by omega
    simp only [List.length_cons, marksPart, List.append_assoc, List.singleton_append, e2]
theorem markPartS_ev (l : List (S51)) (n : Nat) (hb : 4 * l.length + n ≤ 1073741824) : Ev (fun k => laws_markPartS.f k l n) (((n + 4 * l.length : Nat) : Int), marksPart l.length n) := by
  unfold laws_markPartS.f
  exact markPartS_loop l [] n (by show 0 + _ ≤ _; omega) (by omega)

theorem markStringS_loop : ∀ (rest pre : List ByteArray) (n i : Nat), pre.length = i → i + rest.length ≤ 1073741824 ∧ n + rest.length ≤ 1073741824 →
    Ev (fun k => laws_markStringS.l0 k (pre ++ rest) n i) (((n + rest.length : Nat) : Int), pre ++ marksR rest.length n)
  | [], pre, n, i, hp, hb => by
    refine Ev.step (fun k => laws_markStringS.l0.eq_2 ..) (ev_if_neg (by rw [List.append_nil]; omega) (ev_some (by simp [marksR])))
  | s :: rest, pre, n, i, hp, hb => by
    simp only [List.length_cons] at hb
    refine Ev.step (fun k => laws_markStringS.l0.eq_2 ..) (ev_if_pos (by rw [List.length_append, List.length_cons]; omega) (ev_bind (markText_ev n (by omega)) (ev_if_pos (by omega) ?_)))
    rw [wrap_succ (by omega), wrap_succ (by omega), Int.toNat_natCast]
    subst hp
    have e : (pre ++ s :: rest).set pre.length (mtx n) = (pre ++ [mtx n]) ++ rest := by
      rw [List.set_append_right _ _ (Nat.le_refl _), Nat.sub_self]; simp
    rw [e]
    refine ev_eq (markStringS_loop rest (pre ++ [mtx n]) (n + 1) (pre.length + 1) (by simp) ⟨by omega, by omega⟩) ?_
    have e2 : n + 1 + rest.length = n + (rest.length + 1) := by omega
    simp only [List.length_cons, marksR, List.append_assoc, List.singleton_append, e2]
theorem markStringS_ev (l : List ByteArray) (n : Nat) (hb : l.length + n ≤ 1073741824) : Ev (fun k => laws_markStringS.f k l n) (((n + l.length : Nat) : Int), marksR l.length n) := by
  unfold laws_markStringS.f
  exact markStringS_loop l [] n 0 rfl ⟨by omega, by omega⟩

theorem heldStringS_loop (l : List ByteArray) (hl : l.length ≤ 1073741824) : ∀ (d n i : Nat), l.drop i = marksR d n → d + n ≤ 1073741824 → i + d = l.length →
    Ev (fun k => laws_heldStringS.l0 k l n i) ((n + d : Nat) : Int)
  | 0, n, i, hd, hb, hi => by
    exact Ev.step (fun k => laws_heldStringS.l0.eq_2 ..) (ev_if_neg (by omega) (ev_some rfl))
  | d + 1, n, i, hd, hb, hi => by
    obtain ⟨hi', hd', hx⟩ := drop_cons hd
    refine Ev.step (fun k => laws_heldStringS.l0.eq_2 ..) (ev_if_pos (by omega) (ev_if_pos (by omega) (ev_bind (markText_ev n (by omega)) ?_)))
    rw [hx, wrap_succ (by omega), wrap_succ (by omega)]
    refine ev_if_pos rfl (ev_eq (heldStringS_loop l hl d (n + 1) (i + 1) hd' (by omega) (by omega)) ?_)
    congr 1
    omega
theorem heldStringS_ev (d n : Nat) (hb : d + n ≤ 1073741824) : Ev (fun k => laws_heldStringS.f k (marksR d n) n) ((n + d : Nat) : Int) := by
  unfold laws_heldStringS.f
  exact heldStringS_loop (marksR d n) (by rw [marksR_length]; omega) d n 0 rfl hb (by rw [marksR_length]; omega)

def wordsR (q : List (S51)) : List ByteArray × Bool := if goodQ q = true then (wordsQ q, true) else ([], false)
theorem spec_WordsIn_ev (l : List (S51)) (hl : l.length ≤ 1048576) (hw : ∀ p ∈ l, p.f1.size ≤ 1048576) : Ev (fun k => spec_WordsIn.f k l) (wordsR l) := by
  unfold spec_WordsIn.f wordsR
  refine ev_bind (spec_GoodQuery_ev l hl hw) ?_
  cases goodQ l with
  | true => exact ev_if_pos rfl (ev_bind (spec_l11Words_ev l hl) (ev_some rfl))
  | false => exact ev_if_neg (by simp) (ev_some rfl)
theorem impl_WordsIn_ev (l : List (S51)) (hl : l.length ≤ 1048576) (hw : ∀ p ∈ l, p.f1.size ≤ 1048576) : Ev (fun k => impl_WordsIn.f k l) (wordsR l) := by
  unfold impl_WordsIn.f wordsR
  refine ev_bind (impl_GoodQuery_ev l hl hw) ?_
  cases goodQ l with
  | true => exact ev_if_pos rfl (ev_bind (impl_wordsIn_ev l hl) (ev_some rfl))
  | false => exact ev_if_neg (by simp) (ev_some rfl)
theorem FnExactWordsIn : laws_FnExactWordsIn.Pure := by
  intro l hw
  refine Ev.rounds (g := fun k => laws_FnExactWordsIn.f k l) ?_
  unfold laws_FnExactWordsIn.f
  obtain ⟨r, hr, _, hall⟩ := szPartS_ev l 1048576 (by omega) (by omega) hw.1 (fun x hx => (hw.2 x hx).2.1)
  refine ev_bind hr ?_
  by_cases hn : r < 0
  · exact ev_if_pos hn (ev_some rfl)
  obtain ⟨h1, h2⟩ := hall (by omega)
  refine ev_if_neg hn ?_
  have hto := toPartS_ev l h1
  have h1' : (l.map toPart).length ≤ 1048576 := by simpa using h1
  have h2' : ∀ x ∈ l.map toPart, x.f1.size ≤ 1048576 := by
    intro x hx
    obtain ⟨y, hy, rfl⟩ := List.mem_map.1 hx
    exact h2 y hy
  revert hto h1' h2'
  generalize l.map toPart = L
  intro hto hL hS
  have k1 := spec_WordsIn_ev L hL hS
  have k2 := impl_WordsIn_ev L hL hS
  have hR : (wordsR L).1.length ≤ 1048576 := by
    unfold wordsR
    split
    · have := wordsQ_length L
      show (wordsQ L).length ≤ _
      omega
    · exact Nat.zero_le _
  revert k1 k2 hR
  generalize wordsR L = R
  intro k1 k2 hR
  obtain ⟨X, ok⟩ := R
  have hR : X.length ≤ 1048576 := hR
  have eX := eqStringS_ev X (by omega)
  have eL := eqPartS_ev L (by omega)
  have mL := markPartS_ev L 1 (by omega)
  have mX := markStringS_ev X 1 (by omega)
  have hX := heldStringS_ev X.length 1 (by omega)
  refine ev_bind hto (ev_bind k1 (ev_bind hto (ev_bind k2 (ev_bind eX (ev_if_pos rfl ?_)))))
  simp only [bne_self_eq_false]
  refine Ev.step (fun k => laws_FnExactWordsIn.j0.eq_2 ..) (ev_if_neg (by simp) (ev_bind hto (ev_bind eL (ev_if_pos rfl (ev_bind mL (ev_if_neg (by omega) (ev_bind eX (ev_if_pos rfl ?_))))))))
  simp only [bne_self_eq_false]
  refine Ev.step (fun k => laws_FnExactWordsIn.j1.eq_2 ..) (ev_if_neg (by simp) (ev_bind mX (ev_bind hX (ev_if_neg (by omega) (ev_if_pos rfl (ev_bind hto (ev_bind k2 (ev_bind eX (ev_if_pos rfl ?_)))))))))
  simp only [bne_self_eq_false]
  exact Ev.step (fun k => laws_FnExactWordsIn.j2.eq_2 ..) (ev_if_neg (by simp) (ev_bind hX (ev_if_neg (by omega) (ev_if_pos rfl (ev_some rfl)))))

end Go.Proofs.Ytkccinkodbkfdaa.Pure
