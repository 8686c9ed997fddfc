/- The law FnExactHoldsFor holds at every input; no conditions. -/
import Derived.Test.YtkccinkodbkfdaaQFnExactHoldsForx6
import Derived.Test.YtkccinkodbkfdaaBase
import Derived.OpenShut
import Derived.Test.YtkccinkodbkfdaaSorted
namespace Go.Proofs.Ytkccinkodbkfdaa.Pure
open Go.RowKit Go.Proofs.Ytkccinkodbkfdaa.QFnExactHoldsFor Go.Proofs.YtkccinkodbkfdaaW.PrintWords Go.Proofs.YtkccinkodbkfdaaW.PrintLast Go.Proofs.Ytkccinkodbkfdaa.Base
set_option linter.unusedSimpArgs false
set_option linter.unusedVariables false

def wf50 (x : S50) : Prop := (Lit.int .i64 x.f0).wf = true ∧ x.f1.size ≤ 9223372036854775807 ∧ (Lit.int .i64 x.f2).wf = true ∧ (Lit.int .i64 x.f3).wf = true
def laws_FnExactHoldsFor.Pure : Prop := ∀ (l0 : List (S50)) (l1 : List (ByteArray)), (l0.length ≤ 9223372036854775807 ∧ ∀ y ∈ l0, wf50 y) → (l1.length ≤ 9223372036854775807 ∧ ∀ y ∈ l1, y.size ≤ 9223372036854775807) → ∃ k, laws_FnExactHoldsFor.f k l0 l1 = some true

/-! ### words -/
def lettersN (s : ByteArray) : Nat → Nat → Bool
  | 0, _ => true
  | d + 1, i => (decide (97 ≤ bt s i) && decide (bt s i ≤ 122)) && lettersN s d (i + 1)

def isWordB (s : ByteArray) : Bool := lettersN s s.size 0 && (decide (1 ≤ s.size) && decide (s.size ≤ 12))

theorem spec_word_ev (s : ByteArray) (hs : s.size ≤ 1048576) : ∀ (d i : Nat), i + d = s.size → Ev (fun k => spec_l9Word.l0 k s i) (lettersN s d i && (decide (1 ≤ s.size) && decide (s.size ≤ 12)))
  | 0, i, hi => by
    refine Ev.step (fun k => spec_l9Word.l0.eq_2 ..) (ev_if_neg (by omega) (ev_fun fun k => ?_))
    simp only [spec_l1In.f, lettersN]
    by_cases h1 : 1 ≤ s.size
    · have h1' : (s.size : Int) ≥ 1 := by omega
      have h2 : ((s.size : Int) ≤ 12) = (s.size ≤ 12) := by apply propext; omega
      simp [h1, h1', h2]
    · have h1' : ¬ (s.size : Int) ≥ 1 := by omega
      simp [h1, h1']
  | d + 1, i, hi => by
    refine Ev.step (fun k => spec_l9Word.l0.eq_2 ..) (ev_if_pos (by omega) (ev_if_pos (by omega) ?_))
    by_cases h1 : bt s i < 97
    · exact ev_if_pos h1 (ev_some (by simp [lettersN, show ¬ 97 ≤ bt s i by omega]))
    · by_cases h2 : bt s i > 122
      · exact ev_if_neg h1 (ev_if_pos h2 (ev_some (by simp [lettersN, show ¬ bt s i ≤ 122 by omega])))
      · refine ev_if_neg h1 (ev_if_neg h2 ?_)
        rw [wrap_succ (by omega)]
        refine ev_eq (spec_word_ev s hs d (i + 1) (by omega)) ?_
        simp [lettersN, show 97 ≤ bt s i by omega, show bt s i ≤ 122 by omega]

theorem spec_l9Word_ev (s : ByteArray) (hs : s.size ≤ 1048576) : Ev (fun k => spec_l9Word.f k s) (isWordB s) := spec_word_ev s hs s.size 0 (by omega)

theorem impl_letters_ev (s : ByteArray) (hs : s.size ≤ 1048576) : ∀ (d i : Nat), i + d = s.size → Ev (fun k => impl_areLetters.l0 k s s.size i) (lettersN s d i && decide (s.size ≤ 12))
  | 0, i, hi => by
    refine Ev.step (fun k => impl_areLetters.l0.eq_2 ..) (ev_if_neg (by omega) (ev_fun fun k => ?_))
    have h2 : ((s.size : Int) ≤ 12) = (s.size ≤ 12) := by apply propext; omega
    simp [lettersN, h2]
  | d + 1, i, hi => by
    refine Ev.step (fun k => impl_areLetters.l0.eq_2 ..) (ev_if_pos (by omega) (ev_if_pos (by omega) (ev_if_pos (by omega) ?_)))
    unfold impl_isLetter.f
    by_cases h1 : bt s i ≥ 97
    · by_cases h2 : bt s i ≤ 122
      · simp only [h1, h2, if_true, decide_true, Option.bind_some]
        rw [wrap_succ (by omega)]
        refine ev_eq (impl_letters_ev s hs d (i + 1) (by omega)) ?_
        simp [lettersN, show 97 ≤ bt s i by omega, h2]
      · exact ev_fun fun k => by simp [lettersN, h1, h2]
    · exact ev_fun fun k => by simp [lettersN, h1]

theorem impl_isWord_ev (s : ByteArray) (hs : s.size ≤ 1048576) : Ev (fun k => impl_isWord.f k s) (isWordB s) := by
  unfold impl_isWord.f impl_areLetters.f
  by_cases h : s.toList = ([] : List UInt8)
  · have h0 := (toList_nil s).1 h
    exact ev_if_pos h (ev_some (by simp [isWordB, h0]))
  · have h0 : s.size ≠ 0 := fun h' => h ((toList_nil s).2 h')
    refine ev_if_neg h (ev_bind (impl_letters_ev s hs s.size 0 (by omega)) (ev_some ?_))
    simp [isWordB, show 1 ≤ s.size by omega]

/-! ### Part: sizes -/
theorem szPart_ev (x : S50) (left : Int) (h0 : 0 ≤ left) (h1 : left ≤ 1048576) (hw : x.f1.size ≤ 9223372036854775807) : ∃ r, laws_szPart.f x.f0 x.f1 x.f2 x.f3 left = some r ∧ r ≤ 1048576 ∧ (0 ≤ r → x.f1.size ≤ 1048576) := by
  unfold laws_szPart.f
  have e : wrap64 (left - (x.f1.size : Int)) = left - x.f1.size := wrap_id (by omega) (by omega)
  rw [e]
  by_cases h : left - (x.f1.size : Int) < 0
  · exact ⟨-1, by rw [if_pos h], by omega, fun h => by omega⟩
  · exact ⟨_, by rw [if_neg h], by omega, fun _ => by omega⟩
theorem szPartS_loop (l : List (S50)) (hl : l.length ≤ 1048576) (hw : ∀ x ∈ l, x.f1.size ≤ 9223372036854775807) : ∀ (rest : List (S50)) (i : Nat) (left : Int), l.drop i = rest → 0 ≤ left → left ≤ 1048576 →
    ∃ r, Ev (fun k => laws_szPartS.l0 k l left i) r ∧ r ≤ 1048576 ∧ (0 ≤ r → ∀ x ∈ rest, x.f1.size ≤ 1048576)
  | [], i, left, hd, h0, h1 => by
    have h := drop_nil hd
    exact ⟨left, Ev.step (fun k => laws_szPartS.l0.eq_2 ..) (ev_if_neg (by omega) (ev_some rfl)), h1, fun _ s hs => by simp at hs⟩
  | s :: rest, i, left, hd, h0, h1 => by
    obtain ⟨hi, hd', hx⟩ := drop_cons hd
    have hx : rd_T50 l i = s := hx _
    have hs : s ∈ l := List.mem_of_mem_drop (by rw [hd]; exact List.mem_cons_self)
    obtain ⟨q, hq, hq1, hq2⟩ := szPart_ev s left h0 h1 (hw s hs)
    by_cases hn : q < 0
    · refine ⟨-1, Ev.step (fun k => laws_szPartS.l0.eq_2 ..) (ev_if_pos (by omega) (ev_if_pos (by omega) ?_)), by omega, fun h => by omega⟩
      simp only [hx, hq, Option.bind_some]
      exact ev_if_pos hn (ev_some rfl)
    · obtain ⟨r, hr, hb, hall⟩ := szPartS_loop l hl hw rest (i + 1) q hd' (by omega) hq1
      refine ⟨r, Ev.step (fun k => laws_szPartS.l0.eq_2 ..) (ev_if_pos (by omega) (ev_if_pos (by omega) ?_)), hb, fun h t ht => ?_⟩
      · simp only [hx, hq, Option.bind_some]
        rw [wrap_succ (by omega)]
        exact ev_if_neg hn hr
      · rcases List.mem_cons.1 ht with rfl | ht
        · exact hq2 (by omega)
        · exact hall h t ht
theorem szPartS_ev (l : List (S50)) (left : Int) (h0 : 0 ≤ left) (h1 : left ≤ 1048576) (hl : l.length ≤ 9223372036854775807) (hw : ∀ x ∈ l, x.f1.size ≤ 9223372036854775807) :
    ∃ r, Ev (fun k => laws_szPartS.f k l left) r ∧ r ≤ 1048576 ∧ (0 ≤ r → l.length ≤ 1048576 ∧ ∀ x ∈ l, x.f1.size ≤ 1048576) := by
  unfold laws_szPartS.f
  have e : wrap64 (left - (l.length : Int)) = left - l.length := wrap_id (by omega) (by omega)
  simp only [e]
  by_cases hn : left - (l.length : Int) < 0
  · exact ⟨-1, ev_if_pos hn (ev_some rfl), by omega, fun h => by omega⟩
  · obtain ⟨r, hr, hb, hall⟩ := szPartS_loop l (by omega) hw l 0 (left - l.length) rfl (by omega) (by omega)
    exact ⟨r, ev_if_neg hn hr, hb, fun h => ⟨by omega, hall h⟩⟩

/-! ### Part: copied -/
def toPart (x : S50) : S51 := ⟨x.f0, x.f1, x.f2, x.f3⟩
theorem toPart_eq (x : S50) : laws_toPart.f x.f0 x.f1 x.f2 x.f3 = some ((toPart x).f0, (toPart x).f1, (toPart x).f2, (toPart x).f3) := rfl
theorem toPartS_loop (l : List (S50)) (hl : l.length ≤ 1048576) : ∀ (rest : List (S50)) (pre : List (S51)) (i : Nat), l.drop i = rest → pre.length = i →
    Ev (fun k => laws_toPartS.l0 k l (pre ++ List.replicate rest.length z51) i) (pre ++ rest.map toPart)
  | [], pre, i, hd, hp => by
    have h := drop_nil hd
    exact Ev.step (fun k => laws_toPartS.l0.eq_2 ..) (ev_if_neg (by omega) (ev_some rfl))
  | s :: rest, pre, i, hd, hp => by
    obtain ⟨hi, hd', hx⟩ := drop_cons hd
    have hx : rd_T50 l i = s := hx _
    refine Ev.step (fun k => laws_toPartS.l0.eq_2 ..) (ev_if_pos (by omega) (ev_if_pos (by omega) ?_))
    simp only [hx, toPart_eq, Option.bind_some]
    refine ev_if_pos (by rw [List.length_append, List.length_replicate, List.length_cons]; omega) ?_
    rw [wrap_succ (by omega), Int.toNat_natCast, List.length_cons, List.replicate_succ]
    subst hp
    rw [set_at]
    have := toPartS_loop l hl rest (pre ++ [toPart s]) (pre.length + 1) hd' (by simp)
    simpa using this
theorem toPartS_ev (l : List (S50)) (hl : l.length ≤ 1048576) : Ev (fun k => laws_toPartS.f k l) (l.map toPart) := by
  unfold laws_toPartS.f
  refine ev_if_pos (by omega) (ev_if_pos (by omega) ?_)
  rw [Int.toNat_natCast]
  exact toPartS_loop l hl l [] 0 rfl rfl

/-! ### Part: alike -/
theorem eqPart_eq (x : S51) : laws_eqPart.f x.f0 x.f1 x.f2 x.f3 x.f0 x.f1 x.f2 x.f3 = some true := by
  unfold laws_eqPart.f
  simp
theorem eqPartS_loop (l : List (S51)) (hl : l.length ≤ 1152921504606846976) : ∀ (rest : List (S51)) (i : Nat), l.drop i = rest → Ev (fun k => laws_eqPartS.l0 k l l i) true
  | [], i, hd => by
    have h := drop_nil hd
    exact Ev.step (fun k => laws_eqPartS.l0.eq_2 ..) (ev_if_neg (by omega) (ev_some rfl))
  | s :: rest, i, hd => by
    obtain ⟨hi, hd', hx⟩ := drop_cons hd
    have hx : rd_T51 l i = s := hx _
    refine Ev.step (fun k => laws_eqPartS.l0.eq_2 ..) (ev_if_pos (by omega) (ev_if_pos (by omega) (ev_if_pos (by omega) ?_)))
    simp only [hx, eqPart_eq, Option.bind_some]
    rw [wrap_succ (by omega)]
    exact ev_if_pos (by simp) (eqPartS_loop l hl rest (i + 1) hd')
theorem eqPartS_ev (l : List (S51)) (hl : l.length ≤ 1152921504606846976) : Ev (fun k => laws_eqPartS.f k l l) true := by
  unfold laws_eqPartS.f
  exact ev_if_pos rfl (eqPartS_loop l hl l 0 rfl)

/-! ### questions: parts, words -/
open Go.Proofs.Ytkccinkodbkfdaa.Ext Go.Proofs.Ytkccinkodbkfdaa.Sorted
def inB (a b c : Int) : Bool := decide (b ≤ a) && decide (a ≤ c)
theorem spec_l1In_eq (a b c : Int) : spec_l1In.f a b c = some (inB a b c) := by
  unfold spec_l1In.f inB
  by_cases h : a ≥ b
  · rw [if_pos h]; simp [show b ≤ a from h]
  · rw [if_neg h]; simp [show ¬ b ≤ a from h]
theorem impl_within_eq (a b c : Int) : impl_within.f a b c = some (inB a b c) := by
  unfold impl_within.f inB
  by_cases h : a ≥ b
  · rw [if_pos h]; simp [show b ≤ a from h]
  · rw [if_neg h]; simp [show ¬ b ≤ a from h]
def partB (p : S51) (i : Int) : Bool :=
  if p.f0 = 1 then isWordB p.f1 && (decide (p.f2 = 0) && decide (p.f3 = 0))
  else if p.f0 = 2 ∨ p.f0 = 3 then decide (p.f1.toList = []) && (inB p.f2 0 (i - 1) && inB p.f3 0 (i - 1))
  else if p.f0 = 4 then decide (p.f1.toList = []) && (inB p.f2 0 (i - 1) && decide (p.f3 = 0))
  else false
theorem spec_l11Part_ev (p : S51) (i : Nat) (hs : p.f1.size ≤ 1048576) (hi : i ≤ 1048576) : Ev (fun k => spec_l11Part.f k p.f0 p.f1 p.f2 p.f3 i) (partB p i) := by
  unfold spec_l11Part.f
  have e : wrap64 ((i : Int) - 1) = (i : Int) - 1 := wrap_id (by omega) (by omega)
  by_cases h1 : p.f0 = 1
  · refine ev_if_pos h1 (ev_bind (spec_l9Word_ev p.f1 hs) (ev_fun fun _ => ?_))
    unfold partB
    rw [if_pos h1]
    cases isWordB p.f1 <;> by_cases h2 : p.f2 = 0 <;> simp [h2]
    exact rfl
  · refine ev_if_neg h1 ?_
    have key : ∀ b : Bool, b = true → (p.f0 = 2 ∨ p.f0 = 3) → Ev (fun k => spec_l11Part.j0 k i p.f0 b p.f0 p.f1 p.f2 p.f3) (partB p i) := by
      rintro b rfl h
      refine Ev.step (fun k => spec_l11Part.j0.eq_2 ..) (ev_if_pos rfl (ev_fun fun _ => ?_))
      unfold partB
      rw [if_neg h1, if_pos h]
      simp only [spec_l1In_eq, Option.bind_some, e]
      by_cases h3 : p.f1.toList = ([] : List UInt8)
      · rw [if_pos h3]
        cases inB p.f2 0 (i - 1) <;> simp [h3]
      · rw [if_neg h3]; simp [h3]
    by_cases h2 : p.f0 = 2
    · exact ev_if_pos h2 (key _ (by simp [h2]) (.inl h2))
    · refine ev_if_neg h2 ?_
      by_cases h3 : p.f0 = 3
      · exact key _ (by simp [h3]) (.inr h3)
      · have hb : (p.f0 == 3) = false := by simp [h3]
        rw [hb]
        refine Ev.step (fun k => spec_l11Part.j0.eq_2 ..) (ev_if_neg (by simp) (ev_fun fun _ => ?_))
        unfold partB
        rw [if_neg h1, if_neg (show ¬ (p.f0 = 2 ∨ p.f0 = 3) from fun h => h.elim h2 h3)]
        simp only [spec_l1In_eq, Option.bind_some, e]
        by_cases h4 : p.f0 = 4
        · rw [if_pos h4, if_pos h4]
          by_cases h5 : p.f1.toList = ([] : List UInt8)
          · rw [if_pos h5]
            cases inB p.f2 0 (i - 1) <;> simp [h5]
            exact rfl
          · rw [if_neg h5]; simp [h5]
        · rw [if_neg h4, if_neg h4]
theorem impl_isPart_ev (p : S51) (i : Nat) (hs : p.f1.size ≤ 1048576) (hi : i ≤ 1048576) : Ev (fun k => impl_isPart.f k p.f0 p.f1 p.f2 p.f3 i) (partB p i) := by
  unfold impl_isPart.f
  have e : wrap64 ((i : Int) - 1) = (i : Int) - 1 := wrap_id (by omega) (by omega)
  by_cases h1 : p.f0 = 1
  · refine ev_if_pos h1 (ev_bind (impl_isWord_ev p.f1 hs) (ev_fun fun _ => ?_))
    unfold partB
    rw [if_pos h1]
    cases isWordB p.f1 <;> by_cases h2 : p.f2 = 0 <;> simp [h2]
    exact rfl
  · refine ev_if_neg h1 ?_
    have key : ∀ b : Bool, b = true → (p.f0 = 2 ∨ p.f0 = 3) → Ev (fun k => impl_isPart.j0 k i p.f0 b p.f0 p.f1 p.f2 p.f3) (partB p i) := by
      rintro b rfl h
      refine Ev.step (fun k => impl_isPart.j0.eq_2 ..) (ev_if_pos rfl (ev_fun fun _ => ?_))
      unfold partB
      rw [if_neg h1, if_pos h]
      simp only [impl_within_eq, Option.bind_some, e]
      by_cases h3 : p.f1.toList = ([] : List UInt8)
      · rw [if_pos h3]
        cases inB p.f2 0 (i - 1) <;> simp [h3]
      · rw [if_neg h3]; simp [h3]
    by_cases h2 : p.f0 = 2
    · exact ev_if_pos h2 (key _ (by simp [h2]) (.inl h2))
    · refine ev_if_neg h2 ?_
      by_cases h3 : p.f0 = 3
      · exact key _ (by simp [h3]) (.inr h3)
      · have hb : (p.f0 == 3) = false := by simp [h3]
        rw [hb]
        refine Ev.step (fun k => impl_isPart.j0.eq_2 ..) (ev_if_neg (by simp) (ev_fun fun _ => ?_))
        unfold partB
        rw [if_neg h1, if_neg (show ¬ (p.f0 = 2 ∨ p.f0 = 3) from fun h => h.elim h2 h3)]
        simp only [impl_within_eq, Option.bind_some, e]
        by_cases h4 : p.f0 = 4
        · rw [if_pos h4, if_pos h4]
          by_cases h5 : p.f1.toList = ([] : List UInt8)
          · rw [if_pos h5]
            cases inB p.f2 0 (i - 1) <;> simp [h5]
            exact rfl
          · rw [if_neg h5]; simp [h5]
        · rw [if_neg h4, if_neg h4]
def wordsL : List (S51) → List ByteArray
  | [] => []
  | p :: l => if p.f0 = 1 then p.f1 :: wordsL l else wordsL l
theorem wordsL_length : ∀ l : List (S51), (wordsL l).length ≤ l.length
  | [] => Nat.le_refl _
  | p :: l => by
    have := wordsL_length l
    unfold wordsL
    split <;> simp only [List.length_cons] <;> omega
def wordsQ (q : List (S51)) : List ByteArray := puts [] (wordsL q)
theorem wordsQ_length (q : List (S51)) : (wordsQ q).length ≤ q.length := by
  have h1 := puts_length (wordsL q) []
  have h2 := wordsL_length q
  unfold wordsQ
  simp only [List.length_nil] at h1
  omega
theorem l5Insert_at (pre rest : List ByteArray) (s : ByteArray) (hl : pre.length + rest.length ≤ 1048576) : spec_l5Insert.f (pre ++ rest) pre.length s = some (pre ++ s :: rest) := by
  unfold spec_l5Insert.f
  simp only [Option.bind_some, Int.toNat_natCast, List.take_left', List.drop_left', List.nil_append, List.length_nil, List.length_append, List.length_singleton]
  rw [if_pos (by omega), if_pos (by omega), if_pos (by omega), if_pos (by omega), if_pos (by omega)]
  simp
theorem l9Put_loop (s : ByteArray) : ∀ (rest pre : List ByteArray), pre.length + rest.length ≤ 1048576 →
    Ev (fun k => spec_l9Put.l0 k (pre ++ rest) s pre.length) (pre ++ put s rest)
  | [], pre, hl => by
    refine Ev.step (fun k => spec_l9Put.l0.eq_2 ..) (ev_if_neg (by simp) ?_)
    rw [l5Insert_at pre [] s hl]
    exact ev_some rfl
  | x :: rest, pre, hl => by
    obtain ⟨hi, hx⟩ := mid_at (l := pre ++ x :: rest) (pre := pre) (rest := rest) (x := x) rfl
    rw [List.length_cons] at hl
    refine Ev.step (fun k => spec_l9Put.l0.eq_2 ..) (ev_if_pos (by omega) (ev_if_pos (by omega) ?_))
    rw [hx]
    unfold put
    by_cases h1 : lessB x s = true
    · rw [if_pos h1]
      refine ev_if_pos h1 ?_
      rw [wrap_succ (by omega)]
      have ih := l9Put_loop s rest (pre ++ [x]) (by rw [List.length_append, List.length_singleton]; omega)
      rw [List.length_append, List.length_singleton] at ih
      simpa using ih
    · rw [if_neg h1]
      refine ev_if_neg h1 ?_
      by_cases h2 : x = s
      · rw [if_pos h2]
        exact ev_if_pos (by rw [h2]) (ev_some rfl)
      · rw [if_neg h2]
        refine ev_if_neg (fun h => h2 (toList_inj.1 h)) ?_
        rw [l5Insert_at pre (x :: rest) s (by rw [List.length_cons]; omega)]
        exact ev_some rfl
theorem l9Put_ev (s : ByteArray) (l : List ByteArray) (hl : l.length ≤ 1048576) : Ev (fun k => spec_l9Put.f k l s) (put s l) := by
  unfold spec_l9Put.f
  exact l9Put_loop s l [] (by simpa using hl)
theorem spec_l11Words_loop (l : List (S51)) (hl : l.length ≤ 1048576) : ∀ (rest : List (S51)) (acc : List ByteArray) (i : Nat), l.drop i = rest → acc.length ≤ i →
    Ev (fun k => spec_l11Words.l0 k acc l l.length i) (puts acc (wordsL rest))
  | [], acc, i, hd, ha => by
    have h := drop_nil hd
    exact Ev.step (fun k => spec_l11Words.l0.eq_2 ..) (ev_if_neg (by omega) (ev_some rfl))
  | x :: rest, acc, i, hd, ha => by
    obtain ⟨hi, hd', hx⟩ := drop_cons hd
    have hx : rd_T51 l i = x := hx _
    refine Ev.step (fun k => spec_l11Words.l0.eq_2 ..) (ev_if_pos (by omega) (ev_if_pos (by omega) (ev_if_pos (by omega) ?_)))
    rw [hx, wrap_succ (by omega)]
    unfold wordsL
    by_cases h1 : x.f0 = 1
    · rw [if_pos h1]
      have := put_length x.f1 acc
      exact ev_if_pos h1 (ev_bind (l9Put_ev x.f1 acc (by omega)) (spec_l11Words_loop l hl rest (put x.f1 acc) (i + 1) hd' (by omega)))
    · rw [if_neg h1]
      exact ev_if_neg h1 (spec_l11Words_loop l hl rest acc (i + 1) hd' (by omega))
theorem spec_l11Words_ev (l : List (S51)) (hl : l.length ≤ 1048576) : Ev (fun k => spec_l11Words.f k l) (wordsQ l) := by
  unfold spec_l11Words.f
  exact spec_l11Words_loop l hl l [] 0 rfl (Nat.le_refl _)
theorem impl_wordsIn_loop (l : List (S51)) (hl : l.length ≤ 1048576) : ∀ (rest : List (S51)) (acc : List ByteArray) (i : Nat), l.drop i = rest → acc.length ≤ i → i ≤ l.length →
    Ev (fun k => impl_wordsIn.l0 k acc l l.length i) (puts [] (acc ++ wordsL rest))
  | [], acc, i, hd, ha, hle => by
    have h := drop_nil hd
    refine Ev.step (fun k => impl_wordsIn.l0.eq_2 ..) (ev_if_neg (by omega) ?_)
    unfold slices_Sort_string_string.f slices_Compact_string_string.f
    rw [if_pos (by omega)]
    exact ev_some (by rw [compStrs_puts]; simp [wordsL])
  | x :: rest, acc, i, hd, ha, hle => by
    obtain ⟨hi, hd', hx⟩ := drop_cons hd
    have hx : rd_T51 l i = x := hx _
    refine Ev.step (fun k => impl_wordsIn.l0.eq_2 ..) (ev_if_pos (by omega) (ev_if_pos (by omega) (ev_if_pos (by omega) ?_)))
    rw [hx, wrap_succ (by omega)]
    unfold wordsL
    by_cases h1 : x.f0 = 1
    · rw [if_pos h1]
      refine ev_if_pos h1 (ev_if_pos (by omega) ?_)
      have ih := impl_wordsIn_loop l hl rest (acc ++ [x.f1]) (i + 1) hd' (by rw [List.length_append, List.length_singleton]; omega) (by omega)
      simpa using ih
    · rw [if_neg h1]
      exact ev_if_neg h1 (impl_wordsIn_loop l hl rest acc (i + 1) hd' (by omega) (by omega))
theorem impl_wordsIn_ev (l : List (S51)) (hl : l.length ≤ 1048576) : Ev (fun k => impl_wordsIn.f k l) (wordsQ l) := by
  unfold impl_wordsIn.f
  exact impl_wordsIn_loop l hl l [] 0 rfl (Nat.le_refl _) (Nat.zero_le _)
def partsB : Nat → List (S51) → Bool
  | _, [] => true
  | i, p :: l => partB p i && partsB (i + 1) l
def goodQ (q : List (S51)) : Bool := partsB 0 q && (inB q.length 1 24 && decide (((wordsQ q).length : Int) ≤ 5))
theorem spec_GoodQuery_loop (l : List (S51)) (hl : l.length ≤ 1048576) (hw : ∀ p ∈ l, p.f1.size ≤ 1048576) : ∀ (rest : List (S51)) (i : Nat), l.drop i = rest →
    Ev (fun k => spec_GoodQuery.l0 k l l l.length i) (partsB i rest && (inB l.length 1 24 && decide (((wordsQ l).length : Int) ≤ 5)))
  | [], i, hd => by
    have h := drop_nil hd
    refine Ev.step (fun k => spec_GoodQuery.l0.eq_2 ..) (ev_if_neg (by omega) ?_)
    rw [spec_l1In_eq]
    simp only [Option.bind_some]
    cases hb : inB l.length 1 24 with
    | true => exact ev_if_pos rfl (ev_bind (spec_l11Words_ev l hl) (ev_some (by simp [partsB])))
    | false => exact ev_if_neg (by simp) (ev_some (by simp))
  | x :: rest, i, hd => by
    obtain ⟨hi, hd', hx⟩ := drop_cons hd
    have hx : rd_T51 l i = x := hx _
    have hm : x ∈ l := List.mem_of_mem_drop (by rw [hd]; exact List.mem_cons_self)
    refine Ev.step (fun k => spec_GoodQuery.l0.eq_2 ..) (ev_if_pos (by omega) (ev_if_pos (by omega) (ev_if_pos (by omega) ?_)))
    rw [hx, wrap_succ (by omega)]
    refine ev_bind (spec_l11Part_ev x i (hw x hm) (by omega)) ?_
    unfold partsB
    cases hb : partB x i with
    | true => exact ev_if_pos rfl (ev_eq (spec_GoodQuery_loop l hl hw rest (i + 1) hd') (by simp))
    | false => exact ev_if_neg (by simp) (ev_some (by simp))
theorem spec_GoodQuery_ev (l : List (S51)) (hl : l.length ≤ 1048576) (hw : ∀ p ∈ l, p.f1.size ≤ 1048576) : Ev (fun k => spec_GoodQuery.f k l) (goodQ l) := by
  unfold spec_GoodQuery.f
  exact spec_GoodQuery_loop l hl hw l 0 rfl
theorem impl_GoodQuery_loop (l : List (S51)) (hl : l.length ≤ 1048576) (hw : ∀ p ∈ l, p.f1.size ≤ 1048576) : ∀ (rest : List (S51)) (i : Nat), l.drop i = rest →
    Ev (fun k => impl_GoodQuery.l0 k l l l.length i) (partsB i rest && decide (((wordsQ l).length : Int) ≤ 5))
  | [], i, hd => by
    have h := drop_nil hd
    exact Ev.step (fun k => impl_GoodQuery.l0.eq_2 ..) (ev_if_neg (by omega) (ev_bind (impl_wordsIn_ev l hl) (ev_some (by simp [partsB]))))
  | x :: rest, i, hd => by
    obtain ⟨hi, hd', hx⟩ := drop_cons hd
    have hx : rd_T51 l i = x := hx _
    have hm : x ∈ l := List.mem_of_mem_drop (by rw [hd]; exact List.mem_cons_self)
    refine Ev.step (fun k => impl_GoodQuery.l0.eq_2 ..) (ev_if_pos (by omega) (ev_if_pos (by omega) (ev_if_pos (by omega) ?_)))
    rw [hx, wrap_succ (by omega)]
    refine ev_bind (impl_isPart_ev x i (hw x hm) (by omega)) ?_
    unfold partsB
    cases hb : partB x i with
    | true => exact ev_if_pos rfl (ev_eq (impl_GoodQuery_loop l hl hw rest (i + 1) hd') (by simp))
    | false => exact ev_if_neg (by simp) (ev_some (by simp))
theorem impl_GoodQuery_ev (l : List (S51)) (hl : l.length ≤ 1048576) (hw : ∀ p ∈ l, p.f1.size ≤ 1048576) : Ev (fun k => impl_GoodQuery.f k l) (goodQ l) := by
  unfold impl_GoodQuery.f goodQ
  rw [impl_within_eq]
  simp only [Option.bind_some]
  cases hb : inB l.length 1 24 with
  | true => exact ev_if_pos rfl (ev_eq (impl_GoodQuery_loop l hl hw l 0 rfl) (by simp))
  | false => exact ev_if_neg (by simp) (ev_some (by simp))

/-! ### lists of texts: their size, copied -/
theorem szStringS_loop (l : List ByteArray) (hl : l.length ≤ 1048576) (hw : ∀ s ∈ l, s.size ≤ 9223372036854775807) : ∀ (rest : List ByteArray) (i : Nat) (left : Int), l.drop i = rest → 0 ≤ left → left ≤ 1048576 →
    ∃ r, Ev (fun k => laws_szStringS.l0 k l left i) r ∧ r ≤ 1048576 ∧ (0 ≤ r → ∀ s ∈ rest, s.size ≤ 1048576)
  | [], i, left, hd, h0, h1 => by
    have h := drop_nil hd
    exact ⟨left, Ev.step (fun k => laws_szStringS.l0.eq_2 ..) (ev_if_neg (by omega) (ev_some rfl)), h1, fun _ s hs => by simp at hs⟩
  | s :: rest, i, left, hd, h0, h1 => by
    obtain ⟨hi, hd', hx⟩ := drop_cons hd
    have hs : s ∈ l := by
      have : s ∈ l.drop i := by rw [hd]; exact List.mem_cons_self
      exact List.mem_of_mem_drop this
    have hsz := hw s hs
    have e : wrap64 (left - (s.size : Int)) = left - s.size := wrap_id (by omega) (by omega)
    by_cases hn : left - (s.size : Int) < 0
    · refine ⟨-1, Ev.step (fun k => laws_szStringS.l0.eq_2 ..) (ev_if_pos (by omega) (ev_if_pos (by omega) ?_)), by omega, fun h => by omega⟩
      rw [hx, e]
      exact ev_if_pos hn (ev_some rfl)
    · obtain ⟨r, hr, hb, hall⟩ := szStringS_loop l hl hw rest (i + 1) (left - s.size) hd' (by omega) (by omega)
      refine ⟨r, Ev.step (fun k => laws_szStringS.l0.eq_2 ..) (ev_if_pos (by omega) (ev_if_pos (by omega) ?_)), hb, fun h t ht => ?_⟩
      · rw [hx, e, wrap_succ (by omega)]
        exact ev_if_neg hn hr
      · rcases List.mem_cons.1 ht with rfl | ht
        · omega
        · exact hall h t ht
theorem szStringS_ev (l : List ByteArray) (left : Int) (h0 : 0 ≤ left) (h1 : left ≤ 1048576) (hl : l.length ≤ 9223372036854775807) (hw : ∀ s ∈ l, s.size ≤ 9223372036854775807) :
    ∃ r, Ev (fun k => laws_szStringS.f k l left) r ∧ r ≤ 1048576 ∧ (0 ≤ r → l.length ≤ 1048576 ∧ ∀ s ∈ l, s.size ≤ 1048576) := by
  unfold laws_szStringS.f
  have e : wrap64 (left - (l.length : Int)) = left - l.length := wrap_id (by omega) (by omega)
  simp only [e]
  by_cases hn : left - (l.length : Int) < 0
  · exact ⟨-1, ev_if_pos hn (ev_some rfl), by omega, fun h => by omega⟩
  · obtain ⟨r, hr, hb, hall⟩ := szStringS_loop l (by omega) hw l 0 (left - l.length) rfl (by omega) (by omega)
    exact ⟨r, ev_if_neg hn hr, hb, fun h => ⟨by omega, hall h⟩⟩

theorem toStringS_loop (l : List ByteArray) (hl : l.length ≤ 1048576) : ∀ (rest pre : List ByteArray) (i : Nat), l.drop i = rest → pre.length = i →
    Ev (fun k => laws_toStringS.l0 k l (pre ++ List.replicate rest.length (⟨#[]⟩ : ByteArray)) i) (pre ++ rest)
  | [], pre, i, hd, hp => by
    have h := drop_nil hd
    exact Ev.step (fun k => laws_toStringS.l0.eq_2 ..) (ev_if_neg (by omega) (ev_some rfl))
  | s :: rest, pre, i, hd, hp => by
    obtain ⟨hi, hd', hx⟩ := drop_cons hd
    refine Ev.step (fun k => laws_toStringS.l0.eq_2 ..) (ev_if_pos (by omega) (ev_if_pos (by omega) (ev_if_pos (by simp; omega) ?_)))
    rw [wrap_succ (by omega), hx, Int.toNat_natCast, List.length_cons, List.replicate_succ]
    subst hp
    rw [set_at]
    have := toStringS_loop l hl rest (pre ++ [s]) (pre.length + 1) hd' (by simp)
    simpa using this
theorem toStringS_ev (l : List ByteArray) (hl : l.length ≤ 1048576) : Ev (fun k => laws_toStringS.f k l) l := by
  unfold laws_toStringS.f
  refine ev_if_pos (by omega) (ev_if_pos (by omega) ?_)
  rw [Int.toNat_natCast]
  exact toStringS_loop l hl l [] 0 rfl rfl

/-! ### lists of texts: alike -/
theorem eqStringS_loop (l : List ByteArray) (hl : l.length ≤ 1152921504606846976) : ∀ (rest : List ByteArray) (i : Nat), l.drop i = rest → Ev (fun k => laws_eqStringS.l0 k l l i) true
  | [], i, hd => by
    have h := drop_nil hd
    exact Ev.step (fun k => laws_eqStringS.l0.eq_2 ..) (ev_if_neg (by omega) (ev_some rfl))
  | s :: rest, i, hd => by
    obtain ⟨hi, hd', hx⟩ := drop_cons hd
    refine Ev.step (fun k => laws_eqStringS.l0.eq_2 ..) (ev_if_pos (by omega) (ev_if_pos (by omega) (ev_if_pos (by omega) (ev_if_pos rfl ?_))))
    rw [wrap_succ (by omega)]
    exact eqStringS_loop l hl rest (i + 1) hd'
theorem eqStringS_ev (l : List ByteArray) (hl : l.length ≤ 1152921504606846976) : Ev (fun k => laws_eqStringS.f k l l) true := by
  unfold laws_eqStringS.f
  exact ev_if_pos rfl (eqStringS_loop l hl l 0 rfl)

/-! ### whether a question holds -/
def hasB (words : List ByteArray) (s : ByteArray) : Bool := words.any fun x => decide (x = s)
theorem spec_hasText_loop (s : ByteArray) (l : List ByteArray) (hl : l.length ≤ 1048576) : ∀ (rest : List ByteArray) (i : Nat), l.drop i = rest → Ev (fun k => spec_l1HasText.l0 k s l l.length i) (hasB rest s)
  | [], i, hd => by
    have h := drop_nil hd
    exact Ev.step (fun k => spec_l1HasText.l0.eq_2 ..) (ev_if_neg (by omega) (ev_some rfl))
  | x :: rest, i, hd => by
    obtain ⟨hi, hd', hx⟩ := drop_cons hd
    refine Ev.step (fun k => spec_l1HasText.l0.eq_2 ..) (ev_if_pos (by omega) (ev_if_pos (by omega) (ev_if_pos (by omega) ?_)))
    rw [hx, wrap_succ (by omega)]
    by_cases h : x = s
    · exact ev_if_pos (by rw [h]) (ev_some (by simp [hasB, h]))
    · exact ev_if_neg (fun e => h (toList_inj.1 e)) (ev_eq (spec_hasText_loop s l hl rest (i + 1) hd') (by simp [hasB, h]))
theorem spec_hasText_ev (s : ByteArray) (l : List ByteArray) (hl : l.length ≤ 1048576) : Ev (fun k => spec_l1HasText.f k l s) (hasB l s) := by
  unfold spec_l1HasText.f
  exact spec_hasText_loop s l hl l 0 rfl
theorem index_loop (s : ByteArray) (l : List ByteArray) (hl : l.length ≤ 1048576) : ∀ (rest : List ByteArray) (i : Nat), l.drop i = rest → ∃ r, Ev (fun k => slices_Index_string_string.l0 k l s l.length i) r ∧ decide (r ≥ 0) = hasB rest s
  | [], i, hd => by
    have h := drop_nil hd
    exact ⟨-1, Ev.step (fun k => slices_Index_string_string.l0.eq_2 ..) (ev_if_neg (by omega) (ev_some rfl)), by simp [hasB]⟩
  | x :: rest, i, hd => by
    obtain ⟨hi, hd', hx⟩ := drop_cons hd
    by_cases h : s = x
    · refine ⟨i, Ev.step (fun k => slices_Index_string_string.l0.eq_2 ..) (ev_if_pos (by omega) (ev_if_pos (by omega) (ev_if_pos (by omega) ?_))), by simp [hasB, h]⟩
      rw [hx]
      exact ev_if_pos (by rw [h]) (ev_some rfl)
    · obtain ⟨r, hr, hb⟩ := index_loop s l hl rest (i + 1) hd'
      refine ⟨r, Ev.step (fun k => slices_Index_string_string.l0.eq_2 ..) (ev_if_pos (by omega) (ev_if_pos (by omega) (ev_if_pos (by omega) ?_))), by rw [hb]; unfold hasB; rw [List.any_cons, show decide (x = s) = false from decide_eq_false (fun e => h e.symm), Bool.false_or]⟩
      rw [hx, wrap_succ (by omega)]
      exact ev_if_neg (fun e => h (toList_inj.1 e)) hr
theorem contains_ev (s : ByteArray) (l : List ByteArray) (hl : l.length ≤ 1048576) : Ev (fun k => slices_Contains_string_string.f k l s) (hasB l s) := by
  unfold slices_Contains_string_string.f slices_Index_string_string.f
  obtain ⟨r, hr, hb⟩ := index_loop s l hl l 0 rfl
  exact ev_bind hr (ev_some hb)
def rdB (t : List Bool) (i : Int) : Bool := rdOf false t i
def stepB (words : List ByteArray) (t : List Bool) (p : S51) : Bool :=
  if p.f0 = 1 then hasB words p.f1 else if p.f0 = 2 then rdB t p.f2 && rdB t p.f3 else if p.f0 = 3 then rdB t p.f2 || rdB t p.f3 else !(rdB t p.f2)
def tellB (words : List ByteArray) : List Bool → List (S51) → List Bool
  | t, [] => t
  | t, p :: l => tellB words (t ++ [stepB words t p]) l
theorem tellB_length (words : List ByteArray) : ∀ (l : List (S51)) (t : List Bool), (tellB words t l).length = t.length + l.length
  | [], t => rfl
  | p :: l, t => by
    rw [tellB, tellB_length words l, List.length_append, List.length_singleton, List.length_cons]; omega
/-- What a good question's part lets know. -/
theorem partB_case {p : S51} {i : Nat} (h : partB p i = true) : p.f0 = 1 ∨ ((p.f0 = 2 ∨ p.f0 = 3) ∧ 0 ≤ p.f2 ∧ p.f2 < i ∧ 0 ≤ p.f3 ∧ p.f3 < i) ∨ (p.f0 = 4 ∧ 0 ≤ p.f2 ∧ p.f2 < i) := by
  unfold partB at h
  split at h
  · exact .inl (by assumption)
  · split at h
    · rename_i h2
      simp only [inB, Bool.and_eq_true, decide_eq_true_eq] at h
      exact .inr (.inl ⟨h2, h.2.1.1, by omega, h.2.2.1, by omega⟩)
    · split at h
      · rename_i h4
        simp only [inB, Bool.and_eq_true, decide_eq_true_eq] at h
        exact .inr (.inr ⟨h4, h.2.1.1, by omega⟩)
      · cases h
theorem spec_holds_loop (words : List ByteArray) (hw : words.length ≤ 1048576) (l : List (S51)) (hl : l.length ≤ 24) (h0 : 0 < l.length) : ∀ (rest : List (S51)) (t : List Bool) (i : Nat), l.drop i = rest → t.length = i → i ≤ l.length → partsB i rest = true →
    Ev (fun k => spec_l11Holds.l0 k words t l l.length i) (rdB (tellB words t rest) ((l.length : Int) - 1))
  | [], t, i, hd, ht, hle, hb => by
    have h := drop_nil hd
    refine Ev.step (fun k => spec_l11Holds.l0.eq_2 ..) (ev_if_neg (by omega) ?_)
    have e : wrap64 ((t.length : Int) - 1) = (t.length : Int) - 1 := wrap_id (by omega) (by omega)
    rw [e]
    refine ev_if_pos (by omega) (ev_if_pos (by omega) (ev_some ?_))
    have e2 : t.length = l.length := by omega
    rw [e2]; rfl
  | x :: rest, t, i, hd, ht, hle, hb => by
    obtain ⟨hi, hd', hx⟩ := drop_cons hd
    have hx : rd_T51 l i = x := hx _
    unfold partsB at hb
    rw [Bool.and_eq_true] at hb
    have ih := fun b => spec_holds_loop words hw l hl h0 rest (t ++ [b]) (i + 1) hd' (by rw [List.length_append, List.length_singleton]; omega) (by omega) hb.2
    refine Ev.step (fun k => spec_l11Holds.l0.eq_2 ..) (ev_if_pos (by omega) (ev_if_pos (by omega) (ev_if_pos (by omega) ?_)))
    simp only [hx, wrap_succ (show i < 9223372036854775807 by omega)]
    unfold tellB
    have hlt : t.length < 140737488355328 := by omega
    rcases partB_case hb.1 with h1 | ⟨h1, a1, a2, b1, b2⟩ | ⟨h1, a1, a2⟩
    · have e : stepB words t x = hasB words x.f1 := by unfold stepB; rw [if_pos h1]
      rw [e]
      exact ev_if_pos h1 (ev_bind (spec_hasText_ev x.f1 words hw) (ev_if_pos hlt (ih _)))
    · rcases h1 with h1 | h1
      · have e : stepB words t x = (rdB t x.f2 && rdB t x.f3) := by unfold stepB; rw [if_neg (by omega), if_pos h1]
        rw [e]
        refine ev_if_neg (by omega) (ev_if_pos h1 (ev_if_pos a1 (ev_if_pos (by omega) ?_)))
        change Ev (fun k => if rdB t x.f2 = true then _ else _) _
        cases h : rdB t x.f2 with
        | true => exact ev_if_pos rfl (ev_if_pos b1 (ev_if_pos (by omega) (ev_if_pos hlt (ih _))))
        | false => exact ev_if_neg (by simp) (ev_if_pos hlt (ih _))
      · have e : stepB words t x = (rdB t x.f2 || rdB t x.f3) := by unfold stepB; rw [if_neg (by omega), if_neg (by omega), if_pos h1]
        rw [e]
        refine ev_if_neg (by omega) (ev_if_neg (by omega) (ev_if_pos h1 (ev_if_pos a1 (ev_if_pos (by omega) ?_))))
        change Ev (fun k => if rdB t x.f2 = true then _ else _) _
        cases h : rdB t x.f2 with
        | true => exact ev_if_pos rfl (ev_if_pos hlt (ih _))
        | false => exact ev_if_neg (by simp) (ev_if_pos b1 (ev_if_pos (by omega) (ev_if_pos hlt (ih _))))
    · have e : stepB words t x = !(rdB t x.f2) := by unfold stepB; rw [if_neg (by omega), if_neg (by omega), if_neg (by omega)]
      rw [e]
      exact ev_if_neg (by omega) (ev_if_neg (by omega) (ev_if_neg (by omega) (ev_if_pos h1 (ev_if_pos a1 (ev_if_pos (by omega) (ev_if_pos hlt (ih _)))))))
theorem rdB_pad (t : List Bool) (d : Nat) (i : Int) (h0 : 0 ≤ i) (h : i < t.length) : rdOf false (t ++ List.replicate d false) i = rdB t i := by
  unfold rdB rdOf
  rw [List.getD_eq_getElem?_getD, List.getD_eq_getElem?_getD, List.getElem?_append_left (by omega)]
theorem impl_holds_loop (words : List ByteArray) (hw : words.length ≤ 1048576) (l : List (S51)) (hl : l.length ≤ 24) (h0 : 0 < l.length) : ∀ (rest : List (S51)) (t : List Bool) (i : Nat), l.drop i = rest → t.length = i → i ≤ l.length → partsB i rest = true →
    Ev (fun k => impl_holds.l0 k l words (t ++ List.replicate rest.length false) l l.length i) (rdB (tellB words t rest) ((l.length : Int) - 1))
  | [], t, i, hd, ht, hle, hb => by
    have h := drop_nil hd
    refine Ev.step (fun k => impl_holds.l0.eq_2 ..) (ev_if_neg (by omega) ?_)
    have e : wrap64 ((l.length : Int) - 1) = (l.length : Int) - 1 := wrap_id (by omega) (by omega)
    rw [e, List.length_nil, List.replicate_zero, List.append_nil]
    exact ev_if_pos (by omega) (ev_if_pos (by omega) (ev_some rfl))
  | x :: rest, t, i, hd, ht, hle, hb => by
    obtain ⟨hi, hd', hx⟩ := drop_cons hd
    have hx : rd_T51 l i = x := hx _
    unfold partsB at hb
    rw [Bool.and_eq_true] at hb
    have ih : ∀ b, Ev (fun k => impl_holds.l0 k l words ((t ++ List.replicate (x :: rest).length false).set ((i : Nat) : Int).toNat b) l l.length ((i + 1 : Nat) : Int)) (rdB (tellB words (t ++ [b]) rest) ((l.length : Int) - 1)) := by
      intro b
      have := impl_holds_loop words hw l hl h0 rest (t ++ [b]) (i + 1) hd' (by rw [List.length_append, List.length_singleton]; omega) (by omega) hb.2
      rw [Int.toNat_natCast, List.length_cons, List.replicate_succ, ← ht, set_at]
      rw [List.append_assoc, List.singleton_append] at this
      rw [ht]; exact this
    refine Ev.step (fun k => impl_holds.l0.eq_2 ..) (ev_if_pos (by omega) (ev_if_pos (by omega) (ev_if_pos (by omega) ?_)))
    simp only [hx, wrap_succ (show i < 9223372036854775807 by omega)]
    unfold tellB
    have hlen : ((t ++ List.replicate (x :: rest).length false).length : Int) = t.length + rest.length + 1 := by rw [List.length_append, List.length_replicate, List.length_cons]; omega
    have hlt : (i : Int) < ((t ++ List.replicate (x :: rest).length false).length : Int) := by rw [hlen]; omega
    rcases partB_case hb.1 with h1 | ⟨h1, a1, a2, b1, b2⟩ | ⟨h1, a1, a2⟩
    · have e : stepB words t x = hasB words x.f1 := by unfold stepB; rw [if_pos h1]
      rw [e]
      exact ev_if_pos h1 (ev_bind (contains_ev x.f1 words hw) (ev_if_pos hlt (ih _)))
    · have ra := rdB_pad t (x :: rest).length x.f2 a1 (by omega)
      have rb := rdB_pad t (x :: rest).length x.f3 b1 (by omega)
      rw [ra, rb]
      rcases h1 with h1 | h1
      · have e : stepB words t x = (rdB t x.f2 && rdB t x.f3) := by unfold stepB; rw [if_neg (by omega), if_pos h1]
        rw [e]
        refine ev_if_neg (by omega) (ev_if_pos h1 (ev_if_pos a1 (ev_if_pos (by rw [hlen]; omega) ?_)))
        cases h : rdB t x.f2 with
        | true => exact ev_if_pos rfl (ev_if_pos b1 (ev_if_pos (by rw [hlen]; omega) (ev_if_pos hlt (ih _))))
        | false => exact ev_if_neg (by simp) (ev_if_pos hlt (ih _))
      · have e : stepB words t x = (rdB t x.f2 || rdB t x.f3) := by unfold stepB; rw [if_neg (by omega), if_neg (by omega), if_pos h1]
        rw [e]
        refine ev_if_neg (by omega) (ev_if_neg (by omega) (ev_if_pos h1 (ev_if_pos a1 (ev_if_pos (by rw [hlen]; omega) ?_))))
        cases h : rdB t x.f2 with
        | true => exact ev_if_pos rfl (ev_if_pos hlt (ih _))
        | false => exact ev_if_neg (by simp) (ev_if_pos b1 (ev_if_pos (by rw [hlen]; omega) (ev_if_pos hlt (ih _))))
    · have ra := rdB_pad t (x :: rest).length x.f2 a1 (by omega)
      have e : stepB words t x = !(rdB t x.f2) := by unfold stepB; rw [if_neg (by omega), if_neg (by omega), if_neg (by omega)]
      rw [e, ra]
      exact ev_if_neg (by omega) (ev_if_neg (by omega) (ev_if_neg (by omega) (ev_if_pos a1 (ev_if_pos (by rw [hlen]; omega) (ev_if_pos hlt (ih _))))))
def holdsB (q : List (S51)) (words : List ByteArray) : Bool := rdB (tellB words [] q) ((q.length : Int) - 1)
theorem goodQ_parts {q : List (S51)} (h : goodQ q = true) : partsB 0 q = true ∧ 0 < q.length ∧ q.length ≤ 24 := by
  unfold goodQ inB at h
  simp only [Bool.and_eq_true, decide_eq_true_eq] at h
  exact ⟨h.1, by omega, by omega⟩
theorem spec_holds_ev (q : List (S51)) (words : List ByteArray) (hw : words.length ≤ 1048576) (hg : goodQ q = true) : Ev (fun k => spec_l11Holds.f k q words) (holdsB q words) := by
  obtain ⟨h1, h2, h3⟩ := goodQ_parts hg
  unfold spec_l11Holds.f
  exact spec_holds_loop words hw q h3 h2 q [] 0 rfl rfl (Nat.zero_le _) h1
theorem impl_holds_ev (q : List (S51)) (words : List ByteArray) (hw : words.length ≤ 1048576) (hg : goodQ q = true) : Ev (fun k => impl_holds.f k q words) (holdsB q words) := by
  obtain ⟨h1, h2, h3⟩ := goodQ_parts hg
  unfold impl_holds.f
  refine ev_if_pos (by omega) (ev_if_pos (by omega) ?_)
  rw [Int.toNat_natCast]
  exact impl_holds_loop words hw q h3 h2 q [] 0 rfl rfl (Nat.zero_le _) h1

def holdsR (q : List (S51)) (words : List ByteArray) : Bool × Bool := if goodQ q = true then (if (words.length : Int) > 60 then (false, false) else (holdsB q words, true)) else (false, false)
theorem spec_HoldsFor_ev (l : List (S51)) (words : List ByteArray) (hl : l.length ≤ 1048576) (hw : ∀ p ∈ l, p.f1.size ≤ 1048576) (hs : words.length ≤ 1048576) : Ev (fun k => spec_HoldsFor.f k l words) (holdsR l words) := by
  unfold spec_HoldsFor.f holdsR
  refine ev_bind (spec_GoodQuery_ev l hl hw) ?_
  cases hg : goodQ l with
  | true =>
    refine ev_if_pos rfl ?_
    rw [if_pos rfl]
    exact ev_ite (fun _ => ev_some rfl) (fun _ => ev_bind (spec_holds_ev l words hs hg) (ev_some rfl))
  | false => exact ev_if_neg (by simp) (ev_some rfl)
theorem impl_HoldsFor_ev (l : List (S51)) (words : List ByteArray) (hl : l.length ≤ 1048576) (hw : ∀ p ∈ l, p.f1.size ≤ 1048576) (hs : words.length ≤ 1048576) : Ev (fun k => impl_HoldsFor.f k l words) (holdsR l words) := by
  unfold impl_HoldsFor.f holdsR
  refine ev_bind (impl_GoodQuery_ev l hl hw) ?_
  cases hg : goodQ l with
  | true =>
    refine ev_if_pos rfl ?_
    rw [if_pos rfl]
    exact ev_ite (fun _ => ev_some rfl) (fun _ => ev_bind (impl_holds_ev l words hs hg) (ev_some rfl))
  | false => exact ev_if_neg (by simp) (ev_some rfl)
theorem FnExactHoldsFor : laws_FnExactHoldsFor.Pure := by
  intro l m hw hm
  refine Ev.rounds (g := fun k => laws_FnExactHoldsFor.f k l m) ?_
  unfold laws_FnExactHoldsFor.f
  obtain ⟨r, hr, hb, hall⟩ := szPartS_ev l 1048576 (by omega) (by omega) hw.1 (fun x hx => (hw.2 x hx).2.1)
  refine ev_bind hr ?_
  by_cases hn : r < 0
  · exact ev_if_pos hn (ev_some rfl)
  obtain ⟨h1, h2⟩ := hall (by omega)
  refine ev_if_neg hn ?_
  obtain ⟨r2, hr2, _, hall2⟩ := szStringS_ev m r (by omega) hb hm.1 hm.2
  refine ev_bind hr2 ?_
  by_cases hn2 : r2 < 0
  · exact ev_if_pos hn2 (ev_some rfl)
  obtain ⟨m1, m2⟩ := hall2 (by omega)
  refine ev_if_neg hn2 ?_
  have hto := toPartS_ev l h1
  have hts := toStringS_ev m m1
  have h1' : (l.map toPart).length ≤ 1048576 := by simpa using h1
  have h2' : ∀ x ∈ l.map toPart, x.f1.size ≤ 1048576 := by
    intro x hx
    obtain ⟨y, hy, rfl⟩ := List.mem_map.1 hx
    exact h2 y hy
  revert hto h1' h2'
  generalize l.map toPart = L
  intro hto hL hS
  have k1 := spec_HoldsFor_ev L m hL hS m1
  have k2 := impl_HoldsFor_ev L m hL hS m1
  refine ev_bind hto (ev_bind hts (ev_bind k1 (ev_bind hto (ev_bind hts (ev_bind k2 ?_)))))
  simp only [bne_self_eq_false]
  refine ev_if_neg (by simp) (Ev.step (fun k => laws_FnExactHoldsFor.j0.eq_2 ..) (ev_if_neg (by simp) ?_))
  exact ev_bind hto (ev_bind (eqPartS_ev L (by omega)) (ev_if_pos rfl (ev_bind hts (ev_bind (eqStringS_ev m (by omega)) (ev_if_pos rfl (ev_some rfl))))))

end Go.Proofs.Ytkccinkodbkfdaa.Pure
