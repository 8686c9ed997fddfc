/- The law FnExactSameQuery holds at every input; no conditions. -/
import Derived.Test.YtnolkgfdokijjaaQFnExactSameQueryx8
import Derived.Test.YtnolkgfdokijjaaBase
import Derived.OpenShut
import Derived.Test.YtnolkgfdokijjaaSorted
namespace Go.Proofs.Ytnolkgfdokijjaa.Pure
open Go.RowKit Go.Proofs.Ytnolkgfdokijjaa.QFnExactSameQuery Go.Proofs.YtnolkgfdokijjaaW.PrintWords Go.Proofs.YtnolkgfdokijjaaW.PrintLast Go.Proofs.Ytnolkgfdokijjaa.Base
set_option linter.unusedSimpArgs false
set_option linter.unusedVariables false

def wf63 (x : S63) : Prop := (Lit.int .i64 x.f0).wf = true ∧ x.f1.size ≤ 9223372036854775807 ∧ (Lit.int .i64 x.f2).wf = true ∧ (Lit.int .i64 x.f3).wf = true
def laws_FnExactSameQuery.Pure : Prop := ∀ (l0 : List (S63)) (l1 : List (S63)), (l0.length ≤ 9223372036854775807 ∧ ∀ y ∈ l0, wf63 y) → (l1.length ≤ 9223372036854775807 ∧ ∀ y ∈ l1, wf63 y) → ∃ k, laws_FnExactSameQuery.f k l0 l1 = some true

/-! ### words -/
def lettersN (s : ByteArray) : Nat → Nat → Bool
  | 0, _ => true
  | d + 1, i => (decide (97 ≤ bt s i) && decide (bt s i ≤ 122)) && lettersN s d (i + 1)

def isWordB (s : ByteArray) : Bool := lettersN s s.size 0 && (decide (1 ≤ s.size) && decide (s.size ≤ 12))

theorem spec_word_ev (s : ByteArray) (hs : s.size ≤ 1048576) : ∀ (d i : Nat), i + d = s.size → Ev (fun k => spec_l9Word.l0 k s i) (lettersN s d i && (decide (1 ≤ s.size) && decide (s.size ≤ 12)))
  | 0, i, hi => by
    refine Ev.step (fun k => spec_l9Word.l0.eq_2 ..) (ev_if_neg (by omega) (ev_fun fun k => ?_))
    simp only [spec_l1In.f, lettersN]
    by_cases h1 : 1 ≤ s.size
    · have h1' : (s.size : Int) ≥ 1 := by omega
      have h2 : ((s.size : Int) ≤ 12) = (s.size ≤ 12) := by apply propext; omega
      simp [h1, h1', h2]
    · have h1' : ¬ (s.size : Int) ≥ 1 := by omega
      simp [h1, h1']
  | d + 1, i, hi => by
    refine Ev.step (fun k => spec_l9Word.l0.eq_2 ..) (ev_if_pos (by omega) (ev_if_pos (by omega) ?_))
    by_cases h1 : bt s i < 97
    · exact ev_if_pos h1 (ev_some (by simp [lettersN, show ¬ 97 ≤ bt s i by omega]))
    · by_cases h2 : bt s i > 122
      · exact ev_if_neg h1 (ev_if_pos h2 (ev_some (by simp [lettersN, show ¬ bt s i ≤ 122 by omega])))
      · refine ev_if_neg h1 (ev_if_neg h2 ?_)
        rw [wrap_succ (by omega)]
        refine ev_eq (spec_word_ev s hs d (i + 1) (by omega)) ?_
        simp [lettersN, show 97 ≤ bt s i by omega, show bt s i ≤ 122 by omega]

theorem spec_l9Word_ev (s : ByteArray) (hs : s.size ≤ 1048576) : Ev (fun k => spec_l9Word.f k s) (isWordB s) := spec_word_ev s hs s.size 0 (by omega)

theorem impl_letters_ev (s : ByteArray) (hs : s.size ≤ 1048576) : ∀ (d i : Nat), i + d = s.size → Ev (fun k => impl_areLetters.l0 k s s.size i) (lettersN s d i && decide (s.size ≤ 12))
  | 0, i, hi => by
    refine Ev.step (fun k => impl_areLetters.l0.eq_2 ..) (ev_if_neg (by omega) (ev_fun fun k => ?_))
    have h2 : ((s.size : Int) ≤ 12) = (s.size ≤ 12) := by apply propext; omega
    simp [lettersN, h2]
  | d + 1, i, hi => by
    refine Ev.step (fun k => impl_areLetters.l0.eq_2 ..) (ev_if_pos (by omega) (ev_if_pos (by omega) (ev_if_pos (by omega) ?_)))
    unfold impl_isLetter.f
    by_cases h1 : bt s i ≥ 97
    · by_cases h2 : bt s i ≤ 122
      · simp only [h1, h2, if_true, decide_true, Option.bind_some]
        rw [wrap_succ (by omega)]
        refine ev_eq (impl_letters_ev s hs d (i + 1) (by omega)) ?_
        simp [lettersN, show 97 ≤ bt s i by omega, h2]
      · exact ev_fun fun k => by simp [lettersN, h1, h2]
    · exact ev_fun fun k => by simp [lettersN, h1]

theorem impl_isWord_ev (s : ByteArray) (hs : s.size ≤ 1048576) : Ev (fun k => impl_isWord.f k s) (isWordB s) := by
  unfold impl_isWord.f impl_areLetters.f
  by_cases h : s.toList = ([] : List UInt8)
  · have h0 := (toList_nil s).1 h
    exact ev_if_pos h (ev_some (by simp [isWordB, h0]))
  · have h0 : s.size ≠ 0 := fun h' => h ((toList_nil s).2 h')
    refine ev_if_neg h (ev_bind (impl_letters_ev s hs s.size 0 (by omega)) (ev_some ?_))
    simp [isWordB, show 1 ≤ s.size by omega]

/-! ### Part: sizes -/
theorem szPart_ev (x : S63) (left : Int) (h0 : 0 ≤ left) (h1 : left ≤ 1048576) (hw : x.f1.size ≤ 9223372036854775807) : ∃ r, laws_szPart.f x.f0 x.f1 x.f2 x.f3 left = some r ∧ r ≤ 1048576 ∧ (0 ≤ r → x.f1.size ≤ 1048576) := by
  unfold laws_szPart.f
  have e : wrap64 (left - (x.f1.size : Int)) = left - x.f1.size := wrap_id (by omega) (by omega)
  rw [e]
  by_cases h : left - (x.f1.size : Int) < 0
  · exact ⟨-1, by rw [if_pos h], by omega, fun h => by omega⟩
  · exact ⟨_, by rw [if_neg h], by omega, fun _ => by omega⟩
theorem szPartS_loop (l : List (S63)) (hl : l.length ≤ 1048576) (hw : ∀ x ∈ l, x.f1.size ≤ 9223372036854775807) : ∀ (rest : List (S63)) (i : Nat) (left : Int), l.drop i = rest → 0 ≤ left → left ≤ 1048576 →
    ∃ r, Ev (fun k => laws_szPartS.l0 k l left i) r ∧ r ≤ 1048576 ∧ (0 ≤ r → ∀ x ∈ rest, x.f1.size ≤ 1048576)
  | [], i, left, hd, h0, h1 => by
    have h := drop_nil hd
    exact ⟨left, Ev.step (fun k => laws_szPartS.l0.eq_2 ..) (ev_if_neg (by omega) (ev_some rfl)), h1, fun _ s hs => by simp at hs⟩
  | s :: rest, i, left, hd, h0, h1 => by
    obtain ⟨hi, hd', hx⟩ := drop_cons hd
    have hx : rd_T63 l i = s := hx _
    have hs : s ∈ l := List.mem_of_mem_drop (by rw [hd]; exact List.mem_cons_self)
    obtain ⟨q, hq, hq1, hq2⟩ := szPart_ev s left h0 h1 (hw s hs)
    by_cases hn : q < 0
    · refine ⟨-1, Ev.step (fun k => laws_szPartS.l0.eq_2 ..) (ev_if_pos (by omega) (ev_if_pos (by omega) ?_)), by omega, fun h => by omega⟩
      simp only [hx, hq, Option.bind_some]
      exact ev_if_pos hn (ev_some rfl)
    · obtain ⟨r, hr, hb, hall⟩ := szPartS_loop l hl hw rest (i + 1) q hd' (by omega) hq1
      refine ⟨r, Ev.step (fun k => laws_szPartS.l0.eq_2 ..) (ev_if_pos (by omega) (ev_if_pos (by omega) ?_)), hb, fun h t ht => ?_⟩
      · simp only [hx, hq, Option.bind_some]
        rw [wrap_succ (by omega)]
        exact ev_if_neg hn hr
      · rcases List.mem_cons.1 ht with rfl | ht
        · exact hq2 (by omega)
        · exact hall h t ht
theorem szPartS_ev (l : List (S63)) (left : Int) (h0 : 0 ≤ left) (h1 : left ≤ 1048576) (hl : l.length ≤ 9223372036854775807) (hw : ∀ x ∈ l, x.f1.size ≤ 9223372036854775807) :
    ∃ r, Ev (fun k => laws_szPartS.f k l left) r ∧ r ≤ 1048576 ∧ (0 ≤ r → l.length ≤ 1048576 ∧ ∀ x ∈ l, x.f1.size ≤ 1048576) := by
  unfold laws_szPartS.f
  have e : wrap64 (left - (l.length : Int)) = left - l.length := wrap_id (by omega) (by omega)
  simp only [e]
  by_cases hn : left - (l.length : Int) < 0
  · exact ⟨-1, ev_if_pos hn (ev_some rfl), by omega, fun h => by omega⟩
  · obtain ⟨r, hr, hb, hall⟩ := szPartS_loop l (by omega) hw l 0 (left - l.length) rfl (by omega) (by omega)
    exact ⟨r, ev_if_neg hn hr, hb, fun h => ⟨by omega, hall h⟩⟩

/-! ### Part: copied -/
def toPart (x : S63) : S46 := ⟨x.f0, x.f1, x.f2, x.f3⟩
theorem toPart_eq (x : S63) : laws_toPart.f x.f0 x.f1 x.f2 x.f3 = some ((toPart x).f0, (toPart x).f1, (toPart x).f2, (toPart x).f3) := rfl
theorem toPartS_loop (l : List (S63)) (hl : l.length ≤ 1048576) : ∀ (rest : List (S63)) (pre : List (S46)) (i : Nat), l.drop i = rest → pre.length = i →
    Ev (fun k => laws_toPartS.l0 k l (pre ++ List.replicate rest.length z46) i) (pre ++ rest.map toPart)
  | [], pre, i, hd, hp => by
    have h := drop_nil hd
    exact Ev.step (fun k => laws_toPartS.l0.eq_2 ..) (ev_if_neg (by omega) (ev_some rfl))
  | s :: rest, pre, i, hd, hp => by
    obtain ⟨hi, hd', hx⟩ := drop_cons hd
    have hx : rd_T63 l i = s := hx _
    refine Ev.step (fun k => laws_toPartS.l0.eq_2 ..) (ev_if_pos (by omega) (ev_if_pos (by omega) ?_))
    simp only [hx, toPart_eq, Option.bind_some]
    refine ev_if_pos (by rw [List.length_append, List.length_replicate, List.length_cons]; omega) ?_
    rw [wrap_succ (by omega), Int.toNat_natCast, List.length_cons, List.replicate_succ]
    subst hp
    rw [set_at]
    have := toPartS_loop l hl rest (pre ++ [toPart s]) (pre.length + 1) hd' (by simp)
    simpa using this
theorem toPartS_ev (l : List (S63)) (hl : l.length ≤ 1048576) : Ev (fun k => laws_toPartS.f k l) (l.map toPart) := by
  unfold laws_toPartS.f
  refine ev_if_pos (by omega) (ev_if_pos (by omega) ?_)
  rw [Int.toNat_natCast]
  exact toPartS_loop l hl l [] 0 rfl rfl

/-! ### Part: alike -/
theorem eqPart_eq (x : S46) : laws_eqPart.f x.f0 x.f1 x.f2 x.f3 x.f0 x.f1 x.f2 x.f3 = some true := by
  unfold laws_eqPart.f
  simp
theorem eqPartS_loop (l : List (S46)) (hl : l.length ≤ 1152921504606846976) : ∀ (rest : List (S46)) (i : Nat), l.drop i = rest → Ev (fun k => laws_eqPartS.l0 k l l i) true
  | [], i, hd => by
    have h := drop_nil hd
    exact Ev.step (fun k => laws_eqPartS.l0.eq_2 ..) (ev_if_neg (by omega) (ev_some rfl))
  | s :: rest, i, hd => by
    obtain ⟨hi, hd', hx⟩ := drop_cons hd
    have hx : rd_T46 l i = s := hx _
    refine Ev.step (fun k => laws_eqPartS.l0.eq_2 ..) (ev_if_pos (by omega) (ev_if_pos (by omega) (ev_if_pos (by omega) ?_)))
    simp only [hx, eqPart_eq, Option.bind_some]
    rw [wrap_succ (by omega)]
    exact ev_if_pos (by simp) (eqPartS_loop l hl rest (i + 1) hd')
theorem eqPartS_ev (l : List (S46)) (hl : l.length ≤ 1152921504606846976) : Ev (fun k => laws_eqPartS.f k l l) true := by
  unfold laws_eqPartS.f
  exact ev_if_pos rfl (eqPartS_loop l hl l 0 rfl)

/-! ### questions: parts, words -/
open Go.Proofs.Ytnolkgfdokijjaa.Ext Go.Proofs.Ytnolkgfdokijjaa.Sorted
def inB (a b c : Int) : Bool := decide (b ≤ a) && decide (a ≤ c)
theorem spec_l1In_eq (a b c : Int) : spec_l1In.f a b c = some (inB a b c) := by
  unfold spec_l1In.f inB
  by_cases h : a ≥ b
  · rw [if_pos h]; simp [show b ≤ a from h]
  · rw [if_neg h]; simp [show ¬ b ≤ a from h]
theorem impl_within_eq (a b c : Int) : impl_within.f a b c = some (inB a b c) := by
  unfold impl_within.f inB
  by_cases h : a ≥ b
  · rw [if_pos h]; simp [show b ≤ a from h]
  · rw [if_neg h]; simp [show ¬ b ≤ a from h]
def partB (p : S46) (i : Int) : Bool :=
  if p.f0 = 1 then isWordB p.f1 && (decide (p.f2 = 0) && decide (p.f3 = 0))
  else if p.f0 = 2 ∨ p.f0 = 3 then decide (p.f1.toList = []) && (inB p.f2 0 (i - 1) && inB p.f3 0 (i - 1))
  else if p.f0 = 4 then decide (p.f1.toList = []) && (inB p.f2 0 (i - 1) && decide (p.f3 = 0))
  else false
theorem spec_l11Part_ev (p : S46) (i : Nat) (hs : p.f1.size ≤ 1048576) (hi : i ≤ 1048576) : Ev (fun k => spec_l11Part.f k p.f0 p.f1 p.f2 p.f3 i) (partB p i) := by
  unfold spec_l11Part.f
  have e : wrap64 ((i : Int) - 1) = (i : Int) - 1 := wrap_id (by omega) (by omega)
  by_cases h1 : p.f0 = 1
  · refine ev_if_pos h1 (ev_bind (spec_l9Word_ev p.f1 hs) (ev_fun fun _ => ?_))
    unfold partB
    rw [if_pos h1]
    cases isWordB p.f1 <;> by_cases h2 : p.f2 = 0 <;> simp [h2]
    exact rfl
  · refine ev_if_neg h1 ?_
    have key : ∀ b : Bool, b = true → (p.f0 = 2 ∨ p.f0 = 3) → Ev (fun k => spec_l11Part.j0 k i p.f0 b p.f0 p.f1 p.f2 p.f3) (partB p i) := by
      rintro b rfl h
      refine Ev.step (fun k => spec_l11Part.j0.eq_2 ..) (ev_if_pos rfl (ev_fun fun _ => ?_))
      unfold partB
      rw [if_neg h1, if_pos h]
      simp only [spec_l1In_eq, Option.bind_some, e]
      by_cases h3 : p.f1.toList = ([] : List UInt8)
      · rw [if_pos h3]
        cases inB p.f2 0 (i - 1) <;> simp [h3]
      · rw [if_neg h3]; simp [h3]
    by_cases h2 : p.f0 = 2
    · exact ev_if_pos h2 (key _ (by simp [h2]) (.inl h2))
    · refine ev_if_neg h2 ?_
      by_cases h3 : p.f0 = 3
      · exact key _ (by simp [h3]) (.inr h3)
      · have hb : (p.f0 == 3) = false := by simp [h3]
        rw [hb]
        refine Ev.step (fun k => spec_l11Part.j0.eq_2 ..) (ev_if_neg (by simp) (ev_fun fun _ => ?_))
        unfold partB
        rw [if_neg h1, if_neg (show ¬ (p.f0 = 2 ∨ p.f0 = 3) from fun h => h.elim h2 h3)]
        simp only [spec_l1In_eq, Option.bind_some, e]
        by_cases h4 : p.f0 = 4
        · rw [if_pos h4, if_pos h4]
          by_cases h5 : p.f1.toList = ([] : List UInt8)
          · rw [if_pos h5]
            cases inB p.f2 0 (i - 1) <;> simp [h5]
            exact rfl
          · rw [if_neg h5]; simp [h5]
        · rw [if_neg h4, if_neg h4]
theorem impl_isPart_ev (p : S46) (i : Nat) (hs : p.f1.size ≤ 1048576) (hi : i ≤ 1048576) : Ev (fun k => impl_isPart.f k p.f0 p.f1 p.f2 p.f3 i) (partB p i) := by
  unfold impl_isPart.f
  have e : wrap64 ((i : Int) - 1) = (i : Int) - 1 := wrap_id (by omega) (by omega)
  by_cases h1 : p.f0 = 1
  · refine ev_if_pos h1 (ev_bind (impl_isWord_ev p.f1 hs) (ev_fun fun _ => ?_))
    unfold partB
    rw [if_pos h1]
    cases isWordB p.f1 <;> by_cases h2 : p.f2 = 0 <;> simp [h2]
    exact rfl
  · refine ev_if_neg h1 ?_
    have key : ∀ b : Bool, b = true → (p.f0 = 2 ∨ p.f0 = 3) → Ev (fun k => impl_isPart.j0 k i p.f0 b p.f0 p.f1 p.f2 p.f3) (partB p i) := by
      rintro b rfl h
      refine Ev.step (fun k => impl_isPart.j0.eq_2 ..) (ev_if_pos rfl (ev_fun fun _ => ?_))
      unfold partB
      rw [if_neg h1, if_pos h]
      simp only [impl_within_eq, Option.bind_some, e]
      by_cases h3 : p.f1.toList = ([] : List UInt8)
      · rw [if_pos h3]
        cases inB p.f2 0 (i - 1) <;> simp [h3]
      · rw [if_neg h3]; simp [h3]
    by_cases h2 : p.f0 = 2
    · exact ev_if_pos h2 (key _ (by simp [h2]) (.inl h2))
    · refine ev_if_neg h2 ?_
      by_cases h3 : p.f0 = 3
      · exact key _ (by simp [h3]) (.inr h3)
      · have hb : (p.f0 == 3) = false := by simp [h3]
        rw [hb]
        refine Ev.step (fun k => impl_isPart.j0.eq_2 ..) (ev_if_neg (by simp) (ev_fun fun _ => ?_))
        unfold partB
        rw [if_neg h1, if_neg (show ¬ (p.f0 = 2 ∨ p.f0 = 3) from fun h => h.elim h2 h3)]
        simp only [impl_within_eq, Option.bind_some, e]
        by_cases h4 : p.f0 = 4
        · rw [if_pos h4, if_pos h4]
          by_cases h5 : p.f1.toList = ([] : List UInt8)
          · rw [if_pos h5]
            cases inB p.f2 0 (i - 1) <;> simp [h5]
            exact rfl
          · rw [if_neg h5]; simp [h5]
        · rw [if_neg h4, if_neg h4]
def wordsL : List (S46) → List ByteArray
  | [] => []
  | p :: l => if p.f0 = 1 then p.f1 :: wordsL l else wordsL l
theorem wordsL_length : ∀ l : List (S46), (wordsL l).length ≤ l.length
  | [] => Nat.le_refl _
  | p :: l => by
    have := wordsL_length l
    unfold wordsL
    split <;> simp only [List.length_cons] <;> omega
def wordsQ (q : List (S46)) : List ByteArray := puts [] (wordsL q)
theorem wordsQ_length (q : List (S46)) : (wordsQ q).length ≤ q.length := by
  have h1 := puts_length (wordsL q) []
  have h2 := wordsL_length q
  unfold wordsQ
  simp only [List.length_nil] at h1
  omega
theorem l5Insert_at (pre rest : List ByteArray) (s : ByteArray) (hl : pre.length + rest.length ≤ 1048576) : spec_l5Insert.f (pre ++ rest) pre.length s = some (pre ++ s :: rest) := by
  unfold spec_l5Insert.f
  simp only [Option.bind_some, Int.toNat_natCast, List.take_left', List.drop_left', List.nil_append, List.length_nil, List.length_append, List.length_singleton]
  rw [if_pos (by omega), if_pos (by omega), if_pos (by omega), if_pos (by omega), if_pos (by omega)]
  simp
theorem l9Put_loop (s : ByteArray) : ∀ (rest pre : List ByteArray), pre.length + rest.length ≤ 1048576 →
    Ev (fun k => spec_l9Put.l0 k (pre ++ rest) s pre.length) (pre ++ put s rest)
  | [], pre, hl => by
    refine Ev.step (fun k => spec_l9Put.l0.eq_2 ..) (ev_if_neg (by simp) ?_)
    rw [l5Insert_at pre [] s hl]
    exact ev_some rfl
  | x :: rest, pre, hl => by
    obtain ⟨hi, hx⟩ := mid_at (l := pre ++ x :: rest) (pre := pre) (rest := rest) (x := x) rfl
    rw [List.length_cons] at hl
    refine Ev.step (fun k => spec_l9Put.l0.eq_2 ..) (ev_if_pos (by omega) (ev_if_pos (by omega) ?_))
    rw [hx]
    unfold put
    by_cases h1 : lessB x s = true
    · rw [if_pos h1]
      refine ev_if_pos h1 ?_
      rw [wrap_succ (by omega)]
      have ih := l9Put_loop s rest (pre ++ [x]) (by rw [List.length_append, List.length_singleton]; omega)
      rw [List.length_append, List.length_singleton] at ih
      simpa using ih
    · rw [if_neg h1]
      refine ev_if_neg h1 ?_
      by_cases h2 : x = s
      · rw [if_pos h2]
        exact ev_if_pos (by rw [h2]) (ev_some rfl)
      · rw [if_neg h2]
        refine ev_if_neg (fun h => h2 (toList_inj.1 h)) ?_
        rw [l5Insert_at pre (x :: rest) s (by rw [List.length_cons]; omega)]
        exact ev_some rfl
theorem l9Put_ev (s : ByteArray) (l : List ByteArray) (hl : l.length ≤ 1048576) : Ev (fun k => spec_l9Put.f k l s) (put s l) := by
  unfold spec_l9Put.f
  exact l9Put_loop s l [] (by simpa using hl)
theorem spec_l11Words_loop (l : List (S46)) (hl : l.length ≤ 1048576) : ∀ (rest : List (S46)) (acc : List ByteArray) (i : Nat), l.drop i = rest → acc.length ≤ i →
    Ev (fun k => spec_l11Words.l0 k acc l l.length i) (puts acc (wordsL rest))
  | [], acc, i, hd, ha => by
    have h := drop_nil hd
    exact Ev.step (fun k => spec_l11Words.l0.eq_2 ..) (ev_if_neg (by omega) (ev_some rfl))
  | x :: rest, acc, i, hd, ha => by
    obtain ⟨hi, hd', hx⟩ := drop_cons hd
    have hx : rd_T46 l i = x := hx _
    refine Ev.step (fun k => spec_l11Words.l0.eq_2 ..) (ev_if_pos (by omega) (ev_if_pos (by omega) (ev_if_pos (by omega) ?_)))
    rw [hx, wrap_succ (by omega)]
    unfold wordsL
    by_cases h1 : x.f0 = 1
    · rw [if_pos h1]
      have := put_length x.f1 acc
      exact ev_if_pos h1 (ev_bind (l9Put_ev x.f1 acc (by omega)) (spec_l11Words_loop l hl rest (put x.f1 acc) (i + 1) hd' (by omega)))
    · rw [if_neg h1]
      exact ev_if_neg h1 (spec_l11Words_loop l hl rest acc (i + 1) hd' (by omega))
theorem spec_l11Words_ev (l : List (S46)) (hl : l.length ≤ 1048576) : Ev (fun k => spec_l11Words.f k l) (wordsQ l) := by
  unfold spec_l11Words.f
  exact spec_l11Words_loop l hl l [] 0 rfl (Nat.le_refl _)
theorem impl_wordsIn_loop (l : List (S46)) (hl : l.length ≤ 1048576) : ∀ (rest : List (S46)) (acc : List ByteArray) (i : Nat), l.drop i = rest → acc.length ≤ i → i ≤ l.length →
    Ev (fun k => impl_wordsIn.l0 k acc l l.length i) (puts [] (acc ++ wordsL rest))
  | [], acc, i, hd, ha, hle => by
    have h := drop_nil hd
    refine Ev.step (fun k => impl_wordsIn.l0.eq_2 ..) (ev_if_neg (by omega) ?_)
    unfold slices_Sort_string_string.f slices_Compact_string_string.f
    rw [if_pos (by omega)]
    exact ev_some (by rw [compStrs_puts]; simp [wordsL])
  | x :: rest, acc, i, hd, ha, hle => by
    obtain ⟨hi, hd', hx⟩ := drop_cons hd
    have hx : rd_T46 l i = x := hx _
    refine Ev.step (fun k => impl_wordsIn.l0.eq_2 ..) (ev_if_pos (by omega) (ev_if_pos (by omega) (ev_if_pos (by omega) ?_)))
    rw [hx, wrap_succ (by omega)]
    unfold wordsL
    by_cases h1 : x.f0 = 1
    · rw [if_pos h1]
      refine ev_if_pos h1 (ev_if_pos (by omega) ?_)
      have ih := impl_wordsIn_loop l hl rest (acc ++ [x.f1]) (i + 1) hd' (by rw [List.length_append, List.length_singleton]; omega) (by omega)
      simpa using ih
    · rw [if_neg h1]
      exact ev_if_neg h1 (impl_wordsIn_loop l hl rest acc (i + 1) hd' (by omega) (by omega))
theorem impl_wordsIn_ev (l : List (S46)) (hl : l.length ≤ 1048576) : Ev (fun k => impl_wordsIn.f k l) (wordsQ l) := by
  unfold impl_wordsIn.f
  exact impl_wordsIn_loop l hl l [] 0 rfl (Nat.le_refl _) (Nat.zero_le _)
def partsB : Nat → List (S46) → Bool
  | _, [] => true
  | i, p :: l => partB p i && partsB (i + 1) l
def goodQ (q : List (S46)) : Bool := partsB 0 q && (inB q.length 1 24 && decide (((wordsQ q).length : Int) ≤ 5))
theorem spec_GoodQuery_loop (l : List (S46)) (hl : l.length ≤ 1048576) (hw : ∀ p ∈ l, p.f1.size ≤ 1048576) : ∀ (rest : List (S46)) (i : Nat), l.drop i = rest →
    Ev (fun k => spec_GoodQuery.l0 k l l l.length i) (partsB i rest && (inB l.length 1 24 && decide (((wordsQ l).length : Int) ≤ 5)))
  | [], i, hd => by
    have h := drop_nil hd
    refine Ev.step (fun k => spec_GoodQuery.l0.eq_2 ..) (ev_if_neg (by omega) ?_)
    rw [spec_l1In_eq]
    simp only [Option.bind_some]
    cases hb : inB l.length 1 24 with
    | true => exact ev_if_pos rfl (ev_bind (spec_l11Words_ev l hl) (ev_some (by simp [partsB])))
    | false => exact ev_if_neg (by simp) (ev_some (by simp))
  | x :: rest, i, hd => by
    obtain ⟨hi, hd', hx⟩ := drop_cons hd
    have hx : rd_T46 l i = x := hx _
    have hm : x ∈ l := List.mem_of_mem_drop (by rw [hd]; exact List.mem_cons_self)
    refine Ev.step (fun k => spec_GoodQuery.l0.eq_2 ..) (ev_if_pos (by omega) (ev_if_pos (by omega) (ev_if_pos (by omega) ?_)))
    rw [hx, wrap_succ (by omega)]
    refine ev_bind (spec_l11Part_ev x i (hw x hm) (by omega)) ?_
    unfold partsB
    cases hb : partB x i with
    | true => exact ev_if_pos rfl (ev_eq (spec_GoodQuery_loop l hl hw rest (i + 1) hd') (by simp))
    | false => exact ev_if_neg (by simp) (ev_some (by simp))
theorem spec_GoodQuery_ev (l : List (S46)) (hl : l.length ≤ 1048576) (hw : ∀ p ∈ l, p.f1.size ≤ 1048576) : Ev (fun k => spec_GoodQuery.f k l) (goodQ l) := by
  unfold spec_GoodQuery.f
  exact spec_GoodQuery_loop l hl hw l 0 rfl
theorem impl_GoodQuery_loop (l : List (S46)) (hl : l.length ≤ 1048576) (hw : ∀ p ∈ l, p.f1.size ≤ 1048576) : ∀ (rest : List (S46)) (i : Nat), l.drop i = rest →
    Ev (fun k => impl_GoodQuery.l0 k l l l.length i) (partsB i rest && decide (((wordsQ l).length : Int) ≤ 5))
  | [], i, hd => by
    have h := drop_nil hd
    exact Ev.step (fun k => impl_GoodQuery.l0.eq_2 ..) (ev_if_neg (by omega) (ev_bind (impl_wordsIn_ev l hl) (ev_some (by simp [partsB]))))
  | x :: rest, i, hd => by
    obtain ⟨hi, hd', hx⟩ := drop_cons hd
    have hx : rd_T46 l i = x := hx _
    have hm : x ∈ l := List.mem_of_mem_drop (by rw [hd]; exact List.mem_cons_self)
    refine Ev.step (fun k => impl_GoodQuery.l0.eq_2 ..) (ev_if_pos (by omega) (ev_if_pos (by omega) (ev_if_pos (by omega) ?_)))
    rw [hx, wrap_succ (by omega)]
    refine ev_bind (impl_isPart_ev x i (hw x hm) (by omega)) ?_
    unfold partsB
    cases hb : partB x i with
    | true => exact ev_if_pos rfl (ev_eq (impl_GoodQuery_loop l hl hw rest (i + 1) hd') (by simp))
    | false => exact ev_if_neg (by simp) (ev_some (by simp))
theorem impl_GoodQuery_ev (l : List (S46)) (hl : l.length ≤ 1048576) (hw : ∀ p ∈ l, p.f1.size ≤ 1048576) : Ev (fun k => impl_GoodQuery.f k l) (goodQ l) := by
  unfold impl_GoodQuery.f goodQ
  rw [impl_within_eq]
  simp only [Option.bind_some]
  cases hb : inB l.length 1 24 with
  | true => exact ev_if_pos rfl (ev_eq (impl_GoodQuery_loop l hl hw l 0 rfl) (by simp))
  | false => exact ev_if_neg (by simp) (ev_some (by simp))

/-! ### whether a question holds -/
def hasB (words : List ByteArray) (s : ByteArray) : Bool := words.any fun x => decide (x = s)
theorem spec_hasText_loop (s : ByteArray) (l : List ByteArray) (hl : l.length ≤ 1048576) : ∀ (rest : List ByteArray) (i : Nat), l.drop i = rest → Ev (fun k => spec_l1HasText.l0 k s l l.length i) (hasB rest s)
  | [], i, hd => by
    have h := drop_nil hd
    exact Ev.step (fun k => spec_l1HasText.l0.eq_2 ..) (ev_if_neg (by omega) (ev_some rfl))
  | x :: rest, i, hd => by
    obtain ⟨hi, hd', hx⟩ := drop_cons hd
    refine Ev.step (fun k => spec_l1HasText.l0.eq_2 ..) (ev_if_pos (by omega) (ev_if_pos (by omega) (ev_if_pos (by omega) ?_)))
    rw [hx, wrap_succ (by omega)]
    by_cases h : x = s
    · exact ev_if_pos (by rw [h]) (ev_some (by simp [hasB, h]))
    · exact ev_if_neg (fun e => h (toList_inj.1 e)) (ev_eq (spec_hasText_loop s l hl rest (i + 1) hd') (by simp [hasB, h]))
theorem spec_hasText_ev (s : ByteArray) (l : List ByteArray) (hl : l.length ≤ 1048576) : Ev (fun k => spec_l1HasText.f k l s) (hasB l s) := by
  unfold spec_l1HasText.f
  exact spec_hasText_loop s l hl l 0 rfl
theorem index_loop (s : ByteArray) (l : List ByteArray) (hl : l.length ≤ 1048576) : ∀ (rest : List ByteArray) (i : Nat), l.drop i = rest → ∃ r, Ev (fun k => slices_Index_string_string.l0 k l s l.length i) r ∧ decide (r ≥ 0) = hasB rest s
  | [], i, hd => by
    have h := drop_nil hd
    exact ⟨-1, Ev.step (fun k => slices_Index_string_string.l0.eq_2 ..) (ev_if_neg (by omega) (ev_some rfl)), by simp [hasB]⟩
  | x :: rest, i, hd => by
    obtain ⟨hi, hd', hx⟩ := drop_cons hd
    by_cases h : s = x
    · refine ⟨i, Ev.step (fun k => slices_Index_string_string.l0.eq_2 ..) (ev_if_pos (by omega) (ev_if_pos (by omega) (ev_if_pos (by omega) ?_))), by simp [hasB, h]⟩
      rw [hx]
      exact ev_if_pos (by rw [h]) (ev_some rfl)
    · obtain ⟨r, hr, hb⟩ := index_loop s l hl rest (i + 1) hd'
      refine ⟨r, Ev.step (fun k => slices_Index_string_string.l0.eq_2 ..) (ev_if_pos (by omega) (ev_if_pos (by omega) (ev_if_pos (by omega) ?_))), by rw [hb]; unfold hasB; rw [List.any_cons, show decide (x = s) = false from decide_eq_false (fun e => h e.symm), Bool.false_or]⟩
      rw [hx, wrap_succ (by omega)]
      exact ev_if_neg (fun e => h (toList_inj.1 e)) hr
theorem contains_ev (s : ByteArray) (l : List ByteArray) (hl : l.length ≤ 1048576) : Ev (fun k => slices_Contains_string_string.f k l s) (hasB l s) := by
  unfold slices_Contains_string_string.f slices_Index_string_string.f
  obtain ⟨r, hr, hb⟩ := index_loop s l hl l 0 rfl
  exact ev_bind hr (ev_some hb)
def rdB (t : List Bool) (i : Int) : Bool := rdOf false t i
def stepB (words : List ByteArray) (t : List Bool) (p : S46) : Bool :=
  if p.f0 = 1 then hasB words p.f1 else if p.f0 = 2 then rdB t p.f2 && rdB t p.f3 else if p.f0 = 3 then rdB t p.f2 || rdB t p.f3 else !(rdB t p.f2)
def tellB (words : List ByteArray) : List Bool → List (S46) → List Bool
  | t, [] => t
  | t, p :: l => tellB words (t ++ [stepB words t p]) l
theorem tellB_length (words : List ByteArray) : ∀ (l : List (S46)) (t : List Bool), (tellB words t l).length = t.length + l.length
  | [], t => rfl
  | p :: l, t => by
    rw [tellB, tellB_length words l, List.length_append, List.length_singleton, List.length_cons]; omega
/-- What a good question's part lets know. -/
theorem partB_case {p : S46} {i : Nat} (h : partB p i = true) : p.f0 = 1 ∨ ((p.f0 = 2 ∨ p.f0 = 3) ∧ 0 ≤ p.f2 ∧ p.f2 < i ∧ 0 ≤ p.f3 ∧ p.f3 < i) ∨ (p.f0 = 4 ∧ 0 ≤ p.f2 ∧ p.f2 < i) := by
  unfold partB at h
  split at h
  · exact .inl (by assumption)
  · split at h
    · rename_i h2
      simp only [inB, Bool.and_eq_true, decide_eq_true_eq] at h
      exact .inr (.inl ⟨h2, h.2.1.1, by omega, h.2.2.1, by omega⟩)
    · split at h
      · rename_i h4
        simp only [inB, Bool.and_eq_true, decide_eq_true_eq] at h
        exact .inr (.inr ⟨h4, h.2.1.1, by omega⟩)
      · cases h
theorem spec_holds_loop (words : List ByteArray) (hw : words.length ≤ 1048576) (l : List (S46)) (hl : l.length ≤ 24) (h0 : 0 < l.length) : ∀ (rest : List (S46)) (t : List Bool) (i : Nat), l.drop i = rest → t.length = i → i ≤ l.length → partsB i rest = true →
    Ev (fun k => spec_l11Holds.l0 k words t l l.length i) (rdB (tellB words t rest) ((l.length : Int) - 1))
  | [], t, i, hd, ht, hle, hb => by
    have h := drop_nil hd
    refine Ev.step (fun k => spec_l11Holds.l0.eq_2 ..) (ev_if_neg (by omega) ?_)
    have e : wrap64 ((t.length : Int) - 1) = (t.length : Int) - 1 := wrap_id (by omega) (by omega)
    rw [e]
    refine ev_if_pos (by omega) (ev_if_pos (by omega) (ev_some ?_))
    have e2 : t.length = l.length := by omega
    rw [e2]; rfl
  | x :: rest, t, i, hd, ht, hle, hb => by
    obtain ⟨hi, hd', hx⟩ := drop_cons hd
    have hx : rd_T46 l i = x := hx _
    unfold partsB at hb
    rw [Bool.and_eq_true] at hb
    have ih := fun b => spec_holds_loop words hw l hl h0 rest (t ++ [b]) (i + 1) hd' (by rw [List.length_append, List.length_singleton]; omega) (by omega) hb.2
    refine Ev.step (fun k => spec_l11Holds.l0.eq_2 ..) (ev_if_pos (by omega) (ev_if_pos (by omega) (ev_if_pos (by omega) ?_)))
    simp only [hx, wrap_succ (show i < 9223372036854775807 by omega)]
    unfold tellB
    have hlt : t.length < 140737488355328 := by omega
    rcases partB_case hb.1 with h1 | ⟨h1, a1, a2, b1, b2⟩ | ⟨h1, a1, a2⟩
    · have e : stepB words t x = hasB words x.f1 := by unfold stepB; rw [if_pos h1]
      rw [e]
      exact ev_if_pos h1 (ev_bind (spec_hasText_ev x.f1 words hw) (ev_if_pos hlt (ih _)))
    · rcases h1 with h1 | h1
      · have e : stepB words t x = (rdB t x.f2 && rdB t x.f3) := by unfold stepB; rw [if_neg (by omega), if_pos h1]
        rw [e]
        refine ev_if_neg (by omega) (ev_if_pos h1 (ev_if_pos a1 (ev_if_pos (by omega) ?_)))
        change Ev (fun k => if rdB t x.f2 = true then _ else _) _
        cases h : rdB t x.f2 with
        | true => exact ev_if_pos rfl (ev_if_pos b1 (ev_if_pos (by omega) (ev_if_pos hlt (ih _))))
        | false => exact ev_if_neg (by simp) (ev_if_pos hlt (ih _))
      · have e : stepB words t x = (rdB t x.f2 || rdB t x.f3) := by unfold stepB; rw [if_neg (by omega), if_neg (by omega), if_pos h1]
        rw [e]
        refine ev_if_neg (by omega) (ev_if_neg (by omega) (ev_if_pos h1 (ev_if_pos a1 (ev_if_pos (by omega) ?_))))
        change Ev (fun k => if rdB t x.f2 = true then _ else _) _
        cases h : rdB t x.f2 with
        | true => exact ev_if_pos rfl (ev_if_pos hlt (ih _))
        | false => exact ev_if_neg (by simp) (ev_if_pos b1 (ev_if_pos (by omega) (ev_if_pos hlt (ih _))))
    · have e : stepB words t x = !(rdB t x.f2) := by unfold stepB; rw [if_neg (by omega), if_neg (by omega), if_neg (by omega)]
      rw [e]
      exact ev_if_neg (by omega) (ev_if_neg (by omega) (ev_if_neg (by omega) (ev_if_pos h1 (ev_if_pos a1 (ev_if_pos (by omega) (ev_if_pos hlt (ih _)))))))
theorem rdB_pad (t : List Bool) (d : Nat) (i : Int) (h0 : 0 ≤ i) (h : i < t.length) : rdOf false (t ++ List.replicate d false) i = rdB t i := by
  unfold rdB rdOf
  rw [List.getD_eq_getElem?_getD, List.getD_eq_getElem?_getD, List.getElem?_append_left (by omega)]
theorem impl_holds_loop (words : List ByteArray) (hw : words.length ≤ 1048576) (l : List (S46)) (hl : l.length ≤ 24) (h0 : 0 < l.length) : ∀ (rest : List (S46)) (t : List Bool) (i : Nat), l.drop i = rest → t.length = i → i ≤ l.length → partsB i rest = true →
    Ev (fun k => impl_holds.l0 k l words (t ++ List.replicate rest.length false) l l.length i) (rdB (tellB words t rest) ((l.length : Int) - 1))
  | [], t, i, hd, ht, hle, hb => by
    have h := drop_nil hd
    refine Ev.step (fun k => impl_holds.l0.eq_2 ..) (ev_if_neg (by omega) ?_)
    have e : wrap64 ((l.length : Int) - 1) = (l.length : Int) - 1 := wrap_id (by omega) (by omega)
    rw [e, List.length_nil, List.replicate_zero, List.append_nil]
    exact ev_if_pos (by omega) (ev_if_pos (by omega) (ev_some rfl))
  | x :: rest, t, i, hd, ht, hle, hb => by
    obtain ⟨hi, hd', hx⟩ := drop_cons hd
    have hx : rd_T46 l i = x := hx _
    unfold partsB at hb
    rw [Bool.and_eq_true] at hb
    have ih : ∀ b, Ev (fun k => impl_holds.l0 k l words ((t ++ List.replicate (x :: rest).length false).set ((i : Nat) : Int).toNat b) l l.length ((i + 1 : Nat) : Int)) (rdB (tellB words (t ++ [b]) rest) ((l.length : Int) - 1)) := by
      intro b
      have := impl_holds_loop words hw l hl h0 rest (t ++ [b]) (i + 1) hd' (by rw [List.length_append, List.length_singleton]; omega) (by omega) hb.2
      rw [Int.toNat_natCast, List.length_cons, List.replicate_succ, ← ht, set_at]
      rw [List.append_assoc, List.singleton_append] at this
      rw [ht]; exact this
    refine Ev.step (fun k => impl_holds.l0.eq_2 ..) (ev_if_pos (by omega) (ev_if_pos (by omega) (ev_if_pos (by omega) ?_)))
    simp only [hx, wrap_succ (show i < 9223372036854775807 by omega)]
    unfold tellB
    have hlen : ((t ++ List.replicate (x :: rest).length false).length : Int) = t.length + rest.length + 1 := by rw [List.length_append, List.length_replicate, List.length_cons]; omega
    have hlt : (i : Int) < ((t ++ List.replicate (x :: rest).length false).length : Int) := by rw [hlen]; omega
    rcases partB_case hb.1 with h1 | ⟨h1, a1, a2, b1, b2⟩ | ⟨h1, a1, a2⟩
    · have e : stepB words t x = hasB words x.f1 := by unfold stepB; rw [if_pos h1]
      rw [e]
      exact ev_if_pos h1 (ev_bind (contains_ev x.f1 words hw) (ev_if_pos hlt (ih _)))
    · have ra := rdB_pad t (x :: rest).length x.f2 a1 (by omega)
      have rb := rdB_pad t (x :: rest).length x.f3 b1 (by omega)
      rw [ra, rb]
      rcases h1 with h1 | h1
      · have e : stepB words t x = (rdB t x.f2 && rdB t x.f3) := by unfold stepB; rw [if_neg (by omega), if_pos h1]
        rw [e]
        refine ev_if_neg (by omega) (ev_if_pos h1 (ev_if_pos a1 (ev_if_pos (by rw [hlen]; omega) ?_)))
        cases h : rdB t x.f2 with
        | true => exact ev_if_pos rfl (ev_if_pos b1 (ev_if_pos (by rw [hlen]; omega) (ev_if_pos hlt (ih _))))
        | false => exact ev_if_neg (by simp) (ev_if_pos hlt (ih _))
      · have e : stepB words t x = (rdB t x.f2 || rdB t x.f3) := by unfold stepB; rw [if_neg (by omega), if_neg (by omega), if_pos h1]
        rw [e]
        refine ev_if_neg (by omega) (ev_if_neg (by omega) (ev_if_pos h1 (ev_if_pos a1 (ev_if_pos (by rw [hlen]; omega) ?_))))
        cases h : rdB t x.f2 with
        | true => exact ev_if_pos rfl (ev_if_pos hlt (ih _))
        | false => exact ev_if_neg (by simp) (ev_if_pos b1 (ev_if_pos (by rw [hlen]; omega) (ev_if_pos hlt (ih _))))
    · have ra := rdB_pad t (x :: rest).length x.f2 a1 (by omega)
      have e : stepB words t x = !(rdB t x.f2) := by unfold stepB; rw [if_neg (by omega), if_neg (by omega), if_neg (by omega)]
      rw [e, ra]
      exact ev_if_neg (by omega) (ev_if_neg (by omega) (ev_if_neg (by omega) (ev_if_pos a1 (ev_if_pos (by rw [hlen]; omega) (ev_if_pos hlt (ih _))))))
def holdsB (q : List (S46)) (words : List ByteArray) : Bool := rdB (tellB words [] q) ((q.length : Int) - 1)
theorem goodQ_parts {q : List (S46)} (h : goodQ q = true) : partsB 0 q = true ∧ 0 < q.length ∧ q.length ≤ 24 := by
  unfold goodQ inB at h
  simp only [Bool.and_eq_true, decide_eq_true_eq] at h
  exact ⟨h.1, by omega, by omega⟩
theorem spec_holds_ev (q : List (S46)) (words : List ByteArray) (hw : words.length ≤ 1048576) (hg : goodQ q = true) : Ev (fun k => spec_l11Holds.f k q words) (holdsB q words) := by
  obtain ⟨h1, h2, h3⟩ := goodQ_parts hg
  unfold spec_l11Holds.f
  exact spec_holds_loop words hw q h3 h2 q [] 0 rfl rfl (Nat.zero_le _) h1
theorem impl_holds_ev (q : List (S46)) (words : List ByteArray) (hw : words.length ≤ 1048576) (hg : goodQ q = true) : Ev (fun k => impl_holds.f k q words) (holdsB q words) := by
  obtain ⟨h1, h2, h3⟩ := goodQ_parts hg
  unfold impl_holds.f
  refine ev_if_pos (by omega) (ev_if_pos (by omega) ?_)
  rw [Int.toNat_natCast]
  exact impl_holds_loop words hw q h3 h2 q [] 0 rfl rfl (Nat.zero_le _) h1

/-! ### terms of a question -/
def there2 : List Int → List ByteArray → List ByteArray
  | [], _ => []
  | _ :: _, [] => []
  | n :: t, w :: ws => if n = 1 then w :: there2 t ws else there2 t ws
theorem there2_length : ∀ (t : List Int) (ws : List ByteArray), (there2 t ws).length ≤ t.length
  | [], _ => Nat.le_refl _
  | _ :: _, [] => Nat.zero_le _
  | n :: t, w :: ws => by
    have := there2_length t ws
    unfold there2
    split <;> simp only [List.length_cons] <;> omega
theorem there_loop (words : List ByteArray) (t : List Int) (hl : t.length ≤ words.length) (hw : words.length ≤ 1048576) : ∀ (rest : List Int) (ws : List ByteArray) (acc : List ByteArray) (i : Nat), t.drop i = rest → words.drop i = ws → acc.length ≤ i →
    Ev (fun k => spec_l11There.l0 k words acc t t.length i) (acc ++ there2 rest ws)
  | [], ws, acc, i, hd, hw2, ha => by
    have h := drop_nil hd
    exact Ev.step (fun k => spec_l11There.l0.eq_2 ..) (ev_if_neg (by omega) (ev_some (by simp [there2])))
  | n :: rest, [], acc, i, hd, hw2, ha => by
    have h := drop_nil hw2
    have := (drop_cons hd).1
    omega
  | n :: rest, w :: ws, acc, i, hd, hw2, ha => by
    obtain ⟨hi, hd', hx⟩ := drop_cons hd
    obtain ⟨hj, hw', hy⟩ := drop_cons hw2
    have hx : rd t i = n := hx _
    refine Ev.step (fun k => spec_l11There.l0.eq_2 ..) (ev_if_pos (by omega) (ev_if_pos (by omega) (ev_if_pos (by omega) ?_)))
    simp only [hx, hy]
    rw [wrap_succ (by omega)]
    by_cases h1 : n = 1
    · refine ev_if_pos h1 (ev_if_pos (by omega) (ev_if_pos (by omega) ?_))
      have ih := there_loop words t hl hw rest ws (acc ++ [w]) (i + 1) hd' hw' (by rw [List.length_append, List.length_singleton]; omega)
      simpa [there2, h1] using ih
    · refine ev_if_neg h1 ?_
      have ih := there_loop words t hl hw rest ws acc (i + 1) hd' hw' (by omega)
      simpa [there2, h1] using ih
theorem there_ev (words : List ByteArray) (t : List Int) (hl : t.length ≤ words.length) (hw : words.length ≤ 1048576) : Ev (fun k => spec_l11There.f k words t) (there2 t words) := by
  unfold spec_l11There.f
  exact there_loop words t hl hw t words [] 0 rfl rfl (Nat.le_refl _)
def fullT (q : List (S46)) : List (List Int) := (allL 1 (wordsQ q).length).filter fun t => holdsB q (there2 t (wordsQ q))
theorem goodQ_words {q : List (S46)} (h : goodQ q = true) : (wordsQ q).length ≤ 5 := by
  unfold goodQ at h
  simp only [Bool.and_eq_true, decide_eq_true_eq] at h
  omega
theorem allL1_len (q : List (S46)) (hg : goodQ q = true) : (allL 1 (wordsQ q).length).length ≤ 6561 := allL_small 1 (by omega) _ (by have := goodQ_words hg; omega)
theorem all_eq (a0 a1 : Nat) (h0 : a0 ≤ 8) (h1 : a1 ≤ 3) : spec_l11All.f (a0 : Int) (a1 : Int) = some (allL a1 a0) := by
  unfold spec_l11All.f
  rw [if_pos ⟨by omega, by omega, by omega, by omega⟩, Int.toNat_natCast]
theorem implterms_eq (a0 a1 : Nat) (h0 : a0 ≤ 8) (h1 : a1 ≤ 3) : impl_terms.f (a0 : Int) (a1 : Int) = some (allL a1 a0) := by
  unfold impl_terms.f
  rw [if_pos ⟨by omega, by omega, by omega, by omega⟩, Int.toNat_natCast]
theorem delM_ev {α : Type} (p : Nat → α → Option Bool) (b : α → Bool) : ∀ l : List α, (∀ x ∈ l, Ev (fun k => p k x) (b x)) → Ev (fun k => delM (p k) l) (l.filter fun x => !b x)
  | [], _ => ev_fun fun _ => rfl
  | x :: l, h => by
    have ih := delM_ev p b l (fun y hy => h y (List.mem_cons_of_mem _ hy))
    show Ev (fun k => (p k x).bind fun c => (delM (p k) l).bind fun r => some (if c then r else x :: r)) _
    refine ev_bind (h x (by simp)) (ev_bind ih (ev_some ?_))
    cases hb : b x with
    | true => rw [List.filter_cons_of_neg (by simp [hb])]; rfl
    | false => rw [List.filter_cons_of_pos (by simp [hb])]; rfl
theorem impl_fullTerms_ev (q : List (S46)) (hl : q.length ≤ 1048576) (hg : goodQ q = true) : Ev (fun k => impl_fullTerms.f k q) (fullT q) := by
  unfold impl_fullTerms.f
  have hw5 := goodQ_words hg
  refine ev_bind (impl_wordsIn_ev q hl) ?_
  refine ev_bind (ev_pure (implterms_eq (wordsQ q).length 1 (by omega) (by omega))) ?_
  refine ev_eq (delM_ev _ (fun t => !(holdsB q (there2 t (wordsQ q)))) _ (fun t ht => ?_)) ?_
  · unfold impl_fullTerms_1.f
    have htl := allL_mem _ _ t ht
    have h2l := there2_length t (wordsQ q)
    exact ev_bind (there_ev (wordsQ q) t (by omega) (by omega)) (ev_bind (impl_holds_ev q _ (by omega) hg) (ev_some rfl))
  · unfold fullT
    simp
theorem fullT_len (q : List (S46)) (hg : goodQ q = true) : (fullT q).length ≤ 6561 := Nat.le_trans (List.length_filter_le _ _) (allL1_len q hg)
theorem fullT_mem (q : List (S46)) (hg : goodQ q = true) : ∀ t ∈ fullT q, t.length ≤ 5 := fun t ht => by
  have h := allL_mem _ _ t (List.mem_filter.1 ht).1
  have := goodQ_words hg
  omega

/-! ### slices.Equal: texts, numbers, rows of numbers -/
theorem eqTexts_loop (a b : List ByteArray) (hl : a.length = b.length) (ha : a.length ≤ 1048576) : ∀ (r1 r2 : List ByteArray) (i : Nat), a.drop i = r1 → b.drop i = r2 → Ev (fun k => slices_Equal_string_string.l0 k a b a.length i) (decide (r1 = r2))
  | [], r2, i, h1, h2 => by
    have h := drop_nil h1
    have h3 : r2 = [] := by rw [← h2]; exact List.drop_eq_nil_of_le (by omega)
    exact Ev.step (fun k => slices_Equal_string_string.l0.eq_2 ..) (ev_if_neg (by omega) (ev_some (by simp [h3])))
  | x :: r1, [], i, h1, h2 => by
    have := drop_nil h2
    have := (drop_cons h1).1
    omega
  | x :: r1, y :: r2, i, h1, h2 => by
    obtain ⟨hi, hd1, hx⟩ := drop_cons h1
    obtain ⟨hj, hd2, hy⟩ := drop_cons h2
    refine Ev.step (fun k => slices_Equal_string_string.l0.eq_2 ..) (ev_if_pos (by omega) (ev_if_pos (by omega) (ev_if_pos (by omega) (ev_if_pos (by omega) ?_))))
    rw [hx, hy]
    by_cases h : x = y
    · refine ev_if_pos (by rw [h]) ?_
      rw [wrap_succ (by omega)]
      refine ev_eq (eqTexts_loop a b hl ha r1 r2 (i + 1) hd1 hd2) ?_
      simp [h]
    · exact ev_if_neg (fun h2 => h (toList_inj.1 h2)) (ev_some (by simp [h]))
theorem eqTexts_ev (a b : List ByteArray) (ha : a.length ≤ 1048576) : Ev (fun k => slices_Equal_string_string.f k a b) (decide (a = b)) := by
  unfold slices_Equal_string_string.f
  by_cases hl : a.length = b.length
  · exact ev_if_pos (by rw [hl]) (eqTexts_loop a b hl ha a b 0 rfl rfl)
  · exact ev_if_neg (by omega) (ev_some (by rw [decide_eq_false (fun h => hl (by rw [h]))]))
theorem eqInts_loop (a b : List Int) (hl : a.length = b.length) (ha : a.length ≤ 1048576) : ∀ (r1 r2 : List Int) (i : Nat), a.drop i = r1 → b.drop i = r2 → Ev (fun k => slices_Equal_int_int.l0 k a b a.length i) (decide (r1 = r2))
  | [], r2, i, h1, h2 => by
    have h := drop_nil h1
    have h3 : r2 = [] := by rw [← h2]; exact List.drop_eq_nil_of_le (by omega)
    exact Ev.step (fun k => slices_Equal_int_int.l0.eq_2 ..) (ev_if_neg (by omega) (ev_some (by simp [h3])))
  | x :: r1, [], i, h1, h2 => by
    have := drop_nil h2
    have := (drop_cons h1).1
    omega
  | x :: r1, y :: r2, i, h1, h2 => by
    obtain ⟨hi, hd1, hx⟩ := drop_cons h1
    obtain ⟨hj, hd2, hy⟩ := drop_cons h2
    have hx : rd a i = x := hx _
    have hy : rd b i = y := hy _
    refine Ev.step (fun k => slices_Equal_int_int.l0.eq_2 ..) (ev_if_pos (by omega) (ev_if_pos (by omega) (ev_if_pos (by omega) (ev_if_pos (by omega) ?_))))
    rw [hx, hy]
    by_cases h : x = y
    · refine ev_if_pos h ?_
      rw [wrap_succ (by omega)]
      refine ev_eq (eqInts_loop a b hl ha r1 r2 (i + 1) hd1 hd2) ?_
      simp [h]
    · exact ev_if_neg h (ev_some (by simp [h]))
theorem eqInts_ev (a b : List Int) (ha : a.length ≤ 1048576) : Ev (fun k => slices_Equal_int_int.f k a b) (decide (a = b)) := by
  unfold slices_Equal_int_int.f
  by_cases hl : a.length = b.length
  · exact ev_if_pos (by rw [hl]) (eqInts_loop a b hl ha a b 0 rfl rfl)
  · exact ev_if_neg (by omega) (ev_some (by rw [decide_eq_false (fun h => hl (by rw [h]))]))

theorem eqRows_loop (a b : List (List Int)) (hl : a.length = b.length) (ha : a.length ≤ 1048576) (hr : ∀ x ∈ a, x.length ≤ 1048576) : ∀ (r1 r2 : List (List Int)) (i : Nat), a.drop i = r1 → b.drop i = r2 → Ev (fun k => slices_EqualFunc__int__slices_Equal_int_int.l0 k b a a.length i) (decide (r1 = r2))
  | [], r2, i, h1, h2 => by
    have h := drop_nil h1
    have h3 : r2 = [] := by rw [← h2]; exact List.drop_eq_nil_of_le (by omega)
    exact Ev.step (fun k => slices_EqualFunc__int__slices_Equal_int_int.l0.eq_2 ..) (ev_if_neg (by omega) (ev_some (by simp [h3])))
  | x :: r1, [], i, h1, h2 => by
    have := drop_nil h2
    have := (drop_cons h1).1
    omega
  | x :: r1, y :: r2, i, h1, h2 => by
    have hxm : x ∈ a := by
      have : x ∈ a.drop i := by rw [h1]; simp
      exact List.mem_of_mem_drop this
    obtain ⟨hi, hd1, hx⟩ := drop_cons h1
    obtain ⟨hj, hd2, hy⟩ := drop_cons h2
    have hx : rd_L5 a i = x := hx _
    have hy : rd_L5 b i = y := hy _
    refine Ev.step (fun k => slices_EqualFunc__int__slices_Equal_int_int.l0.eq_2 ..) (ev_if_pos (by omega) (ev_if_pos (by omega) (ev_if_pos (by omega) (ev_if_pos (by omega) ?_))))
    simp only [hx, hy]
    refine ev_bind (eqInts_ev x y (hr x hxm)) ?_
    by_cases h : x = y
    · refine ev_if_pos (by simpa using h) ?_
      rw [wrap_succ (by omega)]
      refine ev_eq (eqRows_loop a b hl ha hr r1 r2 (i + 1) hd1 hd2) ?_
      simp [h]
    · exact ev_if_neg (by simpa using h) (ev_some (by simp [h]))
theorem eqRows_ev (a b : List (List Int)) (ha : a.length ≤ 1048576) (hr : ∀ x ∈ a, x.length ≤ 1048576) : Ev (fun k => slices_EqualFunc__int__slices_Equal_int_int.f k a b) (decide (a = b)) := by
  unfold slices_EqualFunc__int__slices_Equal_int_int.f
  by_cases hl : a.length = b.length
  · exact ev_if_pos (by rw [hl]) (eqRows_loop a b hl ha hr a b 0 rfl rfl)
  · exact ev_if_neg (by omega) (ev_some (by rw [decide_eq_false (fun h => hl (by rw [h]))]))
theorem filter_eq_all {α : Type} [DecidableEq α] (p q : α → Bool) (L : List α) : decide (L.filter p = L.filter q) = L.all fun t => p t == q t := by
  rw [Bool.eq_iff_iff]
  simp only [decide_eq_true_eq, List.all_eq_true, beq_iff_eq]
  constructor
  · intro h t ht
    rw [Bool.eq_iff_iff]
    constructor
    · intro hp
      have : t ∈ L.filter p := List.mem_filter.2 ⟨ht, hp⟩
      rw [h] at this
      exact (List.mem_filter.1 this).2
    · intro hq
      have : t ∈ L.filter q := List.mem_filter.2 ⟨ht, hq⟩
      rw [← h] at this
      exact (List.mem_filter.1 this).2
  · intro h
    exact List.filter_congr h
def sameR (a b : List (S46)) : Bool × Bool := if goodQ a = true ∧ goodQ b = true ∧ wordsQ a = wordsQ b then (decide (fullT a = fullT b), true) else (false, false)
theorem same_loop (a b : List (S46)) (ga : goodQ a = true) (gb : goodQ b = true) (ws : List ByteArray) (hw : ws.length ≤ 5) (all : List (List Int)) (ha : all.length ≤ 1048576) (hm : ∀ t ∈ all, t.length ≤ ws.length) : ∀ (rest : List (List Int)) (i : Nat), all.drop i = rest →
    Ev (fun k => spec_SameQuery.l1 k a b ws all all.length i) (rest.all fun t => holdsB a (there2 t ws) == holdsB b (there2 t ws), true)
  | [], i, hd => by
    have h := drop_nil hd
    exact Ev.step (fun k => spec_SameQuery.l1.eq_2 ..) (ev_if_neg (by omega) (ev_some rfl))
  | t :: rest, i, hd => by
    obtain ⟨hi, hd', hx⟩ := drop_cons hd
    have hx : rd_L5 all i = t := hx _
    have ht : t ∈ all := by
      have : t ∈ all.drop i := by rw [hd]; simp
      exact List.mem_of_mem_drop this
    have htl := hm t ht
    have h2l := there2_length t ws
    refine Ev.step (fun k => spec_SameQuery.l1.eq_2 ..) (ev_if_pos (by omega) (ev_if_pos (by omega) (ev_if_pos (by omega) ?_)))
    simp only [hx]
    refine ev_bind (there_ev ws t htl (by omega)) (ev_bind (spec_holds_ev a _ (by omega) ga) (ev_bind (spec_holds_ev b _ (by omega) gb) ?_))
    by_cases h : holdsB a (there2 t ws) = holdsB b (there2 t ws)
    · refine ev_if_neg (by simp [h]) ?_
      rw [wrap_succ (by omega)]
      refine ev_eq (same_loop a b ga gb ws hw all ha hm rest (i + 1) hd') ?_
      simp [h]
    · exact ev_if_pos (by simpa using h) (ev_some (by simp [h]))
theorem same_words (a b : List (S46)) (ws vs : List ByteArray) (hl : ws.length = vs.length) (hw : ws.length ≤ 5) (X : Bool × Bool) (hX : Ev (fun k => (spec_l11All.f (ws.length : Int) 1).bind fun t => spec_SameQuery.l1 k a b ws t (t.length : Int) 0) X) : ∀ (r1 r2 : List ByteArray) (i : Nat), ws.drop i = r1 → vs.drop i = r2 →
    Ev (fun k => spec_SameQuery.l0 k a b ws vs ws.length i) (if r1 = r2 then X else (false, false))
  | [], r2, i, h1, h2 => by
    have h := drop_nil h1
    have h3 : r2 = [] := by rw [← h2]; exact List.drop_eq_nil_of_le (by omega)
    rw [if_pos h3.symm]
    exact Ev.step (fun k => spec_SameQuery.l0.eq_2 ..) (ev_if_neg (by omega) hX)
  | x :: r1, [], i, h1, h2 => by
    have := drop_nil h2
    have := (drop_cons h1).1
    omega
  | x :: r1, y :: r2, i, h1, h2 => by
    obtain ⟨hi, hd1, hx⟩ := drop_cons h1
    obtain ⟨hj, hd2, hy⟩ := drop_cons h2
    refine Ev.step (fun k => spec_SameQuery.l0.eq_2 ..) (ev_if_pos (by omega) (ev_if_pos (by omega) (ev_if_pos (by omega) (ev_if_pos (by omega) ?_))))
    rw [hx, hy]
    by_cases h : x = y
    · refine ev_if_pos (by rw [h]) ?_
      rw [wrap_succ (by omega)]
      refine ev_eq (same_words a b ws vs hl hw X hX r1 r2 (i + 1) hd1 hd2) ?_
      simp [h]
    · exact ev_if_neg (fun h2 => h (toList_inj.1 h2)) (ev_some (by simp [h]))
theorem spec_SameQuery_ev (a b : List (S46)) (ha : a.length ≤ 1048576) (wa : ∀ p ∈ a, p.f1.size ≤ 1048576) (hb : b.length ≤ 1048576) (wb : ∀ p ∈ b, p.f1.size ≤ 1048576) : Ev (fun k => spec_SameQuery.f k a b) (sameR a b) := by
  unfold spec_SameQuery.f sameR
  refine ev_bind (spec_GoodQuery_ev a ha wa) ?_
  by_cases ga : goodQ a = true
  rotate_left
  · refine ev_if_neg ga (Ev.step (fun k => spec_SameQuery.j0.eq_2 ..) (ev_if_pos rfl (ev_some ?_)))
    rw [if_neg (fun h => ga h.1)]
  refine ev_if_pos ga (ev_bind (spec_GoodQuery_ev b hb wb) (Ev.step (fun k => spec_SameQuery.j0.eq_2 ..) ?_))
  by_cases gb : goodQ b = true
  rotate_left
  · refine ev_if_pos (by simpa using gb) (ev_some ?_)
    rw [if_neg (fun h => gb h.2.1)]
  refine ev_if_neg (by simp [gb]) (ev_bind (spec_l11Words_ev a ha) (ev_bind (spec_l11Words_ev b hb) ?_))
  have w5 := goodQ_words ga
  by_cases hl : (wordsQ a).length = (wordsQ b).length
  rotate_left
  · refine ev_if_neg (by omega) (ev_some ?_)
    rw [if_neg (fun h => hl (by rw [h.2.2]))]
  refine ev_if_pos (by rw [hl]) ?_
  refine ev_eq (same_words a b (wordsQ a) (wordsQ b) hl w5 ((allL 1 (wordsQ a).length).all fun t => holdsB a (there2 t (wordsQ a)) == holdsB b (there2 t (wordsQ a)), true) ?_ _ _ 0 rfl rfl) ?_
  · refine ev_bind (ev_pure (all_eq (wordsQ a).length 1 (by omega) (by omega))) ?_
    exact same_loop a b ga gb (wordsQ a) w5 _ (by have := allL1_len a ga; exact Nat.le_trans this (by decide)) (fun t ht => by rw [allL_mem _ _ t ht]; exact Nat.le_refl _) _ 0 rfl
  · rw [List.drop_zero, List.drop_zero]
    by_cases hw : wordsQ a = wordsQ b
    · rw [if_pos hw, if_pos ⟨ga, gb, hw⟩]
      unfold fullT
      rw [← hw, filter_eq_all]
    · rw [if_neg hw, if_neg (fun h => hw h.2.2)]
theorem impl_SameQuery_ev (a b : List (S46)) (ha : a.length ≤ 1048576) (wa : ∀ p ∈ a, p.f1.size ≤ 1048576) (hb : b.length ≤ 1048576) (wb : ∀ p ∈ b, p.f1.size ≤ 1048576) : Ev (fun k => impl_SameQuery.f k a b) (sameR a b) := by
  unfold impl_SameQuery.f sameR
  refine ev_bind (impl_GoodQuery_ev a ha wa) ?_
  by_cases ga : goodQ a = true
  rotate_left
  · refine ev_if_neg ga (Ev.step (fun k => impl_SameQuery.j0.eq_2 ..) (ev_if_pos rfl (ev_some ?_)))
    rw [if_neg (fun h => ga h.1)]
  refine ev_if_pos ga (ev_bind (impl_GoodQuery_ev b hb wb) ?_)
  by_cases gb : goodQ b = true
  rotate_left
  · refine ev_if_neg gb (Ev.step (fun k => impl_SameQuery.j0.eq_2 ..) (ev_if_pos rfl (ev_some ?_)))
    rw [if_neg (fun h => gb h.2.1)]
  have w5 := goodQ_words ga
  refine ev_if_pos gb (ev_bind (impl_wordsIn_ev a ha) (ev_bind (impl_wordsIn_ev b hb) (ev_bind (eqTexts_ev (wordsQ a) (wordsQ b) (by omega)) (Ev.step (fun k => impl_SameQuery.j0.eq_2 ..) ?_))))
  by_cases hw : wordsQ a = wordsQ b
  · refine ev_if_neg (by simp [hw]) ?_
    rw [if_pos ⟨ga, gb, hw⟩]
    exact ev_bind (impl_fullTerms_ev a ha ga) (ev_bind (impl_fullTerms_ev b hb gb) (ev_bind (eqRows_ev _ _ (Nat.le_trans (fullT_len a ga) (by decide)) (fun x hx => Nat.le_trans (fullT_mem a ga x hx) (by decide))) (ev_some rfl)))
  · refine ev_if_pos (by simp [hw]) (ev_some ?_)
    rw [if_neg (fun h => hw h.2.2)]
theorem FnExactSameQuery : laws_FnExactSameQuery.Pure := by
  intro l m hw hm
  refine Ev.rounds (g := fun k => laws_FnExactSameQuery.f k l m) ?_
  unfold laws_FnExactSameQuery.f
  obtain ⟨r, hr, hb, hall⟩ := szPartS_ev l 1048576 (by omega) (by omega) hw.1 (fun x hx => (hw.2 x hx).2.1)
  refine ev_bind hr ?_
  by_cases hn : r < 0
  · exact ev_if_pos hn (ev_some rfl)
  obtain ⟨h1, h2⟩ := hall (by omega)
  refine ev_if_neg hn ?_
  obtain ⟨r2, hr2, hb2, hall2⟩ := szPartS_ev m r (by omega) hb hm.1 (fun x hx => (hm.2 x hx).2.1)
  refine ev_bind hr2 ?_
  by_cases hn2 : r2 < 0
  · exact ev_if_pos hn2 (ev_some rfl)
  obtain ⟨m1, m2⟩ := hall2 (by omega)
  refine ev_if_neg hn2 ?_
  have hto := toPartS_ev l h1
  have hto2 := toPartS_ev m m1
  have h1' : (l.map toPart).length ≤ 1048576 := by simpa using h1
  have h2' : ∀ x ∈ l.map toPart, x.f1.size ≤ 1048576 := by
    intro x hx
    obtain ⟨y, hy, rfl⟩ := List.mem_map.1 hx
    exact h2 y hy
  have m1' : (m.map toPart).length ≤ 1048576 := by simpa using m1
  have m2' : ∀ x ∈ m.map toPart, x.f1.size ≤ 1048576 := by
    intro x hx
    obtain ⟨y, hy, rfl⟩ := List.mem_map.1 hx
    exact m2 y hy
  revert hto h1' h2' hto2 m1' m2'
  generalize l.map toPart = L
  generalize m.map toPart = M
  intro hto hto2 hL hS mL mS
  have k1 := spec_SameQuery_ev L M hL hS mL mS
  have k2 := impl_SameQuery_ev L M hL hS mL mS
  refine ev_bind hto (ev_bind hto2 (ev_bind k1 (ev_bind hto (ev_bind hto2 (ev_bind k2 ?_)))))
  simp only [bne_self_eq_false]
  refine ev_if_neg (by simp) (Ev.step (fun k => laws_FnExactSameQuery.j0.eq_2 ..) (ev_if_neg (by simp) ?_))
  exact ev_bind hto (ev_bind (eqPartS_ev L (by omega)) (ev_if_pos rfl (ev_bind hto2 (ev_bind (eqPartS_ev M (by omega)) (ev_if_pos rfl (ev_some rfl))))))

end Go.Proofs.Ytnolkgfdokijjaa.Pure
