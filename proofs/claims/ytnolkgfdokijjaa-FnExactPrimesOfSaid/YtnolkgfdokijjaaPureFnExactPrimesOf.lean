/- The law FnExactPrimesOf holds at every input; no conditions. -/
import Derived.Test.YtnolkgfdokijjaaQFnExactPrimesOfx10
import Derived.Test.YtnolkgfdokijjaaBase
import Derived.OpenShut
import Derived.Test.YtnolkgfdokijjaaSorted
namespace Go.Proofs.Ytnolkgfdokijjaa.Pure
open Go.RowKit Go.Proofs.Ytnolkgfdokijjaa.QFnExactPrimesOf Go.Proofs.YtnolkgfdokijjaaW.PrintWords Go.Proofs.YtnolkgfdokijjaaW.PrintLast Go.Proofs.Ytnolkgfdokijjaa.Base
set_option linter.unusedSimpArgs false
set_option linter.unusedVariables false

def wf63 (x : S63) : Prop := (Lit.int .i64 x.f0).wf = true ∧ x.f1.size ≤ 9223372036854775807 ∧ (Lit.int .i64 x.f2).wf = true ∧ (Lit.int .i64 x.f3).wf = true
def laws_FnExactPrimesOf.Pure : Prop := ∀ (l0 : List (S63)), (l0.length ≤ 9223372036854775807 ∧ ∀ y ∈ l0, wf63 y) → ∃ k, laws_FnExactPrimesOf.Ok k l0

/-! ### words -/
def lettersN (s : ByteArray) : Nat → Nat → Bool
  | 0, _ => true
  | d + 1, i => (decide (97 ≤ bt s i) && decide (bt s i ≤ 122)) && lettersN s d (i + 1)

def isWordB (s : ByteArray) : Bool := lettersN s s.size 0 && (decide (1 ≤ s.size) && decide (s.size ≤ 12))

theorem spec_word_ev (s : ByteArray) (hs : s.size ≤ 1048576) : ∀ (d i : Nat), i + d = s.size → Ev (fun k => spec_l9Word.l0 k s i) (lettersN s d i && (decide (1 ≤ s.size) && decide (s.size ≤ 12)))
  | 0, i, hi => by
    refine Ev.step (fun k => spec_l9Word.l0.eq_2 ..) (ev_if_neg (by omega) (ev_fun fun k => ?_))
    simp only [spec_l1In.f, lettersN]
    by_cases h1 : 1 ≤ s.size
    · have h1' : (s.size : Int) ≥ 1 := by omega
      have h2 : ((s.size : Int) ≤ 12) = (s.size ≤ 12) := by apply propext; omega
      simp [h1, h1', h2]
    · have h1' : ¬ (s.size : Int) ≥ 1 := by omega
      simp [h1, h1']
  | d + 1, i, hi => by
    refine Ev.step (fun k => spec_l9Word.l0.eq_2 ..) (ev_if_pos (by omega) (ev_if_pos (by omega) ?_))
    by_cases h1 : bt s i < 97
    · exact ev_if_pos h1 (ev_some (by simp [lettersN, show ¬ 97 ≤ bt s i by omega]))
    · by_cases h2 : bt s i > 122
      · exact ev_if_neg h1 (ev_if_pos h2 (ev_some (by simp [lettersN, show ¬ bt s i ≤ 122 by omega])))
      · refine ev_if_neg h1 (ev_if_neg h2 ?_)
        rw [wrap_succ (by omega)]
        refine ev_eq (spec_word_ev s hs d (i + 1) (by omega)) ?_
        simp [lettersN, show 97 ≤ bt s i by omega, show bt s i ≤ 122 by omega]

theorem spec_l9Word_ev (s : ByteArray) (hs : s.size ≤ 1048576) : Ev (fun k => spec_l9Word.f k s) (isWordB s) := spec_word_ev s hs s.size 0 (by omega)

theorem impl_letters_ev (s : ByteArray) (hs : s.size ≤ 1048576) : ∀ (d i : Nat), i + d = s.size → Ev (fun k => impl_areLetters.l0 k s s.size i) (lettersN s d i && decide (s.size ≤ 12))
  | 0, i, hi => by
    refine Ev.step (fun k => impl_areLetters.l0.eq_2 ..) (ev_if_neg (by omega) (ev_fun fun k => ?_))
    have h2 : ((s.size : Int) ≤ 12) = (s.size ≤ 12) := by apply propext; omega
    simp [lettersN, h2]
  | d + 1, i, hi => by
    refine Ev.step (fun k => impl_areLetters.l0.eq_2 ..) (ev_if_pos (by omega) (ev_if_pos (by omega) (ev_if_pos (by omega) ?_)))
    unfold impl_isLetter.f
    by_cases h1 : bt s i ≥ 97
    · by_cases h2 : bt s i ≤ 122
      · simp only [h1, h2, if_true, decide_true, Option.bind_some]
        rw [wrap_succ (by omega)]
        refine ev_eq (impl_letters_ev s hs d (i + 1) (by omega)) ?_
        simp [lettersN, show 97 ≤ bt s i by omega, h2]
      · exact ev_fun fun k => by simp [lettersN, h1, h2]
    · exact ev_fun fun k => by simp [lettersN, h1]

theorem impl_isWord_ev (s : ByteArray) (hs : s.size ≤ 1048576) : Ev (fun k => impl_isWord.f k s) (isWordB s) := by
  unfold impl_isWord.f impl_areLetters.f
  by_cases h : s.toList = ([] : List UInt8)
  · have h0 := (toList_nil s).1 h
    exact ev_if_pos h (ev_some (by simp [isWordB, h0]))
  · have h0 : s.size ≠ 0 := fun h' => h ((toList_nil s).2 h')
    refine ev_if_neg h (ev_bind (impl_letters_ev s hs s.size 0 (by omega)) (ev_some ?_))
    simp [isWordB, show 1 ≤ s.size by omega]

/-! ### Part: sizes -/
theorem szPart_ev (x : S63) (left : Int) (h0 : 0 ≤ left) (h1 : left ≤ 1048576) (hw : x.f1.size ≤ 9223372036854775807) : ∃ r, laws_szPart.f x.f0 x.f1 x.f2 x.f3 left = some r ∧ r ≤ 1048576 ∧ (0 ≤ r → x.f1.size ≤ 1048576) := by
  unfold laws_szPart.f
  have e : wrap64 (left - (x.f1.size : Int)) = left - x.f1.size := wrap_id (by omega) (by omega)
  rw [e]
  by_cases h : left - (x.f1.size : Int) < 0
  · exact ⟨-1, by rw [if_pos h], by omega, fun h => by omega⟩
  · exact ⟨_, by rw [if_neg h], by omega, fun _ => by omega⟩
theorem szPartS_loop (l : List (S63)) (hl : l.length ≤ 1048576) (hw : ∀ x ∈ l, x.f1.size ≤ 9223372036854775807) : ∀ (rest : List (S63)) (i : Nat) (left : Int), l.drop i = rest → 0 ≤ left → left ≤ 1048576 →
    ∃ r, Ev (fun k => laws_szPartS.l0 k l left i) r ∧ r ≤ 1048576 ∧ (0 ≤ r → ∀ x ∈ rest, x.f1.size ≤ 1048576)
  | [], i, left, hd, h0, h1 => by
    have h := drop_nil hd
    exact ⟨left, Ev.step (fun k => laws_szPartS.l0.eq_2 ..) (ev_if_neg (by omega) (ev_some rfl)), h1, fun _ s hs => by simp at hs⟩
  | s :: rest, i, left, hd, h0, h1 => by
    obtain ⟨hi, hd', hx⟩ := drop_cons hd
    have hx : rd_T63 l i = s := hx _
    have hs : s ∈ l := List.mem_of_mem_drop (by rw [hd]; exact List.mem_cons_self)
    obtain ⟨q, hq, hq1, hq2⟩ := szPart_ev s left h0 h1 (hw s hs)
    by_cases hn : q < 0
    · refine ⟨-1, Ev.step (fun k => laws_szPartS.l0.eq_2 ..) (ev_if_pos (by omega) (ev_if_pos (by omega) ?_)), by omega, fun h => by omega⟩
      simp only [hx, hq, Option.bind_some]
      exact ev_if_pos hn (ev_some rfl)
    · obtain ⟨r, hr, hb, hall⟩ := szPartS_loop l hl hw rest (i + 1) q hd' (by omega) hq1
      refine ⟨r, Ev.step (fun k => laws_szPartS.l0.eq_2 ..) (ev_if_pos (by omega) (ev_if_pos (by omega) ?_)), hb, fun h t ht => ?_⟩
      · simp only [hx, hq, Option.bind_some]
        rw [wrap_succ (by omega)]
        exact ev_if_neg hn hr
      · rcases List.mem_cons.1 ht with rfl | ht
        · exact hq2 (by omega)
        · exact hall h t ht
theorem szPartS_ev (l : List (S63)) (left : Int) (h0 : 0 ≤ left) (h1 : left ≤ 1048576) (hl : l.length ≤ 9223372036854775807) (hw : ∀ x ∈ l, x.f1.size ≤ 9223372036854775807) :
    ∃ r, Ev (fun k => laws_szPartS.f k l left) r ∧ r ≤ 1048576 ∧ (0 ≤ r → l.length ≤ 1048576 ∧ ∀ x ∈ l, x.f1.size ≤ 1048576) := by
  unfold laws_szPartS.f
  have e : wrap64 (left - (l.length : Int)) = left - l.length := wrap_id (by omega) (by omega)
  simp only [e]
  by_cases hn : left - (l.length : Int) < 0
  · exact ⟨-1, ev_if_pos hn (ev_some rfl), by omega, fun h => by omega⟩
  · obtain ⟨r, hr, hb, hall⟩ := szPartS_loop l (by omega) hw l 0 (left - l.length) rfl (by omega) (by omega)
    exact ⟨r, ev_if_neg hn hr, hb, fun h => ⟨by omega, hall h⟩⟩

/-! ### Part: copied -/
def toPart (x : S63) : S46 := ⟨x.f0, x.f1, x.f2, x.f3⟩
theorem toPart_eq (x : S63) : laws_toPart.f x.f0 x.f1 x.f2 x.f3 = some ((toPart x).f0, (toPart x).f1, (toPart x).f2, (toPart x).f3) := rfl
theorem toPartS_loop (l : List (S63)) (hl : l.length ≤ 1048576) : ∀ (rest : List (S63)) (pre : List (S46)) (i : Nat), l.drop i = rest → pre.length = i →
    Ev (fun k => laws_toPartS.l0 k l (pre ++ List.replicate rest.length z46) i) (pre ++ rest.map toPart)
  | [], pre, i, hd, hp => by
    have h := drop_nil hd
    exact Ev.step (fun k => laws_toPartS.l0.eq_2 ..) (ev_if_neg (by omega) (ev_some rfl))
  | s :: rest, pre, i, hd, hp => by
    obtain ⟨hi, hd', hx⟩ := drop_cons hd
    have hx : rd_T63 l i = s := hx _
    refine Ev.step (fun k => laws_toPartS.l0.eq_2 ..) (ev_if_pos (by omega) (ev_if_pos (by omega) ?_))
    simp only [hx, toPart_eq, Option.bind_some]
    refine ev_if_pos (by rw [List.length_append, List.length_replicate, List.length_cons]; omega) ?_
    rw [wrap_succ (by omega), Int.toNat_natCast, List.length_cons, List.replicate_succ]
    subst hp
    rw [set_at]
    have := toPartS_loop l hl rest (pre ++ [toPart s]) (pre.length + 1) hd' (by simp)
    simpa using this
theorem toPartS_ev (l : List (S63)) (hl : l.length ≤ 1048576) : Ev (fun k => laws_toPartS.f k l) (l.map toPart) := by
  unfold laws_toPartS.f
  refine ev_if_pos (by omega) (ev_if_pos (by omega) ?_)
  rw [Int.toNat_natCast]
  exact toPartS_loop l hl l [] 0 rfl rfl

/-! ### Part: alike -/
theorem eqPart_eq (x : S46) : laws_eqPart.f x.f0 x.f1 x.f2 x.f3 x.f0 x.f1 x.f2 x.f3 = some true := by
  unfold laws_eqPart.f
  simp
theorem eqPartS_loop (l : List (S46)) (hl : l.length ≤ 1152921504606846976) : ∀ (rest : List (S46)) (i : Nat), l.drop i = rest → Ev (fun k => laws_eqPartS.l0 k l l i) true
  | [], i, hd => by
    have h := drop_nil hd
    exact Ev.step (fun k => laws_eqPartS.l0.eq_2 ..) (ev_if_neg (by omega) (ev_some rfl))
  | s :: rest, i, hd => by
    obtain ⟨hi, hd', hx⟩ := drop_cons hd
    have hx : rd_T46 l i = s := hx _
    refine Ev.step (fun k => laws_eqPartS.l0.eq_2 ..) (ev_if_pos (by omega) (ev_if_pos (by omega) (ev_if_pos (by omega) ?_)))
    simp only [hx, eqPart_eq, Option.bind_some]
    rw [wrap_succ (by omega)]
    exact ev_if_pos (by simp) (eqPartS_loop l hl rest (i + 1) hd')
theorem eqPartS_ev (l : List (S46)) (hl : l.length ≤ 1152921504606846976) : Ev (fun k => laws_eqPartS.f k l l) true := by
  unfold laws_eqPartS.f
  exact ev_if_pos rfl (eqPartS_loop l hl l 0 rfl)

/-! ### questions: parts, words -/
open Go.Proofs.Ytnolkgfdokijjaa.Ext Go.Proofs.Ytnolkgfdokijjaa.Sorted
def inB (a b c : Int) : Bool := decide (b ≤ a) && decide (a ≤ c)
theorem spec_l1In_eq (a b c : Int) : spec_l1In.f a b c = some (inB a b c) := by
  unfold spec_l1In.f inB
  by_cases h : a ≥ b
  · rw [if_pos h]; simp [show b ≤ a from h]
  · rw [if_neg h]; simp [show ¬ b ≤ a from h]
theorem impl_within_eq (a b c : Int) : impl_within.f a b c = some (inB a b c) := by
  unfold impl_within.f inB
  by_cases h : a ≥ b
  · rw [if_pos h]; simp [show b ≤ a from h]
  · rw [if_neg h]; simp [show ¬ b ≤ a from h]
def partB (p : S46) (i : Int) : Bool :=
  if p.f0 = 1 then isWordB p.f1 && (decide (p.f2 = 0) && decide (p.f3 = 0))
  else if p.f0 = 2 ∨ p.f0 = 3 then decide (p.f1.toList = []) && (inB p.f2 0 (i - 1) && inB p.f3 0 (i - 1))
  else if p.f0 = 4 then decide (p.f1.toList = []) && (inB p.f2 0 (i - 1) && decide (p.f3 = 0))
  else false
theorem spec_l11Part_ev (p : S46) (i : Nat) (hs : p.f1.size ≤ 1048576) (hi : i ≤ 1048576) : Ev (fun k => spec_l11Part.f k p.f0 p.f1 p.f2 p.f3 i) (partB p i) := by
  unfold spec_l11Part.f
  have e : wrap64 ((i : Int) - 1) = (i : Int) - 1 := wrap_id (by omega) (by omega)
  by_cases h1 : p.f0 = 1
  · refine ev_if_pos h1 (ev_bind (spec_l9Word_ev p.f1 hs) (ev_fun fun _ => ?_))
    unfold partB
    rw [if_pos h1]
    cases isWordB p.f1 <;> by_cases h2 : p.f2 = 0 <;> simp [h2]
    exact rfl
  · refine ev_if_neg h1 ?_
    have key : ∀ b : Bool, b = true → (p.f0 = 2 ∨ p.f0 = 3) → Ev (fun k => spec_l11Part.j0 k i p.f0 b p.f0 p.f1 p.f2 p.f3) (partB p i) := by
      rintro b rfl h
      refine Ev.step (fun k => spec_l11Part.j0.eq_2 ..) (ev_if_pos rfl (ev_fun fun _ => ?_))
      unfold partB
      rw [if_neg h1, if_pos h]
      simp only [spec_l1In_eq, Option.bind_some, e]
      by_cases h3 : p.f1.toList = ([] : List UInt8)
      · rw [if_pos h3]
        cases inB p.f2 0 (i - 1) <;> simp [h3]
      · rw [if_neg h3]; simp [h3]
    by_cases h2 : p.f0 = 2
    · exact ev_if_pos h2 (key _ (by simp [h2]) (.inl h2))
    · refine ev_if_neg h2 ?_
      by_cases h3 : p.f0 = 3
      · exact key _ (by simp [h3]) (.inr h3)
      · have hb : (p.f0 == 3) = false := by simp [h3]
        rw [hb]
        refine Ev.step (fun k => spec_l11Part.j0.eq_2 ..) (ev_if_neg (by simp) (ev_fun fun _ => ?_))
        unfold partB
        rw [if_neg h1, if_neg (show ¬ (p.f0 = 2 ∨ p.f0 = 3) from fun h => h.elim h2 h3)]
        simp only [spec_l1In_eq, Option.bind_some, e]
        by_cases h4 : p.f0 = 4
        · rw [if_pos h4, if_pos h4]
          by_cases h5 : p.f1.toList = ([] : List UInt8)
          · rw [if_pos h5]
            cases inB p.f2 0 (i - 1) <;> simp [h5]
            exact rfl
          · rw [if_neg h5]; simp [h5]
        · rw [if_neg h4, if_neg h4]
theorem impl_isPart_ev (p : S46) (i : Nat) (hs : p.f1.size ≤ 1048576) (hi : i ≤ 1048576) : Ev (fun k => impl_isPart.f k p.f0 p.f1 p.f2 p.f3 i) (partB p i) := by
  unfold impl_isPart.f
  have e : wrap64 ((i : Int) - 1) = (i : Int) - 1 := wrap_id (by omega) (by omega)
  by_cases h1 : p.f0 = 1
  · refine ev_if_pos h1 (ev_bind (impl_isWord_ev p.f1 hs) (ev_fun fun _ => ?_))
    unfold partB
    rw [if_pos h1]
    cases isWordB p.f1 <;> by_cases h2 : p.f2 = 0 <;> simp [h2]
    exact rfl
  · refine ev_if_neg h1 ?_
    have key : ∀ b : Bool, b = true → (p.f0 = 2 ∨ p.f0 = 3) → Ev (fun k => impl_isPart.j0 k i p.f0 b p.f0 p.f1 p.f2 p.f3) (partB p i) := by
      rintro b rfl h
      refine Ev.step (fun k => impl_isPart.j0.eq_2 ..) (ev_if_pos rfl (ev_fun fun _ => ?_))
      unfold partB
      rw [if_neg h1, if_pos h]
      simp only [impl_within_eq, Option.bind_some, e]
      by_cases h3 : p.f1.toList = ([] : List UInt8)
      · rw [if_pos h3]
        cases inB p.f2 0 (i - 1) <;> simp [h3]
      · rw [if_neg h3]; simp [h3]
    by_cases h2 : p.f0 = 2
    · exact ev_if_pos h2 (key _ (by simp [h2]) (.inl h2))
    · refine ev_if_neg h2 ?_
      by_cases h3 : p.f0 = 3
      · exact key _ (by simp [h3]) (.inr h3)
      · have hb : (p.f0 == 3) = false := by simp [h3]
        rw [hb]
        refine Ev.step (fun k => impl_isPart.j0.eq_2 ..) (ev_if_neg (by simp) (ev_fun fun _ => ?_))
        unfold partB
        rw [if_neg h1, if_neg (show ¬ (p.f0 = 2 ∨ p.f0 = 3) from fun h => h.elim h2 h3)]
        simp only [impl_within_eq, Option.bind_some, e]
        by_cases h4 : p.f0 = 4
        · rw [if_pos h4, if_pos h4]
          by_cases h5 : p.f1.toList = ([] : List UInt8)
          · rw [if_pos h5]
            cases inB p.f2 0 (i - 1) <;> simp [h5]
            exact rfl
          · rw [if_neg h5]; simp [h5]
        · rw [if_neg h4, if_neg h4]
def wordsL : List (S46) → List ByteArray
  | [] => []
  | p :: l => if p.f0 = 1 then p.f1 :: wordsL l else wordsL l
theorem wordsL_length : ∀ l : List (S46), (wordsL l).length ≤ l.length
  | [] => Nat.le_refl _
  | p :: l => by
    have := wordsL_length l
    unfold wordsL
    split <;> simp only [List.length_cons] <;> omega
def wordsQ (q : List (S46)) : List ByteArray := puts [] (wordsL q)
theorem wordsQ_length (q : List (S46)) : (wordsQ q).length ≤ q.length := by
  have h1 := puts_length (wordsL q) []
  have h2 := wordsL_length q
  unfold wordsQ
  simp only [List.length_nil] at h1
  omega
theorem l5Insert_at (pre rest : List ByteArray) (s : ByteArray) (hl : pre.length + rest.length ≤ 1048576) : spec_l5Insert.f (pre ++ rest) pre.length s = some (pre ++ s :: rest) := by
  unfold spec_l5Insert.f
  simp only [Option.bind_some, Int.toNat_natCast, List.take_left', List.drop_left', List.nil_append, List.length_nil, List.length_append, List.length_singleton]
  rw [if_pos (by omega), if_pos (by omega), if_pos (by omega), if_pos (by omega), if_pos (by omega)]
  simp
theorem l9Put_loop (s : ByteArray) : ∀ (rest pre : List ByteArray), pre.length + rest.length ≤ 1048576 →
    Ev (fun k => spec_l9Put.l0 k (pre ++ rest) s pre.length) (pre ++ put s rest)
  | [], pre, hl => by
    refine Ev.step (fun k => spec_l9Put.l0.eq_2 ..) (ev_if_neg (by simp) ?_)
    rw [l5Insert_at pre [] s hl]
    exact ev_some rfl
  | x :: rest, pre, hl => by
    obtain ⟨hi, hx⟩ := mid_at (l := pre ++ x :: rest) (pre := pre) (rest := rest) (x := x) rfl
    rw [List.length_cons] at hl
    refine Ev.step (fun k => spec_l9Put.l0.eq_2 ..) (ev_if_pos (by omega) (ev_if_pos (by omega) ?_))
    rw [hx]
    unfold put
    by_cases h1 : lessB x s = true
    · rw [if_pos h1]
      refine ev_if_pos h1 ?_
      rw [wrap_succ (by omega)]
      have ih := l9Put_loop s rest (pre ++ [x]) (by rw [List.length_append, List.length_singleton]; omega)
      rw [List.length_append, List.length_singleton] at ih
      simpa using ih
    · rw [if_neg h1]
      refine ev_if_neg h1 ?_
      by_cases h2 : x = s
      · rw [if_pos h2]
        exact ev_if_pos (by rw [h2]) (ev_some rfl)
      · rw [if_neg h2]
        refine ev_if_neg (fun h => h2 (toList_inj.1 h)) ?_
        rw [l5Insert_at pre (x :: rest) s (by rw [List.length_cons]; omega)]
        exact ev_some rfl
theorem l9Put_ev (s : ByteArray) (l : List ByteArray) (hl : l.length ≤ 1048576) : Ev (fun k => spec_l9Put.f k l s) (put s l) := by
  unfold spec_l9Put.f
  exact l9Put_loop s l [] (by simpa using hl)
theorem spec_l11Words_loop (l : List (S46)) (hl : l.length ≤ 1048576) : ∀ (rest : List (S46)) (acc : List ByteArray) (i : Nat), l.drop i = rest → acc.length ≤ i →
    Ev (fun k => spec_l11Words.l0 k acc l l.length i) (puts acc (wordsL rest))
  | [], acc, i, hd, ha => by
    have h := drop_nil hd
    exact Ev.step (fun k => spec_l11Words.l0.eq_2 ..) (ev_if_neg (by omega) (ev_some rfl))
  | x :: rest, acc, i, hd, ha => by
    obtain ⟨hi, hd', hx⟩ := drop_cons hd
    have hx : rd_T46 l i = x := hx _
    refine Ev.step (fun k => spec_l11Words.l0.eq_2 ..) (ev_if_pos (by omega) (ev_if_pos (by omega) (ev_if_pos (by omega) ?_)))
    rw [hx, wrap_succ (by omega)]
    unfold wordsL
    by_cases h1 : x.f0 = 1
    · rw [if_pos h1]
      have := put_length x.f1 acc
      exact ev_if_pos h1 (ev_bind (l9Put_ev x.f1 acc (by omega)) (spec_l11Words_loop l hl rest (put x.f1 acc) (i + 1) hd' (by omega)))
    · rw [if_neg h1]
      exact ev_if_neg h1 (spec_l11Words_loop l hl rest acc (i + 1) hd' (by omega))
theorem spec_l11Words_ev (l : List (S46)) (hl : l.length ≤ 1048576) : Ev (fun k => spec_l11Words.f k l) (wordsQ l) := by
  unfold spec_l11Words.f
  exact spec_l11Words_loop l hl l [] 0 rfl (Nat.le_refl _)
theorem impl_wordsIn_loop (l : List (S46)) (hl : l.length ≤ 1048576) : ∀ (rest : List (S46)) (acc : List ByteArray) (i : Nat), l.drop i = rest → acc.length ≤ i → i ≤ l.length →
    Ev (fun k => impl_wordsIn.l0 k acc l l.length i) (puts [] (acc ++ wordsL rest))
  | [], acc, i, hd, ha, hle => by
    have h := drop_nil hd
    refine Ev.step (fun k => impl_wordsIn.l0.eq_2 ..) (ev_if_neg (by omega) ?_)
    unfold slices_Sort_string_string.f slices_Compact_string_string.f
    rw [if_pos (by omega)]
    exact ev_some (by rw [compStrs_puts]; simp [wordsL])
  | x :: rest, acc, i, hd, ha, hle => by
    obtain ⟨hi, hd', hx⟩ := drop_cons hd
    have hx : rd_T46 l i = x := hx _
    refine Ev.step (fun k => impl_wordsIn.l0.eq_2 ..) (ev_if_pos (by omega) (ev_if_pos (by omega) (ev_if_pos (by omega) ?_)))
    rw [hx, wrap_succ (by omega)]
    unfold wordsL
    by_cases h1 : x.f0 = 1
    · rw [if_pos h1]
      refine ev_if_pos h1 (ev_if_pos (by omega) ?_)
      have ih := impl_wordsIn_loop l hl rest (acc ++ [x.f1]) (i + 1) hd' (by rw [List.length_append, List.length_singleton]; omega) (by omega)
      simpa using ih
    · rw [if_neg h1]
      exact ev_if_neg h1 (impl_wordsIn_loop l hl rest acc (i + 1) hd' (by omega) (by omega))
theorem impl_wordsIn_ev (l : List (S46)) (hl : l.length ≤ 1048576) : Ev (fun k => impl_wordsIn.f k l) (wordsQ l) := by
  unfold impl_wordsIn.f
  exact impl_wordsIn_loop l hl l [] 0 rfl (Nat.le_refl _) (Nat.zero_le _)
def partsB : Nat → List (S46) → Bool
  | _, [] => true
  | i, p :: l => partB p i && partsB (i + 1) l
def goodQ (q : List (S46)) : Bool := partsB 0 q && (inB q.length 1 24 && decide (((wordsQ q).length : Int) ≤ 5))
theorem spec_GoodQuery_loop (l : List (S46)) (hl : l.length ≤ 1048576) (hw : ∀ p ∈ l, p.f1.size ≤ 1048576) : ∀ (rest : List (S46)) (i : Nat), l.drop i = rest →
    Ev (fun k => spec_GoodQuery.l0 k l l l.length i) (partsB i rest && (inB l.length 1 24 && decide (((wordsQ l).length : Int) ≤ 5)))
  | [], i, hd => by
    have h := drop_nil hd
    refine Ev.step (fun k => spec_GoodQuery.l0.eq_2 ..) (ev_if_neg (by omega) ?_)
    rw [spec_l1In_eq]
    simp only [Option.bind_some]
    cases hb : inB l.length 1 24 with
    | true => exact ev_if_pos rfl (ev_bind (spec_l11Words_ev l hl) (ev_some (by simp [partsB])))
    | false => exact ev_if_neg (by simp) (ev_some (by simp))
  | x :: rest, i, hd => by
    obtain ⟨hi, hd', hx⟩ := drop_cons hd
    have hx : rd_T46 l i = x := hx _
    have hm : x ∈ l := List.mem_of_mem_drop (by rw [hd]; exact List.mem_cons_self)
    refine Ev.step (fun k => spec_GoodQuery.l0.eq_2 ..) (ev_if_pos (by omega) (ev_if_pos (by omega) (ev_if_pos (by omega) ?_)))
    rw [hx, wrap_succ (by omega)]
    refine ev_bind (spec_l11Part_ev x i (hw x hm) (by omega)) ?_
    unfold partsB
    cases hb : partB x i with
    | true => exact ev_if_pos rfl (ev_eq (spec_GoodQuery_loop l hl hw rest (i + 1) hd') (by simp))
    | false => exact ev_if_neg (by simp) (ev_some (by simp))
theorem spec_GoodQuery_ev (l : List (S46)) (hl : l.length ≤ 1048576) (hw : ∀ p ∈ l, p.f1.size ≤ 1048576) : Ev (fun k => spec_GoodQuery.f k l) (goodQ l) := by
  unfold spec_GoodQuery.f
  exact spec_GoodQuery_loop l hl hw l 0 rfl
theorem impl_GoodQuery_loop (l : List (S46)) (hl : l.length ≤ 1048576) (hw : ∀ p ∈ l, p.f1.size ≤ 1048576) : ∀ (rest : List (S46)) (i : Nat), l.drop i = rest →
    Ev (fun k => impl_GoodQuery.l0 k l l l.length i) (partsB i rest && decide (((wordsQ l).length : Int) ≤ 5))
  | [], i, hd => by
    have h := drop_nil hd
    exact Ev.step (fun k => impl_GoodQuery.l0.eq_2 ..) (ev_if_neg (by omega) (ev_bind (impl_wordsIn_ev l hl) (ev_some (by simp [partsB]))))
  | x :: rest, i, hd => by
    obtain ⟨hi, hd', hx⟩ := drop_cons hd
    have hx : rd_T46 l i = x := hx _
    have hm : x ∈ l := List.mem_of_mem_drop (by rw [hd]; exact List.mem_cons_self)
    refine Ev.step (fun k => impl_GoodQuery.l0.eq_2 ..) (ev_if_pos (by omega) (ev_if_pos (by omega) (ev_if_pos (by omega) ?_)))
    rw [hx, wrap_succ (by omega)]
    refine ev_bind (impl_isPart_ev x i (hw x hm) (by omega)) ?_
    unfold partsB
    cases hb : partB x i with
    | true => exact ev_if_pos rfl (ev_eq (impl_GoodQuery_loop l hl hw rest (i + 1) hd') (by simp))
    | false => exact ev_if_neg (by simp) (ev_some (by simp))
theorem impl_GoodQuery_ev (l : List (S46)) (hl : l.length ≤ 1048576) (hw : ∀ p ∈ l, p.f1.size ≤ 1048576) : Ev (fun k => impl_GoodQuery.f k l) (goodQ l) := by
  unfold impl_GoodQuery.f goodQ
  rw [impl_within_eq]
  simp only [Option.bind_some]
  cases hb : inB l.length 1 24 with
  | true => exact ev_if_pos rfl (ev_eq (impl_GoodQuery_loop l hl hw l 0 rfl) (by simp))
  | false => exact ev_if_neg (by simp) (ev_some (by simp))

/-! ### whether a question holds -/
def hasB (words : List ByteArray) (s : ByteArray) : Bool := words.any fun x => decide (x = s)
theorem spec_hasText_loop (s : ByteArray) (l : List ByteArray) (hl : l.length ≤ 1048576) : ∀ (rest : List ByteArray) (i : Nat), l.drop i = rest → Ev (fun k => spec_l1HasText.l0 k s l l.length i) (hasB rest s)
  | [], i, hd => by
    have h := drop_nil hd
    exact Ev.step (fun k => spec_l1HasText.l0.eq_2 ..) (ev_if_neg (by omega) (ev_some rfl))
  | x :: rest, i, hd => by
    obtain ⟨hi, hd', hx⟩ := drop_cons hd
    refine Ev.step (fun k => spec_l1HasText.l0.eq_2 ..) (ev_if_pos (by omega) (ev_if_pos (by omega) (ev_if_pos (by omega) ?_)))
    rw [hx, wrap_succ (by omega)]
    by_cases h : x = s
    · exact ev_if_pos (by rw [h]) (ev_some (by simp [hasB, h]))
    · exact ev_if_neg (fun e => h (toList_inj.1 e)) (ev_eq (spec_hasText_loop s l hl rest (i + 1) hd') (by simp [hasB, h]))
theorem spec_hasText_ev (s : ByteArray) (l : List ByteArray) (hl : l.length ≤ 1048576) : Ev (fun k => spec_l1HasText.f k l s) (hasB l s) := by
  unfold spec_l1HasText.f
  exact spec_hasText_loop s l hl l 0 rfl
theorem index_loop (s : ByteArray) (l : List ByteArray) (hl : l.length ≤ 1048576) : ∀ (rest : List ByteArray) (i : Nat), l.drop i = rest → ∃ r, Ev (fun k => slices_Index_string_string.l0 k l s l.length i) r ∧ decide (r ≥ 0) = hasB rest s
  | [], i, hd => by
    have h := drop_nil hd
    exact ⟨-1, Ev.step (fun k => slices_Index_string_string.l0.eq_2 ..) (ev_if_neg (by omega) (ev_some rfl)), by simp [hasB]⟩
  | x :: rest, i, hd => by
    obtain ⟨hi, hd', hx⟩ := drop_cons hd
    by_cases h : s = x
    · refine ⟨i, Ev.step (fun k => slices_Index_string_string.l0.eq_2 ..) (ev_if_pos (by omega) (ev_if_pos (by omega) (ev_if_pos (by omega) ?_))), by simp [hasB, h]⟩
      rw [hx]
      exact ev_if_pos (by rw [h]) (ev_some rfl)
    · obtain ⟨r, hr, hb⟩ := index_loop s l hl rest (i + 1) hd'
      refine ⟨r, Ev.step (fun k => slices_Index_string_string.l0.eq_2 ..) (ev_if_pos (by omega) (ev_if_pos (by omega) (ev_if_pos (by omega) ?_))), by rw [hb]; unfold hasB; rw [List.any_cons, show decide (x = s) = false from decide_eq_false (fun e => h e.symm), Bool.false_or]⟩
      rw [hx, wrap_succ (by omega)]
      exact ev_if_neg (fun e => h (toList_inj.1 e)) hr
theorem contains_ev (s : ByteArray) (l : List ByteArray) (hl : l.length ≤ 1048576) : Ev (fun k => slices_Contains_string_string.f k l s) (hasB l s) := by
  unfold slices_Contains_string_string.f slices_Index_string_string.f
  obtain ⟨r, hr, hb⟩ := index_loop s l hl l 0 rfl
  exact ev_bind hr (ev_some hb)
def rdB (t : List Bool) (i : Int) : Bool := rdOf false t i
def stepB (words : List ByteArray) (t : List Bool) (p : S46) : Bool :=
  if p.f0 = 1 then hasB words p.f1 else if p.f0 = 2 then rdB t p.f2 && rdB t p.f3 else if p.f0 = 3 then rdB t p.f2 || rdB t p.f3 else !(rdB t p.f2)
def tellB (words : List ByteArray) : List Bool → List (S46) → List Bool
  | t, [] => t
  | t, p :: l => tellB words (t ++ [stepB words t p]) l
theorem tellB_length (words : List ByteArray) : ∀ (l : List (S46)) (t : List Bool), (tellB words t l).length = t.length + l.length
  | [], t => rfl
  | p :: l, t => by
    rw [tellB, tellB_length words l, List.length_append, List.length_singleton, List.length_cons]; omega
/-- What a good question's part lets know. -/
theorem partB_case {p : S46} {i : Nat} (h : partB p i = true) : p.f0 = 1 ∨ ((p.f0 = 2 ∨ p.f0 = 3) ∧ 0 ≤ p.f2 ∧ p.f2 < i ∧ 0 ≤ p.f3 ∧ p.f3 < i) ∨ (p.f0 = 4 ∧ 0 ≤ p.f2 ∧ p.f2 < i) := by
  unfold partB at h
  split at h
  · exact .inl (by assumption)
  · split at h
    · rename_i h2
      simp only [inB, Bool.and_eq_true, decide_eq_true_eq] at h
      exact .inr (.inl ⟨h2, h.2.1.1, by omega, h.2.2.1, by omega⟩)
    · split at h
      · rename_i h4
        simp only [inB, Bool.and_eq_true, decide_eq_true_eq] at h
        exact .inr (.inr ⟨h4, h.2.1.1, by omega⟩)
      · cases h
theorem spec_holds_loop (words : List ByteArray) (hw : words.length ≤ 1048576) (l : List (S46)) (hl : l.length ≤ 24) (h0 : 0 < l.length) : ∀ (rest : List (S46)) (t : List Bool) (i : Nat), l.drop i = rest → t.length = i → i ≤ l.length → partsB i rest = true →
    Ev (fun k => spec_l11Holds.l0 k words t l l.length i) (rdB (tellB words t rest) ((l.length : Int) - 1))
  | [], t, i, hd, ht, hle, hb => by
    have h := drop_nil hd
    refine Ev.step (fun k => spec_l11Holds.l0.eq_2 ..) (ev_if_neg (by omega) ?_)
    have e : wrap64 ((t.length : Int) - 1) = (t.length : Int) - 1 := wrap_id (by omega) (by omega)
    rw [e]
    refine ev_if_pos (by omega) (ev_if_pos (by omega) (ev_some ?_))
    have e2 : t.length = l.length := by omega
    rw [e2]; rfl
  | x :: rest, t, i, hd, ht, hle, hb => by
    obtain ⟨hi, hd', hx⟩ := drop_cons hd
    have hx : rd_T46 l i = x := hx _
    unfold partsB at hb
    rw [Bool.and_eq_true] at hb
    have ih := fun b => spec_holds_loop words hw l hl h0 rest (t ++ [b]) (i + 1) hd' (by rw [List.length_append, List.length_singleton]; omega) (by omega) hb.2
    refine Ev.step (fun k => spec_l11Holds.l0.eq_2 ..) (ev_if_pos (by omega) (ev_if_pos (by omega) (ev_if_pos (by omega) ?_)))
    simp only [hx, wrap_succ (show i < 9223372036854775807 by omega)]
    unfold tellB
    have hlt : t.length < 140737488355328 := by omega
    rcases partB_case hb.1 with h1 | ⟨h1, a1, a2, b1, b2⟩ | ⟨h1, a1, a2⟩
    · have e : stepB words t x = hasB words x.f1 := by unfold stepB; rw [if_pos h1]
      rw [e]
      exact ev_if_pos h1 (ev_bind (spec_hasText_ev x.f1 words hw) (ev_if_pos hlt (ih _)))
    · rcases h1 with h1 | h1
      · have e : stepB words t x = (rdB t x.f2 && rdB t x.f3) := by unfold stepB; rw [if_neg (by omega), if_pos h1]
        rw [e]
        refine ev_if_neg (by omega) (ev_if_pos h1 (ev_if_pos a1 (ev_if_pos (by omega) ?_)))
        change Ev (fun k => if rdB t x.f2 = true then _ else _) _
        cases h : rdB t x.f2 with
        | true => exact ev_if_pos rfl (ev_if_pos b1 (ev_if_pos (by omega) (ev_if_pos hlt (ih _))))
        | false => exact ev_if_neg (by simp) (ev_if_pos hlt (ih _))
      · have e : stepB words t x = (rdB t x.f2 || rdB t x.f3) := by unfold stepB; rw [if_neg (by omega), if_neg (by omega), if_pos h1]
        rw [e]
        refine ev_if_neg (by omega) (ev_if_neg (by omega) (ev_if_pos h1 (ev_if_pos a1 (ev_if_pos (by omega) ?_))))
        change Ev (fun k => if rdB t x.f2 = true then _ else _) _
        cases h : rdB t x.f2 with
        | true => exact ev_if_pos rfl (ev_if_pos hlt (ih _))
        | false => exact ev_if_neg (by simp) (ev_if_pos b1 (ev_if_pos (by omega) (ev_if_pos hlt (ih _))))
    · have e : stepB words t x = !(rdB t x.f2) := by unfold stepB; rw [if_neg (by omega), if_neg (by omega), if_neg (by omega)]
      rw [e]
      exact ev_if_neg (by omega) (ev_if_neg (by omega) (ev_if_neg (by omega) (ev_if_pos h1 (ev_if_pos a1 (ev_if_pos (by omega) (ev_if_pos hlt (ih _)))))))
theorem rdB_pad (t : List Bool) (d : Nat) (i : Int) (h0 : 0 ≤ i) (h : i < t.length) : rdOf false (t ++ List.replicate d false) i = rdB t i := by
  unfold rdB rdOf
  rw [List.getD_eq_getElem?_getD, List.getD_eq_getElem?_getD, List.getElem?_append_left (by omega)]
theorem impl_holds_loop (words : List ByteArray) (hw : words.length ≤ 1048576) (l : List (S46)) (hl : l.length ≤ 24) (h0 : 0 < l.length) : ∀ (rest : List (S46)) (t : List Bool) (i : Nat), l.drop i = rest → t.length = i → i ≤ l.length → partsB i rest = true →
    Ev (fun k => impl_holds.l0 k l words (t ++ List.replicate rest.length false) l l.length i) (rdB (tellB words t rest) ((l.length : Int) - 1))
  | [], t, i, hd, ht, hle, hb => by
    have h := drop_nil hd
    refine Ev.step (fun k => impl_holds.l0.eq_2 ..) (ev_if_neg (by omega) ?_)
    have e : wrap64 ((l.length : Int) - 1) = (l.length : Int) - 1 := wrap_id (by omega) (by omega)
    rw [e, List.length_nil, List.replicate_zero, List.append_nil]
    exact ev_if_pos (by omega) (ev_if_pos (by omega) (ev_some rfl))
  | x :: rest, t, i, hd, ht, hle, hb => by
    obtain ⟨hi, hd', hx⟩ := drop_cons hd
    have hx : rd_T46 l i = x := hx _
    unfold partsB at hb
    rw [Bool.and_eq_true] at hb
    have ih : ∀ b, Ev (fun k => impl_holds.l0 k l words ((t ++ List.replicate (x :: rest).length false).set ((i : Nat) : Int).toNat b) l l.length ((i + 1 : Nat) : Int)) (rdB (tellB words (t ++ [b]) rest) ((l.length : Int) - 1)) := by
      intro b
      have := impl_holds_loop words hw l hl h0 rest (t ++ [b]) (i + 1) hd' (by rw [List.length_append, List.length_singleton]; omega) (by omega) hb.2
      rw [Int.toNat_natCast, List.length_cons, List.replicate_succ, ← ht, set_at]
      rw [List.append_assoc, List.singleton_append] at this
      rw [ht]; exact this
    refine Ev.step (fun k => impl_holds.l0.eq_2 ..) (ev_if_pos (by omega) (ev_if_pos (by omega) (ev_if_pos (by omega) ?_)))
    simp only [hx, wrap_succ (show i < 9223372036854775807 by omega)]
    unfold tellB
    have hlen : ((t ++ List.replicate (x :: rest).length false).length : Int) = t.length + rest.length + 1 := by rw [List.length_append, List.length_replicate, List.length_cons]; omega
    have hlt : (i : Int) < ((t ++ List.replicate (x :: rest).length false).length : Int) := by rw [hlen]; omega
    rcases partB_case hb.1 with h1 | ⟨h1, a1, a2, b1, b2⟩ | ⟨h1, a1, a2⟩
    · have e : stepB words t x = hasB words x.f1 := by unfold stepB; rw [if_pos h1]
      rw [e]
      exact ev_if_pos h1 (ev_bind (contains_ev x.f1 words hw) (ev_if_pos hlt (ih _)))
    · have ra := rdB_pad t (x :: rest).length x.f2 a1 (by omega)
      have rb := rdB_pad t (x :: rest).length x.f3 b1 (by omega)
      rw [ra, rb]
      rcases h1 with h1 | h1
      · have e : stepB words t x = (rdB t x.f2 && rdB t x.f3) := by unfold stepB; rw [if_neg (by omega), if_pos h1]
        rw [e]
        refine ev_if_neg (by omega) (ev_if_pos h1 (ev_if_pos a1 (ev_if_pos (by rw [hlen]; omega) ?_)))
        cases h : rdB t x.f2 with
        | true => exact ev_if_pos rfl (ev_if_pos b1 (ev_if_pos (by rw [hlen]; omega) (ev_if_pos hlt (ih _))))
        | false => exact ev_if_neg (by simp) (ev_if_pos hlt (ih _))
      · have e : stepB words t x = (rdB t x.f2 || rdB t x.f3) := by unfold stepB; rw [if_neg (by omega), if_neg (by omega), if_pos h1]
        rw [e]
        refine ev_if_neg (by omega) (ev_if_neg (by omega) (ev_if_pos h1 (ev_if_pos a1 (ev_if_pos (by rw [hlen]; omega) ?_))))
        cases h : rdB t x.f2 with
        | true => exact ev_if_pos rfl (ev_if_pos hlt (ih _))
        | false => exact ev_if_neg (by simp) (ev_if_pos b1 (ev_if_pos (by rw [hlen]; omega) (ev_if_pos hlt (ih _))))
    · have ra := rdB_pad t (x :: rest).length x.f2 a1 (by omega)
      have e : stepB words t x = !(rdB t x.f2) := by unfold stepB; rw [if_neg (by omega), if_neg (by omega), if_neg (by omega)]
      rw [e, ra]
      exact ev_if_neg (by omega) (ev_if_neg (by omega) (ev_if_neg (by omega) (ev_if_pos a1 (ev_if_pos (by rw [hlen]; omega) (ev_if_pos hlt (ih _))))))
def holdsB (q : List (S46)) (words : List ByteArray) : Bool := rdB (tellB words [] q) ((q.length : Int) - 1)
theorem goodQ_parts {q : List (S46)} (h : goodQ q = true) : partsB 0 q = true ∧ 0 < q.length ∧ q.length ≤ 24 := by
  unfold goodQ inB at h
  simp only [Bool.and_eq_true, decide_eq_true_eq] at h
  exact ⟨h.1, by omega, by omega⟩
theorem spec_holds_ev (q : List (S46)) (words : List ByteArray) (hw : words.length ≤ 1048576) (hg : goodQ q = true) : Ev (fun k => spec_l11Holds.f k q words) (holdsB q words) := by
  obtain ⟨h1, h2, h3⟩ := goodQ_parts hg
  unfold spec_l11Holds.f
  exact spec_holds_loop words hw q h3 h2 q [] 0 rfl rfl (Nat.zero_le _) h1
theorem impl_holds_ev (q : List (S46)) (words : List ByteArray) (hw : words.length ≤ 1048576) (hg : goodQ q = true) : Ev (fun k => impl_holds.f k q words) (holdsB q words) := by
  obtain ⟨h1, h2, h3⟩ := goodQ_parts hg
  unfold impl_holds.f
  refine ev_if_pos (by omega) (ev_if_pos (by omega) ?_)
  rw [Int.toNat_natCast]
  exact impl_holds_loop words hw q h3 h2 q [] 0 rfl rfl (Nat.zero_le _) h1

/-! ### marks -/
def mtN : Nat → Int → ByteArray → ByteArray
  | 0, _, acc => (⟨#[109]⟩ : ByteArray) ++ acc
  | f + 1, n, acc => if n > 0 then mtN f (n / 10) (strOfNums [(48 + n % 10) % 256] ++ acc) else (⟨#[109]⟩ : ByteArray) ++ acc
def mtx (n : Int) : ByteArray := if n ≤ 0 then ⟨#[109, 48]⟩ else mtN n.toNat n ⟨#[]⟩

theorem markText_loop : ∀ (f : Nat) (n : Int) (acc : ByteArray), 0 ≤ n → n ≤ f → acc.size + f ≤ 1152921504606846976 → Ev (fun k => laws_markText.l0 k n acc) (mtN f n acc)
  | 0, n, acc, h0, h1, h2 => by
    refine Ev.step (fun k => laws_markText.l0.eq_2 ..) (ev_if_neg (by omega) (ev_if_pos (by omega) (ev_some rfl)))
  | f + 1, n, acc, h0, h1, h2 => by
    refine Ev.step (fun k => laws_markText.l0.eq_2 ..) ?_
    unfold mtN
    by_cases hn : n > 0
    · refine ev_if_pos hn ?_
      rw [if_pos hn, tmod_nn (by omega), tdiv_nn (by omega), wrap_id (x := 48 + n % 10) (by omega) (by omega), wrap_id (x := n / 10) (by omega) (by omega)]
      simp only [Option.bind_some]
      exact ev_if_pos (by rw [one_size]; omega) (markText_loop f (n / 10) _ (by omega) (by omega) (by rw [size_append, one_size]; omega))
    · rw [if_neg hn]
      exact ev_if_neg hn (ev_if_pos (by omega) (ev_some rfl))
theorem markText_ev (n : Int) (h1 : n ≤ 576460752303423488) : Ev (fun k => laws_markText.f k n) (mtx n) := by
  unfold laws_markText.f mtx
  by_cases hn : n ≤ 0
  · rw [if_pos hn]; exact ev_if_pos hn (ev_some rfl)
  · rw [if_neg hn]; exact ev_if_neg hn (markText_loop n.toNat n ⟨#[]⟩ (by omega) (by omega) (by show 0 + _ ≤ _; omega))

def marksR : Nat → Nat → List ByteArray
  | 0, _ => []
  | d + 1, n => mtx n :: marksR d (n + 1)
theorem marksR_length : ∀ d n, (marksR d n).length = d
  | 0, _ => rfl
  | d + 1, n => by simp [marksR, marksR_length d (n + 1)]

/-! ### Part: marks -/
def mkPart (n : Int) : S46 := ⟨n, mtx (n + 1), n + 2, n + 3⟩
def marksPart : Nat → Nat → List (S46)
  | 0, _ => []
  | d + 1, n => mkPart n :: marksPart d (n + 4)
theorem marksPart_length : ∀ d n, (marksPart d n).length = d
  | 0, _ => rfl
  | d + 1, n => by simp [marksPart, marksPart_length d (n + 4)]
theorem rdPart_mid (p : List (S46)) (x : S46) (q : List (S46)) : rd_T46 (p ++ x :: q) (p.length : Int) = x := (mid_at (l := p ++ x :: q) rfl).2 _
theorem wrap_four {n : Nat} (h : n ≤ 1073741824) : (Unit → wrap64 ((n : Int) + 1) = (n : Int) + 1) ∧ (Unit → wrap64 ((n : Int) + 1 + 1) = (n : Int) + 2) ∧ (Unit → wrap64 ((n : Int) + 2 + 1) = (n : Int) + 3) ∧ (Unit → wrap64 ((n : Int) + 3 + 1) = ((n + 4 : Nat) : Int)) :=
  ⟨fun _ => wrap_id (by omega) (by omega), fun _ => by rw [wrap_id (by omega) (by omega)]; omega, fun _ => by rw [wrap_id (by omega) (by omega)]; omega, fun _ => by rw [wrap_id (by omega) (by omega)]; omega⟩
theorem markPartS_loop : ∀ (rest pre : List (S46)) (n : Nat), pre.length + rest.length ≤ 1073741824 → n + 4 * rest.length ≤ 1073741824 →
    Ev (fun k => laws_markPartS.l0 k (pre ++ rest) n pre.length) (((n + 4 * rest.length : Nat) : Int), pre ++ marksPart rest.length n)
  | [], pre, n, h1, h2 => by
    refine Ev.step (fun k => laws_markPartS.l0.eq_2 ..) (ev_if_neg (by rw [List.append_nil]; omega) (ev_some (by simp [marksPart])))
  | s :: rest, pre, n, h1, h2 => by
    rw [List.length_cons] at h1 h2
    obtain ⟨w1, w2, w3, w4⟩ := wrap_four (n := n) (by omega)
    have e0 : (pre.length : Int).toNat = pre.length := Int.toNat_natCast _
    refine Ev.step (fun k => laws_markPartS.l0.eq_2 ..) (ev_if_pos (by rw [List.length_append, List.length_cons]; omega) (ev_if_pos (by omega) ?_))
    simp only [Option.bind_some, e0, set_at, rdPart_mid, w1 (), w2 (), w3 (), w4 ()]
    refine ev_bind (markText_ev ((n : Int) + 1) (by omega)) ?_
    rw [wrap_succ (by omega)]
    have ih := markPartS_loop rest (pre ++ [mkPart n]) (n + 4) (by rw [List.length_append, List.length_singleton]; omega) (by omega)
    rw [List.append_assoc, List.length_append, List.length_singleton] at ih
    refine ev_eq ih ?_
    have e2 : n + 4 + 4 * rest.length = n + 4 * (rest.length + 1) := by omega
    simp only [List.length_cons, marksPart, List.append_assoc, List.singleton_append, e2]
theorem markPartS_ev (l : List (S46)) (n : Nat) (hb : 4 * l.length + n ≤ 1073741824) : Ev (fun k => laws_markPartS.f k l n) (((n + 4 * l.length : Nat) : Int), marksPart l.length n) := by
  unfold laws_markPartS.f
  exact markPartS_loop l [] n (by show 0 + _ ≤ _; omega) (by omega)

/-! ### lists of whole numbers: alike, marked, held -/
theorem rd_rdOf (l : List Int) (i : Int) : rd l i = rdOf 0 l i := rfl
theorem eqIntS_loop (l : List Int) (hl : l.length ≤ 1152921504606846976) : ∀ (rest : List Int) (i : Nat), l.drop i = rest → Ev (fun k => laws_eqIntS.l0 k l l i) true
  | [], i, hd => by
    have h := drop_nil hd
    exact Ev.step (fun k => laws_eqIntS.l0.eq_2 ..) (ev_if_neg (by omega) (ev_some rfl))
  | s :: rest, i, hd => by
    obtain ⟨hi, hd', hx⟩ := drop_cons hd
    refine Ev.step (fun k => laws_eqIntS.l0.eq_2 ..) (ev_if_pos (by omega) (ev_if_pos (by omega) (ev_if_pos (by omega) (ev_if_pos rfl ?_))))
    rw [wrap_succ (by omega)]
    exact eqIntS_loop l hl rest (i + 1) hd'
theorem eqIntS_ev (l : List Int) (hl : l.length ≤ 1152921504606846976) : Ev (fun k => laws_eqIntS.f k l l) true := by
  unfold laws_eqIntS.f
  exact ev_if_pos rfl (eqIntS_loop l hl l 0 rfl)
def marksI : Nat → Nat → List Int
  | 0, _ => []
  | d + 1, n => (n : Int) :: marksI d (n + 1)
theorem marksI_length : ∀ d n, (marksI d n).length = d
  | 0, _ => rfl
  | d + 1, n => by simp [marksI, marksI_length d (n + 1)]
theorem markIntS_loop : ∀ (rest pre : List Int) (n : Nat), pre.length + rest.length ≤ 1073741824 → n + rest.length ≤ 1073741824 →
    Ev (fun k => laws_markIntS.l0 k (pre ++ rest) n pre.length) (((n + rest.length : Nat) : Int), pre ++ marksI rest.length n)
  | [], pre, n, hp, hb => by
    refine Ev.step (fun k => laws_markIntS.l0.eq_2 ..) (ev_if_neg (by rw [List.append_nil]; omega) (ev_some (by simp [marksI])))
  | s :: rest, pre, n, hp, hb => by
    rw [List.length_cons] at hp hb
    refine Ev.step (fun k => laws_markIntS.l0.eq_2 ..) (ev_if_pos (by rw [List.length_append, List.length_cons]; omega) (ev_if_pos (by omega) ?_))
    rw [wrap_succ (by omega), wrap_succ (by omega), Int.toNat_natCast, set_at]
    have ih := markIntS_loop rest (pre ++ [(n : Int)]) (n + 1) (by rw [List.length_append, List.length_singleton]; omega) (by omega)
    rw [List.append_assoc, List.length_append, List.length_singleton] at ih
    refine ev_eq ih ?_
    have e2 : n + 1 + rest.length = n + (rest.length + 1) := by omega
    simp only [List.length_cons, marksI, List.append_assoc, List.singleton_append, e2]
theorem markIntS_ev (l : List Int) (n : Nat) (hb : l.length + n ≤ 1073741824) : Ev (fun k => laws_markIntS.f k l n) (((n + l.length : Nat) : Int), marksI l.length n) := by
  unfold laws_markIntS.f
  exact markIntS_loop l [] n (by show 0 + _ ≤ _; omega) (by omega)
theorem heldIntS_loop (l : List Int) (hl : l.length ≤ 1073741824) : ∀ (d n i : Nat), l.drop i = marksI d n → d + n ≤ 1073741824 → i + d = l.length →
    Ev (fun k => laws_heldIntS.l0 k l n i) ((n + d : Nat) : Int)
  | 0, n, i, hd, hb, hi => by
    exact Ev.step (fun k => laws_heldIntS.l0.eq_2 ..) (ev_if_neg (by omega) (ev_some rfl))
  | d + 1, n, i, hd, hb, hi => by
    obtain ⟨hi', hd', hx⟩ := drop_cons hd
    refine Ev.step (fun k => laws_heldIntS.l0.eq_2 ..) (ev_if_pos (by omega) (ev_if_pos (by omega) ?_))
    rw [rd_rdOf, hx, wrap_succ (by omega), wrap_succ (by omega)]
    refine ev_if_pos rfl (ev_eq (heldIntS_loop l hl d (n + 1) (i + 1) hd' (by omega) (by omega)) ?_)
    congr 1
    omega
theorem heldIntS_ev (d n : Nat) (hb : d + n ≤ 1073741824) : Ev (fun k => laws_heldIntS.f k (marksI d n) n) ((n + d : Nat) : Int) := by
  unfold laws_heldIntS.f
  exact heldIntS_loop (marksI d n) (by rw [marksI_length]; omega) d n 0 rfl hb (by rw [marksI_length]; omega)

/-! ### rows of numbers: alike, marked, held -/
theorem eqIntSS_loop (l : List (List Int)) (hl : l.length ≤ 1048576) (hr : ∀ r ∈ l, r.length ≤ 1048576) : ∀ (rest : List (List Int)) (i : Nat), l.drop i = rest → Ev (fun k => laws_eqIntSS.l0 k l l i) true
  | [], i, hd => by
    have h := drop_nil hd
    exact Ev.step (fun k => laws_eqIntSS.l0.eq_2 ..) (ev_if_neg (by omega) (ev_some rfl))
  | s :: rest, i, hd => by
    obtain ⟨hi, hd', hx⟩ := drop_cons hd
    have hx : rd_L4 l i = s := hx _
    have hs : s ∈ l := by
      have : s ∈ l.drop i := by rw [hd]; simp
      exact List.mem_of_mem_drop this
    refine Ev.step (fun k => laws_eqIntSS.l0.eq_2 ..) (ev_if_pos (by omega) (ev_if_pos (by omega) (ev_if_pos (by omega) ?_)))
    simp only [hx]
    refine ev_bind (eqIntS_ev s (by have := hr s hs; omega)) (ev_if_pos rfl ?_)
    rw [wrap_succ (by omega)]
    exact eqIntSS_loop l hl hr rest (i + 1) hd'
theorem eqIntSS_ev (l : List (List Int)) (hl : l.length ≤ 1048576) (hr : ∀ r ∈ l, r.length ≤ 1048576) : Ev (fun k => laws_eqIntSS.f k l l) true := by
  unfold laws_eqIntSS.f
  exact ev_if_pos rfl (eqIntSS_loop l hl hr l 0 rfl)
def sizesI : List (List Int) → Nat
  | [] => 0
  | x :: l => x.length + sizesI l
def marksII : List (List Int) → Nat → List (List Int)
  | [], _ => []
  | x :: l, n => marksI x.length n :: marksII l (n + x.length)
theorem marksII_length : ∀ (l : List (List Int)) (n : Nat), (marksII l n).length = l.length
  | [], _ => rfl
  | x :: l, n => by simp [marksII, marksII_length l]
theorem markIntSS_l : ∀ (l : List (List Int)) (n : Nat), sizesI l + n ≤ 1073741824 → Ev (fun k => laws_markIntSS.l k l n) (((n + sizesI l : Nat) : Int), marksII l n)
  | [], n, _ => ev_fun fun k => rfl
  | x :: l, n, h => by
    unfold sizesI at h
    have hL := markIntSS_l l (n + x.length) (by omega)
    have hx := markIntS_ev x n (by omega)
    show Ev (fun k => (laws_markIntS.f k x n).bind fun p => (laws_markIntSS.l k l p.1).bind fun q => some (q.1, p.2 :: q.2)) _
    refine ev_bind hx (ev_bind hL (ev_some ?_))
    show ((((n + x.length) + sizesI l : Nat) : Int), _) = _
    rw [show n + x.length + sizesI l = n + sizesI (x :: l) from (show n + x.length + sizesI l = n + (x.length + sizesI l) by omega)]
    rfl
theorem markIntSS_ev (l : List (List Int)) (n : Nat) (h : sizesI l + n ≤ 1073741824) (hl : l.length ≤ 1048576) : Ev (fun k => laws_markIntSS.f k l n) (((n + sizesI l : Nat) : Int), marksII l n) := by
  unfold laws_markIntSS.f
  exact ev_if_pos (by omega) (markIntSS_l l n h)
theorem heldIntSS_loop (L : List (List Int)) (hL : L.length ≤ 1048576) : ∀ (l : List (List Int)) (n i : Nat), L.drop i = marksII l n → sizesI l + n ≤ 1073741824 → i + l.length = L.length →
    Ev (fun k => laws_heldIntSS.l0 k L n i) ((n + sizesI l : Nat) : Int)
  | [], n, i, hd, hb, hi => by
    simp only [List.length_nil] at hi
    exact Ev.step (fun k => laws_heldIntSS.l0.eq_2 ..) (ev_if_neg (by omega) (ev_some rfl))
  | x :: l, n, i, hd, hb, hi => by
    unfold sizesI at hb
    simp only [List.length_cons] at hi
    unfold marksII at hd
    obtain ⟨hi', hd', hx⟩ := drop_cons hd
    have hx : rd_L4 L i = marksI x.length n := hx _
    refine Ev.step (fun k => laws_heldIntSS.l0.eq_2 ..) (ev_if_pos (by omega) (ev_if_pos (by omega) ?_))
    simp only [hx]
    refine ev_bind (heldIntS_ev x.length n (by omega)) (ev_if_neg (by omega) ?_)
    rw [wrap_succ (by omega)]
    refine ev_eq (heldIntSS_loop L hL l (n + x.length) (i + 1) hd' (by omega) (by omega)) ?_
    show ((n + x.length + sizesI l : Nat) : Int) = ((n + (x.length + sizesI l) : Nat) : Int)
    rw [Nat.add_assoc]
theorem heldIntSS_ev (l : List (List Int)) (n : Nat) (hb : sizesI l + n ≤ 1073741824) (hl : l.length ≤ 1048576) : Ev (fun k => laws_heldIntSS.f k (marksII l n) n) ((n + sizesI l : Nat) : Int) := by
  unfold laws_heldIntSS.f
  exact heldIntSS_loop (marksII l n) (by rw [marksII_length]; exact hl) l n 0 rfl hb (by rw [marksII_length]; omega)
theorem sizesI_le (m : Nat) : ∀ l : List (List Int), (∀ x ∈ l, x.length ≤ m) → sizesI l ≤ l.length * m
  | [], _ => Nat.zero_le _
  | x :: l, h => by
    have h1 := h x (by simp)
    have h2 := sizesI_le m l (fun y hy => h y (by simp [hy]))
    unfold sizesI
    rw [List.length_cons, Nat.add_mul, Nat.one_mul]
    omega

/-! ### terms of a question -/
def there2 : List Int → List ByteArray → List ByteArray
  | [], _ => []
  | _ :: _, [] => []
  | n :: t, w :: ws => if n = 1 then w :: there2 t ws else there2 t ws
theorem there2_length : ∀ (t : List Int) (ws : List ByteArray), (there2 t ws).length ≤ t.length
  | [], _ => Nat.le_refl _
  | _ :: _, [] => Nat.zero_le _
  | n :: t, w :: ws => by
    have := there2_length t ws
    unfold there2
    split <;> simp only [List.length_cons] <;> omega
theorem there_loop (words : List ByteArray) (t : List Int) (hl : t.length ≤ words.length) (hw : words.length ≤ 1048576) : ∀ (rest : List Int) (ws : List ByteArray) (acc : List ByteArray) (i : Nat), t.drop i = rest → words.drop i = ws → acc.length ≤ i →
    Ev (fun k => spec_l11There.l0 k words acc t t.length i) (acc ++ there2 rest ws)
  | [], ws, acc, i, hd, hw2, ha => by
    have h := drop_nil hd
    exact Ev.step (fun k => spec_l11There.l0.eq_2 ..) (ev_if_neg (by omega) (ev_some (by simp [there2])))
  | n :: rest, [], acc, i, hd, hw2, ha => by
    have h := drop_nil hw2
    have := (drop_cons hd).1
    omega
  | n :: rest, w :: ws, acc, i, hd, hw2, ha => by
    obtain ⟨hi, hd', hx⟩ := drop_cons hd
    obtain ⟨hj, hw', hy⟩ := drop_cons hw2
    have hx : rd t i = n := hx _
    refine Ev.step (fun k => spec_l11There.l0.eq_2 ..) (ev_if_pos (by omega) (ev_if_pos (by omega) (ev_if_pos (by omega) ?_)))
    simp only [hx, hy]
    rw [wrap_succ (by omega)]
    by_cases h1 : n = 1
    · refine ev_if_pos h1 (ev_if_pos (by omega) (ev_if_pos (by omega) ?_))
      have ih := there_loop words t hl hw rest ws (acc ++ [w]) (i + 1) hd' hw' (by rw [List.length_append, List.length_singleton]; omega)
      simpa [there2, h1] using ih
    · refine ev_if_neg h1 ?_
      have ih := there_loop words t hl hw rest ws acc (i + 1) hd' hw' (by omega)
      simpa [there2, h1] using ih
theorem there_ev (words : List ByteArray) (t : List Int) (hl : t.length ≤ words.length) (hw : words.length ≤ 1048576) : Ev (fun k => spec_l11There.f k words t) (there2 t words) := by
  unfold spec_l11There.f
  exact there_loop words t hl hw t words [] 0 rfl rfl (Nat.le_refl _)
def fullT (q : List (S46)) : List (List Int) := (allL 1 (wordsQ q).length).filter fun t => holdsB q (there2 t (wordsQ q))
theorem goodQ_words {q : List (S46)} (h : goodQ q = true) : (wordsQ q).length ≤ 5 := by
  unfold goodQ at h
  simp only [Bool.and_eq_true, decide_eq_true_eq] at h
  omega
theorem allL1_len (q : List (S46)) (hg : goodQ q = true) : (allL 1 (wordsQ q).length).length ≤ 6561 := allL_small 1 (by omega) _ (by have := goodQ_words hg; omega)
theorem all_eq (a0 a1 : Nat) (h0 : a0 ≤ 8) (h1 : a1 ≤ 3) : spec_l11All.f (a0 : Int) (a1 : Int) = some (allL a1 a0) := by
  unfold spec_l11All.f
  rw [if_pos ⟨by omega, by omega, by omega, by omega⟩, Int.toNat_natCast]
theorem implterms_eq (a0 a1 : Nat) (h0 : a0 ≤ 8) (h1 : a1 ≤ 3) : impl_terms.f (a0 : Int) (a1 : Int) = some (allL a1 a0) := by
  unfold impl_terms.f
  rw [if_pos ⟨by omega, by omega, by omega, by omega⟩, Int.toNat_natCast]
theorem delM_ev {α : Type} (p : Nat → α → Option Bool) (b : α → Bool) : ∀ l : List α, (∀ x ∈ l, Ev (fun k => p k x) (b x)) → Ev (fun k => delM (p k) l) (l.filter fun x => !b x)
  | [], _ => ev_fun fun _ => rfl
  | x :: l, h => by
    have ih := delM_ev p b l (fun y hy => h y (List.mem_cons_of_mem _ hy))
    show Ev (fun k => (p k x).bind fun c => (delM (p k) l).bind fun r => some (if c then r else x :: r)) _
    refine ev_bind (h x (by simp)) (ev_bind ih (ev_some ?_))
    cases hb : b x with
    | true => rw [List.filter_cons_of_neg (by simp [hb])]; rfl
    | false => rw [List.filter_cons_of_pos (by simp [hb])]; rfl
theorem impl_fullTerms_ev (q : List (S46)) (hl : q.length ≤ 1048576) (hg : goodQ q = true) : Ev (fun k => impl_fullTerms.f k q) (fullT q) := by
  unfold impl_fullTerms.f
  have hw5 := goodQ_words hg
  refine ev_bind (impl_wordsIn_ev q hl) ?_
  refine ev_bind (ev_pure (implterms_eq (wordsQ q).length 1 (by omega) (by omega))) ?_
  refine ev_eq (delM_ev _ (fun t => !(holdsB q (there2 t (wordsQ q)))) _ (fun t ht => ?_)) ?_
  · unfold impl_fullTerms_1.f
    have htl := allL_mem _ _ t ht
    have h2l := there2_length t (wordsQ q)
    exact ev_bind (there_ev (wordsQ q) t (by omega) (by omega)) (ev_bind (impl_holds_ev q _ (by omega) hg) (ev_some rfl))
  · unfold fullT
    simp
theorem fullT_len (q : List (S46)) (hg : goodQ q = true) : (fullT q).length ≤ 6561 := Nat.le_trans (List.length_filter_le _ _) (allL1_len q hg)
theorem fullT_mem (q : List (S46)) (hg : goodQ q = true) : ∀ t ∈ fullT q, t.length ≤ 5 := fun t ht => by
  have h := allL_mem _ _ t (List.mem_filter.1 ht).1
  have := goodQ_words hg
  omega

/-! ### terms of a question: the reference -/
theorem terms_loop (q : List (S46)) (hg : goodQ q = true) (all : List (List Int)) (ha : all.length ≤ 1048576) (hm : ∀ t ∈ all, t.length ≤ (wordsQ q).length) : ∀ (rest acc : List (List Int)) (i : Nat), all.drop i = rest → acc.length ≤ i →
    Ev (fun k => spec_l11Terms.l0 k q (wordsQ q) acc all all.length i) (acc ++ rest.filter fun t => holdsB q (there2 t (wordsQ q)))
  | [], acc, i, hd, hc => by
    have h := drop_nil hd
    exact Ev.step (fun k => spec_l11Terms.l0.eq_2 ..) (ev_if_neg (by omega) (ev_some (by simp)))
  | t :: rest, acc, i, hd, hc => by
    obtain ⟨hi, hd', hx⟩ := drop_cons hd
    have hx : rd_L4 all i = t := hx _
    have ht : t ∈ all := by
      have : t ∈ all.drop i := by rw [hd]; simp
      exact List.mem_of_mem_drop this
    have hw5 := goodQ_words hg
    have htl := hm t ht
    have h2l := there2_length t (wordsQ q)
    refine Ev.step (fun k => spec_l11Terms.l0.eq_2 ..) (ev_if_pos (by omega) (ev_if_pos (by omega) (ev_if_pos (by omega) ?_)))
    simp only [hx]
    refine ev_bind (there_ev (wordsQ q) t htl (by omega)) (ev_bind (spec_holds_ev q _ (by omega) hg) ?_)
    rw [wrap_succ (by omega)]
    cases hb : holdsB q (there2 t (wordsQ q)) with
    | true =>
      refine ev_if_pos rfl (ev_if_pos (by omega) ?_)
      have ih := terms_loop q hg all ha hm rest (acc ++ [t]) (i + 1) hd' (by rw [List.length_append, List.length_singleton]; omega)
      rw [List.filter_cons_of_pos (by simpa using hb)]
      simpa using ih
    | false =>
      refine ev_if_neg (by simp) ?_
      have ih := terms_loop q hg all ha hm rest acc (i + 1) hd' (by omega)
      rw [List.filter_cons_of_neg (by simpa using hb)]
      exact ih
theorem spec_terms_ev (q : List (S46)) (hl : q.length ≤ 1048576) (hg : goodQ q = true) : Ev (fun k => spec_l11Terms.f k q) (fullT q) := by
  unfold spec_l11Terms.f
  have hw5 := goodQ_words hg
  refine ev_bind (spec_l11Words_ev q hl) ?_
  refine ev_bind (ev_pure (all_eq (wordsQ q).length 1 (by omega) (by omega))) ?_
  exact terms_loop q hg _ (by have := allL1_len q hg; exact Nat.le_trans this (by decide)) (fun t ht => by rw [allL_mem _ _ t ht]; exact Nat.le_refl _) _ [] 0 rfl (Nat.le_refl _)

/-! ### primes of a question -/
def fitB : List Int → List Int → Bool
  | [], _ => true
  | _ :: _, [] => false
  | n :: t, x :: w => (decide (n = 0) || decide (n = x)) && fitB t w
theorem specFit_loop (w t : List Int) (hl : t.length ≤ w.length) (hw : w.length ≤ 1048576) : ∀ (rt rw_ : List Int) (i : Nat), t.drop i = rt → w.drop i = rw_ → Ev (fun k => spec_l11Fit.l0 k w t t.length i) (fitB rt rw_)
  | [], rw_, i, h1, h2 => by
    have h := drop_nil h1
    refine Ev.step (fun k => spec_l11Fit.l0.eq_2 ..) (ev_if_neg (by omega) (ev_some ?_))
    unfold fitB; rfl
  | n :: rt, [], i, h1, h2 => by
    have := drop_nil h2
    have := (drop_cons h1).1
    omega
  | n :: rt, x :: rw_, i, h1, h2 => by
    obtain ⟨hi, hd1, hx⟩ := drop_cons h1
    obtain ⟨hj, hd2, hy⟩ := drop_cons h2
    have hx : rd t i = n := hx _
    have hy : rd w i = x := hy _
    refine Ev.step (fun k => spec_l11Fit.l0.eq_2 ..) (ev_if_pos (by omega) (ev_if_pos (by omega) (ev_if_pos (by omega) ?_)))
    rw [hx, hy, wrap_succ (by omega)]
    have ih := specFit_loop w t hl hw rt rw_ (i + 1) hd1 hd2
    unfold fitB
    by_cases h0 : n = 0
    · refine ev_if_pos h0 (ev_eq ih ?_)
      simp [h0]
    · refine ev_if_neg h0 (ev_if_pos (by omega) ?_)
      by_cases hnx : x = n
      · refine ev_if_pos hnx (ev_eq ih ?_)
        simp [hnx]
      · refine ev_if_neg hnx (ev_some ?_)
        simp [h0, Ne.symm hnx]
theorem specFit_ev (w t : List Int) (hl : t.length ≤ w.length) (hw : w.length ≤ 1048576) : Ev (fun k => spec_l11Fit.f k w t) (fitB t w) := by
  unfold spec_l11Fit.f
  exact specFit_loop w t hl hw t w 0 rfl rfl
theorem implFit_loop (w t : List Int) (hl : t.length ≤ w.length) (hw : w.length ≤ 1048576) : ∀ (rt rw_ : List Int) (i : Nat), t.drop i = rt → w.drop i = rw_ → Ev (fun k => impl_fits.l0 k w t t.length i) (fitB rt rw_)
  | [], rw_, i, h1, h2 => by
    have h := drop_nil h1
    refine Ev.step (fun k => impl_fits.l0.eq_2 ..) (ev_if_neg (by omega) (ev_some ?_))
    unfold fitB; rfl
  | n :: rt, [], i, h1, h2 => by
    have := drop_nil h2
    have := (drop_cons h1).1
    omega
  | n :: rt, x :: rw_, i, h1, h2 => by
    obtain ⟨hi, hd1, hx⟩ := drop_cons h1
    obtain ⟨hj, hd2, hy⟩ := drop_cons h2
    have hx : rd t i = n := hx _
    have hy : rd w i = x := hy _
    refine Ev.step (fun k => impl_fits.l0.eq_2 ..) (ev_if_pos (by omega) (ev_if_pos (by omega) (ev_if_pos (by omega) ?_)))
    rw [hx, hy, wrap_succ (by omega)]
    have ih := implFit_loop w t hl hw rt rw_ (i + 1) hd1 hd2
    unfold fitB
    by_cases h0 : n = 0
    · refine ev_if_pos h0 (ev_eq ih ?_)
      simp [h0]
    · refine ev_if_neg h0 (ev_if_pos (by omega) ?_)
      by_cases hnx : n = x
      · refine ev_if_pos hnx (ev_eq ih ?_)
        simp [hnx]
      · refine ev_if_neg hnx (ev_some ?_)
        simp [h0, hnx]
theorem implFit_ev (w t : List Int) (hl : t.length ≤ w.length) (hw : w.length ≤ 1048576) : Ev (fun k => impl_fits.f k w t) (fitB t w) := by
  unfold impl_fits.f
  exact implFit_loop w t hl hw t w 0 rfl rfl
def fitC (t : List Int) (l : List (List Int)) : Nat := (l.filter fun w => fitB t w).length
def zerosT (t : List Int) : Nat := (t.filter fun n => decide (n = 0)).length
theorem specCovers_l1 (t : List Int) (terms : List (List Int)) (hl : terms.length ≤ 1048576) (hm : ∀ w ∈ terms, t.length ≤ w.length ∧ w.length ≤ 1048576) (n : Int) : ∀ (rest : List (List Int)) (i m : Nat), terms.drop i = rest → m ≤ i →
    Ev (fun k => spec_l11Covers.l1 k t n m terms terms.length i) (n == ((m + fitC t rest : Nat) : Int))
  | [], i, m, hd, hmi => by
    have h := drop_nil hd
    exact Ev.step (fun k => spec_l11Covers.l1.eq_2 ..) (ev_if_neg (by omega) (ev_some rfl))
  | w :: rest, i, m, hd, hmi => by
    obtain ⟨hi, hd', hx⟩ := drop_cons hd
    have hx : rd_L4 terms i = w := hx _
    have hw : w ∈ terms := by
      have : w ∈ terms.drop i := by rw [hd]; simp
      exact List.mem_of_mem_drop this
    refine Ev.step (fun k => spec_l11Covers.l1.eq_2 ..) (ev_if_pos (by omega) (ev_if_pos (by omega) (ev_if_pos (by omega) ?_)))
    simp only [hx]
    refine ev_bind (specFit_ev w t (hm w hw).1 (hm w hw).2) ?_
    cases hf : fitB t w with
    | true =>
      refine ev_if_pos rfl ?_
      rw [wrap_succ (by omega), wrap_succ (by omega)]
      refine ev_eq (specCovers_l1 t terms hl hm n rest (i + 1) (m + 1) hd' (by omega)) ?_
      unfold fitC
      rw [List.filter_cons_of_pos hf, List.length_cons, Nat.add_right_comm, Nat.add_assoc]
    | false =>
      refine ev_if_neg (by simp) ?_
      rw [wrap_succ (by omega)]
      refine ev_eq (specCovers_l1 t terms hl hm n rest (i + 1) m hd' (by omega)) ?_
      unfold fitC
      rw [List.filter_cons_of_neg (by simp [hf])]
theorem specCovers_l0 (t : List Int) (terms all : List (List Int)) (hl : terms.length ≤ 1048576) (hm : ∀ w ∈ terms, t.length ≤ w.length ∧ w.length ≤ 1048576) (hla : all.length ≤ 1048576) (hma : ∀ w ∈ all, t.length ≤ w.length ∧ w.length ≤ 1048576) : ∀ (rest : List (List Int)) (i m : Nat), all.drop i = rest → m ≤ i →
    Ev (fun k => spec_l11Covers.l0 k terms t m all all.length i) (((m + fitC t rest : Nat) : Int) == ((fitC t terms : Nat) : Int))
  | [], i, m, hd, hmi => by
    have h := drop_nil hd
    refine Ev.step (fun k => spec_l11Covers.l0.eq_2 ..) (ev_if_neg (by omega) (ev_eq (specCovers_l1 t terms hl hm m terms 0 0 rfl (Nat.le_refl _)) ?_))
    rw [Nat.zero_add]
    rfl
  | w :: rest, i, m, hd, hmi => by
    obtain ⟨hi, hd', hx⟩ := drop_cons hd
    have hx : rd_L4 all i = w := hx _
    have hw : w ∈ all := by
      have : w ∈ all.drop i := by rw [hd]; simp
      exact List.mem_of_mem_drop this
    refine Ev.step (fun k => spec_l11Covers.l0.eq_2 ..) (ev_if_pos (by omega) (ev_if_pos (by omega) (ev_if_pos (by omega) ?_)))
    simp only [hx]
    refine ev_bind (specFit_ev w t (hma w hw).1 (hma w hw).2) ?_
    cases hf : fitB t w with
    | true =>
      refine ev_if_pos rfl ?_
      rw [wrap_succ (by omega), wrap_succ (by omega)]
      refine ev_eq (specCovers_l0 t terms all hl hm hla hma rest (i + 1) (m + 1) hd' (by omega)) ?_
      have e : fitC t (w :: rest) = fitC t rest + 1 := by unfold fitC; rw [List.filter_cons_of_pos hf, List.length_cons]
      rw [e, show m + 1 + fitC t rest = m + (fitC t rest + 1) by omega]
    | false =>
      refine ev_if_neg (by simp) ?_
      rw [wrap_succ (by omega)]
      refine ev_eq (specCovers_l0 t terms all hl hm hla hma rest (i + 1) m hd' (by omega)) ?_
      have e : fitC t (w :: rest) = fitC t rest := by unfold fitC; rw [List.filter_cons_of_neg (by simp [hf])]
      rw [e]
theorem specCovers_ev (t : List Int) (terms all : List (List Int)) (hl : terms.length ≤ 1048576) (hm : ∀ w ∈ terms, t.length ≤ w.length ∧ w.length ≤ 1048576) (hla : all.length ≤ 1048576) (hma : ∀ w ∈ all, t.length ≤ w.length ∧ w.length ≤ 1048576) :
    Ev (fun k => spec_l11Covers.f k terms all t) (decide (fitC t all = fitC t terms)) := by
  unfold spec_l11Covers.f
  refine ev_eq (specCovers_l0 t terms all hl hm hla hma all 0 0 rfl (Nat.le_refl _)) ?_
  rw [Nat.zero_add, Bool.eq_iff_iff, beq_iff_eq, decide_eq_true_eq]
  omega
theorem implCovers_l1 (t : List Int) (full : List (List Int)) (hl : full.length ≤ 1048576) (hm : ∀ w ∈ full, t.length ≤ w.length ∧ w.length ≤ 1048576) : ∀ (rest : List (List Int)) (i : Nat) (m : Int), full.drop i = rest → -1048576 ≤ m + i → m ≤ 1048576 →
    Ev (fun k => impl_covers.l1 k t m full full.length i) (m - (fitC t rest : Nat) == 0)
  | [], i, m, hd, h1, h2 => by
    have h := drop_nil hd
    refine Ev.step (fun k => impl_covers.l1.eq_2 ..) (ev_if_neg (by omega) (ev_some ?_))
    simp [fitC]
  | w :: rest, i, m, hd, h1, h2 => by
    obtain ⟨hi, hd', hx⟩ := drop_cons hd
    have hx : rd_L4 full i = w := hx _
    have hw : w ∈ full := by
      have : w ∈ full.drop i := by rw [hd]; simp
      exact List.mem_of_mem_drop this
    refine Ev.step (fun k => impl_covers.l1.eq_2 ..) (ev_if_pos (by omega) (ev_if_pos (by omega) (ev_if_pos (by omega) ?_)))
    simp only [hx]
    refine ev_bind (implFit_ev w t (hm w hw).1 (hm w hw).2) ?_
    have e1 : wrap64 (m - 1) = m - 1 := wrap_id (by omega) (by omega)
    cases hf : fitB t w with
    | true =>
      refine ev_if_pos rfl ?_
      rw [wrap_succ (by omega), e1]
      refine ev_eq (implCovers_l1 t full hl hm rest (i + 1) (m - 1) hd' (by omega) (by omega)) ?_
      have e : fitC t (w :: rest) = fitC t rest + 1 := by unfold fitC; rw [List.filter_cons_of_pos hf, List.length_cons]
      rw [e, show m - 1 - ((fitC t rest : Nat) : Int) = m - ((fitC t rest + 1 : Nat) : Int) by omega]
    | false =>
      refine ev_if_neg (by simp) ?_
      rw [wrap_succ (by omega)]
      refine ev_eq (implCovers_l1 t full hl hm rest (i + 1) m hd' (by omega) (by omega)) ?_
      have e : fitC t (w :: rest) = fitC t rest := by unfold fitC; rw [List.filter_cons_of_neg (by simp [hf])]
      rw [e]
theorem implCovers_l0 (t : List Int) (ht : t.length ≤ 8) (full : List (List Int)) (hl : full.length ≤ 1048576) (hm : ∀ w ∈ full, t.length ≤ w.length ∧ w.length ≤ 1048576) : ∀ (rest : List Int) (i m : Nat), t.drop i = rest → i ≤ t.length → m ≤ 2 ^ i →
    Ev (fun k => impl_covers.l0 k full t m t t.length i) (((m * 2 ^ zerosT rest : Nat) : Int) - (fitC t full : Nat) == 0)
  | [], i, m, hd, hit, hmi => by
    have h := drop_nil hd
    have hm8 : m * 2 ^ zerosT ([] : List Int) = m := by simp [zerosT]
    rw [hm8]
    have h256 : 2 ^ i ≤ 2 ^ 8 := Nat.pow_le_pow_right (by decide) (by omega)
    exact Ev.step (fun k => impl_covers.l0.eq_2 ..) (ev_if_neg (by omega) (implCovers_l1 t full hl hm full 0 m rfl (by omega) (by omega)))
  | n :: rest, i, m, hd, hit, hmi => by
    obtain ⟨hi, hd', hx⟩ := drop_cons hd
    have hx : rd t i = n := hx _
    have h128 : 2 ^ i ≤ 2 ^ 8 := Nat.pow_le_pow_right (by decide) (by omega)
    refine Ev.step (fun k => impl_covers.l0.eq_2 ..) (ev_if_pos (by omega) (ev_if_pos (by omega) (ev_if_pos (by omega) ?_)))
    rw [hx, wrap_succ (by omega)]
    by_cases h0 : n = 0
    · refine ev_if_pos h0 ?_
      have e1 : wrap64 ((m : Int) * 2) = ((m * 2 : Nat) : Int) := by rw [wrap_id (by omega) (by omega)]; omega
      rw [e1]
      refine ev_eq (implCovers_l0 t ht full hl hm rest (i + 1) (m * 2) hd' (by omega) (by rw [Nat.pow_succ]; omega)) ?_
      have e2 : zerosT (n :: rest) = zerosT rest + 1 := by unfold zerosT; rw [List.filter_cons_of_pos (by simp [h0]), List.length_cons]
      rw [e2, Nat.pow_succ, Nat.mul_assoc, Nat.mul_comm 2 (2 ^ zerosT rest)]
    · refine ev_if_neg h0 ?_
      refine ev_eq (implCovers_l0 t ht full hl hm rest (i + 1) m hd' (by omega) (Nat.le_trans hmi (Nat.pow_le_pow_right (by decide) (by omega)))) ?_
      have e2 : zerosT (n :: rest) = zerosT rest := by unfold zerosT; rw [List.filter_cons_of_neg (by simp [h0])]
      rw [e2]
theorem implCovers_ev (t : List Int) (ht : t.length ≤ 8) (full : List (List Int)) (hl : full.length ≤ 1048576) (hm : ∀ w ∈ full, t.length ≤ w.length ∧ w.length ≤ 1048576) : Ev (fun k => impl_covers.f k full t) (decide (2 ^ zerosT t = fitC t full)) := by
  unfold impl_covers.f
  refine ev_eq (implCovers_l0 t ht full hl hm t 0 1 rfl (Nat.zero_le _) (by decide)) ?_
  rw [Nat.one_mul, Bool.eq_iff_iff, beq_iff_eq, decide_eq_true_eq]
  omega
theorem fitB_snoc : ∀ (t w : List Int) (n x : Int), t.length = w.length → fitB (t ++ [n]) (w ++ [x]) = (fitB t w && (decide (n = 0) || decide (n = x)))
  | [], [], n, x, _ => by simp [fitB]
  | a :: t, b :: w, n, x, h => by
    simp only [List.cons_append, fitB]
    rw [fitB_snoc t w n x (by simpa using h), Bool.and_assoc]
  | [], b :: w, _, _, h => by simp at h
  | a :: t, [], _, _, h => by simp at h
theorem valsL_one : valsL 1 = [1, 2] := by decide
theorem fitC_append (t : List Int) (a b : List (List Int)) : fitC t (a ++ b) = fitC t a + fitC t b := by unfold fitC; rw [List.filter_append, List.length_append]
theorem fitC_next (t : List Int) (n : Int) (hn : n = 0 ∨ n = 1 ∨ n = 2) : ∀ l : List (List Int), (∀ w ∈ l, t.length = w.length) → fitC (t ++ [n]) (nextL 1 l) = fitC t l * (if n = 0 then 2 else 1)
  | [], _ => by simp [fitC, nextL]
  | w :: l, h => by
    have ih := fitC_next t n hn l (fun v hv => h v (List.mem_cons_of_mem _ hv))
    have hw := h w (by simp)
    have e : nextL 1 (w :: l) = [w ++ [1], w ++ [2]] ++ nextL 1 l := by unfold nextL; rw [List.flatMap_cons, valsL_one]; rfl
    rw [e, fitC_append, ih]
    have e2 : fitC (t ++ [n]) [w ++ [1], w ++ [2]] = (if fitB t w = true then 1 else 0) * (if n = 0 then 2 else 1) := by
      unfold fitC
      simp only [List.filter_cons, List.filter_nil, fitB_snoc t w n _ hw]
      rcases hn with rfl | rfl | rfl <;> cases fitB t w <;> simp
    have e3 : fitC t (w :: l) = (if fitB t w = true then 1 else 0) + fitC t l := by
      unfold fitC
      cases hf : fitB t w with
      | true => rw [List.filter_cons_of_pos hf, List.length_cons, if_pos rfl, Nat.add_comm]
      | false => rw [List.filter_cons_of_neg (by simp [hf]), if_neg (by simp), Nat.zero_add]
    rw [e2, e3, Nat.add_mul]
theorem zerosT_snoc (t : List Int) (n : Int) : zerosT (t ++ [n]) = zerosT t + (if n = 0 then 1 else 0) := by
  unfold zerosT
  rw [List.filter_append, List.length_append]
  by_cases h : n = 0 <;> simp [h]
/-- Of the terms without 0, just 2 to the number of noughts fit a term. -/
theorem fitC_all : ∀ (m : Nat) (t : List Int), t.length = m → (∀ n ∈ t, n = 0 ∨ n = 1 ∨ n = 2) → fitC t (allL 1 m) = 2 ^ zerosT t
  | 0, t, hl, _ => by
    have : t = [] := List.eq_nil_of_length_eq_zero hl
    subst this
    rfl
  | m + 1, t, hl, hv => by
    rcases nil_or_snoc t with rfl | ⟨q, n, rfl⟩
    · simp at hl
    have hq : q.length = m := by simpa using hl
    have ih := fitC_all m q hq (fun x hx => hv x (by simp [hx]))
    rw [allL, fitC_next q n (hv n (by simp)) (allL 1 m) (fun w hw => by rw [allL_mem 1 m w hw, hq]), ih, zerosT_snoc]
    by_cases h : n = 0
    · rw [if_pos h, if_pos h, Nat.pow_succ]
    · rw [if_neg h, if_neg h, Nat.mul_one, Nat.add_zero]
theorem valsL_zero : valsL 0 = [0, 1, 2] := by decide
theorem allL0_vals : ∀ (m : Nat) (t : List Int), t ∈ allL 0 m → ∀ n ∈ t, n = 0 ∨ n = 1 ∨ n = 2
  | 0, t, h, n, hn => by
    have : t = [] := by simpa [allL] using h
    subst this
    cases hn
  | m + 1, t, h, n, hn => by
    unfold allL nextL at h
    obtain ⟨s, hs, ht⟩ := List.mem_flatMap.1 h
    obtain ⟨x, hx, rfl⟩ := List.mem_map.1 ht
    rw [valsL_zero] at hx
    rcases List.mem_append.1 hn with hn | hn
    · exact allL0_vals m s hs n hn
    · obtain rfl : n = x := by simpa using hn
      simpa using hx
theorem set_vals {t : List Int} (h : ∀ n ∈ t, n = 0 ∨ n = 1 ∨ n = 2) (i : Nat) : ∀ n ∈ t.set i 0, n = 0 ∨ n = 1 ∨ n = 2 := fun n hn => by
  rcases List.mem_or_eq_of_mem_set hn with h2 | h2
  · exact h n h2
  · exact .inl h2
def coverB (q : List (S46)) (t : List Int) : Bool := decide (2 ^ zerosT t = fitC t (fullT q))
def widerB (C : List Int → Bool) (t : List Int) : List Int → Nat → Bool
  | [], _ => false
  | n :: rest, i => (!decide (n = 0) && C (t.set i 0)) || widerB C t rest (i + 1)
def primesL (q : List (S46)) : List (List Int) := (allL 0 (wordsQ q).length).filter fun t => coverB q t && !(widerB (coverB q) t t 0)
theorem implPrime_l (q : List (S46)) (hg : goodQ q = true) (t : List Int) (ht : t.length = (wordsQ q).length) : ∀ (rest : List Int) (i : Nat), Ev (fun k => impl_PrimesOf_1.l k (fullT q) t rest i) (widerB (coverB q) t rest i)
  | [], i => ev_fun fun _ => rfl
  | n :: rest, i => by
    have hw5 := goodQ_words hg
    have ih := implPrime_l q hg t ht rest (i + 1)
    show Ev (fun k => if n = 0 then impl_PrimesOf_1.l k (fullT q) t rest (i + 1) else (impl_covers.f k (fullT q) (t.set i 0)).bind fun b => if b then some true else impl_PrimesOf_1.l k (fullT q) t rest (i + 1)) _
    unfold widerB
    by_cases h0 : n = 0
    · refine ev_if_pos h0 (ev_eq ih ?_)
      simp [h0]
    · refine ev_if_neg h0 (ev_bind (implCovers_ev (t.set i 0) (by rw [List.length_set]; omega) (fullT q) (by have := fullT_len q hg; exact Nat.le_trans this (by decide)) (fun w hw => ?_)) ?_)
      · have h1 := allL_mem _ _ w (List.mem_filter.1 hw).1
        rw [List.length_set]
        omega
      · show Ev (fun k => if coverB q (t.set i 0) = true then some true else impl_PrimesOf_1.l k (fullT q) t rest (i + 1)) _
        cases hc : coverB q (t.set i 0) with
        | true => exact ev_if_pos rfl (ev_some (by simp [h0]))
        | false => exact ev_if_neg (by simp) (ev_eq ih (by simp))
theorem implPrime_ev (q : List (S46)) (hg : goodQ q = true) (t : List Int) (ht : t.length = (wordsQ q).length) : Ev (fun k => impl_PrimesOf_1.f k (fullT q) t) (!(coverB q t && !(widerB (coverB q) t t 0))) := by
  have hw5 := goodQ_words hg
  unfold impl_PrimesOf_1.f
  refine ev_if_pos (by omega) (ev_bind (implCovers_ev t (by omega) (fullT q) (by have := fullT_len q hg; exact Nat.le_trans this (by decide)) (fun w hw => ?_)) ?_)
  · have h1 := allL_mem _ _ w (List.mem_filter.1 hw).1
    omega
  · show Ev (fun k => if coverB q t = true then impl_PrimesOf_1.l k (fullT q) t t 0 else some true) _
    cases hc : coverB q t with
    | true => exact ev_if_pos rfl (ev_eq (implPrime_l q hg t ht t 0) (by simp))
    | false => exact ev_if_neg (by simp) (ev_some (by simp))
theorem specCover_ev (q : List (S46)) (hg : goodQ q = true) (t : List Int) (ht : t.length = (wordsQ q).length) (hv : ∀ n ∈ t, n = 0 ∨ n = 1 ∨ n = 2) : Ev (fun k => spec_l11Covers.f k (fullT q) (allL 1 (wordsQ q).length) t) (coverB q t) := by
  have hw5 := goodQ_words hg
  refine ev_eq (specCovers_ev t (fullT q) (allL 1 (wordsQ q).length) (by have := fullT_len q hg; exact Nat.le_trans this (by decide)) (fun w hw => ?_) (by have := allL1_len q hg; exact Nat.le_trans this (by decide)) (fun w hw => ?_)) ?_
  · have h1 := allL_mem _ _ w (List.mem_filter.1 hw).1
    omega
  · have h1 := allL_mem _ _ w hw
    omega
  · unfold coverB
    rw [fitC_all _ t ht hv]
theorem specPrime_p (q : List (S46)) (hg : goodQ q = true) (t : List Int) (ht : t.length = (wordsQ q).length) (hv : ∀ n ∈ t, n = 0 ∨ n = 1 ∨ n = 2) : ∀ (rest : List Int) (i : Nat) (b : Bool), Ev (fun k => spec_PrimesOf.p k (fullT q) (allL 1 (wordsQ q).length) t rest i b) (b && !(widerB (coverB q) t rest i))
  | [], i, b => ev_fun fun _ => by simp [spec_PrimesOf.p, widerB]
  | n :: rest, i, b => by
    show Ev (fun k => if b = true ∧ n ≠ 0 then (spec_l11Covers.f k (fullT q) (allL 1 (wordsQ q).length) (t.set i 0)).bind fun c => spec_PrimesOf.p k (fullT q) (allL 1 (wordsQ q).length) t rest (i + 1) (!c) else spec_PrimesOf.p k (fullT q) (allL 1 (wordsQ q).length) t rest (i + 1) b) _
    unfold widerB
    by_cases h : b = true ∧ n ≠ 0
    · obtain ⟨rfl, h0⟩ := h
      refine ev_if_pos ⟨rfl, h0⟩ (ev_bind (specCover_ev q hg (t.set i 0) (by rw [List.length_set]; exact ht) (set_vals hv i)) (ev_eq (specPrime_p q hg t ht hv rest (i + 1) _) ?_))
      cases coverB q (t.set i 0) <;> simp [h0]
    · refine ev_if_neg h (ev_eq (specPrime_p q hg t ht hv rest (i + 1) b) ?_)
      cases b with
      | false => simp
      | true =>
        have h0 : n = 0 := Classical.not_not.1 (fun h2 => h ⟨rfl, h2⟩)
        simp [h0]
theorem specPrime_m (q : List (S46)) (hg : goodQ q = true) : ∀ l : List (List Int), (∀ t ∈ l, t.length = (wordsQ q).length ∧ ∀ n ∈ t, n = 0 ∨ n = 1 ∨ n = 2) → Ev (fun k => spec_PrimesOf.m k (fullT q) (allL 1 (wordsQ q).length) l) (l.filter fun t => coverB q t && !(widerB (coverB q) t t 0))
  | [], _ => ev_fun fun _ => rfl
  | t :: l, h => by
    obtain ⟨ht, hv⟩ := h t (by simp)
    show Ev (fun k => (spec_l11Covers.f k (fullT q) (allL 1 (wordsQ q).length) t).bind fun c => (spec_PrimesOf.p k (fullT q) (allL 1 (wordsQ q).length) t t 0 c).bind fun b => (spec_PrimesOf.m k (fullT q) (allL 1 (wordsQ q).length) l).bind fun r => some (if b then t :: r else r)) _
    refine ev_bind (specCover_ev q hg t ht hv) (ev_bind (specPrime_p q hg t ht hv t 0 _) (ev_bind (specPrime_m q hg l (fun s hs => h s (List.mem_cons_of_mem _ hs))) (ev_some ?_)))
    exact (List.filter_cons (p := fun t => coverB q t && !(widerB (coverB q) t t 0))).symm
def primesR (q : List (S46)) : List (List Int) × Bool := if goodQ q = true then (primesL q, true) else ([], false)
theorem spec_PrimesOf_ev (l : List (S46)) (hl : l.length ≤ 1048576) (hw : ∀ p ∈ l, p.f1.size ≤ 1048576) : Ev (fun k => spec_PrimesOf.f k l) (primesR l) := by
  unfold spec_PrimesOf.f primesR
  refine ev_bind (spec_GoodQuery_ev l hl hw) ?_
  cases hg : goodQ l with
  | true =>
    have hw5 := goodQ_words hg
    refine ev_if_pos rfl (ev_bind (spec_l11Words_ev l hl) (ev_bind (spec_terms_ev l hl hg) (ev_bind (ev_pure (all_eq (wordsQ l).length 1 (by omega) (by omega))) (ev_bind (ev_pure (all_eq (wordsQ l).length 0 (by omega) (by omega))) (ev_bind (specPrime_m l hg _ (fun t ht => ⟨allL_mem _ _ t ht, allL0_vals _ t ht⟩)) (ev_some rfl))))))
  | false => exact ev_if_neg (by simp) (ev_some rfl)
theorem impl_PrimesOf_ev (l : List (S46)) (hl : l.length ≤ 1048576) (hw : ∀ p ∈ l, p.f1.size ≤ 1048576) : Ev (fun k => impl_PrimesOf.f k l) (primesR l) := by
  unfold impl_PrimesOf.f primesR
  refine ev_bind (impl_GoodQuery_ev l hl hw) ?_
  cases hg : goodQ l with
  | true =>
    have hw5 := goodQ_words hg
    refine ev_if_pos rfl (ev_bind (impl_fullTerms_ev l hl hg) (ev_bind (impl_wordsIn_ev l hl) (ev_bind (ev_pure (implterms_eq (wordsQ l).length 0 (by omega) (by omega))) (ev_bind (delM_ev _ (fun t => !(coverB l t && !(widerB (coverB l) t t 0))) _ (fun t ht => implPrime_ev l hg t (allL_mem _ _ t ht))) (ev_some ?_)))))
    simp only [Bool.not_not]
    rfl
  | false => exact ev_if_neg (by simp) (ev_some rfl)
theorem primesR_small (q : List (S46)) : (primesR q).1.length ≤ 6561 ∧ ∀ t ∈ (primesR q).1, t.length ≤ 5 := by
  unfold primesR
  by_cases hg : goodQ q = true
  · rw [if_pos hg]
    have hw5 := goodQ_words hg
    exact ⟨Nat.le_trans (List.length_filter_le _ _) (allL_small 0 (by omega) _ (by omega)), fun t ht => by rw [allL_mem _ _ t (List.mem_filter.1 ht).1]; omega⟩
  · rw [if_neg hg]
    exact ⟨by simp, by simp⟩

theorem FnExactPrimesOf : laws_FnExactPrimesOf.Pure := by
  intro l hw
  obtain ⟨r, hr, hb, hall⟩ := szPartS_ev l 1048576 (by omega) (by omega) hw.1 (fun x hx => (hw.2 x hx).2.1)
  by_cases hn : r < 0
  · obtain ⟨k, hk⟩ := hr
    exact ⟨k, r, hk k (Nat.le_refl _), .inl hn⟩
  obtain ⟨h1, h2⟩ := hall (by omega)
  have hto := toPartS_ev l h1
  have h1' : (l.map toPart).length ≤ 1048576 := by simpa using h1
  have h2' : ∀ x ∈ l.map toPart, x.f1.size ≤ 1048576 := by
    intro x hx
    obtain ⟨y, hy, rfl⟩ := List.mem_map.1 hx
    exact h2 y hy
  revert hto h1' h2'
  generalize l.map toPart = L
  intro hto hL hS
  have k1 := spec_PrimesOf_ev L hL hS
  have k2 := impl_PrimesOf_ev L hL hS
  obtain ⟨q1, q2⟩ := primesR_small L
  revert k1 k2 q1 q2
  generalize primesR L = B
  obtain ⟨G, ok⟩ := B
  intro k1 k2 q1 q2
  have q1 : G.length ≤ 6561 := q1
  have q2 : ∀ t ∈ G, t.length ≤ 5 := q2
  have hz := sizesI_le 5 G q2
  have eG := eqIntSS_ev G (by omega) (fun t ht => Nat.le_trans (q2 t ht) (by decide))
  have eL := eqPartS_ev L (by omega)
  have mL := markPartS_ev L 1 (by omega)
  have mG := markIntSS_ev G 1 (by omega) (by omega)
  have hG := heldIntSS_ev G 1 (by omega) (by omega)
  obtain ⟨K0, hr⟩ := hr
  obtain ⟨K1, hto⟩ := hto
  obtain ⟨K2, k1⟩ := k1
  obtain ⟨K3, k2⟩ := k2
  obtain ⟨K4, eG⟩ := eG
  obtain ⟨K5, eL⟩ := eL
  obtain ⟨K6, mL⟩ := mL
  obtain ⟨K7, mG⟩ := mG
  obtain ⟨K8, hG⟩ := hG
  have hK : ∃ K, K0 ≤ K ∧ K1 ≤ K ∧ K2 ≤ K ∧ K3 ≤ K ∧ K4 ≤ K ∧ K5 ≤ K ∧ K6 ≤ K ∧ K7 ≤ K ∧ K8 ≤ K := ⟨K0 + K1 + K2 + K3 + K4 + K5 + K6 + K7 + K8, by omega⟩
  obtain ⟨K, b0, b1, b2, b3, b4, b5, b6, b7, b8⟩ := hK
  exact ⟨K, r, hr K b0, .inr ⟨by omega, L, hto K b1, G, ok, k1 K b2, G, k2 K b3, eG K b4, eL K b5, _, _, mL K b6, by omega, _, _, mG K b7, hG K b8, by omega, by omega, trivial⟩⟩

end Go.Proofs.Ytnolkgfdokijjaa.Pure
