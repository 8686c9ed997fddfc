/- The law FnExactDocsFor holds at every input; no conditions. -/
import Derived.Test.YtkijaolkfkgneaaQFnExactDocsForx10
import Derived.Test.YtkijaolkfkgneaaBase
import Derived.OpenShut
import Derived.Test.YtkijaolkfkgneaaSorted
namespace Go.Proofs.Ytkijaolkfkgneaa.Pure
open Go.RowKit Go.Proofs.Ytkijaolkfkgneaa.QFnExactDocsFor Go.Proofs.YtkijaolkfkgneaaW.PrintWords Go.Proofs.YtkijaolkfkgneaaW.PrintLast Go.Proofs.Ytkijaolkfkgneaa.Base
set_option linter.unusedSimpArgs false
set_option linter.unusedVariables false
def wf85 (x : S85) : Prop := (Lit.int .i64 x.f0).wf = true ∧ x.f1.size ≤ 9223372036854775807 ∧ (Lit.int .i64 x.f2).wf = true ∧ (Lit.int .i64 x.f3).wf = true
def laws_FnExactDocsFor.Pure : Prop := ∀ (l0 : List (ByteArray)) (l1 : List (S85)), (l0.length ≤ 9223372036854775807 ∧ ∀ y ∈ l0, y.size ≤ 9223372036854775807) → (l1.length ≤ 9223372036854775807 ∧ ∀ y ∈ l1, wf85 y) → ∃ k, laws_FnExactDocsFor.f k l0 l1 = some true
def lettersN (s : ByteArray) : Nat → Nat → Bool
 | 0, _ => true
 | d + 1, i => (decide (97 ≤ bt s i) && decide (bt s i ≤ 122)) && lettersN s d (i + 1)
def isWordB (s : ByteArray) : Bool := lettersN s s.size 0 && (decide (1 ≤ s.size) && decide (s.size ≤ 12))
theorem spec_word_ev (s : ByteArray) (hs : s.size ≤ 1048576) : ∀ (d i : Nat), i + d = s.size → Ev (fun k => spec_l9Word.l0 k s i) (lettersN s d i && (decide (1 ≤ s.size) && decide (s.size ≤ 12)))
 | 0, i, hi => by
  refine Ev.step (fun k => spec_l9Word.l0.eq_2 ..) (ev_if_neg (by omega) (ev_fun fun k => ?_))
  simp only [spec_l1In.f, lettersN]
  by_cases h1 : 1 ≤ s.size
  ·have h1' : (s.size : Int) ≥ 1 := by omega
   have h2 : ((s.size : Int) ≤ 12) = (s.size ≤ 12) := by apply propext; omega
   simp [h1, h1', h2]
  ·have h1' : ¬ (s.size : Int) ≥ 1 := by omega
   simp [h1, h1']
 | d + 1, i, hi => by
  refine Ev.step (fun k => spec_l9Word.l0.eq_2 ..) (ev_if_pos (by omega) (ev_if_pos (by omega) ?_))
  by_cases h1 : bt s i < 97
  ·exact ev_if_pos h1 (ev_some (by simp [lettersN, show ¬ 97 ≤ bt s i by omega]))
  ·by_cases h2 : bt s i > 122
   ·exact ev_if_neg h1 (ev_if_pos h2 (ev_some (by simp [lettersN, show ¬ bt s i ≤ 122 by omega])))
   ·refine ev_if_neg h1 (ev_if_neg h2 ?_)
    rw [wrap_succ (by omega)]
    refine ev_eq (spec_word_ev s hs d (i + 1) (by omega)) ?_
    simp [lettersN, show 97 ≤ bt s i by omega, show bt s i ≤ 122 by omega]
theorem spec_l9Word_ev (s : ByteArray) (hs : s.size ≤ 1048576) : Ev (fun k => spec_l9Word.f k s) (isWordB s) := spec_word_ev s hs s.size 0 (by omega)
theorem impl_letters_ev (s : ByteArray) (hs : s.size ≤ 1048576) : ∀ (d i : Nat), i + d = s.size → Ev (fun k => impl_areLetters.l0 k s s.size i) (lettersN s d i && decide (s.size ≤ 12))
 | 0, i, hi => by
  refine Ev.step (fun k => impl_areLetters.l0.eq_2 ..) (ev_if_neg (by omega) (ev_fun fun k => ?_))
  have h2 : ((s.size : Int) ≤ 12) = (s.size ≤ 12) := by apply propext; omega
  simp [lettersN, h2]
 | d + 1, i, hi => by
  refine Ev.step (fun k => impl_areLetters.l0.eq_2 ..) (ev_if_pos (by omega) (ev_if_pos (by omega) (ev_if_pos (by omega) ?_)))
  unfold impl_isLetter.f
  by_cases h1 : bt s i ≥ 97
  ·by_cases h2 : bt s i ≤ 122
   ·simp only [h1, h2, if_true, decide_true, Option.bind_some]
    rw [wrap_succ (by omega)]
    refine ev_eq (impl_letters_ev s hs d (i + 1) (by omega)) ?_
    simp [lettersN, show 97 ≤ bt s i by omega, h2]
   ·exact ev_fun fun k => by simp [lettersN, h1, h2]
  ·exact ev_fun fun k => by simp [lettersN, h1]
theorem impl_isWord_ev (s : ByteArray) (hs : s.size ≤ 1048576) : Ev (fun k => impl_isWord.f k s) (isWordB s) := by
 unfold impl_isWord.f impl_areLetters.f
 by_cases h : s.toList = ([] : List UInt8)
 ·have h0 := (toList_nil s).1 h
  exact ev_if_pos h (ev_some (by simp [isWordB, h0]))
 ·have h0 : s.size ≠ 0 := fun h' => h ((toList_nil s).2 h')
  refine ev_if_neg h (ev_bind (impl_letters_ev s hs s.size 0 (by omega)) (ev_some ?_))
  simp [isWordB, show 1 ≤ s.size by omega]
theorem szPart_ev (x : S85) (left : Int) (h0 : 0 ≤ left) (h1 : left ≤ 1048576) (hw : x.f1.size ≤ 9223372036854775807) : ∃ r, laws_szPart.f x.f0 x.f1 x.f2 x.f3 left = some r ∧ r ≤ 1048576 ∧ (0 ≤ r → x.f1.size ≤ 1048576) := by
 unfold laws_szPart.f
 have e : wrap64 (left - (x.f1.size : Int)) = left - x.f1.size := wrap_id (by omega) (by omega)
 rw [e]
 by_cases h : left - (x.f1.size : Int) < 0
 ·exact ⟨-1, by rw [if_pos h], by omega, fun h => by omega⟩
 ·exact ⟨_, by rw [if_neg h], by omega, fun _ => by omega⟩
theorem szPartS_loop (l : List (S85)) (hl : l.length ≤ 1048576) (hw : ∀ x ∈ l, x.f1.size ≤ 9223372036854775807) : ∀ (rest : List (S85)) (i : Nat) (left : Int), l.drop i = rest → 0 ≤ left → left ≤ 1048576 →
  ∃ r, Ev (fun k => laws_szPartS.l0 k l left i) r ∧ r ≤ 1048576 ∧ (0 ≤ r → ∀ x ∈ rest, x.f1.size ≤ 1048576)
 | [], i, left, hd, h0, h1 => by
  have h := drop_nil hd
  exact ⟨left, Ev.step (fun k => laws_szPartS.l0.eq_2 ..) (ev_if_neg (by omega) (ev_some rfl)), h1, fun _ s hs => by simp at hs⟩
 | s :: rest, i, left, hd, h0, h1 => by
  obtain ⟨hi, hd', hx⟩ := drop_cons hd
  have hx : rd_T85 l i = s := hx _
  have hs : s ∈ l := List.mem_of_mem_drop (by rw [hd]; exact List.mem_cons_self)
  obtain ⟨q, hq, hq1, hq2⟩ := szPart_ev s left h0 h1 (hw s hs)
  by_cases hn : q < 0
  ·refine ⟨-1, Ev.step (fun k => laws_szPartS.l0.eq_2 ..) (ev_if_pos (by omega) (ev_if_pos (by omega) ?_)), by omega, fun h => by omega⟩
   simp only [hx, hq, Option.bind_some]
   exact ev_if_pos hn (ev_some rfl)
  ·obtain ⟨r, hr, hb, hall⟩ := szPartS_loop l hl hw rest (i + 1) q hd' (by omega) hq1
   refine ⟨r, Ev.step (fun k => laws_szPartS.l0.eq_2 ..) (ev_if_pos (by omega) (ev_if_pos (by omega) ?_)), hb, fun h t ht => ?_⟩
   ·simp only [hx, hq, Option.bind_some]
    rw [wrap_succ (by omega)]
    exact ev_if_neg hn hr
   ·rcases List.mem_cons.1 ht with rfl | ht
    ·exact hq2 (by omega)
    ·exact hall h t ht
theorem szPartS_ev (l : List (S85)) (left : Int) (h0 : 0 ≤ left) (h1 : left ≤ 1048576) (hl : l.length ≤ 9223372036854775807) (hw : ∀ x ∈ l, x.f1.size ≤ 9223372036854775807) :
  ∃ r, Ev (fun k => laws_szPartS.f k l left) r ∧ r ≤ 1048576 ∧ (0 ≤ r → l.length ≤ 1048576 ∧ ∀ x ∈ l, x.f1.size ≤ 1048576) := by
 unfold laws_szPartS.f
 have e : wrap64 (left - (l.length : Int)) = left - l.length := wrap_id (by omega) (by omega)
 simp only [e]
 by_cases hn : left - (l.length : Int) < 0
 ·exact ⟨-1, ev_if_pos hn (ev_some rfl), by omega, fun h => by omega⟩
 ·obtain ⟨r, hr, hb, hall⟩ := szPartS_loop l (by omega) hw l 0 (left - l.length) rfl (by omega) (by omega)
  exact ⟨r, ev_if_neg hn hr, hb, fun h => ⟨by omega, hall h⟩⟩
def toPart (x : S85) : S90 := ⟨x.f0, x.f1, x.f2, x.f3⟩
theorem toPart_eq (x : S85) : laws_toPart.f x.f0 x.f1 x.f2 x.f3 = some ((toPart x).f0, (toPart x).f1, (toPart x).f2, (toPart x).f3) := rfl
theorem toPartS_loop (l : List (S85)) (hl : l.length ≤ 1048576) : ∀ (rest : List (S85)) (pre : List (S90)) (i : Nat), l.drop i = rest → pre.length = i →
  Ev (fun k => laws_toPartS.l0 k l (pre ++ List.replicate rest.length z90) i) (pre ++ rest.map toPart)
 | [], pre, i, hd, hp => by
  have h := drop_nil hd
  exact Ev.step (fun k => laws_toPartS.l0.eq_2 ..) (ev_if_neg (by omega) (ev_some rfl))
 | s :: rest, pre, i, hd, hp => by
  obtain ⟨hi, hd', hx⟩ := drop_cons hd
  have hx : rd_T85 l i = s := hx _
  refine Ev.step (fun k => laws_toPartS.l0.eq_2 ..) (ev_if_pos (by omega) (ev_if_pos (by omega) ?_))
  simp only [hx, toPart_eq, Option.bind_some]
  refine ev_if_pos (by rw [List.length_append, List.length_replicate, List.length_cons]; omega) ?_
  rw [wrap_succ (by omega), Int.toNat_natCast, List.length_cons, List.replicate_succ]
  subst hp
  rw [set_at]
  have := toPartS_loop l hl rest (pre ++ [toPart s]) (pre.length + 1) hd' (by simp)
  simpa using this
theorem toPartS_ev (l : List (S85)) (hl : l.length ≤ 1048576) : Ev (fun k => laws_toPartS.f k l) (l.map toPart) := by
 unfold laws_toPartS.f
 refine ev_if_pos (by omega) (ev_if_pos (by omega) ?_)
 rw [Int.toNat_natCast]
 exact toPartS_loop l hl l [] 0 rfl rfl
theorem eqPart_eq (x : S90) : laws_eqPart.f x.f0 x.f1 x.f2 x.f3 x.f0 x.f1 x.f2 x.f3 = some true := by
 unfold laws_eqPart.f
 simp
theorem eqPartS_loop (l : List (S90)) (hl : l.length ≤ 1152921504606846976) : ∀ (rest : List (S90)) (i : Nat), l.drop i = rest → Ev (fun k => laws_eqPartS.l0 k l l i) true
 | [], i, hd => by
  have h := drop_nil hd
  exact Ev.step (fun k => laws_eqPartS.l0.eq_2 ..) (ev_if_neg (by omega) (ev_some rfl))
 | s :: rest, i, hd => by
  obtain ⟨hi, hd', hx⟩ := drop_cons hd
  have hx : rd_T90 l i = s := hx _
  refine Ev.step (fun k => laws_eqPartS.l0.eq_2 ..) (ev_if_pos (by omega) (ev_if_pos (by omega) (ev_if_pos (by omega) ?_)))
  simp only [hx, eqPart_eq, Option.bind_some]
  rw [wrap_succ (by omega)]
  exact ev_if_pos (by simp) (eqPartS_loop l hl rest (i + 1) hd')
theorem eqPartS_ev (l : List (S90)) (hl : l.length ≤ 1152921504606846976) : Ev (fun k => laws_eqPartS.f k l l) true := by
 unfold laws_eqPartS.f
 exact ev_if_pos rfl (eqPartS_loop l hl l 0 rfl)
open Go.Proofs.Ytkijaolkfkgneaa.Ext Go.Proofs.Ytkijaolkfkgneaa.Sorted
def inB (a b c : Int) : Bool := decide (b ≤ a) && decide (a ≤ c)
theorem spec_l1In_eq (a b c : Int) : spec_l1In.f a b c = some (inB a b c) := by
 unfold spec_l1In.f inB
 by_cases h : a ≥ b
 ·rw [if_pos h]; simp [show b ≤ a from h]
 ·rw [if_neg h]; simp [show ¬ b ≤ a from h]
theorem impl_within_eq (a b c : Int) : impl_within.f a b c = some (inB a b c) := by
 unfold impl_within.f inB
 by_cases h : a ≥ b
 ·rw [if_pos h]; simp [show b ≤ a from h]
 ·rw [if_neg h]; simp [show ¬ b ≤ a from h]
def partB (p : S90) (i : Int) : Bool :=
 if p.f0 = 1 then isWordB p.f1 && (decide (p.f2 = 0) && decide (p.f3 = 0))
 else if p.f0 = 2 ∨ p.f0 = 3 then decide (p.f1.toList = []) && (inB p.f2 0 (i - 1) && inB p.f3 0 (i - 1))
 else if p.f0 = 4 then decide (p.f1.toList = []) && (inB p.f2 0 (i - 1) && decide (p.f3 = 0))
 else false
theorem spec_l11Part_ev (p : S90) (i : Nat) (hs : p.f1.size ≤ 1048576) (hi : i ≤ 1048576) : Ev (fun k => spec_l11Part.f k p.f0 p.f1 p.f2 p.f3 i) (partB p i) := by
 unfold spec_l11Part.f
 have e : wrap64 ((i : Int) - 1) = (i : Int) - 1 := wrap_id (by omega) (by omega)
 by_cases h1 : p.f0 = 1
 ·refine ev_if_pos h1 (ev_bind (spec_l9Word_ev p.f1 hs) (ev_fun fun _ => ?_))
  unfold partB
  rw [if_pos h1]
  cases isWordB p.f1 <;> by_cases h2 : p.f2 = 0 <;> simp [h2]
  exact rfl
 ·refine ev_if_neg h1 ?_
  have key : ∀ b : Bool, b = true → (p.f0 = 2 ∨ p.f0 = 3) → Ev (fun k => spec_l11Part.j0 k i p.f0 b p.f0 p.f1 p.f2 p.f3) (partB p i) := by
   rintro b rfl h
   refine Ev.step (fun k => spec_l11Part.j0.eq_2 ..) (ev_if_pos rfl (ev_fun fun _ => ?_))
   unfold partB
   rw [if_neg h1, if_pos h]
   simp only [spec_l1In_eq, Option.bind_some, e]
   by_cases h3 : p.f1.toList = ([] : List UInt8)
   ·rw [if_pos h3]
    cases inB p.f2 0 (i - 1) <;> simp [h3]
   ·rw [if_neg h3]; simp [h3]
  by_cases h2 : p.f0 = 2
  ·exact ev_if_pos h2 (key _ (by simp [h2]) (.inl h2))
  ·refine ev_if_neg h2 ?_
   by_cases h3 : p.f0 = 3
   ·exact key _ (by simp [h3]) (.inr h3)
   ·have hb : (p.f0 == 3) = false := by simp [h3]
    rw [hb]
    refine Ev.step (fun k => spec_l11Part.j0.eq_2 ..) (ev_if_neg (by simp) (ev_fun fun _ => ?_))
    unfold partB
    rw [if_neg h1, if_neg (show ¬ (p.f0 = 2 ∨ p.f0 = 3) from fun h => h.elim h2 h3)]
    simp only [spec_l1In_eq, Option.bind_some, e]
    by_cases h4 : p.f0 = 4
    ·rw [if_pos h4, if_pos h4]
     by_cases h5 : p.f1.toList = ([] : List UInt8)
     ·rw [if_pos h5]
      cases inB p.f2 0 (i - 1) <;> simp [h5]
      exact rfl
     ·rw [if_neg h5]; simp [h5]
    ·rw [if_neg h4, if_neg h4]
theorem impl_isPart_ev (p : S90) (i : Nat) (hs : p.f1.size ≤ 1048576) (hi : i ≤ 1048576) : Ev (fun k => impl_isPart.f k p.f0 p.f1 p.f2 p.f3 i) (partB p i) := by
 unfold impl_isPart.f
 have e : wrap64 ((i : Int) - 1) = (i : Int) - 1 := wrap_id (by omega) (by omega)
 by_cases h1 : p.f0 = 1
 ·refine ev_if_pos h1 (ev_bind (impl_isWord_ev p.f1 hs) (ev_fun fun _ => ?_))
  unfold partB
  rw [if_pos h1]
  cases isWordB p.f1 <;> by_cases h2 : p.f2 = 0 <;> simp [h2]
  exact rfl
 ·refine ev_if_neg h1 ?_
  have key : ∀ b : Bool, b = true → (p.f0 = 2 ∨ p.f0 = 3) → Ev (fun k => impl_isPart.j0 k i p.f0 b p.f0 p.f1 p.f2 p.f3) (partB p i) := by
   rintro b rfl h
   refine Ev.step (fun k => impl_isPart.j0.eq_2 ..) (ev_if_pos rfl (ev_fun fun _ => ?_))
   unfold partB
   rw [if_neg h1, if_pos h]
   simp only [impl_within_eq, Option.bind_some, e]
   by_cases h3 : p.f1.toList = ([] : List UInt8)
   ·rw [if_pos h3]
    cases inB p.f2 0 (i - 1) <;> simp [h3]
   ·rw [if_neg h3]; simp [h3]
  by_cases h2 : p.f0 = 2
  ·exact ev_if_pos h2 (key _ (by simp [h2]) (.inl h2))
  ·refine ev_if_neg h2 ?_
   by_cases h3 : p.f0 = 3
   ·exact key _ (by simp [h3]) (.inr h3)
   ·have hb : (p.f0 == 3) = false := by simp [h3]
    rw [hb]
    refine Ev.step (fun k => impl_isPart.j0.eq_2 ..) (ev_if_neg (by simp) (ev_fun fun _ => ?_))
    unfold partB
    rw [if_neg h1, if_neg (show ¬ (p.f0 = 2 ∨ p.f0 = 3) from fun h => h.elim h2 h3)]
    simp only [impl_within_eq, Option.bind_some, e]
    by_cases h4 : p.f0 = 4
    ·rw [if_pos h4, if_pos h4]
     by_cases h5 : p.f1.toList = ([] : List UInt8)
     ·rw [if_pos h5]
      cases inB p.f2 0 (i - 1) <;> simp [h5]
      exact rfl
     ·rw [if_neg h5]; simp [h5]
    ·rw [if_neg h4, if_neg h4]
def wordsL : List (S90) → List ByteArray
 | [] => []
 | p :: l => if p.f0 = 1 then p.f1 :: wordsL l else wordsL l
theorem wordsL_length : ∀ l : List (S90), (wordsL l).length ≤ l.length
 | [] => Nat.le_refl _
 | p :: l => by
  have := wordsL_length l
  unfold wordsL
  split <;> simp only [List.length_cons] <;> omega
def wordsQ (q : List (S90)) : List ByteArray := puts [] (wordsL q)
theorem wordsQ_length (q : List (S90)) : (wordsQ q).length ≤ q.length := by
 have h1 := puts_length (wordsL q) []
 have h2 := wordsL_length q
 unfold wordsQ
 simp only [List.length_nil] at h1
 omega
theorem l5Insert_at (pre rest : List ByteArray) (s : ByteArray) (hl : pre.length + rest.length ≤ 1048576) : spec_l5Insert.f (pre ++ rest) pre.length s = some (pre ++ s :: rest) := by
 unfold spec_l5Insert.f
 simp only [Option.bind_some, Int.toNat_natCast, List.take_left', List.drop_left', List.nil_append, List.length_nil, List.length_append, List.length_singleton]
 rw [if_pos (by omega), if_pos (by omega), if_pos (by omega), if_pos (by omega), if_pos (by omega)]
 simp
theorem l9Put_loop (s : ByteArray) : ∀ (rest pre : List ByteArray), pre.length + rest.length ≤ 1048576 →
  Ev (fun k => spec_l9Put.l0 k (pre ++ rest) s pre.length) (pre ++ put s rest)
 | [], pre, hl => by
  refine Ev.step (fun k => spec_l9Put.l0.eq_2 ..) (ev_if_neg (by simp) ?_)
  rw [l5Insert_at pre [] s hl]
  exact ev_some rfl
 | x :: rest, pre, hl => by
  obtain ⟨hi, hx⟩ := mid_at (l := pre ++ x :: rest) (pre := pre) (rest := rest) (x := x) rfl
  rw [List.length_cons] at hl
  refine Ev.step (fun k => spec_l9Put.l0.eq_2 ..) (ev_if_pos (by omega) (ev_if_pos (by omega) ?_))
  rw [hx]
  unfold put
  by_cases h1 : lessB x s = true
  ·rw [if_pos h1]
   refine ev_if_pos h1 ?_
   rw [wrap_succ (by omega)]
   have ih := l9Put_loop s rest (pre ++ [x]) (by rw [List.length_append, List.length_singleton]; omega)
   rw [List.length_append, List.length_singleton] at ih
   simpa using ih
  ·rw [if_neg h1]
   refine ev_if_neg h1 ?_
   by_cases h2 : x = s
   ·rw [if_pos h2]
    exact ev_if_pos (by rw [h2]) (ev_some rfl)
   ·rw [if_neg h2]
    refine ev_if_neg (fun h => h2 (toList_inj.1 h)) ?_
    rw [l5Insert_at pre (x :: rest) s (by rw [List.length_cons]; omega)]
    exact ev_some rfl
theorem l9Put_ev (s : ByteArray) (l : List ByteArray) (hl : l.length ≤ 1048576) : Ev (fun k => spec_l9Put.f k l s) (put s l) := by
 unfold spec_l9Put.f
 exact l9Put_loop s l [] (by simpa using hl)
theorem spec_l11Words_loop (l : List (S90)) (hl : l.length ≤ 1048576) : ∀ (rest : List (S90)) (acc : List ByteArray) (i : Nat), l.drop i = rest → acc.length ≤ i →
  Ev (fun k => spec_l11Words.l0 k acc l l.length i) (puts acc (wordsL rest))
 | [], acc, i, hd, ha => by
  have h := drop_nil hd
  exact Ev.step (fun k => spec_l11Words.l0.eq_2 ..) (ev_if_neg (by omega) (ev_some rfl))
 | x :: rest, acc, i, hd, ha => by
  obtain ⟨hi, hd', hx⟩ := drop_cons hd
  have hx : rd_T90 l i = x := hx _
  refine Ev.step (fun k => spec_l11Words.l0.eq_2 ..) (ev_if_pos (by omega) (ev_if_pos (by omega) (ev_if_pos (by omega) ?_)))
  rw [hx, wrap_succ (by omega)]
  unfold wordsL
  by_cases h1 : x.f0 = 1
  ·rw [if_pos h1]
   have := put_length x.f1 acc
   exact ev_if_pos h1 (ev_bind (l9Put_ev x.f1 acc (by omega)) (spec_l11Words_loop l hl rest (put x.f1 acc) (i + 1) hd' (by omega)))
  ·rw [if_neg h1]
   exact ev_if_neg h1 (spec_l11Words_loop l hl rest acc (i + 1) hd' (by omega))
theorem spec_l11Words_ev (l : List (S90)) (hl : l.length ≤ 1048576) : Ev (fun k => spec_l11Words.f k l) (wordsQ l) := by
 unfold spec_l11Words.f
 exact spec_l11Words_loop l hl l [] 0 rfl (Nat.le_refl _)
theorem impl_wordsIn_loop (l : List (S90)) (hl : l.length ≤ 1048576) : ∀ (rest : List (S90)) (acc : List ByteArray) (i : Nat), l.drop i = rest → acc.length ≤ i → i ≤ l.length →
  Ev (fun k => impl_wordsIn.l0 k acc l l.length i) (puts [] (acc ++ wordsL rest))
 | [], acc, i, hd, ha, hle => by
  have h := drop_nil hd
  refine Ev.step (fun k => impl_wordsIn.l0.eq_2 ..) (ev_if_neg (by omega) ?_)
  unfold slices_Sort_string_string.f slices_Compact_string_string.f
  rw [if_pos (by omega)]
  exact ev_some (by rw [compStrs_puts]; simp [wordsL])
 | x :: rest, acc, i, hd, ha, hle => by
  obtain ⟨hi, hd', hx⟩ := drop_cons hd
  have hx : rd_T90 l i = x := hx _
  refine Ev.step (fun k => impl_wordsIn.l0.eq_2 ..) (ev_if_pos (by omega) (ev_if_pos (by omega) (ev_if_pos (by omega) ?_)))
  rw [hx, wrap_succ (by omega)]
  unfold wordsL
  by_cases h1 : x.f0 = 1
  ·rw [if_pos h1]
   refine ev_if_pos h1 (ev_if_pos (by omega) ?_)
   have ih := impl_wordsIn_loop l hl rest (acc ++ [x.f1]) (i + 1) hd' (by rw [List.length_append, List.length_singleton]; omega) (by omega)
   simpa using ih
  ·rw [if_neg h1]
   exact ev_if_neg h1 (impl_wordsIn_loop l hl rest acc (i + 1) hd' (by omega) (by omega))
theorem impl_wordsIn_ev (l : List (S90)) (hl : l.length ≤ 1048576) : Ev (fun k => impl_wordsIn.f k l) (wordsQ l) := by
 unfold impl_wordsIn.f
 exact impl_wordsIn_loop l hl l [] 0 rfl (Nat.le_refl _) (Nat.zero_le _)
def partsB : Nat → List (S90) → Bool
 | _, [] => true
 | i, p :: l => partB p i && partsB (i + 1) l
def goodQ (q : List (S90)) : Bool := partsB 0 q && (inB q.length 1 24 && decide (((wordsQ q).length : Int) ≤ 5))
theorem spec_GoodQuery_loop (l : List (S90)) (hl : l.length ≤ 1048576) (hw : ∀ p ∈ l, p.f1.size ≤ 1048576) : ∀ (rest : List (S90)) (i : Nat), l.drop i = rest →
  Ev (fun k => spec_GoodQuery.l0 k l l l.length i) (partsB i rest && (inB l.length 1 24 && decide (((wordsQ l).length : Int) ≤ 5)))
 | [], i, hd => by
  have h := drop_nil hd
  refine Ev.step (fun k => spec_GoodQuery.l0.eq_2 ..) (ev_if_neg (by omega) ?_)
  rw [spec_l1In_eq]
  simp only [Option.bind_some]
  cases hb : inB l.length 1 24 with
  | true => exact ev_if_pos rfl (ev_bind (spec_l11Words_ev l hl) (ev_some (by simp [partsB])))
  | false => exact ev_if_neg (by simp) (ev_some (by simp))
 | x :: rest, i, hd => by
  obtain ⟨hi, hd', hx⟩ := drop_cons hd
  have hx : rd_T90 l i = x := hx _
  have hm : x ∈ l := List.mem_of_mem_drop (by rw [hd]; exact List.mem_cons_self)
  refine Ev.step (fun k => spec_GoodQuery.l0.eq_2 ..) (ev_if_pos (by omega) (ev_if_pos (by omega) (ev_if_pos (by omega) ?_)))
  rw [hx, wrap_succ (by omega)]
  refine ev_bind (spec_l11Part_ev x i (hw x hm) (by omega)) ?_
  unfold partsB
  cases hb : partB x i with
  | true => exact ev_if_pos rfl (ev_eq (spec_GoodQuery_loop l hl hw rest (i + 1) hd') (by simp))
  | false => exact ev_if_neg (by simp) (ev_some (by simp))
theorem spec_GoodQuery_ev (l : List (S90)) (hl : l.length ≤ 1048576) (hw : ∀ p ∈ l, p.f1.size ≤ 1048576) : Ev (fun k => spec_GoodQuery.f k l) (goodQ l) := by
 unfold spec_GoodQuery.f
 exact spec_GoodQuery_loop l hl hw l 0 rfl
theorem impl_GoodQuery_loop (l : List (S90)) (hl : l.length ≤ 1048576) (hw : ∀ p ∈ l, p.f1.size ≤ 1048576) : ∀ (rest : List (S90)) (i : Nat), l.drop i = rest →
  Ev (fun k => impl_GoodQuery.l0 k l l l.length i) (partsB i rest && decide (((wordsQ l).length : Int) ≤ 5))
 | [], i, hd => by
  have h := drop_nil hd
  exact Ev.step (fun k => impl_GoodQuery.l0.eq_2 ..) (ev_if_neg (by omega) (ev_bind (impl_wordsIn_ev l hl) (ev_some (by simp [partsB]))))
 | x :: rest, i, hd => by
  obtain ⟨hi, hd', hx⟩ := drop_cons hd
  have hx : rd_T90 l i = x := hx _
  have hm : x ∈ l := List.mem_of_mem_drop (by rw [hd]; exact List.mem_cons_self)
  refine Ev.step (fun k => impl_GoodQuery.l0.eq_2 ..) (ev_if_pos (by omega) (ev_if_pos (by omega) (ev_if_pos (by omega) ?_)))
  rw [hx, wrap_succ (by omega)]
  refine ev_bind (impl_isPart_ev x i (hw x hm) (by omega)) ?_
  unfold partsB
  cases hb : partB x i with
  | true => exact ev_if_pos rfl (ev_eq (impl_GoodQuery_loop l hl hw rest (i + 1) hd') (by simp))
  | false => exact ev_if_neg (by simp) (ev_some (by simp))
theorem impl_GoodQuery_ev (l : List (S90)) (hl : l.length ≤ 1048576) (hw : ∀ p ∈ l, p.f1.size ≤ 1048576) : Ev (fun k => impl_GoodQuery.f k l) (goodQ l) := by
 unfold impl_GoodQuery.f goodQ
 rw [impl_within_eq]
 simp only [Option.bind_some]
 cases hb : inB l.length 1 24 with
 | true => exact ev_if_pos rfl (ev_eq (impl_GoodQuery_loop l hl hw l 0 rfl) (by simp))
 | false => exact ev_if_neg (by simp) (ev_some (by simp))
theorem szStringS_loop (l : List ByteArray) (hl : l.length ≤ 1048576) (hw : ∀ s ∈ l, s.size ≤ 9223372036854775807) : ∀ (rest : List ByteArray) (i : Nat) (left : Int), l.drop i = rest → 0 ≤ left → left ≤ 1048576 →
  ∃ r, Ev (fun k => laws_szStringS.l0 k l left i) r ∧ r ≤ 1048576 ∧ (0 ≤ r → ∀ s ∈ rest, s.size ≤ 1048576)
 | [], i, left, hd, h0, h1 => by
  have h := drop_nil hd
  exact ⟨left, Ev.step (fun k => laws_szStringS.l0.eq_2 ..) (ev_if_neg (by omega) (ev_some rfl)), h1, fun _ s hs => by simp at hs⟩
 | s :: rest, i, left, hd, h0, h1 => by
  obtain ⟨hi, hd', hx⟩ := drop_cons hd
  have hs : s ∈ l := by
   have : s ∈ l.drop i := by rw [hd]; exact List.mem_cons_self
   exact List.mem_of_mem_drop this
  have hsz := hw s hs
  have e : wrap64 (left - (s.size : Int)) = left - s.size := wrap_id (by omega) (by omega)
  by_cases hn : left - (s.size : Int) < 0
  ·refine ⟨-1, Ev.step (fun k => laws_szStringS.l0.eq_2 ..) (ev_if_pos (by omega) (ev_if_pos (by omega) ?_)), by omega, fun h => by omega⟩
   rw [hx, e]
   exact ev_if_pos hn (ev_some rfl)
  ·obtain ⟨r, hr, hb, hall⟩ := szStringS_loop l hl hw rest (i + 1) (left - s.size) hd' (by omega) (by omega)
   refine ⟨r, Ev.step (fun k => laws_szStringS.l0.eq_2 ..) (ev_if_pos (by omega) (ev_if_pos (by omega) ?_)), hb, fun h t ht => ?_⟩
   ·rw [hx, e, wrap_succ (by omega)]
    exact ev_if_neg hn hr
   ·rcases List.mem_cons.1 ht with rfl | ht
    ·omega
    ·exact hall h t ht
theorem szStringS_ev (l : List ByteArray) (left : Int) (h0 : 0 ≤ left) (h1 : left ≤ 1048576) (hl : l.length ≤ 9223372036854775807) (hw : ∀ s ∈ l, s.size ≤ 9223372036854775807) :
  ∃ r, Ev (fun k => laws_szStringS.f k l left) r ∧ r ≤ 1048576 ∧ (0 ≤ r → l.length ≤ 1048576 ∧ ∀ s ∈ l, s.size ≤ 1048576) := by
 unfold laws_szStringS.f
 have e : wrap64 (left - (l.length : Int)) = left - l.length := wrap_id (by omega) (by omega)
 simp only [e]
 by_cases hn : left - (l.length : Int) < 0
 ·exact ⟨-1, ev_if_pos hn (ev_some rfl), by omega, fun h => by omega⟩
 ·obtain ⟨r, hr, hb, hall⟩ := szStringS_loop l (by omega) hw l 0 (left - l.length) rfl (by omega) (by omega)
  exact ⟨r, ev_if_neg hn hr, hb, fun h => ⟨by omega, hall h⟩⟩
theorem toStringS_loop (l : List ByteArray) (hl : l.length ≤ 1048576) : ∀ (rest pre : List ByteArray) (i : Nat), l.drop i = rest → pre.length = i →
  Ev (fun k => laws_toStringS.l0 k l (pre ++ List.replicate rest.length (⟨#[]⟩ : ByteArray)) i) (pre ++ rest)
 | [], pre, i, hd, hp => by
  have h := drop_nil hd
  exact Ev.step (fun k => laws_toStringS.l0.eq_2 ..) (ev_if_neg (by omega) (ev_some rfl))
 | s :: rest, pre, i, hd, hp => by
  obtain ⟨hi, hd', hx⟩ := drop_cons hd
  refine Ev.step (fun k => laws_toStringS.l0.eq_2 ..) (ev_if_pos (by omega) (ev_if_pos (by omega) (ev_if_pos (by simp; omega) ?_)))
  rw [wrap_succ (by omega), hx, Int.toNat_natCast, List.length_cons, List.replicate_succ]
  subst hp
  rw [set_at]
  have := toStringS_loop l hl rest (pre ++ [s]) (pre.length + 1) hd' (by simp)
  simpa using this
theorem toStringS_ev (l : List ByteArray) (hl : l.length ≤ 1048576) : Ev (fun k => laws_toStringS.f k l) l := by
 unfold laws_toStringS.f
 refine ev_if_pos (by omega) (ev_if_pos (by omega) ?_)
 rw [Int.toNat_natCast]
 exact toStringS_loop l hl l [] 0 rfl rfl
theorem eqStringS_loop (l : List ByteArray) (hl : l.length ≤ 1152921504606846976) : ∀ (rest : List ByteArray) (i : Nat), l.drop i = rest → Ev (fun k => laws_eqStringS.l0 k l l i) true
 | [], i, hd => by
  have h := drop_nil hd
  exact Ev.step (fun k => laws_eqStringS.l0.eq_2 ..) (ev_if_neg (by omega) (ev_some rfl))
 | s :: rest, i, hd => by
  obtain ⟨hi, hd', hx⟩ := drop_cons hd
  refine Ev.step (fun k => laws_eqStringS.l0.eq_2 ..) (ev_if_pos (by omega) (ev_if_pos (by omega) (ev_if_pos (by omega) (ev_if_pos rfl ?_))))
  rw [wrap_succ (by omega)]
  exact eqStringS_loop l hl rest (i + 1) hd'
theorem eqStringS_ev (l : List ByteArray) (hl : l.length ≤ 1152921504606846976) : Ev (fun k => laws_eqStringS.f k l l) true := by
 unfold laws_eqStringS.f
 exact ev_if_pos rfl (eqStringS_loop l hl l 0 rfl)
def mtN : Nat → Int → ByteArray → ByteArray
 | 0, _, acc => (⟨#[109]⟩ : ByteArray) ++ acc
 | f + 1, n, acc => if n > 0 then mtN f (n / 10) (strOfNums [(48 + n % 10) % 256] ++ acc) else (⟨#[109]⟩ : ByteArray) ++ acc
def mtx (n : Int) : ByteArray := if n ≤ 0 then ⟨#[109, 48]⟩ else mtN n.toNat n ⟨#[]⟩
theorem markText_loop : ∀ (f : Nat) (n : Int) (acc : ByteArray), 0 ≤ n → n ≤ f → acc.size + f ≤ 1152921504606846976 → Ev (fun k => laws_markText.l0 k n acc) (mtN f n acc)
 | 0, n, acc, h0, h1, h2 => by
  refine Ev.step (fun k => laws_markText.l0.eq_2 ..) (ev_if_neg (by omega) (ev_if_pos (by omega) (ev_some rfl)))
 | f + 1, n, acc, h0, h1, h2 => by
  refine Ev.step (fun k => laws_markText.l0.eq_2 ..) ?_
  unfold mtN
  by_cases hn : n > 0
  ·refine ev_if_pos hn ?_
   rw [if_pos hn, tmod_nn (by omega), tdiv_nn (by omega), wrap_id (x := 48 + n % 10) (by omega) (by omega), wrap_id (x := n / 10) (by omega) (by omega)]
   simp only [Option.bind_some]
   exact ev_if_pos (by rw [one_size]; omega) (markText_loop f (n / 10) _ (by omega) (by omega) (by rw [size_append, one_size]; omega))
  ·rw [if_neg hn]
   exact ev_if_neg hn (ev_if_pos (by omega) (ev_some rfl))
theorem markText_ev (n : Int) (h1 : n ≤ 576460752303423488) : Ev (fun k => laws_markText.f k n) (mtx n) := by
 unfold laws_markText.f mtx
 by_cases hn : n ≤ 0
 ·rw [if_pos hn]; exact ev_if_pos hn (ev_some rfl)
 ·rw [if_neg hn]; exact ev_if_neg hn (markText_loop n.toNat n ⟨#[]⟩ (by omega) (by omega) (by show 0 + _ ≤ _; omega))
def marksR : Nat → Nat → List ByteArray
 | 0, _ => []
 | d + 1, n => mtx n :: marksR d (n + 1)
theorem marksR_length : ∀ d n, (marksR d n).length = d
 | 0, _ => rfl
 | d + 1, n => by simp [marksR, marksR_length d (n + 1)]
def mkPart (n : Int) : S90 := ⟨n, mtx (n + 1), n + 2, n + 3⟩
def marksPart : Nat → Nat → List (S90)
 | 0, _ => []
 | d + 1, n => mkPart n :: marksPart d (n + 4)
theorem marksPart_length : ∀ d n, (marksPart d n).length = d
 | 0, _ => rfl
 | d + 1, n => by simp [marksPart, marksPart_length d (n + 4)]
theorem rdPart_mid (p : List (S90)) (x : S90) (q : List (S90)) : rd_T90 (p ++ x :: q) (p.length : Int) = x := (mid_at (l := p ++ x :: q) rfl).2 _
theorem wrap_four {n : Nat} (h : n ≤ 1073741824) : (Unit → wrap64 ((n : Int) + 1) = (n : Int) + 1) ∧ (Unit → wrap64 ((n : Int) + 1 + 1) = (n : Int) + 2) ∧ (Unit → wrap64 ((n : Int) + 2 + 1) = (n : Int) + 3) ∧ (Unit → wrap64 ((n : Int) + 3 + 1) = ((n + 4 : Nat) : Int)) :=
 ⟨fun _ => wrap_id (by omega) (by omega), fun _ => by rw [wrap_id (by omega) (by omega)]; omega, fun _ => by rw [wrap_id (by omega) (by omega)]; omega, fun _ => by rw [wrap_id (by omega) (by omega)]; omega⟩
theorem markPartS_loop : ∀ (rest pre : List (S90)) (n : Nat), pre.length + rest.length ≤ 1073741824 → n + 4 * rest.length ≤ 1073741824 →
  Ev (fun k => laws_markPartS.l0 k (pre ++ rest) n pre.length) (((n + 4 * rest.length : Nat) : Int), pre ++ marksPart rest.length n)
 | [], pre, n, h1, h2 => by
  refine Ev.step (fun k => laws_markPartS.l0.eq_2 ..) (ev_if_neg (by rw [List.append_nil]; omega) (ev_some (by simp [marksPart])))
 | s :: rest, pre, n, h1, h2 => by
  rw [List.length_cons] at h1 h2
  obtain ⟨w1, w2, w3, w4⟩ := wrap_four (n := n) (by omega)
  have e0 : (pre.length : Int).toNat = pre.length := Int.toNat_natCast _
  refine Ev.step (fun k => laws_markPartS.l0.eq_2 ..) (ev_if_pos (by rw [List.length_append, List.length_cons]; omega) (ev_if_pos (by omega) ?_))
  simp only [Option.bind_some, e0, set_at, rdPart_mid, w1 (), w2 (), w3 (), w4 ()]
  refine ev_bind (markText_ev ((n : Int) + 1) (by omega)) ?_
  rw [wrap_succ (by omega)]
  have ih := markPartS_loop rest (pre ++ [mkPart n]) (n + 4) (by rw [List.length_append, List.length_singleton]; omega) (by omega)
  rw [List.append_assoc, List.length_append, List.length_singleton] at ih
  refine ev_eq ih ?_
  have e2 : n + 4 + 4 * rest.length = n + 4 * (rest.length + 1) := by omega
  simp only [List.length_cons, marksPart, List.append_assoc, List.singleton_append, e2]
theorem markPartS_ev (l : List (S90)) (n : Nat) (hb : 4 * l.length + n ≤ 1073741824) : Ev (fun k => laws_markPartS.f k l n) (((n + 4 * l.length : Nat) : Int), marksPart l.length n) := by
 unfold laws_markPartS.f
 exact markPartS_loop l [] n (by show 0 + _ ≤ _; omega) (by omega)
theorem markStringS_loop : ∀ (rest pre : List ByteArray) (n i : Nat), pre.length = i → i + rest.length ≤ 1073741824 ∧ n + rest.length ≤ 1073741824 →
  Ev (fun k => laws_markStringS.l0 k (pre ++ rest) n i) (((n + rest.length : Nat) : Int), pre ++ marksR rest.length n)
 | [], pre, n, i, hp, hb => by
  refine Ev.step (fun k => laws_markStringS.l0.eq_2 ..) (ev_if_neg (by rw [List.append_nil]; omega) (ev_some (by simp [marksR])))
 | s :: rest, pre, n, i, hp, hb => by
  simp only [List.length_cons] at hb
  refine Ev.step (fun k => laws_markStringS.l0.eq_2 ..) (ev_if_pos (by rw [List.length_append, List.length_cons]; omega) (ev_bind (markText_ev n (by omega)) (ev_if_pos (by omega) ?_)))
  rw [wrap_succ (by omega), wrap_succ (by omega), Int.toNat_natCast]
  subst hp
  have e : (pre ++ s :: rest).set pre.length (mtx n) = (pre ++ [mtx n]) ++ rest := by
   rw [List.set_append_right _ _ (Nat.le_refl _), Nat.sub_self]; simp
  rw [e]
  refine ev_eq (markStringS_loop rest (pre ++ [mtx n]) (n + 1) (pre.length + 1) (by simp) ⟨by omega, by omega⟩) ?_
  have e2 : n + 1 + rest.length = n + (rest.length + 1) := by omega
  simp only [List.length_cons, marksR, List.append_assoc, List.singleton_append, e2]
theorem markStringS_ev (l : List ByteArray) (n : Nat) (hb : l.length + n ≤ 1073741824) : Ev (fun k => laws_markStringS.f k l n) (((n + l.length : Nat) : Int), marksR l.length n) := by
 unfold laws_markStringS.f
 exact markStringS_loop l [] n 0 rfl ⟨by omega, by omega⟩
theorem rd_rdOf (l : List Int) (i : Int) : rd l i = rdOf 0 l i := rfl
theorem eqIntS_loop (l : List Int) (hl : l.length ≤ 1152921504606846976) : ∀ (rest : List Int) (i : Nat), l.drop i = rest → Ev (fun k => laws_eqIntS.l0 k l l i) true
 | [], i, hd => by
  have h := drop_nil hd
  exact Ev.step (fun k => laws_eqIntS.l0.eq_2 ..) (ev_if_neg (by omega) (ev_some rfl))
 | s :: rest, i, hd => by
  obtain ⟨hi, hd', hx⟩ := drop_cons hd
  refine Ev.step (fun k => laws_eqIntS.l0.eq_2 ..) (ev_if_pos (by omega) (ev_if_pos (by omega) (ev_if_pos (by omega) (ev_if_pos rfl ?_))))
  rw [wrap_succ (by omega)]
  exact eqIntS_loop l hl rest (i + 1) hd'
theorem eqIntS_ev (l : List Int) (hl : l.length ≤ 1152921504606846976) : Ev (fun k => laws_eqIntS.f k l l) true := by
 unfold laws_eqIntS.f
 exact ev_if_pos rfl (eqIntS_loop l hl l 0 rfl)
def marksI : Nat → Nat → List Int
 | 0, _ => []
 | d + 1, n => (n : Int) :: marksI d (n + 1)
theorem marksI_length : ∀ d n, (marksI d n).length = d
 | 0, _ => rfl
 | d + 1, n => by simp [marksI, marksI_length d (n + 1)]
theorem markIntS_loop : ∀ (rest pre : List Int) (n : Nat), pre.length + rest.length ≤ 1073741824 → n + rest.length ≤ 1073741824 →
  Ev (fun k => laws_markIntS.l0 k (pre ++ rest) n pre.length) (((n + rest.length : Nat) : Int), pre ++ marksI rest.length n)
 | [], pre, n, hp, hb => by
  refine Ev.step (fun k => laws_markIntS.l0.eq_2 ..) (ev_if_neg (by rw [List.append_nil]; omega) (ev_some (by simp [marksI])))
 | s :: rest, pre, n, hp, hb => by
  rw [List.length_cons] at hp hb
  refine Ev.step (fun k => laws_markIntS.l0.eq_2 ..) (ev_if_pos (by rw [List.length_append, List.length_cons]; omega) (ev_if_pos (by omega) ?_))
  rw [wrap_succ (by omega), wrap_succ (by omega), Int.toNat_natCast, set_at]
  have ih := markIntS_loop rest (pre ++ [(n : Int)]) (n + 1) (by rw [List.length_append, List.length_singleton]; omega) (by omega)
  rw [List.append_assoc, List.length_append, List.length_singleton] at ih
  refine ev_eq ih ?_
  have e2 : n + 1 + rest.length = n + (rest.length + 1) := by omega
  simp only [List.length_cons, marksI, List.append_assoc, List.singleton_append, e2]
theorem markIntS_ev (l : List Int) (n : Nat) (hb : l.length + n ≤ 1073741824) : Ev (fun k => laws_markIntS.f k l n) (((n + l.length : Nat) : Int), marksI l.length n) := by
 unfold laws_markIntS.f
 exact markIntS_loop l [] n (by show 0 + _ ≤ _; omega) (by omega)
theorem heldIntS_loop (l : List Int) (hl : l.length ≤ 1073741824) : ∀ (d n i : Nat), l.drop i = marksI d n → d + n ≤ 1073741824 → i + d = l.length →
  Ev (fun k => laws_heldIntS.l0 k l n i) ((n + d : Nat) : Int)
 | 0, n, i, hd, hb, hi => by
  exact Ev.step (fun k => laws_heldIntS.l0.eq_2 ..) (ev_if_neg (by omega) (ev_some rfl))
 | d + 1, n, i, hd, hb, hi => by
  obtain ⟨hi', hd', hx⟩ := drop_cons hd
  refine Ev.step (fun k => laws_heldIntS.l0.eq_2 ..) (ev_if_pos (by omega) (ev_if_pos (by omega) ?_))
  rw [rd_rdOf, hx, wrap_succ (by omega), wrap_succ (by omega)]
  refine ev_if_pos rfl (ev_eq (heldIntS_loop l hl d (n + 1) (i + 1) hd' (by omega) (by omega)) ?_)
  congr 1
  omega
theorem heldIntS_ev (d n : Nat) (hb : d + n ≤ 1073741824) : Ev (fun k => laws_heldIntS.f k (marksI d n) n) ((n + d : Nat) : Int) := by
 unfold laws_heldIntS.f
 exact heldIntS_loop (marksI d n) (by rw [marksI_length]; omega) d n 0 rfl hb (by rw [marksI_length]; omega)
def hasB (words : List ByteArray) (s : ByteArray) : Bool := words.any fun x => decide (x = s)
theorem spec_hasText_loop (s : ByteArray) (l : List ByteArray) (hl : l.length ≤ 1048576) : ∀ (rest : List ByteArray) (i : Nat), l.drop i = rest → Ev (fun k => spec_l1HasText.l0 k s l l.length i) (hasB rest s)
 | [], i, hd => by
  have h := drop_nil hd
  exact Ev.step (fun k => spec_l1HasText.l0.eq_2 ..) (ev_if_neg (by omega) (ev_some rfl))
 | x :: rest, i, hd => by
  obtain ⟨hi, hd', hx⟩ := drop_cons hd
  refine Ev.step (fun k => spec_l1HasText.l0.eq_2 ..) (ev_if_pos (by omega) (ev_if_pos (by omega) (ev_if_pos (by omega) ?_)))
  rw [hx, wrap_succ (by omega)]
  by_cases h : x = s
  ·exact ev_if_pos (by rw [h]) (ev_some (by simp [hasB, h]))
  ·exact ev_if_neg (fun e => h (toList_inj.1 e)) (ev_eq (spec_hasText_loop s l hl rest (i + 1) hd') (by simp [hasB, h]))
theorem spec_hasText_ev (s : ByteArray) (l : List ByteArray) (hl : l.length ≤ 1048576) : Ev (fun k => spec_l1HasText.f k l s) (hasB l s) := by
 unfold spec_l1HasText.f
 exact spec_hasText_loop s l hl l 0 rfl
theorem index_loop (s : ByteArray) (l : List ByteArray) (hl : l.length ≤ 1048576) : ∀ (rest : List ByteArray) (i : Nat), l.drop i = rest → ∃ r, Ev (fun k => slices_Index_string_string.l0 k l s l.length i) r ∧ decide (r ≥ 0) = hasB rest s
 | [], i, hd => by
  have h := drop_nil hd
  exact ⟨-1, Ev.step (fun k => slices_Index_string_string.l0.eq_2 ..) (ev_if_neg (by omega) (ev_some rfl)), by simp [hasB]⟩
 | x :: rest, i, hd => by
  obtain ⟨hi, hd', hx⟩ := drop_cons hd
  by_cases h : s = x
  ·refine ⟨i, Ev.step (fun k => slices_Index_string_string.l0.eq_2 ..) (ev_if_pos (by omega) (ev_if_pos (by omega) (ev_if_pos (by omega) ?_))), by simp [hasB, h]⟩
   rw [hx]
   exact ev_if_pos (by rw [h]) (ev_some rfl)
  ·obtain ⟨r, hr, hb⟩ := index_loop s l hl rest (i + 1) hd'
   refine ⟨r, Ev.step (fun k => slices_Index_string_string.l0.eq_2 ..) (ev_if_pos (by omega) (ev_if_pos (by omega) (ev_if_pos (by omega) ?_))), by rw [hb]; unfold hasB; rw [List.any_cons, show decide (x = s) = false from decide_eq_false (fun e => h e.symm), Bool.false_or]⟩
   rw [hx, wrap_succ (by omega)]
   exact ev_if_neg (fun e => h (toList_inj.1 e)) hr
theorem contains_ev (s : ByteArray) (l : List ByteArray) (hl : l.length ≤ 1048576) : Ev (fun k => slices_Contains_string_string.f k l s) (hasB l s) := by
 unfold slices_Contains_string_string.f slices_Index_string_string.f
 obtain ⟨r, hr, hb⟩ := index_loop s l hl l 0 rfl
 exact ev_bind hr (ev_some hb)
def rdB (t : List Bool) (i : Int) : Bool := rdOf false t i
def stepB (words : List ByteArray) (t : List Bool) (p : S90) : Bool :=
 if p.f0 = 1 then hasB words p.f1 else if p.f0 = 2 then rdB t p.f2 && rdB t p.f3 else if p.f0 = 3 then rdB t p.f2 || rdB t p.f3 else !(rdB t p.f2)
def tellB (words : List ByteArray) : List Bool → List (S90) → List Bool
 | t, [] => t
 | t, p :: l => tellB words (t ++ [stepB words t p]) l
theorem tellB_length (words : List ByteArray) : ∀ (l : List (S90)) (t : List Bool), (tellB words t l).length = t.length + l.length
 | [], t => rfl
 | p :: l, t => by
  rw [tellB, tellB_length words l, List.length_append, List.length_singleton, List.length_cons]; omega
theorem partB_case {p : S90} {i : Nat} (h : partB p i = true) : p.f0 = 1 ∨ ((p.f0 = 2 ∨ p.f0 = 3) ∧ 0 ≤ p.f2 ∧ p.f2 < i ∧ 0 ≤ p.f3 ∧ p.f3 < i) ∨ (p.f0 = 4 ∧ 0 ≤ p.f2 ∧ p.f2 < i) := by
 unfold partB at h
 split at h
 ·exact .inl (by assumption)
 ·split at h
  ·rename_i h2
   simp only [inB, Bool.and_eq_true, decide_eq_true_eq] at h
   exact .inr (.inl ⟨h2, h.2.1.1, by omega, h.2.2.1, by omega⟩)
  ·split at h
   ·rename_i h4
    simp only [inB, Bool.and_eq_true, decide_eq_true_eq] at h
    exact .inr (.inr ⟨h4, h.2.1.1, by omega⟩)
   ·cases h
theorem spec_holds_loop (words : List ByteArray) (hw : words.length ≤ 1048576) (l : List (S90)) (hl : l.length ≤ 24) (h0 : 0 < l.length) : ∀ (rest : List (S90)) (t : List Bool) (i : Nat), l.drop i = rest → t.length = i → i ≤ l.length → partsB i rest = true →
  Ev (fun k => spec_l11Holds.l0 k words t l l.length i) (rdB (tellB words t rest) ((l.length : Int) - 1))
 | [], t, i, hd, ht, hle, hb => by
  have h := drop_nil hd
  refine Ev.step (fun k => spec_l11Holds.l0.eq_2 ..) (ev_if_neg (by omega) ?_)
  have e : wrap64 ((t.length : Int) - 1) = (t.length : Int) - 1 := wrap_id (by omega) (by omega)
  rw [e]
  refine ev_if_pos (by omega) (ev_if_pos (by omega) (ev_some ?_))
  have e2 : t.length = l.length := by omega
  rw [e2]; rfl
 | x :: rest, t, i, hd, ht, hle, hb => by
  obtain ⟨hi, hd', hx⟩ := drop_cons hd
  have hx : rd_T90 l i = x := hx _
  unfold partsB at hb
  rw [Bool.and_eq_true] at hb
  have ih := fun b => spec_holds_loop words hw l hl h0 rest (t ++ [b]) (i + 1) hd' (by rw [List.length_append, List.length_singleton]; omega) (by omega) hb.2
  refine Ev.step (fun k => spec_l11Holds.l0.eq_2 ..) (ev_if_pos (by omega) (ev_if_pos (by omega) (ev_if_pos (by omega) ?_)))
  simp only [hx, wrap_succ (show i < 9223372036854775807 by omega)]
  unfold tellB
  have hlt : t.length < 140737488355328 := by omega
  rcases partB_case hb.1 with h1 | ⟨h1, a1, a2, b1, b2⟩ | ⟨h1, a1, a2⟩
  ·have e : stepB words t x = hasB words x.f1 := by unfold stepB; rw [if_pos h1]
   rw [e]
   exact ev_if_pos h1 (ev_bind (spec_hasText_ev x.f1 words hw) (ev_if_pos hlt (ih _)))
  ·rcases h1 with h1 | h1
   ·have e : stepB words t x = (rdB t x.f2 && rdB t x.f3) := by unfold stepB; rw [if_neg (by omega), if_pos h1]
    rw [e]
    refine ev_if_neg (by omega) (ev_if_pos h1 (ev_if_pos a1 (ev_if_pos (by omega) ?_)))
    change Ev (fun k => if rdB t x.f2 = true then _ else _) _
    cases h : rdB t x.f2 with
    | true => exact ev_if_pos rfl (ev_if_pos b1 (ev_if_pos (by omega) (ev_if_pos hlt (ih _))))
    | false => exact ev_if_neg (by simp) (ev_if_pos hlt (ih _))
   ·have e : stepB words t x = (rdB t x.f2 || rdB t x.f3) := by unfold stepB; rw [if_neg (by omega), if_neg (by omega), if_pos h1]
    rw [e]
    refine ev_if_neg (by omega) (ev_if_neg (by omega) (ev_if_pos h1 (ev_if_pos a1 (ev_if_pos (by omega) ?_))))
    change Ev (fun k => if rdB t x.f2 = true then _ else _) _
    cases h : rdB t x.f2 with
    | true => exact ev_if_pos rfl (ev_if_pos hlt (ih _))
    | false => exact ev_if_neg (by simp) (ev_if_pos b1 (ev_if_pos (by omega) (ev_if_pos hlt (ih _))))
  ·have e : stepB words t x = !(rdB t x.f2) := by unfold stepB; rw [if_neg (by omega), if_neg (by omega), if_neg (by omega)]
   rw [e]
   exact ev_if_neg (by omega) (ev_if_neg (by omega) (ev_if_neg (by omega) (ev_if_pos h1 (ev_if_pos a1 (ev_if_pos (by omega) (ev_if_pos hlt (ih _)))))))
theorem rdB_pad (t : List Bool) (d : Nat) (i : Int) (h0 : 0 ≤ i) (h : i < t.length) : rdOf false (t ++ List.replicate d false) i = rdB t i := by
 unfold rdB rdOf
 rw [List.getD_eq_getElem?_getD, List.getD_eq_getElem?_getD, List.getElem?_append_left (by omega)]
theorem impl_holds_loop (words : List ByteArray) (hw : words.length ≤ 1048576) (l : List (S90)) (hl : l.length ≤ 24) (h0 : 0 < l.length) : ∀ (rest : List (S90)) (t : List Bool) (i : Nat), l.drop i = rest → t.length = i → i ≤ l.length → partsB i rest = true →
  Ev (fun k => impl_holds.l0 k l words (t ++ List.replicate rest.length false) l l.length i) (rdB (tellB words t rest) ((l.length : Int) - 1))
 | [], t, i, hd, ht, hle, hb => by
  have h := drop_nil hd
  refine Ev.step (fun k => impl_holds.l0.eq_2 ..) (ev_if_neg (by omega) ?_)
  have e : wrap64 ((l.length : Int) - 1) = (l.length : Int) - 1 := wrap_id (by omega) (by omega)
  rw [e, List.length_nil, List.replicate_zero, List.append_nil]
  exact ev_if_pos (by omega) (ev_if_pos (by omega) (ev_some rfl))
 | x :: rest, t, i, hd, ht, hle, hb => by
  obtain ⟨hi, hd', hx⟩ := drop_cons hd
  have hx : rd_T90 l i = x := hx _
  unfold partsB at hb
  rw [Bool.and_eq_true] at hb
  have ih : ∀ b, Ev (fun k => impl_holds.l0 k l words ((t ++ List.replicate (x :: rest).length false).set ((i : Nat) : Int).toNat b) l l.length ((i + 1 : Nat) : Int)) (rdB (tellB words (t ++ [b]) rest) ((l.length : Int) - 1)) := by
   intro b
   have := impl_holds_loop words hw l hl h0 rest (t ++ [b]) (i + 1) hd' (by rw [List.length_append, List.length_singleton]; omega) (by omega) hb.2
   rw [Int.toNat_natCast, List.length_cons, List.replicate_succ, ← ht, set_at]
   rw [List.append_assoc, List.singleton_append] at this
   rw [ht]; exact this
  refine Ev.step (fun k => impl_holds.l0.eq_2 ..) (ev_if_pos (by omega) (ev_if_pos (by omega) (ev_if_pos (by omega) ?_)))
  simp only [hx, wrap_succ (show i < 9223372036854775807 by omega)]
  unfold tellB
  have hlen : ((t ++ List.replicate (x :: rest).length false).length : Int) = t.length + rest.length + 1 := by rw [List.length_append, List.length_replicate, List.length_cons]; omega
  have hlt : (i : Int) < ((t ++ List.replicate (x :: rest).length false).length : Int) := by rw [hlen]; omega
  rcases partB_case hb.1 with h1 | ⟨h1, a1, a2, b1, b2⟩ | ⟨h1, a1, a2⟩
  ·have e : stepB words t x = hasB words x.f1 := by unfold stepB; rw [if_pos h1]
   rw [e]
   exact ev_if_pos h1 (ev_bind (contains_ev x.f1 words hw) (ev_if_pos hlt (ih _)))
  ·have ra := rdB_pad t (x :: rest).length x.f2 a1 (by omega)
   have rb := rdB_pad t (x :: rest).length x.f3 b1 (by omega)
   rw [ra, rb]
   rcases h1 with h1 | h1
   ·have e : stepB words t x = (rdB t x.f2 && rdB t x.f3) := by unfold stepB; rw [if_neg (by omega), if_pos h1]
    rw [e]
    refine ev_if_neg (by omega) (ev_if_pos h1 (ev_if_pos a1 (ev_if_pos (by rw [hlen]; omega) ?_)))
    cases h : rdB t x.f2 with
    | true => exact ev_if_pos rfl (ev_if_pos b1 (ev_if_pos (by rw [hlen]; omega) (ev_if_pos hlt (ih _))))
    | false => exact ev_if_neg (by simp) (ev_if_pos hlt (ih _))
   ·have e : stepB words t x = (rdB t x.f2 || rdB t x.f3) := by unfold stepB; rw [if_neg (by omega), if_neg (by omega), if_pos h1]
    rw [e]
    refine ev_if_neg (by omega) (ev_if_neg (by omega) (ev_if_pos h1 (ev_if_pos a1 (ev_if_pos (by rw [hlen]; omega) ?_))))
    cases h : rdB t x.f2 with
    | true => exact ev_if_pos rfl (ev_if_pos hlt (ih _))
    | false => exact ev_if_neg (by simp) (ev_if_pos b1 (ev_if_pos (by rw [hlen]; omega) (ev_if_pos hlt (ih _))))
  ·have ra := rdB_pad t (x :: rest).length x.f2 a1 (by omega)
   have e : stepB words t x = !(rdB t x.f2) := by unfold stepB; rw [if_neg (by omega), if_neg (by omega), if_neg (by omega)]
   rw [e, ra]
   exact ev_if_neg (by omega) (ev_if_neg (by omega) (ev_if_neg (by omega) (ev_if_pos a1 (ev_if_pos (by rw [hlen]; omega) (ev_if_pos hlt (ih _))))))
def holdsB (q : List (S90)) (words : List ByteArray) : Bool := rdB (tellB words [] q) ((q.length : Int) - 1)
theorem goodQ_parts {q : List (S90)} (h : goodQ q = true) : partsB 0 q = true ∧ 0 < q.length ∧ q.length ≤ 24 := by
 unfold goodQ inB at h
 simp only [Bool.and_eq_true, decide_eq_true_eq] at h
 exact ⟨h.1, by omega, by omega⟩
theorem spec_holds_ev (q : List (S90)) (words : List ByteArray) (hw : words.length ≤ 1048576) (hg : goodQ q = true) : Ev (fun k => spec_l11Holds.f k q words) (holdsB q words) := by
 obtain ⟨h1, h2, h3⟩ := goodQ_parts hg
 unfold spec_l11Holds.f
 exact spec_holds_loop words hw q h3 h2 q [] 0 rfl rfl (Nat.zero_le _) h1
theorem impl_holds_ev (q : List (S90)) (words : List ByteArray) (hw : words.length ≤ 1048576) (hg : goodQ q = true) : Ev (fun k => impl_holds.f k q words) (holdsB q words) := by
 obtain ⟨h1, h2, h3⟩ := goodQ_parts hg
 unfold impl_holds.f
 refine ev_if_pos (by omega) (ev_if_pos (by omega) ?_)
 rw [Int.toNat_natCast]
 exact impl_holds_loop words hw q h3 h2 q [] 0 rfl rfl (Nat.zero_le _) h1
def low (c : Int) : Int := if 97 ≤ c ∧ c ≤ 122 then c else if 65 ≤ c ∧ c ≤ 90 then c + 32 else 0
theorem low_range (c : Int) : low c = 0 ∨ (97 ≤ low c ∧ low c ≤ 122) := by
 unfold low
 split
 ·omega
 ·split
  ·omega
  ·exact .inl rfl
theorem spec_l9Letter_ev (c : Int) (h0 : 0 ≤ c) (h1 : c < 256) : Ev (fun k => spec_l9Letter.f k c) (low c) := by
 unfold spec_l9Letter.f
 by_cases h : c ≥ 97
 ·refine ev_if_pos h (Ev.step (fun k => spec_l9Letter.j0.eq_2 ..) ?_)
  by_cases h2 : c ≤ 122
  ·exact ev_if_pos (decide_eq_true h2) (ev_some (by unfold low; rw [if_pos ⟨h, h2⟩]))
  ·refine ev_if_neg (by simp [h2]) (ev_if_pos (by omega) (ev_if_neg (by omega) (ev_some ?_)))
   unfold low
   rw [if_neg (by omega), if_neg (by omega)]
 ·refine ev_if_neg h (Ev.step (fun k => spec_l9Letter.j0.eq_2 ..) (ev_if_neg (by simp) ?_))
  by_cases h2 : c ≥ 65
  ·by_cases h3 : c ≤ 90
   ·refine ev_if_pos h2 (ev_if_pos h3 (ev_some ?_))
    unfold low
    rw [if_neg (by omega), if_pos (by omega)]
    omega
   ·refine ev_if_pos h2 (ev_if_neg h3 (ev_some ?_))
    unfold low
    rw [if_neg (by omega), if_neg (by omega)]
  ·refine ev_if_neg h2 (ev_some ?_)
   unfold low
   rw [if_neg (by omega), if_neg (by omega)]
def flush (acc : List ByteArray) (w : ByteArray) : List ByteArray := if w.size = 0 then acc else acc ++ [w]
def wz (s : ByteArray) : Nat → Nat → List ByteArray → ByteArray → List ByteArray
 | 0, _, acc, w => flush acc w
 | d + 1, i, acc, w => if low (bt s i) = 0 then wz s d (i + 1) (flush acc w) ⟨#[]⟩ else wz s d (i + 1) acc (w ++ strOfNums [low (bt s i)])
def wordsZ (s : ByteArray) : List ByteArray := wz s s.size 0 [] ⟨#[]⟩
theorem flush_length (acc : List ByteArray) (w : ByteArray) : (flush acc w).length ≤ acc.length + 1 := by
 unfold flush
 split
 ·omega
 ·rw [List.length_append, List.length_singleton]; omega
theorem wz_length (s : ByteArray) : ∀ (d i : Nat) (acc : List ByteArray) (w : ByteArray), (wz s d i acc w).length ≤ acc.length + d + 1
 | 0, i, acc, w => flush_length acc w
 | d + 1, i, acc, w => by
  unfold wz
  split
  ·have := wz_length s d (i + 1) (flush acc w) ⟨#[]⟩
   have := flush_length acc w
   omega
  ·have := wz_length s d (i + 1) acc (w ++ strOfNums [low (bt s i)])
   omega
theorem empty_of_size {w : ByteArray} (h : w.size = 0) : w = ⟨#[]⟩ := toList_inj.1 (((toList_nil w).2 h).trans ((toList_nil ⟨#[]⟩).2 rfl).symm)
theorem spec_words_loop (s : ByteArray) (hs : s.size ≤ 1048576) : ∀ (d i : Nat) (acc : List ByteArray) (w : ByteArray), i + d = s.size → acc.length ≤ i → w.size ≤ i → Ev (fun k => spec_l9Words.l0 k s acc w i) (wz s d i acc w)
 | 0, i, acc, w, hi, ha, hw => by
  refine Ev.step (fun k => spec_l9Words.l0.eq_2 ..) (ev_if_neg (by omega) ?_)
  unfold wz flush
  by_cases h : w.size = 0
  ·rw [if_pos h]
   exact ev_if_pos ((toList_nil w).2 h) (ev_some rfl)
  ·rw [if_neg h]
   exact ev_if_neg (fun e => h ((toList_nil w).1 e)) (ev_if_pos (by omega) (ev_some rfl))
 | d + 1, i, acc, w, hi, ha, hw => by
  have hb := bt_range s i
  refine Ev.step (fun k => spec_l9Words.l0.eq_2 ..) (ev_if_pos (by omega) (ev_if_pos (by omega) (ev_bind (spec_l9Letter_ev _ (by omega) (by omega)) ?_)))
  rw [wrap_succ (by omega)]
  unfold wz
  by_cases h0 : low (bt s i) = 0
  ·rw [if_pos h0]
   refine ev_if_pos h0 ?_
   unfold flush
   by_cases h : w.size = 0
   ·rw [if_pos h]
    exact ev_if_pos ((toList_nil w).2 h) (spec_words_loop s hs d (i + 1) acc ⟨#[]⟩ (by omega) (by omega) (by show 0 ≤ _; omega))
   ·rw [if_neg h]
    exact ev_if_neg (fun e => h ((toList_nil w).1 e)) (ev_if_pos (by omega) (spec_words_loop s hs d (i + 1) (acc ++ [w]) ⟨#[]⟩ (by omega) (by rw [List.length_append, List.length_singleton]; omega) (by show 0 ≤ _; omega)))
  ·rw [if_neg h0]
   refine ev_if_neg h0 ?_
   simp only [Option.bind_some]
   exact ev_if_pos (by rw [one_size]; omega) (spec_words_loop s hs d (i + 1) acc (w ++ strOfNums [low (bt s i)]) (by omega) (by omega) (by rw [size_append, one_size]; omega))
theorem spec_l9Words_ev (s : ByteArray) (hs : s.size ≤ 1048576) : Ev (fun k => spec_l9Words.f k s) (wordsZ s) := by
 unfold spec_l9Words.f
 exact spec_words_loop s hs s.size 0 [] ⟨#[]⟩ (by omega) (Nat.le_refl _) (Nat.le_refl _)
theorem impl_words_j3 (s : ByteArray) (acc : List ByteArray) (w : ByteArray) (n i : Nat) (c : Int) (R : List ByteArray) (hi : i ≤ 1048576) (ha : acc.length ≤ i) (hw : w.size ≤ i) (hc : 0 ≤ c ∧ c < 256) (hb : low c = if 97 ≤ c ∧ c ≤ 122 then c else 0)
  (h : Ev (fun k => if low c = 0 then impl_words.l0 k s (flush acc w) ⟨#[]⟩ n ((i + 1 : Nat) : Int) else impl_words.l0 k s acc (w ++ strOfNums [low c]) n ((i + 1 : Nat) : Int)) R) : Ev (fun k => impl_words.j3 k s acc w c n i) R := by
 refine Ev.step (fun k => impl_words.j3.eq_2 ..) ?_
 unfold impl_isLetter.f
 rw [wrap_succ (by omega)]
 by_cases h1 : 97 ≤ c ∧ c ≤ 122
 ·rw [if_pos h1] at hb
  rw [hb] at h
  simp only [if_pos (show c ≥ 97 from h1.1), Option.bind_some]
  refine ev_if_pos (decide_eq_true h1.2) (ev_if_pos (by rw [one_size]; omega) ?_)
  simpa only [if_neg (show ¬ c = 0 by omega)] using h
 ·rw [if_neg h1] at hb
  rw [hb] at h
  simp only [if_true] at h
  have hn : (if c ≥ 97 then some (decide (c ≤ 122)) else some false) = some false := by
   by_cases h2 : c ≥ 97
   ·rw [if_pos h2]
    exact congrArg some (decide_eq_false (fun h3 => h1 ⟨h2, h3⟩))
   ·rw [if_neg h2]
  rw [hn]
  simp only [Option.bind_some]
  refine ev_if_neg (by simp) ?_
  unfold flush at h
  by_cases h3 : w.size = 0
  ·rw [if_pos h3] at h
   refine ev_if_pos ((toList_nil w).2 h3) ?_
   rw [empty_of_size h3]
   exact h
  ·rw [if_neg h3] at h
   exact ev_if_neg (fun e => h3 ((toList_nil w).1 e)) (ev_if_pos (by omega) h)
theorem impl_words_j1 (s : ByteArray) (acc : List ByteArray) (w : ByteArray) (n i : Nat) (c : Int) (R : List ByteArray) (hi : i ≤ 1048576) (ha : acc.length ≤ i) (hw : w.size ≤ i) (hc : 0 ≤ c ∧ c < 256)
  (h : Ev (fun k => if low c = 0 then impl_words.l0 k s (flush acc w) ⟨#[]⟩ n ((i + 1 : Nat) : Int) else impl_words.l0 k s acc (w ++ strOfNums [low c]) n ((i + 1 : Nat) : Int)) R) : Ev (fun k => impl_words.j1 k s acc w c n i) R := by
 refine Ev.step (fun k => impl_words.j1.eq_2 ..) ?_
 by_cases h1 : 65 ≤ c ∧ c ≤ 90
 ·refine ev_if_pos h1.1 (Ev.step (fun k => impl_words.j2.eq_2 ..) (ev_if_pos (decide_eq_true h1.2) ?_))
  have e : (c + 32) % 256 = c + 32 := by omega
  rw [e]
  have e2 : low c = low (c + 32) := by
   unfold low
   rw [if_neg (by omega), if_pos h1, if_pos (by omega)]
  rw [e2] at h
  refine impl_words_j3 s acc w n i (c + 32) R hi ha hw (by omega) ?_ h
  unfold low
  rw [if_pos (by omega), if_pos (by omega)]
 ·have hl : low c = if 97 ≤ c ∧ c ≤ 122 then c else 0 := by
   unfold low
   rw [if_neg h1]
  have key := impl_words_j3 s acc w n i c R hi ha hw hc hl h
  by_cases h2 : c ≥ 65
  ·exact ev_if_pos h2 (Ev.step (fun k => impl_words.j2.eq_2 ..) (ev_if_neg (by simp; omega) key))
  ·exact ev_if_neg h2 (Ev.step (fun k => impl_words.j2.eq_2 ..) (ev_if_neg (by simp) key))
theorem impl_words_loop (s : ByteArray) (hs : s.size ≤ 1048575) : ∀ (d i : Nat) (acc : List ByteArray) (w : ByteArray), i + d = s.size → acc.length ≤ i → w.size ≤ i → Ev (fun k => impl_words.l0 k s acc w ((s.size + 1 : Nat) : Int) i) (wz s d i acc w)
 | 0, i, acc, w, hi, ha, hw => by
  refine Ev.step (fun k => impl_words.l0.eq_2 ..) (ev_if_pos (by omega) (ev_if_neg (by omega) ?_))
  refine impl_words_j1 s acc w (s.size + 1) i 0 _ (by omega) ha hw (by omega) ?_
  exact ev_if_pos rfl (Ev.step (fun k => impl_words.l0.eq_2 ..) (ev_if_neg (by omega) (ev_some rfl)))
 | d + 1, i, acc, w, hi, ha, hw => by
  have hb := bt_range s i
  refine Ev.step (fun k => impl_words.l0.eq_2 ..) (ev_if_pos (by omega) (ev_if_pos (by omega) (ev_if_pos (by omega) ?_)))
  refine impl_words_j1 s acc w (s.size + 1) i (bt s i) _ (by omega) ha hw (by omega) ?_
  have hf := flush_length acc w
  unfold wz
  exact ev_ite (fun _ => impl_words_loop s hs d (i + 1) (flush acc w) ⟨#[]⟩ (by omega) (by omega) (by show 0 ≤ _; omega)) (fun _ => impl_words_loop s hs d (i + 1) acc _ (by omega) (by omega) (by rw [size_append, one_size]; omega))
theorem impl_words_ev (s : ByteArray) (hs : s.size ≤ 1048575) : Ev (fun k => impl_words.f k s) (wordsZ s) := by
 unfold impl_words.f
 rw [wrap_succ (by omega)]
 exact impl_words_loop s hs s.size 0 [] ⟨#[]⟩ (by omega) (Nat.le_refl _) (Nat.le_refl _)
def docB (s : ByteArray) : Bool := decide ((s.size : Int) ≤ 120) && decide (((wordsZ s).length : Int) ≤ 20)
def docsB (l : List ByteArray) : Bool := decide ((l.length : Int) ≤ 12) && l.all docB
theorem spec_l9Docs_loop (l : List ByteArray) (hl : l.length ≤ 1048576) (hw : ∀ s ∈ l, s.size ≤ 1048576) : ∀ (rest : List ByteArray) (i : Nat), l.drop i = rest → Ev (fun k => spec_l9Docs.l0 k l l l.length i) (rest.all docB && decide ((l.length : Int) ≤ 12))
 | [], i, hd => by
  have h := drop_nil hd
  exact Ev.step (fun k => spec_l9Docs.l0.eq_2 ..) (ev_if_neg (by omega) (ev_some (by simp)))
 | s :: rest, i, hd => by
  obtain ⟨hi, hd', hx⟩ := drop_cons hd
  have hs : s ∈ l := List.mem_of_mem_drop (by rw [hd]; exact List.mem_cons_self)
  refine Ev.step (fun k => spec_l9Docs.l0.eq_2 ..) (ev_if_pos (by omega) (ev_if_pos (by omega) (ev_if_pos (by omega) ?_)))
  rw [hx, wrap_succ (by omega), List.all_cons]
  by_cases h1 : (s.size : Int) > 120
  ·exact ev_if_pos h1 (ev_some (by simp [docB]; omega))
  ·refine ev_if_neg h1 (ev_bind (spec_l9Words_ev s (hw s hs)) ?_)
   by_cases h2 : ((wordsZ s).length : Int) > 20
   ·exact ev_if_pos h2 (ev_some (by simp [docB]; omega))
   ·refine ev_if_neg h2 (ev_eq (spec_l9Docs_loop l hl hw rest (i + 1) hd') ?_)
    have : docB s = true := by simp only [docB, Bool.and_eq_true, decide_eq_true_eq]; omega
    rw [this]; simp
theorem spec_l9Docs_ev (l : List ByteArray) (hl : l.length ≤ 1048576) (hw : ∀ s ∈ l, s.size ≤ 1048576) : Ev (fun k => spec_l9Docs.f k l) (docsB l) := by
 unfold spec_l9Docs.f docsB
 exact ev_eq (spec_l9Docs_loop l hl hw l 0 rfl) (Bool.and_comm _ _)
theorem impl_areDocs_1_ev (s : ByteArray) : Ev (fun k => impl_areDocs_1.f k s) (!docB s) := by
 unfold impl_areDocs_1.f impl_WordsOf.f docB
 by_cases h1 : (s.size : Int) > 120
 ·refine ev_bind (ev_if_pos h1 (ev_some rfl)) (ev_some ?_)
  simp; omega
 ·by_cases h2 : ((wordsZ s).length : Int) > 20
  ·refine ev_bind (ev_if_neg h1 (ev_bind (impl_words_ev s (by omega)) (ev_if_pos h2 (ev_some rfl)))) (ev_some ?_)
   simp; omega
  ·refine ev_bind (ev_if_neg h1 (ev_bind (impl_words_ev s (by omega)) (ev_if_neg h2 (ev_some rfl)))) (ev_some ?_)
   simp; omega
theorem cfAreDocs_loop (l : List (ByteArray)) (hl : l.length ≤ 1152921504606846976) (P : (ByteArray) → Bool) (hP : ∀ x ∈ l, Ev (fun k => impl_areDocs_1.f k x) (P x)) : ∀ (rest : List (ByteArray)) (i : Nat), l.drop i = rest →
  ∃ r : Int, Ev (fun k => slices_IndexFunc_string__impl_areDocs_1.l0 k l l.length i) r ∧ decide (r ≥ 0) = rest.any P
 | [], i, hd => by
  have h := drop_nil hd
  exact ⟨-1, Ev.step (fun k => slices_IndexFunc_string__impl_areDocs_1.l0.eq_2 ..) (ev_if_neg (by omega) (ev_some rfl)), rfl⟩
 | s :: rest, i, hd => by
  obtain ⟨hi, hd', hx⟩ := drop_cons hd
  have hx : rdOf ByteArray.empty l i = s := hx _
  have hs : s ∈ l := List.mem_of_mem_drop (by rw [hd]; exact List.mem_cons_self)
  cases hb : P s with
  | true =>
   refine ⟨i, Ev.step (fun k => slices_IndexFunc_string__impl_areDocs_1.l0.eq_2 ..) (ev_if_pos (by omega) (ev_if_pos (by omega) (ev_if_pos (by omega) ?_))), by simp [hb]⟩
   rw [hx]
   refine ev_bind (hP s hs) ?_
   exact ev_true hb (ev_some rfl)
  | false =>
   obtain ⟨r, hr, he⟩ := cfAreDocs_loop l hl P hP rest (i + 1) hd'
   refine ⟨r, Ev.step (fun k => slices_IndexFunc_string__impl_areDocs_1.l0.eq_2 ..) (ev_if_pos (by omega) (ev_if_pos (by omega) (ev_if_pos (by omega) ?_))), by simp [hb, he]⟩
   rw [hx]
   refine ev_bind (hP s hs) ?_
   rw [wrap_succ (by omega)]
   exact ev_false hb hr
theorem cfAreDocs_ev (l : List (ByteArray)) (hl : l.length ≤ 1152921504606846976) (P : (ByteArray) → Bool) (hP : ∀ x ∈ l, Ev (fun k => impl_areDocs_1.f k x) (P x)) : Ev (fun k => slices_ContainsFunc_string__impl_areDocs_1.f k l) (l.any P) := by
 unfold slices_ContainsFunc_string__impl_areDocs_1.f slices_IndexFunc_string__impl_areDocs_1.f
 obtain ⟨r, hr, he⟩ := cfAreDocs_loop l hl P hP l 0 rfl
 exact ev_bind hr (ev_some he)
theorem impl_areDocs_ev (l : List ByteArray) : Ev (fun k => impl_areDocs.f k l) (docsB l) := by
 unfold impl_areDocs.f docsB
 by_cases h : (l.length : Int) ≤ 12
 ·refine ev_if_pos h (ev_bind (cfAreDocs_ev l (by omega) (fun s => !docB s) (fun s _ => impl_areDocs_1_ev s)) (ev_some ?_))
  rw [decide_eq_true h, Bool.true_and, List.not_any_eq_all_not]
  congr 1
  funext s
  simp
 ·exact ev_if_neg h (ev_some (by simp [h]))
def docsR (q : List (S90)) : Nat → List Int → List ByteArray → List Int
 | _, acc, [] => acc
 | i, acc, s :: rest => docsR q (i + 1) (if holdsB q (wordsZ s) = true then acc ++ [(i : Int)] else acc) rest
theorem docsR_length (q : List (S90)) : ∀ (rest : List ByteArray) (i : Nat) (acc : List Int), (docsR q i acc rest).length ≤ acc.length + rest.length
 | [], _, acc => Nat.le_refl _
 | s :: rest, i, acc => by
  refine Nat.le_trans (docsR_length q rest (i + 1) _) ?_
  split
  ·rw [List.length_append, List.length_singleton, List.length_cons]; omega
  ·rw [List.length_cons]; omega
theorem wordsZ_length (s : ByteArray) (hs : s.size ≤ 120) : (wordsZ s).length ≤ 1048576 := by
 have := wz_length s s.size 0 [] ⟨#[]⟩
 unfold wordsZ
 simp only [List.length_nil] at this
 omega
theorem spec_docs_loop (q : List (S90)) (hq : goodQ q = true) (l : List ByteArray) (hl : l.length ≤ 1048576) (hw : ∀ s ∈ l, s.size ≤ 120) : ∀ (rest : List ByteArray) (i : Nat) (acc : List Int), l.drop i = rest → acc.length ≤ i →
  Ev (fun k => spec_DocsFor.l0 k q acc l l.length i) (docsR q i acc rest, true)
 | [], i, acc, hd, ha => by
  have h := drop_nil hd
  exact Ev.step (fun k => spec_DocsFor.l0.eq_2 ..) (ev_if_neg (by omega) (ev_some rfl))
 | s :: rest, i, acc, hd, ha => by
  obtain ⟨hi, hd', hx⟩ := drop_cons hd
  have hs : s ∈ l := List.mem_of_mem_drop (by rw [hd]; exact List.mem_cons_self)
  have h120 := hw s hs
  refine Ev.step (fun k => spec_DocsFor.l0.eq_2 ..) (ev_if_pos (by omega) (ev_if_pos (by omega) (ev_if_pos (by omega) ?_)))
  rw [hx, wrap_succ (by omega)]
  refine ev_bind (spec_l9Words_ev s (by omega)) (ev_bind (spec_holds_ev q (wordsZ s) (wordsZ_length s h120) hq) ?_)
  unfold docsR
  cases hb : holdsB q (wordsZ s) with
  | true => exact ev_if_pos rfl (ev_if_pos (by omega) (spec_docs_loop q hq l hl hw rest (i + 1) _ hd' (by rw [List.length_append, List.length_singleton]; omega)))
  | false => exact ev_if_neg (by simp) (spec_docs_loop q hq l hl hw rest (i + 1) _ hd' (by omega))
theorem impl_docs_loop (q : List (S90)) (hq : goodQ q = true) (l : List ByteArray) (hl : l.length ≤ 1048576) (hw : ∀ s ∈ l, s.size ≤ 120) : ∀ (rest : List ByteArray) (i : Nat) (acc : List Int), l.drop i = rest → acc.length ≤ i →
  Ev (fun k => impl_DocsFor.l0 k q acc l l.length i) (docsR q i acc rest, true)
 | [], i, acc, hd, ha => by
  have h := drop_nil hd
  exact Ev.step (fun k => impl_DocsFor.l0.eq_2 ..) (ev_if_neg (by omega) (ev_some rfl))
 | s :: rest, i, acc, hd, ha => by
  obtain ⟨hi, hd', hx⟩ := drop_cons hd
  have hs : s ∈ l := List.mem_of_mem_drop (by rw [hd]; exact List.mem_cons_self)
  have h120 := hw s hs
  refine Ev.step (fun k => impl_DocsFor.l0.eq_2 ..) (ev_if_pos (by omega) (ev_if_pos (by omega) (ev_if_pos (by omega) ?_)))
  rw [hx, wrap_succ (by omega)]
  refine ev_bind (impl_words_ev s (by omega)) (ev_bind (impl_holds_ev q (wordsZ s) (wordsZ_length s h120) hq) ?_)
  unfold docsR
  cases hb : holdsB q (wordsZ s) with
  | true => exact ev_if_pos rfl (ev_if_pos (by omega) (impl_docs_loop q hq l hl hw rest (i + 1) _ hd' (by rw [List.length_append, List.length_singleton]; omega)))
  | false => exact ev_if_neg (by simp) (impl_docs_loop q hq l hl hw rest (i + 1) _ hd' (by omega))
def docsL (l : List ByteArray) (q : List (S90)) : List Int × Bool := if (docsB l && goodQ q) = true then (docsR q 0 [] l, true) else ([], false)
theorem docsB_size {l : List ByteArray} (h : docsB l = true) : ∀ s ∈ l, s.size ≤ 120 := by
 unfold docsB at h
 rw [Bool.and_eq_true, List.all_eq_true] at h
 intro s hs
 have := h.2 s hs
 simp only [docB, Bool.and_eq_true, decide_eq_true_eq] at this
 omega
theorem docsL_length (l : List ByteArray) (q : List (S90)) (hl : l.length ≤ 1048576) : (docsL l q).1.length ≤ 1048576 := by
 unfold docsL
 split
 ·have := docsR_length q l 0 []
  simp only [List.length_nil] at this
  show (docsR q 0 [] l).length ≤ _
  omega
 ·exact Nat.zero_le _
theorem spec_DocsFor_ev (l : List ByteArray) (q : List (S90)) (hl : l.length ≤ 1048576) (hs : ∀ s ∈ l, s.size ≤ 1048576) (hq : q.length ≤ 1048576) (hw : ∀ p ∈ q, p.f1.size ≤ 1048576) : Ev (fun k => spec_DocsFor.f k l q) (docsL l q) := by
 unfold spec_DocsFor.f docsL
 refine ev_bind (spec_l9Docs_ev l hl hs) ?_
 cases h1 : docsB l with
 | false => exact ev_if_neg (by simp) (Ev.step (fun k => spec_DocsFor.j0.eq_2 ..) (ev_if_pos rfl (ev_some (by simp))))
 | true =>
  refine ev_if_pos rfl (ev_bind (spec_GoodQuery_ev q hq hw) ?_)
  cases h2 : goodQ q with
  | false => exact Ev.step (fun k => spec_DocsFor.j0.eq_2 ..) (ev_if_pos rfl (ev_some (by simp)))
  | true => exact Ev.step (fun k => spec_DocsFor.j0.eq_2 ..) (ev_if_neg (by simp) (spec_docs_loop q h2 l hl (docsB_size h1) l 0 [] rfl (Nat.le_refl _)))
theorem impl_DocsFor_ev (l : List ByteArray) (q : List (S90)) (hl : l.length ≤ 1048576) (hq : q.length ≤ 1048576) (hw : ∀ p ∈ q, p.f1.size ≤ 1048576) : Ev (fun k => impl_DocsFor.f k l q) (docsL l q) := by
 unfold impl_DocsFor.f docsL
 refine ev_bind (impl_areDocs_ev l) ?_
 cases h1 : docsB l with
 | false => exact ev_if_neg (by simp) (Ev.step (fun k => impl_DocsFor.j0.eq_2 ..) (ev_if_pos rfl (ev_some (by simp))))
 | true =>
  refine ev_if_pos rfl (ev_bind (impl_GoodQuery_ev q hq hw) ?_)
  cases h2 : goodQ q with
  | false => exact Ev.step (fun k => impl_DocsFor.j0.eq_2 ..) (ev_if_pos rfl (ev_some (by simp)))
  | true => exact Ev.step (fun k => impl_DocsFor.j0.eq_2 ..) (ev_if_neg (by simp) (impl_docs_loop q h2 l hl (docsB_size h1) l 0 [] rfl (Nat.le_refl _)))
theorem FnExactDocsFor : laws_FnExactDocsFor.Pure := by
 intro m l hm hw
 refine Ev.rounds (g := fun k => laws_FnExactDocsFor.f k m l) ?_
 unfold laws_FnExactDocsFor.f
 obtain ⟨r2, hr2, hb2, hall2⟩ := szStringS_ev m 1048576 (by omega) (by omega) hm.1 hm.2
 refine ev_bind hr2 ?_
 by_cases hn2 : r2 < 0
 ·exact ev_if_pos hn2 (ev_some rfl)
 obtain ⟨m1, m2⟩ := hall2 (by omega)
 refine ev_if_neg hn2 ?_
 obtain ⟨r, hr, _, hall⟩ := szPartS_ev l r2 (by omega) hb2 hw.1 (fun x hx => (hw.2 x hx).2.1)
 refine ev_bind hr ?_
 by_cases hn : r < 0
 ·exact ev_if_pos hn (ev_some rfl)
 obtain ⟨h1, h2⟩ := hall (by omega)
 refine ev_if_neg hn ?_
 have hto := toPartS_ev l h1
 have hts := toStringS_ev m m1
 have h1' : (l.map toPart).length ≤ 1048576 := by simpa using h1
 have h2' : ∀ x ∈ l.map toPart, x.f1.size ≤ 1048576 := by
  intro x hx
  obtain ⟨y, hy, rfl⟩ := List.mem_map.1 hx
  exact h2 y hy
 revert hto h1' h2'
 generalize l.map toPart = L
 intro hto hL hS
 have k1 := spec_DocsFor_ev m L m1 m2 hL hS
 have k2 := impl_DocsFor_ev m L m1 hL hS
 have hR := docsL_length m L m1
 revert k1 k2 hR
 generalize docsL m L = R
 intro k1 k2 hR
 obtain ⟨X, ok⟩ := R
 have hR : X.length ≤ 1048576 := hR
 have eX := eqIntS_ev X (by omega)
 have eL := eqPartS_ev L (by omega)
 have em := eqStringS_ev m (by omega)
 have mm := markStringS_ev m 1 (by omega)
 have mL := markPartS_ev L (1 + m.length) (by omega)
 have mX := markIntS_ev X 1 (by omega)
 have hX := heldIntS_ev X.length 1 (by omega)
 refine ev_bind hts (ev_bind hto (ev_bind k1 (ev_bind hts (ev_bind hto (ev_bind k2 (ev_bind eX (ev_if_pos rfl ?_)))))))
 simp only [bne_self_eq_false]
 refine Ev.step (fun k => laws_FnExactDocsFor.j0.eq_2 ..) (ev_if_neg (by simp) (ev_bind hts (ev_bind em (ev_if_pos rfl (ev_bind hto (ev_bind eL (ev_if_pos rfl (ev_bind mm (ev_bind mL (ev_if_neg (by omega) (ev_bind eX (ev_if_pos rfl ?_))))))))))))
 simp only [bne_self_eq_false]
 refine Ev.step (fun k => laws_FnExactDocsFor.j1.eq_2 ..) (ev_if_neg (by simp) (ev_bind mX (ev_bind hX (ev_if_neg (by omega) (ev_if_pos rfl (ev_bind hts (ev_bind hto (ev_bind k2 (ev_bind eX (ev_if_pos rfl ?_))))))))))
 simp only [bne_self_eq_false]
 exact Ev.step (fun k => laws_FnExactDocsFor.j2.eq_2 ..) (ev_if_neg (by simp) (ev_bind hX (ev_if_neg (by omega) (ev_if_pos rfl (ev_some rfl)))))
end Go.Proofs.Ytkijaolkfkgneaa.Pure
