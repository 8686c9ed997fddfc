/- The law FnExactThreshold holds at every input; no conditions. -/
import Derived.Test.YtkijaolkfkgneaaQFnExactThresholdx13
import Derived.Test.YtkijaolkfkgneaaBase
import Derived.OpenShut
namespace Go.Proofs.Ytkijaolkfkgneaa.Pure
open Go.RowKit Go.Proofs.Ytkijaolkfkgneaa.QFnExactThreshold Go.Proofs.YtkijaolkfkgneaaW.PrintWords Go.Proofs.YtkijaolkfkgneaaW.PrintLast Go.Proofs.Ytkijaolkfkgneaa.Base
set_option linter.unusedSimpArgs false
set_option linter.unusedVariables false

def wf151 (x : S151) : Prop := (Lit.int .i64 x.f0).wf = true ∧ (Lit.int .i64 x.f1).wf = true
def laws_FnExactThreshold.Pure : Prop := ∀ (l0 : List (List (S151))) (a1 : Int), (l0.length ≤ 9223372036854775807 ∧ ∀ y ∈ l0, (y.length ≤ 9223372036854775807 ∧ ∀ z ∈ y, wf151 z)) → (Lit.int .i64 a1).wf = true → ∃ k, laws_FnExactThreshold.Ok k l0 a1

/-! ### Score: sizes -/
theorem szScoreS_ev (l : List (S151)) (left : Int) (h0 : 0 ≤ left) (h1 : left ≤ 1048576) (hl : l.length ≤ 9223372036854775807) :
    ∃ r, laws_szScoreS.f l left = some r ∧ r ≤ 1048576 ∧ (0 ≤ r → l.length ≤ 1048576) := by
  unfold laws_szScoreS.f
  have e : wrap64 (left - (l.length : Int)) = left - l.length := wrap_id (by omega) (by omega)
  simp only [e]
  by_cases hn : left - (l.length : Int) < 0
  · exact ⟨-1, by rw [if_pos hn], by omega, fun h => by omega⟩
  · exact ⟨_, by rw [if_neg hn], by omega, fun h => by omega⟩

/-! ### Score: copied -/
def toScore (x : S151) : S107 := ⟨x.f0, x.f1⟩
theorem toScore_eq (x : S151) : laws_toScore.f x.f0 x.f1 = some ((toScore x).f0, (toScore x).f1) := rfl
theorem toScoreS_loop (l : List (S151)) (hl : l.length ≤ 1048576) : ∀ (rest : List (S151)) (pre : List (S107)) (i : Nat), l.drop i = rest → pre.length = i →
    Ev (fun k => laws_toScoreS.l0 k l (pre ++ List.replicate rest.length z107) i) (pre ++ rest.map toScore)
  | [], pre, i, hd, hp => by
    have h := drop_nil hd
    exact Ev.step (fun k => laws_toScoreS.l0.eq_2 ..) (ev_if_neg (by omega) (ev_some rfl))
  | s :: rest, pre, i, hd, hp => by
    obtain ⟨hi, hd', hx⟩ := drop_cons hd
    have hx : rd_T151 l i = s := hx _
    refine Ev.step (fun k => laws_toScoreS.l0.eq_2 ..) (ev_if_pos (by omega) (ev_if_pos (by omega) ?_))
    simp only [hx, toScore_eq, Option.bind_some]
    refine ev_if_pos (by rw [List.length_append, List.length_replicate, List.length_cons]; omega) ?_
    rw [wrap_succ (by omega), Int.toNat_natCast, List.length_cons, List.replicate_succ]
    subst hp
    rw [set_at]
    have := toScoreS_loop l hl rest (pre ++ [toScore s]) (pre.length + 1) hd' (by simp)
    simpa using this
theorem toScoreS_ev (l : List (S151)) (hl : l.length ≤ 1048576) : Ev (fun k => laws_toScoreS.f k l) (l.map toScore) := by
  unfold laws_toScoreS.f
  refine ev_if_pos (by omega) (ev_if_pos (by omega) ?_)
  rw [Int.toNat_natCast]
  exact toScoreS_loop l hl l [] 0 rfl rfl

/-! ### Score: alike -/
theorem eqScore_eq (x : S107) : laws_eqScore.f x.f0 x.f1 x.f0 x.f1 = some true := by
  unfold laws_eqScore.f
  simp
theorem eqScoreS_loop (l : List (S107)) (hl : l.length ≤ 1152921504606846976) : ∀ (rest : List (S107)) (i : Nat), l.drop i = rest → Ev (fun k => laws_eqScoreS.l0 k l l i) true
  | [], i, hd => by
    have h := drop_nil hd
    exact Ev.step (fun k => laws_eqScoreS.l0.eq_2 ..) (ev_if_neg (by omega) (ev_some rfl))
  | s :: rest, i, hd => by
    obtain ⟨hi, hd', hx⟩ := drop_cons hd
    have hx : rd_T107 l i = s := hx _
    refine Ev.step (fun k => laws_eqScoreS.l0.eq_2 ..) (ev_if_pos (by omega) (ev_if_pos (by omega) (ev_if_pos (by omega) ?_)))
    simp only [hx, eqScore_eq, Option.bind_some]
    rw [wrap_succ (by omega)]
    exact ev_if_pos (by simp) (eqScoreS_loop l hl rest (i + 1) hd')
theorem eqScoreS_ev (l : List (S107)) (hl : l.length ≤ 1152921504606846976) : Ev (fun k => laws_eqScoreS.f k l l) true := by
  unfold laws_eqScoreS.f
  exact ev_if_pos rfl (eqScoreS_loop l hl l 0 rfl)

/-! ### Scores: rows of rows; totals; the best ones -/
abbrev Sc := S107
def better (a b : Sc) : Bool := decide (b.f1 < a.f1) || ((a.f1 == b.f1) && decide (a.f0 < b.f0))
theorem better_iff (a b : Sc) : better a b = true ↔ b.f1 < a.f1 ∨ (a.f1 = b.f1 ∧ a.f0 < b.f0) := by simp [better]
theorem specBetter_eq (a b : Sc) : spec_l10Better.f a.f0 a.f1 b.f0 b.f1 = some (better a b) := by
  unfold spec_l10Better.f better
  by_cases h : a.f1 > b.f1
  · rw [if_pos h]; simp [h]
  · rw [if_neg h]
    by_cases h2 : a.f1 = b.f1
    · rw [if_pos h2]; simp [h2]
    · rw [if_neg h2]; simp [h2]; omega
theorem implBetter_eq (a b : Sc) : impl_Score_isBetter.f a.f0 a.f1 b.f0 b.f1 = some (better a b) := by
  unfold impl_Score_isBetter.f better
  by_cases h : a.f1 > b.f1
  · rw [if_pos h]; simp [h]
  · rw [if_neg h]
    by_cases h2 : a.f1 = b.f1
    · rw [if_pos h2]; simp [h2]
    · rw [if_neg h2]; simp [h2]; omega
theorem specIn_eq (a b c : Int) : spec_l1In.f a b c = some (decide (b ≤ a) && decide (a ≤ c)) := by
  unfold spec_l1In.f
  by_cases h : a ≥ b
  · rw [if_pos h]; simp [h]
  · rw [if_neg h]; simp; omega
theorem implIn_eq (a b c : Int) : impl_within.f a b c = some (decide (b ≤ a) && decide (a ≤ c)) := by
  unfold impl_within.f
  by_cases h : a ≥ b
  · rw [if_pos h]; simp [h]
  · rw [if_neg h]; simp; omega
def inRange (x : Sc) : Bool := (decide (0 ≤ x.f0) && decide (x.f0 ≤ 99)) && (decide (1 ≤ x.f1) && decide (x.f1 ≤ 1000))
def okLast (pre : List Sc) (x : Sc) : Bool := match pre.getLast? with
  | none => true
  | some p => better p x
def newDoc (pre : List Sc) (d : Int) : Bool := pre.all fun y => !(y.f0 == d)
def goodFrom : List Sc → List Sc → Bool
  | _, [] => true
  | pre, x :: r => (inRange x && (okLast pre x && newDoc pre x.f0)) && goodFrom (pre ++ [x]) r
def goodRow (l : List Sc) : Bool := goodFrom [] l && decide (l.length ≤ 20)
theorem take_pre {α : Type} {l pre rest : List α} (h : l = pre ++ rest) : l.take pre.length = pre := by rw [h]; simp
theorem specGood_inner (l : List Sc) (n i : Int) (R : Bool) (doc by_ : Int) (hR : Ev (fun k => spec_GoodRow.l0 k l l n (wrap64 (i + 1))) R) (p : List Sc) (hp : p.length ≤ 1048576) : ∀ (rest pre : List Sc), p = pre ++ rest →
    Ev (fun k => spec_GoodRow.l1 k l l n i p (p.length : Int) (pre.length : Int) doc by_) (newDoc rest doc && R)
  | [], pre, h => by
    refine Ev.step (fun k => spec_GoodRow.l1.eq_2 ..) (ev_if_neg (by rw [h, List.append_nil]; omega) ?_)
    simpa [newDoc] using hR
  | y :: rest, pre, h => by
    obtain ⟨hi, hx⟩ := mid_at h
    have hx : rd_T107 p pre.length = y := hx _
    refine Ev.step (fun k => spec_GoodRow.l1.eq_2 ..) (ev_if_pos (by omega) (ev_if_pos (by omega) (ev_if_pos (by omega) ?_)))
    simp only [hx]
    by_cases e : doc = y.f0
    · exact ev_if_pos e (ev_some (by simp [newDoc, e]))
    · refine ev_if_neg e ?_
      rw [wrap_succ (by omega)]
      have ih := specGood_inner l n i R doc by_ hR p hp rest (pre ++ [y]) (by rw [h]; simp)
      rw [List.length_append, List.length_singleton] at ih
      refine ev_eq ih ?_
      have e2 : (y.f0 == doc) = false := by simpa using fun h2 => e h2.symm
      simp [newDoc, e2]
theorem specGood_j1 (l : List Sc) (hl : l.length ≤ 1048576) (n : Int) (b R : Bool) (doc by_ : Int) (pre rest : List Sc) (h : l = pre ++ rest) (hR : Ev (fun k => spec_GoodRow.l0 k l l n (wrap64 ((pre.length : Int) + 1))) R) :
    Ev (fun k => spec_GoodRow.j1 k l (pre.length : Int) l n (pre.length : Int) b doc by_) (!b && (newDoc pre doc && R)) := by
  have hpl : pre.length ≤ l.length := by rw [h, List.length_append]; omega
  refine Ev.step (fun k => spec_GoodRow.j1.eq_2 ..) ?_
  cases b with
  | true => exact ev_if_pos rfl (ev_some (by simp))
  | false =>
    refine ev_if_neg (by simp) (ev_if_pos (by omega) (ev_if_pos (by omega) ?_))
    rw [Int.toNat_natCast, take_pre h]
    simp only [Option.bind_some]
    have := specGood_inner l n pre.length R doc by_ hR pre (by omega) pre [] rfl
    simpa using this
theorem specGood_loop (l : List Sc) (hl : l.length ≤ 1048576) : ∀ (rest pre : List Sc), l = pre ++ rest →
    Ev (fun k => spec_GoodRow.l0 k l l (l.length : Int) (pre.length : Int)) (goodFrom pre rest && decide (l.length ≤ 20))
  | [], pre, h => by
    refine Ev.step (fun k => spec_GoodRow.l0.eq_2 ..) (ev_if_neg (by rw [h, List.append_nil]; omega) (ev_some ?_))
    simp only [goodFrom, Bool.true_and]
    congr 1
    exact propext (by omega)
  | x :: rest, pre, h => by
    obtain ⟨hi, hx⟩ := mid_at h
    have hx : rd_T107 l pre.length = x := hx _
    have ih := specGood_loop l hl rest (pre ++ [x]) (by rw [h]; simp)
    rw [List.length_append, List.length_singleton] at ih
    have hw : wrap64 ((pre.length : Int) + 1) = ((pre.length + 1 : Nat) : Int) := wrap_succ (by omega)
    rw [← hw] at ih
    have J := fun b => specGood_j1 l hl l.length b _ x.f0 x.f1 pre (x :: rest) h ih
    refine Ev.step (fun k => spec_GoodRow.l0.eq_2 ..) (ev_if_pos (by omega) (ev_if_pos (by omega) (ev_if_pos (by omega) ?_)))
    simp only [hx, specIn_eq, Option.bind_some, goodFrom, inRange]
    cases c1 : (decide (0 ≤ x.f0) && decide (x.f0 ≤ 99)) with
    | false => exact ev_if_neg (by simp) (ev_eq (J true) (by simp))
    | true =>
      refine ev_if_pos rfl ?_
      cases c2 : (decide (1 ≤ x.f1) && decide (x.f1 ≤ 1000)) with
      | false => exact ev_if_neg (by simp) (ev_eq (J true) (by simp))
      | true =>
        refine ev_if_pos rfl ?_
        rcases nil_or_snoc pre with rfl | ⟨q, p, rfl⟩
        · exact ev_if_neg (by simp) (ev_eq (J false) (by simp [okLast, Bool.and_assoc]))
        · have hp : rd_T107 l (((q ++ [p]).length : Int) - 1) = p := last_at (rest := x :: rest) h _
          have hpos : 0 < (q ++ [p]).length := by simp
          refine ev_if_pos (by omega) ?_
          rw [wrap_id (x := ((q ++ [p]).length : Int) - 1) (by omega) (by omega)]
          simp only [hp, specBetter_eq, Option.bind_some]
          refine ev_if_pos (by omega) (ev_if_pos (by omega) ?_)
          refine ev_eq (J (!(better p x))) ?_
          simp [okLast, Bool.and_assoc]
theorem specGood_ev (l : List Sc) (hl : l.length ≤ 1048576) : Ev (fun k => spec_GoodRow.f k l) (goodRow l) := specGood_loop l hl l [] rfl
def firstBy : List Sc → Int → Int
  | [], _ => 0
  | y :: l, d => if y.f0 = d then y.f1 else firstBy l d
theorem scoreIn_loop (d : Int) (l : List Sc) (hl : l.length ≤ 1048576) : ∀ (rest pre : List Sc), l = pre ++ rest → Ev (fun k => impl_scoreIn.l0 k d l (l.length : Int) (pre.length : Int)) (firstBy rest d)
  | [], pre, h => Ev.step (fun k => impl_scoreIn.l0.eq_2 ..) (ev_if_neg (by rw [h, List.append_nil]; omega) (ev_some rfl))
  | y :: rest, pre, h => by
    obtain ⟨hi, hx⟩ := mid_at h
    have hx : rd_T107 l pre.length = y := hx _
    refine Ev.step (fun k => impl_scoreIn.l0.eq_2 ..) (ev_if_pos (by omega) (ev_if_pos (by omega) (ev_if_pos (by omega) ?_)))
    simp only [hx, firstBy]
    by_cases e : y.f0 = d
    · rw [if_pos e]
      exact ev_if_pos e (ev_some rfl)
    · rw [if_neg e]
      refine ev_if_neg e ?_
      rw [wrap_succ (by omega)]
      have ih := scoreIn_loop d l hl rest (pre ++ [y]) (by rw [h]; simp)
      rwa [List.length_append, List.length_singleton] at ih
theorem scoreIn_ev (d : Int) (l : List Sc) (hl : l.length ≤ 1048576) : Ev (fun k => impl_scoreIn.f k l d) (firstBy l d) := scoreIn_loop d l hl l [] rfl
theorem firstBy_pos (d : Int) : ∀ (l : List Sc), (∀ y ∈ l, 1 ≤ y.f1) → (firstBy l d > 0 ↔ newDoc l d = false)
  | [], _ => by simp [firstBy, newDoc]
  | y :: l, h => by
    have ih := firstBy_pos d l (fun z hz => h z (List.mem_cons_of_mem _ hz))
    have h1 := h y List.mem_cons_self
    unfold firstBy
    by_cases e : y.f0 = d
    · rw [if_pos e]; simp [newDoc, e]; omega
    · rw [if_neg e, ih]; simp [newDoc, e]
theorem implGood_loop (l : List Sc) (hl : l.length ≤ 1048576) : ∀ (rest pre : List Sc), l = pre ++ rest → (∀ y ∈ pre, 1 ≤ y.f1) →
    Ev (fun k => impl_GoodRow.l0 k l l (l.length : Int) (pre.length : Int)) (goodFrom pre rest)
  | [], pre, h, hb => Ev.step (fun k => impl_GoodRow.l0.eq_2 ..) (ev_if_neg (by rw [h, List.append_nil]; omega) (ev_some rfl))
  | x :: rest, pre, h, hb => by
    obtain ⟨hi, hx⟩ := mid_at h
    have hx : rd_T107 l pre.length = x := hx _
    have hS := scoreIn_ev x.f0 pre (by omega)
    refine Ev.step (fun k => impl_GoodRow.l0.eq_2 ..) (ev_if_pos (by omega) (ev_if_pos (by omega) (ev_if_pos (by omega) ?_)))
    simp only [hx, implIn_eq, Option.bind_some, goodFrom, inRange, Int.toNat_natCast, take_pre h]
    cases c1 : (decide (0 ≤ x.f0) && decide (x.f0 ≤ 99)) with
    | false => exact ev_if_neg (by simp) (ev_some (by simp))
    | true =>
      refine ev_if_pos rfl ?_
      cases c2 : (decide (1 ≤ x.f1) && decide (x.f1 ≤ 1000)) with
      | false => exact ev_if_neg (by simp) (ev_some (by simp))
      | true =>
        refine ev_if_pos rfl ?_
        have h1 : 1 ≤ x.f1 := by simp at c2; omega
        have ih := implGood_loop l hl rest (pre ++ [x]) (by rw [h]; simp) (fun y hy => by
          rcases List.mem_append.1 hy with hy | hy
          · exact hb y hy
          · rw [List.mem_singleton.1 hy]; exact h1)
        rw [List.length_append, List.length_singleton, ← wrap_succ (i := pre.length) (by omega)] at ih
        have K : Ev (fun k => if firstBy pre x.f0 > 0 then (some false) else (impl_GoodRow.l0 k l l (l.length : Int) (wrap64 ((pre.length : Int) + 1)))) (newDoc pre x.f0 && goodFrom (pre ++ [x]) rest) := by
          by_cases hf : firstBy pre x.f0 > 0
          · exact ev_if_pos hf (ev_some (by rw [(firstBy_pos _ _ hb).1 hf]; rfl))
          · refine ev_if_neg hf (ev_eq ih ?_)
            cases hn : newDoc pre x.f0 with
            | true => simp
            | false => exact absurd ((firstBy_pos _ _ hb).2 hn) hf
        rcases nil_or_snoc pre with rfl | ⟨q, p, rfl⟩
        · refine ev_if_neg (by simp) (ev_if_pos (by omega) (ev_bind hS ?_))
          refine ev_eq K ?_
          simp [okLast]
        · have hp : rd_T107 l (((q ++ [p]).length : Int) - 1) = p := last_at (rest := x :: rest) h _
          have hpos : 0 < (q ++ [p]).length := by simp
          refine ev_if_pos (by omega) ?_
          rw [wrap_id (x := ((q ++ [p]).length : Int) - 1) (by omega) (by omega)]
          simp only [hp, implBetter_eq, Option.bind_some]
          refine ev_if_pos (by omega) (ev_if_pos (by omega) ?_)
          have e : okLast (q ++ [p]) x = better p x := by simp [okLast]
          rw [e]
          cases hbt : better p x with
          | false => exact ev_if_neg (by simp) (ev_some (by simp))
          | true =>
            refine ev_if_pos rfl (ev_if_pos (by omega) (ev_bind hS ?_))
            exact ev_eq K (by simp)
theorem implGood_ev (l : List Sc) (hl : l.length ≤ 1048576) : Ev (fun k => impl_GoodRow.f k l) (goodRow l) := by
  unfold impl_GoodRow.f goodRow
  by_cases h : (l.length : Int) > 20
  · exact ev_if_pos h (ev_some (by rw [decide_eq_false (by omega)]; simp))
  · exact ev_if_neg h (ev_eq (implGood_loop l hl l [] rfl (by simp)) (by rw [decide_eq_true (by omega)]; simp))
/-! #### rows -/
def areRows (rows : List (List Sc)) : Bool := (decide (1 ≤ rows.length) && decide (rows.length ≤ 4)) && rows.all goodRow
theorem specRows_loop (l : List (List Sc)) (hl : l.length ≤ 1048576) (hr : ∀ r ∈ l, r.length ≤ 1048576) : ∀ (rest pre : List (List Sc)), l = pre ++ rest →
    Ev (fun k => spec_l10Rows.l0 k l l (l.length : Int) (pre.length : Int)) (rest.all goodRow && (decide (1 ≤ l.length) && decide (l.length ≤ 4)))
  | [], pre, h => by
    refine Ev.step (fun k => spec_l10Rows.l0.eq_2 ..) (ev_if_neg (by rw [h, List.append_nil]; omega) ?_)
    simp only [specIn_eq, Option.bind_some]
    refine ev_some ?_
    simp only [List.all_nil, Bool.true_and]
    congr 1
    · congr 1; exact propext (by omega)
    · congr 1; exact propext (by omega)
  | x :: rest, pre, h => by
    obtain ⟨hi, hx⟩ := mid_at h
    have hx : rd_L4 l pre.length = x := hx _
    have hg := specGood_ev x (hr x (by rw [h]; simp))
    refine Ev.step (fun k => spec_l10Rows.l0.eq_2 ..) (ev_if_pos (by omega) (ev_if_pos (by omega) (ev_if_pos (by omega) ?_)))
    simp only [hx]
    refine ev_bind hg ?_
    cases hgx : goodRow x with
    | false => exact ev_if_neg (by simp) (ev_some (by simp [hgx]))
    | true =>
      refine ev_if_pos rfl ?_
      rw [wrap_succ (by omega)]
      have ih := specRows_loop l hl hr rest (pre ++ [x]) (by rw [h]; simp)
      rw [List.length_append, List.length_singleton] at ih
      exact ev_eq ih (by simp [hgx])
theorem specRows_ev (l : List (List Sc)) (hl : l.length ≤ 1048576) (hr : ∀ r ∈ l, r.length ≤ 1048576) : Ev (fun k => spec_l10Rows.f k l) (areRows l) :=
  ev_eq (specRows_loop l hl hr l [] rfl) (by unfold areRows; exact Bool.and_comm _ _)
theorem implIndex_loop (l : List (List Sc)) (hl : l.length ≤ 1048576) (hr : ∀ r ∈ l, r.length ≤ 1048576) : ∀ (rest pre : List (List Sc)), l = pre ++ rest →
    ∃ i : Int, Ev (fun k => slices_IndexFunc_impl_Score__impl_areRows_1.l0 k l (l.length : Int) (pre.length : Int)) i ∧ (i ≥ 0 ↔ rest.all goodRow = false)
  | [], pre, h => ⟨-1, Ev.step (fun k => slices_IndexFunc_impl_Score__impl_areRows_1.l0.eq_2 ..) (ev_if_neg (by rw [h, List.append_nil]; omega) (ev_some rfl)), by simp⟩
  | x :: rest, pre, h => by
    obtain ⟨hi, hx⟩ := mid_at h
    have hx : rd_L4 l pre.length = x := hx _
    have hg : Ev (fun k => impl_areRows_1.f k x) (!goodRow x) := by
      unfold impl_areRows_1.f
      exact ev_bind (implGood_ev x (hr x (by rw [h]; simp))) (ev_some rfl)
    cases hgx : goodRow x with
    | false =>
      refine ⟨pre.length, Ev.step (fun k => slices_IndexFunc_impl_Score__impl_areRows_1.l0.eq_2 ..) (ev_if_pos (by omega) (ev_if_pos (by omega) (ev_if_pos (by omega) ?_))), by simp [hgx]⟩
      simp only [hx]
      exact ev_bind hg (ev_if_pos (by simp [hgx]) (ev_some rfl))
    | true =>
      obtain ⟨i, ih, hiff⟩ := implIndex_loop l hl hr rest (pre ++ [x]) (by rw [h]; simp)
      rw [List.length_append, List.length_singleton, ← wrap_succ (i := pre.length) (by omega)] at ih
      refine ⟨i, Ev.step (fun k => slices_IndexFunc_impl_Score__impl_areRows_1.l0.eq_2 ..) (ev_if_pos (by omega) (ev_if_pos (by omega) (ev_if_pos (by omega) ?_))), by simp [hgx, hiff]⟩
      simp only [hx]
      exact ev_bind hg (ev_if_neg (by simp [hgx]) ih)
theorem implRows_ev (l : List (List Sc)) (hl : l.length ≤ 1048576) (hr : ∀ r ∈ l, r.length ≤ 1048576) : Ev (fun k => impl_areRows.f k l) (areRows l) := by
  unfold impl_areRows.f areRows
  simp only [implIn_eq, Option.bind_some]
  have e : (decide (1 ≤ (l.length : Int)) && decide ((l.length : Int) ≤ 4)) = (decide (1 ≤ l.length) && decide (l.length ≤ 4)) := by
    congr 1
    · congr 1; exact propext (by omega)
    · congr 1; exact propext (by omega)
  rw [e]
  cases hc : (decide (1 ≤ l.length) && decide (l.length ≤ 4)) with
  | false => exact ev_if_neg (by simp) (ev_some (by simp))
  | true =>
    refine ev_if_pos rfl ?_
    obtain ⟨i, hi, hiff⟩ := implIndex_loop l hl hr l [] rfl
    have hI : Ev (fun k => slices_ContainsFunc_impl_Score__impl_areRows_1.f k l) (decide (i ≥ 0)) := by
      unfold slices_ContainsFunc_impl_Score__impl_areRows_1.f slices_IndexFunc_impl_Score__impl_areRows_1.f
      exact ev_bind hi (ev_some rfl)
    refine ev_bind hI (ev_some ?_)
    cases ha : l.all goodRow with
    | false => rw [decide_eq_true (hiff.2 ha)]; rfl
    | true => rw [decide_eq_false (fun h => by rw [hiff.1 h] at ha; cases ha)]; rfl
/-! #### what a good row is -/
theorem goodFrom_mem : ∀ (rest pre : List Sc), goodFrom pre rest = true → ∀ x ∈ rest, inRange x = true
  | [], _, _, x, hx => by cases hx
  | y :: rest, pre, h, x, hx => by
    simp only [goodFrom, Bool.and_eq_true] at h
    rcases List.mem_cons.1 hx with rfl | hx
    · exact h.1.1
    · exact goodFrom_mem rest _ h.2 x hx
theorem goodFrom_new : ∀ (rest pre : List Sc), goodFrom pre rest = true → (pre.map (·.f0)).Nodup → ((pre ++ rest).map (·.f0)).Nodup
  | [], pre, _, hn => by simpa using hn
  | y :: rest, pre, h, hn => by
    simp only [goodFrom, Bool.and_eq_true] at h
    have hnew : ∀ z ∈ pre, z.f0 ≠ y.f0 := by
      have := h.1.2.2
      unfold newDoc at this
      rw [List.all_eq_true] at this
      intro z hz
      simpa using this z hz
    have ih := goodFrom_new rest (pre ++ [y]) h.2 (by
      rw [List.map_append, List.nodup_append]
      refine ⟨hn, by simp, ?_⟩
      intro a ha b hb
      obtain ⟨z, hz, rfl⟩ := List.mem_map.1 ha
      simp only [List.map_cons, List.map_nil, List.mem_singleton] at hb
      rw [hb]
      exact hnew z hz)
    simpa using ih
theorem inRange_iff (x : Sc) : inRange x = true ↔ (0 ≤ x.f0 ∧ x.f0 ≤ 99) ∧ 1 ≤ x.f1 ∧ x.f1 ≤ 1000 := by simp [inRange]
theorem goodRow_spec {l : List Sc} (h : goodRow l = true) : (∀ x ∈ l, inRange x = true) ∧ (l.map (·.f0)).Nodup ∧ l.length ≤ 20 := by
  unfold goodRow at h
  simp only [Bool.and_eq_true, decide_eq_true_eq] at h
  exact ⟨goodFrom_mem l [] h.1, by simpa using goodFrom_new l [] h.1 (by simp), h.2⟩
/-! #### totals -/
def rowTot : List Sc → Int → Int
  | [], _ => 0
  | x :: l, d => (if x.f0 = d then x.f1 else 0) + rowTot l d
def total : List (List Sc) → Int → Int
  | [], _ => 0
  | r :: rs, d => rowTot r d + total rs d
theorem rowTot_bound (d : Int) : ∀ (l : List Sc), (∀ x ∈ l, inRange x = true) → 0 ≤ rowTot l d ∧ rowTot l d ≤ 1000 * (l.length : Int)
  | [], _ => by simp [rowTot]
  | x :: l, h => by
    have ih := rowTot_bound d l (fun z hz => h z (List.mem_cons_of_mem _ hz))
    have h1 := (inRange_iff x).1 (h x List.mem_cons_self)
    unfold rowTot
    rw [List.length_cons]
    split <;> omega
theorem total_bound (d : Int) : ∀ (rows : List (List Sc)), (∀ r ∈ rows, goodRow r = true) → 0 ≤ total rows d ∧ total rows d ≤ 20000 * (rows.length : Int)
  | [], _ => by simp [total]
  | r :: rs, h => by
    have ih := total_bound d rs (fun z hz => h z (List.mem_cons_of_mem _ hz))
    obtain ⟨h1, _, h3⟩ := goodRow_spec (h r List.mem_cons_self)
    have h2 := rowTot_bound d r h1
    unfold total
    rw [List.length_cons]
    omega
theorem rowTot_zero (d : Int) : ∀ (l : List Sc), (∀ x ∈ l, x.f0 ≠ d) → rowTot l d = 0
  | [], _ => rfl
  | x :: l, h => by
    unfold rowTot
    rw [if_neg (h x List.mem_cons_self), rowTot_zero d l (fun z hz => h z (List.mem_cons_of_mem _ hz))]
    rfl
theorem firstBy_tot (d : Int) : ∀ (l : List Sc), (l.map (·.f0)).Nodup → firstBy l d = rowTot l d
  | [], _ => rfl
  | x :: l, h => by
    rw [List.map_cons, List.nodup_cons] at h
    unfold firstBy rowTot
    by_cases e : x.f0 = d
    · rw [if_pos e, if_pos e, rowTot_zero d l (fun z hz e2 => h.1 (List.mem_map.2 ⟨z, hz, by rw [e, e2]⟩))]
      omega
    · rw [if_neg e, if_neg e, firstBy_tot d l h.2]
      omega
theorem specTotal_inner (d : Int) (rows : List (List Sc)) (n j : Int) (R : Int) (l : List Sc) (hl : l.length ≤ 20) (hin : ∀ x ∈ l, inRange x = true) : ∀ (rest pre : List Sc) (acc : Int), l = pre ++ rest → 0 ≤ acc → acc + rowTot rest d ≤ 1000000000 →
    Ev (fun k => spec_l10Total.l0 k d (acc + rowTot rest d) rows n (wrap64 (j + 1))) R → Ev (fun k => spec_l10Total.l1 k d acc rows n j l (l.length : Int) (pre.length : Int)) R
  | [], pre, acc, h, ha, hb, hR => by
    refine Ev.step (fun k => spec_l10Total.l1.eq_2 ..) (ev_if_neg (by rw [h, List.append_nil]; omega) ?_)
    simpa [rowTot] using hR
  | x :: rest, pre, acc, h, ha, hb, hR => by
    obtain ⟨hi, hx⟩ := mid_at h
    have hx : rd_T107 l pre.length = x := hx _
    have hxr := (inRange_iff x).1 (hin x (by rw [h]; simp))
    have hrest := rowTot_bound d rest (fun z hz => hin z (by rw [h]; simp [hz]))
    unfold rowTot at hb hR
    refine Ev.step (fun k => spec_l10Total.l1.eq_2 ..) (ev_if_pos (by omega) (ev_if_pos (by omega) (ev_if_pos (by omega) ?_)))
    simp only [hx]
    rw [wrap_succ (i := pre.length) (by omega)]
    by_cases e : x.f0 = d
    · rw [if_pos e] at hb hR
      refine ev_if_pos e ?_
      rw [wrap_id (x := acc + x.f1) (by omega) (by omega)]
      have ih := specTotal_inner d rows n j R l hl hin rest (pre ++ [x]) (acc + x.f1) (by rw [h]; simp) (by omega) (by omega) (by rw [show acc + x.f1 + rowTot rest d = acc + (x.f1 + rowTot rest d) by omega]; exact hR)
      rwa [List.length_append, List.length_singleton] at ih
    · rw [if_neg e] at hb hR
      refine ev_if_neg e ?_
      have ih := specTotal_inner d rows n j R l hl hin rest (pre ++ [x]) acc (by rw [h]; simp) (by omega) (by omega) (by rw [show acc + rowTot rest d = acc + (0 + rowTot rest d) by omega]; exact hR)
      rwa [List.length_append, List.length_singleton] at ih
theorem specTotal_loop (d : Int) (rows : List (List Sc)) (hn : rows.length ≤ 4) (hg : ∀ r ∈ rows, goodRow r = true) : ∀ (rest pre : List (List Sc)) (acc : Int), rows = pre ++ rest → 0 ≤ acc → acc ≤ 20000 * (pre.length : Int) →
    Ev (fun k => spec_l10Total.l0 k d acc rows (rows.length : Int) (pre.length : Int)) (acc + total rest d)
  | [], pre, acc, h, h0, h1 => Ev.step (fun k => spec_l10Total.l0.eq_2 ..) (ev_if_neg (by rw [h, List.append_nil]; omega) (ev_some (by simp [total])))
  | r :: rest, pre, acc, h, h0, h1 => by
    obtain ⟨hi, hx⟩ := mid_at h
    have hx : rd_L4 rows pre.length = r := hx _
    obtain ⟨g1, g2, g3⟩ := goodRow_spec (hg r (by rw [h]; simp))
    have hb := rowTot_bound d r g1
    refine Ev.step (fun k => spec_l10Total.l0.eq_2 ..) (ev_if_pos (by omega) (ev_if_pos (by omega) (ev_if_pos (by omega) ?_)))
    simp only [hx]
    refine specTotal_inner d rows rows.length pre.length _ r g3 g1 r [] acc rfl h0 (by omega) ?_
    have ih := specTotal_loop d rows hn hg rest (pre ++ [r]) (acc + rowTot r d) (by rw [h]; simp) (by omega) (by rw [List.length_append, List.length_singleton]; omega)
    rw [List.length_append, List.length_singleton, ← wrap_succ (i := pre.length) (by omega)] at ih
    exact ev_eq ih (show acc + rowTot r d + total rest d = acc + (rowTot r d + total rest d) by omega)
theorem specTotal_ev (d : Int) (rows : List (List Sc)) (hn : rows.length ≤ 4) (hg : ∀ r ∈ rows, goodRow r = true) : Ev (fun k => spec_l10Total.f k rows d) (total rows d) :=
  ev_eq (specTotal_loop d rows hn hg rows [] 0 rfl (by omega) (by simp)) (by omega)
theorem implTotal_loop (d : Int) (rows : List (List Sc)) (hn : rows.length ≤ 4) (hg : ∀ r ∈ rows, goodRow r = true) : ∀ (rest pre : List (List Sc)) (acc : Int), rows = pre ++ rest → 0 ≤ acc → acc ≤ 20000 * (pre.length : Int) →
    Ev (fun k => impl_total.l0 k d acc rows (rows.length : Int) (pre.length : Int)) (acc + total rest d)
  | [], pre, acc, h, h0, h1 => Ev.step (fun k => impl_total.l0.eq_2 ..) (ev_if_neg (by rw [h, List.append_nil]; omega) (ev_some (by simp [total])))
  | r :: rest, pre, acc, h, h0, h1 => by
    obtain ⟨hi, hx⟩ := mid_at h
    have hx : rd_L4 rows pre.length = r := hx _
    obtain ⟨g1, g2, g3⟩ := goodRow_spec (hg r (by rw [h]; simp))
    have hb := rowTot_bound d r g1
    refine Ev.step (fun k => impl_total.l0.eq_2 ..) (ev_if_pos (by omega) (ev_if_pos (by omega) (ev_if_pos (by omega) ?_)))
    simp only [hx]
    refine ev_bind (scoreIn_ev d r (by omega)) ?_
    rw [firstBy_tot d r g2, wrap_id (x := acc + rowTot r d) (by omega) (by omega), wrap_succ (by omega)]
    have ih := implTotal_loop d rows hn hg rest (pre ++ [r]) (acc + rowTot r d) (by rw [h]; simp) (by omega) (by rw [List.length_append, List.length_singleton]; omega)
    rw [List.length_append, List.length_singleton] at ih
    exact ev_eq ih (show acc + rowTot r d + total rest d = acc + (rowTot r d + total rest d) by omega)
theorem implTotal_ev (d : Int) (rows : List (List Sc)) (hn : rows.length ≤ 4) (hg : ∀ r ∈ rows, goodRow r = true) : Ev (fun k => impl_total.f k rows d) (total rows d) :=
  ev_eq (implTotal_loop d rows hn hg rows [] 0 rfl (by omega) (by simp)) (by omega)
theorem areRows_spec {rows : List (List Sc)} (h : areRows rows = true) : (1 ≤ rows.length ∧ rows.length ≤ 4) ∧ ∀ r ∈ rows, goodRow r = true := by
  unfold areRows at h
  simp only [Bool.and_eq_true, decide_eq_true_eq, List.all_eq_true] at h
  exact h

/-! ### Scores: sorted, put, the best ones -/
def sortS (l : List Sc) : List Sc := l.mergeSort fun x y => !(better y x)
theorem le_trans_ (a b c : Sc) (h1 : (!(better b a)) = true) (h2 : (!(better c b)) = true) : (!(better c a)) = true := by
  simp only [Bool.not_eq_true', ← Bool.not_eq_true, better_iff] at h1 h2 ⊢
  omega
theorem le_total_ (a b : Sc) : ((!(better b a)) || (!(better a b))) = true := by
  cases h1 : better b a with
  | false => rfl
  | true =>
    cases h2 : better a b with
    | false => rfl
    | true =>
      rw [better_iff] at h1 h2
      omega
theorem le_anti (a b : Sc) (h1 : (!(better b a)) = true) (h2 : (!(better a b)) = true) : a = b := by
  simp only [Bool.not_eq_true', ← Bool.not_eq_true, better_iff] at h1 h2
  cases a; cases b
  simp only at h1 h2 ⊢
  congr 1 <;> omega
theorem sortS_perm (l : List Sc) : (sortS l).Perm l := List.mergeSort_perm _ _
theorem sortS_sorted (l : List Sc) : (sortS l).Pairwise fun a b => (!(better b a)) = true := List.pairwise_mergeSort le_trans_ le_total_ l
theorem sorted_unique {l m : List Sc} (h : l.Pairwise fun a b => (!(better b a)) = true) (k : m.Pairwise fun a b => (!(better b a)) = true) (p : l.Perm m) : l = m :=
  List.Perm.eq_of_pairwise (fun a b _ _ h1 h2 => le_anti a b h1 h2) h k p
theorem sortS_congr {l m : List Sc} (p : l.Perm m) : sortS l = sortS m := sorted_unique (sortS_sorted l) (sortS_sorted m) ((sortS_perm l).trans (p.trans (sortS_perm m).symm))
theorem sortS_length (l : List Sc) : (sortS l).length = l.length := (sortS_perm l).length_eq
def ins (x : Sc) : List Sc → List Sc
  | [] => [x]
  | y :: l => if better y x = true then y :: ins x l else x :: y :: l
theorem ins_perm (x : Sc) : ∀ l : List Sc, (ins x l).Perm (x :: l)
  | [] => List.Perm.refl _
  | y :: l => by
    unfold ins
    split
    · exact ((ins_perm x l).cons y).trans (List.Perm.swap x y l)
    · exact List.Perm.refl _
theorem ins_sorted (x : Sc) : ∀ l : List Sc, (l.Pairwise fun a b => (!(better b a)) = true) → (ins x l).Pairwise fun a b => (!(better b a)) = true
  | [], _ => by simp [ins]
  | y :: l, h => by
    rw [List.pairwise_cons] at h
    unfold ins
    by_cases hb : better y x = true
    · rw [if_pos hb, List.pairwise_cons]
      refine ⟨fun z hz => ?_, ins_sorted x l h.2⟩
      rcases List.mem_cons.1 ((ins_perm x l).mem_iff.1 hz) with rfl | hz
      · have := le_total_ y z
        rw [hb] at this
        simpa using this
      · exact h.1 z hz
    · rw [if_neg hb, List.pairwise_cons, List.pairwise_cons]
      have hxy : (!(better y x)) = true := by simpa using hb
      exact ⟨fun z hz => by
        rcases List.mem_cons.1 hz with rfl | hz
        · exact hxy
        · exact le_trans_ _ _ _ hxy (h.1 z hz), h.1, h.2⟩
theorem ins_sortS (x : Sc) (l : List Sc) : ins x (sortS l) = sortS (l ++ [x]) :=
  sorted_unique (ins_sorted x _ (sortS_sorted l)) (sortS_sorted _) ((ins_perm x _).trans (((sortS_perm l).cons x).trans ((List.perm_append_singleton x l).symm.trans (sortS_perm _).symm)))
theorem ins_length (x : Sc) (l : List Sc) : (ins x l).length = l.length + 1 := by rw [(ins_perm x l).length_eq]; rfl
theorem implSort_eq (l : List Sc) (h : l.length ≤ 1048576) : slices_SortFunc_impl_Score__impl_Score_compare.f l = some (sortS l) := by
  unfold slices_SortFunc_impl_Score__impl_Score_compare.f
  rw [if_pos (by omega)]
  rfl
theorem clone_eq (l : List Sc) (h : l.length ≤ 1048576) : slices_Clone_impl_Score.f l = some l := by
  unfold slices_Clone_impl_Score.f
  simp only [Option.bind_some]
  rw [if_pos (by simp; omega)]
  simp
theorem best_eq (l : List Sc) (many : Int) (h : l.length ≤ 1048576) (hm : 0 ≤ many) : impl_best.f l many = some ((sortS l).take (min many l.length).toNat) := by
  unfold impl_best.f
  rw [clone_eq l h]
  simp only [Option.bind_some]
  rw [implSort_eq l h]
  simp only [Option.bind_some, mn_min]
  rw [if_pos (by omega), if_pos (by omega)]
theorem cut_eq (l : List Sc) (many : Int) (h : l.length ≤ 1048576) (hm : 0 ≤ many) : spec_l10Cut.f l many = some (l.take (min many l.length).toNat) := by
  unfold spec_l10Cut.f spec_l1Least.f
  by_cases hc : many < (l.length : Int)
  · rw [if_pos hc]
    simp only [Option.bind_some]
    rw [if_pos hm, if_pos (by omega), if_pos (by simp only [List.length_nil, List.length_take]; omega), show min many (l.length : Int) = many by omega]
    simp
  · rw [if_neg hc]
    simp only [Option.bind_some]
    rw [if_pos (by omega), if_pos (by omega), if_pos (by simp only [List.length_nil, List.length_take]; omega), show min many (l.length : Int) = l.length by omega]
    simp
/-! #### put -/
theorem put_l1 (l : List Sc) (hl : l.length ≤ 1048576) (x : Sc) : ∀ (rest pre : List Sc), l = pre ++ rest → Ev (fun k => spec_l10Put.l1 k l (pre.length : Int) x.f0 x.f1) (pre ++ ins x rest)
  | [], pre, h => by
    rw [List.append_nil] at h
    subst h
    refine Ev.step (fun k => spec_l10Put.l1.eq_2 ..) (ev_if_neg (by omega) ?_)
    simp only [Option.bind_some, Int.toNat_natCast, List.nil_append, List.take_length, List.drop_length, List.append_nil, List.length_nil, List.length_append, List.length_singleton]
    exact ev_if_pos (by omega) (ev_if_pos (by omega) (ev_if_pos (by omega) (ev_if_pos (by omega) (ev_if_pos (by omega) (ev_some rfl)))))
  | y :: rest, pre, h => by
    obtain ⟨hi, hx⟩ := mid_at h
    have hx : rd_T107 l pre.length = y := hx _
    have hln : l.length = pre.length + (rest.length + 1) := by rw [h]; simp
    refine Ev.step (fun k => spec_l10Put.l1.eq_2 ..) (ev_if_pos (by omega) (ev_if_pos (by omega) ?_))
    simp only [hx, specBetter_eq, Option.bind_some]
    unfold ins
    cases hb : better y x with
    | true =>
      refine ev_if_pos rfl ?_
      rw [wrap_succ (by omega)]
      have ih := put_l1 l hl x rest (pre ++ [y]) (by rw [h]; simp)
      rw [List.length_append, List.length_singleton] at ih
      exact ev_eq ih (by simp)
    | false =>
      refine ev_if_neg (by simp) ?_
      have hd : l.drop pre.length = y :: rest := by rw [h]; simp
      simp only [Int.toNat_natCast, take_pre h, hd, List.nil_append, List.length_nil, List.length_append, List.length_singleton, List.length_cons]
      exact ev_if_pos (by omega) (ev_if_pos (by omega) (ev_if_pos (by omega) (ev_if_pos (by omega) (ev_some (by simp)))))
def putS (l : List Sc) (x : Sc) : List Sc := if newDoc l x.f0 = true then ins x l else l
theorem put_l0 (l : List Sc) (hl : l.length ≤ 1048576) (x : Sc) : ∀ (rest pre : List Sc), l = pre ++ rest → newDoc pre x.f0 = true → Ev (fun k => spec_l10Put.l0 k l l (l.length : Int) (pre.length : Int) x.f0 x.f1) (putS l x)
  | [], pre, h, hp => by
    rw [List.append_nil] at h
    subst h
    refine Ev.step (fun k => spec_l10Put.l0.eq_2 ..) (ev_if_neg (by omega) ?_)
    unfold putS
    rw [if_pos hp]
    exact put_l1 l hl x l [] rfl
  | y :: rest, pre, h, hp => by
    obtain ⟨hi, hx⟩ := mid_at h
    have hx : rd_T107 l pre.length = y := hx _
    refine Ev.step (fun k => spec_l10Put.l0.eq_2 ..) (ev_if_pos (by omega) (ev_if_pos (by omega) (ev_if_pos (by omega) ?_)))
    simp only [hx]
    by_cases e : y.f0 = x.f0
    · refine ev_if_pos e (ev_some ?_)
      unfold putS
      rw [if_neg]
      rw [h]
      simp [newDoc, e]
    · refine ev_if_neg e ?_
      rw [wrap_succ (by omega)]
      have ih := put_l0 l hl x rest (pre ++ [y]) (by rw [h]; simp) (by unfold newDoc at hp ⊢; rw [List.all_append, hp]; simp [e])
      rwa [List.length_append, List.length_singleton] at ih
theorem put_ev (l : List Sc) (hl : l.length ≤ 1048576) (x : Sc) : Ev (fun k => spec_l10Put.f k l x.f0 x.f1) (putS l x) := put_l0 l hl x l [] rfl rfl
theorem putS_length (l : List Sc) (x : Sc) : (putS l x).length ≤ l.length + 1 := by
  unfold putS
  split
  · rw [ins_length]; omega
  · omega
/-! #### what was put is sorted -/
def good (rows : List (List Sc)) (x : Sc) : Sc := ⟨x.f0, total rows x.f0⟩
theorem newDoc_iff (l : List Sc) (d : Int) : newDoc l d = true ↔ d ∉ l.map (·.f0) := by
  unfold newDoc
  rw [List.all_eq_true]
  constructor
  · intro h hm
    obtain ⟨y, hy, e⟩ := List.mem_map.1 hm
    have := h y hy
    simp [e] at this
  · intro h y hy
    have : y.f0 ≠ d := fun e => h (List.mem_map.2 ⟨y, hy, e⟩)
    simpa using this
theorem newDoc_perm {l m : List Sc} (p : l.Perm m) (d : Int) : newDoc l d = newDoc m d := by
  have h : newDoc l d = true ↔ newDoc m d = true := by
    rw [newDoc_iff, newDoc_iff, (p.map _).mem_iff]
  cases h1 : newDoc l d <;> cases h2 : newDoc m d <;> simp_all
/-- What has been put so far, in the order of putting. -/
def addS (l : List Sc) (x : Sc) : List Sc := if newDoc l x.f0 = true then l ++ [x] else l
theorem putS_sort (l : List Sc) (x : Sc) : putS (sortS l) x = sortS (addS l x) := by
  unfold putS addS
  rw [newDoc_perm (sortS_perm l)]
  split
  · exact ins_sortS x l
  · rfl
theorem addS_length (l : List Sc) (x : Sc) : (addS l x).length ≤ l.length + 1 := by
  unfold addS
  split
  · simp
  · omega
theorem addS_nodup (l : List Sc) (x : Sc) (h : (l.map (·.f0)).Nodup) : ((addS l x).map (·.f0)).Nodup := by
  unfold addS
  by_cases hn : newDoc l x.f0 = true
  · rw [if_pos hn, List.map_append, List.nodup_append]
    refine ⟨h, by simp, fun a ha b hb e => ?_⟩
    simp only [List.map_cons, List.map_nil, List.mem_singleton] at hb
    subst hb
    subst e
    exact (newDoc_iff l _).1 hn ha
  · rwa [if_neg hn]
theorem addS_mem (l : List Sc) (x : Sc) (d : Int) : d ∈ (addS l x).map (·.f0) ↔ d ∈ l.map (·.f0) ∨ d = x.f0 := by
  unfold addS
  by_cases hn : newDoc l x.f0 = true
  · rw [if_pos hn, List.map_append, List.mem_append]; simp
  · rw [if_neg hn]
    rw [newDoc_iff, Classical.not_not] at hn
    constructor
    · exact .inl
    · rintro (h | rfl)
      · exact h
      · exact hn
theorem addS_all (l : List Sc) (x : Sc) (p : Sc → Prop) (h : ∀ y ∈ l, p y) (hx : p x) : ∀ y ∈ addS l x, p y := by
  unfold addS
  split
  · intro y hy
    rcases List.mem_append.1 hy with hy | hy
    · exact h y hy
    · rw [List.mem_singleton.1 hy]; exact hx
  · exact h
/-- The row's docs, each with its total, put behind. -/
def addRow (rows : List (List Sc)) (l : List Sc) (r : List Sc) : List Sc := r.foldl (fun a x => addS a (good rows x)) l
def addRows (rows : List (List Sc)) (l : List Sc) (rs : List (List Sc)) : List Sc := rs.foldl (fun a r => addRow rows a r) l
theorem addRow_spec (rows : List (List Sc)) : ∀ (r l : List Sc), (l.map (·.f0)).Nodup → (∀ y ∈ l, y = good rows y) →
    (addRow rows l r).length ≤ l.length + r.length ∧ ((addRow rows l r).map (·.f0)).Nodup ∧ (∀ y ∈ addRow rows l r, y = good rows y) ∧ ∀ d, d ∈ (addRow rows l r).map (·.f0) ↔ d ∈ l.map (·.f0) ∨ d ∈ r.map (·.f0)
  | [], l, hn, hg => ⟨by simp [addRow], hn, hg, fun d => by simp [addRow]⟩
  | x :: r, l, hn, hg => by
    obtain ⟨h1, h2, h3, h4⟩ := addRow_spec rows r (addS l (good rows x)) (addS_nodup _ _ hn) (addS_all l _ (fun y => y = good rows y) hg rfl)
    have h5 := addS_length l (good rows x)
    refine ⟨?_, h2, h3, fun d => ?_⟩
    · show (addRow rows (addS l (good rows x)) r).length ≤ _
      rw [List.length_cons]; omega
    · show d ∈ (addRow rows (addS l (good rows x)) r).map (·.f0) ↔ _
      rw [h4 d, addS_mem, List.map_cons, List.mem_cons]
      show (d ∈ l.map (·.f0) ∨ d = x.f0) ∨ d ∈ r.map (·.f0) ↔ _
      rw [or_assoc]
theorem addRows_spec (rows : List (List Sc)) : ∀ (rs : List (List Sc)) (l : List Sc), (∀ r ∈ rs, r.length ≤ 20) → (l.map (·.f0)).Nodup → (∀ y ∈ l, y = good rows y) →
    (addRows rows l rs).length ≤ l.length + 20 * rs.length ∧ ((addRows rows l rs).map (·.f0)).Nodup ∧ (∀ y ∈ addRows rows l rs, y = good rows y) ∧ ∀ d, d ∈ (addRows rows l rs).map (·.f0) ↔ d ∈ l.map (·.f0) ∨ ∃ r ∈ rs, d ∈ r.map (·.f0)
  | [], l, _, hn, hg => ⟨by simp [addRows], hn, hg, fun d => by simp [addRows]⟩
  | r :: rs, l, hl, hn, hg => by
    obtain ⟨a1, a2, a3, a4⟩ := addRow_spec rows r l hn hg
    obtain ⟨h1, h2, h3, h4⟩ := addRows_spec rows rs (addRow rows l r) (fun z hz => hl z (List.mem_cons_of_mem _ hz)) a2 a3
    have h5 := hl r List.mem_cons_self
    refine ⟨?_, h2, h3, fun d => ?_⟩
    · show (addRows rows (addRow rows l r) rs).length ≤ _
      rw [List.length_cons]; omega
    · show d ∈ (addRows rows (addRow rows l r) rs).map (·.f0) ↔ _
      rw [h4 d, a4 d]
      constructor
      · rintro ((h | h) | ⟨z, hz, h⟩)
        · exact .inl h
        · exact .inr ⟨r, List.mem_cons_self, h⟩
        · exact .inr ⟨z, List.mem_cons_of_mem _ hz, h⟩
      · rintro (h | ⟨z, hz, h⟩)
        · exact .inl (.inl h)
        · rcases List.mem_cons.1 hz with rfl | hz
          · exact .inl (.inr h)
          · exact .inr ⟨z, hz, h⟩
/-- All docs with something, by their numbers. -/
def byDoc (rows : List (List Sc)) : Nat → Nat → List Sc
  | 0, _ => []
  | m + 1, d => (if total rows d > 0 then [(⟨(d : Int), total rows d⟩ : Sc)] else []) ++ byDoc rows m (d + 1)
theorem byDoc_length (rows : List (List Sc)) : ∀ m d, (byDoc rows m d).length ≤ m
  | 0, _ => Nat.le_refl _
  | m + 1, d => by
    have := byDoc_length rows m (d + 1)
    unfold byDoc
    split <;> simp <;> omega
theorem byDoc_mem (rows : List (List Sc)) (x : Sc) : ∀ m d, x ∈ byDoc rows m d ↔ (d : Int) ≤ x.f0 ∧ x.f0 < ((d + m : Nat) : Int) ∧ x.f1 = total rows x.f0 ∧ total rows x.f0 > 0
  | 0, d => by simp [byDoc]; omega
  | m + 1, d => by
    unfold byDoc
    rw [List.mem_append, byDoc_mem rows x m (d + 1)]
    constructor
    · rintro (h | ⟨h1, h2, h3⟩)
      · split at h
        · rename_i ht
          rw [List.mem_singleton] at h
          subst h
          exact ⟨by simp, by simp; omega, rfl, ht⟩
        · cases h
      · exact ⟨by omega, by omega, h3⟩
    · rintro ⟨h1, h2, h3, h4⟩
      by_cases e : x.f0 = (d : Int)
      · refine .inl ?_
        rw [e] at h4
        rw [if_pos h4, List.mem_singleton]
        cases x
        simp only at e h3
        rw [h3, e]
      · exact .inr ⟨by omega, by omega, h3, h4⟩
theorem byDoc_nodup (rows : List (List Sc)) : ∀ m d, (byDoc rows m d).Nodup
  | 0, _ => List.nodup_nil
  | m + 1, d => by
    unfold byDoc
    rw [List.nodup_append]
    refine ⟨by split <;> simp, byDoc_nodup rows m (d + 1), fun a ha b hb e => ?_⟩
    subst e
    have := (byDoc_mem rows a m (d + 1)).1 hb
    split at ha
    · rw [List.mem_singleton] at ha
      subst ha
      have h1 := this.1
      simp at h1
      omega
    · cases ha
theorem rowTot_pos (d : Int) : ∀ (l : List Sc), (∀ x ∈ l, inRange x = true) → (rowTot l d > 0 ↔ d ∈ l.map (·.f0))
  | [], _ => by simp [rowTot]
  | x :: l, h => by
    have h0 := rowTot_bound d l (fun z hz => h z (List.mem_cons_of_mem _ hz))
    have ih := rowTot_pos d l (fun z hz => h z (List.mem_cons_of_mem _ hz))
    have h1 := (inRange_iff x).1 (h x List.mem_cons_self)
    unfold rowTot
    rw [List.map_cons, List.mem_cons]
    by_cases e : x.f0 = d
    · rw [if_pos e]
      exact ⟨fun _ => .inl e.symm, fun _ => by omega⟩
    · rw [if_neg e, Int.zero_add, ih]
      exact ⟨.inr, fun h2 => h2.elim (fun h3 => absurd h3.symm e) id⟩
theorem total_pos (d : Int) : ∀ (rows : List (List Sc)), (∀ r ∈ rows, goodRow r = true) → (total rows d > 0 ↔ ∃ r ∈ rows, d ∈ r.map (·.f0))
  | [], _ => by simp [total]
  | r :: rs, h => by
    have hr := (goodRow_spec (h r List.mem_cons_self)).1
    have h0 := rowTot_bound d r hr
    have h1 := total_bound d rs (fun z hz => h z (List.mem_cons_of_mem _ hz))
    have ih := total_pos d rs (fun z hz => h z (List.mem_cons_of_mem _ hz))
    have ir := rowTot_pos d r hr
    unfold total
    constructor
    · intro hp
      by_cases h2 : rowTot r d > 0
      · exact ⟨r, List.mem_cons_self, ir.1 h2⟩
      · obtain ⟨z, hz, h3⟩ := ih.1 (by omega)
        exact ⟨z, List.mem_cons_of_mem _ hz, h3⟩
    · rintro ⟨z, hz, h3⟩
      rcases List.mem_cons.1 hz with rfl | hz
      · have := ir.2 h3; omega
      · have := ih.2 ⟨z, hz, h3⟩; omega
theorem all_docs (rows : List (List Sc)) (hg : ∀ r ∈ rows, goodRow r = true) : (addRows rows [] rows).Perm (byDoc rows 100 0) := by
  obtain ⟨_, h2, h3, h4⟩ := addRows_spec rows rows [] (fun r hr => (goodRow_spec (hg r hr)).2.2) (by simp) (by simp)
  refine (List.perm_ext_iff_of_nodup ?_ (byDoc_nodup rows 100 0)).2 fun x => ?_
  · exact (List.pairwise_map.1 h2).imp (fun h e => h (congrArg (·.f0) e))
  · rw [byDoc_mem]
    constructor
    · intro hx
      have hd : x.f0 ∈ (addRows rows [] rows).map (·.f0) := List.mem_map.2 ⟨x, hx, rfl⟩
      have hr := (h4 x.f0).1 hd
      simp only [List.map_nil, List.not_mem_nil, false_or] at hr
      have hp := (total_pos x.f0 rows hg).2 hr
      obtain ⟨r, hr, hxr⟩ := hr
      obtain ⟨y, hy, e⟩ := List.mem_map.1 hxr
      have hin := (inRange_iff y).1 ((goodRow_spec (hg r hr)).1 y hy)
      have e : y.f0 = x.f0 := e
      have hgx := h3 x hx
      exact ⟨by omega, by omega, congrArg (·.f1) hgx, hp⟩
    · rintro ⟨h5, h6, h7, h8⟩
      have hd := (h4 x.f0).2 (.inr ((total_pos x.f0 rows hg).1 h8))
      obtain ⟨y, hy, e⟩ := List.mem_map.1 hd
      have hgy := h3 y hy
      have : x = y := by
        have e : y.f0 = x.f0 := e
        have h9 : y.f1 = total rows y.f0 := congrArg (·.f1) hgy
        cases x; cases y
        simp only at e h9 h7
        rw [h7, h9, e]
      rw [this]; exact hy

/-! ### Scores: marks -/
def mkScore (n : Int) : Sc := ⟨n, n + 1⟩
def marksScore : Nat → Nat → List Sc
  | 0, _ => []
  | d + 1, n => mkScore n :: marksScore d (n + 2)
theorem marksScore_length : ∀ d n, (marksScore d n).length = d
  | 0, _ => rfl
  | d + 1, n => by simp [marksScore, marksScore_length d (n + 2)]
theorem rdScore_mid (p : List Sc) (x : Sc) (q : List Sc) : rd_T107 (p ++ x :: q) (p.length : Int) = x := (mid_at (l := p ++ x :: q) rfl).2 _
theorem markScoreS_loop : ∀ (rest pre : List Sc) (n : Nat), pre.length + rest.length ≤ 1073741824 → n + 2 * rest.length ≤ 1073741824 →
    Ev (fun k => laws_markScoreS.l0 k (pre ++ rest) n pre.length) (((n + 2 * rest.length : Nat) : Int), pre ++ marksScore rest.length n)
  | [], pre, n, h1, h2 => by
    refine Ev.step (fun k => laws_markScoreS.l0.eq_2 ..) (ev_if_neg (by rw [List.append_nil]; omega) (ev_some (by simp [marksScore])))
  | s :: rest, pre, n, h1, h2 => by
    rw [List.length_cons] at h1 h2
    have w1 : wrap64 ((n : Int) + 1) = (n : Int) + 1 := wrap_id (by omega) (by omega)
    have w2 : wrap64 ((n : Int) + 1 + 1) = ((n + 2 : Nat) : Int) := by rw [wrap_id (by omega) (by omega)]; omega
    refine Ev.step (fun k => laws_markScoreS.l0.eq_2 ..) (ev_if_pos (by rw [List.length_append, List.length_cons]; omega) (ev_if_pos (by omega) ?_))
    simp only [Option.bind_some, Int.toNat_natCast, set_at, rdScore_mid, w1, w2]
    rw [wrap_succ (by omega)]
    have ih := markScoreS_loop rest (pre ++ [mkScore n]) (n + 2) (by rw [List.length_append, List.length_singleton]; omega) (by omega)
    rw [List.append_assoc, List.length_append, List.length_singleton] at ih
    refine ev_eq ih ?_
    have e2 : n + 2 + 2 * rest.length = n + 2 * (rest.length + 1) := by omega
    simp only [List.length_cons, marksScore, List.append_assoc, List.singleton_append, e2]
theorem markScoreS_ev (l : List Sc) (n : Nat) (hb : 2 * l.length + n ≤ 1073741824) : Ev (fun k => laws_markScoreS.f k l n) (((n + 2 * l.length : Nat) : Int), marksScore l.length n) := by
  unfold laws_markScoreS.f
  exact markScoreS_loop l [] n (by show 0 + _ ≤ _; omega) (by omega)
theorem heldScoreS_loop (l : List Sc) (hl : l.length ≤ 1073741824) : ∀ (d n i : Nat), l.drop i = marksScore d n → 2 * d + n ≤ 1073741824 → i + d = l.length →
    Ev (fun k => laws_heldScoreS.l0 k l n i) ((n + 2 * d : Nat) : Int)
  | 0, n, i, hd, hb, hi => by
    exact Ev.step (fun k => laws_heldScoreS.l0.eq_2 ..) (ev_if_neg (by omega) (ev_some rfl))
  | d + 1, n, i, hd, hb, hi => by
    obtain ⟨hi', hd', hx⟩ := drop_cons hd
    have hx : rd_T107 l i = mkScore n := hx _
    have w1 : wrap64 ((n : Int) + 1) = (n : Int) + 1 := wrap_id (by omega) (by omega)
    have w2 : wrap64 ((n : Int) + 1 + 1) = ((n + 2 : Nat) : Int) := by rw [wrap_id (by omega) (by omega)]; omega
    refine Ev.step (fun k => laws_heldScoreS.l0.eq_2 ..) (ev_if_pos (by omega) (ev_if_pos (by omega) ?_))
    simp only [hx, w1, w2, mkScore]
    refine ev_if_pos trivial (ev_if_pos trivial ?_)
    rw [wrap_succ (by omega)]
    refine ev_eq (heldScoreS_loop l hl d (n + 2) (i + 1) hd' (by omega) (by omega)) ?_
    congr 1
    omega
theorem heldScoreS_ev (d n : Nat) (hb : 2 * d + n ≤ 1073741824) : Ev (fun k => laws_heldScoreS.f k (marksScore d n) n) ((n + 2 * d : Nat) : Int) := by
  unfold laws_heldScoreS.f
  exact heldScoreS_loop (marksScore d n) (by rw [marksScore_length]; omega) d n 0 rfl hb (by rw [marksScore_length]; omega)
def sizes : List (List Sc) → Nat
  | [] => 0
  | x :: l => x.length + sizes l
theorem markScoreSS_l : ∀ (l : List (List Sc)) (n : Nat), 2 * sizes l + n ≤ 1073741824 → ∃ L, Ev (fun k => laws_markScoreSS.l k l n) (((n + 2 * sizes l : Nat) : Int), L)
  | [], n, _ => ⟨[], ev_fun fun k => rfl⟩
  | x :: l, n, h => by
    unfold sizes at h
    obtain ⟨L, hL⟩ := markScoreSS_l l (n + 2 * x.length) (by omega)
    refine ⟨marksScore x.length n :: L, ?_⟩
    have hx := markScoreS_ev x n (by omega)
    show Ev (fun k => (laws_markScoreS.f k x n).bind fun p => (laws_markScoreSS.l k l p.1).bind fun q => some (q.1, p.2 :: q.2)) _
    refine ev_bind hx (ev_bind hL (ev_some ?_))
    show ((((n + 2 * x.length) + 2 * sizes l : Nat) : Int), _) = _
    rw [show n + 2 * x.length + 2 * sizes l = n + 2 * sizes (x :: l) from (show n + 2 * x.length + 2 * sizes l = n + 2 * (x.length + sizes l) by omega)]
theorem markScoreSS_ev (l : List (List Sc)) (n : Nat) (h : 2 * sizes l + n ≤ 1073741824) (hl : l.length ≤ 1048576) : ∃ L, Ev (fun k => laws_markScoreSS.f k l n) (((n + 2 * sizes l : Nat) : Int), L) := by
  obtain ⟨L, hL⟩ := markScoreSS_l l n h
  refine ⟨L, ?_⟩
  unfold laws_markScoreSS.f
  exact ev_if_pos (by omega) hL
/-! ### rows of scores: sizes, copied, alike -/
theorem szScoreSS_loop (l : List (List S151)) (hl : l.length ≤ 1048576) (hr : ∀ r ∈ l, r.length ≤ 9223372036854775807) : ∀ (rest : List (List S151)) (i : Nat) (left : Int), l.drop i = rest → 0 ≤ left → left ≤ 1048576 →
    ∃ r, Ev (fun k => laws_szScoreSS.l0 k l left i) r ∧ r ≤ 1048576 ∧ (0 ≤ r → (∀ x ∈ rest, x.length ≤ 1048576) ∧ ((rest.map List.length).sum : Int) ≤ left)
  | [], i, left, hd, h0, h1 => by
    have h := drop_nil hd
    exact ⟨left, Ev.step (fun k => laws_szScoreSS.l0.eq_2 ..) (ev_if_neg (by omega) (ev_some rfl)), h1, fun _ => ⟨by simp, by simpa using h0⟩⟩
  | s :: rest, i, left, hd, h0, h1 => by
    obtain ⟨hi, hd', hx⟩ := drop_cons hd
    have hx : rd_L2 l i = s := hx _
    have hs : s ∈ l := by
      have : s ∈ l.drop i := by rw [hd]; simp
      exact List.mem_of_mem_drop this
    have hsl := hr s hs
    have e : wrap64 (left - (s.length : Int)) = left - s.length := wrap_id (by omega) (by omega)
    by_cases hn : left - (s.length : Int) < 0
    · refine ⟨-1, Ev.step (fun k => laws_szScoreSS.l0.eq_2 ..) (ev_if_pos (by omega) (ev_if_pos (by omega) ?_)), by omega, fun h => by omega⟩
      simp only [hx, laws_szScoreS.f, e]
      rw [if_pos hn]
      simp only [Option.bind_some]
      exact ev_if_pos (by omega) (ev_some rfl)
    · obtain ⟨r, h2, h3, h4⟩ := szScoreSS_loop l hl hr rest (i + 1) (left - s.length) hd' (by omega) (by omega)
      refine ⟨r, Ev.step (fun k => laws_szScoreSS.l0.eq_2 ..) (ev_if_pos (by omega) (ev_if_pos (by omega) ?_)), h3, fun h => ?_⟩
      · simp only [hx, laws_szScoreS.f, e]
        rw [if_neg hn]
        simp only [Option.bind_some]
        rw [wrap_succ (by omega)]
        exact ev_if_neg hn h2
      · obtain ⟨h5, h6⟩ := h4 h
        refine ⟨fun x hx => ?_, ?_⟩
        · rcases List.mem_cons.1 hx with rfl | hx
          · omega
          · exact h5 x hx
        · simp only [List.map_cons, List.sum_cons, Int.natCast_add]
          omega
theorem szScoreSS_ev (l : List (List S151)) (hl : l.length ≤ 9223372036854775807) (hr : ∀ r ∈ l, r.length ≤ 9223372036854775807) :
    ∃ r, Ev (fun k => laws_szScoreSS.f k l 1048576) r ∧ (0 ≤ r → l.length ≤ 1048576 ∧ (∀ x ∈ l, x.length ≤ 1048576) ∧ (l.map List.length).sum ≤ 1048576) := by
  have e : wrap64 (1048576 - (l.length : Int)) = 1048576 - l.length := wrap_id (by omega) (by omega)
  by_cases hn : 1048576 - (l.length : Int) < 0
  · refine ⟨-1, ?_, fun h => by omega⟩
    unfold laws_szScoreSS.f
    rw [e]
    exact ev_if_pos hn (ev_some rfl)
  · obtain ⟨r, h1, h2, h3⟩ := szScoreSS_loop l (by omega) hr l 0 (1048576 - l.length) rfl (by omega) (by omega)
    refine ⟨r, ?_, fun h => ?_⟩
    · unfold laws_szScoreSS.f
      rw [e]
      exact ev_if_neg hn h1
    · obtain ⟨h5, h6⟩ := h3 h
      exact ⟨by omega, h5, by omega⟩
theorem toScoreSS_loop (l : List (List S151)) (hl : l.length ≤ 1048576) (hr : ∀ r ∈ l, r.length ≤ 1048576) : ∀ (rest : List (List S151)) (pre : List (List Sc)) (i : Nat), l.drop i = rest → pre.length = i →
    Ev (fun k => laws_toScoreSS.l0 k l (pre ++ List.replicate rest.length []) i) (pre ++ rest.map fun r => r.map toScore)
  | [], pre, i, hd, hp => by
    have h := drop_nil hd
    exact Ev.step (fun k => laws_toScoreSS.l0.eq_2 ..) (ev_if_neg (by omega) (ev_some rfl))
  | s :: rest, pre, i, hd, hp => by
    obtain ⟨hi, hd', hx⟩ := drop_cons hd
    have hx : rd_L2 l i = s := hx _
    have hs : s ∈ l := by
      have : s ∈ l.drop i := by rw [hd]; simp
      exact List.mem_of_mem_drop this
    refine Ev.step (fun k => laws_toScoreSS.l0.eq_2 ..) (ev_if_pos (by omega) (ev_if_pos (by omega) ?_))
    simp only [hx]
    refine ev_bind (toScoreS_ev s (hr s hs)) (ev_if_pos (by rw [List.length_append, List.length_replicate, List.length_cons]; omega) ?_)
    rw [wrap_succ (by omega), Int.toNat_natCast, List.length_cons, List.replicate_succ]
    subst hp
    rw [set_at]
    have := toScoreSS_loop l hl hr rest (pre ++ [s.map toScore]) (pre.length + 1) hd' (by simp)
    simpa using this
theorem toScoreSS_ev (l : List (List S151)) (hl : l.length ≤ 1048576) (hr : ∀ r ∈ l, r.length ≤ 1048576) : Ev (fun k => laws_toScoreSS.f k l) (l.map fun r => r.map toScore) := by
  unfold laws_toScoreSS.f
  refine ev_if_pos (by omega) (ev_if_pos (by omega) ?_)
  rw [Int.toNat_natCast]
  exact toScoreSS_loop l hl hr l [] 0 rfl rfl
theorem eqScoreSS_loop (l : List (List Sc)) (hl : l.length ≤ 1048576) (hr : ∀ r ∈ l, r.length ≤ 1048576) : ∀ (rest : List (List Sc)) (i : Nat), l.drop i = rest → Ev (fun k => laws_eqScoreSS.l0 k l l i) true
  | [], i, hd => by
    have h := drop_nil hd
    exact Ev.step (fun k => laws_eqScoreSS.l0.eq_2 ..) (ev_if_neg (by omega) (ev_some rfl))
  | s :: rest, i, hd => by
    obtain ⟨hi, hd', hx⟩ := drop_cons hd
    have hx : rd_L4 l i = s := hx _
    have hs : s ∈ l := by
      have : s ∈ l.drop i := by rw [hd]; simp
      exact List.mem_of_mem_drop this
    refine Ev.step (fun k => laws_eqScoreSS.l0.eq_2 ..) (ev_if_pos (by omega) (ev_if_pos (by omega) (ev_if_pos (by omega) ?_)))
    simp only [hx]
    refine ev_bind (eqScoreS_ev s (by have := hr s hs; omega)) (ev_if_pos rfl ?_)
    rw [wrap_succ (by omega)]
    exact eqScoreSS_loop l hl hr rest (i + 1) hd'
theorem eqScoreSS_ev (l : List (List Sc)) (hl : l.length ≤ 1048576) (hr : ∀ r ∈ l, r.length ≤ 1048576) : Ev (fun k => laws_eqScoreSS.f k l l) true := by
  unfold laws_eqScoreSS.f
  exact ev_if_pos rfl (eqScoreSS_loop l hl hr l 0 rfl)
theorem sizes_sum : ∀ l : List (List Sc), sizes l = (l.map List.length).sum
  | [] => rfl
  | x :: l => by simp [sizes, sizes_sum l]

/-! ### the threshold -/
def bnd : List (List Sc) → Nat → Int
  | [], _ => 0
  | r :: rs, d => (if d < r.length then (rd_T107 r d).f1 else 0) + bnd rs d
theorem rd_in {r : List Sc} {d : Nat} (h : d < r.length) : rd_T107 r d ∈ r := by
  show r.getD (d : Int).toNat z107 ∈ r
  rw [Int.toNat_natCast, List.getD_eq_getElem?_getD, List.getElem?_eq_getElem h]
  exact List.getElem_mem h
theorem bnd_bound (d : Nat) : ∀ (rows : List (List Sc)), (∀ r ∈ rows, goodRow r = true) → 0 ≤ bnd rows d ∧ bnd rows d ≤ 1000 * (rows.length : Int) ∧ (20 ≤ d → bnd rows d = 0)
  | [], _ => by simp [bnd]
  | r :: rs, h => by
    obtain ⟨h1, h2, h3⟩ := bnd_bound d rs (fun z hz => h z (List.mem_cons_of_mem _ hz))
    obtain ⟨g1, _, g3⟩ := goodRow_spec (h r List.mem_cons_self)
    unfold bnd
    rw [List.length_cons]
    by_cases hd : d < r.length
    · have := (inRange_iff _).1 (g1 _ (rd_in hd))
      rw [if_pos hd]
      refine ⟨by omega, by omega, fun h20 => by omega⟩
    · rw [if_neg hd]
      exact ⟨by omega, by omega, fun h20 => by have := h3 h20; omega⟩
theorem specBound_loop (d : Nat) (rows : List (List Sc)) (hn : rows.length ≤ 4) (hd : d ≤ 1048576) (hg : ∀ r ∈ rows, goodRow r = true) : ∀ (rest pre : List (List Sc)) (acc : Int), rows = pre ++ rest → 0 ≤ acc → acc ≤ 1000 * (pre.length : Int) →
    Ev (fun k => spec_l10Bound.l0 k d acc rows (rows.length : Int) (pre.length : Int)) (acc + bnd rest d)
  | [], pre, acc, h, h0, h1 => Ev.step (fun k => spec_l10Bound.l0.eq_2 ..) (ev_if_neg (by rw [h, List.append_nil]; omega) (ev_some (by simp [bnd])))
  | r :: rest, pre, acc, h, h0, h1 => by
    obtain ⟨hi, hx⟩ := mid_at h
    have hx : rd_L4 rows pre.length = r := hx _
    obtain ⟨g1, g2, g3⟩ := goodRow_spec (hg r (by rw [h]; simp))
    refine Ev.step (fun k => spec_l10Bound.l0.eq_2 ..) (ev_if_pos (by omega) (ev_if_pos (by omega) (ev_if_pos (by omega) ?_)))
    simp only [hx]
    rw [wrap_succ (i := pre.length) (by omega)]
    by_cases hdr : d < r.length
    · have hb := (inRange_iff _).1 (g1 _ (rd_in hdr))
      refine ev_if_pos (by omega) (ev_if_pos (by omega) ?_)
      rw [wrap_id (x := acc + _) (by omega) (by omega)]
      have ih := specBound_loop d rows hn hd hg rest (pre ++ [r]) (acc + (rd_T107 r d).f1) (by rw [h]; simp) (by omega) (by rw [List.length_append, List.length_singleton]; omega)
      rw [List.length_append, List.length_singleton] at ih
      refine ev_eq ih ?_
      show acc + (rd_T107 r d).f1 + bnd rest d = acc + ((if d < r.length then (rd_T107 r d).f1 else 0) + bnd rest d)
      rw [if_pos hdr]; omega
    · refine ev_if_neg (by omega) ?_
      have ih := specBound_loop d rows hn hd hg rest (pre ++ [r]) acc (by rw [h]; simp) (by omega) (by rw [List.length_append, List.length_singleton]; omega)
      rw [List.length_append, List.length_singleton] at ih
      refine ev_eq ih ?_
      show acc + bnd rest d = acc + ((if d < r.length then (rd_T107 r d).f1 else 0) + bnd rest d)
      rw [if_neg hdr]; omega
theorem specBound_ev (d : Nat) (rows : List (List Sc)) (hn : rows.length ≤ 4) (hd : d ≤ 1048576) (hg : ∀ r ∈ rows, goodRow r = true) : Ev (fun k => spec_l10Bound.f k rows d) (bnd rows d) :=
  ev_eq (specBound_loop d rows hn hd hg rows [] 0 rfl (by omega) (by simp)) (by omega)
theorem implBound_loop (d : Nat) (rows : List (List Sc)) (hn : rows.length ≤ 4) (hd : d ≤ 1048576) (hg : ∀ r ∈ rows, goodRow r = true) : ∀ (rest pre : List (List Sc)) (acc : Int), rows = pre ++ rest → 0 ≤ acc → acc ≤ 1000 * (pre.length : Int) →
    Ev (fun k => impl_bound.l0 k d acc rows (rows.length : Int) (pre.length : Int)) (acc + bnd rest d)
  | [], pre, acc, h, h0, h1 => Ev.step (fun k => impl_bound.l0.eq_2 ..) (ev_if_neg (by rw [h, List.append_nil]; omega) (ev_some (by simp [bnd])))
  | r :: rest, pre, acc, h, h0, h1 => by
    obtain ⟨hi, hx⟩ := mid_at h
    have hx : rd_L4 rows pre.length = r := hx _
    obtain ⟨g1, g2, g3⟩ := goodRow_spec (hg r (by rw [h]; simp))
    refine Ev.step (fun k => impl_bound.l0.eq_2 ..) (ev_if_pos (by omega) (ev_if_pos (by omega) (ev_if_pos (by omega) ?_)))
    simp only [hx]
    rw [wrap_succ (i := pre.length) (by omega)]
    by_cases hdr : d < r.length
    · have hb := (inRange_iff _).1 (g1 _ (rd_in hdr))
      refine ev_if_pos (by omega) (ev_if_pos (by omega) ?_)
      rw [wrap_id (x := acc + _) (by omega) (by omega)]
      have ih := implBound_loop d rows hn hd hg rest (pre ++ [r]) (acc + (rd_T107 r d).f1) (by rw [h]; simp) (by omega) (by rw [List.length_append, List.length_singleton]; omega)
      rw [List.length_append, List.length_singleton] at ih
      refine ev_eq ih ?_
      show acc + (rd_T107 r d).f1 + bnd rest d = acc + ((if d < r.length then (rd_T107 r d).f1 else 0) + bnd rest d)
      rw [if_pos hdr]; omega
    · refine ev_if_neg (by omega) ?_
      have ih := implBound_loop d rows hn hd hg rest (pre ++ [r]) acc (by rw [h]; simp) (by omega) (by rw [List.length_append, List.length_singleton]; omega)
      rw [List.length_append, List.length_singleton] at ih
      refine ev_eq ih ?_
      show acc + bnd rest d = acc + ((if d < r.length then (rd_T107 r d).f1 else 0) + bnd rest d)
      rw [if_neg hdr]; omega
theorem implBound_ev (d : Nat) (rows : List (List Sc)) (hn : rows.length ≤ 4) (hd : d ≤ 1048576) (hg : ∀ r ∈ rows, goodRow r = true) : Ev (fun k => impl_bound.f k rows d) (bnd rows d) :=
  ev_eq (implBound_loop d rows hn hd hg rows [] 0 rfl (by omega) (by simp)) (by omega)
/-- What is put at a depth. -/
def thrStep (rows : List (List Sc)) (d : Nat) : List Sc → List (List Sc) → List Sc
  | L, [] => L
  | L, r :: rs => thrStep rows d (if d < r.length then addS L (good rows (rd_T107 r d)) else L) rs
/-- What holds of the list all the time. -/
structure Inv (rows : List (List Sc)) (L : List Sc) : Prop where
  nod : (L.map (·.f0)).Nodup
  gd : ∀ y ∈ L, y = good rows y
  doc : ∀ y ∈ L, ∃ r ∈ rows, y.f0 ∈ r.map (·.f0)
theorem Inv.nil (rows : List (List Sc)) : Inv rows [] := ⟨by simp, by simp, by simp⟩
theorem Inv.add {rows : List (List Sc)} {L : List Sc} (h : Inv rows L) {r : List Sc} (hr : r ∈ rows) {x : Sc} (hx : x ∈ r) : Inv rows (addS L (good rows x)) :=
  ⟨addS_nodup _ _ h.nod, addS_all L _ (fun y => y = good rows y) h.gd rfl, addS_all L (good rows x) (fun y => ∃ r ∈ rows, y.f0 ∈ r.map (·.f0)) h.doc ⟨r, hr, List.mem_map.2 ⟨x, hx, rfl⟩⟩⟩
theorem Inv.pos {rows : List (List Sc)} {L : List Sc} (h : Inv rows L) (hg : ∀ r ∈ rows, goodRow r = true) : ∀ y ∈ L, 1 ≤ y.f1 := fun y hy => by
  have h1 := (total_pos y.f0 rows hg).2 (h.doc y hy)
  have h2 : y.f1 = total rows y.f0 := congrArg (·.f1) (h.gd y hy)
  omega
theorem firstBy_nn (d : Int) : ∀ (l : List Sc), (∀ y ∈ l, 1 ≤ y.f1) → 0 ≤ firstBy l d
  | [], _ => by simp [firstBy]
  | y :: l, h => by
    have := h y List.mem_cons_self
    have ih := firstBy_nn d l (fun z hz => h z (List.mem_cons_of_mem _ hz))
    unfold firstBy
    split <;> omega
theorem firstBy_zero (d : Int) (l : List Sc) (h : ∀ y ∈ l, 1 ≤ y.f1) : firstBy l d = 0 ↔ newDoc l d = true := by
  have h1 := firstBy_pos d l h
  have h2 := firstBy_nn d l h
  cases hn : newDoc l d with
  | true =>
    refine ⟨fun _ => rfl, fun _ => ?_⟩
    by_cases h3 : firstBy l d > 0
    · have h4 := h1.1 h3; rw [hn] at h4; cases h4
    · omega
  | false =>
    have := h1.2 hn
    exact ⟨fun h3 => by omega, fun h3 => by cases h3⟩
theorem specThr_l1 (rows : List (List Sc)) (hrows : rows.length ≤ 4) (hg : ∀ r ∈ rows, goodRow r = true) (many : Int) (d : Nat) (hd : d ≤ 1048576) (R : List Sc × Int × Bool) : ∀ (rest pre : List (List Sc)) (L : List Sc), rows = pre ++ rest → L.length + rest.length ≤ 1000 →
    Ev (fun k => spec_Threshold.l0 k rows many (sortS (thrStep rows d L rest)) (wrap64 ((d : Int) + 1))) R → Ev (fun k => spec_Threshold.l1 k rows many (sortS L) d rows (rows.length : Int) (pre.length : Int)) R
  | [], pre, L, h, hL, hR => by
    refine Ev.step (fun k => spec_Threshold.l1.eq_2 ..) (ev_if_neg (by rw [h, List.append_nil]; omega) ?_)
    exact hR
  | r :: rest, pre, L, h, hL, hR => by
    obtain ⟨hi, hx⟩ := mid_at h
    have hx : rd_L4 rows pre.length = r := hx _
    rw [List.length_cons] at hL
    refine Ev.step (fun k => spec_Threshold.l1.eq_2 ..) (ev_if_pos (by omega) (ev_if_pos (by omega) (ev_if_pos (by omega) ?_)))
    simp only [hx]
    rw [wrap_succ (i := pre.length) (by omega)]
    unfold thrStep at hR
    by_cases hdr : d < r.length
    · rw [if_pos hdr] at hR
      refine ev_if_pos (by omega) (ev_if_pos (by omega) (ev_bind (specTotal_ev _ rows hrows hg) (ev_bind (put_ev (sortS L) (by rw [sortS_length]; omega) (good rows (rd_T107 r d))) ?_)))
      rw [putS_sort]
      have h5 := addS_length L (good rows (rd_T107 r d))
      have ih := specThr_l1 rows hrows hg many d hd R rest (pre ++ [r]) _ (by rw [h]; simp) (by omega) hR
      rwa [List.length_append, List.length_singleton] at ih
    · rw [if_neg hdr] at hR
      refine ev_if_neg (by omega) ?_
      have ih := specThr_l1 rows hrows hg many d hd R rest (pre ++ [r]) L (by rw [h]; simp) (by omega) hR
      rwa [List.length_append, List.length_singleton] at ih
theorem implThr_l1 (rows : List (List Sc)) (hrows : rows.length ≤ 4) (hg : ∀ r ∈ rows, goodRow r = true) (many : Int) (d : Nat) (hd : d ≤ 1048576) (R : List Sc × Int × Bool) : ∀ (rest pre : List (List Sc)) (L : List Sc), rows = pre ++ rest → L.length + rest.length ≤ 1000 → Inv rows L →
    Ev (fun k => impl_Threshold.l0 k rows many (thrStep rows d L rest) (wrap64 ((d : Int) + 1))) R → Ev (fun k => impl_Threshold.l1 k rows many L d rows (rows.length : Int) (pre.length : Int)) R
  | [], pre, L, h, hL, hI, hR => by
    refine Ev.step (fun k => impl_Threshold.l1.eq_2 ..) (ev_if_neg (by rw [h, List.append_nil]; omega) ?_)
    exact hR
  | r :: rest, pre, L, h, hL, hI, hR => by
    obtain ⟨hi, hx⟩ := mid_at h
    have hx : rd_L4 rows pre.length = r := hx _
    have hrm : r ∈ rows := by rw [h]; simp
    rw [List.length_cons] at hL
    refine Ev.step (fun k => impl_Threshold.l1.eq_2 ..) (ev_if_pos (by omega) (ev_if_pos (by omega) (ev_if_pos (by omega) ?_)))
    simp only [hx]
    rw [wrap_succ (i := pre.length) (by omega)]
    unfold thrStep at hR
    by_cases hdr : d < r.length
    · rw [if_pos hdr] at hR
      have hI2 := hI.add hrm (rd_in hdr)
      have h5 := addS_length L (good rows (rd_T107 r d))
      have ih := implThr_l1 rows hrows hg many d hd R rest (pre ++ [r]) _ (by rw [h]; simp) (by omega) hI2 hR
      rw [List.length_append, List.length_singleton] at ih
      refine ev_if_pos (by omega) (ev_if_pos (by omega) (ev_bind (scoreIn_ev _ L (by omega)) ?_))
      have hz : firstBy L (rd_T107 r d).f0 = 0 ↔ newDoc L (good rows (rd_T107 r d)).f0 = true := firstBy_zero (rd_T107 r d).f0 L (hI.pos hg)
      unfold addS at ih
      by_cases hf : firstBy L (rd_T107 r d).f0 = 0
      · refine ev_if_pos hf (ev_bind (implTotal_ev _ rows hrows hg) (ev_if_pos (by omega) ?_))
        rw [if_pos (hz.1 hf)] at ih
        exact ih
      · refine ev_if_neg hf ?_
        rw [if_neg (fun h3 => hf (hz.2 h3))] at ih
        exact ih
    · rw [if_neg hdr] at hR
      refine ev_if_neg (by omega) ?_
      have ih := implThr_l1 rows hrows hg many d hd R rest (pre ++ [r]) L (by rw [h]; simp) (by omega) hI hR
      rwa [List.length_append, List.length_singleton] at ih
theorem thrStep_spec (rows : List (List Sc)) (d : Nat) : ∀ (rest : List (List Sc)) (L : List Sc), (∀ r ∈ rest, r ∈ rows) → Inv rows L → Inv rows (thrStep rows d L rest) ∧ (thrStep rows d L rest).length ≤ L.length + rest.length
  | [], L, _, hI => ⟨hI, by simp [thrStep]⟩
  | r :: rest, L, hr, hI => by
    unfold thrStep
    rw [List.length_cons]
    by_cases hdr : d < r.length
    · rw [if_pos hdr]
      have h5 := addS_length L (good rows (rd_T107 r d))
      obtain ⟨h1, h2⟩ := thrStep_spec rows d rest _ (fun z hz => hr z (List.mem_cons_of_mem _ hz)) (hI.add (hr r List.mem_cons_self) (rd_in hdr))
      exact ⟨h1, by omega⟩
    · rw [if_neg hdr]
      obtain ⟨h1, h2⟩ := thrStep_spec rows d rest L (fun z hz => hr z (List.mem_cons_of_mem _ hz)) hI
      exact ⟨h1, by omega⟩
/-- The list and the depth at the end. -/
def thr (rows : List (List Sc)) (many : Int) : Nat → List Sc → Nat → List Sc × Nat
  | 0, L, d => (L, d)
  | f + 1, L, d => if bnd rows d > 0 ∧ ¬ (many ≤ (L.length : Int) ∧ (rd_T107 (sortS L) (many - 1)).f1 > bnd rows d) then thr rows many f (thrStep rows d L rows) (d + 1) else (L, d)
def thrRes (many : Int) (p : List Sc × Nat) : List Sc × Int × Bool := ((sortS p.1).take (min many p.1.length).toNat, (p.2 : Int), true)
theorem specThr_l0 (rows : List (List Sc)) (hrows : rows.length ≤ 4) (hg : ∀ r ∈ rows, goodRow r = true) (many : Int) (hm : 1 ≤ many) : ∀ (f : Nat) (L : List Sc) (d : Nat), d + f = 21 → L.length ≤ 4 * d → Inv rows L →
    Ev (fun k => spec_Threshold.l0 k rows many (sortS L) (d : Int)) (thrRes many (thr rows many f L d))
  | f, L, d, hd, hL, hI => by
    have hb := specBound_ev d rows hrows (by omega) hg
    obtain ⟨_, _, h20⟩ := bnd_bound d rows hg
    have hcut := cut_eq (sortS L) many (by rw [sortS_length]; omega) (by omega)
    have hend : Ev (fun k => spec_Threshold.j2 k rows many (sortS L) (d : Int) false) (thrRes many (L, d)) := by
      refine Ev.step (fun k => spec_Threshold.j2.eq_2 ..) (ev_if_neg (by simp) ?_)
      rw [hcut, sortS_length]
      simp only [Option.bind_some]
      exact ev_some rfl
    refine Ev.step (fun k => spec_Threshold.l0.eq_2 ..) (ev_bind hb ?_)
    cases f with
    | zero =>
      have := h20 (by omega)
      exact ev_if_neg (by omega) hend
    | succ f =>
      unfold thr
      by_cases hp : bnd rows d > 0
      · refine ev_if_pos hp ?_
        obtain ⟨hI2, hL2⟩ := thrStep_spec rows d rows L (fun _ h => h) hI
        have ih := specThr_l0 rows hrows hg many hm f (thrStep rows d L rows) (d + 1) (by omega) (by omega) hI2
        have hgo : Ev (fun k => spec_Threshold.j2 k rows many (sortS L) (d : Int) true) (thrRes many (thr rows many f (thrStep rows d L rows) (d + 1))) := by
          refine Ev.step (fun k => spec_Threshold.j2.eq_2 ..) (ev_if_pos rfl ?_)
          rw [← wrap_succ (i := d) (by omega)] at ih
          exact specThr_l1 rows hrows hg many d (by omega) _ rows [] L rfl (by omega) ih
        rw [sortS_length]
        by_cases hlt : (L.length : Int) < many
        · rw [if_pos ⟨hp, fun h => by omega⟩]
          exact ev_if_pos hlt hgo
        · refine ev_if_neg hlt ?_
          rw [wrap_id (x := many - 1) (by omega) (by omega)]
          refine ev_if_pos (by omega) (ev_if_pos (by omega) (ev_bind hb ?_))
          by_cases hc : (rd_T107 (sortS L) (many - 1)).f1 ≤ bnd rows d
          · rw [if_pos ⟨hp, fun h => by omega⟩, decide_eq_true hc]
            exact hgo
          · rw [if_neg (fun h => h.2 ⟨by omega, by omega⟩), decide_eq_false hc]
            exact hend
      · rw [if_neg (fun h => hp h.1)]
        exact ev_if_neg hp hend
theorem implThr_l0 (rows : List (List Sc)) (hrows : rows.length ≤ 4) (hg : ∀ r ∈ rows, goodRow r = true) (many : Int) (hm : 1 ≤ many) (hm10 : many ≤ 10) : ∀ (f : Nat) (L : List Sc) (d : Nat), d + f = 21 → L.length ≤ 4 * d → Inv rows L →
    Ev (fun k => impl_Threshold.l0 k rows many L (d : Int)) (thrRes many (thr rows many f L d))
  | f, L, d, hd, hL, hI => by
    have hb := implBound_ev d rows hrows (by omega) hg
    obtain ⟨_, _, h20⟩ := bnd_bound d rows hg
    have hbest := best_eq L many (by omega) (by omega)
    refine Ev.step (fun k => impl_Threshold.l0.eq_2 ..) (ev_bind hb ?_)
    rw [hbest]
    simp only [Option.bind_some]
    have hend : Ev (fun k => some ((sortS L).take (min many L.length).toNat, (d : Int), true)) (thrRes many (L, d)) := ev_some rfl
    have hend2 : Ev (fun k => impl_Threshold.j2 k rows many L (d : Int) true) (thrRes many (L, d)) := by
      refine Ev.step (fun k => impl_Threshold.j2.eq_2 ..) (ev_if_pos rfl ?_)
      rw [hbest]
      simp only [Option.bind_some]
      exact hend
    cases f with
    | zero =>
      have := h20 (by omega)
      exact ev_if_neg (by omega) hend
    | succ f =>
      unfold thr
      by_cases hp : bnd rows d > 0
      · refine ev_if_pos hp ?_
        obtain ⟨hI2, hL2⟩ := thrStep_spec rows d rows L (fun _ h => h) hI
        have ih := implThr_l0 rows hrows hg many hm hm10 f (thrStep rows d L rows) (d + 1) (by omega) (by omega) hI2
        have hgo : Ev (fun k => impl_Threshold.j2 k rows many L (d : Int) false) (thrRes many (thr rows many f (thrStep rows d L rows) (d + 1))) := by
          refine Ev.step (fun k => impl_Threshold.j2.eq_2 ..) (ev_if_neg (by simp) ?_)
          rw [← wrap_succ (i := d) (by omega)] at ih
          exact implThr_l1 rows hrows hg many d (by omega) _ rows [] L rfl (by omega) hI ih
        have hlen : (((sortS L).take (min many L.length).toNat).length : Int) = min many L.length := by
          rw [List.length_take, sortS_length]; omega
        by_cases hlt : (L.length : Int) < many
        · rw [if_pos ⟨hp, fun h => by omega⟩]
          exact ev_if_neg (by omega) hgo
        · refine ev_if_pos (by omega) ?_
          rw [wrap_id (x := many - 1) (by omega) (by omega)]
          refine ev_if_pos (by omega) (ev_if_pos (by omega) (ev_bind hb ?_))
          have hrd : rd_T107 ((sortS L).take (min many L.length).toNat) (many - 1) = rd_T107 (sortS L) (many - 1) := by
            show ((sortS L).take (min many L.length).toNat).getD (many - 1).toNat _ = (sortS L).getD (many - 1).toNat _
            rw [List.getD_eq_getElem?_getD, List.getD_eq_getElem?_getD, List.getElem?_take_of_lt (by omega)]
          rw [hrd]
          by_cases hc : (rd_T107 (sortS L) (many - 1)).f1 > bnd rows d
          · rw [if_neg (fun h => h.2 ⟨by omega, hc⟩), decide_eq_true hc]
            exact hend2
          · rw [if_pos ⟨hp, fun h => hc h.2⟩, decide_eq_false hc]
            exact hgo
      · rw [if_neg (fun h => hp h.1)]
        exact ev_if_neg hp hend
theorem thr_spec (rows : List (List Sc)) (hrows : rows.length ≤ 4) (many : Int) : ∀ (f : Nat) (L : List Sc) (d : Nat), L.length ≤ 4 * d → Inv rows L → Inv rows (thr rows many f L d).1 ∧ (thr rows many f L d).1.length ≤ 4 * (d + f) ∧ d ≤ (thr rows many f L d).2 ∧ (thr rows many f L d).2 ≤ d + f
  | 0, L, d, hL, hI => ⟨hI, by simpa [thr] using hL, Nat.le_refl _, Nat.le_refl _⟩
  | f + 1, L, d, hL, hI => by
    unfold thr
    split
    · obtain ⟨hI2, hL2⟩ := thrStep_spec rows d rows L (fun _ h => h) hI
      obtain ⟨h1, h2, h3, h4⟩ := thr_spec rows hrows many f (thrStep rows d L rows) (d + 1) (by omega) hI2
      exact ⟨h1, by omega, by omega, by omega⟩
    · exact ⟨hI, by show L.length ≤ _; omega, Nat.le_refl _, by show d ≤ _; omega⟩
def threshold (rows : List (List Sc)) (many : Int) : List Sc × Int × Bool :=
  if areRows rows = true ∧ 1 ≤ many ∧ many ≤ 10 then thrRes many (thr rows many 21 [] 0) else ([], 0, false)
theorem sortS_nil : sortS ([] : List Sc) = [] := List.eq_nil_of_length_eq_zero (by rw [sortS_length]; rfl)
theorem specThr_ev (rows : List (List Sc)) (hl : rows.length ≤ 1048576) (hr : ∀ r ∈ rows, r.length ≤ 1048576) (many : Int) : Ev (fun k => spec_Threshold.f k rows many) (threshold rows many) := by
  unfold spec_Threshold.f threshold
  refine ev_bind (specRows_ev rows hl hr) ?_
  simp only [specIn_eq, Option.bind_some]
  cases ha : areRows rows with
  | false =>
    rw [if_neg (by simp)]
    exact ev_if_neg (by simp) (Ev.step (fun k => spec_Threshold.j0.eq_2 ..) (ev_if_pos rfl (ev_some rfl)))
  | true =>
    refine ev_if_pos rfl ?_
    by_cases hm : 1 ≤ many ∧ many ≤ 10
    · rw [if_pos ⟨rfl, hm⟩, decide_eq_true hm.1, decide_eq_true hm.2]
      obtain ⟨⟨h1, h2⟩, hg⟩ := areRows_spec ha
      refine Ev.step (fun k => spec_Threshold.j0.eq_2 ..) (ev_if_neg (by simp) ?_)
      have h := specThr_l0 rows h2 hg many hm.1 21 [] 0 rfl (Nat.le_refl _) (Inv.nil rows)
      rw [sortS_nil] at h
      exact h
    · rw [if_neg (fun h => hm h.2)]
      refine Ev.step (fun k => spec_Threshold.j0.eq_2 ..) (ev_if_pos ?_ (ev_some rfl))
      simp only [Bool.not_eq_true', Bool.and_eq_false_iff, decide_eq_false_iff_not]
      omega
theorem implThr_ev (rows : List (List Sc)) (hl : rows.length ≤ 1048576) (hr : ∀ r ∈ rows, r.length ≤ 1048576) (many : Int) : Ev (fun k => impl_Threshold.f k rows many) (threshold rows many) := by
  unfold impl_Threshold.f threshold
  refine ev_bind (implRows_ev rows hl hr) ?_
  simp only [implIn_eq, Option.bind_some]
  cases ha : areRows rows with
  | false =>
    rw [if_neg (by simp)]
    exact ev_if_neg (by simp) (Ev.step (fun k => impl_Threshold.j0.eq_2 ..) (ev_if_pos rfl (ev_some rfl)))
  | true =>
    refine ev_if_pos rfl ?_
    by_cases hm : 1 ≤ many ∧ many ≤ 10
    · rw [if_pos ⟨rfl, hm⟩, decide_eq_true hm.1, decide_eq_true hm.2]
      obtain ⟨⟨h1, h2⟩, hg⟩ := areRows_spec ha
      refine Ev.step (fun k => impl_Threshold.j0.eq_2 ..) (ev_if_neg (by simp) ?_)
      exact implThr_l0 rows h2 hg many hm.1 hm.2 21 [] 0 rfl (Nat.le_refl _) (Inv.nil rows)
    · rw [if_neg (fun h => hm h.2)]
      refine Ev.step (fun k => impl_Threshold.j0.eq_2 ..) (ev_if_pos ?_ (ev_some rfl))
      simp only [Bool.not_eq_true', Bool.and_eq_false_iff, decide_eq_false_iff_not]
      omega
theorem threshold_length (rows : List (List Sc)) (many : Int) : (threshold rows many).1.length ≤ 100 := by
  unfold threshold
  split
  · rename_i h
    obtain ⟨⟨_, h2⟩, _⟩ := areRows_spec h.1
    obtain ⟨_, h3, _⟩ := thr_spec rows h2 many 21 [] 0 (Nat.le_refl _) (Inv.nil rows)
    show ((sortS _).take _).length ≤ 100
    rw [List.length_take, sortS_length]
    omega
  · simp

theorem FnExactThreshold : laws_FnExactThreshold.Pure := by
  intro l many hw _
  obtain ⟨t, ht, hall⟩ := szScoreSS_ev l hw.1 (fun x hx => (hw.2 x hx).1)
  by_cases hn : t < 0
  · obtain ⟨k, hk⟩ := ht
    exact ⟨k, t, hk k (Nat.le_refl _), .inl hn⟩
  obtain ⟨h1, h2, h3⟩ := hall (by omega)
  have hto := toScoreSS_ev l h1 h2
  have hX1 : (l.map fun r => r.map toScore).length ≤ 1048576 := by simpa using h1
  have hX2 : ∀ r ∈ (l.map fun r => r.map toScore), r.length ≤ 1048576 := by
    intro r hr
    obtain ⟨z, hz, rfl⟩ := List.mem_map.1 hr
    rw [List.length_map]
    exact h2 z hz
  have hX3 : sizes (l.map fun r => r.map toScore) ≤ 1048576 := by
    rw [sizes_sum, List.map_map]
    have e : (List.length ∘ fun r : List S151 => r.map toScore) = List.length := by funext r; simp
    rw [e]; exact h3
  revert hto hX1 hX2 hX3
  generalize (l.map fun r => r.map toScore) = X
  intro hto hX1 hX2 hX3
  have k1 := specThr_ev X hX1 hX2 many
  have k2 := implThr_ev X hX1 hX2 many
  have hR := threshold_length X many
  revert k1 k2 hR
  generalize threshold X many = B
  obtain ⟨G, dep, ok⟩ := B
  intro k1 k2 hR
  have hR : G.length ≤ 100 := hR
  have eG := eqScoreS_ev G (by omega)
  have eX := eqScoreSS_ev X hX1 hX2
  obtain ⟨L, mX⟩ := markScoreSS_ev X 1 (by omega) hX1
  have mG := markScoreS_ev G 1 (by omega)
  have hG := heldScoreS_ev G.length 1 (by omega)
  obtain ⟨K0, ht⟩ := ht
  obtain ⟨K1, hto⟩ := hto
  obtain ⟨K2, k1⟩ := k1
  obtain ⟨K3, k2⟩ := k2
  obtain ⟨K4, eG⟩ := eG
  obtain ⟨K5, eX⟩ := eX
  obtain ⟨K6, mX⟩ := mX
  obtain ⟨K7, mG⟩ := mG
  obtain ⟨K8, hG⟩ := hG
  have hK : ∃ K, K0 ≤ K ∧ K1 ≤ K ∧ K2 ≤ K ∧ K3 ≤ K ∧ K4 ≤ K ∧ K5 ≤ K ∧ K6 ≤ K ∧ K7 ≤ K ∧ K8 ≤ K := ⟨K0 + K1 + K2 + K3 + K4 + K5 + K6 + K7 + K8, by omega⟩
  obtain ⟨K, b0, b1, b2, b3, b4, b5, b6, b7, b8⟩ := hK
  exact ⟨K, t, ht K b0, .inr ⟨by omega, X, hto K b1, G, dep, ok, k1 K b2, G, k2 K b3, eG K b4, eX K b5, _, L, mX K b6, by omega, _, _, mG K b7, hG K b8, by omega, by omega, trivial⟩⟩

end Go.Proofs.Ytkijaolkfkgneaa.Pure
