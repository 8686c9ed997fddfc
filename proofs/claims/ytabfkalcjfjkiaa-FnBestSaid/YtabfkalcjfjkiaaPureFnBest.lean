/- The law FnBest holds at every input; no conditions. -/
import Derived.Test.YtabfkalcjfjkiaaQFnBestx14
import Derived.Test.YtabfkalcjfjkiaaBase
import Derived.OpenShut
namespace Go.Proofs.Ytabfkalcjfjkiaa.Pure
open Go.RowKit Go.Proofs.Ytabfkalcjfjkiaa.QFnBest Go.Proofs.YtabfkalcjfjkiaaW.PrintWords Go.Proofs.YtabfkalcjfjkiaaW.PrintLast Go.Proofs.Ytabfkalcjfjkiaa.Base
set_option linter.unusedSimpArgs false
set_option linter.unusedVariables false

/-! ### Scores: rows of rows; totals; the best ones -/
abbrev Sc := S33
def better (a b : Sc) : Bool := decide (b.f1 < a.f1) || ((a.f1 == b.f1) && decide (a.f0 < b.f0))
theorem better_iff (a b : Sc) : better a b = true ↔ b.f1 < a.f1 ∨ (a.f1 = b.f1 ∧ a.f0 < b.f0) := by simp [better]
theorem specBetter_eq (a b : Sc) : spec_l10Better.f a.f0 a.f1 b.f0 b.f1 = some (better a b) := by
  unfold spec_l10Better.f better
  by_cases h : a.f1 > b.f1
  · rw [if_pos h]; simp [h]
  · rw [if_neg h]
    by_cases h2 : a.f1 = b.f1
    · rw [if_pos h2]; simp [h2]
    · rw [if_neg h2]; simp [h2]; omega
theorem implBetter_eq (a b : Sc) : impl_Score_isBetter.f a.f0 a.f1 b.f0 b.f1 = some (better a b) := by
  unfold impl_Score_isBetter.f better
  by_cases h : a.f1 > b.f1
  · rw [if_pos h]; simp [h]
  · rw [if_neg h]
    by_cases h2 : a.f1 = b.f1
    · rw [if_pos h2]; simp [h2]
    · rw [if_neg h2]; simp [h2]; omega
theorem specIn_eq (a b c : Int) : spec_l1In.f a b c = some (decide (b ≤ a) && decide (a ≤ c)) := by
  unfold spec_l1In.f
  by_cases h : a ≥ b
  · rw [if_pos h]; simp [h]
  · rw [if_neg h]; simp; omega
theorem implIn_eq (a b c : Int) : impl_within.f a b c = some (decide (b ≤ a) && decide (a ≤ c)) := by
  unfold impl_within.f
  by_cases h : a ≥ b
  · rw [if_pos h]; simp [h]
  · rw [if_neg h]; simp; omega
def inRange (x : Sc) : Bool := (decide (0 ≤ x.f0) && decide (x.f0 ≤ 99)) && (decide (1 ≤ x.f1) && decide (x.f1 ≤ 1000))
def okLast (pre : List Sc) (x : Sc) : Bool := match pre.getLast? with
  | none => true
  | some p => better p x
def newDoc (pre : List Sc) (d : Int) : Bool := pre.all fun y => !(y.f0 == d)
def goodFrom : List Sc → List Sc → Bool
  | _, [] => true
  | pre, x :: r => (inRange x && (okLast pre x && newDoc pre x.f0)) && goodFrom (pre ++ [x]) r
def goodRow (l : List Sc) : Bool := goodFrom [] l && decide (l.length ≤ 20)
theorem take_pre {α : Type} {l pre rest : List α} (h : l = pre ++ rest) : l.take pre.length = pre := by rw [h]; simp
theorem specGood_inner (l : List Sc) (n i : Int) (R : Bool) (doc by_ : Int) (hR : Ev (fun k => spec_GoodRow.l0 k l l n (wrap64 (i + 1))) R) (p : List Sc) (hp : p.length ≤ 1048576) : ∀ (rest pre : List Sc), p = pre ++ rest →
    Ev (fun k => spec_GoodRow.l1 k l l n i p (p.length : Int) (pre.length : Int) doc by_) (newDoc rest doc && R)
  | [], pre, h => by
    refine Ev.step (fun k => spec_GoodRow.l1.eq_2 ..) (ev_if_neg (by rw [h, List.append_nil]; omega) ?_)
    simpa [newDoc] using hR
  | y :: rest, pre, h => by
    obtain ⟨hi, hx⟩ := mid_at h
    have hx : rd_T33 p pre.length = y := hx _
    refine Ev.step (fun k => spec_GoodRow.l1.eq_2 ..) (ev_if_pos (by omega) (ev_if_pos (by omega) (ev_if_pos (by omega) ?_)))
    simp only [hx]
    by_cases e : doc = y.f0
    · exact ev_if_pos e (ev_some (by simp [newDoc, e]))
    · refine ev_if_neg e ?_
      rw [wrap_succ (by omega)]
      have ih := specGood_inner l n i R doc by_ hR p hp rest (pre ++ [y]) (by rw [h]; simp)
      rw [List.length_append, List.length_singleton] at ih
      refine ev_eq ih ?_
      have e2 : (y.f0 == doc) = false := by simpa using fun h2 => e h2.symm
      simp [newDoc, e2]
theorem specGood_j1 (l : List Sc) (hl : l.length ≤ 1048576) (n : Int) (b R : Bool) (doc by_ : Int) (pre rest : List Sc) (h : l = pre ++ rest) (hR : Ev (fun k => spec_GoodRow.l0 k l l n (wrap64 ((pre.length : Int) + 1))) R) :
    Ev (fun k => spec_GoodRow.j1 k l (pre.length : Int) l n (pre.length : Int) b doc by_) (!b && (newDoc pre doc && R)) := by
  have hpl : pre.length ≤ l.length := by rw [h, List.length_append]; omega
  refine Ev.step (fun k => spec_GoodRow.j1.eq_2 ..) ?_
  cases b with
  | true => exact ev_if_pos rfl (ev_some (by simp))
  | false =>
    refine ev_if_neg (by simp) (ev_if_pos (by omega) (ev_if_pos (by omega) ?_))
    rw [Int.toNat_natCast, take_pre h]
    simp only [Option.bind_some]
    have := specGood_inner l n pre.length R doc by_ hR pre (by omega) pre [] rfl
    simpa using this
theorem specGood_loop (l : List Sc) (hl : l.length ≤ 1048576) : ∀ (rest pre : List Sc), l = pre ++ rest →
    Ev (fun k => spec_GoodRow.l0 k l l (l.length : Int) (pre.length : Int)) (goodFrom pre rest && decide (l.length ≤ 20))
  | [], pre, h => by
    refine Ev.step (fun k => spec_GoodRow.l0.eq_2 ..) (ev_if_neg (by rw [h, List.append_nil]; omega) (ev_some ?_))
    simp only [goodFrom, Bool.true_and]
    congr 1
    exact propext (by omega)
  | x :: rest, pre, h => by
    obtain ⟨hi, hx⟩ := mid_at h
    have hx : rd_T33 l pre.length = x := hx _
    have ih := specGood_loop l hl rest (pre ++ [x]) (by rw [h]; simp)
    rw [List.length_append, List.length_singleton] at ih
    have hw : wrap64 ((pre.length : Int) + 1) = ((pre.length + 1 : Nat) : Int) := wrap_succ (by omega)
    rw [← hw] at ih
    have J := fun b => specGood_j1 l hl l.length b _ x.f0 x.f1 pre (x :: rest) h ih
    refine Ev.step (fun k => spec_GoodRow.l0.eq_2 ..) (ev_if_pos (by omega) (ev_if_pos (by omega) (ev_if_pos (by omega) ?_)))
    simp only [hx, specIn_eq, Option.bind_some, goodFrom, inRange]
    cases c1 : (decide (0 ≤ x.f0) && decide (x.f0 ≤ 99)) with
    | false => exact ev_if_neg (by simp) (ev_eq (J true) (by simp))
    | true =>
      refine ev_if_pos rfl ?_
      cases c2 : (decide (1 ≤ x.f1) && decide (x.f1 ≤ 1000)) with
      | false => exact ev_if_neg (by simp) (ev_eq (J true) (by simp))
      | true =>
        refine ev_if_pos rfl ?_
        rcases nil_or_snoc pre with rfl | ⟨q, p, rfl⟩
        · exact ev_if_neg (by simp) (ev_eq (J false) (by simp [okLast, Bool.and_assoc]))
        · have hp : rd_T33 l (((q ++ [p]).length : Int) - 1) = p := last_at (rest := x :: rest) h _
          have hpos : 0 < (q ++ [p]).length := by simp
          refine ev_if_pos (by omega) ?_
          rw [wrap_id (x := ((q ++ [p]).length : Int) - 1) (by omega) (by omega)]
          simp only [hp, specBetter_eq, Option.bind_some]
          refine ev_if_pos (by omega) (ev_if_pos (by omega) ?_)
          refine ev_eq (J (!(better p x))) ?_
          simp [okLast, Bool.and_assoc]
theorem specGood_ev (l : List Sc) (hl : l.length ≤ 1048576) : Ev (fun k => spec_GoodRow.f k l) (goodRow l) := specGood_loop l hl l [] rfl
def firstBy : List Sc → Int → Int
  | [], _ => 0
  | y :: l, d => if y.f0 = d then y.f1 else firstBy l d
theorem scoreIn_loop (d : Int) (l : List Sc) (hl : l.length ≤ 1048576) : ∀ (rest pre : List Sc), l = pre ++ rest → Ev (fun k => impl_scoreIn.l0 k d l (l.length : Int) (pre.length : Int)) (firstBy rest d)
  | [], pre, h => Ev.step (fun k => impl_scoreIn.l0.eq_2 ..) (ev_if_neg (by rw [h, List.append_nil]; omega) (ev_some rfl))
  | y :: rest, pre, h => by
    obtain ⟨hi, hx⟩ := mid_at h
    have hx : rd_T33 l pre.length = y := hx _
    refine Ev.step (fun k => impl_scoreIn.l0.eq_2 ..) (ev_if_pos (by omega) (ev_if_pos (by omega) (ev_if_pos (by omega) ?_)))
    simp only [hx, firstBy]
    by_cases e : y.f0 = d
    · rw [if_pos e]
      exact ev_if_pos e (ev_some rfl)
    · rw [if_neg e]
      refine ev_if_neg e ?_
      rw [wrap_succ (by omega)]
      have ih := scoreIn_loop d l hl rest (pre ++ [y]) (by rw [h]; simp)
      rwa [List.length_append, List.length_singleton] at ih
theorem scoreIn_ev (d : Int) (l : List Sc) (hl : l.length ≤ 1048576) : Ev (fun k => impl_scoreIn.f k l d) (firstBy l d) := scoreIn_loop d l hl l [] rfl
theorem firstBy_pos (d : Int) : ∀ (l : List Sc), (∀ y ∈ l, 1 ≤ y.f1) → (firstBy l d > 0 ↔ newDoc l d = false)
  | [], _ => by simp [firstBy, newDoc]
  | y :: l, h => by
    have ih := firstBy_pos d l (fun z hz => h z (List.mem_cons_of_mem _ hz))
    have h1 := h y List.mem_cons_self
    unfold firstBy
    by_cases e : y.f0 = d
    · rw [if_pos e]; simp [newDoc, e]; omega
    · rw [if_neg e, ih]; simp [newDoc, e]
theorem implGood_loop (l : List Sc) (hl : l.length ≤ 1048576) : ∀ (rest pre : List Sc), l = pre ++ rest → (∀ y ∈ pre, 1 ≤ y.f1) →
    Ev (fun k => impl_GoodRow.l0 k l l (l.length : Int) (pre.length : Int)) (goodFrom pre rest)
  | [], pre, h, hb => Ev.step (fun k => impl_GoodRow.l0.eq_2 ..) (ev_if_neg (by rw [h, List.append_nil]; omega) (ev_some rfl))
  | x :: rest, pre, h, hb => by
    obtain ⟨hi, hx⟩ := mid_at h
    have hx : rd_T33 l pre.length = x := hx _
    have hS := scoreIn_ev x.f0 pre (by omega)
    refine Ev.step (fun k => impl_GoodRow.l0.eq_2 ..) (ev_if_pos (by omega) (ev_if_pos (by omega) (ev_if_pos (by omega) ?_)))
    simp only [hx, implIn_eq, Option.bind_some, goodFrom, inRange, Int.toNat_natCast, take_pre h]
    cases c1 : (decide (0 ≤ x.f0) && decide (x.f0 ≤ 99)) with
    | false => exact ev_if_neg (by simp) (ev_some (by simp))
    | true =>
      refine ev_if_pos rfl ?_
      cases c2 : (decide (1 ≤ x.f1) && decide (x.f1 ≤ 1000)) with
      | false => exact ev_if_neg (by simp) (ev_some (by simp))
      | true =>
        refine ev_if_pos rfl ?_
        have h1 : 1 ≤ x.f1 := by simp at c2; omega
        have ih := implGood_loop l hl rest (pre ++ [x]) (by rw [h]; simp) (fun y hy => by
          rcases List.mem_append.1 hy with hy | hy
          · exact hb y hy
          · rw [List.mem_singleton.1 hy]; exact h1)
        rw [List.length_append, List.length_singleton, ← wrap_succ (i := pre.length) (by omega)] at ih
        have K : Ev (fun k => if firstBy pre x.f0 > 0 then (some false) else (impl_GoodRow.l0 k l l (l.length : Int) (wrap64 ((pre.length : Int) + 1)))) (newDoc pre x.f0 && goodFrom (pre ++ [x]) rest) := by
          by_cases hf : firstBy pre x.f0 > 0
          · exact ev_if_pos hf (ev_some (by rw [(firstBy_pos _ _ hb).1 hf]; rfl))
          · refine ev_if_neg hf (ev_eq ih ?_)
            cases hn : newDoc pre x.f0 with
            | true => simp
            | false => exact absurd ((firstBy_pos _ _ hb).2 hn) hf
        rcases nil_or_snoc pre with rfl | ⟨q, p, rfl⟩
        · refine ev_if_neg (by simp) (ev_if_pos (by omega) (ev_bind hS ?_))
          refine ev_eq K ?_
          simp [okLast]
        · have hp : rd_T33 l (((q ++ [p]).length : Int) - 1) = p := last_at (rest := x :: rest) h _
          have hpos : 0 < (q ++ [p]).length := by simp
          refine ev_if_pos (by omega) ?_
          rw [wrap_id (x := ((q ++ [p]).length : Int) - 1) (by omega) (by omega)]
          simp only [hp, implBetter_eq, Option.bind_some]
          refine ev_if_pos (by omega) (ev_if_pos (by omega) ?_)
          have e : okLast (q ++ [p]) x = better p x := by simp [okLast]
          rw [e]
          cases hbt : better p x with
          | false => exact ev_if_neg (by simp) (ev_some (by simp))
          | true =>
            refine ev_if_pos rfl (ev_if_pos (by omega) (ev_bind hS ?_))
            exact ev_eq K (by simp)
theorem implGood_ev (l : List Sc) (hl : l.length ≤ 1048576) : Ev (fun k => impl_GoodRow.f k l) (goodRow l) := by
  unfold impl_GoodRow.f goodRow
  by_cases h : (l.length : Int) > 20
  · exact ev_if_pos h (ev_some (by rw [decide_eq_false (by omega)]; simp))
  · exact ev_if_neg h (ev_eq (implGood_loop l hl l [] rfl (by simp)) (by rw [decide_eq_true (by omega)]; simp))
/-! #### rows -/
def areRows (rows : List (List Sc)) : Bool := (decide (1 ≤ rows.length) && decide (rows.length ≤ 4)) && rows.all goodRow
theorem specRows_loop (l : List (List Sc)) (hl : l.length ≤ 1048576) (hr : ∀ r ∈ l, r.length ≤ 1048576) : ∀ (rest pre : List (List Sc)), l = pre ++ rest →
    Ev (fun k => spec_l10Rows.l0 k l l (l.length : Int) (pre.length : Int)) (rest.all goodRow && (decide (1 ≤ l.length) && decide (l.length ≤ 4)))
  | [], pre, h => by
    refine Ev.step (fun k => spec_l10Rows.l0.eq_2 ..) (ev_if_neg (by rw [h, List.append_nil]; omega) ?_)
    simp only [specIn_eq, Option.bind_some]
    refine ev_some ?_
    simp only [List.all_nil, Bool.true_and]
    congr 1
    · congr 1; exact propext (by omega)
    · congr 1; exact propext (by omega)
  | x :: rest, pre, h => by
    obtain ⟨hi, hx⟩ := mid_at h
    have hx : rd_L3 l pre.length = x := hx _
    have hg := specGood_ev x (hr x (by rw [h]; simp))
    refine Ev.step (fun k => spec_l10Rows.l0.eq_2 ..) (ev_if_pos (by omega) (ev_if_pos (by omega) (ev_if_pos (by omega) ?_)))
    simp only [hx]
    refine ev_bind hg ?_
    cases hgx : goodRow x with
    | false => exact ev_if_neg (by simp) (ev_some (by simp [hgx]))
    | true =>
      refine ev_if_pos rfl ?_
      rw [wrap_succ (by omega)]
      have ih := specRows_loop l hl hr rest (pre ++ [x]) (by rw [h]; simp)
      rw [List.length_append, List.length_singleton] at ih
      exact ev_eq ih (by simp [hgx])
theorem specRows_ev (l : List (List Sc)) (hl : l.length ≤ 1048576) (hr : ∀ r ∈ l, r.length ≤ 1048576) : Ev (fun k => spec_l10Rows.f k l) (areRows l) :=
  ev_eq (specRows_loop l hl hr l [] rfl) (by unfold areRows; exact Bool.and_comm _ _)
theorem implIndex_loop (l : List (List Sc)) (hl : l.length ≤ 1048576) (hr : ∀ r ∈ l, r.length ≤ 1048576) : ∀ (rest pre : List (List Sc)), l = pre ++ rest →
    ∃ i : Int, Ev (fun k => slices_IndexFunc_impl_Score__impl_areRows_1.l0 k l (l.length : Int) (pre.length : Int)) i ∧ (i ≥ 0 ↔ rest.all goodRow = false)
  | [], pre, h => ⟨-1, Ev.step (fun k => slices_IndexFunc_impl_Score__impl_areRows_1.l0.eq_2 ..) (ev_if_neg (by rw [h, List.append_nil]; omega) (ev_some rfl)), by simp⟩
  | x :: rest, pre, h => by
    obtain ⟨hi, hx⟩ := mid_at h
    have hx : rd_L3 l pre.length = x := hx _
    have hg : Ev (fun k => impl_areRows_1.f k x) (!goodRow x) := by
      unfold impl_areRows_1.f
      exact ev_bind (implGood_ev x (hr x (by rw [h]; simp))) (ev_some rfl)
    cases hgx : goodRow x with
    | false =>
      refine ⟨pre.length, Ev.step (fun k => slices_IndexFunc_impl_Score__impl_areRows_1.l0.eq_2 ..) (ev_if_pos (by omega) (ev_if_pos (by omega) (ev_if_pos (by omega) ?_))), by simp [hgx]⟩
      simp only [hx]
      exact ev_bind hg (ev_if_pos (by simp [hgx]) (ev_some rfl))
    | true =>
      obtain ⟨i, ih, hiff⟩ := implIndex_loop l hl hr rest (pre ++ [x]) (by rw [h]; simp)
      rw [List.length_append, List.length_singleton, ← wrap_succ (i := pre.length) (by omega)] at ih
      refine ⟨i, Ev.step (fun k => slices_IndexFunc_impl_Score__impl_areRows_1.l0.eq_2 ..) (ev_if_pos (by omega) (ev_if_pos (by omega) (ev_if_pos (by omega) ?_))), by simp [hgx, hiff]⟩
      simp only [hx]
      exact ev_bind hg (ev_if_neg (by simp [hgx]) ih)
theorem implRows_ev (l : List (List Sc)) (hl : l.length ≤ 1048576) (hr : ∀ r ∈ l, r.length ≤ 1048576) : Ev (fun k => impl_areRows.f k l) (areRows l) := by
  unfold impl_areRows.f areRows
  simp only [implIn_eq, Option.bind_some]
  have e : (decide (1 ≤ (l.length : Int)) && decide ((l.length : Int) ≤ 4)) = (decide (1 ≤ l.length) && decide (l.length ≤ 4)) := by
    congr 1
    · congr 1; exact propext (by omega)
    · congr 1; exact propext (by omega)
  rw [e]
  cases hc : (decide (1 ≤ l.length) && decide (l.length ≤ 4)) with
  | false => exact ev_if_neg (by simp) (ev_some (by simp))
  | true =>
    refine ev_if_pos rfl ?_
    obtain ⟨i, hi, hiff⟩ := implIndex_loop l hl hr l [] rfl
    have hI : Ev (fun k => slices_ContainsFunc_impl_Score__impl_areRows_1.f k l) (decide (i ≥ 0)) := by
      unfold slices_ContainsFunc_impl_Score__impl_areRows_1.f slices_IndexFunc_impl_Score__impl_areRows_1.f
      exact ev_bind hi (ev_some rfl)
    refine ev_bind hI (ev_some ?_)
    cases ha : l.all goodRow with
    | false => rw [decide_eq_true (hiff.2 ha)]; rfl
    | true => rw [decide_eq_false (fun h => by rw [hiff.1 h] at ha; cases ha)]; rfl
/-! #### what a good row is -/
theorem goodFrom_mem : ∀ (rest pre : List Sc), goodFrom pre rest = true → ∀ x ∈ rest, inRange x = true
  | [], _, _, x, hx => by cases hx
  | y :: rest, pre, h, x, hx => by
    simp only [goodFrom, Bool.and_eq_true] at h
    rcases List.mem_cons.1 hx with rfl | hx
    · exact h.1.1
    · exact goodFrom_mem rest _ h.2 x hx
theorem goodFrom_new : ∀ (rest pre : List Sc), goodFrom pre rest = true → (pre.map (·.f0)).Nodup → ((pre ++ rest).map (·.f0)).Nodup
  | [], pre, _, hn => by simpa using hn
  | y :: rest, pre, h, hn => by
    simp only [goodFrom, Bool.and_eq_true] at h
    have hnew : ∀ z ∈ pre, z.f0 ≠ y.f0 := by
      have := h.1.2.2
      unfold newDoc at this
      rw [List.all_eq_true] at this
      intro z hz
      simpa using this z hz
    have ih := goodFrom_new rest (pre ++ [y]) h.2 (by
      rw [List.map_append, List.nodup_append]
      refine ⟨hn, by simp, ?_⟩
      intro a ha b hb
      obtain ⟨z, hz, rfl⟩ := List.mem_map.1 ha
      simp only [List.map_cons, List.map_nil, List.mem_singleton] at hb
      rw [hb]
      exact hnew z hz)
    simpa using ih
theorem inRange_iff (x : Sc) : inRange x = true ↔ (0 ≤ x.f0 ∧ x.f0 ≤ 99) ∧ 1 ≤ x.f1 ∧ x.f1 ≤ 1000 := by simp [inRange]
theorem goodRow_spec {l : List Sc} (h : goodRow l = true) : (∀ x ∈ l, inRange x = true) ∧ (l.map (·.f0)).Nodup ∧ l.length ≤ 20 := by
  unfold goodRow at h
  simp only [Bool.and_eq_true, decide_eq_true_eq] at h
  exact ⟨goodFrom_mem l [] h.1, by simpa using goodFrom_new l [] h.1 (by simp), h.2⟩
/-! #### totals -/
def rowTot : List Sc → Int → Int
  | [], _ => 0
  | x :: l, d => (if x.f0 = d then x.f1 else 0) + rowTot l d
def total : List (List Sc) → Int → Int
  | [], _ => 0
  | r :: rs, d => rowTot r d + total rs d
theorem rowTot_bound (d : Int) : ∀ (l : List Sc), (∀ x ∈ l, inRange x = true) → 0 ≤ rowTot l d ∧ rowTot l d ≤ 1000 * (l.length : Int)
  | [], _ => by simp [rowTot]
  | x :: l, h => by
    have ih := rowTot_bound d l (fun z hz => h z (List.mem_cons_of_mem _ hz))
    have h1 := (inRange_iff x).1 (h x List.mem_cons_self)
    unfold rowTot
    rw [List.length_cons]
    split <;> omega
theorem total_bound (d : Int) : ∀ (rows : List (List Sc)), (∀ r ∈ rows, goodRow r = true) → 0 ≤ total rows d ∧ total rows d ≤ 20000 * (rows.length : Int)
  | [], _ => by simp [total]
  | r :: rs, h => by
    have ih := total_bound d rs (fun z hz => h z (List.mem_cons_of_mem _ hz))
    obtain ⟨h1, _, h3⟩ := goodRow_spec (h r List.mem_cons_self)
    have h2 := rowTot_bound d r h1
    unfold total
    rw [List.length_cons]
    omega
theorem rowTot_zero (d : Int) : ∀ (l : List Sc), (∀ x ∈ l, x.f0 ≠ d) → rowTot l d = 0
  | [], _ => rfl
  | x :: l, h => by
    unfold rowTot
    rw [if_neg (h x List.mem_cons_self), rowTot_zero d l (fun z hz => h z (List.mem_cons_of_mem _ hz))]
    rfl
theorem firstBy_tot (d : Int) : ∀ (l : List Sc), (l.map (·.f0)).Nodup → firstBy l d = rowTot l d
  | [], _ => rfl
  | x :: l, h => by
    rw [List.map_cons, List.nodup_cons] at h
    unfold firstBy rowTot
    by_cases e : x.f0 = d
    · rw [if_pos e, if_pos e, rowTot_zero d l (fun z hz e2 => h.1 (List.mem_map.2 ⟨z, hz, by rw [e, e2]⟩))]
      omega
    · rw [if_neg e, if_neg e, firstBy_tot d l h.2]
      omega
theorem specTotal_inner (d : Int) (rows : List (List Sc)) (n j : Int) (R : Int) (l : List Sc) (hl : l.length ≤ 20) (hin : ∀ x ∈ l, inRange x = true) : ∀ (rest pre : List Sc) (acc : Int), l = pre ++ rest → 0 ≤ acc → acc + rowTot rest d ≤ 1000000000 →
    Ev (fun k => spec_l10Total.l0 k d (acc + rowTot rest d) rows n (wrap64 (j + 1))) R → Ev (fun k => spec_l10Total.l1 k d acc rows n j l (l.length : Int) (pre.length : Int)) R
  | [], pre, acc, h, ha, hb, hR => by
    refine Ev.step (fun k => spec_l10Total.l1.eq_2 ..) (ev_if_neg (by rw [h, List.append_nil]; omega) ?_)
    simpa [rowTot] using hR
  | x :: rest, pre, acc, h, ha, hb, hR => by
    obtain ⟨hi, hx⟩ := mid_at h
    have hx : rd_T33 l pre.length = x := hx _
    have hxr := (inRange_iff x).1 (hin x (by rw [h]; simp))
    have hrest := rowTot_bound d rest (fun z hz => hin z (by rw [h]; simp [hz]))
    unfold rowTot at hb hR
    refine Ev.step (fun k => spec_l10Total.l1.eq_2 ..) (ev_if_pos (by omega) (ev_if_pos (by omega) (ev_if_pos (by omega) ?_)))
    simp only [hx]
    rw [wrap_succ (i := pre.length) (by omega)]
    by_cases e : x.f0 = d
    · rw [if_pos e] at hb hR
      refine ev_if_pos e ?_
      rw [wrap_id (x := acc + x.f1) (by omega) (by omega)]
      have ih := specTotal_inner d rows n j R l hl hin rest (pre ++ [x]) (acc + x.f1) (by rw [h]; simp) (by omega) (by omega) (by rw [show acc + x.f1 + rowTot rest d = acc + (x.f1 + rowTot rest d) by omega]; exact hR)
      rwa [List.length_append, List.length_singleton] at ih
    · rw [if_neg e] at hb hR
      refine ev_if_neg e ?_
      have ih := specTotal_inner d rows n j R l hl hin rest (pre ++ [x]) acc (by rw [h]; simp) (by omega) (by omega) (by rw [show acc + rowTot rest d = acc + (0 + rowTot rest d) by omega]; exact hR)
      rwa [List.length_append, List.length_singleton] at ih
theorem specTotal_loop (d : Int) (rows : List (List Sc)) (hn : rows.length ≤ 4) (hg : ∀ r ∈ rows, goodRow r = true) : ∀ (rest pre : List (List Sc)) (acc : Int), rows = pre ++ rest → 0 ≤ acc → acc ≤ 20000 * (pre.length : Int) →
    Ev (fun k => spec_l10Total.l0 k d acc rows (rows.length : Int) (pre.length : Int)) (acc + total rest d)
  | [], pre, acc, h, h0, h1 => Ev.step (fun k => spec_l10Total.l0.eq_2 ..) (ev_if_neg (by rw [h, List.append_nil]; omega) (ev_some (by simp [total])))
  | r :: rest, pre, acc, h, h0, h1 => by
    obtain ⟨hi, hx⟩ := mid_at h
    have hx : rd_L3 rows pre.length = r := hx _
    obtain ⟨g1, g2, g3⟩ := goodRow_spec (hg r (by rw [h]; simp))
    have hb := rowTot_bound d r g1
    refine Ev.step (fun k => spec_l10Total.l0.eq_2 ..) (ev_if_pos (by omega) (ev_if_pos (by omega) (ev_if_pos (by omega) ?_)))
    simp only [hx]
    refine specTotal_inner d rows rows.length pre.length _ r g3 g1 r [] acc rfl h0 (by omega) ?_
    have ih := specTotal_loop d rows hn hg rest (pre ++ [r]) (acc + rowTot r d) (by rw [h]; simp) (by omega) (by rw [List.length_append, List.length_singleton]; omega)
    rw [List.length_append, List.length_singleton, ← wrap_succ (i := pre.length) (by omega)] at ih
    exact ev_eq ih (show acc + rowTot r d + total rest d = acc + (rowTot r d + total rest d) by omega)
theorem specTotal_ev (d : Int) (rows : List (List Sc)) (hn : rows.length ≤ 4) (hg : ∀ r ∈ rows, goodRow r = true) : Ev (fun k => spec_l10Total.f k rows d) (total rows d) :=
  ev_eq (specTotal_loop d rows hn hg rows [] 0 rfl (by omega) (by simp)) (by omega)
theorem implTotal_loop (d : Int) (rows : List (List Sc)) (hn : rows.length ≤ 4) (hg : ∀ r ∈ rows, goodRow r = true) : ∀ (rest pre : List (List Sc)) (acc : Int), rows = pre ++ rest → 0 ≤ acc → acc ≤ 20000 * (pre.length : Int) →
    Ev (fun k => impl_total.l0 k d acc rows (rows.length : Int) (pre.length : Int)) (acc + total rest d)
  | [], pre, acc, h, h0, h1 => Ev.step (fun k => impl_total.l0.eq_2 ..) (ev_if_neg (by rw [h, List.append_nil]; omega) (ev_some (by simp [total])))
  | r :: rest, pre, acc, h, h0, h1 => by
    obtain ⟨hi, hx⟩ := mid_at h
    have hx : rd_L3 rows pre.length = r := hx _
    obtain ⟨g1, g2, g3⟩ := goodRow_spec (hg r (by rw [h]; simp))
    have hb := rowTot_bound d r g1
    refine Ev.step (fun k => impl_total.l0.eq_2 ..) (ev_if_pos (by omega) (ev_if_pos (by omega) (ev_if_pos (by omega) ?_)))
    simp only [hx]
    refine ev_bind (scoreIn_ev d r (by omega)) ?_
    rw [firstBy_tot d r g2, wrap_id (x := acc + rowTot r d) (by omega) (by omega), wrap_succ (by omega)]
    have ih := implTotal_loop d rows hn hg rest (pre ++ [r]) (acc + rowTot r d) (by rw [h]; simp) (by omega) (by rw [List.length_append, List.length_singleton]; omega)
    rw [List.length_append, List.length_singleton] at ih
    exact ev_eq ih (show acc + rowTot r d + total rest d = acc + (rowTot r d + total rest d) by omega)
theorem implTotal_ev (d : Int) (rows : List (List Sc)) (hn : rows.length ≤ 4) (hg : ∀ r ∈ rows, goodRow r = true) : Ev (fun k => impl_total.f k rows d) (total rows d) :=
  ev_eq (implTotal_loop d rows hn hg rows [] 0 rfl (by omega) (by simp)) (by omega)
theorem areRows_spec {rows : List (List Sc)} (h : areRows rows = true) : (1 ≤ rows.length ∧ rows.length ≤ 4) ∧ ∀ r ∈ rows, goodRow r = true := by
  unfold areRows at h
  simp only [Bool.and_eq_true, decide_eq_true_eq, List.all_eq_true] at h
  exact h

/-! ### Scores: sorted, put, the best ones -/
def sortS (l : List Sc) : List Sc := l.mergeSort fun x y => !(better y x)
theorem le_trans_ (a b c : Sc) (h1 : (!(better b a)) = true) (h2 : (!(better c b)) = true) : (!(better c a)) = true := by
  simp only [Bool.not_eq_true', ← Bool.not_eq_true, better_iff] at h1 h2 ⊢
  omega
theorem le_total_ (a b : Sc) : ((!(better b a)) || (!(better a b))) = true := by
  cases h1 : better b a with
  | false => rfl
  | true =>
    cases h2 : better a b with
    | false => rfl
    | true =>
      rw [better_iff] at h1 h2
      omega
theorem le_anti (a b : Sc) (h1 : (!(better b a)) = true) (h2 : (!(better a b)) = true) : a = b := by
  simp only [Bool.not_eq_true', ← Bool.not_eq_true, better_iff] at h1 h2
  cases a; cases b
  simp only at h1 h2 ⊢
  congr 1 <;> omega
theorem sortS_perm (l : List Sc) : (sortS l).Perm l := List.mergeSort_perm _ _
theorem sortS_sorted (l : List Sc) : (sortS l).Pairwise fun a b => (!(better b a)) = true := List.pairwise_mergeSort le_trans_ le_total_ l
theorem sorted_unique {l m : List Sc} (h : l.Pairwise fun a b => (!(better b a)) = true) (k : m.Pairwise fun a b => (!(better b a)) = true) (p : l.Perm m) : l = m :=
  List.Perm.eq_of_pairwise (fun a b _ _ h1 h2 => le_anti a b h1 h2) h k p
theorem sortS_congr {l m : List Sc} (p : l.Perm m) : sortS l = sortS m := sorted_unique (sortS_sorted l) (sortS_sorted m) ((sortS_perm l).trans (p.trans (sortS_perm m).symm))
theorem sortS_length (l : List Sc) : (sortS l).length = l.length := (sortS_perm l).length_eq
def ins (x : Sc) : List Sc → List Sc
  | [] => [x]
  | y :: l => if better y x = true then y :: ins x l else x :: y :: l
theorem ins_perm (x : Sc) : ∀ l : List Sc, (ins x l).Perm (x :: l)
  | [] => List.Perm.refl _
  | y :: l => by
    unfold ins
    split
    · exact ((ins_perm x l).cons y).trans (List.Perm.swap x y l)
    · exact List.Perm.refl _
theorem ins_sorted (x : Sc) : ∀ l : List Sc, (l.Pairwise fun a b => (!(better b a)) = true) → (ins x l).Pairwise fun a b => (!(better b a)) = true
  | [], _ => by simp [ins]
  | y :: l, h => by
    rw [List.pairwise_cons] at h
    unfold ins
    by_cases hb : better y x = true
    · rw [if_pos hb, List.pairwise_cons]
      refine ⟨fun z hz => ?_, ins_sorted x l h.2⟩
      rcases List.mem_cons.1 ((ins_perm x l).mem_iff.1 hz) with rfl | hz
      · have := le_total_ y z
        rw [hb] at this
        simpa using this
      · exact h.1 z hz
    · rw [if_neg hb, List.pairwise_cons, List.pairwise_cons]
      have hxy : (!(better y x)) = true := by simpa using hb
      exact ⟨fun z hz => by
        rcases List.mem_cons.1 hz with rfl | hz
        · exact hxy
        · exact le_trans_ _ _ _ hxy (h.1 z hz), h.1, h.2⟩
theorem ins_sortS (x : Sc) (l : List Sc) : ins x (sortS l) = sortS (l ++ [x]) :=
  sorted_unique (ins_sorted x _ (sortS_sorted l)) (sortS_sorted _) ((ins_perm x _).trans (((sortS_perm l).cons x).trans ((List.perm_append_singleton x l).symm.trans (sortS_perm _).symm)))
theorem ins_length (x : Sc) (l : List Sc) : (ins x l).length = l.length + 1 := by rw [(ins_perm x l).length_eq]; rfl
theorem implSort_eq (l : List Sc) (h : l.length ≤ 1048576) : slices_SortFunc_impl_Score__impl_Score_compare.f l = some (sortS l) := by
  unfold slices_SortFunc_impl_Score__impl_Score_compare.f
  rw [if_pos (by omega)]
  rfl
theorem clone_eq (l : List Sc) (h : l.length ≤ 1048576) : slices_Clone_impl_Score.f l = some l := by
  unfold slices_Clone_impl_Score.f
  simp only [Option.bind_some]
  rw [if_pos (by simp; omega)]
  simp
theorem best_eq (l : List Sc) (many : Int) (h : l.length ≤ 1048576) (hm : 0 ≤ many) : impl_best.f l many = some ((sortS l).take (min many l.length).toNat) := by
  unfold impl_best.f
  rw [clone_eq l h]
  simp only [Option.bind_some]
  rw [implSort_eq l h]
  simp only [Option.bind_some, mn_min]
  rw [if_pos (by omega), if_pos (by omega)]
theorem cut_eq (l : List Sc) (many : Int) (h : l.length ≤ 1048576) (hm : 0 ≤ many) : spec_l10Cut.f l many = some (l.take (min many l.length).toNat) := by
  unfold spec_l10Cut.f spec_l1Least.f
  by_cases hc : many < (l.length : Int)
  · rw [if_pos hc]
    simp only [Option.bind_some]
    rw [if_pos hm, if_pos (by omega), if_pos (by simp only [List.length_nil, List.length_take]; omega), show min many (l.length : Int) = many by omega]
    simp
  · rw [if_neg hc]
    simp only [Option.bind_some]
    rw [if_pos (by omega), if_pos (by omega), if_pos (by simp only [List.length_nil, List.length_take]; omega), show min many (l.length : Int) = l.length by omega]
    simp
/-! #### put -/
theorem put_l1 (l : List Sc) (hl : l.length ≤ 1048576) (x : Sc) : ∀ (rest pre : List Sc), l = pre ++ rest → Ev (fun k => spec_l10Put.l1 k l (pre.length : Int) x.f0 x.f1) (pre ++ ins x rest)
  | [], pre, h => by
    rw [List.append_nil] at h
    subst h
    refine Ev.step (fun k => spec_l10Put.l1.eq_2 ..) (ev_if_neg (by omega) ?_)
    simp only [Option.bind_some, Int.toNat_natCast, List.nil_append, List.take_length, List.drop_length, List.append_nil, List.length_nil, List.length_append, List.length_singleton]
    exact ev_if_pos (by omega) (ev_if_pos (by omega) (ev_if_pos (by omega) (ev_if_pos (by omega) (ev_if_pos (by omega) (ev_some rfl)))))
  | y :: rest, pre, h => by
    obtain ⟨hi, hx⟩ := mid_at h
    have hx : rd_T33 l pre.length = y := hx _
    have hln : l.length = pre.length + (rest.length + 1) := by rw [h]; simp
    refine Ev.step (fun k => spec_l10Put.l1.eq_2 ..) (ev_if_pos (by omega) (ev_if_pos (by omega) ?_))
    simp only [hx, specBetter_eq, Option.bind_some]
    unfold ins
    cases hb : better y x with
    | true =>
      refine ev_if_pos rfl ?_
      rw [wrap_succ (by omega)]
      have ih := put_l1 l hl x rest (pre ++ [y]) (by rw [h]; simp)
      rw [List.length_append, List.length_singleton] at ih
      exact ev_eq ih (by simp)
    | false =>
      refine ev_if_neg (by simp) ?_
      have hd : l.drop pre.length = y :: rest := by rw [h]; simp
      simp only [Int.toNat_natCast, take_pre h, hd, List.nil_append, List.length_nil, List.length_append, List.length_singleton, List.length_cons]
      exact ev_if_pos (by omega) (ev_if_pos (by omega) (ev_if_pos (by omega) (ev_if_pos (by omega) (ev_some (by simp)))))
def putS (l : List Sc) (x : Sc) : List Sc := if newDoc l x.f0 = true then ins x l else l
theorem put_l0 (l : List Sc) (hl : l.length ≤ 1048576) (x : Sc) : ∀ (rest pre : List Sc), l = pre ++ rest → newDoc pre x.f0 = true → Ev (fun k => spec_l10Put.l0 k l l (l.length : Int) (pre.length : Int) x.f0 x.f1) (putS l x)
  | [], pre, h, hp => by
    rw [List.append_nil] at h
    subst h
    refine Ev.step (fun k => spec_l10Put.l0.eq_2 ..) (ev_if_neg (by omega) ?_)
    unfold putS
    rw [if_pos hp]
    exact put_l1 l hl x l [] rfl
  | y :: rest, pre, h, hp => by
    obtain ⟨hi, hx⟩ := mid_at h
    have hx : rd_T33 l pre.length = y := hx _
    refine Ev.step (fun k => spec_l10Put.l0.eq_2 ..) (ev_if_pos (by omega) (ev_if_pos (by omega) (ev_if_pos (by omega) ?_)))
    simp only [hx]
    by_cases e : y.f0 = x.f0
    · refine ev_if_pos e (ev_some ?_)
      unfold putS
      rw [if_neg]
      rw [h]
      simp [newDoc, e]
    · refine ev_if_neg e ?_
      rw [wrap_succ (by omega)]
      have ih := put_l0 l hl x rest (pre ++ [y]) (by rw [h]; simp) (by unfold newDoc at hp ⊢; rw [List.all_append, hp]; simp [e])
      rwa [List.length_append, List.length_singleton] at ih
theorem put_ev (l : List Sc) (hl : l.length ≤ 1048576) (x : Sc) : Ev (fun k => spec_l10Put.f k l x.f0 x.f1) (putS l x) := put_l0 l hl x l [] rfl rfl
theorem putS_length (l : List Sc) (x : Sc) : (putS l x).length ≤ l.length + 1 := by
  unfold putS
  split
  · rw [ins_length]; omega
  · omega
/-! #### what was put is sorted -/
def good (rows : List (List Sc)) (x : Sc) : Sc := ⟨x.f0, total rows x.f0⟩
theorem newDoc_iff (l : List Sc) (d : Int) : newDoc l d = true ↔ d ∉ l.map (·.f0) := by
  unfold newDoc
  rw [List.all_eq_true]
  constructor
  · intro h hm
    obtain ⟨y, hy, e⟩ := List.mem_map.1 hm
    have := h y hy
    simp [e] at this
  · intro h y hy
    have : y.f0 ≠ d := fun e => h (List.mem_map.2 ⟨y, hy, e⟩)
    simpa using this
theorem newDoc_perm {l m : List Sc} (p : l.Perm m) (d : Int) : newDoc l d = newDoc m d := by
  have h : newDoc l d = true ↔ newDoc m d = true := by
    rw [newDoc_iff, newDoc_iff, (p.map _).mem_iff]
  cases h1 : newDoc l d <;> cases h2 : newDoc m d <;> simp_all
/-- What has been put so far, in the order of putting. -/
def addS (l : List Sc) (x : Sc) : List Sc := if newDoc l x.f0 = true then l ++ [x] else l
theorem putS_sort (l : List Sc) (x : Sc) : putS (sortS l) x = sortS (addS l x) := by
  unfold putS addS
  rw [newDoc_perm (sortS_perm l)]
  split
  · exact ins_sortS x l
  · rfl
theorem addS_length (l : List Sc) (x : Sc) : (addS l x).length ≤ l.length + 1 := by
  unfold addS
  split
  · simp
  · omega
theorem addS_nodup (l : List Sc) (x : Sc) (h : (l.map (·.f0)).Nodup) : ((addS l x).map (·.f0)).Nodup := by
  unfold addS
  by_cases hn : newDoc l x.f0 = true
  · rw [if_pos hn, List.map_append, List.nodup_append]
    refine ⟨h, by simp, fun a ha b hb e => ?_⟩
    simp only [List.map_cons, List.map_nil, List.mem_singleton] at hb
    subst hb
    subst e
    exact (newDoc_iff l _).1 hn ha
  · rwa [if_neg hn]
theorem addS_mem (l : List Sc) (x : Sc) (d : Int) : d ∈ (addS l x).map (·.f0) ↔ d ∈ l.map (·.f0) ∨ d = x.f0 := by
  unfold addS
  by_cases hn : newDoc l x.f0 = true
  · rw [if_pos hn, List.map_append, List.mem_append]; simp
  · rw [if_neg hn]
    rw [newDoc_iff, Classical.not_not] at hn
    constructor
    · exact .inl
    · rintro (h | rfl)
      · exact h
      · exact hn
theorem addS_all (l : List Sc) (x : Sc) (p : Sc → Prop) (h : ∀ y ∈ l, p y) (hx : p x) : ∀ y ∈ addS l x, p y := by
  unfold addS
  split
  · intro y hy
    rcases List.mem_append.1 hy with hy | hy
    · exact h y hy
    · rw [List.mem_singleton.1 hy]; exact hx
  · exact h
/-- The row's docs, each with its total, put behind. -/
def addRow (rows : List (List Sc)) (l : List Sc) (r : List Sc) : List Sc := r.foldl (fun a x => addS a (good rows x)) l
def addRows (rows : List (List Sc)) (l : List Sc) (rs : List (List Sc)) : List Sc := rs.foldl (fun a r => addRow rows a r) l
theorem addRow_spec (rows : List (List Sc)) : ∀ (r l : List Sc), (l.map (·.f0)).Nodup → (∀ y ∈ l, y = good rows y) →
    (addRow rows l r).length ≤ l.length + r.length ∧ ((addRow rows l r).map (·.f0)).Nodup ∧ (∀ y ∈ addRow rows l r, y = good rows y) ∧ ∀ d, d ∈ (addRow rows l r).map (·.f0) ↔ d ∈ l.map (·.f0) ∨ d ∈ r.map (·.f0)
  | [], l, hn, hg => ⟨by simp [addRow], hn, hg, fun d => by simp [addRow]⟩
  | x :: r, l, hn, hg => by
    obtain ⟨h1, h2, h3, h4⟩ := addRow_spec rows r (addS l (good rows x)) (addS_nodup _ _ hn) (addS_all l _ (fun y => y = good rows y) hg rfl)
    have h5 := addS_length l (good rows x)
    refine ⟨?_, h2, h3, fun d => ?_⟩
    · show (addRow rows (addS l (good rows x)) r).length ≤ _
      rw [List.length_cons]; omega
    · show d ∈ (addRow rows (addS l (good rows x)) r).map (·.f0) ↔ _
      rw [h4 d, addS_mem, List.map_cons, List.mem_cons]
      show (d ∈ l.map (·.f0) ∨ d = x.f0) ∨ d ∈ r.map (·.f0) ↔ _
      rw [or_assoc]
theorem addRows_spec (rows : List (List Sc)) : ∀ (rs : List (List Sc)) (l : List Sc), (∀ r ∈ rs, r.length ≤ 20) → (l.map (·.f0)).Nodup → (∀ y ∈ l, y = good rows y) →
    (addRows rows l rs).length ≤ l.length + 20 * rs.length ∧ ((addRows rows l rs).map (·.f0)).Nodup ∧ (∀ y ∈ addRows rows l rs, y = good rows y) ∧ ∀ d, d ∈ (addRows rows l rs).map (·.f0) ↔ d ∈ l.map (·.f0) ∨ ∃ r ∈ rs, d ∈ r.map (·.f0)
  | [], l, _, hn, hg => ⟨by simp [addRows], hn, hg, fun d => by simp [addRows]⟩
  | r :: rs, l, hl, hn, hg => by
    obtain ⟨a1, a2, a3, a4⟩ := addRow_spec rows r l hn hg
    obtain ⟨h1, h2, h3, h4⟩ := addRows_spec rows rs (addRow rows l r) (fun z hz => hl z (List.mem_cons_of_mem _ hz)) a2 a3
    have h5 := hl r List.mem_cons_self
    refine ⟨?_, h2, h3, fun d => ?_⟩
    · show (addRows rows (addRow rows l r) rs).length ≤ _
      rw [List.length_cons]; omega
    · show d ∈ (addRows rows (addRow rows l r) rs).map (·.f0) ↔ _
      rw [h4 d, a4 d]
      constructor
      · rintro ((h | h) | ⟨z, hz, h⟩)
        · exact .inl h
        · exact .inr ⟨r, List.mem_cons_self, h⟩
        · exact .inr ⟨z, List.mem_cons_of_mem _ hz, h⟩
      · rintro (h | ⟨z, hz, h⟩)
        · exact .inl (.inl h)
        · rcases List.mem_cons.1 hz with rfl | hz
          · exact .inl (.inr h)
          · exact .inr ⟨z, hz, h⟩
/-- All docs with something, by their numbers. -/
def byDoc (rows : List (List Sc)) : Nat → Nat → List Sc
  | 0, _ => []
  | m + 1, d => (if total rows d > 0 then [(⟨(d : Int), total rows d⟩ : Sc)] else []) ++ byDoc rows m (d + 1)
theorem byDoc_length (rows : List (List Sc)) : ∀ m d, (byDoc rows m d).length ≤ m
  | 0, _ => Nat.le_refl _
  | m + 1, d => by
    have := byDoc_length rows m (d + 1)
    unfold byDoc
    split <;> simp <;> omega
theorem byDoc_mem (rows : List (List Sc)) (x : Sc) : ∀ m d, x ∈ byDoc rows m d ↔ (d : Int) ≤ x.f0 ∧ x.f0 < ((d + m : Nat) : Int) ∧ x.f1 = total rows x.f0 ∧ total rows x.f0 > 0
  | 0, d => by simp [byDoc]; omega
  | m + 1, d => by
    unfold byDoc
    rw [List.mem_append, byDoc_mem rows x m (d + 1)]
    constructor
    · rintro (h | ⟨h1, h2, h3⟩)
      · split at h
        · rename_i ht
          rw [List.mem_singleton] at h
          subst h
          exact ⟨by simp, by simp; omega, rfl, ht⟩
        · cases h
      · exact ⟨by omega, by omega, h3⟩
    · rintro ⟨h1, h2, h3, h4⟩
      by_cases e : x.f0 = (d : Int)
      · refine .inl ?_
        rw [e] at h4
        rw [if_pos h4, List.mem_singleton]
        cases x
        simp only at e h3
        rw [h3, e]
      · exact .inr ⟨by omega, by omega, h3, h4⟩
theorem byDoc_nodup (rows : List (List Sc)) : ∀ m d, (byDoc rows m d).Nodup
  | 0, _ => List.nodup_nil
  | m + 1, d => by
    unfold byDoc
    rw [List.nodup_append]
    refine ⟨by split <;> simp, byDoc_nodup rows m (d + 1), fun a ha b hb e => ?_⟩
    subst e
    have := (byDoc_mem rows a m (d + 1)).1 hb
    split at ha
    · rw [List.mem_singleton] at ha
      subst ha
      have h1 := this.1
      simp at h1
      omega
    · cases ha
theorem rowTot_pos (d : Int) : ∀ (l : List Sc), (∀ x ∈ l, inRange x = true) → (rowTot l d > 0 ↔ d ∈ l.map (·.f0))
  | [], _ => by simp [rowTot]
  | x :: l, h => by
    have h0 := rowTot_bound d l (fun z hz => h z (List.mem_cons_of_mem _ hz))
    have ih := rowTot_pos d l (fun z hz => h z (List.mem_cons_of_mem _ hz))
    have h1 := (inRange_iff x).1 (h x List.mem_cons_self)
    unfold rowTot
    rw [List.map_cons, List.mem_cons]
    by_cases e : x.f0 = d
    · rw [if_pos e]
      exact ⟨fun _ => .inl e.symm, fun _ => by omega⟩
    · rw [if_neg e, Int.zero_add, ih]
      exact ⟨.inr, fun h2 => h2.elim (fun h3 => absurd h3.symm e) id⟩
theorem total_pos (d : Int) : ∀ (rows : List (List Sc)), (∀ r ∈ rows, goodRow r = true) → (total rows d > 0 ↔ ∃ r ∈ rows, d ∈ r.map (·.f0))
  | [], _ => by simp [total]
  | r :: rs, h => by
    have hr := (goodRow_spec (h r List.mem_cons_self)).1
    have h0 := rowTot_bound d r hr
    have h1 := total_bound d rs (fun z hz => h z (List.mem_cons_of_mem _ hz))
    have ih := total_pos d rs (fun z hz => h z (List.mem_cons_of_mem _ hz))
    have ir := rowTot_pos d r hr
    unfold total
    constructor
    · intro hp
      by_cases h2 : rowTot r d > 0
      · exact ⟨r, List.mem_cons_self, ir.1 h2⟩
      · obtain ⟨z, hz, h3⟩ := ih.1 (by omega)
        exact ⟨z, List.mem_cons_of_mem _ hz, h3⟩
    · rintro ⟨z, hz, h3⟩
      rcases List.mem_cons.1 hz with rfl | hz
      · have := ir.2 h3; omega
      · have := ih.2 ⟨z, hz, h3⟩; omega
theorem all_docs (rows : List (List Sc)) (hg : ∀ r ∈ rows, goodRow r = true) : (addRows rows [] rows).Perm (byDoc rows 100 0) := by
  obtain ⟨_, h2, h3, h4⟩ := addRows_spec rows rows [] (fun r hr => (goodRow_spec (hg r hr)).2.2) (by simp) (by simp)
  refine (List.perm_ext_iff_of_nodup ?_ (byDoc_nodup rows 100 0)).2 fun x => ?_
  · exact (List.pairwise_map.1 h2).imp (fun h e => h (congrArg (·.f0) e))
  · rw [byDoc_mem]
    constructor
    · intro hx
      have hd : x.f0 ∈ (addRows rows [] rows).map (·.f0) := List.mem_map.2 ⟨x, hx, rfl⟩
      have hr := (h4 x.f0).1 hd
      simp only [List.map_nil, List.not_mem_nil, false_or] at hr
      have hp := (total_pos x.f0 rows hg).2 hr
      obtain ⟨r, hr, hxr⟩ := hr
      obtain ⟨y, hy, e⟩ := List.mem_map.1 hxr
      have hin := (inRange_iff y).1 ((goodRow_spec (hg r hr)).1 y hy)
      have e : y.f0 = x.f0 := e
      have hgx := h3 x hx
      exact ⟨by omega, by omega, congrArg (·.f1) hgx, hp⟩
    · rintro ⟨h5, h6, h7, h8⟩
      have hd := (h4 x.f0).2 (.inr ((total_pos x.f0 rows hg).1 h8))
      obtain ⟨y, hy, e⟩ := List.mem_map.1 hd
      have hgy := h3 y hy
      have : x = y := by
        have e : y.f0 = x.f0 := e
        have h9 : y.f1 = total rows y.f0 := congrArg (·.f1) hgy
        cases x; cases y
        simp only at e h9 h7
        rw [h7, h9, e]
      rw [this]; exact hy

/-! ### the best few -/
theorem specBest_inner (rows : List (List Sc)) (hrows : rows.length ≤ 4) (hg : ∀ r ∈ rows, goodRow r = true) (many n j : Int) (R : List Sc × Bool) (row : List Sc) (hrow : row.length ≤ 20) : ∀ (rest pre L : List Sc), row = pre ++ rest → L.length + rest.length ≤ 1000 →
    Ev (fun k => spec_BestFew.l0 k rows many (sortS (addRow rows L rest)) rows n (wrap64 (j + 1))) R → Ev (fun k => spec_BestFew.l1 k rows many (sortS L) rows n j row (row.length : Int) (pre.length : Int)) R
  | [], pre, L, h, hL, hR => by
    refine Ev.step (fun k => spec_BestFew.l1.eq_2 ..) (ev_if_neg (by rw [h, List.append_nil]; omega) ?_)
    exact hR
  | x :: rest, pre, L, h, hL, hR => by
    obtain ⟨hi, hx⟩ := mid_at h
    have hx : rd_T33 row pre.length = x := hx _
    rw [List.length_cons] at hL
    refine Ev.step (fun k => spec_BestFew.l1.eq_2 ..) (ev_if_pos (by omega) (ev_if_pos (by omega) (ev_if_pos (by omega) ?_)))
    simp only [hx]
    refine ev_bind (specTotal_ev x.f0 rows hrows hg) (ev_bind (put_ev (sortS L) (by rw [sortS_length]; omega) (good rows x)) ?_)
    rw [putS_sort, wrap_succ (by omega)]
    have h5 := addS_length L (good rows x)
    have ih := specBest_inner rows hrows hg many n j R row hrow rest (pre ++ [x]) (addS L (good rows x)) (by rw [h]; simp) (by omega) hR
    rwa [List.length_append, List.length_singleton] at ih
theorem specBest_loop (rows : List (List Sc)) (hrows : rows.length ≤ 4) (hg : ∀ r ∈ rows, goodRow r = true) (many : Int) (hm : 0 ≤ many) : ∀ (rest pre : List (List Sc)) (L : List Sc), rows = pre ++ rest → (L.map (·.f0)).Nodup → (∀ y ∈ L, y = good rows y) → L.length + 20 * rest.length ≤ 200 →
    Ev (fun k => spec_BestFew.l0 k rows many (sortS L) rows (rows.length : Int) (pre.length : Int)) ((sortS (addRows rows L rest)).take (min many (addRows rows L rest).length).toNat, true)
  | [], pre, L, h, hn, hgd, hL => by
    refine Ev.step (fun k => spec_BestFew.l0.eq_2 ..) (ev_if_neg (by rw [h, List.append_nil]; omega) ?_)
    rw [cut_eq (sortS L) many (by rw [sortS_length]; omega) hm, sortS_length]
    simp only [Option.bind_some]
    exact ev_some rfl
  | r :: rest, pre, L, h, hn, hgd, hL => by
    obtain ⟨hi, hx⟩ := mid_at h
    have hx : rd_L3 rows pre.length = r := hx _
    obtain ⟨g1, g2, g3⟩ := goodRow_spec (hg r (by rw [h]; simp))
    rw [List.length_cons] at hL
    obtain ⟨a1, a2, a3, _⟩ := addRow_spec rows r L hn hgd
    refine Ev.step (fun k => spec_BestFew.l0.eq_2 ..) (ev_if_pos (by omega) (ev_if_pos (by omega) (ev_if_pos (by omega) ?_)))
    simp only [hx]
    refine specBest_inner rows hrows hg many rows.length pre.length _ r g3 r [] L rfl (by omega) ?_
    have ih := specBest_loop rows hrows hg many hm rest (pre ++ [r]) (addRow rows L r) (by rw [h]; simp) a2 a3 (by omega)
    rw [List.length_append, List.length_singleton, ← wrap_succ (i := pre.length) (by omega)] at ih
    exact ih
def bestFew (rows : List (List Sc)) (many : Int) : List Sc × Bool :=
  if areRows rows = true ∧ 1 ≤ many ∧ many ≤ 10 then ((sortS (byDoc rows 100 0)).take (min many (byDoc rows 100 0).length).toNat, true) else ([], false)
theorem specBest_ev (rows : List (List Sc)) (hl : rows.length ≤ 1048576) (hr : ∀ r ∈ rows, r.length ≤ 1048576) (many : Int) : Ev (fun k => spec_BestFew.f k rows many) (bestFew rows many) := by
  unfold spec_BestFew.f bestFew
  refine ev_bind (specRows_ev rows hl hr) ?_
  simp only [specIn_eq, Option.bind_some]
  cases ha : areRows rows with
  | false =>
    rw [if_neg (by simp)]
    exact ev_if_neg (by simp) (Ev.step (fun k => spec_BestFew.j0.eq_2 ..) (ev_if_pos rfl (ev_some rfl)))
  | true =>
    refine ev_if_pos rfl ?_
    by_cases hm : 1 ≤ many ∧ many ≤ 10
    · rw [if_pos ⟨rfl, hm⟩, decide_eq_true hm.1, decide_eq_true hm.2]
      obtain ⟨⟨h1, h2⟩, hg⟩ := areRows_spec ha
      refine Ev.step (fun k => spec_BestFew.j0.eq_2 ..) (ev_if_neg (by simp) ?_)
      have h := specBest_loop rows h2 hg many (by omega) rows [] [] rfl (by simp) (by simp) (by show 0 + _ ≤ _; omega)
      have hp := all_docs rows hg
      rw [sortS_congr hp, hp.length_eq] at h
      have e : sortS ([] : List Sc) = [] := List.eq_nil_of_length_eq_zero (by rw [sortS_length]; rfl)
      rw [e] at h
      exact h
    · rw [if_neg (fun h => hm h.2)]
      refine Ev.step (fun k => spec_BestFew.j0.eq_2 ..) (ev_if_pos ?_ (ev_some rfl))
      simp only [Bool.not_eq_true', Bool.and_eq_false_iff, decide_eq_false_iff_not]
      omega
theorem implBest_loop (rows : List (List Sc)) (hrows : rows.length ≤ 4) (hg : ∀ r ∈ rows, goodRow r = true) (many : Int) (hm : 0 ≤ many) : ∀ (m d : Nat) (L : List Sc), d + m = 100 → L.length ≤ d →
    Ev (fun k => impl_BestFew.l0 k rows many L (d : Int)) ((sortS (L ++ byDoc rows m d)).take (min many (L ++ byDoc rows m d).length).toNat, true)
  | 0, d, L, h, hL => by
    refine Ev.step (fun k => impl_BestFew.l0.eq_2 ..) (ev_if_neg (by omega) ?_)
    rw [best_eq L many (by omega) hm]
    simp only [Option.bind_some]
    exact ev_some (by simp [byDoc])
  | m + 1, d, L, h, hL => by
    refine Ev.step (fun k => impl_BestFew.l0.eq_2 ..) (ev_if_pos (by omega) (ev_bind (implTotal_ev d rows hrows hg) ?_))
    rw [wrap_succ (by omega)]
    unfold byDoc
    by_cases ht : total rows d > 0
    · refine ev_if_pos ht (ev_if_pos (by omega) ?_)
      have ih := implBest_loop rows hrows hg many hm m (d + 1) (L ++ [(⟨(d : Int), total rows d⟩ : Sc)]) (by omega) (by rw [List.length_append, List.length_singleton]; omega)
      rw [if_pos ht]
      rwa [List.append_assoc] at ih
    · refine ev_if_neg ht ?_
      have ih := implBest_loop rows hrows hg many hm m (d + 1) L (by omega) (by omega)
      rw [if_neg ht]
      exact ih
theorem implBest_ev (rows : List (List Sc)) (hl : rows.length ≤ 1048576) (hr : ∀ r ∈ rows, r.length ≤ 1048576) (many : Int) : Ev (fun k => impl_BestFew.f k rows many) (bestFew rows many) := by
  unfold impl_BestFew.f bestFew
  refine ev_bind (implRows_ev rows hl hr) ?_
  simp only [implIn_eq, Option.bind_some]
  cases ha : areRows rows with
  | false =>
    rw [if_neg (by simp)]
    exact ev_if_neg (by simp) (Ev.step (fun k => impl_BestFew.j0.eq_2 ..) (ev_if_pos rfl (ev_some rfl)))
  | true =>
    refine ev_if_pos rfl ?_
    by_cases hm : 1 ≤ many ∧ many ≤ 10
    · rw [if_pos ⟨rfl, hm⟩, decide_eq_true hm.1, decide_eq_true hm.2]
      obtain ⟨⟨h1, h2⟩, hg⟩ := areRows_spec ha
      refine Ev.step (fun k => impl_BestFew.j0.eq_2 ..) (ev_if_neg (by simp) ?_)
      exact implBest_loop rows h2 hg many (by omega) 100 0 [] rfl (Nat.le_refl _)
    · rw [if_neg (fun h => hm h.2)]
      refine Ev.step (fun k => impl_BestFew.j0.eq_2 ..) (ev_if_pos ?_ (ev_some rfl))
      simp only [Bool.not_eq_true', Bool.and_eq_false_iff, decide_eq_false_iff_not]
      omega
theorem bestFew_length (rows : List (List Sc)) (many : Int) : (bestFew rows many).1.length ≤ 100 := by
  unfold bestFew
  split
  · have := byDoc_length rows 100 0
    rw [List.length_take, sortS_length]
    omega
  · simp

/-! ### the threshold -/
def bnd : List (List Sc) → Nat → Int
  | [], _ => 0
  | r :: rs, d => (if d < r.length then (rd_T33 r d).f1 else 0) + bnd rs d
theorem rd_in {r : List Sc} {d : Nat} (h : d < r.length) : rd_T33 r d ∈ r := by
  show r.getD (d : Int).toNat z33 ∈ r
  rw [Int.toNat_natCast, List.getD_eq_getElem?_getD, List.getElem?_eq_getElem h]
  exact List.getElem_mem h
theorem bnd_bound (d : Nat) : ∀ (rows : List (List Sc)), (∀ r ∈ rows, goodRow r = true) → 0 ≤ bnd rows d ∧ bnd rows d ≤ 1000 * (rows.length : Int) ∧ (20 ≤ d → bnd rows d = 0)
  | [], _ => by simp [bnd]
  | r :: rs, h => by
    obtain ⟨h1, h2, h3⟩ := bnd_bound d rs (fun z hz => h z (List.mem_cons_of_mem _ hz))
    obtain ⟨g1, _, g3⟩ := goodRow_spec (h r List.mem_cons_self)
    unfold bnd
    rw [List.length_cons]
    by_cases hd : d < r.length
    · have := (inRange_iff _).1 (g1 _ (rd_in hd))
      rw [if_pos hd]
      refine ⟨by omega, by omega, fun h20 => by omega⟩
    · rw [if_neg hd]
      exact ⟨by omega, by omega, fun h20 => by have := h3 h20; omega⟩
theorem specBound_loop (d : Nat) (rows : List (List Sc)) (hn : rows.length ≤ 4) (hd : d ≤ 1048576) (hg : ∀ r ∈ rows, goodRow r = true) : ∀ (rest pre : List (List Sc)) (acc : Int), rows = pre ++ rest → 0 ≤ acc → acc ≤ 1000 * (pre.length : Int) →
    Ev (fun k => spec_l10Bound.l0 k d acc rows (rows.length : Int) (pre.length : Int)) (acc + bnd rest d)
  | [], pre, acc, h, h0, h1 => Ev.step (fun k => spec_l10Bound.l0.eq_2 ..) (ev_if_neg (by rw [h, List.append_nil]; omega) (ev_some (by simp [bnd])))
  | r :: rest, pre, acc, h, h0, h1 => by
    obtain ⟨hi, hx⟩ := mid_at h
    have hx : rd_L3 rows pre.length = r := hx _
    obtain ⟨g1, g2, g3⟩ := goodRow_spec (hg r (by rw [h]; simp))
    refine Ev.step (fun k => spec_l10Bound.l0.eq_2 ..) (ev_if_pos (by omega) (ev_if_pos (by omega) (ev_if_pos (by omega) ?_)))
    simp only [hx]
    rw [wrap_succ (i := pre.length) (by omega)]
    by_cases hdr : d < r.length
    · have hb := (inRange_iff _).1 (g1 _ (rd_in hdr))
      refine ev_if_pos (by omega) (ev_if_pos (by omega) ?_)
      rw [wrap_id (x := acc + _) (by omega) (by omega)]
      have ih := specBound_loop d rows hn hd hg rest (pre ++ [r]) (acc + (rd_T33 r d).f1) (by rw [h]; simp) (by omega) (by rw [List.length_append, List.length_singleton]; omega)
      rw [List.length_append, List.length_singleton] at ih
      refine ev_eq ih ?_
      show acc + (rd_T33 r d).f1 + bnd rest d = acc + ((if d < r.length then (rd_T33 r d).f1 else 0) + bnd rest d)
      rw [if_pos hdr]; omega
    · refine ev_if_neg (by omega) ?_
      have ih := specBound_loop d rows hn hd hg rest (pre ++ [r]) acc (by rw [h]; simp) (by omega) (by rw [List.length_append, List.length_singleton]; omega)
      rw [List.length_append, List.length_singleton] at ih
      refine ev_eq ih ?_
      show acc + bnd rest d = acc + ((if d < r.length then (rd_T33 r d).f1 else 0) + bnd rest d)
      rw [if_neg hdr]; omega
theorem specBound_ev (d : Nat) (rows : List (List Sc)) (hn : rows.length ≤ 4) (hd : d ≤ 1048576) (hg : ∀ r ∈ rows, goodRow r = true) : Ev (fun k => spec_l10Bound.f k rows d) (bnd rows d) :=
  ev_eq (specBound_loop d rows hn hd hg rows [] 0 rfl (by omega) (by simp)) (by omega)
theorem implBound_loop (d : Nat) (rows : List (List Sc)) (hn : rows.length ≤ 4) (hd : d ≤ 1048576) (hg : ∀ r ∈ rows, goodRow r = true) : ∀ (rest pre : List (List Sc)) (acc : Int), rows = pre ++ rest → 0 ≤ acc → acc ≤ 1000 * (pre.length : Int) →
    Ev (fun k => impl_bound.l0 k d acc rows (rows.length : Int) (pre.length : Int)) (acc + bnd rest d)
  | [], pre, acc, h, h0, h1 => Ev.step (fun k => impl_bound.l0.eq_2 ..) (ev_if_neg (by rw [h, List.append_nil]; omega) (ev_some (by simp [bnd])))
  | r :: rest, pre, acc, h, h0, h1 => by
    obtain ⟨hi, hx⟩ := mid_at h
    have hx : rd_L3 rows pre.length = r := hx _
    obtain ⟨g1, g2, g3⟩ := goodRow_spec (hg r (by rw [h]; simp))
    refine Ev.step (fun k => impl_bound.l0.eq_2 ..) (ev_if_pos (by omega) (ev_if_pos (by omega) (ev_if_pos (by omega) ?_)))
    simp only [hx]
    rw [wrap_succ (i := pre.length) (by omega)]
    by_cases hdr : d < r.length
    · have hb := (inRange_iff _).1 (g1 _ (rd_in hdr))
      refine ev_if_pos (by omega) (ev_if_pos (by omega) ?_)
      rw [wrap_id (x := acc + _) (by omega) (by omega)]
      have ih := implBound_loop d rows hn hd hg rest (pre ++ [r]) (acc + (rd_T33 r d).f1) (by rw [h]; simp) (by omega) (by rw [List.length_append, List.length_singleton]; omega)
      rw [List.length_append, List.length_singleton] at ih
      refine ev_eq ih ?_
      show acc + (rd_T33 r d).f1 + bnd rest d = acc + ((if d < r.length then (rd_T33 r d).f1 else 0) + bnd rest d)
      rw [if_pos hdr]; omega
    · refine ev_if_neg (by omega) ?_
      have ih := implBound_loop d rows hn hd hg rest (pre ++ [r]) acc (by rw [h]; simp) (by omega) (by rw [List.length_append, List.length_singleton]; omega)
      rw [List.length_append, List.length_singleton] at ih
      refine ev_eq ih ?_
      show acc + bnd rest d = acc + ((if d < r.length then (rd_T33 r d).f1 else 0) + bnd rest d)
      rw [if_neg hdr]; omega
theorem implBound_ev (d : Nat) (rows : List (List Sc)) (hn : rows.length ≤ 4) (hd : d ≤ 1048576) (hg : ∀ r ∈ rows, goodRow r = true) : Ev (fun k => impl_bound.f k rows d) (bnd rows d) :=
  ev_eq (implBound_loop d rows hn hd hg rows [] 0 rfl (by omega) (by simp)) (by omega)
/-- What is put at a depth. -/
def thrStep (rows : List (List Sc)) (d : Nat) : List Sc → List (List Sc) → List Sc
  | L, [] => L
  | L, r :: rs => thrStep rows d (if d < r.length then addS L (good rows (rd_T33 r d)) else L) rs
/-- What holds of the list all the time. -/
structure Inv (rows : List (List Sc)) (L : List Sc) : Prop where
  nod : (L.map (·.f0)).Nodup
  gd : ∀ y ∈ L, y = good rows y
  doc : ∀ y ∈ L, ∃ r ∈ rows, y.f0 ∈ r.map (·.f0)
theorem Inv.nil (rows : List (List Sc)) : Inv rows [] := ⟨by simp, by simp, by simp⟩
theorem Inv.add {rows : List (List Sc)} {L : List Sc} (h : Inv rows L) {r : List Sc} (hr : r ∈ rows) {x : Sc} (hx : x ∈ r) : Inv rows (addS L (good rows x)) :=
  ⟨addS_nodup _ _ h.nod, addS_all L _ (fun y => y = good rows y) h.gd rfl, addS_all L (good rows x) (fun y => ∃ r ∈ rows, y.f0 ∈ r.map (·.f0)) h.doc ⟨r, hr, List.mem_map.2 ⟨x, hx, rfl⟩⟩⟩
theorem Inv.pos {rows : List (List Sc)} {L : List Sc} (h : Inv rows L) (hg : ∀ r ∈ rows, goodRow r = true) : ∀ y ∈ L, 1 ≤ y.f1 := fun y hy => by
  have h1 := (total_pos y.f0 rows hg).2 (h.doc y hy)
  have h2 : y.f1 = total rows y.f0 := congrArg (·.f1) (h.gd y hy)
  omega
theorem firstBy_nn (d : Int) : ∀ (l : List Sc), (∀ y ∈ l, 1 ≤ y.f1) → 0 ≤ firstBy l d
  | [], _ => by simp [firstBy]
  | y :: l, h => by
    have := h y List.mem_cons_self
    have ih := firstBy_nn d l (fun z hz => h z (List.mem_cons_of_mem _ hz))
    unfold firstBy
    split <;> omega
theorem firstBy_zero (d : Int) (l : List Sc) (h : ∀ y ∈ l, 1 ≤ y.f1) : firstBy l d = 0 ↔ newDoc l d = true := by
  have h1 := firstBy_pos d l h
  have h2 := firstBy_nn d l h
  cases hn : newDoc l d with
  | true =>
    refine ⟨fun _ => rfl, fun _ => ?_⟩
    by_cases h3 : firstBy l d > 0
    · have h4 := h1.1 h3; rw [hn] at h4; cases h4
    · omega
  | false =>
    have := h1.2 hn
    exact ⟨fun h3 => by omega, fun h3 => by cases h3⟩
theorem specThr_l1 (rows : List (List Sc)) (hrows : rows.length ≤ 4) (hg : ∀ r ∈ rows, goodRow r = true) (many : Int) (d : Nat) (hd : d ≤ 1048576) (R : List Sc × Int × Bool) : ∀ (rest pre : List (List Sc)) (L : List Sc), rows = pre ++ rest → L.length + rest.length ≤ 1000 →
    Ev (fun k => spec_Threshold.l0 k rows many (sortS (thrStep rows d L rest)) (wrap64 ((d : Int) + 1))) R → Ev (fun k => spec_Threshold.l1 k rows many (sortS L) d rows (rows.length : Int) (pre.length : Int)) R
  | [], pre, L, h, hL, hR => by
    refine Ev.step (fun k => spec_Threshold.l1.eq_2 ..) (ev_if_neg (by rw [h, List.append_nil]; omega) ?_)
    exact hR
  | r :: rest, pre, L, h, hL, hR => by
    obtain ⟨hi, hx⟩ := mid_at h
    have hx : rd_L3 rows pre.length = r := hx _
    rw [List.length_cons] at hL
    refine Ev.step (fun k => spec_Threshold.l1.eq_2 ..) (ev_if_pos (by omega) (ev_if_pos (by omega) (ev_if_pos (by omega) ?_)))
    simp only [hx]
    rw [wrap_succ (i := pre.length) (by omega)]
    unfold thrStep at hR
    by_cases hdr : d < r.length
    · rw [if_pos hdr] at hR
      refine ev_if_pos (by omega) (ev_if_pos (by omega) (ev_bind (specTotal_ev _ rows hrows hg) (ev_bind (put_ev (sortS L) (by rw [sortS_length]; omega) (good rows (rd_T33 r d))) ?_)))
      rw [putS_sort]
      have h5 := addS_length L (good rows (rd_T33 r d))
      have ih := specThr_l1 rows hrows hg many d hd R rest (pre ++ [r]) _ (by rw [h]; simp) (by omega) hR
      rwa [List.length_append, List.length_singleton] at ih
    · rw [if_neg hdr] at hR
      refine ev_if_neg (by omega) ?_
      have ih := specThr_l1 rows hrows hg many d hd R rest (pre ++ [r]) L (by rw [h]; simp) (by omega) hR
      rwa [List.length_append, List.length_singleton] at ih
theorem implThr_l1 (rows : List (List Sc)) (hrows : rows.length ≤ 4) (hg : ∀ r ∈ rows, goodRow r = true) (many : Int) (d : Nat) (hd : d ≤ 1048576) (R : List Sc × Int × Bool) : ∀ (rest pre : List (List Sc)) (L : List Sc), rows = pre ++ rest → L.length + rest.length ≤ 1000 → Inv rows L →
    Ev (fun k => impl_Threshold.l0 k rows many (thrStep rows d L rest) (wrap64 ((d : Int) + 1))) R → Ev (fun k => impl_Threshold.l1 k rows many L d rows (rows.length : Int) (pre.length : Int)) R
  | [], pre, L, h, hL, hI, hR => by
    refine Ev.step (fun k => impl_Threshold.l1.eq_2 ..) (ev_if_neg (by rw [h, List.append_nil]; omega) ?_)
    exact hR
  | r :: rest, pre, L, h, hL, hI, hR => by
    obtain ⟨hi, hx⟩ := mid_at h
    have hx : rd_L3 rows pre.length = r := hx _
    have hrm : r ∈ rows := by rw [h]; simp
    rw [List.length_cons] at hL
    refine Ev.step (fun k => impl_Threshold.l1.eq_2 ..) (ev_if_pos (by omega) (ev_if_pos (by omega) (ev_if_pos (by omega) ?_)))
    simp only [hx]
    rw [wrap_succ (i := pre.length) (by omega)]
    unfold thrStep at hR
    by_cases hdr : d < r.length
    · rw [if_pos hdr] at hR
      have hI2 := hI.add hrm (rd_in hdr)
      have h5 := addS_length L (good rows (rd_T33 r d))
      have ih := implThr_l1 rows hrows hg many d hd R rest (pre ++ [r]) _ (by rw [h]; simp) (by omega) hI2 hR
      rw [List.length_append, List.length_singleton] at ih
      refine ev_if_pos (by omega) (ev_if_pos (by omega) (ev_bind (scoreIn_ev _ L (by omega)) ?_))
      have hz : firstBy L (rd_T33 r d).f0 = 0 ↔ newDoc L (good rows (rd_T33 r d)).f0 = true := firstBy_zero (rd_T33 r d).f0 L (hI.pos hg)
      unfold addS at ih
      by_cases hf : firstBy L (rd_T33 r d).f0 = 0
      · refine ev_if_pos hf (ev_bind (implTotal_ev _ rows hrows hg) (ev_if_pos (by omega) ?_))
        rw [if_pos (hz.1 hf)] at ih
        exact ih
      · refine ev_if_neg hf ?_
        rw [if_neg (fun h3 => hf (hz.2 h3))] at ih
        exact ih
    · rw [if_neg hdr] at hR
      refine ev_if_neg (by omega) ?_
      have ih := implThr_l1 rows hrows hg many d hd R rest (pre ++ [r]) L (by rw [h]; simp) (by omega) hI hR
      rwa [List.length_append, List.length_singleton] at ih
theorem thrStep_spec (rows : List (List Sc)) (d : Nat) : ∀ (rest : List (List Sc)) (L : List Sc), (∀ r ∈ rest, r ∈ rows) → Inv rows L → Inv rows (thrStep rows d L rest) ∧ (thrStep rows d L rest).length ≤ L.length + rest.length
  | [], L, _, hI => ⟨hI, by simp [thrStep]⟩
  | r :: rest, L, hr, hI => by
    unfold thrStep
    rw [List.length_cons]
    by_cases hdr : d < r.length
    · rw [if_pos hdr]
      have h5 := addS_length L (good rows (rd_T33 r d))
      obtain ⟨h1, h2⟩ := thrStep_spec rows d rest _ (fun z hz => hr z (List.mem_cons_of_mem _ hz)) (hI.add (hr r List.mem_cons_self) (rd_in hdr))
      exact ⟨h1, by omega⟩
    · rw [if_neg hdr]
      obtain ⟨h1, h2⟩ := thrStep_spec rows d rest L (fun z hz => hr z (List.mem_cons_of_mem _ hz)) hI
      exact ⟨h1, by omega⟩
/-- The list and the depth at the end. -/
def thr (rows : List (List Sc)) (many : Int) : Nat → List Sc → Nat → List Sc × Nat
  | 0, L, d => (L, d)
  | f + 1, L, d => if bnd rows d > 0 ∧ ¬ (many ≤ (L.length : Int) ∧ (rd_T33 (sortS L) (many - 1)).f1 > bnd rows d) then thr rows many f (thrStep rows d L rows) (d + 1) else (L, d)
def thrRes (many : Int) (p : List Sc × Nat) : List Sc × Int × Bool := ((sortS p.1).take (min many p.1.length).toNat, (p.2 : Int), true)
theorem specThr_l0 (rows : List (List Sc)) (hrows : rows.length ≤ 4) (hg : ∀ r ∈ rows, goodRow r = true) (many : Int) (hm : 1 ≤ many) : ∀ (f : Nat) (L : List Sc) (d : Nat), d + f = 21 → L.length ≤ 4 * d → Inv rows L →
    Ev (fun k => spec_Threshold.l0 k rows many (sortS L) (d : Int)) (thrRes many (thr rows many f L d))
  | f, L, d, hd, hL, hI => by
    have hb := specBound_ev d rows hrows (by omega) hg
    obtain ⟨_, _, h20⟩ := bnd_bound d rows hg
    have hcut := cut_eq (sortS L) many (by rw [sortS_length]; omega) (by omega)
    have hend : Ev (fun k => spec_Threshold.j2 k rows many (sortS L) (d : Int) false) (thrRes many (L, d)) := by
      refine Ev.step (fun k => spec_Threshold.j2.eq_2 ..) (ev_if_neg (by simp) ?_)
      rw [hcut, sortS_length]
      simp only [Option.bind_some]
      exact ev_some rfl
    refine Ev.step (fun k => spec_Threshold.l0.eq_2 ..) (ev_bind hb ?_)
    cases f with
    | zero =>
      have := h20 (by omega)
      exact ev_if_neg (by omega) hend
    | succ f =>
      unfold thr
      by_cases hp : bnd rows d > 0
      · refine ev_if_pos hp ?_
        obtain ⟨hI2, hL2⟩ := thrStep_spec rows d rows L (fun _ h => h) hI
        have ih := specThr_l0 rows hrows hg many hm f (thrStep rows d L rows) (d + 1) (by omega) (by omega) hI2
        have hgo : Ev (fun k => spec_Threshold.j2 k rows many (sortS L) (d : Int) true) (thrRes many (thr rows many f (thrStep rows d L rows) (d + 1))) := by
          refine Ev.step (fun k => spec_Threshold.j2.eq_2 ..) (ev_if_pos rfl ?_)
          rw [← wrap_succ (i := d) (by omega)] at ih
          exact specThr_l1 rows hrows hg many d (by omega) _ rows [] L rfl (by omega) ih
        rw [sortS_length]
        by_cases hlt : (L.length : Int) < many
        · rw [if_pos ⟨hp, fun h => by omega⟩]
          exact ev_if_pos hlt hgo
        · refine ev_if_neg hlt ?_
          rw [wrap_id (x := many - 1) (by omega) (by omega)]
          refine ev_if_pos (by omega) (ev_if_pos (by omega) (ev_bind hb ?_))
          by_cases hc : (rd_T33 (sortS L) (many - 1)).f1 ≤ bnd rows d
          · rw [if_pos ⟨hp, fun h => by omega⟩, decide_eq_true hc]
            exact hgo
          · rw [if_neg (fun h => h.2 ⟨by omega, by omega⟩), decide_eq_false hc]
            exact hend
      · rw [if_neg (fun h => hp h.1)]
        exact ev_if_neg hp hend
theorem implThr_l0 (rows : List (List Sc)) (hrows : rows.length ≤ 4) (hg : ∀ r ∈ rows, goodRow r = true) (many : Int) (hm : 1 ≤ many) (hm10 : many ≤ 10) : ∀ (f : Nat) (L : List Sc) (d : Nat), d + f = 21 → L.length ≤ 4 * d → Inv rows L →
    Ev (fun k => impl_Threshold.l0 k rows many L (d : Int)) (thrRes many (thr rows many f L d))
  | f, L, d, hd, hL, hI => by
    have hb := implBound_ev d rows hrows (by omega) hg
    obtain ⟨_, _, h20⟩ := bnd_bound d rows hg
    have hbest := best_eq L many (by omega) (by omega)
    refine Ev.step (fun k => impl_Threshold.l0.eq_2 ..) (ev_bind hb ?_)
    rw [hbest]
    simp only [Option.bind_some]
    have hend : Ev (fun k => some ((sortS L).take (min many L.length).toNat, (d : Int), true)) (thrRes many (L, d)) := ev_some rfl
    have hend2 : Ev (fun k => impl_Threshold.j2 k rows many L (d : Int) true) (thrRes many (L, d)) := by
      refine Ev.step (fun k => impl_Threshold.j2.eq_2 ..) (ev_if_pos rfl ?_)
      rw [hbest]
      simp only [Option.bind_some]
      exact hend
    cases f with
    | zero =>
      have := h20 (by omega)
      exact ev_if_neg (by omega) hend
    | succ f =>
      unfold thr
      by_cases hp : bnd rows d > 0
      · refine ev_if_pos hp ?_
        obtain ⟨hI2, hL2⟩ := thrStep_spec rows d rows L (fun _ h => h) hI
        have ih := implThr_l0 rows hrows hg many hm hm10 f (thrStep rows d L rows) (d + 1) (by omega) (by omega) hI2
        have hgo : Ev (fun k => impl_Threshold.j2 k rows many L (d : Int) false) (thrRes many (thr rows many f (thrStep rows d L rows) (d + 1))) := by
          refine Ev.step (fun k => impl_Threshold.j2.eq_2 ..) (ev_if_neg (by simp) ?_)
          rw [← wrap_succ (i := d) (by omega)] at ih
          exact implThr_l1 rows hrows hg many d (by omega) _ rows [] L rfl (by omega) hI ih
        have hlen : (((sortS L).take (min many L.length).toNat).length : Int) = min many L.length := by
          rw [List.length_take, sortS_length]; omega
        by_cases hlt : (L.length : Int) < many
        · rw [if_pos ⟨hp, fun h => by omega⟩]
          exact ev_if_neg (by omega) hgo
        · refine ev_if_pos (by omega) ?_
          rw [wrap_id (x := many - 1) (by omega) (by omega)]
          refine ev_if_pos (by omega) (ev_if_pos (by omega) (ev_bind hb ?_))
          have hrd : rd_T33 ((sortS L).take (min many L.length).toNat) (many - 1) = rd_T33 (sortS L) (many - 1) := by
            show ((sortS L).take (min many L.length).toNat).getD (many - 1).toNat _ = (sortS L).getD (many - 1).toNat _
            rw [List.getD_eq_getElem?_getD, List.getD_eq_getElem?_getD, List.getElem?_take_of_lt (by omega)]
          rw [hrd]
          by_cases hc : (rd_T33 (sortS L) (many - 1)).f1 > bnd rows d
          · rw [if_neg (fun h => h.2 ⟨by omega, hc⟩), decide_eq_true hc]
            exact hend2
          · rw [if_pos ⟨hp, fun h => hc h.2⟩, decide_eq_false hc]
            exact hgo
      · rw [if_neg (fun h => hp h.1)]
        exact ev_if_neg hp hend
theorem thr_spec (rows : List (List Sc)) (hrows : rows.length ≤ 4) (many : Int) : ∀ (f : Nat) (L : List Sc) (d : Nat), L.length ≤ 4 * d → Inv rows L → Inv rows (thr rows many f L d).1 ∧ (thr rows many f L d).1.length ≤ 4 * (d + f) ∧ d ≤ (thr rows many f L d).2 ∧ (thr rows many f L d).2 ≤ d + f
  | 0, L, d, hL, hI => ⟨hI, by simpa [thr] using hL, Nat.le_refl _, Nat.le_refl _⟩
  | f + 1, L, d, hL, hI => by
    unfold thr
    split
    · obtain ⟨hI2, hL2⟩ := thrStep_spec rows d rows L (fun _ h => h) hI
      obtain ⟨h1, h2, h3, h4⟩ := thr_spec rows hrows many f (thrStep rows d L rows) (d + 1) (by omega) hI2
      exact ⟨h1, by omega, by omega, by omega⟩
    · exact ⟨hI, by show L.length ≤ _; omega, Nat.le_refl _, by show d ≤ _; omega⟩
def threshold (rows : List (List Sc)) (many : Int) : List Sc × Int × Bool :=
  if areRows rows = true ∧ 1 ≤ many ∧ many ≤ 10 then thrRes many (thr rows many 21 [] 0) else ([], 0, false)
theorem sortS_nil : sortS ([] : List Sc) = [] := List.eq_nil_of_length_eq_zero (by rw [sortS_length]; rfl)
theorem specThr_ev (rows : List (List Sc)) (hl : rows.length ≤ 1048576) (hr : ∀ r ∈ rows, r.length ≤ 1048576) (many : Int) : Ev (fun k => spec_Threshold.f k rows many) (threshold rows many) := by
  unfold spec_Threshold.f threshold
  refine ev_bind (specRows_ev rows hl hr) ?_
  simp only [specIn_eq, Option.bind_some]
  cases ha : areRows rows with
  | false =>
    rw [if_neg (by simp)]
    exact ev_if_neg (by simp) (Ev.step (fun k => spec_Threshold.j0.eq_2 ..) (ev_if_pos rfl (ev_some rfl)))
  | true =>
    refine ev_if_pos rfl ?_
    by_cases hm : 1 ≤ many ∧ many ≤ 10
    · rw [if_pos ⟨rfl, hm⟩, decide_eq_true hm.1, decide_eq_true hm.2]
      obtain ⟨⟨h1, h2⟩, hg⟩ := areRows_spec ha
      refine Ev.step (fun k => spec_Threshold.j0.eq_2 ..) (ev_if_neg (by simp) ?_)
      have h := specThr_l0 rows h2 hg many hm.1 21 [] 0 rfl (Nat.le_refl _) (Inv.nil rows)
      rw [sortS_nil] at h
      exact h
    · rw [if_neg (fun h => hm h.2)]
      refine Ev.step (fun k => spec_Threshold.j0.eq_2 ..) (ev_if_pos ?_ (ev_some rfl))
      simp only [Bool.not_eq_true', Bool.and_eq_false_iff, decide_eq_false_iff_not]
      omega
theorem implThr_ev (rows : List (List Sc)) (hl : rows.length ≤ 1048576) (hr : ∀ r ∈ rows, r.length ≤ 1048576) (many : Int) : Ev (fun k => impl_Threshold.f k rows many) (threshold rows many) := by
  unfold impl_Threshold.f threshold
  refine ev_bind (implRows_ev rows hl hr) ?_
  simp only [implIn_eq, Option.bind_some]
  cases ha : areRows rows with
  | false =>
    rw [if_neg (by simp)]
    exact ev_if_neg (by simp) (Ev.step (fun k => impl_Threshold.j0.eq_2 ..) (ev_if_pos rfl (ev_some rfl)))
  | true =>
    refine ev_if_pos rfl ?_
    by_cases hm : 1 ≤ many ∧ many ≤ 10
    · rw [if_pos ⟨rfl, hm⟩, decide_eq_true hm.1, decide_eq_true hm.2]
      obtain ⟨⟨h1, h2⟩, hg⟩ := areRows_spec ha
      refine Ev.step (fun k => impl_Threshold.j0.eq_2 ..) (ev_if_neg (by simp) ?_)
      exact implThr_l0 rows h2 hg many hm.1 hm.2 21 [] 0 rfl (Nat.le_refl _) (Inv.nil rows)
    · rw [if_neg (fun h => hm h.2)]
      refine Ev.step (fun k => impl_Threshold.j0.eq_2 ..) (ev_if_pos ?_ (ev_some rfl))
      simp only [Bool.not_eq_true', Bool.and_eq_false_iff, decide_eq_false_iff_not]
      omega
theorem threshold_length (rows : List (List Sc)) (many : Int) : (threshold rows many).1.length ≤ 100 := by
  unfold threshold
  split
  · rename_i h
    obtain ⟨⟨_, h2⟩, _⟩ := areRows_spec h.1
    obtain ⟨_, h3, _⟩ := thr_spec rows h2 many 21 [] 0 (Nat.le_refl _) (Inv.nil rows)
    show ((sortS _).take _).length ≤ 100
    rw [List.length_take, sortS_length]
    omega
  · simp

/-! ### drawing -/
theorem wf_u8 {x : Int} (h : (Lit.int .u8 x).wf = true) : 0 ≤ x ∧ x ≤ 255 := by
  have a : IntKind.u8.min = 0 := by decide
  have b : IntKind.u8.max = 255 := by decide
  simp [Lit.wf] at h
  omega
theorem and255 (x : Int) (h0 : 0 ≤ x) (h1 : x < 9223372036854775808) : Go.bits .and .u64 x 255 = x % 256 :=
  Go.bits_mask .u64 63 (by decide) (fun n a b => by simp [IntKind.wrap, IntKind.bits, IntKind.signed]; omega) 8 (by decide) x h0 h1
theorem u64_range (x : Int) : 0 ≤ IntKind.u64.wrap x ∧ IntKind.u64.wrap x < 18446744073709551616 := by
  simp [IntKind.wrap, IntKind.bits, IntKind.signed]; omega
/-- What the drawn bytes are. -/
def Bytes (code : List Int) : Prop := ∀ x ∈ code, 0 ≤ x ∧ x ≤ 255
theorem rd_byte {code : List Int} (hc : Bytes code) {i : Int} : 0 ≤ rd code i ∧ rd code i ≤ 255 := by
  unfold rd
  rw [List.getD_eq_getElem?_getD]
  cases h : code[i.toNat]? with
  | none => simp
  | some x => exact hc x (List.mem_of_getElem? h)
/-- The cursor's place, so many draws on at the most. -/
def At (n : Int) (at_ : Int) : Prop := 0 ≤ at_ ∧ at_ ≤ n
theorem next_ok {code : List Int} (hc : Bytes code) {n at_ : Int} (seed : Int) (h : At n at_) (hn : n ≤ 1000000000) : ∃ x a s, spec_l1Cur_next.f code at_ seed = some (x, a, s) ∧ 0 ≤ x ∧ x ≤ 255 ∧ At (n + 1) a := by
  obtain ⟨h0, h1⟩ := h
  have hw : wrap64 (at_ + 1) = at_ + 1 := wrap_id (by omega) (by omega)
  have hb := rd_byte hc (i := at_)
  have hlow : ∀ X : Int, 0 ≤ wrap64 (Go.bits .and .u64 ((IntKind.u64.wrap X) / 1099511627776) 255) ∧ wrap64 (Go.bits .and .u64 ((IntKind.u64.wrap X) / 1099511627776) 255) ≤ 255 := by
    intro X
    have := u64_range X
    rw [and255 _ (by omega) (by omega), wrap_id (by omega) (by omega)]
    omega
  have hr : wrap64 (rd code at_) = rd code at_ := wrap_id (by omega) (by omega)
  unfold spec_l1Cur_next.f
  rw [hw]
  have hA : At (n + 1) (at_ + 1) := ⟨by omega, by omega⟩
  by_cases c1 : at_ < (code.length : Int)
  · rw [if_pos c1, if_pos h0]
    by_cases c2 : at_ + 1 ≤ (code.length : Int)
    · rw [if_pos c2]
      exact ⟨_, _, _, rfl, by rw [hr]; omega, by rw [hr]; omega, hA⟩
    · rw [if_neg c2]
      exact ⟨_, _, _, rfl, (hlow _).1, (hlow _).2, hA⟩
  · rw [if_neg c1]
    by_cases c2 : at_ + 1 ≤ (code.length : Int)
    · rw [if_pos c2]
      exact ⟨_, _, _, rfl, by omega, by omega, hA⟩
    · rw [if_neg c2]
      exact ⟨_, _, _, rfl, (hlow _).1, (hlow _).2, hA⟩
theorem pick_ok {code : List Int} (hc : Bytes code) {n at_ : Int} (seed m : Int) (h : At n at_) (hn : n ≤ 999999999) (hm : 1 ≤ m) : ∃ x a s, spec_l1Cur_pick.f code at_ seed m = some (x, a, s) ∧ 0 ≤ x ∧ x < m ∧ At (n + 2) a := by
  unfold spec_l1Cur_pick.f
  by_cases c1 : m ≤ 1
  · rw [if_pos c1]
    exact ⟨_, _, _, rfl, by omega, by omega, ⟨h.1, by have := h.2; omega⟩⟩
  · rw [if_neg c1]
    obtain ⟨x, a, s, e, h0, h1, h2⟩ := next_ok hc seed h (by omega)
    rw [e]
    simp only [Option.bind_some]
    have hmod : ∀ y : Int, 0 ≤ y → 0 ≤ Int.tmod y m ∧ Int.tmod y m < m := fun y hy => by
      rw [tmod_nn hy]
      exact ⟨Int.emod_nonneg _ (by omega), Int.emod_lt_of_pos _ (by omega)⟩
    by_cases c2 : m > 200
    · rw [if_pos c2]
      obtain ⟨x2, a2, s2, e2, h3, h4, h5⟩ := next_ok hc s h2 (by omega)
      rw [e2]
      simp only [Option.bind_some]
      have w1 : wrap64 (x * 256) = x * 256 := wrap_id (by omega) (by omega)
      have w2 : wrap64 (x * 256 + x2) = x * 256 + x2 := wrap_id (by omega) (by omega)
      rw [if_neg (by omega), w1, w2]
      obtain ⟨h6, h7⟩ := hmod (x * 256 + x2) (by omega)
      exact ⟨_, _, _, rfl, h6, h7, ⟨h5.1, by have := h5.2; omega⟩⟩
    · rw [if_neg c2, if_neg (by omega)]
      obtain ⟨h6, h7⟩ := hmod x h0
      exact ⟨_, _, _, rfl, h6, h7, ⟨h2.1, by have := h2.2; omega⟩⟩

theorem one_ok {code : List Int} (hc : Bytes code) {n at_ : Int} (seed m : Int) (h : At n at_) (hn : n ≤ 999999999) (hm : 1 ≤ m) : ∃ x a s, spec_l1Cur_one.f code at_ seed m = some (x, a, s) ∧ At (n + 2) a := by
  obtain ⟨x, a, s, e, _, _, h2⟩ := pick_ok hc seed m h hn hm
  unfold spec_l1Cur_one.f
  rw [e]
  exact ⟨_, _, _, rfl, h2⟩

theorem among_ok {code : List Int} (hc : Bytes code) {n at_ : Int} (seed : Int) (l : List Int) (h : At n at_) (hn : n ≤ 999999999) (hl : l ≠ []) : ∃ x a s, spec_l1Cur_among.f code at_ seed l = some (x, a, s) ∧ x ∈ l ∧ At (n + 2) a := by
  have hp : 0 < l.length := List.length_pos_iff.2 hl
  obtain ⟨x, a, s, e, h0, h1, h2⟩ := pick_ok hc seed l.length h hn (by omega)
  unfold spec_l1Cur_among.f
  rw [e]
  simp only [Option.bind_some]
  rw [if_pos h0, if_pos h1]
  refine ⟨_, _, _, rfl, ?_, h2⟩
  unfold rd
  rw [List.getD_eq_getElem?_getD, List.getElem?_eq_getElem (by omega)]
  exact List.getElem_mem _

theorem ins_len (l : List Sc) (x : Sc) : (putS l x).length ≤ l.length + 1 := putS_length l x
theorem scoreRow_loop {code : List Int} (hc : Bytes code) : ∀ (m : Nat) (l : List Sc) (n at_ seed : Int), l.length + 2 * m ≤ 1000 → At n at_ → n + 20 * (m : Int) ≤ 900000000 →
    ∃ r a s, Ev (fun k => spec_l1Cur_scoreRow.l0 k l (m : Int) code at_ seed) (r, a, s) ∧ r.length ≤ 1000 ∧ At (n + 20 * (m : Int) + 20) a
  | 0, l, n, at_, seed, hl, h, hn => by
    by_cases hp : (l.length : Int) > 0
    · obtain ⟨b, a1, s1, e1, h1⟩ := one_ok hc seed 30 h (by omega) (by omega)
      cases b with
      | true =>
        obtain ⟨x, a2, s2, e2, _, h2⟩ := among_ok hc s1 [0, 1000, 1001] h1 (by omega) (by simp)
        refine ⟨l.set 0 ⟨(rd_T33 l 0).f0, x⟩, a2, s2, Ev.step (fun k => spec_l1Cur_scoreRow.l0.eq_2 ..) (ev_if_neg (by omega) (ev_if_pos hp ?_)), ?_, ⟨h2.1, by have := h2.2; omega⟩⟩
        · rw [e1]
          simp only [Option.bind_some]
          refine ev_if_pos trivial ?_
          rw [e2]
          simp only [Option.bind_some]
          exact ev_if_pos (by omega) (ev_some rfl)
        · rw [List.length_set]; omega
      | false =>
        refine ⟨l, a1, s1, Ev.step (fun k => spec_l1Cur_scoreRow.l0.eq_2 ..) (ev_if_neg (by omega) (ev_if_pos hp ?_)), by omega, ⟨h1.1, by have := h1.2; omega⟩⟩
        rw [e1]
        simp only [Option.bind_some]
        exact ev_if_neg (by simp) (ev_some rfl)
    · exact ⟨l, at_, seed, Ev.step (fun k => spec_l1Cur_scoreRow.l0.eq_2 ..) (ev_if_neg (by omega) (ev_if_neg hp (ev_some rfl))), by omega, ⟨h.1, by have := h.2; omega⟩⟩
  | m + 1, l, n, at_, seed, hl, h, hn => by
    obtain ⟨x1, a1, s1, e1, _, _, h1⟩ := pick_ok hc seed 9 h (by omega) (by omega)
    obtain ⟨x2, a2, s2, e2, _, _, h2⟩ := pick_ok hc s1 30 h1 (by omega) (by omega)
    have hput := put_ev l (by omega) ⟨x1, wrap64 (1 + x2)⟩
    have hlen := putS_length l ⟨x1, wrap64 (1 + x2)⟩
    revert hput hlen
    generalize putS l ⟨x1, wrap64 (1 + x2)⟩ = l1
    intro hput hlen
    obtain ⟨b, a3, s3, e3, h3⟩ := one_ok hc s2 8 h2 (by omega) (by omega)
    have hm : wrap64 (((m + 1 : Nat) : Int) - 1) = (m : Int) := by rw [wrap_id (by omega) (by omega)]; omega
    cases b with
    | true =>
      obtain ⟨x4, a4, s4, e4, _, _, h4⟩ := pick_ok hc s3 60 h3 (by omega) (by omega)
      obtain ⟨x5, a5, s5, e5, _, _, h5⟩ := pick_ok hc s4 9 h4 (by omega) (by omega)
      have hput2 := put_ev l1 (by omega) ⟨wrap64 (10 + x4), wrap64 (1 + x5)⟩
      have hlen2 := putS_length l1 ⟨wrap64 (10 + x4), wrap64 (1 + x5)⟩
      revert hput2 hlen2
      generalize putS l1 ⟨wrap64 (10 + x4), wrap64 (1 + x5)⟩ = l2
      intro hput2 hlen2
      obtain ⟨r, a, s, he, hr, hA⟩ := scoreRow_loop hc m l2 (n + 2 + 2 + 2 + 2 + 2) a5 s5 (by omega) h5 (by omega)
      refine ⟨r, a, s, Ev.step (fun k => spec_l1Cur_scoreRow.l0.eq_2 ..) (ev_if_pos (by omega) ?_), hr, ⟨hA.1, by have := hA.2; omega⟩⟩
      rw [e1]
      simp only [Option.bind_some]
      rw [e2]
      simp only [Option.bind_some]
      refine ev_bind hput ?_
      rw [e3]
      simp only [Option.bind_some]
      refine ev_if_pos trivial ?_
      rw [e4]
      simp only [Option.bind_some]
      rw [e5]
      simp only [Option.bind_some]
      refine ev_bind hput2 ?_
      rw [hm]
      exact he
    | false =>
      obtain ⟨r, a, s, he, hr, hA⟩ := scoreRow_loop hc m l1 (n + 2 + 2 + 2) a3 s3 (by omega) h3 (by omega)
      refine ⟨r, a, s, Ev.step (fun k => spec_l1Cur_scoreRow.l0.eq_2 ..) (ev_if_pos (by omega) ?_), hr, ⟨hA.1, by have := hA.2; omega⟩⟩
      rw [e1]
      simp only [Option.bind_some]
      rw [e2]
      simp only [Option.bind_some]
      refine ev_bind hput ?_
      rw [e3]
      simp only [Option.bind_some]
      refine ev_if_neg (by simp) ?_
      rw [hm]
      exact he
theorem scoreRow_ok {code : List Int} (hc : Bytes code) {n at_ : Int} (seed : Int) (h : At n at_) (hn : n ≤ 100000000) : ∃ r a s, Ev (fun k => spec_l1Cur_scoreRow.f k code at_ seed) (r, a, s) ∧ r.length ≤ 1000 ∧ At (n + 500) a := by
  obtain ⟨x1, a1, s1, e1, p1, q1, h1⟩ := pick_ok hc seed 8 h (by omega) (by omega)
  obtain ⟨b, a2, s2, e2, h2⟩ := one_ok hc s1 20 h1 (by omega) (by omega)
  cases b with
  | true =>
    obtain ⟨x3, a3, s3, e3, p3, q3, h3⟩ := pick_ok hc s2 2 h2 (by omega) (by omega)
    obtain ⟨m, hm⟩ := Int.eq_ofNat_of_zero_le (show 0 ≤ 20 + x3 by omega)
    obtain ⟨r, a, s, he, hr, hA⟩ := scoreRow_loop hc m [] _ a3 s3 (by simp; omega) h3 (by omega)
    refine ⟨r, a, s, ?_, hr, ⟨hA.1, by have := hA.2; omega⟩⟩
    unfold spec_l1Cur_scoreRow.f
    rw [e1]
    simp only [Option.bind_some]
    rw [e2]
    simp only [Option.bind_some]
    refine ev_if_pos trivial ?_
    rw [e3]
    simp only [Option.bind_some]
    rw [wrap_id (x := 20 + x3) (by omega) (by omega), hm]
    exact Ev.step (fun k => spec_l1Cur_scoreRow.j0.eq_2 ..) he
  | false =>
    obtain ⟨m, hm⟩ := Int.eq_ofNat_of_zero_le p1
    subst hm
    obtain ⟨r, a, s, he, hr, hA⟩ := scoreRow_loop hc m [] _ a2 s2 (by simp; omega) h2 (by omega)
    refine ⟨r, a, s, ?_, hr, ⟨hA.1, by have := hA.2; omega⟩⟩
    unfold spec_l1Cur_scoreRow.f
    rw [e1]
    simp only [Option.bind_some]
    rw [e2]
    simp only [Option.bind_some]
    refine ev_if_neg (by simp) ?_
    exact Ev.step (fun k => spec_l1Cur_scoreRow.j0.eq_2 ..) he
theorem scoreRows_loop {code : List Int} (hc : Bytes code) : ∀ (m : Nat) (l : List (List Sc)) (n at_ seed : Int), l.length + m ≤ 1000 → (∀ r ∈ l, r.length ≤ 1000) → At n at_ → n + 600 * (m : Int) ≤ 10000000 →
    ∃ r a s, Ev (fun k => spec_l1Cur_scoreRows.l0 k l (m : Int) code at_ seed) (r, a, s) ∧ r.length ≤ 1000 ∧ (∀ x ∈ r, x.length ≤ 1000) ∧ At (n + 600 * (m : Int) + 20) a
  | 0, l, n, at_, seed, hl, hr, h, hn => by
    obtain ⟨b, a1, s1, e1, h1⟩ := one_ok hc seed 20 h (by omega) (by omega)
    cases b with
    | true =>
      obtain ⟨x, a2, s2, e2, hx, h2⟩ := among_ok hc s1 [0, 4, 5] h1 (by omega) (by simp)
      have hx2 : 0 ≤ x ∧ x ≤ 5 := by
        simp only [List.mem_cons, List.not_mem_nil, or_false] at hx
        omega
      refine ⟨List.replicate x.toNat [], a2, s2, Ev.step (fun k => spec_l1Cur_scoreRows.l0.eq_2 ..) (ev_if_neg (by omega) ?_), by rw [List.length_replicate]; omega, ?_, ⟨h2.1, by have := h2.2; omega⟩⟩
      · rw [e1]
        simp only [Option.bind_some]
        refine ev_if_pos trivial ?_
        rw [e2]
        simp only [Option.bind_some]
        exact ev_if_pos hx2.1 (ev_if_pos (by omega) (ev_some rfl))
      · intro y hy
        rw [(List.mem_replicate.1 hy).2]
        simp
    | false =>
      refine ⟨l, a1, s1, Ev.step (fun k => spec_l1Cur_scoreRows.l0.eq_2 ..) (ev_if_neg (by omega) ?_), by omega, hr, ⟨h1.1, by have := h1.2; omega⟩⟩
      rw [e1]
      simp only [Option.bind_some]
      exact ev_if_neg (by simp) (ev_some rfl)
  | m + 1, l, n, at_, seed, hl, hr, h, hn => by
    obtain ⟨r1, a1, s1, e1, hr1, h1⟩ := scoreRow_ok hc seed h (by omega)
    obtain ⟨r, a, s, he, hlen, hall, hA⟩ := scoreRows_loop hc m (l ++ [r1]) _ a1 s1 (by rw [List.length_append, List.length_singleton]; omega) (by
      intro x hx
      rcases List.mem_append.1 hx with hx | hx
      · exact hr x hx
      · rw [List.mem_singleton.1 hx]; exact hr1) h1 (by omega)
    have hm : wrap64 (((m + 1 : Nat) : Int) - 1) = (m : Int) := by rw [wrap_id (by omega) (by omega)]; omega
    refine ⟨r, a, s, Ev.step (fun k => spec_l1Cur_scoreRows.l0.eq_2 ..) (ev_if_pos (by omega) (ev_bind e1 (ev_if_pos (by omega) ?_))), hlen, hall, ⟨hA.1, by have := hA.2; omega⟩⟩
    rw [hm]
    exact he
theorem scoreRows_ok {code : List Int} (hc : Bytes code) {n at_ : Int} (seed : Int) (h : At n at_) (hn : n ≤ 1000000) : ∃ r a s, Ev (fun k => spec_l1Cur_scoreRows.f k code at_ seed) (r, a, s) ∧ r.length ≤ 1000 ∧ (∀ x ∈ r, x.length ≤ 1000) ∧ At (n + 3000) a := by
  obtain ⟨x1, a1, s1, e1, p1, q1, h1⟩ := pick_ok hc seed 3 h (by omega) (by omega)
  obtain ⟨m, hm⟩ := Int.eq_ofNat_of_zero_le (show 0 ≤ 1 + x1 by omega)
  obtain ⟨r, a, s, he, hlen, hall, hA⟩ := scoreRows_loop hc m [] _ a1 s1 (by simp; omega) (by simp) h1 (by omega)
  refine ⟨r, a, s, ?_, hlen, hall, ⟨hA.1, by have := hA.2; omega⟩⟩
  unfold spec_l1Cur_scoreRows.f
  rw [e1]
  simp only [Option.bind_some]
  rw [wrap_id (x := 1 + x1) (by omega) (by omega), hm]
  exact he
theorem drawThr_ok {code : List Int} (hc : Bytes code) : ∃ r m, Ev (fun k => spec_DrawThreshold.f k code) (r, m) ∧ r.length ≤ 1000 ∧ ∀ x ∈ r, x.length ≤ 1000 := by
  obtain ⟨r, a, s, he, hlen, hall, hA⟩ := scoreRows_ok hc (n := 0) (at_ := 0) 0 ⟨by omega, by omega⟩ (by omega)
  obtain ⟨x, a2, s2, e2, _, _⟩ := among_ok hc s [0, 1, 2, 3, 10, 11] hA (by omega) (by simp)
  refine ⟨r, x, ?_, hlen, hall⟩
  unfold spec_DrawThreshold.f spec_DrawBestFew.f
  refine ev_bind (?_ : Ev _ (r, x)) (ev_some rfl)
  refine ev_bind he ?_
  rw [e2]
  simp only [Option.bind_some]
  exact ev_some rfl
theorem drawTotal_ok {code : List Int} (hc : Bytes code) : ∃ r m, Ev (fun k => spec_DrawTotalOf.f k code) (r, m) ∧ r.length ≤ 1000 ∧ ∀ x ∈ r, x.length ≤ 1000 := by
  obtain ⟨r, a, s, he, hlen, hall, hA⟩ := scoreRows_ok hc (n := 0) (at_ := 0) 0 ⟨by omega, by omega⟩ (by omega)
  obtain ⟨x, a2, s2, e2, _, _⟩ := pick_ok hc s 12 hA (by omega) (by omega)
  refine ⟨r, wrap64 (x - 1), ?_, hlen, hall⟩
  unfold spec_DrawTotalOf.f
  refine ev_bind he ?_
  rw [e2]
  simp only [Option.bind_some]
  exact ev_some rfl
theorem drawBound_ok {code : List Int} (hc : Bytes code) : ∃ r m, Ev (fun k => spec_DrawBoundAt.f k code) (r, m) ∧ r.length ≤ 1000 ∧ (∀ x ∈ r, x.length ≤ 1000) := by
  obtain ⟨r, a, s, he, hlen, hall, hA⟩ := scoreRows_ok hc (n := 0) (at_ := 0) 0 ⟨by omega, by omega⟩ (by omega)
  obtain ⟨x, a2, s2, e2, _, _⟩ := among_ok hc s [-1, 0, 1, 2, 5, 20, 21] hA (by omega) (by simp)
  refine ⟨r, x, ?_, hlen, hall⟩
  unfold spec_DrawBoundAt.f
  refine ev_bind he ?_
  rw [e2]
  simp only [Option.bind_some]
  exact ev_some rfl
theorem drawRow_ok {code : List Int} (hc : Bytes code) : ∃ r, Ev (fun k => spec_DrawGoodRow.f k code) r ∧ r.length ≤ 1000 := by
  obtain ⟨r, a, s, he, hlen, _⟩ := scoreRow_ok hc (n := 0) (at_ := 0) 0 ⟨by omega, by omega⟩ (by omega)
  refine ⟨r, ?_, hlen⟩
  unfold spec_DrawGoodRow.f
  exact ev_bind he (ev_some rfl)

/-! ### the threshold's list holds the best ones -/
theorem goodFrom_down : ∀ (rest pre : List Sc), goodFrom pre rest = true → (pre.Pairwise fun a b => b.f1 ≤ a.f1) → (pre ++ rest).Pairwise fun a b => b.f1 ≤ a.f1
  | [], pre, _, hp => by simpa using hp
  | y :: rest, pre, h, hp => by
    simp only [goodFrom, Bool.and_eq_true] at h
    have hl := h.1.2.1
    have hall : ∀ z ∈ pre, y.f1 ≤ z.f1 := by
      intro z hz
      unfold okLast at hl
      cases hg : pre.getLast? with
      | none => rw [List.getLast?_eq_none_iff] at hg; rw [hg] at hz; cases hz
      | some p =>
        rw [hg] at hl
        have hb := (better_iff p y).1 hl
        obtain ⟨ys, rfl⟩ := List.getLast?_eq_some_iff.1 hg
        rcases List.mem_append.1 hz with hz | hz
        · have := (List.pairwise_append.1 hp).2.2 z hz p (by simp)
          omega
        · rw [List.mem_singleton.1 hz]; omega
    have ih := goodFrom_down rest (pre ++ [y]) h.2 (List.pairwise_append.2 ⟨hp, by simp, fun a ha b hb => by rw [List.mem_singleton.1 hb]; exact hall a ha⟩)
    simpa using ih
theorem goodRow_down {l : List Sc} (h : goodRow l = true) : l.Pairwise fun a b => b.f1 ≤ a.f1 := by
  unfold goodRow at h
  simp only [Bool.and_eq_true, decide_eq_true_eq] at h
  simpa using goodFrom_down l [] h.1 List.Pairwise.nil
theorem rowTot_app (d : Int) : ∀ (l m : List Sc), rowTot (l ++ m) d = rowTot l d + rowTot m d
  | [], m => by simp [rowTot]
  | x :: l, m => by
    have ih := rowTot_app d l m
    simp only [List.cons_append, rowTot, ih]; omega
theorem rowTot_le (d M : Int) (hM : 0 ≤ M) : ∀ (l : List Sc), (l.map (·.f0)).Nodup → (∀ x ∈ l, x.f1 ≤ M) → rowTot l d ≤ M
  | [], _, _ => hM
  | x :: l, hn, h => by
    rw [List.map_cons, List.nodup_cons] at hn
    have ih := rowTot_le d M hM l hn.2 (fun z hz => h z (List.mem_cons_of_mem _ hz))
    unfold rowTot
    by_cases e : x.f0 = d
    · rw [if_pos e, rowTot_zero d l (fun z hz hzd => hn.1 (List.mem_map.2 ⟨z, hz, by rw [hzd, e]⟩))]
      have := h x List.mem_cons_self
      omega
    · rw [if_neg e]; omega
theorem row_left {r : List Sc} (h : goodRow r = true) (k : Nat) (d : Int) (hd : ∀ x ∈ r.take k, x.f0 ≠ d) : rowTot r d ≤ if k < r.length then (rd_T33 r k).f1 else 0 := by
  obtain ⟨g1, g2, _⟩ := goodRow_spec h
  have hdn := goodRow_down h
  have e : rowTot r d = rowTot (r.drop k) d := by
    have := rowTot_app d (r.take k) (r.drop k)
    rw [List.take_append_drop, rowTot_zero d _ hd] at this
    omega
  rw [e]
  by_cases hk : k < r.length
  · rw [if_pos hk]
    have hx : rd_T33 r k = r[k] := by
      show r.getD (k : Int).toNat z33 = _
      rw [Int.toNat_natCast, List.getD_eq_getElem?_getD, List.getElem?_eq_getElem hk]; rfl
    have h1 := (inRange_iff _).1 (g1 _ (rd_in hk))
    refine rowTot_le d _ (by omega) _ ?_ ?_
    · rw [List.map_drop]; exact g2.drop
    · intro z hz
      rw [hx]
      rw [List.drop_eq_getElem_cons hk] at hz
      have h2 : (r.drop k).Pairwise fun a b => b.f1 ≤ a.f1 := hdn.drop
      rw [List.drop_eq_getElem_cons hk, List.pairwise_cons] at h2
      rcases List.mem_cons.1 hz with rfl | hz
      · exact Int.le_refl _
      · exact h2.1 z hz
  · rw [if_neg hk, List.drop_eq_nil_of_le (by omega)]
    exact Int.le_refl _
theorem total_left (k : Nat) (d : Int) : ∀ (rows : List (List Sc)), (∀ r ∈ rows, goodRow r = true) → (∀ r ∈ rows, ∀ x ∈ r.take k, x.f0 ≠ d) → total rows d ≤ bnd rows k
  | [], _, _ => by simp [total, bnd]
  | r :: rs, hg, h => by
    have ih := total_left k d rs (fun z hz => hg z (List.mem_cons_of_mem _ hz)) (fun z hz => h z (List.mem_cons_of_mem _ hz))
    have h1 := row_left (hg r List.mem_cons_self) k d (h r List.mem_cons_self)
    unfold total bnd
    omega
/-- All docs of the rows' first k are in the list. -/
def Seen (rows : List (List Sc)) (k : Nat) (L : List Sc) : Prop := ∀ r ∈ rows, ∀ x ∈ r.take k, x.f0 ∈ L.map (·.f0)
theorem thrStep_mem (rows : List (List Sc)) (k : Nat) : ∀ (rest : List (List Sc)) (L : List Sc), (∀ d, d ∈ L.map (·.f0) → d ∈ (thrStep rows k L rest).map (·.f0)) ∧ ∀ r ∈ rest, k < r.length → (rd_T33 r k).f0 ∈ (thrStep rows k L rest).map (·.f0)
  | [], L => ⟨fun d h => h, fun r hr => by cases hr⟩
  | r :: rest, L => by
    unfold thrStep
    obtain ⟨h1, h2⟩ := thrStep_mem rows k rest (if k < r.length then addS L (good rows (rd_T33 r k)) else L)
    have hm : ∀ d, d ∈ L.map (·.f0) → d ∈ (if k < r.length then addS L (good rows (rd_T33 r k)) else L).map (·.f0) := by
      intro d hd
      split
      · exact (addS_mem _ _ _).2 (.inl hd)
      · exact hd
    refine ⟨fun d hd => h1 d (hm d hd), fun z hz hk => ?_⟩
    rcases List.mem_cons.1 hz with rfl | hz
    · refine h1 _ ?_
      rw [if_pos hk]
      exact (addS_mem _ _ _).2 (.inr rfl)
    · exact h2 z hz hk
theorem Seen.step {rows : List (List Sc)} {k : Nat} {L : List Sc} (h : Seen rows k L) : Seen rows (k + 1) (thrStep rows k L rows) := by
  obtain ⟨h1, h2⟩ := thrStep_mem rows k rows L
  intro r hr x hx
  by_cases hk : k < r.length
  · rw [List.take_succ_eq_append_getElem hk] at hx
    rcases List.mem_append.1 hx with hx | hx
    · exact h1 _ (h r hr x hx)
    · rw [List.mem_singleton.1 hx]
      have := h2 r hr hk
      have hx : rd_T33 r k = r[k] := by
        show r.getD (k : Int).toNat z33 = _
        rw [Int.toNat_natCast, List.getD_eq_getElem?_getD, List.getElem?_eq_getElem hk]; rfl
      rwa [hx] at this
  · rw [List.take_of_length_le (by omega)] at hx
    exact h1 _ (h r hr x (by rwa [List.take_of_length_le (by omega)]))
theorem thr_end (rows : List (List Sc)) (hg : ∀ r ∈ rows, goodRow r = true) (many : Int) : ∀ (f : Nat) (L : List Sc) (d : Nat), d ≤ 20 → d + f = 21 → Inv rows L → Seen rows d L →
    Inv rows (thr rows many f L d).1 ∧ Seen rows (thr rows many f L d).2 (thr rows many f L d).1 ∧ (thr rows many f L d).2 ≤ 20 ∧ (¬ bnd rows (thr rows many f L d).2 > 0 ∨ (many ≤ ((thr rows many f L d).1.length : Int) ∧ (rd_T33 (sortS (thr rows many f L d).1) (many - 1)).f1 > bnd rows (thr rows many f L d).2))
  | 0, L, d, hd, hf, hI, hS => by omega
  | f + 1, L, d, hd, hf, hI, hS => by
    unfold thr
    by_cases hp : bnd rows d > 0 ∧ ¬ (many ≤ (L.length : Int) ∧ (rd_T33 (sortS L) (many - 1)).f1 > bnd rows d)
    · rw [if_pos hp]
      have h20 := (bnd_bound d rows hg).2.2
      exact thr_end rows hg many f _ (d + 1) (by omega) (by omega) (thrStep_spec rows d rows L (fun _ h => h) hI).1 hS.step
    · rw [if_neg hp]
      refine ⟨hI, hS, hd, ?_⟩
      by_cases h1 : bnd rows d > 0
      · refine .inr ?_
        by_cases h2 : (many ≤ (L.length : Int) ∧ (rd_T33 (sortS L) (many - 1)).f1 > bnd rows d)
        · exact h2
        · exact absurd ⟨h1, h2⟩ hp
      · exact .inl h1
theorem doc_byDoc {rows : List (List Sc)} (hg : ∀ r ∈ rows, goodRow r = true) {y : Sc} (h1 : y = good rows y) (h2 : ∃ r ∈ rows, y.f0 ∈ r.map (·.f0)) : y ∈ byDoc rows 100 0 := by
  rw [byDoc_mem]
  have hp := (total_pos y.f0 rows hg).2 h2
  obtain ⟨r, hr, hy⟩ := h2
  obtain ⟨z, hz, e⟩ := List.mem_map.1 hy
  have h3 := (inRange_iff z).1 ((goodRow_spec (hg r hr)).1 z hz)
  have e : z.f0 = y.f0 := e
  exact ⟨by omega, by omega, congrArg (·.f1) h1, hp⟩
theorem byDoc_doc {rows : List (List Sc)} {x y : Sc} (hx : x ∈ byDoc rows 100 0) (hy : y ∈ byDoc rows 100 0) (h : x.f0 = y.f0) : x = y := by
  have h1 := ((byDoc_mem rows x 100 0).1 hx).2.2.1
  have h2 := ((byDoc_mem rows y 100 0).1 hy).2.2.1
  cases x; cases y
  simp only at h h1 h2 ⊢
  rw [h1, h2, h]
theorem thr_best (rows : List (List Sc)) (hg : ∀ r ∈ rows, goodRow r = true) (many : Int) (hm : 1 ≤ many) :
    (sortS (thr rows many 21 [] 0).1).take (min many (thr rows many 21 [] 0).1.length).toNat = (sortS (byDoc rows 100 0)).take (min many (byDoc rows 100 0).length).toNat := by
  obtain ⟨hI, hS, _, hstop⟩ := thr_end rows hg many 21 [] 0 (by omega) rfl (Inv.nil rows) (by intro r _ x hx; simp at hx)
  revert hI hS hstop
  generalize thr rows many 21 [] 0 = p
  obtain ⟨L, k⟩ := p
  intro hI hS hstop
  simp only at hI hS hstop ⊢
  have hLn : L.Nodup := (List.pairwise_map.1 hI.nod).imp (fun h e => h (congrArg (·.f0) e))
  have hLB : ∀ y ∈ L, y ∈ byDoc rows 100 0 := fun y hy => doc_byDoc hg (hI.gd y hy) (hI.doc y hy)
  have hBn := byDoc_nodup rows 100 0
  have hBd := fun x y => @byDoc_doc rows x y
  have hBt : ∀ x ∈ byDoc rows 100 0, x.f1 = total rows x.f0 ∧ total rows x.f0 > 0 := fun x hx => ((byDoc_mem rows x 100 0).1 hx).2.2
  revert hLB hBn hBd hBt
  generalize byDoc rows 100 0 = B
  intro hLB hBn hBd hBt
  classical
  obtain ⟨R, hR⟩ : ∃ R, B.Perm (L ++ R) ∧ ∀ x ∈ R, x ∈ B ∧ x ∉ L := by
    refine ⟨B.filter (fun x => decide (x ∉ L)), ?_, fun x hx => ?_⟩
    · refine (List.perm_ext_iff_of_nodup hBn ?_).2 fun x => ?_
      · rw [List.nodup_append]
        refine ⟨hLn, hBn.filter _, fun a ha b hb e => ?_⟩
        subst e
        have := (List.mem_filter.1 hb).2
        simp at this
        exact this ha
      · rw [List.mem_append, List.mem_filter]
        constructor
        · intro hx
          by_cases hxl : x ∈ L
          · exact .inl hxl
          · exact .inr ⟨hx, by simpa using hxl⟩
        · rintro (h | h)
          · exact hLB x h
          · exact h.1
    · have := List.mem_filter.1 hx
      exact ⟨this.1, by simpa using this.2⟩
  obtain ⟨hP, hR⟩ := hR
  have hRb : ∀ x ∈ R, x.f1 ≤ bnd rows k ∧ x.f1 > 0 := by
    intro x hx
    obtain ⟨h1, h2⟩ := hR x hx
    obtain ⟨h3, h4⟩ := hBt x h1
    have h5 := total_left k x.f0 rows hg (by
      intro r hr z hz e
      obtain ⟨y, hy, e2⟩ := List.mem_map.1 (hS r hr z hz)
      have e2 : y.f0 = z.f0 := e2
      have := hBd y x (hLB y hy) h1 (by rw [e2, e])
      exact h2 (this ▸ hy))
    omega
  have hlen := hP.length_eq
  rw [List.length_append] at hlen
  rcases hstop with hstop | ⟨hl, hstop⟩
  · have hnil : R = [] := by
      cases R with
      | nil => rfl
      | cons x R => have := hRb x List.mem_cons_self; omega
    subst hnil
    rw [List.append_nil] at hP
    rw [sortS_congr hP, hP.length_eq]
  · have hn : (min many (L.length : Int)).toNat = many.toNat := by omega
    have hn2 : (min many (B.length : Int)).toNat = many.toNat := by omega
    rw [hn, hn2]
    have hsl := sortS_length L
    have hx : rd_T33 (sortS L) (many - 1) = (sortS L)[many.toNat - 1]'(by omega) := by
      show (sortS L).getD (many - 1).toNat z33 = _
      rw [show (many - 1).toNat = many.toNat - 1 by omega, List.getD_eq_getElem?_getD, List.getElem?_eq_getElem (by omega)]; rfl
    rw [hx] at hstop
    have hsrt := sortS_sorted L
    have hA : ∀ a ∈ (sortS L).take many.toNat, a.f1 > bnd rows k := by
      intro a ha
      obtain ⟨i, hi, e⟩ := List.mem_iff_getElem.1 ha
      rw [List.length_take] at hi
      rw [List.getElem_take] at e
      by_cases hlast : i = many.toNat - 1
      · subst hlast; rw [← e]; exact hstop
      · have h1 := List.pairwise_iff_getElem.1 hsrt i (many.toNat - 1) (by omega) (by omega) (by omega)
        rw [e] at h1
        rw [Bool.not_eq_true', ← Bool.not_eq_true, better_iff] at h1
        omega
    have key : sortS B = (sortS L).take many.toNat ++ sortS ((sortS L).drop many.toNat ++ R) := by
      refine sorted_unique (sortS_sorted B) ?_ ?_
      · refine List.pairwise_append.2 ⟨hsrt.take, sortS_sorted _, fun a ha b hb => ?_⟩
        rw [(sortS_perm _).mem_iff, List.mem_append] at hb
        rcases hb with hb | hb
        · have := hsrt
          rw [← List.take_append_drop many.toNat (sortS L)] at this
          exact (List.pairwise_append.1 this).2.2 a ha b hb
        · have h1 := hA a ha
          have h2 := hRb b hb
          rw [Bool.not_eq_true', ← Bool.not_eq_true, better_iff]
          omega
      · refine (sortS_perm B).trans (hP.trans ?_)
        refine List.Perm.trans ?_ ((sortS_perm _).symm.append_left _)
        rw [← List.append_assoc, List.take_append_drop]
        exact (sortS_perm L).symm.append_right R
    rw [key, List.take_append_of_le_length (by rw [List.length_take]; omega), List.take_take, Nat.min_self]
theorem threshold_best (rows : List (List Sc)) (many : Int) : (threshold rows many).1 = (bestFew rows many).1 ∧ (threshold rows many).2.2 = (bestFew rows many).2 ∧ (threshold rows many).2.1 ≤ 20 := by
  unfold threshold bestFew
  by_cases h : areRows rows = true ∧ 1 ≤ many ∧ many ≤ 10
  · rw [if_pos h, if_pos h]
    obtain ⟨_, hg⟩ := areRows_spec h.1
    refine ⟨thr_best rows hg many h.2.1, rfl, ?_⟩
    have := (thr_end rows hg many 21 [] 0 (by omega) rfl (Inv.nil rows) (by intro r _ x hx; simp at hx)).2.2.1
    show ((thr rows many 21 [] 0).2 : Int) ≤ 20
    omega
  · rw [if_neg h, if_neg h]
    exact ⟨rfl, rfl, by show (0 : Int) ≤ 20; omega⟩

/-! ### the law -/
def totalOf (rows : List (List Sc)) (d : Int) : Int × Bool := if areRows rows = true ∧ 0 ≤ d ∧ d ≤ 99 then (total rows d, true) else (0, false)
def boundOf (rows : List (List Sc)) (d : Int) : Int × Bool := if areRows rows = true ∧ 0 ≤ d ∧ d ≤ 20 then (bnd rows d.toNat, true) else (0, false)
theorem implTotalOf_ev (rows : List (List Sc)) (hl : rows.length ≤ 1048576) (hr : ∀ r ∈ rows, r.length ≤ 1048576) (d : Int) : Ev (fun k => impl_TotalOf.f k rows d) (totalOf rows d) := by
  unfold impl_TotalOf.f totalOf
  refine ev_bind (implRows_ev rows hl hr) ?_
  simp only [implIn_eq, Option.bind_some]
  by_cases h : areRows rows = true
  · obtain ⟨⟨h1, h2⟩, hg⟩ := areRows_spec h
    refine ev_if_pos h ?_
    by_cases hd : 0 ≤ d ∧ d ≤ 99
    · rw [if_pos ⟨h, hd⟩]
      exact ev_if_pos (by simp [hd]) (ev_bind (implTotal_ev d rows h2 hg) (ev_some rfl))
    · rw [if_neg (fun h => hd h.2)]
      exact ev_if_neg (by simp; omega) (ev_some rfl)
  · rw [if_neg (fun h2 => h h2.1)]
    exact ev_if_neg h (ev_some rfl)
theorem specTotalOf_ev (rows : List (List Sc)) (hl : rows.length ≤ 1048576) (hr : ∀ r ∈ rows, r.length ≤ 1048576) (d : Int) : Ev (fun k => spec_TotalOf.f k rows d) (totalOf rows d) := by
  unfold spec_TotalOf.f totalOf
  refine ev_bind (specRows_ev rows hl hr) ?_
  simp only [specIn_eq, Option.bind_some]
  by_cases h : areRows rows = true
  · obtain ⟨⟨h1, h2⟩, hg⟩ := areRows_spec h
    refine ev_if_pos h ?_
    by_cases hd : 0 ≤ d ∧ d ≤ 99
    · rw [if_pos ⟨h, hd⟩]
      exact ev_if_pos (by simp [hd]) (ev_bind (specTotal_ev d rows h2 hg) (ev_some rfl))
    · rw [if_neg (fun h => hd h.2)]
      exact ev_if_neg (by simp; omega) (ev_some rfl)
  · rw [if_neg (fun h2 => h h2.1)]
    exact ev_if_neg h (ev_some rfl)
theorem implBoundAt_ev (rows : List (List Sc)) (hl : rows.length ≤ 1048576) (hr : ∀ r ∈ rows, r.length ≤ 1048576) (d : Int) : Ev (fun k => impl_BoundAt.f k rows d) (boundOf rows d) := by
  unfold impl_BoundAt.f boundOf
  refine ev_bind (implRows_ev rows hl hr) ?_
  simp only [implIn_eq, Option.bind_some]
  by_cases h : areRows rows = true
  · obtain ⟨⟨h1, h2⟩, hg⟩ := areRows_spec h
    refine ev_if_pos h ?_
    by_cases hd : 0 ≤ d ∧ d ≤ 20
    · rw [if_pos ⟨h, hd⟩]
      obtain ⟨n, rfl⟩ := Int.eq_ofNat_of_zero_le hd.1
      exact ev_if_pos (by simp [hd]) (ev_bind (implBound_ev n rows h2 (by omega) hg) (ev_some rfl))
    · rw [if_neg (fun h => hd h.2)]
      exact ev_if_neg (by simp; omega) (ev_some rfl)
  · rw [if_neg (fun h2 => h h2.1)]
    exact ev_if_neg h (ev_some rfl)
theorem specBoundAt_ev (rows : List (List Sc)) (hl : rows.length ≤ 1048576) (hr : ∀ r ∈ rows, r.length ≤ 1048576) (d : Int) : Ev (fun k => spec_BoundAt.f k rows d) (boundOf rows d) := by
  unfold spec_BoundAt.f boundOf
  refine ev_bind (specRows_ev rows hl hr) ?_
  simp only [specIn_eq, Option.bind_some]
  by_cases h : areRows rows = true
  · obtain ⟨⟨h1, h2⟩, hg⟩ := areRows_spec h
    refine ev_if_pos h ?_
    by_cases hd : 0 ≤ d ∧ d ≤ 20
    · rw [if_pos ⟨h, hd⟩]
      obtain ⟨n, rfl⟩ := Int.eq_ofNat_of_zero_le hd.1
      exact ev_if_pos (by simp [hd]) (ev_bind (specBound_ev n rows h2 (by omega) hg) (ev_some rfl))
    · rw [if_neg (fun h => hd h.2)]
      exact ev_if_neg (by simp; omega) (ev_some rfl)
  · rw [if_neg (fun h2 => h h2.1)]
    exact ev_if_neg h (ev_some rfl)
theorem same_loop (l : List Sc) (hl : l.length ≤ 1048576) : ∀ (m i : Nat), i + m = l.length → Ev (fun k => laws_sameScores.l0 k l l (l.length : Int) (i : Int)) true
  | 0, i, h => Ev.step (fun k => laws_sameScores.l0.eq_2 ..) (ev_if_neg (by omega) (ev_some rfl))
  | m + 1, i, h => by
    have ih := same_loop l hl m (i + 1) (by omega)
    rw [← wrap_succ (i := i) (by omega)] at ih
    exact Ev.step (fun k => laws_sameScores.l0.eq_2 ..) (ev_if_pos (by omega) (ev_if_pos (by omega) (ev_if_pos (by omega) (ev_if_pos (by omega) (ev_if_neg (by simp) ih)))))
theorem same_ev (l : List Sc) (hl : l.length ≤ 1048576) : Ev (fun k => laws_sameScores.f k l l) true := by
  unfold laws_sameScores.f
  exact ev_if_pos rfl (same_loop l hl l.length 0 (by omega))
theorem j9_ev {more : List Int} (hc : Bytes more) : Ev (fun k => laws_FnBest.j9 k more) true := by
  obtain ⟨r, d, h1, h2, h3⟩ := drawTotal_ok hc
  obtain ⟨s, a, h4, h5, h6⟩ := drawBound_ok hc
  obtain ⟨l, h7, h8⟩ := drawRow_ok hc
  have hr : ∀ x ∈ r, x.length ≤ 1048576 := fun x hx => by have := h3 x hx; omega
  have hs : ∀ x ∈ s, x.length ≤ 1048576 := fun x hx => by have := h6 x hx; omega
  refine Ev.step (fun k => laws_FnBest.j9.eq_2 ..) (ev_bind h1 (ev_bind (implTotalOf_ev r (by omega) hr d) (ev_bind (specTotalOf_ev r (by omega) hr d) (ev_bind h4 (ev_bind (implBoundAt_ev s (by omega) hs a) (ev_bind (specBoundAt_ev s (by omega) hs a) (ev_bind h7 ?_)))))))
  refine ev_if_pos (by simp) (ev_if_pos rfl (ev_if_pos (by simp) (ev_if_pos rfl (ev_bind (implGood_ev l (by omega)) (ev_bind (specGood_ev l (by omega)) ?_)))))
  exact Ev.step (fun k => laws_FnBest.j10.eq_2 ..) (ev_some (by simp))
/-- What the best list is, as the law asks it. -/
structure IsBest (rows : List (List Sc)) (many : Int) (b : List Sc) : Prop where
  ar : areRows rows = true
  m1 : 1 ≤ many
  m10 : many ≤ 10
  len : (b.length : Int) ≤ many
  el : ∀ x ∈ b, (0 ≤ x.f0 ∧ x.f0 ≤ 99) ∧ x.f1 = total rows x.f0 ∧ x.f1 > 0
  srt : b.Pairwise fun x y => ¬ (x.f1 < y.f1) ∧ ¬ (x.f1 = y.f1 ∧ x.f0 ≥ y.f0)
  out : ∀ d : Int, 0 ≤ d → d ≤ 99 → (∀ x ∈ b, x.f0 ≠ d) → (b.length : Int) = many → ∀ y ∈ b, ¬ (total rows d > y.f1) ∧ ¬ (total rows d = y.f1 ∧ d < y.f0)
theorem best_is (rows : List (List Sc)) (many : Int) (h : areRows rows = true ∧ 1 ≤ many ∧ many ≤ 10) : IsBest rows many (bestFew rows many).1 := by
  have e : (bestFew rows many).1 = (sortS (byDoc rows 100 0)).take (min many (byDoc rows 100 0).length).toNat := by unfold bestFew; rw [if_pos h]
  rw [e]
  have hmem : ∀ x, x ∈ (sortS (byDoc rows 100 0)).take (min many (byDoc rows 100 0).length).toNat → x ∈ byDoc rows 100 0 := fun x hx => (sortS_perm _).mem_iff.1 (List.mem_of_mem_take hx)
  have hsl := sortS_length (byDoc rows 100 0)
  have hnod : (sortS (byDoc rows 100 0)).Nodup := (sortS_perm _).nodup_iff.2 (byDoc_nodup rows 100 0)
  have hsrt := sortS_sorted (byDoc rows 100 0)
  refine ⟨h.1, h.2.1, h.2.2, by rw [List.length_take, hsl]; omega, fun x hx => ?_, ?_, fun d h0 h1 hd hlen y hy => ?_⟩
  · have := (byDoc_mem rows x 100 0).1 (hmem x hx)
    exact ⟨⟨by omega, by omega⟩, this.2.2.1, by omega⟩
  · refine List.Pairwise.imp_of_mem ?_ ((hsrt.take (i := (min many (byDoc rows 100 0).length).toNat)).and (List.Pairwise.take (i := (min many (byDoc rows 100 0).length).toNat) hnod))
    intro x y hx hy hxy
    have h1 := hxy.1
    rw [Bool.not_eq_true', ← Bool.not_eq_true, better_iff] at h1
    refine ⟨by omega, fun h2 => hxy.2 (byDoc_doc (hmem x hx) (hmem y hy) (by omega))⟩
  · have hy1 := (byDoc_mem rows y 100 0).1 (hmem y hy)
    by_cases hp : total rows d > 0
    · have hz : (⟨d, total rows d⟩ : Sc) ∈ byDoc rows 100 0 := (byDoc_mem rows _ 100 0).2 ⟨by show ((0 : Nat) : Int) ≤ d; omega, by show d < ((0 + 100 : Nat) : Int); omega, rfl, hp⟩
      rw [← (sortS_perm _).mem_iff, ← List.take_append_drop (min many (byDoc rows 100 0).length).toNat (sortS (byDoc rows 100 0)), List.mem_append] at hz
      have hs2 := hsrt
      rw [← List.take_append_drop (min many (byDoc rows 100 0).length).toNat (sortS (byDoc rows 100 0))] at hs2
      rcases hz with hz | hz
      · exact absurd rfl (hd _ hz)
      · have := (List.pairwise_append.1 hs2).2.2 y hy _ hz
        rw [Bool.not_eq_true', ← Bool.not_eq_true, better_iff] at this
        have : ¬ (y.f1 < total rows d ∨ (total rows d = y.f1 ∧ d < y.f0)) := this
        exact ⟨fun h => this (.inl h), fun h => this (.inr h)⟩
    · exact ⟨by omega, by omega⟩
theorem rdS_mem {b : List Sc} {i : Nat} (h : i < b.length) : rd_T33 b i = b[i] := by
  show b.getD (i : Int).toNat z33 = _
  rw [Int.toNat_natCast, List.getD_eq_getElem?_getD, List.getElem?_eq_getElem h]; rfl
theorem l2_loop {more : List Int} (rows : List (List Sc)) (many : Int) (b : List Sc) (hb : b.length ≤ 1048576) (d n : Int) (R : Bool)
    (hm : 1 ≤ many) (hlen : (b.length : Int) = many)
    (hout : (∀ x ∈ b, x.f0 ≠ d) → ∀ y ∈ b, ¬ (n > y.f1) ∧ ¬ (n = y.f1 ∧ d < y.f0))
    (hR : Ev (fun k => laws_FnBest.j8 k more rows many b d false) R) : ∀ (m i : Nat) (q : Bool), i + m = b.length → (q = false → ∀ x ∈ b.take i, x.f0 ≠ d) →
    Ev (fun k => laws_FnBest.l2 k more rows many b d n true q b (b.length : Int) (i : Int)) R
  | 0, i, q, h, hq => by
    refine Ev.step (fun k => laws_FnBest.l2.eq_2 ..) (ev_if_neg (by omega) ?_)
    have hw : wrap64 (many - 1) = many - 1 := wrap_id (by omega) (by omega)
    rw [hw]
    refine ev_if_pos (by omega) (ev_if_pos (by omega) (ev_if_pos rfl ?_))
    cases q with
    | true => exact ev_if_pos rfl hR
    | false =>
      have h1 := hq rfl
      rw [List.take_of_length_le (by omega)] at h1
      obtain ⟨p, hp⟩ := Int.eq_ofNat_of_zero_le (show 0 ≤ many - 1 by omega)
      have hx := rdS_mem (b := b) (i := p) (by omega)
      rw [hp, hx]
      obtain ⟨h2, h3⟩ := hout h1 b[p] (List.getElem_mem _)
      refine ev_if_neg (by simp) (ev_if_neg h2 ?_)
      by_cases h4 : n = (b[p]'(by omega)).f1
      · refine ev_if_pos h4 ?_
        rw [decide_eq_false (fun h => h3 ⟨h4, h⟩)]
        exact hR
      · exact ev_if_neg h4 hR
  | m + 1, i, q, h, hq => by
    have hi : i < b.length := by omega
    have go : ∀ q', (q' = false → ∀ x ∈ b.take (i + 1), x.f0 ≠ d) → Ev (fun k => laws_FnBest.j7 k more rows many b d n true q' b (b.length : Int) (i : Int)) R := by
      intro q' hq'
      have ih := l2_loop rows many b hb d n R hm hlen hout hR m (i + 1) q' (by omega) hq'
      rw [← wrap_succ (i := i) (by omega)] at ih
      exact Ev.step (fun k => laws_FnBest.j7.eq_2 ..) ih
    refine Ev.step (fun k => laws_FnBest.l2.eq_2 ..) (ev_if_pos (by omega) (ev_if_pos (by omega) (ev_if_pos (by omega) ?_)))
    cases q with
    | true => exact ev_if_pos rfl (go true (by simp))
    | false =>
      refine ev_if_neg (by simp) (go _ ?_)
      intro he x hx
      rw [List.take_succ_eq_append_getElem hi, List.mem_append] at hx
      rcases hx with hx | hx
      · exact hq rfl x hx
      · rw [List.mem_singleton.1 hx, ← rdS_mem hi]
        simpa using he
theorem l1_loop {more : List Int} (hc : Bytes more) (rows : List (List Sc)) (hl : rows.length ≤ 1048576) (hr : ∀ r ∈ rows, r.length ≤ 1048576) (many : Int) (b : List Sc) (hI : IsBest rows many b) : ∀ (m d : Nat), d + m = 100 →
    Ev (fun k => laws_FnBest.l1 k more rows many b (d : Int)) true
  | 0, d, h => Ev.step (fun k => laws_FnBest.l1.eq_2 ..) (ev_if_neg (by omega) (Ev.step (fun k => laws_FnBest.j5.eq_2 ..) (ev_if_neg (by simp) (j9_ev hc))))
  | m + 1, d, h => by
    refine Ev.step (fun k => laws_FnBest.l1.eq_2 ..) (ev_if_pos (by omega) ?_)
    by_cases he : (b.length : Int) = many
    · have ih := l1_loop hc rows hl hr many b hI m (d + 1) (by omega)
      rw [← wrap_succ (i := d) (by omega)] at ih
      have ht := implTotalOf_ev rows hl hr (d : Int)
      have e : totalOf rows (d : Int) = (total rows d, true) := by unfold totalOf; rw [if_pos ⟨hI.ar, by omega, by omega⟩]
      rw [e] at ht
      refine Ev.step (fun k => laws_FnBest.j5.eq_2 ..) (ev_if_pos (by simpa using he) (ev_bind ht ?_))
      refine l2_loop rows many b (by have := hI.m10; omega) d (total rows d) true hI.m1 he (fun hx => hI.out d (by omega) (by omega) hx he) ?_ b.length 0 false (by omega) (by simp)
      exact Ev.step (fun k => laws_FnBest.j8.eq_2 ..) (ev_if_neg (by simp) ih)
    · exact Ev.step (fun k => laws_FnBest.j5.eq_2 ..) (ev_if_neg (by simpa using he) (j9_ev hc))
theorem l0_loop {more : List Int} (hc : Bytes more) (rows : List (List Sc)) (hl : rows.length ≤ 1048576) (hr : ∀ r ∈ rows, r.length ≤ 1048576) (many : Int) (b : List Sc) (hI : IsBest rows many b) : ∀ (m i : Nat), i + m = b.length →
    Ev (fun k => laws_FnBest.l0 k more rows many b b (b.length : Int) (i : Int)) true
  | 0, i, h => Ev.step (fun k => laws_FnBest.l0.eq_2 ..) (ev_if_neg (by omega) (l1_loop hc rows hl hr many b hI 100 0 rfl))
  | m + 1, i, h => by
    have hlen := hI.len
    have hm10 := hI.m10
    have ih := l0_loop hc rows hl hr many b hI m (i + 1) (by omega)
    rw [← wrap_succ (i := i) (by omega)] at ih
    have hi : i < b.length := by omega
    obtain ⟨hx0, hx1, hx2⟩ := hI.el b[i] (List.getElem_mem _)
    have ht := implTotalOf_ev rows hl hr b[i].f0
    have e : totalOf rows b[i].f0 = (b[i].f1, true) := by unfold totalOf; rw [if_pos ⟨hI.ar, hx0⟩, hx1]
    rw [e] at ht
    have go : Ev (fun k => laws_FnBest.j3 k more rows many b b (b.length : Int) (i : Int) false) true := Ev.step (fun k => laws_FnBest.j3.eq_2 ..) (ev_if_neg (by simp) ih)
    refine Ev.step (fun k => laws_FnBest.l0.eq_2 ..) (ev_if_pos (by omega) (ev_if_pos (by omega) (ev_if_pos (by omega) ?_)))
    rw [rdS_mem hi]
    refine ev_bind ht (ev_if_pos rfl (ev_if_pos rfl ?_))
    by_cases h0 : (i : Int) > 0
    · refine ev_if_pos h0 ?_
      have hw : wrap64 ((i : Int) - 1) = ((i - 1 : Nat) : Int) := by rw [wrap_id (by omega) (by omega)]; omega
      rw [hw, rdS_mem (b := b) (i := i - 1) (by omega)]
      have hs := List.pairwise_iff_getElem.1 hI.srt (i - 1) i (by omega) hi (by omega)
      refine ev_if_pos (by omega) (ev_if_pos (by omega) (ev_if_neg hs.1 ?_))
      by_cases h4 : (b[i - 1]'(by omega)).f1 = b[i].f1
      · refine ev_if_pos h4 ?_
        rw [decide_eq_false (fun h => hs.2 ⟨h4, h⟩)]
        exact go
      · exact ev_if_neg h4 go
    · exact ev_if_neg h0 go
theorem FnBest : laws_FnBest.Pure := by
  intro code more _ _ hc _ _ hm
  have hc : Bytes code := fun x hx => wf_u8 (hc x hx)
  have hm : Bytes more := fun x hx => wf_u8 (hm x hx)
  suffices h : Ev (fun k => laws_FnBest.f k code more) true by
    obtain ⟨K, h⟩ := h
    exact ⟨K, h K (Nat.le_refl _)⟩
  unfold laws_FnBest.f
  by_cases hbig : (wrap64 ((code.length : Int) + (more.length : Int))) > 1048576
  · exact ev_if_pos hbig (ev_some rfl)
  refine ev_if_neg hbig ?_
  obtain ⟨rows, many, h1, h2, h3⟩ := drawThr_ok hc
  have hl : rows.length ≤ 1048576 := by omega
  have hr : ∀ x ∈ rows, x.length ≤ 1048576 := fun x hx => by have := h3 x hx; omega
  have k1 := implThr_ev rows hl hr many
  have k2 := specThr_ev rows hl hr many
  have k3 := implBest_ev rows hl hr many
  have k4 := specBest_ev rows hl hr many
  obtain ⟨e1, e2, e3⟩ := threshold_best rows many
  have hB := best_is rows many
  have hok : (bestFew rows many).2 = true → areRows rows = true ∧ 1 ≤ many ∧ many ≤ 10 := by
    unfold bestFew
    split
    · rename_i h; exact fun _ => h
    · intro h; cases h
  have hlen := bestFew_length rows many
  revert k1 k2 k3 k4 e1 e2 e3 hB hok hlen
  generalize threshold rows many = T
  generalize bestFew rows many = B
  obtain ⟨t, dep, ok⟩ := T
  obtain ⟨b, one⟩ := B
  intro k1 k2 k3 k4 e1 e2 e3 hB hok hlen
  simp only at e1 e2 e3 hB hok hlen
  subst e1 e2
  have hs := same_ev t (by omega)
  refine ev_bind h1 (ev_bind k1 (ev_bind k2 (ev_bind k3 (ev_bind k4 ?_))))
  refine ev_if_neg (by simp) (ev_if_pos rfl (ev_bind hs (ev_if_pos rfl (ev_if_neg (by simp) (ev_bind hs ?_)))))
  refine Ev.step (fun k => laws_FnBest.j0.eq_2 ..) (ev_if_neg (by simp) ?_)
  cases ok with
  | false => exact ev_if_neg (by simp) (j9_ev hm)
  | true =>
    have hI := hB (hok rfl)
    refine ev_if_pos rfl (ev_if_pos rfl (ev_bind hs (ev_if_pos rfl (ev_if_neg (show ¬ dep > 20 by omega) ?_))))
    have hlen2 : (t.length : Int) ≤ many := hI.len
    show Ev (fun k => laws_FnBest.j1 k more rows many t (decide ((t.length : Int) > many))) true
    rw [decide_eq_false (show ¬ (t.length : Int) > many by omega)]
    exact Ev.step (fun k => laws_FnBest.j1.eq_2 ..) (ev_if_neg (by simp) (l0_loop hm rows hl hr many t hI t.length 0 (by omega)))

end Go.Proofs.Ytabfkalcjfjkiaa.Pure
