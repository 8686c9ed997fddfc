/- The law FnExactGoodEntries holds at every input; no conditions. -/
import Derived.Test.YtgnpbbdejagbnaaQFnExactGoodEntriesx3
import Derived.Test.YtgnpbbdejagbnaaBase
import Derived.OpenShut
namespace Go.Proofs.Ytgnpbbdejagbnaa.Pure
open Go.RowKit Go.Proofs.Ytgnpbbdejagbnaa.QFnExactGoodEntries Go.Proofs.YtgnpbbdejagbnaaW.PrintWords Go.Proofs.YtgnpbbdejagbnaaW.PrintLast Go.Proofs.Ytgnpbbdejagbnaa.Base
set_option linter.unusedSimpArgs false
set_option linter.unusedVariables false

def wf68 (x : S68) : Prop := x.f0.size ≤ 9223372036854775807 ∧ (Lit.int .i64 x.f1).wf = true
def laws_FnExactGoodEntries.Pure : Prop := ∀ (l0 : List (S68)), (l0.length ≤ 9223372036854775807 ∧ ∀ y ∈ l0, wf68 y) → ∃ k, laws_FnExactGoodEntries.f k l0 = some true

/-! ### words -/
def lettersN (s : ByteArray) : Nat → Nat → Bool
  | 0, _ => true
  | d + 1, i => (decide (97 ≤ bt s i) && decide (bt s i ≤ 122)) && lettersN s d (i + 1)

def isWordB (s : ByteArray) : Bool := lettersN s s.size 0 && (decide (1 ≤ s.size) && decide (s.size ≤ 12))

theorem spec_word_ev (s : ByteArray) (hs : s.size ≤ 1048576) : ∀ (d i : Nat), i + d = s.size → Ev (fun k => spec_l9Word.l0 k s i) (lettersN s d i && (decide (1 ≤ s.size) && decide (s.size ≤ 12)))
  | 0, i, hi => by
    refine Ev.step (fun k => spec_l9Word.l0.eq_2 ..) (ev_if_neg (by omega) (ev_fun fun k => ?_))
    simp only [spec_l1In.f, lettersN]
    by_cases h1 : 1 ≤ s.size
    · have h1' : (s.size : Int) ≥ 1 := by omega
      have h2 : ((s.size : Int) ≤ 12) = (s.size ≤ 12) := by apply propext; omega
      simp [h1, h1', h2]
    · have h1' : ¬ (s.size : Int) ≥ 1 := by omega
      simp [h1, h1']
  | d + 1, i, hi => by
    refine Ev.step (fun k => spec_l9Word.l0.eq_2 ..) (ev_if_pos (by omega) (ev_if_pos (by omega) ?_))
    by_cases h1 : bt s i < 97
    · exact ev_if_pos h1 (ev_some (by simp [lettersN, show ¬ 97 ≤ bt s i by omega]))
    · by_cases h2 : bt s i > 122
      · exact ev_if_neg h1 (ev_if_pos h2 (ev_some (by simp [lettersN, show ¬ bt s i ≤ 122 by omega])))
      · refine ev_if_neg h1 (ev_if_neg h2 ?_)
        rw [wrap_succ (by omega)]
        refine ev_eq (spec_word_ev s hs d (i + 1) (by omega)) ?_
        simp [lettersN, show 97 ≤ bt s i by omega, show bt s i ≤ 122 by omega]

theorem spec_l9Word_ev (s : ByteArray) (hs : s.size ≤ 1048576) : Ev (fun k => spec_l9Word.f k s) (isWordB s) := spec_word_ev s hs s.size 0 (by omega)

theorem impl_letters_ev (s : ByteArray) (hs : s.size ≤ 1048576) : ∀ (d i : Nat), i + d = s.size → Ev (fun k => impl_areLetters.l0 k s s.size i) (lettersN s d i && decide (s.size ≤ 12))
  | 0, i, hi => by
    refine Ev.step (fun k => impl_areLetters.l0.eq_2 ..) (ev_if_neg (by omega) (ev_fun fun k => ?_))
    have h2 : ((s.size : Int) ≤ 12) = (s.size ≤ 12) := by apply propext; omega
    simp [lettersN, h2]
  | d + 1, i, hi => by
    refine Ev.step (fun k => impl_areLetters.l0.eq_2 ..) (ev_if_pos (by omega) (ev_if_pos (by omega) (ev_if_pos (by omega) ?_)))
    unfold impl_isLetter.f
    by_cases h1 : bt s i ≥ 97
    · by_cases h2 : bt s i ≤ 122
      · simp only [h1, h2, if_true, decide_true, Option.bind_some]
        rw [wrap_succ (by omega)]
        refine ev_eq (impl_letters_ev s hs d (i + 1) (by omega)) ?_
        simp [lettersN, show 97 ≤ bt s i by omega, h2]
      · exact ev_fun fun k => by simp [lettersN, h1, h2]
    · exact ev_fun fun k => by simp [lettersN, h1]

theorem impl_isWord_ev (s : ByteArray) (hs : s.size ≤ 1048576) : Ev (fun k => impl_isWord.f k s) (isWordB s) := by
  unfold impl_isWord.f impl_areLetters.f
  by_cases h : s.toList = ([] : List UInt8)
  · have h0 := (toList_nil s).1 h
    exact ev_if_pos h (ev_some (by simp [isWordB, h0]))
  · have h0 : s.size ≠ 0 := fun h' => h ((toList_nil s).2 h')
    refine ev_if_neg h (ev_bind (impl_letters_ev s hs s.size 0 (by omega)) (ev_some ?_))
    simp [isWordB, show 1 ≤ s.size by omega]

/-! ### good entries -/
def goodE (x : S69) : Bool := isWordB x.f0 && (decide (1 ≤ x.f1) && decide (x.f1 ≤ 1000))
def chainE : Option (S69) → List (S69) → Bool
  | _, [] => true
  | none, x :: l => goodE x && chainE (some x) l
  | some p, x :: l => goodE x && (Op.bytesLess p.f0.toList x.f0.toList && chainE (some x) l)
def goodEs (l : List (S69)) : Bool := chainE none l && decide (l.length ≤ 20)

/-! ### Entry: sizes -/
theorem szEntry_ev (x : S68) (left : Int) (h0 : 0 ≤ left) (h1 : left ≤ 1048576) (hw : x.f0.size ≤ 9223372036854775807) : ∃ r, laws_szEntry.f x.f0 x.f1 left = some r ∧ r ≤ 1048576 ∧ (0 ≤ r → x.f0.size ≤ 1048576) := by
  unfold laws_szEntry.f
  have e : wrap64 (left - (x.f0.size : Int)) = left - x.f0.size := wrap_id (by omega) (by omega)
  rw [e]
  by_cases h : left - (x.f0.size : Int) < 0
  · exact ⟨-1, by rw [if_pos h], by omega, fun h => by omega⟩
  · exact ⟨_, by rw [if_neg h], by omega, fun _ => by omega⟩
theorem szEntryS_loop (l : List (S68)) (hl : l.length ≤ 1048576) (hw : ∀ x ∈ l, x.f0.size ≤ 9223372036854775807) : ∀ (rest : List (S68)) (i : Nat) (left : Int), l.drop i = rest → 0 ≤ left → left ≤ 1048576 →
    ∃ r, Ev (fun k => laws_szEntryS.l0 k l left i) r ∧ r ≤ 1048576 ∧ (0 ≤ r → ∀ x ∈ rest, x.f0.size ≤ 1048576)
  | [], i, left, hd, h0, h1 => by
    have h := drop_nil hd
    exact ⟨left, Ev.step (fun k => laws_szEntryS.l0.eq_2 ..) (ev_if_neg (by omega) (ev_some rfl)), h1, fun _ s hs => by simp at hs⟩
  | s :: rest, i, left, hd, h0, h1 => by
    obtain ⟨hi, hd', hx⟩ := drop_cons hd
    have hx : rd_T68 l i = s := hx _
    have hs : s ∈ l := List.mem_of_mem_drop (by rw [hd]; exact List.mem_cons_self)
    obtain ⟨q, hq, hq1, hq2⟩ := szEntry_ev s left h0 h1 (hw s hs)
    by_cases hn : q < 0
    · refine ⟨-1, Ev.step (fun k => laws_szEntryS.l0.eq_2 ..) (ev_if_pos (by omega) (ev_if_pos (by omega) ?_)), by omega, fun h => by omega⟩
      simp only [hx, hq, Option.bind_some]
      exact ev_if_pos hn (ev_some rfl)
    · obtain ⟨r, hr, hb, hall⟩ := szEntryS_loop l hl hw rest (i + 1) q hd' (by omega) hq1
      refine ⟨r, Ev.step (fun k => laws_szEntryS.l0.eq_2 ..) (ev_if_pos (by omega) (ev_if_pos (by omega) ?_)), hb, fun h t ht => ?_⟩
      · simp only [hx, hq, Option.bind_some]
        rw [wrap_succ (by omega)]
        exact ev_if_neg hn hr
      · rcases List.mem_cons.1 ht with rfl | ht
        · exact hq2 (by omega)
        · exact hall h t ht
theorem szEntryS_ev (l : List (S68)) (left : Int) (h0 : 0 ≤ left) (h1 : left ≤ 1048576) (hl : l.length ≤ 9223372036854775807) (hw : ∀ x ∈ l, x.f0.size ≤ 9223372036854775807) :
    ∃ r, Ev (fun k => laws_szEntryS.f k l left) r ∧ r ≤ 1048576 ∧ (0 ≤ r → l.length ≤ 1048576 ∧ ∀ x ∈ l, x.f0.size ≤ 1048576) := by
  unfold laws_szEntryS.f
  have e : wrap64 (left - (l.length : Int)) = left - l.length := wrap_id (by omega) (by omega)
  simp only [e]
  by_cases hn : left - (l.length : Int) < 0
  · exact ⟨-1, ev_if_pos hn (ev_some rfl), by omega, fun h => by omega⟩
  · obtain ⟨r, hr, hb, hall⟩ := szEntryS_loop l (by omega) hw l 0 (left - l.length) rfl (by omega) (by omega)
    exact ⟨r, ev_if_neg hn hr, hb, fun h => ⟨by omega, hall h⟩⟩

/-! ### Entry: copied -/
def toEntry (x : S68) : S69 := ⟨x.f0, x.f1⟩
theorem toEntry_eq (x : S68) : laws_toEntry.f x.f0 x.f1 = some ((toEntry x).f0, (toEntry x).f1) := rfl
theorem toEntryS_loop (l : List (S68)) (hl : l.length ≤ 1048576) : ∀ (rest : List (S68)) (pre : List (S69)) (i : Nat), l.drop i = rest → pre.length = i →
    Ev (fun k => laws_toEntryS.l0 k l (pre ++ List.replicate rest.length z69) i) (pre ++ rest.map toEntry)
  | [], pre, i, hd, hp => by
    have h := drop_nil hd
    exact Ev.step (fun k => laws_toEntryS.l0.eq_2 ..) (ev_if_neg (by omega) (ev_some rfl))
  | s :: rest, pre, i, hd, hp => by
    obtain ⟨hi, hd', hx⟩ := drop_cons hd
    have hx : rd_T68 l i = s := hx _
    refine Ev.step (fun k => laws_toEntryS.l0.eq_2 ..) (ev_if_pos (by omega) (ev_if_pos (by omega) ?_))
    simp only [hx, toEntry_eq, Option.bind_some]
    refine ev_if_pos (by rw [List.length_append, List.length_replicate, List.length_cons]; omega) ?_
    rw [wrap_succ (by omega), Int.toNat_natCast, List.length_cons, List.replicate_succ]
    subst hp
    rw [set_at]
    have := toEntryS_loop l hl rest (pre ++ [toEntry s]) (pre.length + 1) hd' (by simp)
    simpa using this
theorem toEntryS_ev (l : List (S68)) (hl : l.length ≤ 1048576) : Ev (fun k => laws_toEntryS.f k l) (l.map toEntry) := by
  unfold laws_toEntryS.f
  refine ev_if_pos (by omega) (ev_if_pos (by omega) ?_)
  rw [Int.toNat_natCast]
  exact toEntryS_loop l hl l [] 0 rfl rfl

/-! ### Entry: alike -/
theorem eqEntry_eq (x : S69) : laws_eqEntry.f x.f0 x.f1 x.f0 x.f1 = some true := by
  unfold laws_eqEntry.f
  simp
theorem eqEntryS_loop (l : List (S69)) (hl : l.length ≤ 1152921504606846976) : ∀ (rest : List (S69)) (i : Nat), l.drop i = rest → Ev (fun k => laws_eqEntryS.l0 k l l i) true
  | [], i, hd => by
    have h := drop_nil hd
    exact Ev.step (fun k => laws_eqEntryS.l0.eq_2 ..) (ev_if_neg (by omega) (ev_some rfl))
  | s :: rest, i, hd => by
    obtain ⟨hi, hd', hx⟩ := drop_cons hd
    have hx : rd_T69 l i = s := hx _
    refine Ev.step (fun k => laws_eqEntryS.l0.eq_2 ..) (ev_if_pos (by omega) (ev_if_pos (by omega) (ev_if_pos (by omega) ?_)))
    simp only [hx, eqEntry_eq, Option.bind_some]
    rw [wrap_succ (by omega)]
    exact ev_if_pos (by simp) (eqEntryS_loop l hl rest (i + 1) hd')
theorem eqEntryS_ev (l : List (S69)) (hl : l.length ≤ 1152921504606846976) : Ev (fun k => laws_eqEntryS.f k l l) true := by
  unfold laws_eqEntryS.f
  exact ev_if_pos rfl (eqEntryS_loop l hl l 0 rfl)

theorem spec_GoodEntries_loop (l : List (S69)) (hl : l.length ≤ 1048576) (hw : ∀ x ∈ l, x.f0.size ≤ 1048576) : ∀ (rest pre : List (S69)), l = pre ++ rest →
    Ev (fun k => spec_GoodEntries.l0 k l l l.length pre.length) (chainE pre.getLast? rest && decide (l.length ≤ 20))
  | [], pre, hd => by
    have e : l.length = pre.length := by rw [hd]; simp
    refine Ev.step (fun k => spec_GoodEntries.l0.eq_2 ..) (ev_if_neg (by omega) (ev_some ?_))
    have h2 : ((l.length : Int) ≤ 20) = (l.length ≤ 20) := by apply propext; omega
    cases pre.getLast? <;> simp [chainE, h2]
  | x :: rest, pre, hd => by
    obtain ⟨hi, hx⟩ := mid_at hd
    have hx : rd_T69 l pre.length = x := hx _
    have hs := hw x (by rw [hd]; simp)
    refine Ev.step (fun k => spec_GoodEntries.l0.eq_2 ..) (ev_if_pos (by omega) (ev_if_pos (by omega) (ev_if_pos (by omega) ?_)))
    rw [hx]
    refine ev_bind (spec_l9Word_ev x.f0 hs) ?_
    have ih := spec_GoodEntries_loop l hl hw rest (pre ++ [x]) (by rw [hd]; simp)
    rw [List.length_append, List.length_singleton] at ih
    simp only [List.getLast?_append, List.getLast?_singleton, Option.some_or] at ih
    by_cases h1 : isWordB x.f0 = true
    · refine ev_true h1 ?_
      unfold spec_l1In.f
      by_cases h2 : x.f1 ≥ 1
      · by_cases h3 : x.f1 ≤ 1000
        · simp only [h2, h3, if_true, decide_true, Option.bind_some]
          have hg : goodE x = true := by simp [goodE, h1, h3]; omega
          rcases nil_or_snoc pre with rfl | ⟨q, p, rfl⟩
          · refine ev_if_neg (by simp) ?_
            rw [wrap_succ (by omega)]
            refine ev_eq ih ?_
            simp [chainE, hg]
          · have hlast := last_at hd z69
            have hlast : rd_T69 l (((q ++ [p]).length : Int) - 1) = p := hlast
            have hpos : ((q ++ [p]).length : Int) > 0 := by rw [List.length_append, List.length_singleton]; omega
            rw [wrap_id (x := ((q ++ [p]).length : Int) - 1) (by omega) (by omega), hlast]
            refine ev_if_pos hpos (ev_if_pos (by omega) (ev_if_pos (by omega) ?_))
            by_cases h4 : Op.bytesLess p.f0.toList x.f0.toList = true
            · refine ev_if_pos h4 ?_
              rw [wrap_succ (by omega)]
              refine ev_eq ih ?_
              simp [chainE, hg, h4]
            · refine ev_if_neg h4 (ev_some ?_)
              simp [chainE, h4]
        · simp only [h2, h3, if_true, decide_false, Option.bind_some, if_false, Bool.false_eq_true]
          refine ev_some ?_
          rcases nil_or_snoc pre with rfl | ⟨q, p, rfl⟩ <;> simp [chainE, goodE, h3]
      · simp only [h2, if_false, Option.bind_some, Bool.false_eq_true]
        refine ev_some ?_
        have h2' : ¬ 1 ≤ x.f1 := by omega
        rcases nil_or_snoc pre with rfl | ⟨q, p, rfl⟩ <;> simp [chainE, goodE, h2']
    · refine ev_if_neg h1 (ev_some ?_)
      rcases nil_or_snoc pre with rfl | ⟨q, p, rfl⟩ <;> simp [chainE, goodE, h1]
theorem spec_GoodEntries_ev (l : List (S69)) (hl : l.length ≤ 1048576) (hw : ∀ x ∈ l, x.f0.size ≤ 1048576) : Ev (fun k => spec_GoodEntries.f k l) (goodEs l) :=
  spec_GoodEntries_loop l hl hw l [] rfl

theorem impl_isEntry_ev (x : S69) (hs : x.f0.size ≤ 1048576) : Ev (fun k => impl_isEntry.f k x.f0 x.f1) (goodE x) := by
  unfold impl_isEntry.f impl_within.f
  refine ev_bind (impl_isWord_ev x.f0 hs) ?_
  by_cases h1 : isWordB x.f0 = true
  · refine ev_true h1 (ev_fun fun _ => ?_)
    by_cases h2 : x.f1 ≥ 1
    · have h2' : 1 ≤ x.f1 := h2
      simp [goodE, h1, h2']
    · have h2' : ¬ 1 ≤ x.f1 := h2
      simp [goodE, h1, h2']
  · exact ev_if_neg h1 (ev_some (by simp [goodE, h1]))
theorem impl_GoodEntries_loop (l : List (S69)) (hl : l.length ≤ 1048576) (hw : ∀ x ∈ l, x.f0.size ≤ 1048576) : ∀ (rest pre : List (S69)), l = pre ++ rest →
    Ev (fun k => impl_GoodEntries.l0 k l l l.length pre.length) (chainE pre.getLast? rest && decide (l.length ≤ 20))
  | [], pre, hd => by
    have e : l.length = pre.length := by rw [hd]; simp
    refine Ev.step (fun k => impl_GoodEntries.l0.eq_2 ..) (ev_if_neg (by omega) (ev_some ?_))
    have h2 : ((l.length : Int) ≤ 20) = (l.length ≤ 20) := by apply propext; omega
    cases pre.getLast? <;> simp [chainE, h2]
  | x :: rest, pre, hd => by
    obtain ⟨hi, hx⟩ := mid_at hd
    have hx : rd_T69 l pre.length = x := hx _
    have hs := hw x (by rw [hd]; simp)
    refine Ev.step (fun k => impl_GoodEntries.l0.eq_2 ..) (ev_if_pos (by omega) (ev_if_pos (by omega) (ev_if_pos (by omega) ?_)))
    rw [hx]
    refine ev_bind (impl_isEntry_ev x hs) ?_
    have ih := impl_GoodEntries_loop l hl hw rest (pre ++ [x]) (by rw [hd]; simp)
    rw [List.length_append, List.length_singleton] at ih
    simp only [List.getLast?_append, List.getLast?_singleton, Option.some_or] at ih
    by_cases hg : goodE x = true
    · refine ev_true hg ?_
      rcases nil_or_snoc pre with rfl | ⟨q, p, rfl⟩
      · refine ev_if_neg (by simp) ?_
        rw [wrap_succ (by omega)]
        refine ev_eq ih ?_
        simp [chainE, hg]
      · have hlast := last_at hd z69
        have hlast : rd_T69 l (((q ++ [p]).length : Int) - 1) = p := hlast
        have hpos : ((q ++ [p]).length : Int) > 0 := by rw [List.length_append, List.length_singleton]; omega
        rw [wrap_id (x := ((q ++ [p]).length : Int) - 1) (by omega) (by omega), hlast]
        refine ev_if_pos hpos (ev_if_pos (by omega) (ev_if_pos (by omega) ?_))
        by_cases h4 : Op.bytesLess p.f0.toList x.f0.toList = true
        · refine ev_if_pos h4 ?_
          rw [wrap_succ (by omega)]
          refine ev_eq ih ?_
          simp [chainE, hg, h4]
        · refine ev_if_neg h4 (ev_some ?_)
          simp [chainE, h4]
    · refine ev_if_neg hg (ev_some ?_)
      rcases nil_or_snoc pre with rfl | ⟨q, p, rfl⟩ <;> simp [chainE, hg]
theorem impl_GoodEntries_ev (l : List (S69)) (hl : l.length ≤ 1048576) (hw : ∀ x ∈ l, x.f0.size ≤ 1048576) : Ev (fun k => impl_GoodEntries.f k l) (goodEs l) :=
  impl_GoodEntries_loop l hl hw l [] rfl

theorem FnExactGoodEntries : laws_FnExactGoodEntries.Pure := by
  intro l hw
  refine Ev.rounds (g := fun k => laws_FnExactGoodEntries.f k l) ?_
  unfold laws_FnExactGoodEntries.f
  obtain ⟨r, hr, _, hall⟩ := szEntryS_ev l 1048576 (by omega) (by omega) hw.1 (fun x hx => (hw.2 x hx).1)
  refine ev_bind hr ?_
  by_cases hn : r < 0
  · exact ev_if_pos hn (ev_some rfl)
  obtain ⟨h1, h2⟩ := hall (by omega)
  refine ev_if_neg hn ?_
  have hto := toEntryS_ev l h1
  have h1' : (l.map toEntry).length ≤ 1048576 := by simpa using h1
  have h2' : ∀ x ∈ l.map toEntry, x.f0.size ≤ 1048576 := by
    intro x hx
    obtain ⟨y, hy, rfl⟩ := List.mem_map.1 hx
    exact h2 y hy
  refine ev_bind hto (ev_bind (spec_GoodEntries_ev _ h1' h2') (ev_bind hto (ev_bind (impl_GoodEntries_ev _ h1' h2') ?_)))
  rw [bne_self_eq_false]
  exact ev_if_neg (by simp) (ev_bind hto (ev_bind (eqEntryS_ev _ (by omega)) (ev_if_pos rfl (ev_some rfl))))

end Go.Proofs.Ytgnpbbdejagbnaa.Pure
