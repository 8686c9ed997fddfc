/- The law FnExactSuggest holds at every input; no conditions. -/
import Derived.Test.YtkoackkimdanjaaQFnExactSuggestx15
import Derived.Test.YtkoackkimdanjaaBase
import Derived.OpenShut
namespace Go.Proofs.Ytkoackkimdanjaa.Pure
open Go.RowKit Go.Proofs.Ytkoackkimdanjaa.QFnExactSuggest Go.Proofs.YtkoackkimdanjaaW.PrintWords Go.Proofs.YtkoackkimdanjaaW.PrintLast Go.Proofs.Ytkoackkimdanjaa.Base
set_option linter.unusedSimpArgs false
set_option linter.unusedVariables false

def wf73 (x : S73) : Prop := (Lit.int .i64 x.f0).wf = true ∧ (Lit.int .i64 x.f1).wf = true ∧ (Lit.int .i64 x.f2).wf = true ∧ (x.f3.length ≤ 9223372036854775807 ∧ ∀ y ∈ x.f3, (Lit.int .i64 y).wf = true)
def laws_FnExactSuggest.Pure : Prop := ∀ (l0 : List (S73)) (a1 : ByteArray) (a2 : Int), (l0.length ≤ 9223372036854775807 ∧ ∀ y ∈ l0, wf73 y) → a1.size ≤ 140737488351232 → (Lit.int .i64 a2).wf = true → ∃ k, laws_FnExactSuggest.Ok k l0 a1 a2

/-! ### lists of whole numbers: alike, marked, held -/
theorem rd_rdOf (l : List Int) (i : Int) : rd l i = rdOf 0 l i := rfl
theorem eqIntS_loop (l : List Int) (hl : l.length ≤ 1152921504606846976) : ∀ (rest : List Int) (i : Nat), l.drop i = rest → Ev (fun k => laws_eqIntS.l0 k l l i) true
  | [], i, hd => by
    have h := drop_nil hd
    exact Ev.step (fun k => laws_eqIntS.l0.eq_2 ..) (ev_if_neg (by omega) (ev_some rfl))
  | s :: rest, i, hd => by
    obtain ⟨hi, hd', hx⟩ := drop_cons hd
    refine Ev.step (fun k => laws_eqIntS.l0.eq_2 ..) (ev_if_pos (by omega) (ev_if_pos (by omega) (ev_if_pos (by omega) (ev_if_pos rfl ?_))))
    rw [wrap_succ (by omega)]
    exact eqIntS_loop l hl rest (i + 1) hd'
theorem eqIntS_ev (l : List Int) (hl : l.length ≤ 1152921504606846976) : Ev (fun k => laws_eqIntS.f k l l) true := by
  unfold laws_eqIntS.f
  exact ev_if_pos rfl (eqIntS_loop l hl l 0 rfl)

def marksI : Nat → Nat → List Int
  | 0, _ => []
  | d + 1, n => (n : Int) :: marksI d (n + 1)
theorem marksI_length : ∀ d n, (marksI d n).length = d
  | 0, _ => rfl
  | d + 1, n => by simp [marksI, marksI_length d (n + 1)]
theorem markIntS_loop : ∀ (rest pre : List Int) (n : Nat), pre.length + rest.length ≤ 1073741824 → n + rest.length ≤ 1073741824 →
    Ev (fun k => laws_markIntS.l0 k (pre ++ rest) n pre.length) (((n + rest.length : Nat) : Int), pre ++ marksI rest.length n)
  | [], pre, n, hp, hb => by
    refine Ev.step (fun k => laws_markIntS.l0.eq_2 ..) (ev_if_neg (by rw [List.append_nil]; omega) (ev_some (by simp [marksI])))
  | s :: rest, pre, n, hp, hb => by
    rw [List.length_cons] at hp hb
    refine Ev.step (fun k => laws_markIntS.l0.eq_2 ..) (ev_if_pos (by rw [List.length_append, List.length_cons]; omega) (ev_if_pos (by omega) ?_))
    rw [wrap_succ (by omega), wrap_succ (by omega), Int.toNat_natCast, set_at]
    have ih := markIntS_loop rest (pre ++ [(n : Int)]) (n + 1) (by rw [List.length_append, List.length_singleton]; omega) (by omega)
    rw [List.append_assoc, List.length_append, List.length_singleton] at ih
    refine ev_eq ih ?_
    have e2 : n + 1 + rest.length = n + (rest.length + 1) := by omega
    simp only [List.length_cons, marksI, List.append_assoc, List.singleton_append, e2]
theorem markIntS_ev (l : List Int) (n : Nat) (hb : l.length + n ≤ 1073741824) : Ev (fun k => laws_markIntS.f k l n) (((n + l.length : Nat) : Int), marksI l.length n) := by
  unfold laws_markIntS.f
  exact markIntS_loop l [] n (by show 0 + _ ≤ _; omega) (by omega)

/-! ### marks -/
def mtN : Nat → Int → ByteArray → ByteArray
  | 0, _, acc => (⟨#[109]⟩ : ByteArray) ++ acc
  | f + 1, n, acc => if n > 0 then mtN f (n / 10) (strOfNums [(48 + n % 10) % 256] ++ acc) else (⟨#[109]⟩ : ByteArray) ++ acc
def mtx (n : Int) : ByteArray := if n ≤ 0 then ⟨#[109, 48]⟩ else mtN n.toNat n ⟨#[]⟩

theorem markText_loop : ∀ (f : Nat) (n : Int) (acc : ByteArray), 0 ≤ n → n ≤ f → acc.size + f ≤ 1152921504606846976 → Ev (fun k => laws_markText.l0 k n acc) (mtN f n acc)
  | 0, n, acc, h0, h1, h2 => by
    refine Ev.step (fun k => laws_markText.l0.eq_2 ..) (ev_if_neg (by omega) (ev_if_pos (by omega) (ev_some rfl)))
  | f + 1, n, acc, h0, h1, h2 => by
    refine Ev.step (fun k => laws_markText.l0.eq_2 ..) ?_
    unfold mtN
    by_cases hn : n > 0
    · refine ev_if_pos hn ?_
      rw [if_pos hn, tmod_nn (by omega), tdiv_nn (by omega), wrap_id (x := 48 + n % 10) (by omega) (by omega), wrap_id (x := n / 10) (by omega) (by omega)]
      simp only [Option.bind_some]
      exact ev_if_pos (by rw [one_size]; omega) (markText_loop f (n / 10) _ (by omega) (by omega) (by rw [size_append, one_size]; omega))
    · rw [if_neg hn]
      exact ev_if_neg hn (ev_if_pos (by omega) (ev_some rfl))
theorem markText_ev (n : Int) (h1 : n ≤ 576460752303423488) : Ev (fun k => laws_markText.f k n) (mtx n) := by
  unfold laws_markText.f mtx
  by_cases hn : n ≤ 0
  · rw [if_pos hn]; exact ev_if_pos hn (ev_some rfl)
  · rw [if_neg hn]; exact ev_if_neg hn (markText_loop n.toNat n ⟨#[]⟩ (by omega) (by omega) (by show 0 + _ ≤ _; omega))

def marksR : Nat → Nat → List ByteArray
  | 0, _ => []
  | d + 1, n => mtx n :: marksR d (n + 1)
theorem marksR_length : ∀ d n, (marksR d n).length = d
  | 0, _ => rfl
  | d + 1, n => by simp [marksR, marksR_length d (n + 1)]

/-! ### Entry: alike -/
theorem eqEntry_eq (x : S48) : laws_eqEntry.f x.f0 x.f1 x.f0 x.f1 = some true := by
  unfold laws_eqEntry.f
  simp
theorem eqEntryS_loop (l : List (S48)) (hl : l.length ≤ 1152921504606846976) : ∀ (rest : List (S48)) (i : Nat), l.drop i = rest → Ev (fun k => laws_eqEntryS.l0 k l l i) true
  | [], i, hd => by
    have h := drop_nil hd
    exact Ev.step (fun k => laws_eqEntryS.l0.eq_2 ..) (ev_if_neg (by omega) (ev_some rfl))
  | s :: rest, i, hd => by
    obtain ⟨hi, hd', hx⟩ := drop_cons hd
    have hx : rd_T48 l i = s := hx _
    refine Ev.step (fun k => laws_eqEntryS.l0.eq_2 ..) (ev_if_pos (by omega) (ev_if_pos (by omega) (ev_if_pos (by omega) ?_)))
    simp only [hx, eqEntry_eq, Option.bind_some]
    rw [wrap_succ (by omega)]
    exact ev_if_pos (by simp) (eqEntryS_loop l hl rest (i + 1) hd')
theorem eqEntryS_ev (l : List (S48)) (hl : l.length ≤ 1152921504606846976) : Ev (fun k => laws_eqEntryS.f k l l) true := by
  unfold laws_eqEntryS.f
  exact ev_if_pos rfl (eqEntryS_loop l hl l 0 rfl)

/-! ### Entry: marks -/
def mkEntry (n : Int) : S48 := ⟨mtx n, n + 1⟩
def marksEntry : Nat → Nat → List (S48)
  | 0, _ => []
  | d + 1, n => mkEntry n :: marksEntry d (n + 2)
theorem marksEntry_length : ∀ d n, (marksEntry d n).length = d
  | 0, _ => rfl
  | d + 1, n => by simp [marksEntry, marksEntry_length d (n + 2)]
theorem rdEntry_mid (p : List (S48)) (x : S48) (q : List (S48)) : rd_T48 (p ++ x :: q) (p.length : Int) = x := (mid_at (l := p ++ x :: q) rfl).2 _
theorem markEntryS_loop : ∀ (rest pre : List (S48)) (n : Nat), pre.length + rest.length ≤ 1073741824 → n + 2 * rest.length ≤ 1073741824 →
    Ev (fun k => laws_markEntryS.l0 k (pre ++ rest) n pre.length) (((n + 2 * rest.length : Nat) : Int), pre ++ marksEntry rest.length n)
  | [], pre, n, h1, h2 => by
    refine Ev.step (fun k => laws_markEntryS.l0.eq_2 ..) (ev_if_neg (by rw [List.append_nil]; omega) (ev_some (by simp [marksEntry])))
  | s :: rest, pre, n, h1, h2 => by
    rw [List.length_cons] at h1 h2
    have w1 : wrap64 ((n : Int) + 1) = (n : Int) + 1 := wrap_id (by omega) (by omega)
    have w2 : wrap64 ((n : Int) + 1 + 1) = ((n + 2 : Nat) : Int) := by rw [wrap_id (by omega) (by omega)]; omega
    refine Ev.step (fun k => laws_markEntryS.l0.eq_2 ..) (ev_if_pos (by rw [List.length_append, List.length_cons]; omega) (ev_bind (markText_ev n (by omega)) (ev_if_pos (by omega) ?_)))
    simp only [Option.bind_some, Int.toNat_natCast, set_at, rdEntry_mid, w1, w2]
    rw [wrap_succ (by omega)]
    have ih := markEntryS_loop rest (pre ++ [mkEntry n]) (n + 2) (by rw [List.length_append, List.length_singleton]; omega) (by omega)
    rw [List.append_assoc, List.length_append, List.length_singleton] at ih
    refine ev_eq ih ?_
    have e2 : n + 2 + 2 * rest.length = n + 2 * (rest.length + 1) := by omega
    simp only [List.length_cons, marksEntry, List.append_assoc, List.singleton_append, e2]
theorem markEntryS_ev (l : List (S48)) (n : Nat) (hb : 2 * l.length + n ≤ 1073741824) : Ev (fun k => laws_markEntryS.f k l n) (((n + 2 * l.length : Nat) : Int), marksEntry l.length n) := by
  unfold laws_markEntryS.f
  exact markEntryS_loop l [] n (by show 0 + _ ≤ _; omega) (by omega)

theorem heldEntryS_loop (l : List (S48)) (hl : l.length ≤ 1073741824) : ∀ (d n i : Nat), l.drop i = marksEntry d n → 2 * d + n ≤ 1073741824 → i + d = l.length →
    Ev (fun k => laws_heldEntryS.l0 k l n i) ((n + 2 * d : Nat) : Int)
  | 0, n, i, hd, hb, hi => by
    exact Ev.step (fun k => laws_heldEntryS.l0.eq_2 ..) (ev_if_neg (by omega) (ev_some rfl))
  | d + 1, n, i, hd, hb, hi => by
    obtain ⟨hi', hd', hx⟩ := drop_cons hd
    have hx : rd_T48 l i = mkEntry n := hx _
    have w1 : wrap64 ((n : Int) + 1) = (n : Int) + 1 := wrap_id (by omega) (by omega)
    have w2 : wrap64 ((n : Int) + 1 + 1) = ((n + 2 : Nat) : Int) := by rw [wrap_id (by omega) (by omega)]; omega
    refine Ev.step (fun k => laws_heldEntryS.l0.eq_2 ..) (ev_if_pos (by omega) (ev_if_pos (by omega) (ev_bind (markText_ev n (by omega)) ?_)))
    simp only [hx, w1, w2, mkEntry, bne_self_eq_false]
    refine ev_if_pos trivial (ev_if_pos trivial ?_)
    rw [wrap_succ (by omega)]
    refine ev_eq (heldEntryS_loop l hl d (n + 2) (i + 1) hd' (by omega) (by omega)) ?_
    congr 1
    omega
theorem heldEntryS_ev (d n : Nat) (hb : 2 * d + n ≤ 1073741824) : Ev (fun k => laws_heldEntryS.f k (marksEntry d n) n) ((n + 2 * d : Nat) : Int) := by
  unfold laws_heldEntryS.f
  exact heldEntryS_loop (marksEntry d n) (by rw [marksEntry_length]; omega) d n 0 rfl hb (by rw [marksEntry_length]; omega)

/-! ### words -/
def lettersN (s : ByteArray) : Nat → Nat → Bool
  | 0, _ => true
  | d + 1, i => (decide (97 ≤ bt s i) && decide (bt s i ≤ 122)) && lettersN s d (i + 1)

def isWordB (s : ByteArray) : Bool := lettersN s s.size 0 && (decide (1 ≤ s.size) && decide (s.size ≤ 12))

theorem spec_word_ev (s : ByteArray) (hs : s.size ≤ 1048576) : ∀ (d i : Nat), i + d = s.size → Ev (fun k => spec_l9Word.l0 k s i) (lettersN s d i && (decide (1 ≤ s.size) && decide (s.size ≤ 12)))
  | 0, i, hi => by
    refine Ev.step (fun k => spec_l9Word.l0.eq_2 ..) (ev_if_neg (by omega) (ev_fun fun k => ?_))
    simp only [spec_l1In.f, lettersN]
    by_cases h1 : 1 ≤ s.size
    · have h1' : (s.size : Int) ≥ 1 := by omega
      have h2 : ((s.size : Int) ≤ 12) = (s.size ≤ 12) := by apply propext; omega
      simp [h1, h1', h2]
    · have h1' : ¬ (s.size : Int) ≥ 1 := by omega
      simp [h1, h1']
  | d + 1, i, hi => by
    refine Ev.step (fun k => spec_l9Word.l0.eq_2 ..) (ev_if_pos (by omega) (ev_if_pos (by omega) ?_))
    by_cases h1 : bt s i < 97
    · exact ev_if_pos h1 (ev_some (by simp [lettersN, show ¬ 97 ≤ bt s i by omega]))
    · by_cases h2 : bt s i > 122
      · exact ev_if_neg h1 (ev_if_pos h2 (ev_some (by simp [lettersN, show ¬ bt s i ≤ 122 by omega])))
      · refine ev_if_neg h1 (ev_if_neg h2 ?_)
        rw [wrap_succ (by omega)]
        refine ev_eq (spec_word_ev s hs d (i + 1) (by omega)) ?_
        simp [lettersN, show 97 ≤ bt s i by omega, show bt s i ≤ 122 by omega]

theorem spec_l9Word_ev (s : ByteArray) (hs : s.size ≤ 1048576) : Ev (fun k => spec_l9Word.f k s) (isWordB s) := spec_word_ev s hs s.size 0 (by omega)

theorem impl_letters_ev (s : ByteArray) (hs : s.size ≤ 1048576) : ∀ (d i : Nat), i + d = s.size → Ev (fun k => impl_areLetters.l0 k s s.size i) (lettersN s d i && decide (s.size ≤ 12))
  | 0, i, hi => by
    refine Ev.step (fun k => impl_areLetters.l0.eq_2 ..) (ev_if_neg (by omega) (ev_fun fun k => ?_))
    have h2 : ((s.size : Int) ≤ 12) = (s.size ≤ 12) := by apply propext; omega
    simp [lettersN, h2]
  | d + 1, i, hi => by
    refine Ev.step (fun k => impl_areLetters.l0.eq_2 ..) (ev_if_pos (by omega) (ev_if_pos (by omega) (ev_if_pos (by omega) ?_)))
    unfold impl_isLetter.f
    by_cases h1 : bt s i ≥ 97
    · by_cases h2 : bt s i ≤ 122
      · simp only [h1, h2, if_true, decide_true, Option.bind_some]
        rw [wrap_succ (by omega)]
        refine ev_eq (impl_letters_ev s hs d (i + 1) (by omega)) ?_
        simp [lettersN, show 97 ≤ bt s i by omega, h2]
      · exact ev_fun fun k => by simp [lettersN, h1, h2]
    · exact ev_fun fun k => by simp [lettersN, h1]

theorem impl_isWord_ev (s : ByteArray) (hs : s.size ≤ 1048576) : Ev (fun k => impl_isWord.f k s) (isWordB s) := by
  unfold impl_isWord.f impl_areLetters.f
  by_cases h : s.toList = ([] : List UInt8)
  · have h0 := (toList_nil s).1 h
    exact ev_if_pos h (ev_some (by simp [isWordB, h0]))
  · have h0 : s.size ≠ 0 := fun h' => h ((toList_nil s).2 h')
    refine ev_if_neg h (ev_bind (impl_letters_ev s hs s.size 0 (by omega)) (ev_some ?_))
    simp [isWordB, show 1 ≤ s.size by omega]

/-! ### good entries -/
def goodE (x : S48) : Bool := isWordB x.f0 && (decide (1 ≤ x.f1) && decide (x.f1 ≤ 1000))
def chainE : Option (S48) → List (S48) → Bool
  | _, [] => true
  | none, x :: l => goodE x && chainE (some x) l
  | some p, x :: l => goodE x && (Op.bytesLess p.f0.toList x.f0.toList && chainE (some x) l)
def goodEs (l : List (S48)) : Bool := chainE none l && decide (l.length ≤ 20)

theorem spec_GoodEntries_loop (l : List (S48)) (hl : l.length ≤ 1048576) (hw : ∀ x ∈ l, x.f0.size ≤ 1048576) : ∀ (rest pre : List (S48)), l = pre ++ rest →
    Ev (fun k => spec_GoodEntries.l0 k l l l.length pre.length) (chainE pre.getLast? rest && decide (l.length ≤ 20))
  | [], pre, hd => by
    have e : l.length = pre.length := by rw [hd]; simp
    refine Ev.step (fun k => spec_GoodEntries.l0.eq_2 ..) (ev_if_neg (by omega) (ev_some ?_))
    have h2 : ((l.length : Int) ≤ 20) = (l.length ≤ 20) := by apply propext; omega
    cases pre.getLast? <;> simp [chainE, h2]
  | x :: rest, pre, hd => by
    obtain ⟨hi, hx⟩ := mid_at hd
    have hx : rd_T48 l pre.length = x := hx _
    have hs := hw x (by rw [hd]; simp)
    refine Ev.step (fun k => spec_GoodEntries.l0.eq_2 ..) (ev_if_pos (by omega) (ev_if_pos (by omega) (ev_if_pos (by omega) ?_)))
    rw [hx]
    refine ev_bind (spec_l9Word_ev x.f0 hs) ?_
    have ih := spec_GoodEntries_loop l hl hw rest (pre ++ [x]) (by rw [hd]; simp)
    rw [List.length_append, List.length_singleton] at ih
    simp only [List.getLast?_append, List.getLast?_singleton, Option.some_or] at ih
    by_cases h1 : isWordB x.f0 = true
    · refine ev_true h1 ?_
      unfold spec_l1In.f
      by_cases h2 : x.f1 ≥ 1
      · by_cases h3 : x.f1 ≤ 1000
        · simp only [h2, h3, if_true, decide_true, Option.bind_some]
          have hg : goodE x = true := by simp [goodE, h1, h3]; omega
          rcases nil_or_snoc pre with rfl | ⟨q, p, rfl⟩
          · refine ev_if_neg (by simp) ?_
            rw [wrap_succ (by omega)]
            refine ev_eq ih ?_
            simp [chainE, hg]
          · have hlast := last_at hd z48
            have hlast : rd_T48 l (((q ++ [p]).length : Int) - 1) = p := hlast
            have hpos : ((q ++ [p]).length : Int) > 0 := by rw [List.length_append, List.length_singleton]; omega
            rw [wrap_id (x := ((q ++ [p]).length : Int) - 1) (by omega) (by omega), hlast]
            refine ev_if_pos hpos (ev_if_pos (by omega) (ev_if_pos (by omega) ?_))
            by_cases h4 : Op.bytesLess p.f0.toList x.f0.toList = true
            · refine ev_if_pos h4 ?_
              rw [wrap_succ (by omega)]
              refine ev_eq ih ?_
              simp [chainE, hg, h4]
            · refine ev_if_neg h4 (ev_some ?_)
              simp [chainE, h4]
        · simp only [h2, h3, if_true, decide_false, Option.bind_some, if_false, Bool.false_eq_true]
          refine ev_some ?_
          rcases nil_or_snoc pre with rfl | ⟨q, p, rfl⟩ <;> simp [chainE, goodE, h3]
      · simp only [h2, if_false, Option.bind_some, Bool.false_eq_true]
        refine ev_some ?_
        have h2' : ¬ 1 ≤ x.f1 := by omega
        rcases nil_or_snoc pre with rfl | ⟨q, p, rfl⟩ <;> simp [chainE, goodE, h2']
    · refine ev_if_neg h1 (ev_some ?_)
      rcases nil_or_snoc pre with rfl | ⟨q, p, rfl⟩ <;> simp [chainE, goodE, h1]
theorem spec_GoodEntries_ev (l : List (S48)) (hl : l.length ≤ 1048576) (hw : ∀ x ∈ l, x.f0.size ≤ 1048576) : Ev (fun k => spec_GoodEntries.f k l) (goodEs l) :=
  spec_GoodEntries_loop l hl hw l [] rfl

theorem impl_isEntry_ev (x : S48) (hs : x.f0.size ≤ 1048576) : Ev (fun k => impl_isEntry.f k x.f0 x.f1) (goodE x) := by
  unfold impl_isEntry.f impl_within.f
  refine ev_bind (impl_isWord_ev x.f0 hs) ?_
  by_cases h1 : isWordB x.f0 = true
  · refine ev_true h1 (ev_fun fun _ => ?_)
    by_cases h2 : x.f1 ≥ 1
    · have h2' : 1 ≤ x.f1 := h2
      simp [goodE, h1, h2']
    · have h2' : ¬ 1 ≤ x.f1 := h2
      simp [goodE, h1, h2']
  · exact ev_if_neg h1 (ev_some (by simp [goodE, h1]))
theorem impl_GoodEntries_loop (l : List (S48)) (hl : l.length ≤ 1048576) (hw : ∀ x ∈ l, x.f0.size ≤ 1048576) : ∀ (rest pre : List (S48)), l = pre ++ rest →
    Ev (fun k => impl_GoodEntries.l0 k l l l.length pre.length) (chainE pre.getLast? rest && decide (l.length ≤ 20))
  | [], pre, hd => by
    have e : l.length = pre.length := by rw [hd]; simp
    refine Ev.step (fun k => impl_GoodEntries.l0.eq_2 ..) (ev_if_neg (by omega) (ev_some ?_))
    have h2 : ((l.length : Int) ≤ 20) = (l.length ≤ 20) := by apply propext; omega
    cases pre.getLast? <;> simp [chainE, h2]
  | x :: rest, pre, hd => by
    obtain ⟨hi, hx⟩ := mid_at hd
    have hx : rd_T48 l pre.length = x := hx _
    have hs := hw x (by rw [hd]; simp)
    refine Ev.step (fun k => impl_GoodEntries.l0.eq_2 ..) (ev_if_pos (by omega) (ev_if_pos (by omega) (ev_if_pos (by omega) ?_)))
    rw [hx]
    refine ev_bind (impl_isEntry_ev x hs) ?_
    have ih := impl_GoodEntries_loop l hl hw rest (pre ++ [x]) (by rw [hd]; simp)
    rw [List.length_append, List.length_singleton] at ih
    simp only [List.getLast?_append, List.getLast?_singleton, Option.some_or] at ih
    by_cases hg : goodE x = true
    · refine ev_true hg ?_
      rcases nil_or_snoc pre with rfl | ⟨q, p, rfl⟩
      · refine ev_if_neg (by simp) ?_
        rw [wrap_succ (by omega)]
        refine ev_eq ih ?_
        simp [chainE, hg]
      · have hlast := last_at hd z48
        have hlast : rd_T48 l (((q ++ [p]).length : Int) - 1) = p := hlast
        have hpos : ((q ++ [p]).length : Int) > 0 := by rw [List.length_append, List.length_singleton]; omega
        rw [wrap_id (x := ((q ++ [p]).length : Int) - 1) (by omega) (by omega), hlast]
        refine ev_if_pos hpos (ev_if_pos (by omega) (ev_if_pos (by omega) ?_))
        by_cases h4 : Op.bytesLess p.f0.toList x.f0.toList = true
        · refine ev_if_pos h4 ?_
          rw [wrap_succ (by omega)]
          refine ev_eq ih ?_
          simp [chainE, hg, h4]
        · refine ev_if_neg h4 (ev_some ?_)
          simp [chainE, h4]
    · refine ev_if_neg hg (ev_some ?_)
      rcases nil_or_snoc pre with rfl | ⟨q, p, rfl⟩ <;> simp [chainE, hg]
theorem impl_GoodEntries_ev (l : List (S48)) (hl : l.length ≤ 1048576) (hw : ∀ x ∈ l, x.f0.size ≤ 1048576) : Ev (fun k => impl_GoodEntries.f k l) (goodEs l) :=
  impl_GoodEntries_loop l hl hw l [] rfl

/-! ### legs -/
open Go.Proofs.Ytkoackkimdanjaa.Ext (LegGood legsF groups foldK legRest legsF_le groups_flat groups_ne groups_sub legRest_length)
theorem bl_trans3 : ∀ x y z : List UInt8, Op.bytesLess x y = true → Op.bytesLess y z = true → Op.bytesLess x z = true
  | [], [], z, h, _ => by simp [Op.bytesLess] at h
  | [], _ :: _, [], _, k => by simp [Op.bytesLess] at k
  | [], _ :: _, _ :: _, _, _ => rfl
  | _ :: _, [], _, h, _ => by simp [Op.bytesLess] at h
  | _ :: _, _ :: _, [], _, k => by simp [Op.bytesLess] at k
  | a :: x, b :: y, c :: z, h, k => by
    simp only [Op.bytesLess, Bool.or_eq_true, decide_eq_true_eq, Bool.and_eq_true, beq_iff_eq] at h k ⊢
    rcases h with h | ⟨h, h'⟩
    · rcases k with k | ⟨k, k'⟩
      · exact .inl (UInt8.lt_trans h k)
      · exact .inl (k ▸ h)
    · rcases k with k | ⟨k, k'⟩
      · exact .inl (h ▸ k)
      · exact .inr ⟨h.trans k, bl_trans3 x y z h' k'⟩
theorem chainE_all : ∀ (l : List (S48)) (p : Option (S48)), chainE p l = true → (∀ q, p = some q → ∀ x ∈ l, Op.bytesLess q.f0.data.toList x.f0.data.toList = true) ∧ (l.Pairwise fun x y => Op.bytesLess x.f0.data.toList y.f0.data.toList = true) ∧ ∀ x ∈ l, goodE x = true
  | [], _, _ => ⟨fun _ _ _ hx => absurd hx List.not_mem_nil, List.Pairwise.nil, fun _ hx => absurd hx List.not_mem_nil⟩
  | x :: l, none, h => by
    simp only [chainE, Bool.and_eq_true] at h
    obtain ⟨h1, h2, h3⟩ := chainE_all l (some x) h.2
    refine ⟨fun q hq => (by cases hq), List.pairwise_cons.2 ⟨fun y hy => h1 x rfl y hy, h2⟩, fun y hy => ?_⟩
    rcases List.mem_cons.1 hy with rfl | hy
    · exact h.1
    · exact h3 y hy
  | x :: l, some p, h => by
    simp only [chainE, Bool.and_eq_true] at h
    obtain ⟨h1, h2, h3⟩ := chainE_all l (some x) h.2.2
    have hpx : Op.bytesLess p.f0.data.toList x.f0.data.toList = true := by have := h.2.1; rwa [toList_data, toList_data] at this
    refine ⟨fun q hq y hy => ?_, List.pairwise_cons.2 ⟨fun y hy => h1 x rfl y hy, h2⟩, fun y hy => ?_⟩
    · injection hq with hq
      subst hq
      rcases List.mem_cons.1 hy with rfl | hy
      · exact hpx
      · exact bl_trans3 _ _ _ hpx (h1 x rfl y hy)
    · rcases List.mem_cons.1 hy with rfl | hy
      · exact h.1
      · exact h3 y hy
theorem goodE_size {x : S48} (h : goodE x = true) : 1 ≤ x.f0.size ∧ x.f0.size ≤ 12 := by
  simp only [goodE, isWordB, Bool.and_eq_true, decide_eq_true_eq] at h
  exact h.1.2
theorem goodEs_leg {l : List (S48)} (h : goodEs l = true) : LegGood (fun x : S48 => x.f0.data.toList) 0 l := by
  simp only [goodEs, Bool.and_eq_true, decide_eq_true_eq] at h
  obtain ⟨_, h2, h3⟩ := chainE_all l none h.1
  exact ⟨by omega, fun x hx => ⟨Nat.zero_le _, by have := (goodE_size (h3 x hx)).2; rw [Array.length_toList]; exact this⟩, fun _ _ _ _ => rfl, h2, h.2⟩
/-- All legs of entries. -/
def allLegs (l : List (S48)) : List (S59) := legsF (fun x : S48 => x.f0.data.toList) (fun x => x.f1) (fun a b c k => (⟨a, b, c, k⟩ : S59)) 13 l 0 0
theorem foldK_fst {α β : Type} (F : List α → Nat → List β) (at_ : Nat) : ∀ (gs : List (List α)) (ks : List Int) (bs : List β), (foldK F at_ gs ks bs).1.length = ks.length + gs.length
  | [], ks, bs => rfl
  | g :: gs, ks, bs => by
    unfold foldK
    rw [foldK_fst F at_ gs]
    simp
    omega
theorem foldK_mem {α β : Type} (F : List α → Nat → List β) (at_ : Nat) (x : β) : ∀ (gs : List (List α)) (ks : List Int) (bs : List β), x ∈ (foldK F at_ gs ks bs).2 → x ∈ bs ∨ ∃ g ∈ gs, ∃ a, x ∈ F g a
  | [], ks, bs, h => .inl h
  | g :: gs, ks, bs, h => by
    unfold foldK at h
    rcases foldK_mem F at_ x gs _ _ h with h | ⟨g', hg', h⟩
    · rcases List.mem_append.1 h with h | h
      · exact .inl h
      · exact .inr ⟨g, by simp, _, h⟩
    · exact .inr ⟨g', by simp [hg'], h⟩
theorem length_le_flatten {α : Type} : ∀ gs : List (List α), (∀ g ∈ gs, g ≠ []) → gs.length ≤ gs.flatten.length
  | [], _ => Nat.le_refl _
  | g :: gs, h => by
    have h1 := length_le_flatten gs (fun g' hg' => h g' (by simp [hg']))
    have h2 : 1 ≤ g.length := List.length_pos_iff.2 (h g (by simp))
    rw [List.flatten_cons, List.length_append, List.length_cons]
    omega
theorem legsF_kids : ∀ (k : Nat) (l : List (S48)) (n at_ : Nat), ∀ x ∈ legsF (fun x : S48 => x.f0.data.toList) (fun x => x.f1) (fun a b c k => (⟨a, b, c, k⟩ : S59)) k l n at_, x.f3.length ≤ l.length
  | 0, l, n, at_, x, hx => by cases hx
  | k + 1, l, n, at_, x, hx => by
    unfold legsF at hx
    have hgl := groups_flat (wd := fun x : S48 => x.f0.data.toList) n (legRest (fun x : S48 => x.f0.data.toList) n l)
    have hrl := legRest_length (wd := fun x : S48 => x.f0.data.toList) n l
    rcases List.mem_cons.1 hx with rfl | hx
    · show (foldK _ _ _ _ _).1.length ≤ _
      rw [foldK_fst]
      have h1 := length_le_flatten _ (groups_ne (wd := fun x : S48 => x.f0.data.toList) n (legRest (fun x : S48 => x.f0.data.toList) n l))
      rw [hgl] at h1
      simp
      omega
    · rcases foldK_mem _ _ x _ _ _ hx with hx | ⟨g, hg, a, hx⟩
      · cases hx
      · have h1 := legsF_kids k g (n + 1) a x hx
        have h2 := (groups_sub n _ g hg).length_le
        omega
theorem allLegs_le (l : List (S48)) : (allLegs l).length ≤ 1 + l.length * 13 := legsF_le 13 l 0 0
theorem allLegs_kids (l : List (S48)) : ∀ x ∈ allLegs l, x.f3.length ≤ l.length := legsF_kids 13 l 0 0
def buildR (l : List (S48)) : List (S59) × Bool := if goodEs l = true then (if ((allLegs l).length : Int) > 120 then ([], false) else (allLegs l, true)) else ([], false)
theorem spec_l13Build_eq {l : List (S48)} (h : goodEs l = true) : spec_l13Build.f l 0 [] = some (allLegs l) := by
  have hg := goodEs_leg h
  have hm := hg.many
  unfold spec_l13Build.f
  rw [if_pos ⟨Int.le_refl 0, hg, by simp; omega⟩]
  rfl
theorem impl_legs_eq {l : List (S48)} (h : goodEs l = true) : impl_legs.f [] l 0 = some (allLegs l) := by
  have hg := goodEs_leg h
  have hm := hg.many
  unfold impl_legs.f
  rw [if_pos ⟨Int.le_refl 0, hg, fun h => absurd h (by simp), by simp; omega⟩]
  rfl
theorem impl_build_ev (l : List (S48)) (hl : l.length ≤ 1048576) (hw : ∀ x ∈ l, x.f0.size ≤ 1048576) : Ev (fun k => impl_build.f k l) (buildR l) := by
  unfold impl_build.f buildR
  refine ev_bind (impl_GoodEntries_ev l hl hw) ?_
  cases hg : goodEs l with
  | true =>
    refine ev_if_pos rfl ?_
    rw [impl_legs_eq hg]
    simp only [Option.bind_some]
    exact ev_ite (fun _ => ev_some rfl) (fun _ => ev_some rfl)
  | false => exact ev_if_neg (by simp) (ev_some rfl)
theorem buildR_small (l : List (S48)) : (buildR l).1.length ≤ 120 ∧ ∀ x ∈ (buildR l).1, x.f3.length ≤ 20 := by
  unfold buildR
  by_cases hg : goodEs l = true
  · rw [if_pos hg]
    by_cases h : ((allLegs l).length : Int) > 120
    · rw [if_pos h]; exact ⟨by simp, by simp⟩
    · rw [if_neg h]
      exact ⟨by show (allLegs l).length ≤ 120; omega, fun x hx => Nat.le_trans (allLegs_kids l x hx) (goodEs_leg hg).many⟩
  · rw [if_neg hg]; exact ⟨by simp, by simp⟩

/-! ### where the legs of a list lie -/
abbrev wdE : S48 → List UInt8 := fun x => x.f0.data.toList
def segL (k : Nat) (l : List (S48)) (n at_ : Nat) : List (S59) := legsF wdE (fun x => x.f1) (fun a b c k => (⟨a, b, c, k⟩ : S59)) k l n at_
def kidsF {α β : Type} (F : List α → Nat → List β) : List (List α) → Nat → List Int
  | [], _ => []
  | g :: gs, pos => (pos : Int) :: kidsF F gs (pos + (F g pos).length)
def bodyF {α β : Type} (F : List α → Nat → List β) : List (List α) → Nat → List β
  | [], _ => []
  | g :: gs, pos => F g pos ++ bodyF F gs (pos + (F g pos).length)
theorem foldK_eq {α β : Type} (F : List α → Nat → List β) (at_ : Nat) : ∀ (gs : List (List α)) (ks : List Int) (bs : List β), foldK F at_ gs ks bs = (ks ++ kidsF F gs (at_ + 1 + bs.length), bs ++ bodyF F gs (at_ + 1 + bs.length))
  | [], ks, bs => by simp [foldK, kidsF, bodyF]
  | g :: gs, ks, bs => by
    unfold foldK
    rw [foldK_eq F at_ gs]
    simp only [kidsF, bodyF, List.append_assoc, List.length_append, List.singleton_append, Nat.add_assoc]
theorem segL_succ (k : Nat) (l : List (S48)) (n at_ : Nat) : segL (k + 1) l n at_ = ⟨Go.Proofs.Ytkoackkimdanjaa.Ext.legLetter wdE n l, Go.Proofs.Ytkoackkimdanjaa.Ext.legWeight wdE (fun x => x.f1) n l, Go.Proofs.Ytkoackkimdanjaa.Ext.legBest (fun x => x.f1) l 0, kidsF (fun g a => segL k g (n + 1) a) (groups wdE n (legRest wdE n l)) (at_ + 1)⟩ :: bodyF (fun g a => segL k g (n + 1) a) (groups wdE n (legRest wdE n l)) (at_ + 1) := by
  unfold segL
  rw [show legsF wdE (fun x => x.f1) (fun a b c k => (⟨a, b, c, k⟩ : S59)) (k + 1) l n at_ = ⟨Go.Proofs.Ytkoackkimdanjaa.Ext.legLetter wdE n l, Go.Proofs.Ytkoackkimdanjaa.Ext.legWeight wdE (fun x => x.f1) n l, Go.Proofs.Ytkoackkimdanjaa.Ext.legBest (fun x => x.f1) l 0, (foldK (fun g a => legsF wdE (fun x => x.f1) (fun a b c k => (⟨a, b, c, k⟩ : S59)) k g (n + 1) a) at_ (groups wdE n (legRest wdE n l)) [] []).1⟩ :: (foldK (fun g a => legsF wdE (fun x => x.f1) (fun a b c k => (⟨a, b, c, k⟩ : S59)) k g (n + 1) a) at_ (groups wdE n (legRest wdE n l)) [] []).2 from rfl, foldK_eq]
  rfl
theorem segL_ne {k n at_ : Nat} {l : List (S48)} (hn : n + k = 13) (hg : LegGood wdE n l) : segL k l n at_ ≠ [] := by
  cases k with
  | zero => have := hg.n12; omega
  | succ k => rw [segL_succ]; simp
/-- The kids of a leg: rising, behind it, and within. -/
theorem kidsF_range {α β : Type} (F : List α → Nat → List β) : ∀ (gs : List (List α)) (pos : Nat), (∀ g ∈ gs, ∀ a, F g a ≠ []) → (∀ x ∈ kidsF F gs pos, (pos : Int) ≤ x ∧ x < ((pos + (bodyF F gs pos).length : Nat) : Int)) ∧ (kidsF F gs pos).Pairwise (· < ·)
  | [], pos, _ => ⟨fun x hx => absurd hx List.not_mem_nil, List.Pairwise.nil⟩
  | g :: gs, pos, h => by
    obtain ⟨h1, h2⟩ := kidsF_range F gs (pos + (F g pos).length) (fun g' hg' => h g' (by simp [hg']))
    have hp : 0 < (F g pos).length := List.length_pos_iff.2 (h g (by simp) pos)
    have e : (bodyF F (g :: gs) pos).length = (F g pos).length + (bodyF F gs (pos + (F g pos).length)).length := by simp [bodyF]
    refine ⟨fun x hx => ?_, List.pairwise_cons.2 ⟨fun x hx => ?_, h2⟩⟩
    · rw [e]
      rcases List.mem_cons.1 hx with rfl | hx
      · omega
      · have := h1 x hx; omega
    · have := h1 x hx; omega
theorem kidsF_length {α β : Type} (F : List α → Nat → List β) : ∀ (gs : List (List α)) (pos : Nat), (kidsF F gs pos).length = gs.length
  | [], _ => rfl
  | g :: gs, pos => by simp [kidsF, kidsF_length F gs]
theorem bodyF_get {α β : Type} (F : List α → Nat → List β) : ∀ (gs : List (List α)) (pos j : Nat) (x : β), (bodyF F gs pos)[j]? = some x → ∃ g ∈ gs, ∃ p' j', p' + j' = pos + j ∧ (F g p')[j']? = some x ∧ pos ≤ p' ∧ p' + (F g p').length ≤ pos + (bodyF F gs pos).length
  | [], pos, j, x, h => by simp [bodyF] at h
  | g :: gs, pos, j, x, h => by
    have e : (bodyF F (g :: gs) pos).length = (F g pos).length + (bodyF F gs (pos + (F g pos).length)).length := by simp [bodyF]
    unfold bodyF at h
    rcases Nat.lt_or_ge j (F g pos).length with hj | hj
    · rw [List.getElem?_append_left hj] at h
      exact ⟨g, by simp, pos, j, rfl, h, Nat.le_refl _, by omega⟩
    · rw [List.getElem?_append_right hj] at h
      obtain ⟨g', hg', p', j', h1, h2, h3, h4⟩ := bodyF_get F gs _ _ x h
      exact ⟨g', by simp [hg'], p', j', by omega, h2, by omega, by omega⟩
theorem segL_rising : ∀ (k : Nat) (l : List (S48)) (n at_ : Nat), n + k = 13 → LegGood wdE n l → ∀ j x, (segL k l n at_)[j]? = some x → (∀ y ∈ x.f3, ((at_ + j + 1 : Nat) : Int) ≤ y ∧ y < ((at_ + (segL k l n at_).length : Nat) : Int)) ∧ x.f3.Pairwise (· < ·)
  | 0, l, n, at_, hn, hg, _, _, _ => by have := hg.n12; omega
  | k + 1, l, n, at_, hn, hg, j, x, hx => by
    have hne : ∀ g ∈ groups wdE n (legRest wdE n l), ∀ a, segL k g (n + 1) a ≠ [] := fun g hgm a => segL_ne (by omega) (hg.group hgm)
    have e : (segL (k + 1) l n at_).length = 1 + (bodyF (fun g a => segL k g (n + 1) a) (groups wdE n (legRest wdE n l)) (at_ + 1)).length := by rw [segL_succ, List.length_cons, Nat.add_comm]
    rw [e]
    rw [segL_succ] at hx
    cases j with
    | zero =>
      rw [List.getElem?_cons_zero] at hx
      injection hx with hx
      subst hx
      obtain ⟨h1, h2⟩ := kidsF_range (fun g a => segL k g (n + 1) a) (groups wdE n (legRest wdE n l)) (at_ + 1) hne
      exact ⟨fun y hy => by have := h1 y hy; omega, h2⟩
    | succ j =>
      rw [List.getElem?_cons_succ] at hx
      obtain ⟨g, hgm, p', j', h1, h2, h3, h4⟩ := bodyF_get _ _ _ _ _ hx
      obtain ⟨h5, h6⟩ := segL_rising k g (n + 1) p' (by omega) (hg.group hgm) j' x h2
      exact ⟨fun y hy => by have := h5 y hy; omega, h6⟩
def sumK : List (S59) → Nat
  | [] => 0
  | x :: l => x.f3.length + sumK l
theorem sumK_append : ∀ a b : List (S59), sumK (a ++ b) = sumK a + sumK b
  | [], b => by simp [sumK]
  | x :: a, b => by simp [sumK, sumK_append a b, Nat.add_assoc]
theorem bodyF_sum (F : List (S48) → Nat → List (S59)) : ∀ (gs : List (List (S48))) (pos : Nat), (∀ g ∈ gs, ∀ a, sumK (F g a) + 1 = (F g a).length) → sumK (bodyF F gs pos) + gs.length = (bodyF F gs pos).length
  | [], _, _ => rfl
  | g :: gs, pos, h => by
    have h1 := bodyF_sum F gs (pos + (F g pos).length) (fun g' hg' => h g' (by simp [hg']))
    have h2 := h g (by simp) pos
    simp only [bodyF, sumK_append, List.length_append, List.length_cons]
    omega
theorem segL_sum : ∀ (k : Nat) (l : List (S48)) (n at_ : Nat), n + k = 13 → LegGood wdE n l → sumK (segL k l n at_) + 1 = (segL k l n at_).length
  | 0, l, n, at_, hn, hg => by have := hg.n12; omega
  | k + 1, l, n, at_, hn, hg => by
    have h := bodyF_sum (fun g a => segL k g (n + 1) a) (groups wdE n (legRest wdE n l)) (at_ + 1) (fun g hgm a => segL_sum k g (n + 1) a (by omega) (hg.group hgm))
    rw [segL_succ]
    simp only [sumK, List.length_cons, kidsF_length]
    omega

/-! ### the entries of legs, by the reference -/
def entK (E : Nat → ByteArray → List (S48) → List (S48)) (t : List (S59)) (at_ : Nat) (word : ByteArray) : List Int → List (S48) → List (S48)
  | [], out => out
  | x :: ks, out => entK E t at_ word ks (if (x > (at_ : Int) ∧ x < (t.length : Int) ∧ (out.length : Int) ≤ 20 ∧ (word.size : Int) < 12) ∧ 0 ≤ (rd_T59 t x).f0 ∧ (rd_T59 t x).f0 ≤ 25 then E x.toNat (word ++ strOfNums [97 + (rd_T59 t x).f0]) out else out)
def entS (t : List (S59)) : Nat → Nat → ByteArray → List (S48) → List (S48)
  | 0, _, _, out => out
  | f + 1, at_, word, out => entK (entS t f) t at_ word (rd_T59 t at_).f3 (if (rd_T59 t at_).f1 > 0 then out ++ [⟨word, (rd_T59 t at_).f1⟩] else out)
theorem l1In_eq (a lo hi : Int) : spec_l1In.f a lo hi = some (decide (lo ≤ a) && decide (a ≤ hi)) := by
  unfold spec_l1In.f
  by_cases h : a ≥ lo
  · rw [if_pos h]; simp [h]
  · rw [if_neg h]; simp [show ¬ lo ≤ a by omega]
theorem l13Loop (t : List (S59)) (ht : t.length ≤ 120) (E : Nat → ByteArray → List (S48) → List (S48)) (at_ : Nat) (word : ByteArray) (hw : word.size ≤ 12)
    (hE : ∀ p w o, at_ < p → p < t.length → w.size ≤ 12 → o.length ≤ 20 → Ev (fun k => spec_l13Entries.f k t (p : Int) w o) (E p w o) ∧ (E p w o).length ≤ 21) (ks : List Int) (hks : ks.length ≤ 1048576) :
    ∀ (rest : List Int) (i : Nat) (out : List (S48)), ks.drop i = rest → out.length ≤ 21 → Ev (fun k => spec_l13Entries.l0 k t (at_ : Int) word out ks (ks.length : Int) i) (entK E t at_ word rest out) ∧ (entK E t at_ word rest out).length ≤ 21
  | [], i, out, hd, ho => by
    have h := drop_nil hd
    exact ⟨Ev.step (fun k => spec_l13Entries.l0.eq_2 ..) (ev_if_neg (by omega) (ev_some rfl)), ho⟩
  | x :: rest, i, out, hd, ho => by
    obtain ⟨hi, hd', hx⟩ := drop_cons hd
    have hx : rd ks i = x := hx 0
    have hs : wrap64 ((i : Int) + 1) = ((i + 1 : Nat) : Int) := wrap_succ (by omega)
    by_cases hc : (x > (at_ : Int) ∧ x < (t.length : Int) ∧ (out.length : Int) ≤ 20 ∧ (word.size : Int) < 12) ∧ 0 ≤ (rd_T59 t x).f0 ∧ (rd_T59 t x).f0 ≤ 25
    · obtain ⟨p, rfl⟩ : ∃ p : Nat, x = p := ⟨x.toNat, by omega⟩
      have hsz : (word ++ strOfNums [97 + (rd_T59 t (p : Int)).f0]).size ≤ 12 := by rw [size_append, one_size]; omega
      obtain ⟨h1, h2⟩ := hE p (word ++ strOfNums [97 + (rd_T59 t (p : Int)).f0]) out (by omega) (by omega) hsz (by omega)
      obtain ⟨h3, h4⟩ := l13Loop t ht E at_ word hw hE ks hks rest (i + 1) (E p (word ++ strOfNums [97 + (rd_T59 t (p : Int)).f0]) out) hd' h2
      have e : entK E t at_ word ((p : Int) :: rest) out = entK E t at_ word rest (E p (word ++ strOfNums [97 + (rd_T59 t (p : Int)).f0]) out) := by
        show entK E t at_ word rest (if _ then _ else _) = _
        rw [if_pos hc, Int.toNat_natCast]
      rw [e]
      refine ⟨Ev.step (fun k => spec_l13Entries.l0.eq_2 ..) (ev_if_pos (by omega) (ev_if_pos (by omega) (ev_if_pos (by omega) ?_))), h4⟩
      simp only [hx, hs, l1In_eq, Option.bind_some]
      have hb : (decide (0 ≤ (rd_T59 t (p : Int)).f0) && decide ((rd_T59 t (p : Int)).f0 ≤ 25)) = true := by simp [hc.2.1, hc.2.2]
      have hwr : wrap64 (97 + (rd_T59 t (p : Int)).f0) % 256 = 97 + (rd_T59 t (p : Int)).f0 := by rw [wrap_id (by omega) (by omega)]; omega
      rw [hwr]
      refine ev_if_pos hc.1.1 (ev_if_pos hc.1.2.1 (ev_if_pos hc.1.2.2.1 (ev_if_pos hc.1.2.2.2 (ev_if_pos (by omega) (ev_if_pos hb (ev_if_pos (by rw [one_size]; omega) (ev_bind h1 h3)))))))
    · have e : entK E t at_ word (x :: rest) out = entK E t at_ word rest out := by
        show entK E t at_ word rest (if _ then _ else _) = _
        rw [if_neg hc]
      obtain ⟨h3, h4⟩ := l13Loop t ht E at_ word hw hE ks hks rest (i + 1) out hd' ho
      rw [e]
      refine ⟨Ev.step (fun k => spec_l13Entries.l0.eq_2 ..) (ev_if_pos (by omega) (ev_if_pos (by omega) (ev_if_pos (by omega) ?_))), h4⟩
      simp only [hx, hs, l1In_eq, Option.bind_some]
      by_cases c1 : x > (at_ : Int)
      · refine ev_if_pos c1 ?_
        by_cases c2 : x < (t.length : Int)
        · refine ev_if_pos c2 ?_
          by_cases c3 : (out.length : Int) ≤ 20
          · refine ev_if_pos c3 ?_
            by_cases c4 : (word.size : Int) < 12
            · refine ev_if_pos c4 (ev_if_pos (by omega) ?_)
              refine ev_if_neg (fun hb => hc ⟨⟨c1, c2, c3, c4⟩, ?_⟩) h3
              simpa using hb
            · exact ev_if_neg c4 h3
          · exact ev_if_neg c3 h3
        · exact ev_if_neg c2 h3
      · exact ev_if_neg c1 h3
theorem l13Ent_ev (t : List (S59)) (ht : t.length ≤ 120) (hk : ∀ x ∈ t, x.f3.length ≤ 1048576) : ∀ (f at_ : Nat) (word : ByteArray) (out : List (S48)), at_ < t.length → t.length ≤ at_ + f → word.size ≤ 12 → out.length ≤ 20 → Ev (fun k => spec_l13Entries.f k t (at_ : Int) word out) (entS t f at_ word out) ∧ (entS t f at_ word out).length ≤ 21
  | 0, at_, word, out, h1, h2, _, _ => by omega
  | f + 1, at_, word, out, h1, h2, hw, ho => by
    have hmem : (rd_T59 t (at_ : Int)).f3.length ≤ 1048576 := by
      have e : rd_T59 t (at_ : Int) = t[at_] := by
        show t.getD (at_ : Int).toNat _ = _
        rw [Int.toNat_natCast, List.getD_eq_getElem?_getD, List.getElem?_eq_getElem h1]; rfl
      rw [e]
      exact hk _ (List.getElem_mem h1)
    have hE : ∀ p w o, at_ < p → p < t.length → w.size ≤ 12 → o.length ≤ 20 → Ev (fun k => spec_l13Entries.f k t (p : Int) w o) (entS t f p w o) ∧ (entS t f p w o).length ≤ 21 := fun p w o hp hpt hw ho => l13Ent_ev t ht hk f p w o hpt (by omega) hw ho
    have hj : ∀ out' : List (S48), out'.length ≤ 21 → Ev (fun k => spec_l13Entries.j0 k t (at_ : Int) word out') (entK (entS t f) t at_ word (rd_T59 t at_).f3 out') ∧ (entK (entS t f) t at_ word (rd_T59 t at_).f3 out').length ≤ 21 := fun out' ho' => by
      obtain ⟨h3, h4⟩ := l13Loop t ht (entS t f) at_ word hw hE _ hmem _ 0 out' rfl ho'
      exact ⟨Ev.step (fun k => spec_l13Entries.j0.eq_2 ..) (ev_if_pos (by omega) (ev_if_pos (by omega) h3)), h4⟩
    unfold entS
    by_cases hp : (rd_T59 t (at_ : Int)).f1 > 0
    · rw [if_pos hp]
      obtain ⟨h3, h4⟩ := hj (out ++ [⟨word, (rd_T59 t at_).f1⟩]) (by simp; omega)
      exact ⟨Ev.step (fun k => spec_l13Entries.f.eq_2 ..) (ev_if_pos (by omega) (ev_if_pos (by omega) (ev_if_pos hp (ev_if_pos (by omega) h3)))), h4⟩
    · rw [if_neg hp]
      obtain ⟨h3, h4⟩ := hj out (by omega)
      exact ⟨Ev.step (fun k => spec_l13Entries.f.eq_2 ..) (ev_if_pos (by omega) (ev_if_pos (by omega) (ev_if_neg hp h3))), h4⟩

theorem entK_words (E : Nat → ByteArray → List (S48) → List (S48)) (hE : ∀ p w o, w.size ≤ 12 → ∀ x ∈ E p w o, x ∈ o ∨ x.f0.size ≤ 12) (t : List (S59)) (at_ : Nat) (word : ByteArray) : ∀ (ks : List Int) (out : List (S48)), ∀ x ∈ entK E t at_ word ks out, x ∈ out ∨ x.f0.size ≤ 12
  | [], out, x, hx => .inl hx
  | y :: ks, out, x, hx => by
    have hx : x ∈ entK E t at_ word ks (if (y > (at_ : Int) ∧ y < (t.length : Int) ∧ (out.length : Int) ≤ 20 ∧ (word.size : Int) < 12) ∧ 0 ≤ (rd_T59 t y).f0 ∧ (rd_T59 t y).f0 ≤ 25 then E y.toNat (word ++ strOfNums [97 + (rd_T59 t y).f0]) out else out) := hx
    rcases entK_words E hE t at_ word ks _ x hx with h | h
    · split at h
      · rename_i hc
        exact hE _ _ _ (by rw [size_append, one_size]; omega) x h
      · exact .inl h
    · exact .inr h
theorem entS_words (t : List (S59)) : ∀ (f at_ : Nat) (word : ByteArray) (out : List (S48)), word.size ≤ 12 → ∀ x ∈ entS t f at_ word out, x ∈ out ∨ x.f0.size ≤ 12
  | 0, _, _, _, _, x, hx => .inl hx
  | f + 1, at_, word, out, hw, x, hx => by
    unfold entS at hx
    rcases entK_words (entS t f) (fun p w o h => entS_words t f p w o h) t at_ word _ _ x hx with h | h
    · split at h
      · rcases List.mem_append.1 h with h | h
        · exact .inl h
        · rw [List.mem_singleton.1 h]; exact .inr hw
      · exact .inl h
    · exact .inr h

/-! ### legs of entries, read back -/
def AtSeg (t b : List (S59)) (p : Nat) : Prop := ∀ j, j < b.length → t[p + j]? = b[j]?
theorem AtSeg.left {t a b : List (S59)} {p : Nat} (h : AtSeg t (a ++ b) p) : AtSeg t a p := fun j hj => by
  rw [h j (by rw [List.length_append]; omega), List.getElem?_append_left hj]
theorem AtSeg.right {t a b : List (S59)} {p : Nat} (h : AtSeg t (a ++ b) p) : AtSeg t b (p + a.length) := fun j hj => by
  have := h (a.length + j) (by rw [List.length_append]; omega)
  rw [List.getElem?_append_right (by omega), Nat.add_sub_cancel_left, ← Nat.add_assoc] at this
  exact this
theorem AtSeg.head {t b : List (S59)} {x : S59} {p : Nat} (h : AtSeg t (x :: b) p) : t[p]? = some x := by
  have := h 0 (by simp)
  simpa using this
theorem AtSeg.tail {t b : List (S59)} {x : S59} {p : Nat} (h : AtSeg t (x :: b) p) : AtSeg t b (p + 1) := AtSeg.right (a := [x]) h
theorem rd_at {t : List (S59)} {p : Nat} {x : S59} (h : t[p]? = some x) : rd_T59 t (p : Int) = x := by
  show t.getD (p : Int).toNat _ = _
  rw [Int.toNat_natCast, List.getD_eq_getElem?_getD, h]; rfl
theorem getD_letter {s : ByteArray} : ∀ (d i : Nat), lettersN s d i = true → i + d = s.size → ∀ j, i ≤ j → j < s.size → 97 ≤ bt s (j : Int) ∧ bt s (j : Int) ≤ 122
  | 0, i, _, h, j, h1, h2 => by omega
  | d + 1, i, hl, h, j, h1, h2 => by
    simp only [lettersN, Bool.and_eq_true, decide_eq_true_eq] at hl
    rcases Nat.lt_or_ge i j with hij | hij
    · exact getD_letter d (i + 1) (by first | exact hl.2 | exact hl.2.2) (by omega) j (by omega) h2
    · obtain rfl : i = j := by omega
      first | exact hl.1 | exact ⟨hl.1, hl.2.1⟩

theorem goodE_letter {y : S48} (h : goodE y = true) {n : Nat} (hn : n < y.f0.size) : 97 ≤ (((wdE y).getD n 0).toNat : Int) ∧ (((wdE y).getD n 0).toNat : Int) ≤ 122 := by
  simp only [goodE, isWordB, Bool.and_eq_true] at h
  have := getD_letter y.f0.size 0 h.1.1 (by omega) n (Nat.zero_le _) hn
  rw [Go.Proofs.Ytkoackkimdanjaa.Ext.bt_data] at this
  exact this
theorem wdE_length (y : S48) : (wdE y).length = y.f0.size := by show y.f0.data.toList.length = _; rw [Array.length_toList]; rfl
theorem segL_head {k n pos : Nat} {g : List (S48)} (hn : n + 1 + k = 13) (hg : LegGood wdE (n + 1) g) (y : S48) (hy : y ∈ g) : ∃ x b, segL k g (n + 1) pos = x :: b ∧ x.f0 = ((((wdE y).getD n 0).toNat : Int) - 97) % 256 := by
  cases k with
  | zero => have := hg.n12; omega
  | succ k =>
    rw [segL_succ]
    refine ⟨_, _, rfl, ?_⟩
    show Go.Proofs.Ytkoackkimdanjaa.Ext.legLetter wdE (n + 1) g = _
    rw [hg.letter (by omega) hy, Nat.add_sub_cancel]
theorem byte_back {b : UInt8} (h1 : 97 ≤ (b.toNat : Int)) (h2 : (b.toNat : Int) ≤ 122) : UInt8.ofNat (97 + ((b.toNat : Int) - 97) % 256).toNat = b := by
  rw [show (97 + ((b.toNat : Int) - 97) % 256).toNat = b.toNat by omega]
  exact UInt8.ofNat_toNat
theorem entK_seg (t : List (S59)) (E : Nat → ByteArray → List (S48) → List (S48)) (at_ n k : Nat) (hnk : n + 1 + k = 13) (word : ByteArray) (hws : word.size = n)
    (hE : ∀ g p w o, LegGood wdE (n + 1) g → g ≠ [] → (∀ x ∈ g, goodE x = true) → (∀ x ∈ g, (wdE x).take (n + 1) = w.data.toList) → w.size = n + 1 → AtSeg t (segL k g (n + 1) p) p → p + (segL k g (n + 1) p).length ≤ t.length → at_ < p → o.length + g.length ≤ 20 → E p w o = o ++ g) :
    ∀ (gs : List (List (S48))) (pos : Nat) (out : List (S48)), (∀ g ∈ gs, LegGood wdE (n + 1) g ∧ g ≠ [] ∧ (∀ x ∈ g, goodE x = true) ∧ ∀ x ∈ g, (wdE x).take n = word.data.toList) → AtSeg t (bodyF (fun g a => segL k g (n + 1) a) gs pos) pos → pos + (bodyF (fun g a => segL k g (n + 1) a) gs pos).length ≤ t.length → at_ < pos → out.length + gs.flatten.length ≤ 20 →
    entK E t at_ word (kidsF (fun g a => segL k g (n + 1) a) gs pos) out = out ++ gs.flatten
  | [], pos, out, _, _, _, _, _ => by simp [kidsF, entK]
  | g :: gs, pos, out, hall, hseg, hlen, hat, ho => by
    obtain ⟨hg, hne, hgood, hpre⟩ := hall g (by simp)
    obtain ⟨y, g', rfl⟩ : ∃ y g', g = y :: g' := by cases g with | nil => exact absurd rfl hne | cons y g' => exact ⟨y, g', rfl⟩
    have hyg := hgood y (by simp)
    have hsz := hg.size y (by simp)
    rw [wdE_length] at hsz
    obtain ⟨hl1, hl2⟩ := goodE_letter hyg (n := n) (by omega)
    obtain ⟨x, b, hxb, hx0⟩ := segL_head (pos := pos) hnk hg y (by simp)
    have e : (bodyF (fun g a => segL k g (n + 1) a) ((y :: g') :: gs) pos) = segL k (y :: g') (n + 1) pos ++ bodyF (fun g a => segL k g (n + 1) a) gs (pos + (segL k (y :: g') (n + 1) pos).length) := rfl
    rw [e] at hseg hlen
    rw [List.length_append] at hlen
    have hs1 := hseg.left
    have hs2 := hseg.right
    have hrd : rd_T59 t (pos : Int) = x := rd_at (by rw [hxb] at hs1; exact hs1.head)
    have hpl : 0 < (segL k (y :: g') (n + 1) pos).length := by rw [hxb]; simp
    rw [List.flatten_cons, List.length_append] at ho
    have hn12 := hg.n12
    show entK E t at_ word (kidsF (fun g a => segL k g (n + 1) a) gs (pos + (segL k (y :: g') (n + 1) pos).length)) (if _ then _ else _) = _
    have hyl : 1 ≤ (y :: g').length := by simp
    rw [hrd, hx0, if_pos ⟨⟨by omega, by omega, by omega, by omega⟩, by omega, by omega⟩, Int.toNat_natCast]
    have hw2 : (word ++ strOfNums [97 + ((((wdE y).getD n 0).toNat : Int) - 97) % 256]).size = n + 1 := by rw [size_append, one_size, hws]
    have hp2 : ∀ z ∈ y :: g', (wdE z).take (n + 1) = (word ++ strOfNums [97 + ((((wdE y).getD n 0).toNat : Int) - 97) % 256]).data.toList := by
      intro z hz
      have h1 : (wdE z).take (n + 1) = (wdE y).take (n + 1) := hg.pre z hz y (by simp)
      have h2 : (wdE y).take (n + 1) = (wdE y).take n ++ [(wdE y).getD n 0] := by
        rw [List.take_add_one, List.getD_eq_getElem?_getD, List.getElem?_eq_getElem (by rw [wdE_length]; omega)]; rfl
      rw [h1, h2, hpre y (by simp), ByteArray.data_append, Array.toList_append, strOfNums_data]
      simp only [List.map_cons, List.map_nil]
      rw [byte_back hl1 hl2]
    rw [hE (y :: g') pos _ out hg hne hgood hp2 hw2 hs1 (by omega) hat (by omega)]
    have ih := entK_seg t E at_ n k hnk word hws hE gs (pos + (segL k (y :: g') (n + 1) pos).length) (out ++ (y :: g')) (fun g hg => hall g (by simp [hg])) hs2 (by omega) (by omega) (by rw [List.length_append]; omega)
    rw [ih, List.flatten_cons, List.append_assoc]

theorem byteArray_ext {a b : ByteArray} (h : a.data.toList = b.data.toList) : a = b := by
  cases a; cases b
  congr 1
  exact Array.toList_inj.mp h
/-- The first leg tells the word that ends here. -/
theorem leg_first {n : Nat} {l : List (S48)} {word : ByteArray} (hg : LegGood wdE n l) (hgood : ∀ x ∈ l, goodE x = true) (hpre : ∀ x ∈ l, (wdE x).take n = word.data.toList) (out : List (S48)) :
    (if Go.Proofs.Ytkoackkimdanjaa.Ext.legWeight wdE (fun x : S48 => x.f1) n l > 0 then out ++ [⟨word, Go.Proofs.Ytkoackkimdanjaa.Ext.legWeight wdE (fun x : S48 => x.f1) n l⟩] else out) ++ legRest wdE n l = out ++ l := by
  cases l with
  | nil => simp [Go.Proofs.Ytkoackkimdanjaa.Ext.legWeight, legRest]
  | cons y l' =>
    show (if (if (wdE y).length = n then y.f1 else 0) > 0 then out ++ [⟨word, (if (wdE y).length = n then y.f1 else 0)⟩] else out) ++ (if (wdE y).length = n then l' else y :: l') = _
    by_cases hn : (wdE y).length = n
    · have h1 : 1 ≤ y.f1 := by
        have := hgood y (by simp)
        simp only [goodE, Bool.and_eq_true, decide_eq_true_eq] at this
        exact this.2.1
      have hw : y.f0 = word := by
        apply byteArray_ext
        have := hpre y (by simp)
        rw [← hn, List.take_length] at this
        exact this
      rw [if_pos hn, if_pos hn, if_pos (by omega), List.append_assoc, ← hw]
      rfl
    · rw [if_neg hn, if_neg hn, if_neg (by omega)]
theorem entS_seg (t : List (S59)) : ∀ (k : Nat) (l : List (S48)) (n at_ : Nat), n + k = 13 → LegGood wdE n l → (∀ x ∈ l, goodE x = true) → ∀ (word : ByteArray), (∀ x ∈ l, (wdE x).take n = word.data.toList) → word.size = n → AtSeg t (segL k l n at_) at_ → at_ + (segL k l n at_).length ≤ t.length → ∀ (f : Nat), t.length ≤ at_ + f → ∀ out : List (S48), out.length + l.length ≤ 20 → entS t f at_ word out = out ++ l
  | 0, l, n, at_, hn, hg, _, _, _, _, _, _, _, _, _, _ => by have := hg.n12; omega
  | k + 1, l, n, at_, hn, hg, hgood, word, hpre, hws, hseg, hlen, f, hf, out, ho => by
    rw [segL_succ] at hseg hlen
    rw [List.length_cons] at hlen
    obtain ⟨f', rfl⟩ : ∃ f', f = f' + 1 := ⟨f - 1, by omega⟩
    unfold entS
    rw [rd_at hseg.head]
    have hflat := groups_flat (wd := wdE) n (legRest wdE n l)
    have hfirst := leg_first hg hgood hpre out
    have hsub : ∀ g ∈ groups wdE n (legRest wdE n l), ∀ x ∈ g, x ∈ l := fun g hgm x hx => (Go.Proofs.Ytkoackkimdanjaa.Ext.legRest_sub n l).subset ((groups_sub n _ g hgm).subset hx)
    have h := entK_seg t (entS t f') at_ n k (by omega) word hws (fun g p w o h1 h2 h3 h4 h5 h6 h7 h8 h9 => entS_seg t k g (n + 1) p (by omega) h1 h3 w h4 h5 h6 h7 f' (by omega) o h9)
      (groups wdE n (legRest wdE n l)) (at_ + 1) (if Go.Proofs.Ytkoackkimdanjaa.Ext.legWeight wdE (fun x : S48 => x.f1) n l > 0 then out ++ [⟨word, Go.Proofs.Ytkoackkimdanjaa.Ext.legWeight wdE (fun x : S48 => x.f1) n l⟩] else out)
      (fun g hgm => ⟨hg.group hgm, groups_ne n _ g hgm, fun x hx => hgood x (hsub g hgm x hx), fun x hx => hpre x (hsub g hgm x hx)⟩) hseg.tail (by omega) (by omega) (by
        have h2 := congrArg List.length hfirst
        rw [List.length_append, List.length_append] at h2
        rw [hflat]
        omega)
    rw [hflat, hfirst] at h
    exact h
/-- The entries of all legs of good entries are these. -/
theorem entS_all {l : List (S48)} (h : goodEs l = true) (f : Nat) (hf : (allLegs l).length ≤ f) : entS (allLegs l) f 0 ByteArray.empty [] = l := by
  have hg := goodEs_leg h
  have hgood : ∀ x ∈ l, goodE x = true := by
    simp only [goodEs, Bool.and_eq_true] at h
    exact (chainE_all l none h.1).2.2
  have := entS_seg (allLegs l) 13 l 0 0 rfl hg hgood ByteArray.empty (fun x _ => rfl) rfl (fun j _ => by rw [Nat.zero_add]; rfl) (by rw [Nat.zero_add]; exact Nat.le_refl _) f (by omega) [] (by have := hg.many; simp; omega)
  simpa using this

/-! ### good legs, by the reference -/
def risB (lo hi : Int) : Option Int → List Int → Bool
  | _, [] => true
  | none, x :: l => (decide (lo ≤ x) && decide (x ≤ hi)) && risB lo hi (some x) l
  | some q, x :: l => (decide (lo ≤ x) && decide (x ≤ hi)) && (decide (q < x) && risB lo hi (some x) l)
theorem rising_loop (l : List Int) (hl : l.length ≤ 1048576) (lo hi : Int) : ∀ (rest : List Int) (i : Nat) (p : Option Int), l.drop i = rest → (p = if i = 0 then none else some (rd l ((i - 1 : Nat) : Int))) → Ev (fun k => spec_l1Rising.l0 k l lo hi l (l.length : Int) i) (risB lo hi p rest)
  | [], i, p, hd, hp => by
    have h := drop_nil hd
    rw [show risB lo hi p [] = true by cases p <;> rfl]
    exact Ev.step (fun k => spec_l1Rising.l0.eq_2 ..) (ev_if_neg (by omega) (ev_some rfl))
  | x :: rest, i, p, hd, hp => by
    obtain ⟨hi', hd', hx⟩ := drop_cons hd
    have hx : rd l i = x := hx 0
    have hs : wrap64 ((i : Int) + 1) = ((i + 1 : Nat) : Int) := wrap_succ (by omega)
    have ih := rising_loop l hl lo hi rest (i + 1) (some x) hd' (by rw [if_neg (by omega), Nat.add_sub_cancel, hx])
    refine Ev.step (fun k => spec_l1Rising.l0.eq_2 ..) (ev_if_pos (by omega) (ev_if_pos (by omega) (ev_if_pos (by omega) ?_)))
    simp only [hx, hs, l1In_eq, Option.bind_some]
    by_cases hr : (decide (lo ≤ x) && decide (x ≤ hi)) = true
    · refine ev_if_pos hr ?_
      cases hz : i with
      | zero =>
        have hp : p = none := by rw [hp, if_pos hz]
        subst hp
        rw [show risB lo hi none (x :: rest) = risB lo hi (some x) rest by show (_ && _) = _; rw [hr, Bool.true_and]]
        rw [hz] at ih
        exact ev_if_neg (by omega) ih
      | succ j =>
        have hp : p = some (rd l (j : Int)) := by rw [hp, if_neg (by omega), hz, Nat.add_sub_cancel]
        subst hp
        have hw : wrap64 (((j + 1 : Nat) : Int) - 1) = (j : Int) := by rw [wrap_id (by omega) (by omega)]; omega
        rw [hz] at ih
        rw [hw]
        refine ev_if_pos (by omega) (ev_if_pos (by omega) (ev_if_pos (by omega) ?_))
        by_cases hq : rd l (j : Int) ≥ x
        · rw [show risB lo hi (some (rd l (j : Int))) (x :: rest) = false by show (_ && (decide (rd l (j : Int) < x) && _)) = _; rw [decide_eq_false (show ¬ rd l (j : Int) < x by omega)]; simp]
          exact ev_if_pos hq (ev_some rfl)
        · rw [show risB lo hi (some (rd l (j : Int))) (x :: rest) = risB lo hi (some x) rest by show (_ && (decide (rd l (j : Int) < x) && _)) = _; rw [hr, decide_eq_true (show rd l (j : Int) < x by omega)]; simp]
          exact ev_if_neg hq ih
    · rw [show risB lo hi p (x :: rest) = false by cases p <;> (show ((_ && _) && _) = _) <;> rw [Bool.eq_false_iff.2 hr] <;> rfl]
      exact ev_if_neg hr (ev_some rfl)
theorem spec_l1Rising_ev (l : List Int) (hl : l.length ≤ 1048576) (lo hi : Int) : Ev (fun k => spec_l1Rising.f k l lo hi) (risB lo hi none l) := rising_loop l hl lo hi l 0 none rfl rfl
theorem many_loop (t : List (S59)) (ht : t.length ≤ 1048576) : ∀ (rest : List (S59)) (i n : Nat), t.drop i = rest → n + sumK rest ≤ 4611686018427387904 → Ev (fun k => spec_l13Many.l0 k (n : Int) t (t.length : Int) i) ((n + sumK rest : Nat) : Int)
  | [], i, n, hd, hb => by
    have h := drop_nil hd
    exact Ev.step (fun k => spec_l13Many.l0.eq_2 ..) (ev_if_neg (by omega) (ev_some (by simp [sumK])))
  | x :: rest, i, n, hd, hb => by
    obtain ⟨hi, hd', hx⟩ := drop_cons hd
    have hx : rd_T59 t i = x := hx _
    unfold sumK at hb
    refine Ev.step (fun k => spec_l13Many.l0.eq_2 ..) (ev_if_pos (by omega) (ev_if_pos (by omega) (ev_if_pos (by omega) ?_)))
    have hw : wrap64 ((n : Int) + (x.f3.length : Int)) = ((n + x.f3.length : Nat) : Int) := by rw [wrap_id (by omega) (by omega)]; omega
    rw [hx, hw, wrap_succ (by omega)]
    refine ev_eq (many_loop t ht rest (i + 1) (n + x.f3.length) hd' (by omega)) ?_
    show ((n + x.f3.length + sumK rest : Nat) : Int) = ((n + (x.f3.length + sumK rest) : Nat) : Int)
    rw [Nat.add_assoc]
theorem spec_l13Many_ev (t : List (S59)) (ht : t.length ≤ 1048576) (hb : sumK t ≤ 4611686018427387904) : Ev (fun k => spec_l13Many.f k t) ((sumK t : Nat) : Int) := by
  have h := many_loop t ht t 0 0 rfl (by omega)
  rw [Nat.zero_add] at h
  exact h

/-! ### legs alike -/
def sameB : List (S59) → List (S59) → Bool
  | [], [] => true
  | x :: a, y :: b => if x.f0 = y.f0 ∧ x.f1 = y.f1 ∧ x.f2 = y.f2 ∧ x.f3 = y.f3 then sameB a b else false
  | _, _ => false
theorem sameB_iff : ∀ a b : List (S59), sameB a b = true ↔ a = b
  | [], [] => by simp [sameB]
  | [], y :: b => by simp [sameB]
  | x :: a, [] => by simp [sameB]
  | x :: a, y :: b => by
    unfold sameB
    by_cases h : x.f0 = y.f0 ∧ x.f1 = y.f1 ∧ x.f2 = y.f2 ∧ x.f3 = y.f3
    · rw [if_pos h, sameB_iff a b]
      have e : x = y := by
        cases x; cases y
        obtain ⟨h0, h1, h2, h3⟩ := h
        simp only at h0 h1 h2 h3
        rw [h0, h1, h2, h3]
      rw [e]
      simp
    · rw [if_neg h]
      constructor
      · intro h'; cases h'
      · intro h'
        injection h' with h1 h2
        exact absurd (by rw [h1]; exact ⟨rfl, rfl, rfl, rfl⟩) h
theorem spec_l1Same_loop (a b : List Int) (hl : a.length ≤ 1048576) (hab : a.length = b.length) : ∀ (rest : List Int) (i : Nat), a.drop i = rest → Ev (fun k => spec_l1Same.l0 k a b (a.length : Int) i) (decide (rest = b.drop i))
  | [], i, hd => by
    have h := drop_nil hd
    rw [List.drop_of_length_le (by omega : b.length ≤ i)]
    exact Ev.step (fun k => spec_l1Same.l0.eq_2 ..) (ev_if_neg (by omega) (ev_some (by simp)))
  | x :: rest, i, hd => by
    obtain ⟨hi, hd', hx⟩ := drop_cons hd
    have hx : rd a i = x := hx 0
    have hb : b.drop i = b[i] :: b.drop (i + 1) := List.drop_eq_getElem_cons (by omega)
    have hy : rd b i = b[i] := by
      obtain ⟨_, _, h⟩ := drop_cons hb
      exact h 0
    have ih := spec_l1Same_loop a b hl hab rest (i + 1) hd'
    refine Ev.step (fun k => spec_l1Same.l0.eq_2 ..) (ev_if_pos (by omega) (ev_if_pos (by omega) (ev_if_pos (by omega) (ev_if_pos (by omega) ?_))))
    rw [hx, hy, wrap_succ (by omega), hb]
    by_cases h : x = b[i]
    · refine ev_if_pos h (ev_eq ih ?_)
      rw [← h]
      simp
    · refine ev_if_neg h (ev_some ?_)
      rw [decide_eq_false]
      intro e
      injection e with e _
      exact h e
theorem spec_l1Same_ev (a b : List Int) (hl : a.length ≤ 1048576) : Ev (fun k => spec_l1Same.f k a b) (decide (a = b)) := by
  unfold spec_l1Same.f
  by_cases h : a.length = b.length
  · exact ev_if_pos (by omega) (spec_l1Same_loop a b hl h a 0 rfl)
  · refine ev_if_neg (by omega) (ev_some ?_)
    rw [decide_eq_false]
    exact fun e => h (congrArg List.length e)
theorem slices_Equal_int_int_loop (a b : List Int) (hl : a.length ≤ 1048576) (hab : a.length = b.length) : ∀ (rest : List Int) (i : Nat), a.drop i = rest → Ev (fun k => slices_Equal_int_int.l0 k a b (a.length : Int) i) (decide (rest = b.drop i))
  | [], i, hd => by
    have h := drop_nil hd
    rw [List.drop_of_length_le (by omega : b.length ≤ i)]
    exact Ev.step (fun k => slices_Equal_int_int.l0.eq_2 ..) (ev_if_neg (by omega) (ev_some (by simp)))
  | x :: rest, i, hd => by
    obtain ⟨hi, hd', hx⟩ := drop_cons hd
    have hx : rd a i = x := hx 0
    have hb : b.drop i = b[i] :: b.drop (i + 1) := List.drop_eq_getElem_cons (by omega)
    have hy : rd b i = b[i] := by
      obtain ⟨_, _, h⟩ := drop_cons hb
      exact h 0
    have ih := slices_Equal_int_int_loop a b hl hab rest (i + 1) hd'
    refine Ev.step (fun k => slices_Equal_int_int.l0.eq_2 ..) (ev_if_pos (by omega) (ev_if_pos (by omega) (ev_if_pos (by omega) (ev_if_pos (by omega) ?_))))
    rw [hx, hy, wrap_succ (by omega), hb]
    by_cases h : x = b[i]
    · refine ev_if_pos h (ev_eq ih ?_)
      rw [← h]
      simp
    · refine ev_if_neg h (ev_some ?_)
      rw [decide_eq_false]
      intro e
      injection e with e _
      exact h e
theorem slices_Equal_int_int_ev (a b : List Int) (hl : a.length ≤ 1048576) : Ev (fun k => slices_Equal_int_int.f k a b) (decide (a = b)) := by
  unfold slices_Equal_int_int.f
  by_cases h : a.length = b.length
  · exact ev_if_pos (by omega) (slices_Equal_int_int_loop a b hl h a 0 rfl)
  · refine ev_if_neg (by omega) (ev_some ?_)
    rw [decide_eq_false]
    exact fun e => h (congrArg List.length e)
theorem spec_l13Same_loop (a b : List (S59)) (hl : a.length ≤ 1048576) (hk : ∀ x ∈ a, x.f3.length ≤ 1048576) (hab : a.length = b.length) : ∀ (rest : List (S59)) (i : Nat), a.drop i = rest → Ev (fun k => spec_l13Same.l0 k b a (a.length : Int) i) (sameB rest (b.drop i))
  | [], i, hd => by
    have h := drop_nil hd
    rw [List.drop_of_length_le (by omega : b.length ≤ i)]
    exact Ev.step (fun k => spec_l13Same.l0.eq_2 ..) (ev_if_neg (by omega) (ev_some rfl))
  | x :: rest, i, hd => by
    obtain ⟨hi, hd', hx⟩ := drop_cons hd
    have hx : rd_T59 a i = x := hx _
    have hb : b.drop i = b[i] :: b.drop (i + 1) := List.drop_eq_getElem_cons (by omega)
    have hy : rd_T59 b i = b[i] := by
      obtain ⟨_, _, h⟩ := drop_cons hb
      exact h _
    have hxa : x ∈ a := List.mem_of_mem_drop (by rw [hd]; exact List.mem_cons_self : x ∈ a.drop i)
    have ih := spec_l13Same_loop a b hl hk hab rest (i + 1) hd'
    refine Ev.step (fun k => spec_l13Same.l0.eq_2 ..) (ev_if_pos (by omega) (ev_if_pos (by omega) (ev_if_pos (by omega) (ev_if_pos (by omega) ?_))))
    rw [hb]
    simp only [hx, hy]
    by_cases h0 : x.f0 = b[i].f0
    · refine ev_if_pos h0 ?_
      by_cases h1 : x.f1 = b[i].f1
      · refine ev_if_pos h1 ?_
        by_cases h2 : x.f2 = b[i].f2
        · refine ev_if_pos h2 (ev_bind (spec_l1Same_ev x.f3 b[i].f3 (hk x hxa)) ?_)
          rw [wrap_succ (by omega)]
          by_cases h3 : x.f3 = b[i].f3
          · refine ev_if_pos (decide_eq_true h3) (ev_eq ih ?_)
            show _ = (if _ then _ else _)
            rw [if_pos ⟨h0, h1, h2, h3⟩]
          · refine ev_if_neg (by simp [h3]) (ev_some ?_)
            show _ = (if _ then _ else _)
            rw [if_neg (fun h => h3 h.2.2.2)]
        · refine ev_if_neg h2 (ev_some ?_)
          show _ = (if _ then _ else _)
          rw [if_neg (fun h => h2 h.2.2.1)]
      · refine ev_if_neg h1 (ev_some ?_)
        show _ = (if _ then _ else _)
        rw [if_neg (fun h => h1 h.2.1)]
    · refine ev_if_neg h0 (ev_some ?_)
      show _ = (if _ then _ else _)
      rw [if_neg (fun h => h0 h.1)]
theorem spec_l13Same_ev (a b : List (S59)) (hl : a.length ≤ 1048576) (hk : ∀ x ∈ a, x.f3.length ≤ 1048576) : Ev (fun k => spec_l13Same.f k a b) (sameB a b) := by
  unfold spec_l13Same.f
  by_cases h : a.length = b.length
  · exact ev_if_pos (by omega) (spec_l13Same_loop a b hl hk h a 0 rfl)
  · refine ev_if_neg (by omega) (ev_some ?_)
    cases hs : sameB a b with
    | false => rfl
    | true => exact absurd (congrArg List.length ((sameB_iff a b).1 hs)) h
theorem slices_EqualFunc_impl_Leg__impl_entries_1_loop (a b : List (S59)) (hl : a.length ≤ 1048576) (hk : ∀ x ∈ a, x.f3.length ≤ 1048576) (hab : a.length = b.length) : ∀ (rest : List (S59)) (i : Nat), a.drop i = rest → Ev (fun k => slices_EqualFunc_impl_Leg__impl_entries_1.l0 k b a (a.length : Int) i) (sameB rest (b.drop i))
  | [], i, hd => by
    have h := drop_nil hd
    rw [List.drop_of_length_le (by omega : b.length ≤ i)]
    exact Ev.step (fun k => slices_EqualFunc_impl_Leg__impl_entries_1.l0.eq_2 ..) (ev_if_neg (by omega) (ev_some rfl))
  | x :: rest, i, hd => by
    obtain ⟨hi, hd', hx⟩ := drop_cons hd
    have hx : rd_T59 a i = x := hx _
    have hb : b.drop i = b[i] :: b.drop (i + 1) := List.drop_eq_getElem_cons (by omega)
    have hy : rd_T59 b i = b[i] := by
      obtain ⟨_, _, h⟩ := drop_cons hb
      exact h _
    have hxa : x ∈ a := List.mem_of_mem_drop (by rw [hd]; exact List.mem_cons_self : x ∈ a.drop i)
    have ih := slices_EqualFunc_impl_Leg__impl_entries_1_loop a b hl hk hab rest (i + 1) hd'
    refine Ev.step (fun k => slices_EqualFunc_impl_Leg__impl_entries_1.l0.eq_2 ..) (ev_if_pos (by omega) (ev_if_pos (by omega) (ev_if_pos (by omega) (ev_if_pos (by omega) ?_))))
    rw [hb]
    simp only [hx, hy]
    rw [wrap_succ (by omega)]
    have he : Ev (fun k => impl_entries_1.f k x.f0 x.f1 x.f2 x.f3 b[i].f0 b[i].f1 b[i].f2 b[i].f3) (decide (x.f0 = b[i].f0 ∧ x.f1 = b[i].f1 ∧ x.f2 = b[i].f2 ∧ x.f3 = b[i].f3)) := by
      unfold impl_entries_1.f
      by_cases h0 : x.f0 = b[i].f0
      · refine ev_if_pos h0 ?_
        by_cases h1 : x.f1 = b[i].f1
        · refine ev_if_pos h1 ?_
          by_cases h2 : x.f2 = b[i].f2
          · refine ev_if_pos h2 (ev_bind (slices_Equal_int_int_ev x.f3 b[i].f3 (hk x hxa)) (ev_some ?_))
            simp [h0, h1, h2]
          · exact ev_if_neg h2 (ev_some (by simp [h2]))
        · exact ev_if_neg h1 (ev_some (by simp [h1]))
      · exact ev_if_neg h0 (ev_some (by simp [h0]))
    refine ev_bind he ?_
    by_cases h : x.f0 = b[i].f0 ∧ x.f1 = b[i].f1 ∧ x.f2 = b[i].f2 ∧ x.f3 = b[i].f3
    · refine ev_if_pos (decide_eq_true h) (ev_eq ih ?_)
      show _ = (if _ then _ else _)
      rw [if_pos h]
    · refine ev_if_neg (by rw [decide_eq_false h]; simp) (ev_some ?_)
      show _ = (if _ then _ else _)
      rw [if_neg h]
theorem slices_EqualFunc_impl_Leg__impl_entries_1_ev (a b : List (S59)) (hl : a.length ≤ 1048576) (hk : ∀ x ∈ a, x.f3.length ≤ 1048576) : Ev (fun k => slices_EqualFunc_impl_Leg__impl_entries_1.f k a b) (sameB a b) := by
  unfold slices_EqualFunc_impl_Leg__impl_entries_1.f
  by_cases h : a.length = b.length
  · exact ev_if_pos (by omega) (slices_EqualFunc_impl_Leg__impl_entries_1_loop a b hl hk h a 0 rfl)
  · refine ev_if_neg (by omega) (ev_some ?_)
    cases hs : sameB a b with
    | false => rfl
    | true => exact absurd (congrArg List.length ((sameB_iff a b).1 hs)) h

def risAll (len : Nat) : List (S59) → Nat → Bool
  | [], _ => true
  | x :: l, i => risB ((i + 1 : Nat) : Int) ((len : Int) - 1) none x.f3 && risAll len l (i + 1)
def ofEnd (t : List (S59)) : List (S48) × Bool :=
  if ((sumK t : Nat) : Int) = (t.length : Int) - 1 then (entS t t.length 0 ByteArray.empty [], goodEs (entS t t.length 0 ByteArray.empty []) && sameB t (allLegs (entS t t.length 0 ByteArray.empty []))) else ([], false)
def ofS (t : List (S59)) : List (S48) × Bool :=
  if (decide (1 ≤ (t.length : Int)) && decide ((t.length : Int) ≤ 120)) = true then (if risAll t.length t 0 = true then ofEnd t else ([], false)) else ([], false)
theorem sumK_le (m : Nat) : ∀ l : List (S59), (∀ x ∈ l, x.f3.length ≤ m) → sumK l ≤ l.length * m
  | [], _ => Nat.zero_le _
  | x :: l, h => by
    have h1 := h x (by simp)
    have h2 := sumK_le m l (fun y hy => h y (by simp [hy]))
    unfold sumK
    rw [List.length_cons, Nat.add_mul, Nat.one_mul]
    omega
theorem ofEnd_ev (t : List (S59)) (h1 : 1 ≤ t.length) (ht : t.length ≤ 120) (hk : ∀ x ∈ t, x.f3.length ≤ 1048576) : Ev (fun k => (spec_l13Many.f k t).bind fun t153 => (if t153 = (wrap64 ((t.length : Int) - 1)) then ((spec_l13Entries.f k t 0 (⟨#[]⟩ : ByteArray) ([] : List (S48))).bind fun t154 => ((spec_GoodEntries.f k t154).bind fun t157 => (if t157 = true then ((spec_l13Build.f t154 0 ([] : List (S59))).bind fun t158 => ((spec_l13Same.f k t t158).bind fun t161 => (some (t154, t161)))) else (some (t154, false))))) else (some (([] : List (S48)), false)))) (ofEnd t) := by
  have hsum := sumK_le 1048576 t hk
  have hs2 : t.length * 1048576 ≤ 120 * 1048576 := Nat.mul_le_mul_right _ ht
  obtain ⟨e1, e2⟩ := l13Ent_ev t ht hk t.length 0 ByteArray.empty [] (by omega) (by omega) (by decide) (by simp)
  refine ev_bind (spec_l13Many_ev t (by omega) (by omega)) ?_
  rw [wrap_id (by omega) (by omega)]
  unfold ofEnd
  by_cases hc : ((sumK t : Nat) : Int) = (t.length : Int) - 1
  · rw [if_pos hc]
    refine ev_if_pos hc (ev_bind e1 ?_)
    have hg := spec_GoodEntries_ev (entS t t.length 0 ByteArray.empty []) (by omega) (fun x hx => by
      rcases entS_words t t.length 0 ByteArray.empty [] (by decide) x hx with h | h
      · cases h
      · omega)
    refine ev_bind hg ?_
    cases hge : goodEs (entS t t.length 0 ByteArray.empty []) with
    | true =>
      refine ev_if_pos rfl ?_
      rw [spec_l13Build_eq hge]
      simp only [Option.bind_some]
      exact ev_bind (spec_l13Same_ev t _ (by omega) hk) (ev_some rfl)
    | false => exact ev_if_neg (by simp) (ev_some rfl)
  · rw [if_neg hc]
    exact ev_if_neg hc (ev_some rfl)
theorem of_loop (t : List (S59)) (h1 : 1 ≤ t.length) (ht : t.length ≤ 120) (hk : ∀ x ∈ t, x.f3.length ≤ 1048576) : ∀ (rest : List (S59)) (i : Nat), t.drop i = rest → Ev (fun k => spec_l13Of.l0 k t t (t.length : Int) i) (if risAll t.length rest i = true then ofEnd t else ([], false))
  | [], i, hd => by
    have h := drop_nil hd
    refine Ev.step (fun k => spec_l13Of.l0.eq_2 ..) (ev_if_neg (by omega) ?_)
    exact ofEnd_ev t h1 ht hk
  | x :: rest, i, hd => by
    obtain ⟨hi, hd', hx⟩ := drop_cons hd
    have hx : rd_T59 t i = x := hx _
    have hxa : x ∈ t := List.mem_of_mem_drop (by rw [hd]; exact List.mem_cons_self : x ∈ t.drop i)
    refine Ev.step (fun k => spec_l13Of.l0.eq_2 ..) (ev_if_pos (by omega) (ev_if_pos (by omega) (ev_if_pos (by omega) ?_)))
    rw [hx, wrap_succ (by omega), wrap_id (x := (t.length : Int) - 1) (by omega) (by omega)]
    refine ev_bind (spec_l1Rising_ev x.f3 (hk x hxa) _ _) ?_
    cases hr : risB ((i + 1 : Nat) : Int) ((t.length : Int) - 1) none x.f3 with
    | true =>
      refine ev_if_pos rfl (ev_eq (of_loop t h1 ht hk rest (i + 1) hd') ?_)
      show _ = if (_ && _) = true then _ else _
      rw [hr, Bool.true_and]
    | false =>
      refine ev_if_neg (by simp) (ev_some ?_)
      show _ = if (_ && _) = true then _ else _
      rw [hr]; rfl
theorem spec_l13Of_ev (t : List (S59)) (hk : ∀ x ∈ t, x.f3.length ≤ 1048576) : Ev (fun k => spec_l13Of.f k t) (ofS t) := by
  unfold spec_l13Of.f ofS
  simp only [l1In_eq, Option.bind_some]
  by_cases hc : (decide (1 ≤ (t.length : Int)) && decide ((t.length : Int) ≤ 120)) = true
  · rw [if_pos hc]
    have h := hc
    simp only [Bool.and_eq_true, decide_eq_true_eq] at h
    exact ev_if_pos hc (of_loop t (by omega) (by omega) hk t 0 rfl)
  · rw [if_neg hc]
    exact ev_if_neg hc (ev_some rfl)

/-! ### the entries of legs, by the program -/
theorem step_word {n : Nat} {y : S48} {g : List (S48)} {word : ByteArray} (hg : LegGood wdE (n + 1) g) (hy : y ∈ g) (hyg : goodE y = true) (hpre : (wdE y).take n = word.data.toList) (hws : word.size = n) :
    (word ++ strOfNums [97 + ((((wdE y).getD n 0).toNat : Int) - 97) % 256]).size = n + 1 ∧ (∀ z ∈ g, (wdE z).take (n + 1) = (word ++ strOfNums [97 + ((((wdE y).getD n 0).toNat : Int) - 97) % 256]).data.toList) ∧ 0 ≤ ((((wdE y).getD n 0).toNat : Int) - 97) % 256 ∧ ((((wdE y).getD n 0).toNat : Int) - 97) % 256 ≤ 25 := by
  have hsz := hg.size y hy
  rw [wdE_length] at hsz
  obtain ⟨hl1, hl2⟩ := goodE_letter hyg (n := n) (by omega)
  refine ⟨by rw [size_append, one_size, hws], fun z hz => ?_, by omega, by omega⟩
  have h1 : (wdE z).take (n + 1) = (wdE y).take (n + 1) := hg.pre z hz y hy
  have h2 : (wdE y).take (n + 1) = (wdE y).take n ++ [(wdE y).getD n 0] := by
    rw [List.take_add_one, List.getD_eq_getElem?_getD, List.getElem?_eq_getElem (by rw [wdE_length]; omega)]; rfl
  rw [h1, h2, hpre, ByteArray.data_append, Array.toList_append, strOfNums_data]
  simp only [List.map_cons, List.map_nil]
  rw [byte_back hl1 hl2]
def KidsAt (k n : Nat) (ws : List ByteArray) : List (List (S48)) → Nat → Prop
  | [], _ => True
  | g :: gs, pos => ((ws.getD pos ByteArray.empty).size = n + 1 ∧ ∀ z ∈ g, (wdE z).take (n + 1) = (ws.getD pos ByteArray.empty).data.toList) ∧ KidsAt k n ws gs (pos + (segL k g (n + 1) pos).length)
theorem KidsAt_congr (k n : Nat) {ws ws' : List ByteArray} : ∀ (gs : List (List (S48))) (pos : Nat), (∀ j, pos ≤ j → ws'.getD j ByteArray.empty = ws.getD j ByteArray.empty) → KidsAt k n ws gs pos → KidsAt k n ws' gs pos
  | [], _, _, _ => trivial
  | g :: gs, pos, h, hk => ⟨by rw [h pos (Nat.le_refl _)]; exact hk.1, KidsAt_congr k n gs _ (fun j hj => h j (by omega)) hk.2⟩
theorem kids_seg (t : List (S59)) (at_ n k : Nat) (hnk : n + 1 + k = 13) (word : ByteArray) (hws : word.size = n) :
    ∀ (gs : List (List (S48))) (pos : Nat) (ws : List ByteArray), ws.length = t.length → ws.getD at_ ByteArray.empty = word → (∀ g ∈ gs, LegGood wdE (n + 1) g ∧ g ≠ [] ∧ (∀ x ∈ g, goodE x = true) ∧ ∀ x ∈ g, (wdE x).take n = word.data.toList) → AtSeg t (bodyF (fun g a => segL k g (n + 1) a) gs pos) pos → pos + (bodyF (fun g a => segL k g (n + 1) a) gs pos).length ≤ t.length → at_ < pos →
    ∃ ws', impl_entries.kids t at_ (kidsF (fun g a => segL k g (n + 1) a) gs pos) ws = some ws' ∧ ws'.length = t.length ∧ KidsAt k n ws' gs pos ∧ ∀ j, (j < pos ∨ pos + (bodyF (fun g a => segL k g (n + 1) a) gs pos).length ≤ j) → ws'.getD j ByteArray.empty = ws.getD j ByteArray.empty
  | [], pos, ws, hl, _, _, _, _, _ => ⟨ws, rfl, hl, trivial, fun _ _ => rfl⟩
  | g :: gs, pos, ws, hl, hwat, hall, hseg, hlen, hat => by
    obtain ⟨hg, hne, hgood, hpre⟩ := hall g (by simp)
    obtain ⟨y, g', rfl⟩ : ∃ y g', g = y :: g' := by cases g with | nil => exact absurd rfl hne | cons y g' => exact ⟨y, g', rfl⟩
    obtain ⟨hw1, hw2, hl1, hl2⟩ := step_word hg (y := y) (by simp) (hgood y (by simp)) (hpre y (by simp)) hws
    obtain ⟨x, b, hxb, hx0⟩ := segL_head (pos := pos) hnk hg y (by simp)
    have e : (bodyF (fun g a => segL k g (n + 1) a) ((y :: g') :: gs) pos) = segL k (y :: g') (n + 1) pos ++ bodyF (fun g a => segL k g (n + 1) a) gs (pos + (segL k (y :: g') (n + 1) pos).length) := rfl
    rw [e] at hseg hlen
    rw [List.length_append] at hlen
    have hs1 := hseg.left
    have hs2 := hseg.right
    have hrd : rd_T59 t (pos : Int) = x := rd_at (by rw [hxb] at hs1; exact hs1.head)
    have hpl : 0 < (segL k (y :: g') (n + 1) pos).length := by rw [hxb]; simp
    have hn12 := hg.n12
    obtain ⟨w, hw⟩ : ∃ w, w = word ++ strOfNums [97 + ((((wdE y).getD n 0).toNat : Int) - 97) % 256] := ⟨_, rfl⟩
    rw [← hw] at hw1 hw2
    have hget : ∀ j, (ws.set pos w).getD j ByteArray.empty = if j = pos then w else ws.getD j ByteArray.empty := fun j => by
      rw [List.getD_eq_getElem?_getD, List.getD_eq_getElem?_getD, List.getElem?_set]
      by_cases hj : pos = j
      · subst hj; rw [if_pos rfl, if_pos rfl, if_pos (by omega)]; rfl
      · rw [if_neg hj, if_neg (fun h => hj h.symm)]
    obtain ⟨ws', h1, h2, h3, h4⟩ := kids_seg t at_ n k hnk word hws gs (pos + (segL k (y :: g') (n + 1) pos).length) (ws.set pos w) (by rw [List.length_set]; exact hl) (by rw [hget, if_neg (by omega)]; exact hwat) (fun g hg => hall g (by simp [hg])) hs2 (by omega) (by omega)
    refine ⟨ws', ?_, h2, ⟨?_, h3⟩, fun j hj => ?_⟩
    · show (if _ then _ else _) = _
      rw [hwat, hrd, hx0, if_pos ⟨⟨by omega, by omega⟩, ⟨hl1, hl2⟩, by omega⟩, Int.toNat_natCast, ← hw]
      exact h1
    · have e2 : ws'.getD pos ByteArray.empty = w := by rw [h4 pos (Or.inl (by omega)), hget, if_pos rfl]
      rw [e2]
      exact ⟨hw1, hw2⟩
    · have e3 : (bodyF (fun g a => segL k g (n + 1) a) ((y :: g') :: gs) pos).length = (segL k (y :: g') (n + 1) pos).length + (bodyF (fun g a => segL k g (n + 1) a) gs (pos + (segL k (y :: g') (n + 1) pos).length)).length := by rw [e, List.length_append]
      rw [e3] at hj
      rw [h4 j (by omega), hget, if_neg (by omega)]

theorem go_gs (t : List (S59)) (n k : Nat)
    (hG : ∀ g p, LegGood wdE (n + 1) g → (∀ x ∈ g, goodE x = true) → AtSeg t (segL k g (n + 1) p) p → p + (segL k g (n + 1) p).length ≤ t.length → ∀ ws : List ByteArray, ws.length = t.length → (ws.getD p ByteArray.empty).size = n + 1 → (∀ z ∈ g, (wdE z).take (n + 1) = (ws.getD p ByteArray.empty).data.toList) →
      ∃ ws', ws'.length = t.length ∧ (∀ j, p + (segL k g (n + 1) p).length ≤ j → ws'.getD j ByteArray.empty = ws.getD j ByteArray.empty) ∧ ∀ out, impl_entries.go t (t.drop p) p ws out = impl_entries.go t (t.drop (p + (segL k g (n + 1) p).length)) (p + (segL k g (n + 1) p).length) ws' (out ++ g)) :
    ∀ (gs : List (List (S48))) (pos : Nat) (ws : List ByteArray), ws.length = t.length → (∀ g ∈ gs, LegGood wdE (n + 1) g ∧ ∀ x ∈ g, goodE x = true) → KidsAt k n ws gs pos → AtSeg t (bodyF (fun g a => segL k g (n + 1) a) gs pos) pos → pos + (bodyF (fun g a => segL k g (n + 1) a) gs pos).length ≤ t.length →
    ∃ ws', ws'.length = t.length ∧ (∀ j, pos + (bodyF (fun g a => segL k g (n + 1) a) gs pos).length ≤ j → ws'.getD j ByteArray.empty = ws.getD j ByteArray.empty) ∧ ∀ out, impl_entries.go t (t.drop pos) pos ws out = impl_entries.go t (t.drop (pos + (bodyF (fun g a => segL k g (n + 1) a) gs pos).length)) (pos + (bodyF (fun g a => segL k g (n + 1) a) gs pos).length) ws' (out ++ gs.flatten)
  | [], pos, ws, hl, _, _, _, _ => ⟨ws, hl, fun _ _ => rfl, fun out => by simp [bodyF]⟩
  | g :: gs, pos, ws, hl, hall, hk, hseg, hlen => by
    obtain ⟨hg, hgood⟩ := hall g (by simp)
    have e : (bodyF (fun g a => segL k g (n + 1) a) (g :: gs) pos) = segL k g (n + 1) pos ++ bodyF (fun g a => segL k g (n + 1) a) gs (pos + (segL k g (n + 1) pos).length) := rfl
    rw [e] at hseg hlen ⊢
    rw [List.length_append] at hlen ⊢
    obtain ⟨ws1, h1, h2, h3⟩ := hG g pos hg hgood hseg.left (by omega) ws hl hk.1.1 hk.1.2
    obtain ⟨ws2, h4, h5, h6⟩ := go_gs t n k hG gs (pos + (segL k g (n + 1) pos).length) ws1 h1 (fun g hg => hall g (by simp [hg])) (KidsAt_congr k n gs _ (fun j hj => h2 j hj) hk.2) hseg.right (by omega)
    refine ⟨ws2, h4, fun j hj => by rw [h5 j (by omega), h2 j (by omega)], fun out => ?_⟩
    rw [h3, h6, List.append_assoc, List.flatten_cons, Nat.add_assoc]
theorem leg_first2 {n : Nat} {l : List (S48)} {word : ByteArray} (hg : LegGood wdE n l) (hgood : ∀ x ∈ l, goodE x = true) (hpre : ∀ x ∈ l, (wdE x).take n = word.data.toList) (out : List (S48)) :
    (if Go.Proofs.Ytkoackkimdanjaa.Ext.legWeight wdE (fun x : S48 => x.f1) n l = 0 then out else out ++ [⟨word, Go.Proofs.Ytkoackkimdanjaa.Ext.legWeight wdE (fun x : S48 => x.f1) n l⟩]) ++ legRest wdE n l = out ++ l := by
  have h := leg_first hg hgood hpre out
  have h0 : 0 ≤ Go.Proofs.Ytkoackkimdanjaa.Ext.legWeight wdE (fun x : S48 => x.f1) n l := by
    cases l with
    | nil => exact Int.le_refl 0
    | cons y l' =>
      show 0 ≤ (if (wdE y).length = n then y.f1 else 0)
      have := hgood y (by simp)
      simp only [goodE, Bool.and_eq_true, decide_eq_true_eq] at this
      split <;> omega
  by_cases hz : Go.Proofs.Ytkoackkimdanjaa.Ext.legWeight wdE (fun x : S48 => x.f1) n l = 0
  · rw [if_neg (by omega)] at h
    rw [if_pos hz]; exact h
  · rw [if_pos (by omega)] at h
    rw [if_neg hz]; exact h
theorem go_seg (t : List (S59)) : ∀ (k : Nat) (l : List (S48)) (n at_ : Nat), n + k = 13 → LegGood wdE n l → (∀ x ∈ l, goodE x = true) → AtSeg t (segL k l n at_) at_ → at_ + (segL k l n at_).length ≤ t.length → ∀ ws : List ByteArray, ws.length = t.length → (ws.getD at_ ByteArray.empty).size = n → (∀ z ∈ l, (wdE z).take n = (ws.getD at_ ByteArray.empty).data.toList) →
      ∃ ws', ws'.length = t.length ∧ (∀ j, at_ + (segL k l n at_).length ≤ j → ws'.getD j ByteArray.empty = ws.getD j ByteArray.empty) ∧ ∀ out, impl_entries.go t (t.drop at_) at_ ws out = impl_entries.go t (t.drop (at_ + (segL k l n at_).length)) (at_ + (segL k l n at_).length) ws' (out ++ l)
  | 0, l, n, at_, hn, hg, _, _, _, _, _, _, _ => by have := hg.n12; omega
  | k + 1, l, n, at_, hn, hg, hgood, hseg, hlen, ws, hl, hws, hpre => by
    rw [segL_succ] at hseg hlen ⊢
    rw [List.length_cons] at hlen ⊢
    have hhead := hseg.head
    have htail := hseg.tail
    obtain ⟨word, hword⟩ : ∃ word, word = ws.getD at_ ByteArray.empty := ⟨_, rfl⟩
    rw [← hword] at hws hpre
    have hsub : ∀ g ∈ groups wdE n (legRest wdE n l), ∀ x ∈ g, x ∈ l := fun g hgm x hx => (Go.Proofs.Ytkoackkimdanjaa.Ext.legRest_sub n l).subset ((groups_sub n _ g hgm).subset hx)
    obtain ⟨ws1, h1, h2, h3, h4⟩ := kids_seg t at_ n k (by omega) word hws (groups wdE n (legRest wdE n l)) (at_ + 1) ws hl hword.symm (fun g hgm => ⟨hg.group hgm, groups_ne n _ g hgm, fun x hx => hgood x (hsub g hgm x hx), fun x hx => hpre x (hsub g hgm x hx)⟩) htail (by omega) (by omega)
    obtain ⟨ws2, h5, h6, h7⟩ := go_gs t n k (fun g p hg1 hg2 hs hp ws' hl' hw1 hw2 => go_seg t k g (n + 1) p (by omega) hg1 hg2 hs hp ws' hl' hw1 hw2) (groups wdE n (legRest wdE n l)) (at_ + 1) ws1 h2 (fun g hgm => ⟨hg.group hgm, fun x hx => hgood x (hsub g hgm x hx)⟩) h3 htail (by omega)
    refine ⟨ws2, h5, fun j hj => by rw [h6 j (by omega), h4 j (Or.inr (by omega))], fun out => ?_⟩
    have hat : at_ < t.length := by omega
    have hd : t.drop at_ = t[at_] :: t.drop (at_ + 1) := List.drop_eq_getElem_cons hat
    have hx := Option.some.inj ((List.getElem?_eq_getElem hat).symm.trans hhead)
    rw [hd, hx]
    show (impl_entries.kids t at_ (kidsF _ _ _) ws).bind _ = _
    rw [h1]
    show impl_entries.go t (t.drop (at_ + 1)) (at_ + 1) ws1 _ = _
    rw [h7, ← hword]
    have hf := leg_first2 hg hgood hpre out
    have hflat := groups_flat (wd := wdE) n (legRest wdE n l)
    rw [hflat]
    rw [show at_ + 1 + (bodyF (fun g a => segL k g (n + 1) a) (groups wdE n (legRest wdE n l)) (at_ + 1)).length = at_ + ((bodyF (fun g a => segL k g (n + 1) a) (groups wdE n (legRest wdE n l)) (at_ + 1)).length + 1) by omega]
    congr 1
/-- The program reads good entries back from all their legs. -/
theorem go_all {l : List (S48)} (h : goodEs l = true) : impl_entries.go (allLegs l) (allLegs l) 0 (List.replicate (allLegs l).length ByteArray.empty) [] = some l := by
  have hg := goodEs_leg h
  have hgood : ∀ x ∈ l, goodE x = true := by
    simp only [goodEs, Bool.and_eq_true] at h
    exact (chainE_all l none h.1).2.2
  have h0 : (List.replicate (allLegs l).length ByteArray.empty).getD 0 ByteArray.empty = ByteArray.empty := by
    rw [List.getD_eq_getElem?_getD, List.getElem?_replicate]
    split <;> rfl
  obtain ⟨ws', _, _, h3⟩ := go_seg (allLegs l) 13 l 0 0 rfl hg hgood (fun j _ => by rw [Nat.zero_add]; rfl) (by rw [Nat.zero_add]; exact Nat.le_refl _) (List.replicate (allLegs l).length ByteArray.empty) List.length_replicate (by rw [h0]; rfl) (fun z _ => by rw [h0]; rfl)
  have h4 := h3 []
  rw [List.drop_zero, Nat.zero_add] at h4
  rw [h4]
  have : (allLegs l).drop (segL 13 l 0 0).length = [] := List.drop_length
  rw [this, List.nil_append]
  rfl

theorem getD_small {ws : List ByteArray} (h : ∀ s ∈ ws, s.size ≤ 12) (i : Nat) : (ws.getD i ByteArray.empty).size ≤ 12 := by
  rw [List.getD_eq_getElem?_getD]
  cases hx : ws[i]? with
  | none => decide
  | some s => exact h s (List.mem_of_getElem? hx)
theorem kids_small (t : List (S59)) (i : Nat) : ∀ (ks : List Int) (ws ws' : List ByteArray), impl_entries.kids t i ks ws = some ws' → (∀ s ∈ ws, s.size ≤ 12) → ∀ s ∈ ws', s.size ≤ 12
  | [], ws, ws', h, hs => by
    have h : some ws = some ws' := h
    injection h with h
    rw [← h]; exact hs
  | k :: ks, ws, ws', h, hs => by
    unfold impl_entries.kids at h
    split at h
    · rename_i hc
      refine kids_small t i ks _ ws' h (fun s hm => ?_)
      have h1 := getD_small hs i
      rcases List.mem_or_eq_of_mem_set hm with hm | hm
      · exact hs s hm
      · rw [hm, size_append, one_size]; have := hc.2.2; omega
    · cases h
theorem go_small (t : List (S59)) : ∀ (l : List (S59)) (i : Nat) (ws : List ByteArray) (out r : List (S48)), impl_entries.go t l i ws out = some r → (∀ s ∈ ws, s.size ≤ 12) → (∀ x ∈ out, x.f0.size ≤ 12) → r.length ≤ out.length + l.length ∧ ∀ x ∈ r, x.f0.size ≤ 12
  | [], i, ws, out, r, h, hs, ho => by
    have h : some out = some r := h
    injection h with h
    rw [← h]; exact ⟨by simp, ho⟩
  | x :: l, i, ws, out, r, h, hs, ho => by
    have h : (impl_entries.kids t i x.f3 ws).bind (fun ws' => impl_entries.go t l (i + 1) ws' (if x.f1 = 0 then out else out ++ [⟨ws.getD i ByteArray.empty, x.f1⟩])) = some r := h
    obtain ⟨ws', h1, h2⟩ := Option.bind_eq_some_iff.mp h
    have h3 := go_small t l (i + 1) ws' _ r h2 (kids_small t i _ _ _ h1 hs) (fun y hy => by
      split at hy
      · exact ho y hy
      · rcases List.mem_append.1 hy with hy | hy
        · exact ho y hy
        · rw [List.mem_singleton.1 hy]; exact getD_small hs i)
    refine ⟨?_, h3.2⟩
    have h4 := h3.1
    split at h4
    · rw [List.length_cons]; omega
    · rw [List.length_append, List.length_singleton] at h4; rw [List.length_cons]; omega
def implS (t : List (S59)) : List (S48) × Bool :=
  if 1 ≤ t.length ∧ t.length ≤ 120 then (match impl_entries.go t t 0 (List.replicate t.length ByteArray.empty) [] with
  | none => ([], false)
  | some out => if (buildR out).2 = true then (if sameB t (buildR out).1 = true then (out, true) else ([], false)) else ([], false)) else ([], false)
theorem impl_entries_ev (t : List (S59)) (hk : ∀ x ∈ t, x.f3.length ≤ 1048576) : Ev (fun k => impl_entries.f k t) (implS t) := by
  unfold impl_entries.f implS
  by_cases hc : 1 ≤ t.length ∧ t.length ≤ 120
  · rw [if_pos hc]
    refine ev_if_pos hc ?_
    cases hg : impl_entries.go t t 0 (List.replicate t.length ByteArray.empty) [] with
    | none => exact ev_some rfl
    | some out =>
      obtain ⟨h1, h2⟩ := go_small t t 0 _ _ _ hg (fun s hs => by rw [(List.mem_replicate.1 hs).2]; decide) (fun x hx => by cases hx)
      show Ev _ (if (buildR out).2 = true then (if sameB t (buildR out).1 = true then (out, true) else ([], false)) else ([], false))
      refine ev_bind (impl_build_ev out (by simp at h1; omega) (fun x hx => by have := h2 x hx; omega)) ?_
      by_cases hb : (buildR out).2 = true
      · rw [if_pos hb]
        refine ev_if_pos hb (ev_bind (slices_EqualFunc_impl_Leg__impl_entries_1_ev t _ (by omega) hk) ?_)
        exact ev_ite (fun _ => ev_some rfl) (fun _ => ev_some rfl)
      · rw [if_neg hb]
        exact ev_if_neg hb (ev_some rfl)
  · rw [if_neg hc]
    exact ev_if_neg hc (ev_some rfl)

theorem segL_all (l : List (S48)) : segL 13 l 0 0 = allLegs l := rfl
theorem risB_of {lo hi : Int} : ∀ (l : List Int) (p : Option Int), (∀ y ∈ l, lo ≤ y ∧ y ≤ hi) → l.Pairwise (· < ·) → (∀ q, p = some q → ∀ y ∈ l, q < y) → risB lo hi p l = true
  | [], p, _, _, _ => by cases p <;> rfl
  | x :: l, p, h, hp, hq => by
    have h1 := h x (by simp)
    have h2 := List.pairwise_cons.1 hp
    have ih := risB_of (lo := lo) (hi := hi) l (some x) (fun y hy => h y (by simp [hy])) h2.2 (fun q e y hy => by injection e with e; rw [← e]; exact h2.1 y hy)
    cases p with
    | none => show ((decide (lo ≤ x) && decide (x ≤ hi)) && _) = true; rw [ih]; simp [h1.1, h1.2]
    | some q => show ((decide (lo ≤ x) && decide (x ≤ hi)) && (decide (q < x) && _)) = true; rw [ih]; simp [h1.1, h1.2, hq q rfl x (by simp)]
theorem risAll_of (len : Nat) : ∀ (l : List (S59)) (i : Nat), (∀ j x, l[j]? = some x → (∀ y ∈ x.f3, ((i + j + 1 : Nat) : Int) ≤ y ∧ y ≤ (len : Int) - 1) ∧ x.f3.Pairwise (· < ·)) → risAll len l i = true
  | [], _, _ => rfl
  | x :: l, i, h => by
    have h0 := h 0 x rfl
    have ih := risAll_of len l (i + 1) (fun j y hy => by
      have := h (j + 1) y (by simpa using hy)
      rw [show i + (j + 1) + 1 = i + 1 + j + 1 by omega] at this
      exact this)
    show (risB _ _ none x.f3 && _) = true
    rw [ih, Bool.and_true]
    exact risB_of x.f3 none (fun y hy => by have := h0.1 y hy; rw [Nat.add_zero] at this; exact this) h0.2 (fun q e => by cases e)
theorem ofS_good {l : List (S48)} (h : goodEs l = true) (hl : (allLegs l).length ≤ 120) : ofS (allLegs l) = (l, true) := by
  have hg := goodEs_leg h
  have hne : 1 ≤ (allLegs l).length := List.length_pos_iff.2 (by rw [← segL_all]; exact segL_ne rfl hg)
  have hr : risAll (allLegs l).length (allLegs l) 0 = true := risAll_of _ _ _ (fun j x hx => by
    obtain ⟨h1, h2⟩ := segL_rising 13 l 0 0 rfl hg j x hx
    rw [segL_all] at h1
    exact ⟨fun y hy => by have := h1 y hy; omega, h2⟩)
  have hs : sumK (allLegs l) + 1 = (allLegs l).length := segL_sum 13 l 0 0 rfl hg
  unfold ofS
  rw [if_pos (by simp; omega), if_pos hr]
  unfold ofEnd
  rw [if_pos (by omega), entS_all h _ (Nat.le_refl _), h, (sameB_iff _ _).2 rfl]
  rfl
theorem implS_good {l : List (S48)} (h : goodEs l = true) (hl : (allLegs l).length ≤ 120) : implS (allLegs l) = (l, true) := by
  have hg := goodEs_leg h
  have hne : 1 ≤ (allLegs l).length := List.length_pos_iff.2 (by rw [← segL_all]; exact segL_ne rfl hg)
  have hb : buildR l = (allLegs l, true) := by
    unfold buildR
    rw [if_pos h, if_neg (by omega)]
  unfold implS
  rw [if_pos ⟨hne, hl⟩, go_all h]
  show (if (buildR l).2 = true then _ else _) = _
  rw [hb, if_pos rfl, if_pos ((sameB_iff _ _).2 rfl)]
theorem ofS_true {t : List (S59)} (h : (ofS t).2 = true) : ∃ l, goodEs l = true ∧ t = allLegs l ∧ t.length ≤ 120 := by
  unfold ofS at h
  split at h
  · rename_i hc
    simp only [Bool.and_eq_true, decide_eq_true_eq] at hc
    split at h
    · unfold ofEnd at h
      split at h
      · simp only [Bool.and_eq_true] at h
        exact ⟨_, h.1, (sameB_iff _ _).1 h.2, by omega⟩
      · cases h
    · cases h
  · cases h
theorem implS_cases (t : List (S59)) : implS t = ([], false) ∨ ∃ l, goodEs l = true ∧ t = allLegs l ∧ t.length ≤ 120 := by
  unfold implS
  split
  · rename_i hc
    split
    · exact .inl rfl
    · rename_i out _
      by_cases hb : (buildR out).2 = true
      · rw [if_pos hb]
        by_cases hs : sameB t (buildR out).1 = true
        · refine .inr ⟨out, ?_, ?_, hc.2⟩
          · unfold buildR at hb
            split at hb
            · assumption
            · cases hb
          · rw [(sameB_iff _ _).1 hs]
            unfold buildR at hb ⊢
            split at hb
            · rename_i hg
              rw [if_pos hg]
              split at hb
              · cases hb
              · rename_i hn; rw [if_neg hn]
            · cases hb
        · rw [if_neg hs]; exact .inl rfl
      · rw [if_neg hb]; exact .inl rfl
  · exact .inl rfl
/-- Both say the same of legs. -/
theorem legs_alike (t : List (S59)) : implS t = (if (ofS t).2 = true then ((ofS t).1, true) else ([], false)) := by
  by_cases h : (ofS t).2 = true
  · obtain ⟨l, h1, rfl, h3⟩ := ofS_true h
    rw [if_pos h, implS_good h1 h3, ofS_good h1 h3]
  · rw [if_neg h]
    rcases implS_cases t with h' | ⟨l, h1, rfl, h3⟩
    · exact h'
    · exact absurd (by rw [ofS_good h1 h3]) h

/-! ### Leg: alike, marked, held -/
theorem eqLegS_loop (l : List (S59)) (hl : l.length ≤ 1048576) (hr : ∀ r ∈ l, r.f3.length ≤ 1048576) : ∀ (rest : List (S59)) (i : Nat), l.drop i = rest → Ev (fun k => laws_eqLegS.l0 k l l i) true
  | [], i, hd => by
    have h := drop_nil hd
    exact Ev.step (fun k => laws_eqLegS.l0.eq_2 ..) (ev_if_neg (by omega) (ev_some rfl))
  | s :: rest, i, hd => by
    obtain ⟨hi, hd', hx⟩ := drop_cons hd
    have hx : rd_T59 l i = s := hx _
    have hs : s ∈ l := by
      have : s ∈ l.drop i := by rw [hd]; simp
      exact List.mem_of_mem_drop this
    refine Ev.step (fun k => laws_eqLegS.l0.eq_2 ..) (ev_if_pos (by omega) (ev_if_pos (by omega) (ev_if_pos (by omega) ?_)))
    simp only [hx]
    refine ev_bind (a := true) ?_ (ev_if_pos rfl ?_)
    · unfold laws_eqLeg.f
      exact ev_if_pos rfl (ev_if_pos rfl (ev_if_pos rfl (ev_bind (eqIntS_ev s.f3 (by have := hr s hs; omega)) (ev_if_pos rfl (ev_some rfl)))))
    · rw [wrap_succ (by omega)]
      exact eqLegS_loop l hl hr rest (i + 1) hd'
theorem eqLegS_ev (l : List (S59)) (hl : l.length ≤ 1048576) (hr : ∀ r ∈ l, r.f3.length ≤ 1048576) : Ev (fun k => laws_eqLegS.f k l l) true := by
  unfold laws_eqLegS.f
  exact ev_if_pos rfl (eqLegS_loop l hl hr l 0 rfl)

def sizesG : List (S59) → Nat
  | [] => 0
  | x :: l => 3 + x.f3.length + sizesG l
def marksG : List (S59) → Nat → List (S59)
  | [], _ => []
  | x :: l, n => ⟨(n : Int), ((n + 1 : Nat) : Int), ((n + 2 : Nat) : Int), marksI x.f3.length (n + 3)⟩ :: marksG l (n + 3 + x.f3.length)
theorem marksG_length : ∀ (l : List (S59)) (n : Nat), (marksG l n).length = l.length
  | [], _ => rfl
  | x :: l, n => by simp [marksG, marksG_length l]
theorem markLegS_l : ∀ (l : List (S59)) (n : Nat), sizesG l + n ≤ 1073741824 → Ev (fun k => laws_markLegS.l k l n) (((n + sizesG l : Nat) : Int), marksG l n)
  | [], n, _ => ev_fun fun k => rfl
  | x :: l, n, h => by
    unfold sizesG at h
    have hL := markLegS_l l (n + 3 + x.f3.length) (by omega)
    have hx := markIntS_ev x.f3 (n + 3) (by omega)
    have w1 : wrap64 ((n : Int) + 1) = ((n + 1 : Nat) : Int) := wrap_succ (by omega)
    have w2 : wrap64 (((n + 1 : Nat) : Int) + 1) = ((n + 2 : Nat) : Int) := wrap_succ (by omega)
    have w3 : wrap64 (((n + 2 : Nat) : Int) + 1) = ((n + 3 : Nat) : Int) := wrap_succ (by omega)
    show Ev (fun k => (laws_markIntS.f k x.f3 (wrap64 (wrap64 (wrap64 ((n : Int) + 1) + 1) + 1))).bind fun p => (laws_markLegS.l k l p.1).bind fun q => some (q.1, (⟨(n : Int), wrap64 ((n : Int) + 1), wrap64 (wrap64 ((n : Int) + 1) + 1), p.2⟩ : S59) :: q.2)) _
    rw [w1, w2, w3]
    refine ev_bind hx (ev_bind hL (ev_some ?_))
    show ((((n + 3 + x.f3.length) + sizesG l : Nat) : Int), _) = _
    rw [show n + 3 + x.f3.length + sizesG l = n + sizesG (x :: l) from (show n + 3 + x.f3.length + sizesG l = n + (3 + x.f3.length + sizesG l) by omega)]
    rfl
theorem markLegS_ev (l : List (S59)) (n : Nat) (h : sizesG l + n ≤ 1073741824) (hl : l.length ≤ 1048576) : Ev (fun k => laws_markLegS.f k l n) (((n + sizesG l : Nat) : Int), marksG l n) := by
  unfold laws_markLegS.f
  exact ev_if_pos (by omega) (markLegS_l l n h)
theorem sizesG_le (m : Nat) : ∀ l : List (S59), (∀ x ∈ l, x.f3.length ≤ m) → sizesG l ≤ l.length * (3 + m)
  | [], _ => Nat.zero_le _
  | x :: l, h => by
    have h1 := h x (by simp)
    have h2 := sizesG_le m l (fun y hy => h y (by simp [hy]))
    unfold sizesG
    rw [List.length_cons, Nat.add_mul, Nat.one_mul]
    omega

/-! ### Leg: sizes -/
def sumKL : List (S73) → Nat
  | [] => 0
  | x :: l => x.f3.length + sumKL l
theorem sumKL_mem : ∀ (l : List (S73)) (x : S73), x ∈ l → x.f3.length ≤ sumKL l
  | y :: l, x, h => by
    unfold sumKL
    rcases List.mem_cons.1 h with rfl | h
    · omega
    · have := sumKL_mem l x h; omega
theorem szLeg_ev (x : S73) (left : Int) (h0 : 0 ≤ left) (h1 : left ≤ 1048576) (hw : x.f3.length ≤ 9223372036854775807) : ∃ r, laws_szLeg.f x.f0 x.f1 x.f2 x.f3 left = some r ∧ r ≤ 1048576 ∧ (0 ≤ r → r = left - x.f3.length) := by
  unfold laws_szLeg.f laws_szIntS.f
  have e : wrap64 (left - (x.f3.length : Int)) = left - x.f3.length := wrap_id (by omega) (by omega)
  rw [e]
  by_cases h : left - (x.f3.length : Int) < 0
  · exact ⟨-1, by rw [if_pos h, Option.bind_some, if_pos (by omega)], by omega, fun h => by omega⟩
  · exact ⟨_, by rw [if_neg h, Option.bind_some, if_neg h], by omega, fun _ => rfl⟩
theorem szLegS_loop (l : List (S73)) (hl : l.length ≤ 1048576) (hw : ∀ x ∈ l, x.f3.length ≤ 9223372036854775807) : ∀ (rest : List (S73)) (i : Nat) (left : Int), l.drop i = rest → 0 ≤ left → left ≤ 1048576 →
    ∃ r, Ev (fun k => laws_szLegS.l0 k l left i) r ∧ r ≤ 1048576 ∧ (0 ≤ r → r + (sumKL rest : Int) = left)
  | [], i, left, hd, h0, h1 => by
    have h := drop_nil hd
    exact ⟨left, Ev.step (fun k => laws_szLegS.l0.eq_2 ..) (ev_if_neg (by omega) (ev_some rfl)), h1, fun _ => by unfold sumKL; omega⟩
  | s :: rest, i, left, hd, h0, h1 => by
    obtain ⟨hi, hd', hx⟩ := drop_cons hd
    have hx : rd_T73 l i = s := hx _
    have hs : s ∈ l := List.mem_of_mem_drop (by rw [hd]; exact List.mem_cons_self)
    obtain ⟨q, hq, hq1, hq2⟩ := szLeg_ev s left h0 h1 (hw s hs)
    by_cases hn : q < 0
    · refine ⟨-1, Ev.step (fun k => laws_szLegS.l0.eq_2 ..) (ev_if_pos (by omega) (ev_if_pos (by omega) ?_)), by omega, fun h => by omega⟩
      simp only [hx, hq, Option.bind_some]
      exact ev_if_pos hn (ev_some rfl)
    · obtain ⟨r, hr, hb, hall⟩ := szLegS_loop l hl hw rest (i + 1) q hd' (by omega) hq1
      refine ⟨r, Ev.step (fun k => laws_szLegS.l0.eq_2 ..) (ev_if_pos (by omega) (ev_if_pos (by omega) ?_)), hb, fun h => ?_⟩
      · simp only [hx, hq, Option.bind_some]
        rw [wrap_succ (by omega)]
        exact ev_if_neg hn hr
      · have h1 := hall h
        have h2 := hq2 (by omega)
        unfold sumKL
        omega
theorem szLegS_ev (l : List (S73)) (left : Int) (h0 : 0 ≤ left) (h1 : left ≤ 1048576) (hl : l.length ≤ 9223372036854775807) (hw : ∀ x ∈ l, x.f3.length ≤ 9223372036854775807) :
    ∃ r, Ev (fun k => laws_szLegS.f k l left) r ∧ r ≤ 1048576 ∧ (0 ≤ r → l.length ≤ 1048576 ∧ sumKL l ≤ 1048576 ∧ ∀ x ∈ l, x.f3.length ≤ 1048576) := by
  unfold laws_szLegS.f
  have e : wrap64 (left - (l.length : Int)) = left - l.length := wrap_id (by omega) (by omega)
  simp only [e]
  by_cases hn : left - (l.length : Int) < 0
  · exact ⟨-1, ev_if_pos hn (ev_some rfl), by omega, fun h => by omega⟩
  · obtain ⟨r, hr, hb, hall⟩ := szLegS_loop l (by omega) hw l 0 (left - l.length) rfl (by omega) (by omega)
    exact ⟨r, ev_if_neg hn hr, hb, fun h => by
      have h2 := hall h
      exact ⟨by omega, by omega, fun x hx => by have := sumKL_mem l x hx; omega⟩⟩

/-! ### Leg: copied -/
theorem toIntS_loop (l : List Int) (hl : l.length ≤ 1048576) : ∀ (rest : List Int) (pre : List Int) (i : Nat), l.drop i = rest → pre.length = i →
    Ev (fun k => laws_toIntS.l0 k l (pre ++ List.replicate rest.length 0) i) (pre ++ rest)
  | [], pre, i, hd, hp => by
    have h := drop_nil hd
    exact Ev.step (fun k => laws_toIntS.l0.eq_2 ..) (ev_if_neg (by omega) (ev_some rfl))
  | s :: rest, pre, i, hd, hp => by
    obtain ⟨hi, hd', hx⟩ := drop_cons hd
    refine Ev.step (fun k => laws_toIntS.l0.eq_2 ..) (ev_if_pos (by omega) (ev_if_pos (by omega) ?_))
    refine ev_if_pos (by rw [List.length_append, List.length_replicate, List.length_cons]; omega) ?_
    rw [rd_rdOf, hx, wrap_succ (by omega), Int.toNat_natCast, List.length_cons, List.replicate_succ]
    subst hp
    rw [set_at]
    have := toIntS_loop l hl rest (pre ++ [s]) (pre.length + 1) hd' (by simp)
    simpa using this
theorem toIntS_ev (l : List Int) (hl : l.length ≤ 1048576) : Ev (fun k => laws_toIntS.f k l) l := by
  unfold laws_toIntS.f
  refine ev_if_pos (by omega) (ev_if_pos (by omega) ?_)
  rw [Int.toNat_natCast]
  exact toIntS_loop l hl l [] 0 rfl rfl
def toLeg (x : S73) : S59 := ⟨x.f0, x.f1, x.f2, x.f3⟩
theorem toLeg_ev (x : S73) (h : x.f3.length ≤ 1048576) : Ev (fun k => laws_toLeg.f k x.f0 x.f1 x.f2 x.f3) (x.f0, x.f1, x.f2, x.f3) := by
  unfold laws_toLeg.f
  exact ev_bind (toIntS_ev x.f3 h) (ev_some rfl)
theorem toLegS_loop (l : List (S73)) (hl : l.length ≤ 1048576) (hw : ∀ x ∈ l, x.f3.length ≤ 1048576) : ∀ (rest : List (S73)) (pre : List (S59)) (i : Nat), l.drop i = rest → pre.length = i →
    Ev (fun k => laws_toLegS.l0 k l (pre ++ List.replicate rest.length z59) i) (pre ++ rest.map toLeg)
  | [], pre, i, hd, hp => by
    have h := drop_nil hd
    exact Ev.step (fun k => laws_toLegS.l0.eq_2 ..) (ev_if_neg (by omega) (ev_some rfl))
  | s :: rest, pre, i, hd, hp => by
    obtain ⟨hi, hd', hx⟩ := drop_cons hd
    have hx : rd_T73 l i = s := hx _
    have hs : s ∈ l := List.mem_of_mem_drop (by rw [hd]; exact List.mem_cons_self)
    refine Ev.step (fun k => laws_toLegS.l0.eq_2 ..) (ev_if_pos (by omega) (ev_if_pos (by omega) ?_))
    simp only [hx]
    refine ev_bind (toLeg_ev s (hw s hs)) ?_
    refine ev_if_pos (by rw [List.length_append, List.length_replicate, List.length_cons]; omega) ?_
    rw [wrap_succ (by omega), Int.toNat_natCast, List.length_cons, List.replicate_succ]
    subst hp
    rw [set_at]
    have := toLegS_loop l hl hw rest (pre ++ [toLeg s]) (pre.length + 1) hd' (by simp)
    simpa [toLeg] using this
theorem toLegS_ev (l : List (S73)) (hl : l.length ≤ 1048576) (hw : ∀ x ∈ l, x.f3.length ≤ 1048576) : Ev (fun k => laws_toLegS.f k l) (l.map toLeg) := by
  unfold laws_toLegS.f
  refine ev_if_pos (by omega) (ev_if_pos (by omega) ?_)
  rw [Int.toNat_natCast]
  exact toLegS_loop l hl hw l [] 0 rfl rfl

theorem implS_small (t : List (S59)) : (implS t).1.length ≤ 20 := by
  rcases implS_cases t with h | ⟨l, h1, rfl, h3⟩
  · rw [h]; exact Nat.zero_le _
  · rw [implS_good h1 h3]
    unfold goodEs at h1
    simp only [Bool.and_eq_true, decide_eq_true_eq] at h1
    exact h1.2
theorem sizesG_to : ∀ (l : List (S73)), sizesG (l.map toLeg) = 3 * l.length + sumKL l
  | [] => rfl
  | x :: l => by
    have h := sizesG_to l
    show 3 + x.f3.length + sizesG (l.map toLeg) = 3 * (l.length + 1) + (x.f3.length + sumKL l)
    omega

theorem bl_total : ∀ x y : List UInt8, Op.bytesLess x y = false → Op.bytesLess y x = false → x = y
  | [], [], _, _ => rfl
  | [], b :: y, h, _ => by simp [Op.bytesLess] at h
  | a :: x, [], _, h => by simp [Op.bytesLess] at h
  | a :: x, b :: y, h, k => by
    simp only [Op.bytesLess, Bool.or_eq_false_iff, decide_eq_false_iff_not, Bool.and_eq_false_iff] at h k
    have e : a = b := UInt8.le_antisymm (UInt8.not_lt.1 k.1) (UInt8.not_lt.1 h.1)
    subst e
    have h2 : Op.bytesLess x y = false := by rcases h.2 with h | h; · simp at h
                                             · exact h
    have k2 : Op.bytesLess y x = false := by rcases k.2 with h | h; · simp at h
                                             · exact h
    rw [bl_total x y h2 k2]
theorem bl_irrefl : ∀ x : List UInt8, Op.bytesLess x x = false
  | [] => rfl
  | a :: x => by simp [Op.bytesLess, bl_irrefl x]

theorem goodEs_all {l : List (S48)} (h : goodEs l = true) : l.length ≤ 20 ∧ (l.Pairwise fun p q => Op.bytesLess p.f0.toList q.f0.toList = true) ∧ ∀ x ∈ l, x.f0.size ≤ 12 := by
  simp only [goodEs, Bool.and_eq_true, decide_eq_true_eq] at h
  obtain ⟨_, h2, h3⟩ := chainE_all l none h.1
  refine ⟨h.2, h2.imp fun h => ?_, fun x hx => (goodE_size (h3 x hx)).2⟩
  rw [toList_data, toList_data]; exact h

/-! ### beginnings -/
def begB (s : ByteArray) : Bool := lettersN s s.size 0 && decide (s.size ≤ 12)
theorem impl_areLetters_ev (s : ByteArray) (hs : s.size ≤ 1048576) : Ev (fun k => impl_areLetters.f k s) (begB s) := impl_letters_ev s hs s.size 0 (by omega)
theorem spec_l13Begin_ev (s : ByteArray) (hs : s.size ≤ 1048576) : Ev (fun k => spec_l13Begin.f k s) (begB s) := by
  unfold spec_l13Begin.f
  by_cases h : s.toList = []
  · refine ev_if_pos h (ev_some ?_)
    have h0 : s.size = 0 := by
      rw [toList_data] at h
      have h1 : s.data.toList.length = 0 := by rw [h]; rfl
      rw [Array.length_toList] at h1
      exact h1
    unfold begB
    rw [h0]
    rfl
  · refine ev_if_neg h (ev_bind (spec_l9Word_ev s hs) (ev_some ?_))
    have h0 : 1 ≤ s.size := by
      rcases Nat.eq_zero_or_pos s.size with h1 | h1
      · exfalso
        apply h
        rw [toList_data]
        apply List.eq_nil_of_length_eq_zero
        rw [Array.length_toList]
        exact h1
      · exact h1
    unfold isWordB begB
    rw [decide_eq_true h0, Bool.true_and]

/-! ### the heaviest few with a beginning -/
theorem bl_asym2 (x y : List UInt8) (h : Op.bytesLess x y = true) : Op.bytesLess y x = false := by
  cases k : Op.bytesLess y x with
  | false => rfl
  | true => have := bl_trans3 x y x h k; rw [bl_irrefl] at this; cases this
theorem bl_neg2 (x y z : List UInt8) (h : Op.bytesLess x y = false) (k : Op.bytesLess y z = false) : Op.bytesLess x z = false := by
  cases hc : Op.bytesLess x z with
  | false => rfl
  | true =>
    cases h2 : Op.bytesLess y x with
    | true => have := bl_trans3 y x z h2 hc; rw [k] at this; cases this
    | false => have e := bl_total x y h h2; subst e; rw [k] at hc; cases hc
def preE (s : ByteArray) (x : S48) : Bool := if x.f0.size < s.size then false else (x.f0.extract 0 s.size).toList == s.toList
def ltE (x y : S48) : Bool := decide (y.f1 < x.f1) || ((x.f1 == y.f1) && Op.bytesLess x.f0.toList y.f0.toList)
theorem ltE_iff (x y : S48) : ltE x y = true ↔ y.f1 < x.f1 ∨ (x.f1 = y.f1 ∧ Op.bytesLess x.f0.toList y.f0.toList = true) := by
  unfold ltE
  rw [Bool.or_eq_true, Bool.and_eq_true, decide_eq_true_eq, beq_iff_eq]
theorem ltE_false (x y : S48) : ltE x y = false ↔ ¬ y.f1 < x.f1 ∧ (x.f1 = y.f1 → Op.bytesLess x.f0.toList y.f0.toList = false) := by
  rw [← Bool.not_eq_true, ltE_iff]
  constructor
  · intro h
    refine ⟨fun h1 => h (.inl h1), fun h1 => ?_⟩
    cases hb : Op.bytesLess x.f0.toList y.f0.toList with
    | false => rfl
    | true => exact absurd (.inr ⟨h1, hb⟩) h
  · rintro ⟨h1, h2⟩ (h | ⟨h, h'⟩)
    · exact h1 h
    · rw [h2 h] at h'; cases h'
theorem leE_trans (a b c : S48) (h1 : (!(ltE b a)) = true) (h2 : (!(ltE c b)) = true) : (!(ltE c a)) = true := by
  rw [Bool.not_eq_true'] at h1 h2 ⊢
  rw [ltE_false] at h1 h2 ⊢
  refine ⟨by omega, fun e => ?_⟩
  exact bl_neg2 _ _ _ (h2.2 (by omega)) (h1.2 (by omega))
theorem leE_total (a b : S48) : ((!(ltE b a)) || (!(ltE a b))) = true := by
  cases h1 : ltE b a with
  | false => rfl
  | true =>
    cases h2 : ltE a b with
    | false => rfl
    | true =>
      rw [ltE_iff] at h1 h2
      rcases h1 with h1 | ⟨h1, h1'⟩
      · rcases h2 with h2 | ⟨h2, _⟩ <;> omega
      · rcases h2 with h2 | ⟨h2, h2'⟩
        · omega
        · rw [bl_asym2 _ _ h1'] at h2'; cases h2'
theorem leE_anti (a b : S48) (h1 : (!(ltE b a)) = true) (h2 : (!(ltE a b)) = true) : a = b := by
  rw [Bool.not_eq_true'] at h1 h2
  rw [ltE_false] at h1 h2
  have e : a.f1 = b.f1 := by omega
  have e2 := toList_inj.1 (bl_total _ _ (h2.2 e) (h1.2 e.symm))
  cases a; cases b
  simp only at e e2
  rw [e, e2]
def sortE (l : List (S48)) : List (S48) := l.mergeSort fun x y => !(ltE y x)
theorem sortE_perm (l : List (S48)) : (sortE l).Perm l := List.mergeSort_perm _ _
theorem sortE_sorted (l : List (S48)) : (sortE l).Pairwise fun a b => (!(ltE b a)) = true := List.pairwise_mergeSort leE_trans leE_total l
/-- Put behind all that are as heavy. -/
def insW (x : S48) : List (S48) → List (S48)
  | [] => [x]
  | y :: l => if y.f1 ≥ x.f1 then y :: insW x l else x :: y :: l
theorem insW_perm (x : S48) : ∀ l : List (S48), (insW x l).Perm (x :: l)
  | [] => List.Perm.refl _
  | y :: l => by
    unfold insW
    split
    · exact ((insW_perm x l).cons y).trans (List.Perm.swap x y l)
    · exact List.Perm.refl _
theorem insW_sorted (x : S48) : ∀ l : List (S48), (∀ y ∈ l, Op.bytesLess y.f0.toList x.f0.toList = true) → (l.Pairwise fun a b => (!(ltE b a)) = true) → (insW x l).Pairwise fun a b => (!(ltE b a)) = true
  | [], _, _ => by simp [insW]
  | y :: l, hw, h => by
    rw [List.pairwise_cons] at h
    have hy := hw y (by simp)
    unfold insW
    by_cases hc : y.f1 ≥ x.f1
    · rw [if_pos hc, List.pairwise_cons]
      refine ⟨fun z hz => ?_, insW_sorted x l (fun z hz => hw z (by simp [hz])) h.2⟩
      rw [(insW_perm x l).mem_iff] at hz
      rcases List.mem_cons.1 hz with rfl | hz
      · rw [Bool.not_eq_true', ltE_false]
        exact ⟨by omega, fun _ => bl_asym2 _ _ hy⟩
      · exact h.1 z hz
    · rw [if_neg hc, List.pairwise_cons]
      refine ⟨fun z hz => ?_, List.pairwise_cons.2 h⟩
      have hxy : (!(ltE y x)) = true := by
        rw [Bool.not_eq_true', ltE_false]
        exact ⟨by omega, fun e => by omega⟩
      rcases List.mem_cons.1 hz with rfl | hz
      · exact hxy
      · exact leE_trans _ _ _ hxy (h.1 z hz)
def foldW (s : ByteArray) : List (S48) → List (S48) → List (S48)
  | [], out => out
  | x :: l, out => foldW s l (if preE s x = true then insW x out else out)
theorem foldW_both (s : ByteArray) : ∀ (l out : List (S48)), (∀ y ∈ out, ∀ x ∈ l, Op.bytesLess y.f0.toList x.f0.toList = true) → (l.Pairwise fun p q => Op.bytesLess p.f0.toList q.f0.toList = true) → (out.Pairwise fun a b => (!(ltE b a)) = true) →
    ((foldW s l out).Pairwise fun a b => (!(ltE b a)) = true) ∧ (foldW s l out).Perm (out ++ l.filter (preE s))
  | [], out, _, _, h => ⟨h, by simp [foldW]⟩
  | x :: l, out, hw, hp, h => by
    have hp' := List.pairwise_cons.1 hp
    unfold foldW
    by_cases hc : preE s x = true
    · rw [if_pos hc, List.filter_cons_of_pos hc]
      obtain ⟨h1, h2⟩ := foldW_both s l (insW x out) (fun y hy z hz => by
        rw [(insW_perm x out).mem_iff] at hy
        rcases List.mem_cons.1 hy with rfl | hy
        · exact hp'.1 z hz
        · exact hw y hy z (by simp [hz])) hp'.2 (insW_sorted x out (fun y hy => hw y hy x (by simp)) h)
      refine ⟨h1, h2.trans ?_⟩
      refine ((insW_perm x out).append_right _).trans ?_
      exact List.perm_middle.symm
    · rw [if_neg hc, List.filter_cons_of_neg hc]
      exact foldW_both s l out (fun y hy z hz => hw y hy z (by simp [hz])) hp'.2 h
theorem foldW_eq (s : ByteArray) (l : List (S48)) (hp : l.Pairwise fun p q => Op.bytesLess p.f0.toList q.f0.toList = true) : foldW s l [] = sortE (l.filter (preE s)) := by
  obtain ⟨h1, h2⟩ := foldW_both s l [] (fun _ h => by cases h) hp List.Pairwise.nil
  rw [List.nil_append] at h2
  exact List.Perm.eq_of_pairwise (fun a b _ _ h1 h2 => leE_anti a b h1 h2) h1 (sortE_sorted _) (h2.trans (sortE_perm _).symm)
theorem insW_length (x : S48) (l : List (S48)) : (insW x l).length = l.length + 1 := (insW_perm x l).length_eq
theorem spec_sugg_l1 (s : ByteArray) (m : Int) (l : List (S48)) (i : Nat) (hi : i < 1000) (x : S48) {R : List (S48) × Bool} : ∀ (q p : List (S48)), p.length + q.length ≤ 1000 →
    Ev (fun k => spec_Suggest.l0 k s m (p ++ insW x q) l l.length ((i + 1 : Nat) : Int)) R → Ev (fun k => spec_Suggest.l1 k s m (p ++ q) p.length l l.length i x.f0 x.f1) R
  | [], p, hl, h => by
    rw [List.append_nil]
    rw [List.length_nil] at hl
    refine Ev.step (fun k => spec_Suggest.l1.eq_2 ..) (ev_if_neg (by omega) ?_)
    simp only [Option.bind_some, List.nil_append, List.length_nil, Int.toNat_natCast, List.take_length, List.drop_length, List.length_append, List.length_singleton, List.append_nil]
    rw [wrap_succ (by omega)]
    exact ev_if_pos (by omega) (ev_if_pos (by omega) (ev_if_pos (by omega) (ev_if_pos (by omega) (ev_if_pos (by omega) h))))
  | y :: q, p, hl, h => by
    obtain ⟨hq, hx⟩ := mid_at (l := p ++ y :: q) rfl
    have hx : rd_T48 (p ++ y :: q) p.length = y := hx _
    rw [List.length_cons] at hl
    refine Ev.step (fun k => spec_Suggest.l1.eq_2 ..) (ev_if_pos (by rw [List.length_append, List.length_cons]; omega) (ev_if_pos (by omega) ?_))
    rw [hx]
    unfold insW at h
    by_cases hc : y.f1 ≥ x.f1
    · rw [if_pos hc] at h
      refine ev_if_pos hc ?_
      rw [wrap_succ (by omega)]
      have ih := spec_sugg_l1 s m l i hi x q (p ++ [y]) (by rw [List.length_append, List.length_singleton]; omega) (by rw [List.append_assoc]; exact h)
      rw [List.append_assoc, List.length_append, List.length_singleton] at ih
      exact ih
    · rw [if_neg hc] at h
      refine ev_if_neg hc ?_
      have ht : (p ++ y :: q).take p.length = p := List.take_left' rfl
      have hdr : (p ++ y :: q).drop p.length = y :: q := List.drop_left' rfl
      simp only [Option.bind_some, List.nil_append, List.length_nil, Int.toNat_natCast, ht, hdr, List.length_append, List.length_singleton, List.length_cons]
      rw [wrap_succ (by omega)]
      refine ev_if_pos (by omega) (ev_if_pos (by omega) (ev_if_pos (by omega) (ev_if_pos (by omega) ?_)))
      rw [List.append_assoc]
      exact h
theorem spec_sugg_l0 (s : ByteArray) (hs : s.size ≤ 1000) (m : Int) (hm : 1 ≤ m ∧ m ≤ 10) (l : List (S48)) (hl : l.length ≤ 20) : ∀ (rest out : List (S48)) (i : Nat), l.drop i = rest → out.length + rest.length ≤ 100 →
    Ev (fun k => spec_Suggest.l0 k s m out l l.length i) ((foldW s rest out).take m.toNat, true)
  | [], out, i, hd, hb => by
    have h := drop_nil hd
    rw [List.length_nil] at hb
    refine Ev.step (fun k => spec_Suggest.l0.eq_2 ..) (ev_if_neg (by omega) ?_)
    unfold spec_l1Least.f foldW
    simp only [Option.bind_some, List.nil_append, List.length_nil]
    by_cases hc : m < (out.length : Int)
    · rw [if_pos hc]
      simp only [Option.bind_some]
      have ht : (out.take m.toNat).length ≤ 100 := by rw [List.length_take]; omega
      exact ev_if_pos (by omega) (ev_if_pos (by omega) (ev_if_pos (by omega) (ev_some rfl)))
    · rw [if_neg hc]
      simp only [Option.bind_some, Int.toNat_natCast, List.take_length]
      refine ev_if_pos (by omega) (ev_if_pos (by omega) (ev_if_pos (by omega) (ev_some ?_)))
      rw [List.take_of_length_le (by omega)]
  | x :: rest, out, i, hd, hb => by
    obtain ⟨hi, hd', hx⟩ := drop_cons hd
    have hx : rd_T48 l i = x := hx _
    rw [List.length_cons] at hb
    refine Ev.step (fun k => spec_Suggest.l0.eq_2 ..) (ev_if_pos (by omega) (ev_if_pos (by omega) (ev_if_pos (by omega) ?_)))
    rw [hx]
    unfold foldW
    have hskip : ∀ d : Bool, d = (!(preE s x)) → Ev (fun k => spec_Suggest.j2 k s m out l l.length i d x.f0 x.f1) ((foldW s rest (if preE s x = true then insW x out else out)).take m.toNat, true) := by
      intro d hdd
      by_cases hc : preE s x = true
      · rw [hc] at hdd
        subst hdd
        rw [if_pos hc]
        refine Ev.step (fun k => spec_Suggest.j2.eq_2 ..) (ev_if_neg (by simp) ?_)
        refine spec_sugg_l1 s m l i (by omega) x out [] (by rw [List.length_nil]; omega) ?_
        rw [List.nil_append]
        exact spec_sugg_l0 s hs m hm l hl rest (insW x out) (i + 1) hd' (by rw [insW_length]; omega)
      · have hc' : preE s x = false := by simpa using hc
        rw [hc'] at hdd
        subst hdd
        rw [if_neg hc]
        refine Ev.step (fun k => spec_Suggest.j2.eq_2 ..) (ev_if_pos rfl ?_)
        rw [wrap_succ (by omega)]
        exact spec_sugg_l0 s hs m hm l hl rest out (i + 1) hd' (by omega)
    by_cases hlt : (x.f0.size : Int) < (s.size : Int)
    · exact ev_if_pos hlt (hskip true (by unfold preE; rw [if_pos (by omega)]; rfl))
    · refine ev_if_neg hlt (ev_if_pos (by omega) (ev_if_pos (by omega) ?_))
      rw [Int.toNat_natCast]
      refine hskip _ ?_
      unfold preE
      rw [if_neg (by omega)]
      rfl
theorem hasPrefix_eq (y s : ByteArray) (hy : y.size ≤ 1048576) (hs : s.size ≤ 1048576) (v : Int) : strings_HasPrefix.f y s = some (preE s ⟨y, v⟩) := by
  unfold strings_HasPrefix.f stringslite_HasPrefix.f preE
  by_cases h : y.size < s.size
  · rw [if_neg (by omega), if_pos h]; rfl
  · rw [if_pos (by omega), if_pos (by omega), if_pos (by omega), if_neg h, Int.toNat_natCast]; rfl
theorem sugg_alike (T : List (S59)) (hT : ∀ x ∈ T, x.f3.length ≤ 1048576) (s : ByteArray) (hs : s.size ≤ 1048576) (m : Int) : ∃ R, Ev (fun k => spec_Suggest.f k T s m) R ∧ Ev (fun k => impl_Suggest.f k T s m) R ∧ R.1.length ≤ 20 := by
  unfold spec_Suggest.f impl_Suggest.f
  have k1 := spec_l13Of_ev T hT
  have k2 := impl_entries_ev T hT
  by_cases hok : (ofS T).2 = true
  · obtain ⟨l, h1, rfl, h3⟩ := ofS_true hok
    rw [ofS_good h1 h3] at k1
    rw [implS_good h1 h3] at k2
    obtain ⟨hl, hp, hz⟩ := goodEs_all h1
    have b1 := spec_l13Begin_ev s hs
    have b2 := impl_areLetters_ev s hs
    by_cases hb : begB s = true
    · rw [hb] at b1 b2
      have h12 : s.size ≤ 12 := by
        unfold begB at hb
        simp only [Bool.and_eq_true, decide_eq_true_eq] at hb
        exact hb.2
      by_cases hm : 1 ≤ m ∧ m ≤ 10
      · refine ⟨((sortE (l.filter (preE s))).take m.toNat, true), ?_, ?_, ?_⟩
        · refine ev_bind k1 (ev_if_pos rfl (ev_bind b1 (ev_if_pos rfl ?_)))
          have hin : spec_l1In.f m 1 10 = some true := by
            unfold spec_l1In.f
            rw [if_pos (by omega), decide_eq_true (by omega)]
          simp only [hin, Option.bind_some]
          refine Ev.step (fun k => spec_Suggest.j0.eq_2 ..) (ev_if_neg (by simp) ?_)
          have h := spec_sugg_l0 s (by omega) m hm l hl l [] 0 rfl (by simp; omega)
          rw [foldW_eq s l hp] at h
          exact h
        · refine ev_bind k2 (ev_if_pos rfl (ev_bind b2 (ev_if_pos rfl (ev_if_pos hm ?_))))
          have hpre : ∀ x ∈ l, strings_HasPrefix.f x.f0 s = some (preE s x) := fun x hx => hasPrefix_eq x.f0 s (Nat.le_trans (hz x hx) (by decide)) hs x.f1
          refine ev_if_pos (fun x hx => by rw [hpre x hx]; rfl) (ev_fun fun k => ?_)
          have hf : (l.filter fun x => !(!(strings_HasPrefix.f x.f0 s).getD false)) = l.filter (preE s) := by
            refine List.filter_congr (fun x hx => ?_)
            rw [hpre x hx, Bool.not_not]; rfl
          rw [hf]
          have hlen : (sortE (l.filter (preE s))).length ≤ 20 := by
            rw [(sortE_perm _).length_eq]
            exact Nat.le_trans (List.length_filter_le _ _) hl
          have hso : slices_SortFunc_impl_Entry__impl_Suggest_2.f (l.filter (preE s)) = some (sortE (l.filter (preE s))) := by
            unfold slices_SortFunc_impl_Entry__impl_Suggest_2.f
            rw [if_pos (by have := List.length_filter_le (preE s) l; omega)]
            rfl
          have hcl : ∀ t : List (S48), t.length ≤ 20 → slices_Clone_impl_Entry.f t = some t := by
            intro t ht
            unfold slices_Clone_impl_Entry.f
            simp only [Option.bind_some, List.length_nil, List.nil_append]
            rw [if_pos (by omega)]
          rw [hso, Option.bind_some, hcl _ (by rw [List.length_take]; omega)]
          rfl
        · show ((sortE (l.filter (preE s))).take m.toNat).length ≤ 20
          rw [List.length_take, (sortE_perm _).length_eq]
          have := List.length_filter_le (preE s) l
          omega
      · refine ⟨([], false), ?_, ?_, by simp⟩
        · refine ev_bind k1 (ev_if_pos rfl (ev_bind b1 (ev_if_pos rfl ?_)))
          have hin : spec_l1In.f m 1 10 = some false := by
            unfold spec_l1In.f
            by_cases h : m ≥ 1
            · rw [if_pos h, decide_eq_false (by omega)]
            · rw [if_neg h]
          simp only [hin, Option.bind_some]
          exact Ev.step (fun k => spec_Suggest.j0.eq_2 ..) (ev_if_pos rfl (ev_some rfl))
        · exact ev_bind k2 (ev_if_pos rfl (ev_bind b2 (ev_if_pos rfl (ev_if_neg hm (ev_some rfl)))))
    · have hb : begB s = false := by simpa using hb
      rw [hb] at b1 b2
      refine ⟨([], false), ?_, ?_, by simp⟩
      · refine ev_bind k1 (ev_if_pos rfl (ev_bind b1 (ev_if_neg (by simp) ?_)))
        exact Ev.step (fun k => spec_Suggest.j0.eq_2 ..) (ev_if_pos rfl (ev_some rfl))
      · exact ev_bind k2 (ev_if_pos rfl (ev_bind b2 (ev_if_neg (by simp) (ev_some rfl))))
  · refine ⟨([], false), ?_, ?_, by simp⟩
    · refine ev_bind k1 (ev_if_neg hok ?_)
      exact Ev.step (fun k => spec_Suggest.j0.eq_2 ..) (ev_if_pos rfl (ev_some rfl))
    · refine ev_bind k2 ?_
      rw [legs_alike, if_neg hok]
      exact ev_if_neg (by simp) (ev_some rfl)

theorem FnExactSuggest : laws_FnExactSuggest.Pure := by
  intro l s m hw _ _
  by_cases hs : 1048576 < (s.size : Int)
  · exact ⟨0, .inl hs⟩
  obtain ⟨r, hr, hb, hall⟩ := szLegS_ev l 1048576 (by omega) (by omega) hw.1 (fun x hx => (hw.2 x hx).2.2.2.1)
  by_cases hn : r < 0
  · obtain ⟨k, hk⟩ := hr
    exact ⟨k, .inr ⟨by omega, r, hk k (Nat.le_refl _), .inl hn⟩⟩
  obtain ⟨h1, h2, h3⟩ := hall (by omega)
  have hto := toLegS_ev l h1 h3
  have h1' : (l.map toLeg).length ≤ 1048576 := by simpa using h1
  have h3' : ∀ x ∈ l.map toLeg, x.f3.length ≤ 1048576 := by
    intro x hx
    obtain ⟨y, hy, rfl⟩ := List.mem_map.1 hx
    exact h3 y hy
  have h4' : sizesG (l.map toLeg) ≤ 4194304 := by rw [sizesG_to]; omega
  revert hto h1' h3' h4'
  generalize l.map toLeg = L
  intro hto hL hK hz
  obtain ⟨B, k1, k2, hR⟩ := sugg_alike L hK s (by omega) m
  obtain ⟨G, ok⟩ := B
  have hR : G.length ≤ 20 := hR
  have eL := eqLegS_ev L hL hK
  have eG := eqEntryS_ev G (by omega)
  have mL := markLegS_ev L 1 (by omega) hL
  have mG := markEntryS_ev G 1 (by omega)
  have hG := heldEntryS_ev G.length 1 (by omega)
  obtain ⟨K0, hr⟩ := hr
  obtain ⟨K1, hto⟩ := hto
  obtain ⟨K2, k1⟩ := k1
  obtain ⟨K3, k2⟩ := k2
  obtain ⟨K4, eG⟩ := eG
  obtain ⟨K5, eL⟩ := eL
  obtain ⟨K6, mL⟩ := mL
  obtain ⟨K7, mG⟩ := mG
  obtain ⟨K8, hG⟩ := hG
  have hK : ∃ K, K0 ≤ K ∧ K1 ≤ K ∧ K2 ≤ K ∧ K3 ≤ K ∧ K4 ≤ K ∧ K5 ≤ K ∧ K6 ≤ K ∧ K7 ≤ K ∧ K8 ≤ K := ⟨K0 + K1 + K2 + K3 + K4 + K5 + K6 + K7 + K8, by omega⟩
  obtain ⟨K, b0, b1, b2, b3, b4, b5, b6, b7, b8⟩ := hK
  exact ⟨K, .inr ⟨by omega, r, hr K b0, .inr ⟨by omega, L, hto K b1, G, ok, k1 K b2, G, k2 K b3, eG K b4, eL K b5, _, _, mL K b6, by omega, _, _, mG K b7, hG K b8, by omega, by omega, trivial⟩⟩⟩

end Go.Proofs.Ytkoackkimdanjaa.Pure
