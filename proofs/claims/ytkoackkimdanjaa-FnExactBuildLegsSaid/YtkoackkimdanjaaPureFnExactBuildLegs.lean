/- The law FnExactBuildLegs holds at every input; no conditions. -/
import Derived.Test.YtkoackkimdanjaaQFnExactBuildLegsx9
import Derived.Test.YtkoackkimdanjaaBase
import Derived.OpenShut
namespace Go.Proofs.Ytkoackkimdanjaa.Pure
open Go.RowKit Go.Proofs.Ytkoackkimdanjaa.QFnExactBuildLegs Go.Proofs.YtkoackkimdanjaaW.PrintWords Go.Proofs.YtkoackkimdanjaaW.PrintLast Go.Proofs.Ytkoackkimdanjaa.Base
set_option linter.unusedSimpArgs false
set_option linter.unusedVariables false

def wf45 (x : S45) : Prop := x.f0.size ≤ 9223372036854775807 ∧ (Lit.int .i64 x.f1).wf = true
def laws_FnExactBuildLegs.Pure : Prop := ∀ (l0 : List (S45)), (l0.length ≤ 9223372036854775807 ∧ ∀ y ∈ l0, wf45 y) → ∃ k, laws_FnExactBuildLegs.Ok k l0

/-! ### lists of whole numbers: alike, marked, held -/
theorem rd_rdOf (l : List Int) (i : Int) : rd l i = rdOf 0 l i := rfl
theorem eqIntS_loop (l : List Int) (hl : l.length ≤ 1152921504606846976) : ∀ (rest : List Int) (i : Nat), l.drop i = rest → Ev (fun k => laws_eqIntS.l0 k l l i) true
  | [], i, hd => by
    have h := drop_nil hd
    exact Ev.step (fun k => laws_eqIntS.l0.eq_2 ..) (ev_if_neg (by omega) (ev_some rfl))
  | s :: rest, i, hd => by
    obtain ⟨hi, hd', hx⟩ := drop_cons hd
    refine Ev.step (fun k => laws_eqIntS.l0.eq_2 ..) (ev_if_pos (by omega) (ev_if_pos (by omega) (ev_if_pos (by omega) (ev_if_pos rfl ?_))))
    rw [wrap_succ (by omega)]
    exact eqIntS_loop l hl rest (i + 1) hd'
theorem eqIntS_ev (l : List Int) (hl : l.length ≤ 1152921504606846976) : Ev (fun k => laws_eqIntS.f k l l) true := by
  unfold laws_eqIntS.f
  exact ev_if_pos rfl (eqIntS_loop l hl l 0 rfl)
def marksI : Nat → Nat → List Int
  | 0, _ => []
  | d + 1, n => (n : Int) :: marksI d (n + 1)
theorem marksI_length : ∀ d n, (marksI d n).length = d
  | 0, _ => rfl
  | d + 1, n => by simp [marksI, marksI_length d (n + 1)]
theorem markIntS_loop : ∀ (rest pre : List Int) (n : Nat), pre.length + rest.length ≤ 1073741824 → n + rest.length ≤ 1073741824 →
    Ev (fun k => laws_markIntS.l0 k (pre ++ rest) n pre.length) (((n + rest.length : Nat) : Int), pre ++ marksI rest.length n)
  | [], pre, n, hp, hb => by
    refine Ev.step (fun k => laws_markIntS.l0.eq_2 ..) (ev_if_neg (by rw [List.append_nil]; omega) (ev_some (by simp [marksI])))
  | s :: rest, pre, n, hp, hb => by
    rw [List.length_cons] at hp hb
    refine Ev.step (fun k => laws_markIntS.l0.eq_2 ..) (ev_if_pos (by rw [List.length_append, List.length_cons]; omega) (ev_if_pos (by omega) ?_))
    rw [wrap_succ (by omega), wrap_succ (by omega), Int.toNat_natCast, set_at]
    have ih := markIntS_loop rest (pre ++ [(n : Int)]) (n + 1) (by rw [List.length_append, List.length_singleton]; omega) (by omega)
    rw [List.append_assoc, List.length_append, List.length_singleton] at ih
    refine ev_eq ih ?_
    have e2 : n + 1 + rest.length = n + (rest.length + 1) := by omega
    simp only [List.length_cons, marksI, List.append_assoc, List.singleton_append, e2]
theorem markIntS_ev (l : List Int) (n : Nat) (hb : l.length + n ≤ 1073741824) : Ev (fun k => laws_markIntS.f k l n) (((n + l.length : Nat) : Int), marksI l.length n) := by
  unfold laws_markIntS.f
  exact markIntS_loop l [] n (by show 0 + _ ≤ _; omega) (by omega)
theorem heldIntS_loop (l : List Int) (hl : l.length ≤ 1073741824) : ∀ (d n i : Nat), l.drop i = marksI d n → d + n ≤ 1073741824 → i + d = l.length →
    Ev (fun k => laws_heldIntS.l0 k l n i) ((n + d : Nat) : Int)
  | 0, n, i, hd, hb, hi => by
    exact Ev.step (fun k => laws_heldIntS.l0.eq_2 ..) (ev_if_neg (by omega) (ev_some rfl))
  | d + 1, n, i, hd, hb, hi => by
    obtain ⟨hi', hd', hx⟩ := drop_cons hd
    refine Ev.step (fun k => laws_heldIntS.l0.eq_2 ..) (ev_if_pos (by omega) (ev_if_pos (by omega) ?_))
    rw [rd_rdOf, hx, wrap_succ (by omega), wrap_succ (by omega)]
    refine ev_if_pos rfl (ev_eq (heldIntS_loop l hl d (n + 1) (i + 1) hd' (by omega) (by omega)) ?_)
    congr 1
    omega
theorem heldIntS_ev (d n : Nat) (hb : d + n ≤ 1073741824) : Ev (fun k => laws_heldIntS.f k (marksI d n) n) ((n + d : Nat) : Int) := by
  unfold laws_heldIntS.f
  exact heldIntS_loop (marksI d n) (by rw [marksI_length]; omega) d n 0 rfl hb (by rw [marksI_length]; omega)

/-! ### marks -/
def mtN : Nat → Int → ByteArray → ByteArray
  | 0, _, acc => (⟨#[109]⟩ : ByteArray) ++ acc
  | f + 1, n, acc => if n > 0 then mtN f (n / 10) (strOfNums [(48 + n % 10) % 256] ++ acc) else (⟨#[109]⟩ : ByteArray) ++ acc
def mtx (n : Int) : ByteArray := if n ≤ 0 then ⟨#[109, 48]⟩ else mtN n.toNat n ⟨#[]⟩

theorem markText_loop : ∀ (f : Nat) (n : Int) (acc : ByteArray), 0 ≤ n → n ≤ f → acc.size + f ≤ 1152921504606846976 → Ev (fun k => laws_markText.l0 k n acc) (mtN f n acc)
  | 0, n, acc, h0, h1, h2 => by
    refine Ev.step (fun k => laws_markText.l0.eq_2 ..) (ev_if_neg (by omega) (ev_if_pos (by omega) (ev_some rfl)))
  | f + 1, n, acc, h0, h1, h2 => by
    refine Ev.step (fun k => laws_markText.l0.eq_2 ..) ?_
    unfold mtN
    by_cases hn : n > 0
    · refine ev_if_pos hn ?_
      rw [if_pos hn, tmod_nn (by omega), tdiv_nn (by omega), wrap_id (x := 48 + n % 10) (by omega) (by omega), wrap_id (x := n / 10) (by omega) (by omega)]
      simp only [Option.bind_some]
      exact ev_if_pos (by rw [one_size]; omega) (markText_loop f (n / 10) _ (by omega) (by omega) (by rw [size_append, one_size]; omega))
    · rw [if_neg hn]
      exact ev_if_neg hn (ev_if_pos (by omega) (ev_some rfl))
theorem markText_ev (n : Int) (h1 : n ≤ 576460752303423488) : Ev (fun k => laws_markText.f k n) (mtx n) := by
  unfold laws_markText.f mtx
  by_cases hn : n ≤ 0
  · rw [if_pos hn]; exact ev_if_pos hn (ev_some rfl)
  · rw [if_neg hn]; exact ev_if_neg hn (markText_loop n.toNat n ⟨#[]⟩ (by omega) (by omega) (by show 0 + _ ≤ _; omega))

def marksR : Nat → Nat → List ByteArray
  | 0, _ => []
  | d + 1, n => mtx n :: marksR d (n + 1)
theorem marksR_length : ∀ d n, (marksR d n).length = d
  | 0, _ => rfl
  | d + 1, n => by simp [marksR, marksR_length d (n + 1)]

/-! ### words -/
def lettersN (s : ByteArray) : Nat → Nat → Bool
  | 0, _ => true
  | d + 1, i => (decide (97 ≤ bt s i) && decide (bt s i ≤ 122)) && lettersN s d (i + 1)

def isWordB (s : ByteArray) : Bool := lettersN s s.size 0 && (decide (1 ≤ s.size) && decide (s.size ≤ 12))

theorem spec_word_ev (s : ByteArray) (hs : s.size ≤ 1048576) : ∀ (d i : Nat), i + d = s.size → Ev (fun k => spec_l9Word.l0 k s i) (lettersN s d i && (decide (1 ≤ s.size) && decide (s.size ≤ 12)))
  | 0, i, hi => by
    refine Ev.step (fun k => spec_l9Word.l0.eq_2 ..) (ev_if_neg (by omega) (ev_fun fun k => ?_))
    simp only [spec_l1In.f, lettersN]
    by_cases h1 : 1 ≤ s.size
    · have h1' : (s.size : Int) ≥ 1 := by omega
      have h2 : ((s.size : Int) ≤ 12) = (s.size ≤ 12) := by apply propext; omega
      simp [h1, h1', h2]
    · have h1' : ¬ (s.size : Int) ≥ 1 := by omega
      simp [h1, h1']
  | d + 1, i, hi => by
    refine Ev.step (fun k => spec_l9Word.l0.eq_2 ..) (ev_if_pos (by omega) (ev_if_pos (by omega) ?_))
    by_cases h1 : bt s i < 97
    · exact ev_if_pos h1 (ev_some (by simp [lettersN, show ¬ 97 ≤ bt s i by omega]))
    · by_cases h2 : bt s i > 122
      · exact ev_if_neg h1 (ev_if_pos h2 (ev_some (by simp [lettersN, show ¬ bt s i ≤ 122 by omega])))
      · refine ev_if_neg h1 (ev_if_neg h2 ?_)
        rw [wrap_succ (by omega)]
        refine ev_eq (spec_word_ev s hs d (i + 1) (by omega)) ?_
        simp [lettersN, show 97 ≤ bt s i by omega, show bt s i ≤ 122 by omega]

theorem spec_l9Word_ev (s : ByteArray) (hs : s.size ≤ 1048576) : Ev (fun k => spec_l9Word.f k s) (isWordB s) := spec_word_ev s hs s.size 0 (by omega)

theorem impl_letters_ev (s : ByteArray) (hs : s.size ≤ 1048576) : ∀ (d i : Nat), i + d = s.size → Ev (fun k => impl_areLetters.l0 k s s.size i) (lettersN s d i && decide (s.size ≤ 12))
  | 0, i, hi => by
    refine Ev.step (fun k => impl_areLetters.l0.eq_2 ..) (ev_if_neg (by omega) (ev_fun fun k => ?_))
    have h2 : ((s.size : Int) ≤ 12) = (s.size ≤ 12) := by apply propext; omega
    simp [lettersN, h2]
  | d + 1, i, hi => by
    refine Ev.step (fun k => impl_areLetters.l0.eq_2 ..) (ev_if_pos (by omega) (ev_if_pos (by omega) (ev_if_pos (by omega) ?_)))
    unfold impl_isLetter.f
    by_cases h1 : bt s i ≥ 97
    · by_cases h2 : bt s i ≤ 122
      · simp only [h1, h2, if_true, decide_true, Option.bind_some]
        rw [wrap_succ (by omega)]
        refine ev_eq (impl_letters_ev s hs d (i + 1) (by omega)) ?_
        simp [lettersN, show 97 ≤ bt s i by omega, h2]
      · exact ev_fun fun k => by simp [lettersN, h1, h2]
    · exact ev_fun fun k => by simp [lettersN, h1]

theorem impl_isWord_ev (s : ByteArray) (hs : s.size ≤ 1048576) : Ev (fun k => impl_isWord.f k s) (isWordB s) := by
  unfold impl_isWord.f impl_areLetters.f
  by_cases h : s.toList = ([] : List UInt8)
  · have h0 := (toList_nil s).1 h
    exact ev_if_pos h (ev_some (by simp [isWordB, h0]))
  · have h0 : s.size ≠ 0 := fun h' => h ((toList_nil s).2 h')
    refine ev_if_neg h (ev_bind (impl_letters_ev s hs s.size 0 (by omega)) (ev_some ?_))
    simp [isWordB, show 1 ≤ s.size by omega]

/-! ### good entries -/
def goodE (x : S48) : Bool := isWordB x.f0 && (decide (1 ≤ x.f1) && decide (x.f1 ≤ 1000))
def chainE : Option (S48) → List (S48) → Bool
  | _, [] => true
  | none, x :: l => goodE x && chainE (some x) l
  | some p, x :: l => goodE x && (Op.bytesLess p.f0.toList x.f0.toList && chainE (some x) l)
def goodEs (l : List (S48)) : Bool := chainE none l && decide (l.length ≤ 20)

/-! ### Entry: sizes -/
theorem szEntry_ev (x : S45) (left : Int) (h0 : 0 ≤ left) (h1 : left ≤ 1048576) (hw : x.f0.size ≤ 9223372036854775807) : ∃ r, laws_szEntry.f x.f0 x.f1 left = some r ∧ r ≤ 1048576 ∧ (0 ≤ r → x.f0.size ≤ 1048576) := by
  unfold laws_szEntry.f
  have e : wrap64 (left - (x.f0.size : Int)) = left - x.f0.size := wrap_id (by omega) (by omega)
  rw [e]
  by_cases h : left - (x.f0.size : Int) < 0
  · exact ⟨-1, by rw [if_pos h], by omega, fun h => by omega⟩
  · exact ⟨_, by rw [if_neg h], by omega, fun _ => by omega⟩
theorem szEntryS_loop (l : List (S45)) (hl : l.length ≤ 1048576) (hw : ∀ x ∈ l, x.f0.size ≤ 9223372036854775807) : ∀ (rest : List (S45)) (i : Nat) (left : Int), l.drop i = rest → 0 ≤ left → left ≤ 1048576 →
    ∃ r, Ev (fun k => laws_szEntryS.l0 k l left i) r ∧ r ≤ 1048576 ∧ (0 ≤ r → ∀ x ∈ rest, x.f0.size ≤ 1048576)
  | [], i, left, hd, h0, h1 => by
    have h := drop_nil hd
    exact ⟨left, Ev.step (fun k => laws_szEntryS.l0.eq_2 ..) (ev_if_neg (by omega) (ev_some rfl)), h1, fun _ s hs => by simp at hs⟩
  | s :: rest, i, left, hd, h0, h1 => by
    obtain ⟨hi, hd', hx⟩ := drop_cons hd
    have hx : rd_T45 l i = s := hx _
    have hs : s ∈ l := List.mem_of_mem_drop (by rw [hd]; exact List.mem_cons_self)
    obtain ⟨q, hq, hq1, hq2⟩ := szEntry_ev s left h0 h1 (hw s hs)
    by_cases hn : q < 0
    · refine ⟨-1, Ev.step (fun k => laws_szEntryS.l0.eq_2 ..) (ev_if_pos (by omega) (ev_if_pos (by omega) ?_)), by omega, fun h => by omega⟩
      simp only [hx, hq, Option.bind_some]
      exact ev_if_pos hn (ev_some rfl)
    · obtain ⟨r, hr, hb, hall⟩ := szEntryS_loop l hl hw rest (i + 1) q hd' (by omega) hq1
      refine ⟨r, Ev.step (fun k => laws_szEntryS.l0.eq_2 ..) (ev_if_pos (by omega) (ev_if_pos (by omega) ?_)), hb, fun h t ht => ?_⟩
      · simp only [hx, hq, Option.bind_some]
        rw [wrap_succ (by omega)]
        exact ev_if_neg hn hr
      · rcases List.mem_cons.1 ht with rfl | ht
        · exact hq2 (by omega)
        · exact hall h t ht
theorem szEntryS_ev (l : List (S45)) (left : Int) (h0 : 0 ≤ left) (h1 : left ≤ 1048576) (hl : l.length ≤ 9223372036854775807) (hw : ∀ x ∈ l, x.f0.size ≤ 9223372036854775807) :
    ∃ r, Ev (fun k => laws_szEntryS.f k l left) r ∧ r ≤ 1048576 ∧ (0 ≤ r → l.length ≤ 1048576 ∧ ∀ x ∈ l, x.f0.size ≤ 1048576) := by
  unfold laws_szEntryS.f
  have e : wrap64 (left - (l.length : Int)) = left - l.length := wrap_id (by omega) (by omega)
  simp only [e]
  by_cases hn : left - (l.length : Int) < 0
  · exact ⟨-1, ev_if_pos hn (ev_some rfl), by omega, fun h => by omega⟩
  · obtain ⟨r, hr, hb, hall⟩ := szEntryS_loop l (by omega) hw l 0 (left - l.length) rfl (by omega) (by omega)
    exact ⟨r, ev_if_neg hn hr, hb, fun h => ⟨by omega, hall h⟩⟩

/-! ### Entry: copied -/
def toEntry (x : S45) : S48 := ⟨x.f0, x.f1⟩
theorem toEntry_eq (x : S45) : laws_toEntry.f x.f0 x.f1 = some ((toEntry x).f0, (toEntry x).f1) := rfl
theorem toEntryS_loop (l : List (S45)) (hl : l.length ≤ 1048576) : ∀ (rest : List (S45)) (pre : List (S48)) (i : Nat), l.drop i = rest → pre.length = i →
    Ev (fun k => laws_toEntryS.l0 k l (pre ++ List.replicate rest.length z48) i) (pre ++ rest.map toEntry)
  | [], pre, i, hd, hp => by
    have h := drop_nil hd
    exact Ev.step (fun k => laws_toEntryS.l0.eq_2 ..) (ev_if_neg (by omega) (ev_some rfl))
  | s :: rest, pre, i, hd, hp => by
    obtain ⟨hi, hd', hx⟩ := drop_cons hd
    have hx : rd_T45 l i = s := hx _
    refine Ev.step (fun k => laws_toEntryS.l0.eq_2 ..) (ev_if_pos (by omega) (ev_if_pos (by omega) ?_))
    simp only [hx, toEntry_eq, Option.bind_some]
    refine ev_if_pos (by rw [List.length_append, List.length_replicate, List.length_cons]; omega) ?_
    rw [wrap_succ (by omega), Int.toNat_natCast, List.length_cons, List.replicate_succ]
    subst hp
    rw [set_at]
    have := toEntryS_loop l hl rest (pre ++ [toEntry s]) (pre.length + 1) hd' (by simp)
    simpa using this
theorem toEntryS_ev (l : List (S45)) (hl : l.length ≤ 1048576) : Ev (fun k => laws_toEntryS.f k l) (l.map toEntry) := by
  unfold laws_toEntryS.f
  refine ev_if_pos (by omega) (ev_if_pos (by omega) ?_)
  rw [Int.toNat_natCast]
  exact toEntryS_loop l hl l [] 0 rfl rfl

/-! ### Entry: alike -/
theorem eqEntry_eq (x : S48) : laws_eqEntry.f x.f0 x.f1 x.f0 x.f1 = some true := by
  unfold laws_eqEntry.f
  simp
theorem eqEntryS_loop (l : List (S48)) (hl : l.length ≤ 1152921504606846976) : ∀ (rest : List (S48)) (i : Nat), l.drop i = rest → Ev (fun k => laws_eqEntryS.l0 k l l i) true
  | [], i, hd => by
    have h := drop_nil hd
    exact Ev.step (fun k => laws_eqEntryS.l0.eq_2 ..) (ev_if_neg (by omega) (ev_some rfl))
  | s :: rest, i, hd => by
    obtain ⟨hi, hd', hx⟩ := drop_cons hd
    have hx : rd_T48 l i = s := hx _
    refine Ev.step (fun k => laws_eqEntryS.l0.eq_2 ..) (ev_if_pos (by omega) (ev_if_pos (by omega) (ev_if_pos (by omega) ?_)))
    simp only [hx, eqEntry_eq, Option.bind_some]
    rw [wrap_succ (by omega)]
    exact ev_if_pos (by simp) (eqEntryS_loop l hl rest (i + 1) hd')
theorem eqEntryS_ev (l : List (S48)) (hl : l.length ≤ 1152921504606846976) : Ev (fun k => laws_eqEntryS.f k l l) true := by
  unfold laws_eqEntryS.f
  exact ev_if_pos rfl (eqEntryS_loop l hl l 0 rfl)

theorem spec_GoodEntries_loop (l : List (S48)) (hl : l.length ≤ 1048576) (hw : ∀ x ∈ l, x.f0.size ≤ 1048576) : ∀ (rest pre : List (S48)), l = pre ++ rest →
    Ev (fun k => spec_GoodEntries.l0 k l l l.length pre.length) (chainE pre.getLast? rest && decide (l.length ≤ 20))
  | [], pre, hd => by
    have e : l.length = pre.length := by rw [hd]; simp
    refine Ev.step (fun k => spec_GoodEntries.l0.eq_2 ..) (ev_if_neg (by omega) (ev_some ?_))
    have h2 : ((l.length : Int) ≤ 20) = (l.length ≤ 20) := by apply propext; omega
    cases pre.getLast? <;> simp [chainE, h2]
  | x :: rest, pre, hd => by
    obtain ⟨hi, hx⟩ := mid_at hd
    have hx : rd_T48 l pre.length = x := hx _
    have hs := hw x (by rw [hd]; simp)
    refine Ev.step (fun k => spec_GoodEntries.l0.eq_2 ..) (ev_if_pos (by omega) (ev_if_pos (by omega) (ev_if_pos (by omega) ?_)))
    rw [hx]
    refine ev_bind (spec_l9Word_ev x.f0 hs) ?_
    have ih := spec_GoodEntries_loop l hl hw rest (pre ++ [x]) (by rw [hd]; simp)
    rw [List.length_append, List.length_singleton] at ih
    simp only [List.getLast?_append, List.getLast?_singleton, Option.some_or] at ih
    by_cases h1 : isWordB x.f0 = true
    · refine ev_true h1 ?_
      unfold spec_l1In.f
      by_cases h2 : x.f1 ≥ 1
      · by_cases h3 : x.f1 ≤ 1000
        · simp only [h2, h3, if_true, decide_true, Option.bind_some]
          have hg : goodE x = true := by simp [goodE, h1, h3]; omega
          rcases nil_or_snoc pre with rfl | ⟨q, p, rfl⟩
          · refine ev_if_neg (by simp) ?_
            rw [wrap_succ (by omega)]
            refine ev_eq ih ?_
            simp [chainE, hg]
          · have hlast := last_at hd z48
            have hlast : rd_T48 l (((q ++ [p]).length : Int) - 1) = p := hlast
            have hpos : ((q ++ [p]).length : Int) > 0 := by rw [List.length_append, List.length_singleton]; omega
            rw [wrap_id (x := ((q ++ [p]).length : Int) - 1) (by omega) (by omega), hlast]
            refine ev_if_pos hpos (ev_if_pos (by omega) (ev_if_pos (by omega) ?_))
            by_cases h4 : Op.bytesLess p.f0.toList x.f0.toList = true
            · refine ev_if_pos h4 ?_
              rw [wrap_succ (by omega)]
              refine ev_eq ih ?_
              simp [chainE, hg, h4]
            · refine ev_if_neg h4 (ev_some ?_)
              simp [chainE, h4]
        · simp only [h2, h3, if_true, decide_false, Option.bind_some, if_false, Bool.false_eq_true]
          refine ev_some ?_
          rcases nil_or_snoc pre with rfl | ⟨q, p, rfl⟩ <;> simp [chainE, goodE, h3]
      · simp only [h2, if_false, Option.bind_some, Bool.false_eq_true]
        refine ev_some ?_
        have h2' : ¬ 1 ≤ x.f1 := by omega
        rcases nil_or_snoc pre with rfl | ⟨q, p, rfl⟩ <;> simp [chainE, goodE, h2']
    · refine ev_if_neg h1 (ev_some ?_)
      rcases nil_or_snoc pre with rfl | ⟨q, p, rfl⟩ <;> simp [chainE, goodE, h1]
theorem spec_GoodEntries_ev (l : List (S48)) (hl : l.length ≤ 1048576) (hw : ∀ x ∈ l, x.f0.size ≤ 1048576) : Ev (fun k => spec_GoodEntries.f k l) (goodEs l) :=
  spec_GoodEntries_loop l hl hw l [] rfl

theorem impl_isEntry_ev (x : S48) (hs : x.f0.size ≤ 1048576) : Ev (fun k => impl_isEntry.f k x.f0 x.f1) (goodE x) := by
  unfold impl_isEntry.f impl_within.f
  refine ev_bind (impl_isWord_ev x.f0 hs) ?_
  by_cases h1 : isWordB x.f0 = true
  · refine ev_true h1 (ev_fun fun _ => ?_)
    by_cases h2 : x.f1 ≥ 1
    · have h2' : 1 ≤ x.f1 := h2
      simp [goodE, h1, h2']
    · have h2' : ¬ 1 ≤ x.f1 := h2
      simp [goodE, h1, h2']
  · exact ev_if_neg h1 (ev_some (by simp [goodE, h1]))
theorem impl_GoodEntries_loop (l : List (S48)) (hl : l.length ≤ 1048576) (hw : ∀ x ∈ l, x.f0.size ≤ 1048576) : ∀ (rest pre : List (S48)), l = pre ++ rest →
    Ev (fun k => impl_GoodEntries.l0 k l l l.length pre.length) (chainE pre.getLast? rest && decide (l.length ≤ 20))
  | [], pre, hd => by
    have e : l.length = pre.length := by rw [hd]; simp
    refine Ev.step (fun k => impl_GoodEntries.l0.eq_2 ..) (ev_if_neg (by omega) (ev_some ?_))
    have h2 : ((l.length : Int) ≤ 20) = (l.length ≤ 20) := by apply propext; omega
    cases pre.getLast? <;> simp [chainE, h2]
  | x :: rest, pre, hd => by
    obtain ⟨hi, hx⟩ := mid_at hd
    have hx : rd_T48 l pre.length = x := hx _
    have hs := hw x (by rw [hd]; simp)
    refine Ev.step (fun k => impl_GoodEntries.l0.eq_2 ..) (ev_if_pos (by omega) (ev_if_pos (by omega) (ev_if_pos (by omega) ?_)))
    rw [hx]
    refine ev_bind (impl_isEntry_ev x hs) ?_
    have ih := impl_GoodEntries_loop l hl hw rest (pre ++ [x]) (by rw [hd]; simp)
    rw [List.length_append, List.length_singleton] at ih
    simp only [List.getLast?_append, List.getLast?_singleton, Option.some_or] at ih
    by_cases hg : goodE x = true
    · refine ev_true hg ?_
      rcases nil_or_snoc pre with rfl | ⟨q, p, rfl⟩
      · refine ev_if_neg (by simp) ?_
        rw [wrap_succ (by omega)]
        refine ev_eq ih ?_
        simp [chainE, hg]
      · have hlast := last_at hd z48
        have hlast : rd_T48 l (((q ++ [p]).length : Int) - 1) = p := hlast
        have hpos : ((q ++ [p]).length : Int) > 0 := by rw [List.length_append, List.length_singleton]; omega
        rw [wrap_id (x := ((q ++ [p]).length : Int) - 1) (by omega) (by omega), hlast]
        refine ev_if_pos hpos (ev_if_pos (by omega) (ev_if_pos (by omega) ?_))
        by_cases h4 : Op.bytesLess p.f0.toList x.f0.toList = true
        · refine ev_if_pos h4 ?_
          rw [wrap_succ (by omega)]
          refine ev_eq ih ?_
          simp [chainE, hg, h4]
        · refine ev_if_neg h4 (ev_some ?_)
          simp [chainE, h4]
    · refine ev_if_neg hg (ev_some ?_)
      rcases nil_or_snoc pre with rfl | ⟨q, p, rfl⟩ <;> simp [chainE, hg]
theorem impl_GoodEntries_ev (l : List (S48)) (hl : l.length ≤ 1048576) (hw : ∀ x ∈ l, x.f0.size ≤ 1048576) : Ev (fun k => impl_GoodEntries.f k l) (goodEs l) :=
  impl_GoodEntries_loop l hl hw l [] rfl

/-! ### legs -/
open Go.Proofs.Ytkoackkimdanjaa.Ext (LegGood legsF groups foldK legRest legsF_le groups_flat groups_ne groups_sub legRest_length)
theorem bl_trans3 : ∀ x y z : List UInt8, Op.bytesLess x y = true → Op.bytesLess y z = true → Op.bytesLess x z = true
  | [], [], z, h, _ => by simp [Op.bytesLess] at h
  | [], _ :: _, [], _, k => by simp [Op.bytesLess] at k
  | [], _ :: _, _ :: _, _, _ => rfl
  | _ :: _, [], _, h, _ => by simp [Op.bytesLess] at h
  | _ :: _, _ :: _, [], _, k => by simp [Op.bytesLess] at k
  | a :: x, b :: y, c :: z, h, k => by
    simp only [Op.bytesLess, Bool.or_eq_true, decide_eq_true_eq, Bool.and_eq_true, beq_iff_eq] at h k ⊢
    rcases h with h | ⟨h, h'⟩
    · rcases k with k | ⟨k, k'⟩
      · exact .inl (UInt8.lt_trans h k)
      · exact .inl (k ▸ h)
    · rcases k with k | ⟨k, k'⟩
      · exact .inl (h ▸ k)
      · exact .inr ⟨h.trans k, bl_trans3 x y z h' k'⟩
theorem chainE_all : ∀ (l : List (S48)) (p : Option (S48)), chainE p l = true → (∀ q, p = some q → ∀ x ∈ l, Op.bytesLess q.f0.data.toList x.f0.data.toList = true) ∧ (l.Pairwise fun x y => Op.bytesLess x.f0.data.toList y.f0.data.toList = true) ∧ ∀ x ∈ l, goodE x = true
  | [], _, _ => ⟨fun _ _ _ hx => absurd hx List.not_mem_nil, List.Pairwise.nil, fun _ hx => absurd hx List.not_mem_nil⟩
  | x :: l, none, h => by
    simp only [chainE, Bool.and_eq_true] at h
    obtain ⟨h1, h2, h3⟩ := chainE_all l (some x) h.2
    refine ⟨fun q hq => (by cases hq), List.pairwise_cons.2 ⟨fun y hy => h1 x rfl y hy, h2⟩, fun y hy => ?_⟩
    rcases List.mem_cons.1 hy with rfl | hy
    · exact h.1
    · exact h3 y hy
  | x :: l, some p, h => by
    simp only [chainE, Bool.and_eq_true] at h
    obtain ⟨h1, h2, h3⟩ := chainE_all l (some x) h.2.2
    have hpx : Op.bytesLess p.f0.data.toList x.f0.data.toList = true := by have := h.2.1; rwa [toList_data, toList_data] at this
    refine ⟨fun q hq y hy => ?_, List.pairwise_cons.2 ⟨fun y hy => h1 x rfl y hy, h2⟩, fun y hy => ?_⟩
    · injection hq with hq
      subst hq
      rcases List.mem_cons.1 hy with rfl | hy
      · exact hpx
      · exact bl_trans3 _ _ _ hpx (h1 x rfl y hy)
    · rcases List.mem_cons.1 hy with rfl | hy
      · exact h.1
      · exact h3 y hy
theorem goodE_size {x : S48} (h : goodE x = true) : 1 ≤ x.f0.size ∧ x.f0.size ≤ 12 := by
  simp only [goodE, isWordB, Bool.and_eq_true, decide_eq_true_eq] at h
  exact h.1.2
theorem goodEs_leg {l : List (S48)} (h : goodEs l = true) : LegGood (fun x : S48 => x.f0.data.toList) 0 l := by
  simp only [goodEs, Bool.and_eq_true, decide_eq_true_eq] at h
  obtain ⟨_, h2, h3⟩ := chainE_all l none h.1
  exact ⟨by omega, fun x hx => ⟨Nat.zero_le _, by have := (goodE_size (h3 x hx)).2; rw [Array.length_toList]; exact this⟩, fun _ _ _ _ => rfl, h2, h.2⟩
/-- All legs of entries. -/
def allLegs (l : List (S48)) : List (S59) := legsF (fun x : S48 => x.f0.data.toList) (fun x => x.f1) (fun a b c k => (⟨a, b, c, k⟩ : S59)) 13 l 0 0
theorem foldK_fst {α β : Type} (F : List α → Nat → List β) (at_ : Nat) : ∀ (gs : List (List α)) (ks : List Int) (bs : List β), (foldK F at_ gs ks bs).1.length = ks.length + gs.length
  | [], ks, bs => rfl
  | g :: gs, ks, bs => by
    unfold foldK
    rw [foldK_fst F at_ gs]
    simp
    omega
theorem foldK_mem {α β : Type} (F : List α → Nat → List β) (at_ : Nat) (x : β) : ∀ (gs : List (List α)) (ks : List Int) (bs : List β), x ∈ (foldK F at_ gs ks bs).2 → x ∈ bs ∨ ∃ g ∈ gs, ∃ a, x ∈ F g a
  | [], ks, bs, h => .inl h
  | g :: gs, ks, bs, h => by
    unfold foldK at h
    rcases foldK_mem F at_ x gs _ _ h with h | ⟨g', hg', h⟩
    · rcases List.mem_append.1 h with h | h
      · exact .inl h
      · exact .inr ⟨g, by simp, _, h⟩
    · exact .inr ⟨g', by simp [hg'], h⟩
theorem length_le_flatten {α : Type} : ∀ gs : List (List α), (∀ g ∈ gs, g ≠ []) → gs.length ≤ gs.flatten.length
  | [], _ => Nat.le_refl _
  | g :: gs, h => by
    have h1 := length_le_flatten gs (fun g' hg' => h g' (by simp [hg']))
    have h2 : 1 ≤ g.length := List.length_pos_iff.2 (h g (by simp))
    rw [List.flatten_cons, List.length_append, List.length_cons]
    omega
theorem legsF_kids : ∀ (k : Nat) (l : List (S48)) (n at_ : Nat), ∀ x ∈ legsF (fun x : S48 => x.f0.data.toList) (fun x => x.f1) (fun a b c k => (⟨a, b, c, k⟩ : S59)) k l n at_, x.f3.length ≤ l.length
  | 0, l, n, at_, x, hx => by cases hx
  | k + 1, l, n, at_, x, hx => by
    unfold legsF at hx
    have hgl := groups_flat (wd := fun x : S48 => x.f0.data.toList) n (legRest (fun x : S48 => x.f0.data.toList) n l)
    have hrl := legRest_length (wd := fun x : S48 => x.f0.data.toList) n l
    rcases List.mem_cons.1 hx with rfl | hx
    · show (foldK _ _ _ _ _).1.length ≤ _
      rw [foldK_fst]
      have h1 := length_le_flatten _ (groups_ne (wd := fun x : S48 => x.f0.data.toList) n (legRest (fun x : S48 => x.f0.data.toList) n l))
      rw [hgl] at h1
      simp
      omega
    · rcases foldK_mem _ _ x _ _ _ hx with hx | ⟨g, hg, a, hx⟩
      · cases hx
      · have h1 := legsF_kids k g (n + 1) a x hx
        have h2 := (groups_sub n _ g hg).length_le
        omega
theorem allLegs_le (l : List (S48)) : (allLegs l).length ≤ 1 + l.length * 13 := legsF_le 13 l 0 0
theorem allLegs_kids (l : List (S48)) : ∀ x ∈ allLegs l, x.f3.length ≤ l.length := legsF_kids 13 l 0 0
def buildR (l : List (S48)) : List (S59) × Bool := if goodEs l = true then (if ((allLegs l).length : Int) > 120 then ([], false) else (allLegs l, true)) else ([], false)
theorem spec_l13Build_eq {l : List (S48)} (h : goodEs l = true) : spec_l13Build.f l 0 [] = some (allLegs l) := by
  have hg := goodEs_leg h
  have hm := hg.many
  unfold spec_l13Build.f
  rw [if_pos ⟨Int.le_refl 0, hg, by simp; omega⟩]
  rfl
theorem impl_legs_eq {l : List (S48)} (h : goodEs l = true) : impl_legs.f [] l 0 = some (allLegs l) := by
  have hg := goodEs_leg h
  have hm := hg.many
  unfold impl_legs.f
  rw [if_pos ⟨Int.le_refl 0, hg, fun h => absurd h (by simp), by simp; omega⟩]
  rfl
theorem spec_BuildLegs_ev (l : List (S48)) (hl : l.length ≤ 1048576) (hw : ∀ x ∈ l, x.f0.size ≤ 1048576) : Ev (fun k => spec_BuildLegs.f k l) (buildR l) := by
  unfold spec_BuildLegs.f buildR
  refine ev_bind (spec_GoodEntries_ev l hl hw) ?_
  cases hg : goodEs l with
  | true =>
    refine ev_if_pos rfl ?_
    rw [spec_l13Build_eq hg]
    simp only [Option.bind_some]
    exact ev_ite (fun _ => ev_some rfl) (fun _ => ev_some rfl)
  | false => exact ev_if_neg (by simp) (ev_some rfl)
theorem impl_build_ev (l : List (S48)) (hl : l.length ≤ 1048576) (hw : ∀ x ∈ l, x.f0.size ≤ 1048576) : Ev (fun k => impl_build.f k l) (buildR l) := by
  unfold impl_build.f buildR
  refine ev_bind (impl_GoodEntries_ev l hl hw) ?_
  cases hg : goodEs l with
  | true =>
    refine ev_if_pos rfl ?_
    rw [impl_legs_eq hg]
    simp only [Option.bind_some]
    exact ev_ite (fun _ => ev_some rfl) (fun _ => ev_some rfl)
  | false => exact ev_if_neg (by simp) (ev_some rfl)
theorem impl_BuildLegs_ev (l : List (S48)) (hl : l.length ≤ 1048576) (hw : ∀ x ∈ l, x.f0.size ≤ 1048576) : Ev (fun k => impl_BuildLegs.f k l) (buildR l) := by
  unfold impl_BuildLegs.f
  exact ev_bind (impl_build_ev l hl hw) (ev_some rfl)
theorem buildR_small (l : List (S48)) : (buildR l).1.length ≤ 120 ∧ ∀ x ∈ (buildR l).1, x.f3.length ≤ 20 := by
  unfold buildR
  by_cases hg : goodEs l = true
  · rw [if_pos hg]
    by_cases h : ((allLegs l).length : Int) > 120
    · rw [if_pos h]; exact ⟨by simp, by simp⟩
    · rw [if_neg h]
      exact ⟨by show (allLegs l).length ≤ 120; omega, fun x hx => Nat.le_trans (allLegs_kids l x hx) (goodEs_leg hg).many⟩
  · rw [if_neg hg]; exact ⟨by simp, by simp⟩

/-! ### Leg: alike, marked, held -/
theorem eqLegS_loop (l : List (S59)) (hl : l.length ≤ 1048576) (hr : ∀ r ∈ l, r.f3.length ≤ 1048576) : ∀ (rest : List (S59)) (i : Nat), l.drop i = rest → Ev (fun k => laws_eqLegS.l0 k l l i) true
  | [], i, hd => by
    have h := drop_nil hd
    exact Ev.step (fun k => laws_eqLegS.l0.eq_2 ..) (ev_if_neg (by omega) (ev_some rfl))
  | s :: rest, i, hd => by
    obtain ⟨hi, hd', hx⟩ := drop_cons hd
    have hx : rd_T59 l i = s := hx _
    have hs : s ∈ l := by
      have : s ∈ l.drop i := by rw [hd]; simp
      exact List.mem_of_mem_drop this
    refine Ev.step (fun k => laws_eqLegS.l0.eq_2 ..) (ev_if_pos (by omega) (ev_if_pos (by omega) (ev_if_pos (by omega) ?_)))
    simp only [hx]
    refine ev_bind (a := true) ?_ (ev_if_pos rfl ?_)
    · unfold laws_eqLeg.f
      exact ev_if_pos rfl (ev_if_pos rfl (ev_if_pos rfl (ev_bind (eqIntS_ev s.f3 (by have := hr s hs; omega)) (ev_if_pos rfl (ev_some rfl)))))
    · rw [wrap_succ (by omega)]
      exact eqLegS_loop l hl hr rest (i + 1) hd'
theorem eqLegS_ev (l : List (S59)) (hl : l.length ≤ 1048576) (hr : ∀ r ∈ l, r.f3.length ≤ 1048576) : Ev (fun k => laws_eqLegS.f k l l) true := by
  unfold laws_eqLegS.f
  exact ev_if_pos rfl (eqLegS_loop l hl hr l 0 rfl)
def sizesG : List (S59) → Nat
  | [] => 0
  | x :: l => 3 + x.f3.length + sizesG l
def marksG : List (S59) → Nat → List (S59)
  | [], _ => []
  | x :: l, n => ⟨(n : Int), ((n + 1 : Nat) : Int), ((n + 2 : Nat) : Int), marksI x.f3.length (n + 3)⟩ :: marksG l (n + 3 + x.f3.length)
theorem marksG_length : ∀ (l : List (S59)) (n : Nat), (marksG l n).length = l.length
  | [], _ => rfl
  | x :: l, n => by simp [marksG, marksG_length l]
theorem markLegS_l : ∀ (l : List (S59)) (n : Nat), sizesG l + n ≤ 1073741824 → Ev (fun k => laws_markLegS.l k l n) (((n + sizesG l : Nat) : Int), marksG l n)
  | [], n, _ => ev_fun fun k => rfl
  | x :: l, n, h => by
    unfold sizesG at h
    have hL := markLegS_l l (n + 3 + x.f3.length) (by omega)
    have hx := markIntS_ev x.f3 (n + 3) (by omega)
    have w1 : wrap64 ((n : Int) + 1) = ((n + 1 : Nat) : Int) := wrap_succ (by omega)
    have w2 : wrap64 (((n + 1 : Nat) : Int) + 1) = ((n + 2 : Nat) : Int) := wrap_succ (by omega)
    have w3 : wrap64 (((n + 2 : Nat) : Int) + 1) = ((n + 3 : Nat) : Int) := wrap_succ (by omega)
    show Ev (fun k => (laws_markIntS.f k x.f3 (wrap64 (wrap64 (wrap64 ((n : Int) + 1) + 1) + 1))).bind fun p => (laws_markLegS.l k l p.1).bind fun q => some (q.1, (⟨(n : Int), wrap64 ((n : Int) + 1), wrap64 (wrap64 ((n : Int) + 1) + 1), p.2⟩ : S59) :: q.2)) _
    rw [w1, w2, w3]
    refine ev_bind hx (ev_bind hL (ev_some ?_))
    show ((((n + 3 + x.f3.length) + sizesG l : Nat) : Int), _) = _
    rw [show n + 3 + x.f3.length + sizesG l = n + sizesG (x :: l) from (show n + 3 + x.f3.length + sizesG l = n + (3 + x.f3.length + sizesG l) by omega)]
    rfl
theorem markLegS_ev (l : List (S59)) (n : Nat) (h : sizesG l + n ≤ 1073741824) (hl : l.length ≤ 1048576) : Ev (fun k => laws_markLegS.f k l n) (((n + sizesG l : Nat) : Int), marksG l n) := by
  unfold laws_markLegS.f
  exact ev_if_pos (by omega) (markLegS_l l n h)
theorem sizesG_le (m : Nat) : ∀ l : List (S59), (∀ x ∈ l, x.f3.length ≤ m) → sizesG l ≤ l.length * (3 + m)
  | [], _ => Nat.zero_le _
  | x :: l, h => by
    have h1 := h x (by simp)
    have h2 := sizesG_le m l (fun y hy => h y (by simp [hy]))
    unfold sizesG
    rw [List.length_cons, Nat.add_mul, Nat.one_mul]
    omega

theorem heldLegS_loop (L : List (S59)) (hL : L.length ≤ 1048576) : ∀ (l : List (S59)) (n i : Nat), L.drop i = marksG l n → sizesG l + n ≤ 1073741824 → i + l.length = L.length →
    Ev (fun k => laws_heldLegS.l0 k L n i) ((n + sizesG l : Nat) : Int)
  | [], n, i, hd, hb, hi => by
    simp only [List.length_nil] at hi
    exact Ev.step (fun k => laws_heldLegS.l0.eq_2 ..) (ev_if_neg (by omega) (ev_some rfl))
  | x :: l, n, i, hd, hb, hi => by
    unfold sizesG at hb
    simp only [List.length_cons] at hi
    unfold marksG at hd
    obtain ⟨hi', hd', hx⟩ := drop_cons hd
    have hx : rd_T59 L i = ⟨(n : Int), ((n + 1 : Nat) : Int), ((n + 2 : Nat) : Int), marksI x.f3.length (n + 3)⟩ := hx _
    have w1 : wrap64 ((n : Int) + 1) = ((n + 1 : Nat) : Int) := wrap_succ (by omega)
    have w2 : wrap64 (((n + 1 : Nat) : Int) + 1) = ((n + 2 : Nat) : Int) := wrap_succ (by omega)
    have w3 : wrap64 (((n + 2 : Nat) : Int) + 1) = ((n + 3 : Nat) : Int) := wrap_succ (by omega)
    refine Ev.step (fun k => laws_heldLegS.l0.eq_2 ..) (ev_if_pos (by omega) (ev_if_pos (by omega) ?_))
    simp only [hx, w1, w2, w3]
    refine ev_if_pos trivial (ev_if_pos trivial (ev_if_pos trivial (ev_bind (heldIntS_ev x.f3.length (n + 3) (by omega)) (ev_if_neg (by omega) ?_))))
    rw [wrap_succ (by omega)]
    refine ev_eq (heldLegS_loop L hL l (n + 3 + x.f3.length) (i + 1) hd' (by omega) (by omega)) ?_
    show ((n + 3 + x.f3.length + sizesG l : Nat) : Int) = ((n + (3 + x.f3.length + sizesG l) : Nat) : Int)
    congr 1
    omega
theorem heldLegS_ev (l : List (S59)) (n : Nat) (hb : sizesG l + n ≤ 1073741824) (hl : l.length ≤ 1048576) : Ev (fun k => laws_heldLegS.f k (marksG l n) n) ((n + sizesG l : Nat) : Int) := by
  unfold laws_heldLegS.f
  exact heldLegS_loop (marksG l n) (by rw [marksG_length]; exact hl) l n 0 rfl hb (by rw [marksG_length]; omega)

/-! ### Entry: marks -/
def mkEntry (n : Int) : S48 := ⟨mtx n, n + 1⟩
def marksEntry : Nat → Nat → List (S48)
  | 0, _ => []
  | d + 1, n => mkEntry n :: marksEntry d (n + 2)
theorem marksEntry_length : ∀ d n, (marksEntry d n).length = d
  | 0, _ => rfl
  | d + 1, n => by simp [marksEntry, marksEntry_length d (n + 2)]
theorem rdEntry_mid (p : List (S48)) (x : S48) (q : List (S48)) : rd_T48 (p ++ x :: q) (p.length : Int) = x := (mid_at (l := p ++ x :: q) rfl).2 _
theorem markEntryS_loop : ∀ (rest pre : List (S48)) (n : Nat), pre.length + rest.length ≤ 1073741824 → n + 2 * rest.length ≤ 1073741824 →
    Ev (fun k => laws_markEntryS.l0 k (pre ++ rest) n pre.length) (((n + 2 * rest.length : Nat) : Int), pre ++ marksEntry rest.length n)
  | [], pre, n, h1, h2 => by
    refine Ev.step (fun k => laws_markEntryS.l0.eq_2 ..) (ev_if_neg (by rw [List.append_nil]; omega) (ev_some (by simp [marksEntry])))
  | s :: rest, pre, n, h1, h2 => by
    rw [List.length_cons] at h1 h2
    have w1 : wrap64 ((n : Int) + 1) = (n : Int) + 1 := wrap_id (by omega) (by omega)
    have w2 : wrap64 ((n : Int) + 1 + 1) = ((n + 2 : Nat) : Int) := by rw [wrap_id (by omega) (by omega)]; omega
    refine Ev.step (fun k => laws_markEntryS.l0.eq_2 ..) (ev_if_pos (by rw [List.length_append, List.length_cons]; omega) (ev_bind (markText_ev n (by omega)) (ev_if_pos (by omega) ?_)))
    simp only [Option.bind_some, Int.toNat_natCast, set_at, rdEntry_mid, w1, w2]
    rw [wrap_succ (by omega)]
    have ih := markEntryS_loop rest (pre ++ [mkEntry n]) (n + 2) (by rw [List.length_append, List.length_singleton]; omega) (by omega)
    rw [List.append_assoc, List.length_append, List.length_singleton] at ih
    refine ev_eq ih ?_
    have e2 : n + 2 + 2 * rest.length = n + 2 * (rest.length + 1) := by omega
    simp only [List.length_cons, marksEntry, List.append_assoc, List.singleton_append, e2]
theorem markEntryS_ev (l : List (S48)) (n : Nat) (hb : 2 * l.length + n ≤ 1073741824) : Ev (fun k => laws_markEntryS.f k l n) (((n + 2 * l.length : Nat) : Int), marksEntry l.length n) := by
  unfold laws_markEntryS.f
  exact markEntryS_loop l [] n (by show 0 + _ ≤ _; omega) (by omega)

theorem FnExactBuildLegs : laws_FnExactBuildLegs.Pure := by
  intro l hw
  obtain ⟨r, hr, hb, hall⟩ := szEntryS_ev l 1048576 (by omega) (by omega) hw.1 (fun x hx => (hw.2 x hx).1)
  by_cases hn : r < 0
  · obtain ⟨k, hk⟩ := hr
    exact ⟨k, r, hk k (Nat.le_refl _), .inl hn⟩
  obtain ⟨h1, h2⟩ := hall (by omega)
  have hto := toEntryS_ev l h1
  have h1' : (l.map toEntry).length ≤ 1048576 := by simpa using h1
  have h2' : ∀ x ∈ l.map toEntry, x.f0.size ≤ 1048576 := by
    intro x hx
    obtain ⟨y, hy, rfl⟩ := List.mem_map.1 hx
    exact h2 y hy
  revert hto h1' h2'
  generalize l.map toEntry = L
  intro hto hL hS
  have k1 := spec_BuildLegs_ev L hL hS
  have k2 := impl_BuildLegs_ev L hL hS
  obtain ⟨q1, q2⟩ := buildR_small L
  revert k1 k2 q1 q2
  generalize buildR L = B
  obtain ⟨G, ok⟩ := B
  intro k1 k2 q1 q2
  have q1 : G.length ≤ 120 := q1
  have q2 : ∀ t ∈ G, t.f3.length ≤ 20 := q2
  have hz := sizesG_le 20 G q2
  have eG := eqLegS_ev G (by omega) (fun t ht => Nat.le_trans (q2 t ht) (by decide))
  have eL := eqEntryS_ev L (by omega)
  have mL := markEntryS_ev L 1 (by omega)
  have mG := markLegS_ev G 1 (by omega) (by omega)
  have hG := heldLegS_ev G 1 (by omega) (by omega)
  obtain ⟨K0, hr⟩ := hr
  obtain ⟨K1, hto⟩ := hto
  obtain ⟨K2, k1⟩ := k1
  obtain ⟨K3, k2⟩ := k2
  obtain ⟨K4, eG⟩ := eG
  obtain ⟨K5, eL⟩ := eL
  obtain ⟨K6, mL⟩ := mL
  obtain ⟨K7, mG⟩ := mG
  obtain ⟨K8, hG⟩ := hG
  have hK : ∃ K, K0 ≤ K ∧ K1 ≤ K ∧ K2 ≤ K ∧ K3 ≤ K ∧ K4 ≤ K ∧ K5 ≤ K ∧ K6 ≤ K ∧ K7 ≤ K ∧ K8 ≤ K := ⟨K0 + K1 + K2 + K3 + K4 + K5 + K6 + K7 + K8, by omega⟩
  obtain ⟨K, b0, b1, b2, b3, b4, b5, b6, b7, b8⟩ := hK
  exact ⟨K, r, hr K b0, .inr ⟨by omega, L, hto K b1, G, ok, k1 K b2, G, k2 K b3, eG K b4, eL K b5, _, _, mL K b6, by omega, _, _, mG K b7, hG K b8, by omega, by omega, trivial⟩⟩

end Go.Proofs.Ytkoackkimdanjaa.Pure
