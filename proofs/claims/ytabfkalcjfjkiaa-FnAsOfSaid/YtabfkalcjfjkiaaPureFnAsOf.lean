/- The law FnAsOf holds at every input; no conditions. -/
import Derived.Test.YtabfkalcjfjkiaaQFnAsOfx14
import Derived.Test.YtabfkalcjfjkiaaBase
import Derived.OpenShut
import Derived.Test.YtabfkalcjfjkiaaStable
import Derived.Test.YtabfkalcjfjkiaaMerge
namespace Go.Proofs.Ytabfkalcjfjkiaa.Pure
open Go.RowKit Go.Proofs.Ytabfkalcjfjkiaa.QFnAsOf Go.Proofs.YtabfkalcjfjkiaaW.PrintWords Go.Proofs.YtabfkalcjfjkiaaW.PrintLast Go.Proofs.Ytabfkalcjfjkiaa.Base
set_option linter.unusedSimpArgs false
set_option linter.unusedVariables false

/-! ### good versions -/
def goodK (k : ByteArray) : Bool := decide (1 ≤ k.size) && decide (k.size ≤ 12)
def goodV (x : S48) : Bool := goodK x.f0 && (decide (x.f3.size ≤ 12) && ((decide (0 ≤ x.f1) && decide (x.f1 ≤ 1000000)) && (!x.f2 || decide (x.f3.size = 0))))
def lessV (a b : S48) : Bool := Op.bytesLess a.f0.toList b.f0.toList || (decide (a.f0 = b.f0) && decide (a.f1 < b.f1))
def chainV : Option (S48) → List (S48) → Bool
  | _, [] => true
  | none, x :: l => goodV x && chainV (some x) l
  | some p, x :: l => goodV x && (lessV p x && chainV (some x) l)
def goodVsn (l : List (S48)) : Bool := chainV none l && decide (l.length ≤ 60)
theorem beq_nil_size (s : ByteArray) : (s.toList == ([] : List UInt8)) = decide (s.size = 0) := by
  by_cases h : s.size = 0
  · rw [(toList_nil s).2 h, decide_eq_true h]; rfl
  · rw [decide_eq_false h]
    cases hc : s.toList with
    | nil => exact absurd ((toList_nil s).1 hc) h
    | cons a l => rfl
theorem bne_nil_size (s : ByteArray) : (s.toList != ([] : List UInt8)) = decide (1 ≤ s.size) := by
  show (!(s.toList == ([] : List UInt8))) = _
  rw [beq_nil_size]
  by_cases h : s.size = 0
  · simp [h]
  · have : 1 ≤ s.size := by omega
    simp only [decide_eq_false h, decide_eq_true this, Bool.not_false]
theorem size_le_cast (s : ByteArray) (n : Nat) : decide ((s.size : Int) ≤ (n : Int)) = decide (s.size ≤ n) := by
  by_cases h : s.size ≤ n
  · rw [decide_eq_true h, decide_eq_true (by omega)]
  · rw [decide_eq_false h, decide_eq_false (by omega)]
theorem len_le_cast {α : Type} (l : List α) (n : Nat) : decide ((l.length : Int) ≤ (n : Int)) = decide (l.length ≤ n) := by
  by_cases h : l.length ≤ n
  · rw [decide_eq_true h, decide_eq_true (by omega)]
  · rw [decide_eq_false h, decide_eq_false (by omega)]

/-! ### comparing -/
def cmpI (a b : Int) : Int := if a < b then -1 else if a > b then 1 else 0
def cmpT (a b : ByteArray) : Int := if Op.bytesLess a.toList b.toList = true then -1 else if Op.bytesLess b.toList a.toList = true then 1 else 0
theorem cmpBytes_eq : ∀ x y : List UInt8, Lib.compareBytes x y = if Op.bytesLess x y = true then -1 else if Op.bytesLess y x = true then 1 else 0
  | [], [] => rfl
  | [], b :: y => rfl
  | a :: x, [] => rfl
  | a :: x, b :: y => by
    have ih := cmpBytes_eq x y
    by_cases h1 : a < b
    · have h3 : ¬ b < a := UInt8.lt_asymm h1
      simp [Lib.compareBytes, Op.bytesLess, h1, h3]
    · by_cases h2 : b < a
      · have h3 : b ≠ a := UInt8.ne_of_lt h2
        simp [Lib.compareBytes, Op.bytesLess, h1, h2, Ne.symm h3]
      · have h3 : a = b := UInt8.le_antisymm (UInt8.not_lt.1 h2) (UInt8.not_lt.1 h1)
        subst h3
        simp [Lib.compareBytes, Op.bytesLess, ih]
theorem cmpB_eq (a b : ByteArray) : Go.Proofs.Ytabfkalcjfjkiaa.Ext.cmpB a b = cmpT a b := by
  unfold Go.Proofs.Ytabfkalcjfjkiaa.Ext.cmpB cmpT
  rw [cmpBytes_eq, toList_data, toList_data]
theorem strings_Compare_eq (a b : ByteArray) : strings_Compare.f a b = some (cmpT a b) := by
  unfold strings_Compare.f bytealg_CompareString.f
  rw [Option.bind_some, cmpB_eq]
theorem cmp_Compare_eq (a b : Int) : cmp_Compare_int.f a b = some (cmpI a b) := by
  unfold cmp_Compare_int.f cmp_isNaN_int.f cmpI
  by_cases h1 : a < b
  · simp [h1]
  · by_cases h2 : b < a <;> simp [h1, h2]
/-- The first one that is not 0. -/
def orL : List Int → Int
  | [] => 0
  | x :: l => if x = 0 then orL l else x
theorem cmp_Or_loop (l : List Int) (hl : l.length ≤ 1000) : ∀ (rest : List Int) (i : Nat), l.drop i = rest → Ev (fun k => cmp_Or_int.l0 k 0 l l.length i) (orL rest)
  | [], i, hd => by
    have h := drop_nil hd
    exact Ev.step (fun k => cmp_Or_int.l0.eq_2 ..) (ev_if_neg (by omega) (ev_some rfl))
  | x :: rest, i, hd => by
    obtain ⟨hi, hd', hx⟩ := drop_cons hd
    have hx : rd l i = x := hx 0
    refine Ev.step (fun k => cmp_Or_int.l0.eq_2 ..) (ev_if_pos (by omega) (ev_if_pos (by omega) (ev_if_pos (by omega) ?_)))
    rw [hx, wrap_succ (by omega)]
    unfold orL
    exact ev_ite (fun _ => cmp_Or_loop l hl rest (i + 1) hd') (fun _ => ev_some rfl)
theorem cmp_Or_ev (l : List Int) (hl : l.length ≤ 1000) : Ev (fun k => cmp_Or_int.f k l) (orL l) := cmp_Or_loop l hl l 0 rfl
theorem cmpI_zero (a b : Int) : cmpI a b = 0 ↔ a = b := by
  unfold cmpI
  by_cases h1 : a < b
  · simp [h1]; omega
  · by_cases h2 : b < a
    · simp [h1, h2]; omega
    · simp [h1, h2]; omega

theorem spec_l5Pair_eq (k v : ByteArray) : spec_l5Pair.f k v = some (decide (k.size ≤ 12) && (decide (v.size ≤ 12) && decide (1 ≤ k.size))) := by
  unfold spec_l5Pair.f spec_l5Text.f
  have h1 : decide ((k.size : Int) ≤ 12) = decide (k.size ≤ 12) := size_le_cast k 12
  have h2 : decide ((v.size : Int) ≤ 12) = decide (v.size ≤ 12) := size_le_cast v 12
  simp only [bne_nil_size, h1, h2, Option.bind_some]
  cases decide (k.size ≤ 12) <;> cases decide (v.size ≤ 12) <;> simp
theorem spec_l14One_eq (x : S48) : spec_l14One.f x.f0 x.f1 x.f2 x.f3 = some (goodV x) := by
  unfold spec_l14One.f spec_l1In.f goodV goodK
  simp only [spec_l5Pair_eq, beq_nil_size, Option.bind_some]
  generalize decide (x.f0.size ≤ 12) = b1
  generalize decide (x.f3.size ≤ 12) = b2
  generalize decide (1 ≤ x.f0.size) = b3
  generalize decide (x.f3.size = 0) = b4
  generalize x.f2 = b5
  by_cases h1 : 0 ≤ x.f1
  · by_cases h2 : x.f1 ≤ 1000000 <;> cases b1 <;> cases b2 <;> cases b3 <;> cases b4 <;> cases b5 <;> simp [h1, h2]
  · cases b1 <;> cases b2 <;> cases b3 <;> cases b4 <;> cases b5 <;> simp [h1]
theorem spec_l14Less_eq (a b : S48) : spec_l14Less.f a.f0 a.f1 a.f2 a.f3 b.f0 b.f1 b.f2 b.f3 = some (lessV a b) := by
  unfold spec_l14Less.f lessV
  by_cases h1 : Op.bytesLess a.f0.toList b.f0.toList = true
  · simp [h1]
  · by_cases h2 : a.f0 = b.f0
    · have h2' : a.f0.toList = b.f0.toList := by rw [h2]
      have h1' : Op.bytesLess a.f0.toList b.f0.toList = false := by simpa using h1
      simp only [h1', h2', h2, if_true, decide_true, Bool.true_and, Bool.false_or, Bool.false_eq_true, if_false]
      have h3 : Op.bytesLess b.f0.toList b.f0.toList = false := by rw [← h2', ← h1']; rw [h2]
      simp [h3]
    · have h2' : ¬ a.f0.toList = b.f0.toList := fun h => h2 (toList_inj.1 h)
      simp [h1, h2, h2']
theorem spec_GoodVersions_loop (l : List (S48)) (hl : l.length ≤ 1048576) : ∀ (rest pre : List (S48)), l = pre ++ rest →
    Ev (fun k => spec_GoodVersions.l0 k l l l.length pre.length) (chainV pre.getLast? rest && decide (l.length ≤ 60))
  | [], pre, hd => by
    have e : l.length = pre.length := by rw [hd]; simp
    refine Ev.step (fun k => spec_GoodVersions.l0.eq_2 ..) (ev_if_neg (by omega) (ev_some ?_))
    have h2 : decide ((l.length : Int) ≤ 60) = decide (l.length ≤ 60) := len_le_cast l 60
    rw [h2]
    cases pre.getLast? <;> simp [chainV]
  | x :: rest, pre, hd => by
    obtain ⟨hi, hx⟩ := mid_at hd
    have hx : rd_T48 l pre.length = x := hx _
    refine Ev.step (fun k => spec_GoodVersions.l0.eq_2 ..) (ev_if_pos (by omega) (ev_if_pos (by omega) (ev_if_pos (by omega) ?_)))
    simp only [hx, spec_l14One_eq, Option.bind_some]
    have ih := spec_GoodVersions_loop l hl rest (pre ++ [x]) (by rw [hd]; simp)
    rw [List.length_append, List.length_singleton] at ih
    simp only [List.getLast?_append, List.getLast?_singleton, Option.some_or] at ih
    cases hg : goodV x with
    | true =>
      refine ev_if_pos rfl ?_
      rcases nil_or_snoc pre with rfl | ⟨q, p, rfl⟩
      · refine ev_if_neg (by simp) ?_
        rw [wrap_succ (by omega)]
        refine ev_eq ih ?_
        simp [chainV, hg]
      · have hlast := last_at hd z48
        have hlast : rd_T48 l (((q ++ [p]).length : Int) - 1) = p := hlast
        have hpos : ((q ++ [p]).length : Int) > 0 := by rw [List.length_append, List.length_singleton]; omega
        rw [wrap_id (x := ((q ++ [p]).length : Int) - 1) (by omega) (by omega)]
        simp only [hlast, spec_l14Less_eq, Option.bind_some]
        refine ev_if_pos hpos (ev_if_pos (by omega) (ev_if_pos (by omega) ?_))
        cases h4 : lessV p x with
        | true =>
          refine ev_if_pos rfl ?_
          rw [wrap_succ (by omega)]
          refine ev_eq ih ?_
          simp [chainV, hg, h4]
        | false =>
          refine ev_if_neg (by simp) (ev_some ?_)
          simp [chainV, h4]
    | false =>
      refine ev_if_neg (by simp) (ev_some ?_)
      rcases nil_or_snoc pre with rfl | ⟨q, p, rfl⟩ <;> simp [chainV, hg]
theorem spec_GoodVersions_ev (l : List (S48)) (hl : l.length ≤ 1048576) : Ev (fun k => spec_GoodVersions.f k l) (goodVsn l) :=
  spec_GoodVersions_loop l hl l [] rfl

theorem impl_isKey_eq (k : ByteArray) : impl_isKey.f k = some (goodK k) := by
  unfold impl_isKey.f impl_within.f goodK
  have h1 : decide ((k.size : Int) ≤ 12) = decide (k.size ≤ 12) := size_le_cast k 12
  by_cases h : 1 ≤ k.size
  · have h' : (k.size : Int) ≥ 1 := by omega
    simp only [h', if_true, h1, Option.bind_some, decide_eq_true h, Bool.true_and]
  · have h' : ¬ (k.size : Int) ≥ 1 := by omega
    simp only [h', if_false, Option.bind_some, decide_eq_false h, Bool.false_and]
theorem impl_isVersion_eq (x : S48) : impl_isVersion.f x.f0 x.f1 x.f2 x.f3 = some (goodV x) := by
  unfold impl_isVersion.f impl_within.f impl_isVal.f goodV
  have h3 : decide ((x.f3.size : Int) ≤ 12) = decide (x.f3.size ≤ 12) := size_le_cast x.f3 12
  simp only [impl_isKey_eq, beq_nil_size, h3, Option.bind_some]
  generalize goodK x.f0 = b1
  generalize decide (x.f3.size ≤ 12) = b2
  generalize decide (x.f3.size = 0) = b4
  generalize x.f2 = b5
  by_cases h1 : 0 ≤ x.f1
  · by_cases h2 : x.f1 ≤ 1000000 <;> cases b1 <;> cases b2 <;> cases b4 <;> cases b5 <;> simp [h1, h2]
  · cases b1 <;> cases b2 <;> cases b4 <;> cases b5 <;> simp [h1]
def cmpVn (a b : S48) : Int := orL [cmpT a.f0 b.f0, cmpI a.f1 b.f1]
theorem impl_compareVn_ev (a b : S48) : Ev (fun k => impl_Version_compare.f k a.f0 a.f1 a.f2 a.f3 b.f0 b.f1 b.f2 b.f3) (cmpVn a b) := by
  unfold impl_Version_compare.f
  simp only [cmp_Compare_eq, strings_Compare_eq, Option.bind_some]
  exact ev_bind (cmp_Or_ev _ (by simp)) (ev_some rfl)
theorem bl_total : ∀ x y : List UInt8, Op.bytesLess x y = false → Op.bytesLess y x = false → x = y
  | [], [], _, _ => rfl
  | [], b :: y, h, _ => by simp [Op.bytesLess] at h
  | a :: x, [], _, h => by simp [Op.bytesLess] at h
  | a :: x, b :: y, h, k => by
    simp only [Op.bytesLess, Bool.or_eq_false_iff, decide_eq_false_iff_not, Bool.and_eq_false_iff] at h k
    have e : a = b := UInt8.le_antisymm (UInt8.not_lt.1 k.1) (UInt8.not_lt.1 h.1)
    subst e
    have h2 : Op.bytesLess x y = false := by rcases h.2 with h | h; · simp at h
                                             · exact h
    have k2 : Op.bytesLess y x = false := by rcases k.2 with h | h; · simp at h
                                             · exact h
    rw [bl_total x y h2 k2]
theorem bl_irrefl : ∀ x : List UInt8, Op.bytesLess x x = false
  | [] => rfl
  | a :: x => by simp [Op.bytesLess, bl_irrefl x]
theorem cmpT_zero (a b : ByteArray) : cmpT a b = 0 ↔ a = b := by
  unfold cmpT
  by_cases h1 : Op.bytesLess a.toList b.toList = true
  · simp only [h1, if_true]
    constructor
    · intro h; cases h
    · intro h; subst h; rw [bl_irrefl] at h1; cases h1
  · by_cases h2 : Op.bytesLess b.toList a.toList = true
    · simp only [h1, h2, if_true, if_false]
      constructor
      · intro h; cases h
      · intro h; subst h; rw [bl_irrefl] at h2; cases h2
    · simp only [h1, h2, if_false, true_iff, Bool.false_eq_true]
      exact toList_inj.1 (bl_total _ _ (by simpa using h1) (by simpa using h2))
theorem cmpVn_neg (a b : S48) : (cmpVn a b ≥ 0) = (lessV a b = false) := by
  unfold cmpVn lessV
  simp only [orL]
  by_cases h0 : a.f0 = b.f0
  · have e := (cmpT_zero a.f0 b.f0).2 h0
    have hb : Op.bytesLess a.f0.toList b.f0.toList = false := by rw [h0, bl_irrefl]
    rw [if_pos e]
    unfold cmpI
    by_cases h1 : a.f1 < b.f1
    · simp [hb, h0, h1]
    · by_cases h2 : b.f1 < a.f1 <;> simp [hb, h0, h1, h2, bl_irrefl]
  · have e : ¬ cmpT a.f0 b.f0 = 0 := fun h => h0 ((cmpT_zero _ _).1 h)
    rw [if_neg e]
    unfold cmpT at e ⊢
    by_cases h1 : Op.bytesLess a.f0.toList b.f0.toList = true
    · simp [h1]
    · by_cases h2 : Op.bytesLess b.f0.toList a.f0.toList = true
      · simp [h1, h2, h0]
      · simp [h1, h2] at e
theorem impl_GoodVersions_loop (l : List (S48)) (hl : l.length ≤ 1048576) : ∀ (rest pre : List (S48)), l = pre ++ rest →
    Ev (fun k => impl_GoodVersions.l0 k l l l.length pre.length) (chainV pre.getLast? rest && decide (l.length ≤ 60))
  | [], pre, hd => by
    have e : l.length = pre.length := by rw [hd]; simp
    refine Ev.step (fun k => impl_GoodVersions.l0.eq_2 ..) (ev_if_neg (by omega) (ev_some ?_))
    have h2 : decide ((l.length : Int) ≤ 60) = decide (l.length ≤ 60) := len_le_cast l 60
    rw [h2]
    cases pre.getLast? <;> simp [chainV]
  | x :: rest, pre, hd => by
    obtain ⟨hi, hx⟩ := mid_at hd
    have hx : rd_T48 l pre.length = x := hx _
    refine Ev.step (fun k => impl_GoodVersions.l0.eq_2 ..) (ev_if_pos (by omega) (ev_if_pos (by omega) (ev_if_pos (by omega) ?_)))
    simp only [hx, impl_isVersion_eq, Option.bind_some]
    have ih := impl_GoodVersions_loop l hl rest (pre ++ [x]) (by rw [hd]; simp)
    rw [List.length_append, List.length_singleton] at ih
    simp only [List.getLast?_append, List.getLast?_singleton, Option.some_or] at ih
    cases hg : goodV x with
    | true =>
      refine ev_if_pos rfl ?_
      rcases nil_or_snoc pre with rfl | ⟨q, p, rfl⟩
      · refine ev_if_neg (by simp) ?_
        rw [wrap_succ (by omega)]
        refine ev_eq ih ?_
        simp [chainV, hg]
      · have hlast := last_at hd z48
        have hlast : rd_T48 l (((q ++ [p]).length : Int) - 1) = p := hlast
        have hpos : ((q ++ [p]).length : Int) > 0 := by rw [List.length_append, List.length_singleton]; omega
        rw [wrap_id (x := ((q ++ [p]).length : Int) - 1) (by omega) (by omega), hlast]
        refine ev_if_pos hpos (ev_if_pos (by omega) (ev_if_pos (by omega) (ev_bind (impl_compareVn_ev p x) ?_)))
        cases h4 : lessV p x with
        | true =>
          refine ev_if_neg (by rw [cmpVn_neg, h4]; simp) ?_
          rw [wrap_succ (by omega)]
          refine ev_eq ih ?_
          simp [chainV, hg, h4]
        | false =>
          refine ev_if_pos (by rw [cmpVn_neg, h4]) (ev_some ?_)
          simp [chainV, h4]
    | false =>
      refine ev_if_neg (by simp) (ev_some ?_)
      rcases nil_or_snoc pre with rfl | ⟨q, p, rfl⟩ <;> simp [chainV, hg]
theorem impl_GoodVersions_ev (l : List (S48)) (hl : l.length ≤ 1048576) : Ev (fun k => impl_GoodVersions.f k l) (goodVsn l) :=
  impl_GoodVersions_loop l hl l [] rfl

/-! ### as of a time -/
def asOfR (key : ByteArray) (at_ : Int) : ByteArray → Bool → List (S48) → ByteArray × Bool
  | t, b, [] => (t, b)
  | t, b, x :: l => if x.f0 = key ∧ x.f1 ≤ at_ then asOfR key at_ x.f3 (!x.f2) l else asOfR key at_ t b l
def asOfL (l : List (S48)) (key : ByteArray) (at_ : Int) : ByteArray × Bool := asOfR key at_ ⟨#[]⟩ false l

theorem spec_l14At_loop (key : ByteArray) (at_ : Int) (l : List (S48)) (hl : l.length ≤ 1048576) : ∀ (rest : List (S48)) (i : Nat) (t : ByteArray) (b : Bool), l.drop i = rest →
    Ev (fun k => spec_l14At.l0 k key at_ t b l l.length i) (asOfR key at_ t b rest)
  | [], i, t, b, hd => by
    have h := drop_nil hd
    exact Ev.step (fun k => spec_l14At.l0.eq_2 ..) (ev_if_neg (by omega) (ev_some rfl))
  | x :: rest, i, t, b, hd => by
    obtain ⟨hi, hd', hx⟩ := drop_cons hd
    have hx : rd_T48 l i = x := hx _
    refine Ev.step (fun k => spec_l14At.l0.eq_2 ..) (ev_if_pos (by omega) (ev_if_pos (by omega) (ev_if_pos (by omega) ?_)))
    rw [hx, wrap_succ (by omega)]
    by_cases h1 : x.f0 = key
    · refine ev_if_pos (by rw [h1]) ?_
      by_cases h2 : x.f1 ≤ at_
      · refine ev_if_pos h2 (ev_eq (spec_l14At_loop key at_ l hl rest (i + 1) _ _ hd') ?_)
        simp only [asOfR, h1, h2, and_self, if_true]
      · refine ev_if_neg h2 (ev_eq (spec_l14At_loop key at_ l hl rest (i + 1) _ _ hd') ?_)
        simp only [asOfR, h2, and_false, if_false]
    · refine ev_if_neg (fun h => h1 (toList_inj.1 h)) (ev_eq (spec_l14At_loop key at_ l hl rest (i + 1) _ _ hd') ?_)
      simp only [asOfR, h1, false_and, if_false]
theorem spec_l14At_ev (l : List (S48)) (key : ByteArray) (at_ : Int) (hl : l.length ≤ 1048576) : Ev (fun k => spec_l14At.f k l key at_) (asOfL l key at_) :=
  spec_l14At_loop key at_ l hl l 0 _ _ rfl

theorem impl_asOf_loop (key : ByteArray) (at_ : Int) (l : List (S48)) (hl : l.length ≤ 1048576) : ∀ (rest : List (S48)) (i : Nat) (t : ByteArray) (b : Bool), l.drop i = rest →
    Ev (fun k => impl_asOf.l0 k key at_ t b l l.length i) (asOfR key at_ t b rest)
  | [], i, t, b, hd => by
    have h := drop_nil hd
    exact Ev.step (fun k => impl_asOf.l0.eq_2 ..) (ev_if_neg (by omega) (ev_some rfl))
  | x :: rest, i, t, b, hd => by
    obtain ⟨hi, hd', hx⟩ := drop_cons hd
    have hx : rd_T48 l i = x := hx _
    refine Ev.step (fun k => impl_asOf.l0.eq_2 ..) (ev_if_pos (by omega) (ev_if_pos (by omega) (ev_if_pos (by omega) ?_)))
    rw [hx, wrap_succ (by omega)]
    by_cases h1 : x.f0 = key
    · refine ev_if_pos (by rw [h1]) ?_
      by_cases h2 : x.f1 ≤ at_
      · refine ev_if_pos h2 (ev_eq (impl_asOf_loop key at_ l hl rest (i + 1) _ _ hd') ?_)
        simp only [asOfR, h1, h2, and_self, if_true]
      · refine ev_if_neg h2 (ev_eq (impl_asOf_loop key at_ l hl rest (i + 1) _ _ hd') ?_)
        simp only [asOfR, h2, and_false, if_false]
    · refine ev_if_neg (fun h => h1 (toList_inj.1 h)) (ev_eq (impl_asOf_loop key at_ l hl rest (i + 1) _ _ hd') ?_)
      simp only [asOfR, h1, false_and, if_false]
theorem impl_asOf_ev (l : List (S48)) (key : ByteArray) (at_ : Int) (hl : l.length ≤ 1048576) : Ev (fun k => impl_asOf.f k l key at_) (asOfL l key at_) :=
  impl_asOf_loop key at_ l hl l 0 _ _ rfl

def goodT (n : Int) : Bool := decide (0 ≤ n) && decide (n ≤ 1000000)
theorem spec_l14Time_eq (n : Int) : spec_l14Time.f n = some (goodT n) := by
  unfold spec_l14Time.f spec_l1In.f goodT
  by_cases h : 0 ≤ n <;> simp [h]

theorem impl_isTime_eq (n : Int) : impl_isTime.f n = some (goodT n) := by
  unfold impl_isTime.f impl_within.f goodT
  by_cases h : 0 ≤ n <;> simp [h]

/-! ### keys at a time -/
theorem bl_trans : ∀ x y z : List UInt8, Op.bytesLess x y = true → Op.bytesLess y z = true → Op.bytesLess x z = true
  | [], [], z, h, _ => by simp [Op.bytesLess] at h
  | [], _ :: _, [], _, k => by simp [Op.bytesLess] at k
  | [], _ :: _, _ :: _, _, _ => rfl
  | _ :: _, [], _, h, _ => by simp [Op.bytesLess] at h
  | _ :: _, _ :: _, [], _, k => by simp [Op.bytesLess] at k
  | a :: x, b :: y, c :: z, h, k => by
    simp only [Op.bytesLess, Bool.or_eq_true, decide_eq_true_eq, Bool.and_eq_true, beq_iff_eq] at h k ⊢
    rcases h with h | ⟨h, h'⟩
    · rcases k with k | ⟨k, k'⟩
      · exact .inl (UInt8.lt_trans h k)
      · exact .inl (k ▸ h)
    · rcases k with k | ⟨k, k'⟩
      · exact .inl (h ▸ k)
      · exact .inr ⟨h.trans k, bl_trans x y z h' k'⟩
def lessB (a b : ByteArray) : Bool := Op.bytesLess a.toList b.toList
theorem lessB_trans {a b c : ByteArray} (h : lessB a b = true) (k : lessB b c = true) : lessB a c = true := bl_trans _ _ _ h k
theorem lessB_irrefl (a : ByteArray) : lessB a a = false := bl_irrefl _
theorem l5Insert_end (acc : List ByteArray) (s : ByteArray) (hl : acc.length ≤ 1048576) : spec_l5Insert.f acc acc.length s = some (acc ++ [s]) := by
  unfold spec_l5Insert.f
  simp only [Option.bind_some, Int.toNat_natCast, List.take_length, List.drop_length, List.nil_append, List.append_nil, List.length_nil, List.length_append, List.length_singleton]
  rw [if_pos (by omega), if_pos (by omega), if_pos (by omega), if_pos (by omega), if_pos (by omega)]
theorem l9Put_all (s : ByteArray) (acc : List ByteArray) (hl : acc.length ≤ 1048576) : ∀ (rest : List ByteArray) (i : Nat), acc.drop i = rest → i ≤ acc.length → (∀ y ∈ rest, lessB y s = true) →
    Ev (fun k => spec_l9Put.l0 k acc s i) (acc ++ [s])
  | [], i, hd, hi, hr => by
    have h := drop_nil hd
    have e : i = acc.length := by omega
    subst e
    refine Ev.step (fun k => spec_l9Put.l0.eq_2 ..) (ev_if_neg (by omega) ?_)
    rw [l5Insert_end acc s hl]
    exact ev_some rfl
  | x :: rest, i, hd, hi, hr => by
    obtain ⟨hi, hd', hx⟩ := drop_cons hd
    refine Ev.step (fun k => spec_l9Put.l0.eq_2 ..) (ev_if_pos (by omega) (ev_if_pos (by omega) ?_))
    rw [hx, wrap_succ (by omega)]
    exact ev_if_pos (hr x (by simp)) (l9Put_all s acc hl rest (i + 1) hd' (by omega) (fun y hy => hr y (by simp [hy])))
theorem l9Put_last (s : ByteArray) (acc : List ByteArray) (hl : acc.length ≤ 1048576) : ∀ (q : List ByteArray) (i : Nat), acc.drop i = q ++ [s] → (∀ y ∈ q, lessB y s = true) →
    Ev (fun k => spec_l9Put.l0 k acc s i) acc
  | [], i, hd, hr => by
    obtain ⟨hi, hd', hx⟩ := drop_cons hd
    refine Ev.step (fun k => spec_l9Put.l0.eq_2 ..) (ev_if_pos (by omega) (ev_if_pos (by omega) ?_))
    rw [hx]
    have e := lessB_irrefl s
    unfold lessB at e
    exact ev_if_neg (by rw [e]; simp) (ev_if_pos rfl (ev_some rfl))
  | x :: rest, i, hd, hr => by
    obtain ⟨hi, hd', hx⟩ := drop_cons hd
    refine Ev.step (fun k => spec_l9Put.l0.eq_2 ..) (ev_if_pos (by omega) (ev_if_pos (by omega) ?_))
    rw [hx, wrap_succ (by omega)]
    exact ev_if_pos (hr x (by simp)) (l9Put_last s acc hl rest (i + 1) hd' (fun y hy => hr y (by simp [hy])))

def sameKey (x : S48) : Option (S48) → Bool
  | none => false
  | some p => decide (p.f0 = x.f0)
def keysR (l : List (S48)) (at_ : Int) : Option (S48) → List ByteArray → List (S48) → List ByteArray
  | _, acc, [] => acc
  | p, acc, x :: rest => keysR l at_ (some x) (if (!sameKey x p && (asOfL l x.f0 at_).2) = true then acc ++ [x.f0] else acc) rest
theorem keysR_length (l : List (S48)) (at_ : Int) : ∀ (rest : List (S48)) (p : Option (S48)) (acc : List ByteArray), (keysR l at_ p acc rest).length ≤ acc.length + rest.length
  | [], _, acc => Nat.le_refl _
  | x :: rest, p, acc => by
    refine Nat.le_trans (keysR_length l at_ rest _ _) ?_
    split
    · rw [List.length_append, List.length_singleton, List.length_cons]; omega
    · rw [List.length_cons]; omega
def kInv (l : List (S48)) (at_ : Int) (acc : List ByteArray) : Option (S48) → Prop
  | none => acc = []
  | some p => ((asOfL l p.f0 at_).2 = true ∧ ∃ q, acc = q ++ [p.f0] ∧ ∀ y ∈ q, lessB y p.f0 = true) ∨ ((asOfL l p.f0 at_).2 = false ∧ ∀ y ∈ acc, lessB y p.f0 = true)
theorem kInv_less {l : List (S48)} {at_ : Int} {acc : List ByteArray} {p x : S48} (h : kInv l at_ acc (some p)) (hl : lessB p.f0 x.f0 = true) : ∀ y ∈ acc, lessB y x.f0 = true := by
  intro y hy
  rcases h with ⟨_, q, rfl, hq⟩ | ⟨_, hq⟩
  · rcases List.mem_append.1 hy with hy | hy
    · exact lessB_trans (hq y hy) hl
    · rw [List.mem_singleton] at hy; subst hy; exact hl
  · exact lessB_trans (hq y hy) hl
theorem spec_keys_loop (at_ : Int) (l : List (S48)) (hl : l.length ≤ 1048576) : ∀ (rest : List (S48)) (p : Option (S48)) (acc : List ByteArray) (i : Nat), l.drop i = rest → acc.length ≤ i → i ≤ l.length → chainV p rest = true → kInv l at_ acc p →
    Ev (fun k => spec_KeysAt.l0 k l at_ acc l l.length i) (keysR l at_ p acc rest, true)
  | [], p, acc, i, hd, ha, hi, hc, hv => by
    have h := drop_nil hd
    exact Ev.step (fun k => spec_KeysAt.l0.eq_2 ..) (ev_if_neg (by omega) (ev_some rfl))
  | x :: rest, p, acc, i, hd, ha, hi, hc, hv => by
    obtain ⟨hi, hd', hx⟩ := drop_cons hd
    have hx : rd_T48 l i = x := hx _
    have hc2 : chainV (some x) rest = true := by
      cases p <;> simp only [chainV, Bool.and_eq_true] at hc
      · exact hc.2
      · exact hc.2.2
    refine Ev.step (fun k => spec_KeysAt.l0.eq_2 ..) (ev_if_pos (by omega) (ev_if_pos (by omega) (ev_if_pos (by omega) (ev_bind (spec_l14At_ev l _ at_ hl) ?_))))
    rw [hx]
    have next := fun acc' (h1 : acc'.length ≤ i + 1) (h2 : kInv l at_ acc' (some x)) => spec_keys_loop at_ l hl rest (some x) acc' (i + 1) hd' h1 (by omega) hc2 h2
    have hal : acc.length ≤ 1048576 := by omega
    unfold keysR
    have hcase : (∃ p', p = some p' ∧ p'.f0 = x.f0) ∨ (sameKey x p = false ∧ ∀ y ∈ acc, lessB y x.f0 = true) := by
      cases p with
      | none => exact .inr ⟨rfl, by have : acc = [] := hv; subst this; simp⟩
      | some p =>
        by_cases e : p.f0 = x.f0
        · exact .inl ⟨p, rfl, e⟩
        · refine .inr ⟨by simp [sameKey, e], ?_⟩
          simp only [chainV, Bool.and_eq_true, lessV, Bool.or_eq_true, e, decide_false, Bool.false_and, Bool.false_eq_true, or_false] at hc
          exact kInv_less hv hc.2.1
    cases hb : (asOfL l x.f0 at_).2 with
    | false =>
      refine ev_if_neg (by simp) ?_
      rw [wrap_succ (by omega)]
      refine ev_eq (next acc (by omega) (.inr ⟨hb, ?_⟩)) (by simp)
      rcases hcase with ⟨p', rfl, e⟩ | ⟨_, h⟩
      · rcases hv with ⟨hv, _⟩ | ⟨_, hv⟩
        · rw [e, hb] at hv; cases hv
        · rw [← e]; exact hv
      · exact h
    | true =>
      refine ev_if_pos rfl ?_
      rw [wrap_succ (by omega)]
      rcases hcase with ⟨p', rfl, e⟩ | ⟨hs, h⟩
      · rcases hv with ⟨_, q, rfl, hv⟩ | ⟨hv, _⟩
        · rw [e] at hv ⊢
          have hk : sameKey x (some p') = true := by simp [sameKey, e]
          refine ev_bind (l9Put_last x.f0 (q ++ [x.f0]) (by rw [← e]; exact hal) q 0 rfl hv) (ev_eq (next _ (by rw [← e]; omega) (.inl ⟨hb, q, rfl, hv⟩)) (by simp [hk]))
        · rw [e, hb] at hv; cases hv
      · refine ev_bind (l9Put_all x.f0 acc hal acc 0 rfl (by omega) h) (ev_eq (next _ (by rw [List.length_append, List.length_singleton]; omega) (.inl ⟨hb, acc, rfl, h⟩)) (by simp [hs]))
theorem beq_toList (a b : ByteArray) : (a.toList == b.toList) = decide (a = b) := by
  by_cases h : a = b
  · subst h; simp
  · have : ¬ a.toList = b.toList := fun k => h (toList_inj.1 k)
    simp [h, this]
theorem impl_keys_j2 (at_ : Int) (l : List (S48)) (hl : l.length ≤ 1048576) (acc : List ByteArray) (i : Nat) (x : S48) (b : Bool) (R : List ByteArray × Bool) (ha : acc.length ≤ 1048576) 
    (h : Ev (fun k => impl_KeysAt.l0 k l at_ (if (!b && (asOfL l x.f0 at_).2) = true then acc ++ [x.f0] else acc) l l.length (wrap64 ((i : Int) + 1))) R) :
    Ev (fun k => impl_KeysAt.j2 k l at_ acc l l.length i b x.f0 x.f1 x.f2 x.f3) R := by
  refine Ev.step (fun k => impl_KeysAt.j2.eq_2 ..) ?_
  cases b with
  | true => exact ev_if_pos rfl h
  | false =>
    refine ev_if_neg (by simp) (ev_bind (impl_asOf_ev l _ at_ hl) ?_)
    revert h
    generalize asOfL l x.f0 at_ = q
    intro h
    obtain ⟨q1, q2⟩ := q
    cases q2 with
    | true => exact ev_if_pos rfl (ev_if_pos (by omega) h)
    | false => exact ev_if_neg (by simp) h
theorem impl_keys_loop (at_ : Int) (l : List (S48)) (hl : l.length ≤ 1048576) : ∀ (rest pre : List (S48)) (acc : List ByteArray), l = pre ++ rest → acc.length ≤ pre.length →
    Ev (fun k => impl_KeysAt.l0 k l at_ acc l l.length pre.length) (keysR l at_ pre.getLast? acc rest, true)
  | [], pre, acc, hd, ha => by
    have e : l.length = pre.length := by rw [hd]; simp
    refine Ev.step (fun k => impl_KeysAt.l0.eq_2 ..) (ev_if_neg (by omega) (ev_some ?_))
    cases pre.getLast? <;> rfl
  | x :: rest, pre, acc, hd, ha => by
    obtain ⟨hi, hx⟩ := mid_at hd
    have hx : rd_T48 l pre.length = x := hx _
    have ih := impl_keys_loop at_ l hl rest (pre ++ [x]) (if (!sameKey x pre.getLast? && (asOfL l x.f0 at_).2) = true then acc ++ [x.f0] else acc) (by rw [hd]; simp) (by split <;> simp <;> omega)
    rw [List.length_append, List.length_singleton] at ih
    simp only [List.getLast?_append, List.getLast?_singleton, Option.some_or] at ih
    have ih : Ev (fun k => impl_KeysAt.l0 k l at_ (if (!sameKey x pre.getLast? && (asOfL l x.f0 at_).2) = true then acc ++ [x.f0] else acc) l l.length (wrap64 ((pre.length : Int) + 1))) (keysR l at_ pre.getLast? acc (x :: rest), true) := by
      rw [wrap_succ (by omega)]
      exact ev_eq ih (by rw [keysR])
    have hj := impl_keys_j2 at_ l hl acc pre.length x _ _ (by omega) ih
    refine Ev.step (fun k => impl_KeysAt.l0.eq_2 ..) (ev_if_pos (by omega) (ev_if_pos (by omega) (ev_if_pos (by omega) ?_)))
    simp only [hx]
    rcases nil_or_snoc pre with rfl | ⟨q, p, rfl⟩
    · exact ev_if_neg (by simp) hj
    · have hlast := last_at hd z48
      have hlast : rd_T48 l (((q ++ [p]).length : Int) - 1) = p := hlast
      have hpos : ((q ++ [p]).length : Int) > 0 := by rw [List.length_append, List.length_singleton]; omega
      rw [wrap_id (x := ((q ++ [p]).length : Int) - 1) (by omega) (by omega)]
      simp only [hlast, beq_toList]
      have e : sameKey x (q ++ [p]).getLast? = decide (p.f0 = x.f0) := by simp [sameKey]
      rw [e] at hj
      exact ev_if_pos hpos (ev_if_pos (by omega) (ev_if_pos (by omega) hj))
def keysL (l : List (S48)) (at_ : Int) : List ByteArray × Bool := if (goodVsn l && goodT at_) = true then (keysR l at_ none [] l, true) else ([], false)
theorem spec_KeysAt_ev (at_ : Int) (l : List (S48)) (hl : l.length ≤ 1048576) : Ev (fun k => spec_KeysAt.f k l at_) (keysL l at_) := by
  unfold spec_KeysAt.f keysL
  simp only [spec_l14Time_eq, Option.bind_some]
  refine ev_bind (spec_GoodVersions_ev l hl) ?_
  cases h1 : goodVsn l with
  | false => exact ev_if_neg (by simp) (Ev.step (fun k => spec_KeysAt.j0.eq_2 ..) (ev_if_pos rfl (ev_some (by simp))))
  | true =>
    refine ev_if_pos rfl ?_
    cases h2 : goodT at_ with
    | false => exact Ev.step (fun k => spec_KeysAt.j0.eq_2 ..) (ev_if_pos rfl (ev_some (by simp)))
    | true =>
      have hc : chainV none l = true := by
        unfold goodVsn at h1
        rw [Bool.and_eq_true] at h1
        exact h1.1
      exact Ev.step (fun k => spec_KeysAt.j0.eq_2 ..) (ev_if_neg (by simp) (spec_keys_loop at_ l hl l none [] 0 rfl (Nat.le_refl _) (by omega) hc rfl))
theorem impl_KeysAt_ev (at_ : Int) (l : List (S48)) (hl : l.length ≤ 1048576) : Ev (fun k => impl_KeysAt.f k l at_) (keysL l at_) := by
  unfold impl_KeysAt.f keysL
  simp only [impl_isTime_eq, Option.bind_some]
  refine ev_bind (impl_GoodVersions_ev l hl) ?_
  cases h1 : goodVsn l with
  | false => exact ev_if_neg (by simp) (Ev.step (fun k => impl_KeysAt.j0.eq_2 ..) (ev_if_pos rfl (ev_some (by simp))))
  | true =>
    refine ev_if_pos rfl ?_
    cases h2 : goodT at_ with
    | false => exact Ev.step (fun k => impl_KeysAt.j0.eq_2 ..) (ev_if_pos rfl (ev_some (by simp)))
    | true => exact Ev.step (fun k => impl_KeysAt.j0.eq_2 ..) (ev_if_neg (by simp) (impl_keys_loop at_ l hl l [] [] rfl (Nat.le_refl _)))
theorem keysL_length (l : List (S48)) (at_ : Int) (hl : l.length ≤ 1048576) : (keysL l at_).1.length ≤ 1048576 := by
  unfold keysL
  split
  · have := keysR_length l at_ l none []
    simp only [List.length_nil] at this
    show (keysR l at_ none [] l).length ≤ _
    omega
  · exact Nat.zero_le _

/-! ### the history of a key -/
def hisR (key : ByteArray) (l : List (S48)) : List (S48) := l.filter fun x => decide (x.f0 = key)
theorem spec_history_loop (key : ByteArray) (l : List (S48)) (hl : l.length ≤ 1048576) : ∀ (rest acc : List (S48)) (i : Nat), l.drop i = rest → acc.length ≤ i → i ≤ l.length →
    Ev (fun k => spec_HistoryOf.l0 k key acc l l.length i) (acc ++ hisR key rest, true)
  | [], acc, i, hd, ha, hi => by
    have h := drop_nil hd
    exact Ev.step (fun k => spec_HistoryOf.l0.eq_2 ..) (ev_if_neg (by omega) (ev_some (by simp [hisR])))
  | x :: rest, acc, i, hd, ha, hi => by
    obtain ⟨hi, hd', hx⟩ := drop_cons hd
    have hx : rd_T48 l i = x := hx _
    refine Ev.step (fun k => spec_HistoryOf.l0.eq_2 ..) (ev_if_pos (by omega) (ev_if_pos (by omega) (ev_if_pos (by omega) ?_)))
    rw [hx, wrap_succ (by omega)]
    by_cases h : x.f0 = key
    · refine ev_if_pos (by rw [h]) (ev_if_pos (by omega) (ev_eq (spec_history_loop key l hl rest (acc ++ [x]) (i + 1) hd' (by rw [List.length_append, List.length_singleton]; omega) (by omega)) ?_))
      simp [hisR, h]
    · refine ev_if_neg (fun k => h (toList_inj.1 k)) (ev_eq (spec_history_loop key l hl rest acc (i + 1) hd' (by omega) (by omega)) ?_)
      simp [hisR, h]
theorem impl_history_loop (key : ByteArray) (l : List (S48)) (hl : l.length ≤ 1048576) : ∀ (rest acc : List (S48)) (i : Nat), l.drop i = rest → acc.length ≤ i → i ≤ l.length →
    Ev (fun k => impl_only__impl_HistoryOf_1.l0 k acc l l.length i key) (acc ++ hisR key rest)
  | [], acc, i, hd, ha, hi => by
    have h := drop_nil hd
    exact Ev.step (fun k => impl_only__impl_HistoryOf_1.l0.eq_2 ..) (ev_if_neg (by omega) (ev_some (by simp [hisR])))
  | x :: rest, acc, i, hd, ha, hi => by
    obtain ⟨hi, hd', hx⟩ := drop_cons hd
    have hx : rd_T48 l i = x := hx _
    refine Ev.step (fun k => impl_only__impl_HistoryOf_1.l0.eq_2 ..) (ev_if_pos (by omega) (ev_if_pos (by omega) (ev_if_pos (by omega) ?_)))
    rw [hx, wrap_succ (by omega)]
    simp only [impl_HistoryOf_1.f, Option.bind_some, beq_toList]
    by_cases h : x.f0 = key
    · refine ev_if_pos (by simp [h]) (ev_if_pos (by omega) (ev_eq (impl_history_loop key l hl rest (acc ++ [x]) (i + 1) hd' (by rw [List.length_append, List.length_singleton]; omega) (by omega)) ?_))
      simp [hisR, h]
    · refine ev_if_neg (by simp [h]) (ev_eq (impl_history_loop key l hl rest acc (i + 1) hd' (by omega) (by omega)) ?_)
      simp [hisR, h]
def hisL (l : List (S48)) (key : ByteArray) : List (S48) × Bool := if (goodVsn l && goodK key) = true then (hisR key l, true) else ([], false)
theorem goodK_alt (key : ByteArray) : (decide (key.size ≤ 12) && (decide ((⟨#[]⟩ : ByteArray).size ≤ 12) && decide (1 ≤ key.size))) = goodK key := by
  have : decide ((⟨#[]⟩ : ByteArray).size ≤ 12) = true := rfl
  rw [this, Bool.true_and, Bool.and_comm]; rfl
theorem spec_HistoryOf_ev (key : ByteArray) (l : List (S48)) (hl : l.length ≤ 1048576) : Ev (fun k => spec_HistoryOf.f k l key) (hisL l key) := by
  unfold spec_HistoryOf.f hisL
  simp only [spec_l5Pair_eq, goodK_alt, Option.bind_some]
  refine ev_bind (spec_GoodVersions_ev l hl) ?_
  cases h1 : goodVsn l with
  | false => exact ev_if_neg (by simp) (Ev.step (fun k => spec_HistoryOf.j0.eq_2 ..) (ev_if_pos rfl (ev_some (by simp))))
  | true =>
    refine ev_if_pos rfl ?_
    cases h2 : goodK key with
    | false => exact Ev.step (fun k => spec_HistoryOf.j0.eq_2 ..) (ev_if_pos rfl (ev_some (by simp)))
    | true => exact Ev.step (fun k => spec_HistoryOf.j0.eq_2 ..) (ev_if_neg (by simp) (spec_history_loop key l hl l [] 0 rfl (Nat.le_refl _) (by omega)))
theorem impl_HistoryOf_ev (key : ByteArray) (l : List (S48)) (hl : l.length ≤ 1048576) : Ev (fun k => impl_HistoryOf.f k l key) (hisL l key) := by
  unfold impl_HistoryOf.f hisL
  simp only [impl_isKey_eq, Option.bind_some]
  refine ev_bind (impl_GoodVersions_ev l hl) ?_
  cases h1 : goodVsn l with
  | false => exact ev_if_neg (by simp) (ev_some (by simp))
  | true =>
    refine ev_if_pos rfl ?_
    cases h2 : goodK key with
    | false => exact ev_if_neg (by simp) (ev_some (by simp))
    | true =>
      refine ev_if_pos rfl (ev_bind ?_ (ev_some rfl))
      unfold impl_only__impl_HistoryOf_1.f
      exact impl_history_loop key l hl l [] 0 rfl (Nat.le_refl _) (by omega)
theorem hisL_length (l : List (S48)) (key : ByteArray) (hl : l.length ≤ 1048576) : (hisL l key).1.length ≤ 1048576 := by
  unfold hisL
  split
  · exact Nat.le_trans (List.length_filter_le _ _) hl
  · exact Nat.zero_le _

/-! ### by key and time -/
theorem bl_asym (x y : List UInt8) (h : Op.bytesLess x y = true) : Op.bytesLess y x = false := by
  cases k : Op.bytesLess y x with
  | false => rfl
  | true => have := bl_trans x y x h k; rw [bl_irrefl] at this; cases this
theorem bl_neg (x y z : List UInt8) (h : Op.bytesLess x y = false) (k : Op.bytesLess y z = false) : Op.bytesLess x z = false := by
  cases hc : Op.bytesLess x z with
  | false => rfl
  | true =>
    cases h2 : Op.bytesLess y x with
    | true => have := bl_trans y x z h2 hc; rw [k] at this; cases this
    | false => have e := bl_total x y h h2; subst e; rw [k] at hc; cases hc
open Go.Proofs.Ytabfkalcjfjkiaa.Stable in
theorem lessV_weak : Weak lessV where
  asym := fun x y h => by
    simp only [lessV, Bool.or_eq_true, Bool.and_eq_true, decide_eq_true_eq, Bool.or_eq_false_iff, Bool.and_eq_false_iff, decide_eq_false_iff_not] at h ⊢
    rcases h with h | ⟨h1, h2⟩
    · refine ⟨bl_asym _ _ h, .inl (fun e => ?_)⟩
      rw [e, bl_irrefl] at h; cases h
    · rw [h1, bl_irrefl]
      exact ⟨rfl, .inr (by omega)⟩
  neg := fun x y z h k => by
    simp only [lessV, Bool.or_eq_false_iff, Bool.and_eq_false_iff, decide_eq_false_iff_not] at h k ⊢
    refine ⟨bl_neg _ _ _ h.1 k.1, ?_⟩
    by_cases e : x.f0 = z.f0
    · right
      by_cases e2 : x.f0 = y.f0
      · have e3 : y.f0 = z.f0 := e2.symm.trans e
        rcases h.2 with h2 | h2
        · exact absurd e2 h2
        · rcases k.2 with k2 | k2
          · exact absurd e3 k2
          · omega
      · exfalso
        apply e2
        have k1 := k.1
        rw [← e] at k1
        exact toList_inj.1 (bl_total _ _ h.1 k1)
    · exact .inl e
theorem cmp_ev (x y : S48) : ∃ r, Ev (fun k => impl_Version_compare.f k x.f0 x.f1 x.f2 x.f3 y.f0 y.f1 y.f2 y.f3) r ∧ decide (r < 0) = lessV x y := by
  refine ⟨_, impl_compareVn_ev x y, ?_⟩
  have h := cmpVn_neg x y
  cases hc : lessV x y with
  | true =>
    rw [hc] at h
    rw [decide_eq_true_eq]
    by_cases hn : cmpVn x y < 0
    · exact hn
    · exact absurd (h.mp (by omega)) (by simp)
  | false =>
    rw [hc] at h
    rw [decide_eq_false_iff_not]
    have := h.mpr rfl
    omega

/-! ### one version put in its place -/
open Go.Proofs.Ytabfkalcjfjkiaa.Stable Go.Proofs.Ytabfkalcjfjkiaa.Merge
instance : DecidableEq (S48) := fun a b => decidable_of_iff (a.f0 = b.f0 ∧ a.f1 = b.f1 ∧ a.f2 = b.f2 ∧ a.f3 = b.f3) (by
  cases a; cases b; simp)
theorem eqb (a b : S48) : ((a.f0.toList == b.f0.toList) && ((a.f1 == b.f1) && ((a.f2 == b.f2) && (a.f3.toList == b.f3.toList)))) = decide (a = b) := by
  by_cases h : a = b
  · subst h; simp
  · rw [decide_eq_false h]
    cases hc : ((a.f0.toList == b.f0.toList) && ((a.f1 == b.f1) && ((a.f2 == b.f2) && (a.f3.toList == b.f3.toList)))) with
    | false => rfl
    | true =>
      exfalso
      apply h
      simp only [Bool.and_eq_true, beq_iff_eq] at hc
      obtain ⟨h0, h1, h2, h3⟩ := hc
      cases a; cases b
      simp only at h0 h1 h2 h3
      rw [toList_inj.1 h0, h1, h2, toList_inj.1 h3]
theorem chainV_some : ∀ (l : List (S48)) (p : S48), chainV (some p) l = true ↔ (∀ x ∈ l, goodV x = true) ∧ Strict lessV (p :: l)
  | [], p => by simp [chainV, Strict]
  | x :: l, p => by
    have ih := chainV_some l x
    unfold chainV
    rw [Bool.and_eq_true, Bool.and_eq_true, ih]
    unfold Strict
    constructor
    · rintro ⟨h1, h2, h3, h4⟩
      refine ⟨fun z hz => ?_, ?_⟩
      · rcases List.mem_cons.1 hz with rfl | hz
        · exact h1
        · exact h3 z hz
      · rw [List.pairwise_cons]
        refine ⟨fun z hz => ?_, h4⟩
        rcases List.mem_cons.1 hz with rfl | hz
        · exact h2
        · rw [List.pairwise_cons] at h4
          exact lessV_weak.trans h2 (h4.1 z hz)
    · rintro ⟨h1, h2⟩
      rw [List.pairwise_cons] at h2
      exact ⟨h1 x (by simp), h2.1 x (by simp), fun z hz => h1 z (by simp [hz]), h2.2⟩
theorem chainV_none (l : List (S48)) : chainV none l = true ↔ (∀ x ∈ l, goodV x = true) ∧ Strict lessV l := by
  cases l with
  | nil => simp [chainV, Strict]
  | cons x l =>
    unfold chainV
    rw [Bool.and_eq_true, chainV_some]
    constructor
    · rintro ⟨h1, h2, h3⟩
      refine ⟨fun z hz => ?_, h3⟩
      rcases List.mem_cons.1 hz with rfl | hz
      · exact h1
      · exact h2 z hz
    · rintro ⟨h1, h2⟩
      exact ⟨h1 x (by simp), fun z hz => h1 z (by simp [hz]), h2⟩
theorem goodVsn_len {l : List (S48)} (h : goodVsn l = true) : l.length ≤ 60 := by
  simp only [goodVsn, Bool.and_eq_true, decide_eq_true_eq] at h
  exact h.2
theorem spec_put_loop (l : List (S48)) (hl : l.length ≤ 1048576) (x : S48) : ∀ (rest pre : List (S48)), l = pre ++ rest →
    Ev (fun k => spec_l14Put.l0 k l pre.length x.f0 x.f1 x.f2 x.f3) (match put lessV x rest with | some c => (pre ++ c, true) | none => (l, false))
  | [], pre, hd => by
    have e : l.length = pre.length := by rw [hd, List.append_nil]
    have e2 : l = pre := by rw [hd, List.append_nil]
    subst e2
    refine Ev.step (fun k => spec_l14Put.l0.eq_2 ..) (ev_if_neg (by omega) ?_)
    simp only [Option.bind_some, Int.toNat_natCast, List.take_length, List.drop_length, List.nil_append, List.length_nil, List.length_append, List.length_singleton, List.append_nil]
    refine ev_if_pos (by omega) (ev_if_pos (by omega) (ev_if_pos (by omega) (ev_if_pos (by omega) (ev_if_pos (by omega) (ev_some ?_)))))
    rfl
  | y :: rest, pre, hd => by
    obtain ⟨hi, hx⟩ := mid_at hd
    have hx : rd_T48 l pre.length = y := hx _
    refine Ev.step (fun k => spec_l14Put.l0.eq_2 ..) (ev_if_pos (by omega) (ev_if_pos (by omega) ?_))
    have e1 := spec_l14Less_eq y x
    have e2 := spec_l14Less_eq x y
    simp only [hx, e1, e2, Option.bind_some]
    unfold put
    by_cases h1 : lessV y x = true
    · refine ev_if_pos h1 ?_
      rw [wrap_succ (by omega)]
      have ih := spec_put_loop l hl x rest (pre ++ [y]) (by rw [hd]; simp)
      rw [List.length_append, List.length_singleton] at ih
      refine ev_eq ih ?_
      rw [if_pos h1]
      cases put lessV x rest <;> simp
    · refine ev_if_neg h1 ?_
      by_cases h2 : lessV x y = true
      · refine ev_if_pos h2 ?_
        have hlen : l.length = pre.length + (rest.length + 1) := by rw [hd]; simp
        have htake : l.take pre.length = pre := by rw [hd]; exact List.take_left' rfl
        have hdrop : l.drop pre.length = y :: rest := by rw [hd]; exact List.drop_left' rfl
        simp only [Option.bind_some, Int.toNat_natCast, htake, hdrop, List.nil_append, List.length_nil, List.length_append, List.length_singleton, List.length_cons]
        refine ev_if_pos (by omega) (ev_if_pos (by omega) (ev_if_pos (by omega) (ev_if_pos (by omega) (ev_some ?_))))
        rw [if_neg h1, if_pos h2]
        simp
      · refine ev_if_neg h2 (ev_some ?_)
        have e3 := eqb y x
        show (l, _) = _
        rw [e3, if_neg h1, if_neg h2]
        by_cases h3 : y = x
        · rw [if_pos h3, decide_eq_true h3, hd]
        · rw [if_neg h3, decide_eq_false h3]
theorem put_length (x : S48) : ∀ (l c : List (S48)), put lessV x l = some c → c.length ≤ l.length + 1
  | [], c, h => by injection h with h; subst h; simp
  | y :: l, c, h => by
    unfold put at h
    split at h
    · obtain ⟨c', hc', rfl⟩ := Option.map_eq_some_iff.1 h
      have := put_length x l c' hc'
      simp only [List.length_cons]; omega
    · split at h
      · injection h with h; subst h; simp
      · split at h
        · injection h with h; subst h; simp
        · cases h

theorem half_eq {i j : Nat} (h : i + j ≤ 4194304) : wrap64 ((IntKind.u64.wrap (wrap64 ((i : Int) + (j : Int)))) / 2) = (((i + j) / 2 : Nat) : Int) := by
  rw [wrap_id (x := (i : Int) + j) (by omega) (by omega)]
  have e : IntKind.u64.wrap ((i : Int) + (j : Int)) = (i : Int) + j := by
    simp [IntKind.wrap, IntKind.bits, IntKind.signed]
    omega
  rw [e, wrap_id (by omega) (by omega)]
  omega
theorem rdV_get (l : List (S48)) (i : Nat) (h : i < l.length) : rd_T48 l (i : Int) = l[i] := by
  unfold rd_T48
  rw [Int.toNat_natCast, List.getD_eq_getElem?_getD, List.getElem?_eq_getElem h]; rfl
theorem cmpVn_zero (x y : S48) : (cmpVn x y == 0) = (!lessV x y && !lessV y x) := by
  have hl : lessV x y = decide (cmpVn x y < 0) := by
    have h := cmpVn_neg x y
    cases hc : lessV x y with
    | true =>
      rw [hc] at h
      symm
      rw [decide_eq_true_eq]
      by_cases hn : cmpVn x y < 0
      · exact hn
      · exact absurd (h.mp (by omega)) (by simp)
    | false =>
      rw [hc] at h
      symm
      rw [decide_eq_false_iff_not]
      have := h.mpr rfl
      omega
  by_cases h0 : cmpVn x y = 0
  · have e1 : lessV x y = false := by rw [hl, h0]; rfl
    have e2 : lessV y x = false := by
      unfold cmpVn orL at h0
      split at h0
      · rename_i h1
        have h1 := (cmpT_zero _ _).1 h1
        unfold orL at h0
        split at h0
        · rename_i h2
          have h2 := (cmpI_zero _ _).1 h2
          unfold lessV
          rw [h1, bl_irrefl]
          simp only [Bool.false_or, Bool.and_eq_false_iff, decide_eq_false_iff_not]
          exact .inr (by omega)
        · rename_i h2; exact absurd h0 h2
      · rename_i h1; exact absurd h0 h1
    rw [h0, e1, e2]; rfl
  · have e0 : (cmpVn x y == 0) = false := by simpa using h0
    rw [e0]
    cases h1 : lessV x y with
    | true => rfl
    | false =>
      cases h2 : lessV y x with
      | true => rfl
      | false =>
        exfalso
        apply h0
        simp only [lessV, Bool.or_eq_false_iff, Bool.and_eq_false_iff, decide_eq_false_iff_not] at h1 h2
        have e := bl_total _ _ h1.1 h2.1
        have e := toList_inj.1 e
        have e3 : x.f1 = y.f1 := by
          rcases h1.2 with a | a
          · exact absurd e a
          · rcases h2.2 with b | b
            · exact absurd e.symm b
            · omega
        unfold cmpVn orL
        rw [if_pos ((cmpT_zero _ _).2 e)]
        unfold orL
        rw [if_pos ((cmpI_zero _ _).2 e3)]; rfl
/-- The search by halves, where `p` is the place. -/
theorem bsV_loop (l : List (S48)) (x : S48) (hl : l.length ≤ 1000) (p : Nat) (hp : p ≤ l.length) (hlt : ∀ (i : Nat) (h : i < l.length), lessV l[i] x = decide (i < p)) : ∀ (n i j : Nat), j - i = n → i ≤ p → p ≤ j → j ≤ l.length →
    Ev (fun k => slices_BinarySearchFunc_impl_Version__impl_Version_compare.l0 k l l.length i j x.f0 x.f1 x.f2 x.f3) ((p : Int), if h : p < l.length then !lessV x l[p] else false) := by
  intro n
  induction n using Nat.strongRecOn with
  | ind n ih =>
    intro i j hn hi hj hjl
    refine Ev.step (fun k => slices_BinarySearchFunc_impl_Version__impl_Version_compare.l0.eq_2 ..) ?_
    by_cases hij : i < j
    · refine ev_if_pos (by omega) ?_
      rw [half_eq (by omega)]
      have hm : (i + j) / 2 < l.length := by omega
      refine ev_if_pos (by omega) (ev_if_pos (by omega) ?_)
      rw [rdV_get l _ hm]
      refine ev_bind (impl_compareVn_ev _ _) ?_
      have hc := cmpVn_neg l[(i + j) / 2] x
      have hl2 := hlt _ hm
      by_cases hmp : (i + j) / 2 < p
      · rw [decide_eq_true hmp] at hl2
        rw [hl2] at hc
        have hneg : cmpVn l[(i + j) / 2] x < 0 := by
          by_cases hh : cmpVn l[(i + j) / 2] x < 0
          · exact hh
          · exact absurd (hc.mp (by omega)) (by simp)
        refine ev_if_pos hneg ?_
        rw [wrap_succ (by omega)]
        exact ih (j - ((i + j) / 2 + 1)) (by omega) ((i + j) / 2 + 1) j rfl (by omega) hj hjl
      · rw [decide_eq_false hmp] at hl2
        rw [hl2] at hc
        have hneg : ¬ cmpVn l[(i + j) / 2] x < 0 := by
          have := hc.mpr rfl
          omega
        refine ev_if_neg hneg ?_
        exact ih ((i + j) / 2 - i) (by omega) i ((i + j) / 2) rfl hi (by omega) (by omega)
    · have e : i = p := by omega
      subst e
      refine ev_if_neg (by omega) ?_
      by_cases hpl : i < l.length
      · refine ev_if_pos (by omega) (ev_if_pos (by omega) (ev_if_pos (by omega) ?_))
        rw [rdV_get l _ hpl]
        refine ev_bind (impl_compareVn_ev _ _) (ev_some ?_)
        rw [cmpVn_zero, hlt i hpl, decide_eq_false (Nat.lt_irrefl i), dif_pos hpl]
        rfl
      · refine ev_if_neg (by omega) (ev_some ?_)
        rw [dif_neg hpl]
/-- The list parted at the place of `x`. -/
theorem part_at (x : S48) : ∀ l : List (S48), Strict lessV l → ∃ a b, l = a ++ b ∧ (∀ y ∈ a, lessV y x = true) ∧ (∀ y ∈ b, lessV y x = false)
  | [], _ => ⟨[], [], rfl, by simp, by simp⟩
  | y :: l, hs => by
    have hs' := List.pairwise_cons.1 hs
    cases h : lessV y x with
    | true =>
      obtain ⟨a, b, e, h1, h2⟩ := part_at x l hs'.2
      refine ⟨y :: a, b, by rw [e]; rfl, ?_, h2⟩
      intro z hz
      rcases List.mem_cons.1 hz with rfl | hz
      · exact h
      · exact h1 z hz
    | false =>
      refine ⟨[], y :: l, rfl, by simp, ?_⟩
      intro z hz
      rcases List.mem_cons.1 hz with rfl | hz
      · exact h
      · exact lessV_weak.neg _ _ _ (lessV_weak.asym _ _ (hs'.1 z hz)) h
theorem put_app (x : S48) (b : List (S48)) : ∀ a : List (S48), (∀ y ∈ a, lessV y x = true) → put lessV x (a ++ b) = (put lessV x b).map (a ++ ·)
  | [], _ => by
    rw [List.nil_append]
    cases put lessV x b <;> rfl
  | y :: a, h => by
    have ih := put_app x b a (fun z hz => h z (by simp [hz]))
    rw [List.cons_append]
    show (if lessV y x = true then (put lessV x (a ++ b)).map (y :: ·) else _) = _
    rw [if_pos (h y (by simp)), ih]
    cases put lessV x b with
    | none => rfl
    | some c => rfl
def putR (l : List (S48)) (x : S48) : List (S48) × Bool :=
  if (goodVsn l && goodV x) = true then (match put lessV x l with | some c => if c.length = l.length + 1 ∧ c.length ≤ 60 then (c, true) else ([], false) | none => ([], false)) else ([], false)
theorem putR_length (l : List (S48)) (x : S48) : (putR l x).1.length ≤ 1048576 := by
  unfold putR
  split
  · split
    · split
      · dsimp only; omega
      · exact Nat.zero_le _
    · exact Nat.zero_le _
  · exact Nat.zero_le _
theorem spec_PutVersion_ev (l : List (S48)) (x : S48) (hl : l.length ≤ 1048576) : Ev (fun k => spec_PutVersion.f k l x.f0 x.f1 x.f2 x.f3) (putR l x) := by
  unfold spec_PutVersion.f
  refine ev_bind (spec_GoodVersions_ev l hl) ?_
  have hbad : ∀ b', (goodVsn l && goodV x) = false → b' = true → Ev (fun k => spec_PutVersion.j0 k l b' x.f0 x.f1 x.f2 x.f3) (putR l x) := by
    intro b' h1 h2
    refine Ev.step (fun k => spec_PutVersion.j0.eq_2 ..) (ev_if_pos h2 (ev_some ?_))
    unfold putR
    rw [h1, if_neg (by simp)]
  cases h1 : goodVsn l with
  | false => exact ev_if_neg (by simp) (hbad _ (by rw [h1]; rfl) rfl)
  | true =>
    refine ev_if_pos rfl ?_
    simp only [spec_l14One_eq, Option.bind_some]
    cases h2 : goodV x with
    | false => exact hbad _ (by rw [h1, h2]; rfl) rfl
    | true =>
      have l1 := goodVsn_len h1
      refine Ev.step (fun k => spec_PutVersion.j0.eq_2 ..) (ev_if_neg (by simp) ?_)
      unfold spec_l14Put.f
      have k1 := spec_put_loop l hl x l [] rfl
      have hR : putR l x = (match put lessV x l with | some c => if c.length = l.length + 1 ∧ c.length ≤ 60 then (c, true) else ([], false) | none => ([], false)) := by
        unfold putR
        rw [h1, h2, Bool.and_self, if_pos rfl]
      rw [hR]
      cases hp : put lessV x l with
      | none =>
        rw [hp] at k1
        exact ev_bind k1 (ev_if_neg (by simp) (ev_some rfl))
      | some c =>
        rw [hp] at k1
        have k1 : Ev (fun k => spec_l14Put.l0 k l 0 x.f0 x.f1 x.f2 x.f3) (c, true) := k1
        have hc := put_length x l c hp
        refine ev_bind k1 (ev_if_pos rfl ?_)
        rw [wrap_succ (by omega)]
        dsimp only
        by_cases e : c.length = l.length + 1
        · refine ev_if_pos (by omega) ?_
          by_cases h60 : c.length ≤ 60
          · exact ev_eq (ev_if_neg (by omega) (ev_some rfl)) (by show _ = if _ then _ else _; rw [if_pos ⟨e, h60⟩])
          · exact ev_eq (ev_if_pos (by omega) (ev_some rfl)) (by show _ = if _ then _ else _; rw [if_neg (fun h => h60 h.2)])
        · exact ev_eq (ev_if_neg (by omega) (ev_some rfl)) (by show _ = if _ then _ else _; rw [if_neg (fun h => e h.1)])
theorem impl_PutVersion_ev (l : List (S48)) (x : S48) (hl : l.length ≤ 1048576) : Ev (fun k => impl_PutVersion.f k l x.f0 x.f1 x.f2 x.f3) (putR l x) := by
  unfold impl_PutVersion.f
  refine ev_bind (impl_GoodVersions_ev l hl) ?_
  have hbad : ∀ b', (goodVsn l && goodV x) = false → b' = true → Ev (fun k => impl_PutVersion.j0 k l b' x.f0 x.f1 x.f2 x.f3) (putR l x) := by
    intro b' h1 h2
    refine Ev.step (fun k => impl_PutVersion.j0.eq_2 ..) (ev_if_pos h2 (ev_some ?_))
    unfold putR
    rw [h1, if_neg (by simp)]
  cases h1 : goodVsn l with
  | false => exact ev_if_neg (by simp) (hbad _ (by rw [h1]; rfl) rfl)
  | true =>
    refine ev_if_pos rfl ?_
    simp only [impl_isVersion_eq, Option.bind_some]
    cases h2 : goodV x with
    | false => exact hbad _ (by rw [h1, h2]; rfl) rfl
    | true =>
      have l1 := goodVsn_len h1
      have hs : Strict lessV l := by
        simp only [goodVsn, Bool.and_eq_true] at h1
        exact ((chainV_none l).1 h1.1).2
      refine Ev.step (fun k => impl_PutVersion.j0.eq_2 ..) (ev_if_neg (by simp) ?_)
      obtain ⟨a, b, e, ha, hb⟩ := part_at x l hs
      have hput := put_app x b a ha
      have hbs := bsV_loop l x (by omega) a.length (by rw [e]; simp) (by
        intro i hi
        subst e
        by_cases hia : i < a.length
        · rw [List.getElem_append_left hia, ha _ (List.getElem_mem hia), decide_eq_true hia]
        · rw [List.getElem_append_right (by omega), hb _ (List.getElem_mem _), decide_eq_false hia]) l.length 0 l.length rfl (Nat.zero_le _) (by rw [e]; simp) (Nat.le_refl _)
      have hR : putR l x = (match put lessV x l with | some c => if c.length = l.length + 1 ∧ c.length ≤ 60 then (c, true) else ([], false) | none => ([], false)) := by
        unfold putR
        rw [h1, h2, Bool.and_self, if_pos rfl]
      unfold impl_place.f slices_BinarySearchFunc_impl_Version__impl_Version_compare.f
      refine ev_bind (a := ((a.length : Int), (if h : a.length < l.length then (if !lessV x l[a.length] then false else decide (l.length < 60)) else decide (l.length < 60)))) (ev_bind hbs ?_) ?_
      · have hc60 : decide ((l.length : Int) < 60) = decide (l.length < 60) := by
          by_cases h : l.length < 60
          · rw [decide_eq_true h, decide_eq_true (by omega)]
          · rw [decide_eq_false h, decide_eq_false (by omega)]
        by_cases hp : a.length < l.length
        · rw [dif_pos hp, dif_pos hp]
          cases lessV x l[a.length] with
          | true => exact ev_if_neg (by simp) (ev_some (by rw [hc60]; rfl))
          | false => exact ev_if_pos rfl (ev_some rfl)
        · rw [dif_neg hp, dif_neg hp]
          exact ev_if_neg (by simp) (ev_some (by rw [hc60]))
      have hins : l.length < 60 → put lessV x l = some (a ++ x :: b) → Ev (fun k => (slices_Clone_impl_Version.f l).bind fun t => (slices_Insert_impl_Version.f t (a.length : Int) [(⟨x.f0, x.f1, x.f2, x.f3⟩ : S48)]).bind fun u => some (u, true)) (putR l x) := by
        intro h60 hp
        have htake : l.take a.length = a := by rw [e]; exact List.take_left' rfl
        have hdrop : l.drop a.length = b := by rw [e]; exact List.drop_left' rfl
        have hlen : l.length = a.length + b.length := by rw [e]; simp
        have hX : ((slices_Clone_impl_Version.f l).bind fun t => (slices_Insert_impl_Version.f t (a.length : Int) [(⟨x.f0, x.f1, x.f2, x.f3⟩ : S48)]).bind fun u => some (u, true)) = some (putR l x) := by
          rw [hR, hp]
          unfold slices_Clone_impl_Version.f slices_Insert_impl_Version.f
          simp only [Option.bind_some, List.nil_append, List.length_nil]
          rw [if_pos (by omega), Option.bind_some, if_pos ⟨by omega, by omega, by omega⟩, Int.toNat_natCast, htake, hdrop, Option.bind_some]
          show some (a ++ [x] ++ b, true) = some (if _ then _ else _)
          rw [if_pos ⟨by simp; omega, by simp; omega⟩]
          simp
        rw [hX]
        exact ev_some rfl
      have hno : ∀ c, put lessV x l = some c → c.length = l.length + 1 → ¬ l.length < 60 → putR l x = ([], false) := by
        intro c hc hcl h60
        rw [hR, hc]
        show (if _ then _ else _) = _
        rw [if_neg (by omega)]
      cases b with
      | nil =>
        have hp : ¬ a.length < l.length := by rw [e]; simp
        rw [dif_neg hp]
        have hput' : put lessV x l = some (a ++ [x]) := by rw [e, hput]; rfl
        by_cases h60 : l.length < 60
        · exact ev_if_pos (by simpa using h60) (hins h60 hput')
        · exact ev_if_neg (by simpa using h60) (ev_some (by rw [hno _ hput' (by rw [e]; simp) h60]))
      | cons y b =>
        have hp : a.length < l.length := by rw [e]; simp
        have hy : l[a.length] = y := by subst e; simp
        have hyx := hb y (by simp)
        rw [dif_pos hp, hy]
        cases hxy : lessV x y with
        | true =>
          have hput' : put lessV x l = some (a ++ x :: y :: b) := by
            rw [e, hput]
            unfold put
            rw [if_neg (by rw [hyx]; simp), if_pos hxy]; rfl
          by_cases h60 : l.length < 60
          · exact ev_if_pos (by simpa using h60) (hins h60 hput')
          · exact ev_if_neg (by simpa using h60) (ev_some (by rw [hno _ hput' (by rw [e]; simp; omega) h60]))
        | false =>
          refine ev_if_neg (by simp) (ev_some ?_)
          have hput' : put lessV x l = if y = x then some (a ++ y :: b) else none := by
            rw [e, hput]
            unfold put
            rw [if_neg (by rw [hyx]; simp), if_neg (by rw [hxy]; simp)]
            split <;> rfl
          rw [hR, hput']
          by_cases hyx2 : y = x
          · rw [if_pos hyx2]
            show _ = if _ then _ else _
            rw [if_neg (by rw [e]; omega)]
          · rw [if_neg hyx2]

/-! ### what was put is there as of its time -/
theorem asOfR_app (key : ByteArray) (at_ : Int) : ∀ (a b : List (S48)) (t : ByteArray) (g : Bool), asOfR key at_ t g (a ++ b) = asOfR key at_ (asOfR key at_ t g a).1 (asOfR key at_ t g a).2 b
  | [], b, t, g => rfl
  | x :: a, b, t, g => by
    simp only [List.cons_append, asOfR]
    split
    · exact asOfR_app key at_ a b _ _
    · exact asOfR_app key at_ a b _ _
theorem asOfR_skip (key : ByteArray) (at_ : Int) : ∀ (l : List (S48)) (t : ByteArray) (g : Bool), (∀ y ∈ l, ¬ (y.f0 = key ∧ y.f1 ≤ at_)) → asOfR key at_ t g l = (t, g)
  | [], _, _, _ => rfl
  | x :: l, t, g, h => by
    rw [asOfR, if_neg (h x (by simp))]
    exact asOfR_skip key at_ l t g (fun y hy => h y (by simp [hy]))
theorem lessV_not {x y : S48} (h : lessV x y = true) : ¬ (y.f0 = x.f0 ∧ y.f1 ≤ x.f1) := by
  rintro ⟨he, hle⟩
  unfold lessV at h
  rw [he, bl_irrefl] at h
  simp at h
  omega
theorem asOf_new {a b : List (S48)} {x : S48} (hb : ∀ y ∈ b, lessV x y = true) : asOfL (a ++ x :: b) x.f0 x.f1 = (x.f3, !x.f2) := by
  unfold asOfL
  rw [asOfR_app, asOfR, if_pos ⟨rfl, Int.le_refl _⟩]
  exact asOfR_skip _ _ _ _ _ (fun y hy => lessV_not (hb y hy))
theorem asOf_old {a b : List (S48)} {x : S48} {key : ByteArray} {at_ : Int} (h : at_ < x.f1) : asOfL (a ++ x :: b) key at_ = asOfL (a ++ b) key at_ := by
  unfold asOfL
  rw [asOfR_app, asOfR_app, asOfR, if_neg (fun q => by have := q.2; omega)]
theorem goodVsn_iff (l : List (S48)) : goodVsn l = true ↔ (∀ x ∈ l, goodV x = true) ∧ Strict lessV l ∧ l.length ≤ 60 := by
  unfold goodVsn
  rw [Bool.and_eq_true, chainV_none, decide_eq_true_eq, and_assoc]
theorem putR_true {l : List (S48)} {x : S48} (h : (putR l x).2 = true) :
    ∃ a b, l = a ++ b ∧ putR l x = (a ++ x :: b, true) ∧ goodVsn l = true ∧ goodV x = true ∧ goodVsn (a ++ x :: b) = true ∧ ∀ y ∈ b, lessV x y = true := by
  unfold putR at h
  by_cases hg : (goodVsn l && goodV x) = true
  · rw [if_pos hg] at h
    have hR : putR l x = (match put lessV x l with | some c => if c.length = l.length + 1 ∧ c.length ≤ 60 then (c, true) else ([], false) | none => ([], false)) := by
      unfold putR
      rw [if_pos hg]
    simp only [Bool.and_eq_true] at hg
    obtain ⟨h1, h2⟩ := hg
    obtain ⟨hgv, hst, h60⟩ := (goodVsn_iff l).1 h1
    obtain ⟨a, b, e, ha, hb⟩ := part_at x l hst
    have hp := put_app x b a ha
    rw [← e] at hp
    have hput : put lessV x l = some (a ++ x :: b) ∧ ∀ y ∈ b, lessV x y = true := by
      cases b with
      | nil => exact ⟨hp, fun y hy => by cases hy⟩
      | cons y b =>
        have hyx := hb y (by simp)
        by_cases hxy : lessV x y = true
        · refine ⟨?_, fun z hz => ?_⟩
          · rw [hp]
            unfold put
            rw [if_neg (by rw [hyx]; simp), if_pos hxy]; rfl
          · rcases List.mem_cons.1 hz with rfl | hz
            · exact hxy
            · rw [e] at hst
              have := (List.pairwise_append.1 hst).2.1
              rw [List.pairwise_cons] at this
              exact lessV_weak.trans hxy (this.1 z hz)
        · exfalso
          have hp2 : put lessV x l = if y = x then some (a ++ y :: b) else none := by
            rw [hp]
            unfold put
            rw [if_neg (by rw [hyx]; simp), if_neg hxy]
            split <;> rfl
          rw [hp2] at h
          by_cases hyx2 : y = x
          · rw [if_pos hyx2] at h
            dsimp only at h
            rw [if_neg (by rw [e]; omega)] at h
            cases h
          · rw [if_neg hyx2] at h
            cases h
    rw [hput.1] at h hR
    dsimp only at h hR
    by_cases hc : (a ++ x :: b).length = l.length + 1 ∧ (a ++ x :: b).length ≤ 60
    · rw [if_pos hc] at hR
      refine ⟨a, b, e, hR, h1, h2, (goodVsn_iff _).2 ⟨fun z hz => ?_, ?_, hc.2⟩, hput.2⟩
      · rcases List.mem_append.1 hz with hz | hz
        · exact hgv z (by rw [e]; simp [hz])
        · rcases List.mem_cons.1 hz with rfl | hz
          · exact h2
          · exact hgv z (by rw [e]; simp [hz])
      · rw [e] at hst
        obtain ⟨q1, q2, q3⟩ := List.pairwise_append.1 hst
        refine List.pairwise_append.2 ⟨q1, List.pairwise_cons.2 ⟨hput.2, q2⟩, fun p hpa q hq => ?_⟩
        rcases List.mem_cons.1 hq with hqx | hq
        · rw [hqx]; exact ha p hpa
        · exact q3 p hpa q hq
    · rw [if_neg hc] at h
      cases h
  · rw [if_neg hg] at h
    cases h
theorem putR_len (l : List (S48)) (x : S48) (h : (putR l x).2 = true) : (putR l x).1.length ≤ 60 := by
  obtain ⟨a, b, _, e, _, _, h3, _⟩ := putR_true h
  rw [e]
  exact ((goodVsn_iff _).1 h3).2.2
/-- AsOf's answer. -/
def asofA (l : List (S48)) (key : ByteArray) (at_ : Int) : ByteArray × Bool × Bool := if (goodVsn l && (goodK key && goodT at_)) = true then ((asOfL l key at_).1, (asOfL l key at_).2, true) else (⟨#[]⟩, false, false)
theorem asof_both (L : List (S48)) (key : ByteArray) (at_ : Int) (hL : L.length ≤ 1048576) : Ev (fun k => spec_AsOf.f k L key at_) (asofA L key at_) ∧ Ev (fun k => impl_AsOf.f k L key at_) (asofA L key at_) := by
  unfold spec_AsOf.f impl_AsOf.f asofA
  simp only [spec_l5Pair_eq, spec_l14Time_eq, impl_isKey_eq, impl_isTime_eq, Option.bind_some]
  have e : (decide (key.size ≤ 12) && (decide ((⟨#[]⟩ : ByteArray).size ≤ 12) && decide (1 ≤ key.size))) = goodK key := by
    have : decide ((⟨#[]⟩ : ByteArray).size ≤ 12) = true := rfl
    rw [this, Bool.true_and, Bool.and_comm]; rfl
  rw [e]
  have a := spec_GoodVersions_ev L hL
  have b := impl_GoodVersions_ev L hL
  cases g : goodVsn L with
  | false =>
    rw [g] at a b
    exact ⟨ev_bind a (ev_if_neg (by simp) (ev_some rfl)), ev_bind b (ev_if_neg (by simp) (ev_some rfl))⟩
  | true =>
    rw [g] at a b
    cases goodK key with
    | false => exact ⟨ev_bind a (ev_if_pos rfl (ev_if_neg (by simp) (ev_some rfl))), ev_bind b (ev_if_pos rfl (ev_if_neg (by simp) (ev_some rfl)))⟩
    | true =>
      cases goodT at_ with
      | false => exact ⟨ev_bind a (ev_if_pos rfl (ev_if_pos rfl (ev_if_neg (by simp) (ev_some rfl)))), ev_bind b (ev_if_pos rfl (ev_if_pos rfl (ev_if_neg (by simp) (ev_some rfl))))⟩
      | true => exact ⟨ev_bind a (ev_if_pos rfl (ev_if_pos rfl (ev_if_pos rfl (ev_bind (spec_l14At_ev L key at_ hL) (ev_some rfl))))), ev_bind b (ev_if_pos rfl (ev_if_pos rfl (ev_if_pos rfl (ev_bind (impl_asOf_ev L key at_ hL) (ev_some rfl)))))⟩
theorem sameV_loop (l : List (S48)) (hl : l.length ≤ 1048576) : ∀ (rest : List (S48)) (i : Nat), l.drop i = rest → Ev (fun k => laws_sameVersions.l0 k l l l.length i) true
  | [], i, hd => by
    have h := drop_nil hd
    exact Ev.step (fun k => laws_sameVersions.l0.eq_2 ..) (ev_if_neg (by omega) (ev_some rfl))
  | s :: rest, i, hd => by
    obtain ⟨hi, hd', hx⟩ := drop_cons hd
    refine Ev.step (fun k => laws_sameVersions.l0.eq_2 ..) (ev_if_pos (by omega) (ev_if_pos (by omega) (ev_if_pos (by omega) (ev_if_pos (by omega) (ev_if_neg (by simp) ?_)))))
    rw [wrap_succ (by omega)]
    exact sameV_loop l hl rest (i + 1) hd'
theorem sameV_ev (l : List (S48)) (hl : l.length ≤ 1048576) : Ev (fun k => laws_sameVersions.f k l l) true := by
  unfold laws_sameVersions.f
  exact ev_if_pos rfl (sameV_loop l hl l 0 rfl)

/-! ### drawing -/
theorem wf_u8 {x : Int} (h : (Lit.int .u8 x).wf = true) : 0 ≤ x ∧ x ≤ 255 := by
  have a : IntKind.u8.min = 0 := by decide
  have b : IntKind.u8.max = 255 := by decide
  simp [Lit.wf] at h
  omega
theorem and255 (x : Int) (h0 : 0 ≤ x) (h1 : x < 9223372036854775808) : Go.bits .and .u64 x 255 = x % 256 :=
  Go.bits_mask .u64 63 (by decide) (fun n a b => by simp [IntKind.wrap, IntKind.bits, IntKind.signed]; omega) 8 (by decide) x h0 h1
theorem u64_range (x : Int) : 0 ≤ IntKind.u64.wrap x ∧ IntKind.u64.wrap x < 18446744073709551616 := by
  simp [IntKind.wrap, IntKind.bits, IntKind.signed]; omega
/-- What the drawn bytes are. -/
def Bytes (code : List Int) : Prop := ∀ x ∈ code, 0 ≤ x ∧ x ≤ 255
theorem rd_byte {code : List Int} (hc : Bytes code) {i : Int} : 0 ≤ rd code i ∧ rd code i ≤ 255 := by
  unfold rd
  rw [List.getD_eq_getElem?_getD]
  cases h : code[i.toNat]? with
  | none => simp
  | some x => exact hc x (List.mem_of_getElem? h)
/-- The cursor's place, so many draws on at the most. -/
def At (n : Int) (at_ : Int) : Prop := 0 ≤ at_ ∧ at_ ≤ n
theorem next_ok {code : List Int} (hc : Bytes code) {n at_ : Int} (seed : Int) (h : At n at_) (hn : n ≤ 1000000000) : ∃ x a s, spec_l1Cur_next.f code at_ seed = some (x, a, s) ∧ 0 ≤ x ∧ x ≤ 255 ∧ At (n + 1) a := by
  obtain ⟨h0, h1⟩ := h
  have hw : wrap64 (at_ + 1) = at_ + 1 := wrap_id (by omega) (by omega)
  have hb := rd_byte hc (i := at_)
  have hlow : ∀ X : Int, 0 ≤ wrap64 (Go.bits .and .u64 ((IntKind.u64.wrap X) / 1099511627776) 255) ∧ wrap64 (Go.bits .and .u64 ((IntKind.u64.wrap X) / 1099511627776) 255) ≤ 255 := by
    intro X
    have := u64_range X
    rw [and255 _ (by omega) (by omega), wrap_id (by omega) (by omega)]
    omega
  have hr : wrap64 (rd code at_) = rd code at_ := wrap_id (by omega) (by omega)
  unfold spec_l1Cur_next.f
  rw [hw]
  have hA : At (n + 1) (at_ + 1) := ⟨by omega, by omega⟩
  by_cases c1 : at_ < (code.length : Int)
  · rw [if_pos c1, if_pos h0]
    by_cases c2 : at_ + 1 ≤ (code.length : Int)
    · rw [if_pos c2]
      exact ⟨_, _, _, rfl, by rw [hr]; omega, by rw [hr]; omega, hA⟩
    · rw [if_neg c2]
      exact ⟨_, _, _, rfl, (hlow _).1, (hlow _).2, hA⟩
  · rw [if_neg c1]
    by_cases c2 : at_ + 1 ≤ (code.length : Int)
    · rw [if_pos c2]
      exact ⟨_, _, _, rfl, by omega, by omega, hA⟩
    · rw [if_neg c2]
      exact ⟨_, _, _, rfl, (hlow _).1, (hlow _).2, hA⟩
theorem pick_ok {code : List Int} (hc : Bytes code) {n at_ : Int} (seed m : Int) (h : At n at_) (hn : n ≤ 999999999) (hm : 1 ≤ m) : ∃ x a s, spec_l1Cur_pick.f code at_ seed m = some (x, a, s) ∧ 0 ≤ x ∧ x < m ∧ At (n + 2) a := by
  unfold spec_l1Cur_pick.f
  by_cases c1 : m ≤ 1
  · rw [if_pos c1]
    exact ⟨_, _, _, rfl, by omega, by omega, ⟨h.1, by have := h.2; omega⟩⟩
  · rw [if_neg c1]
    obtain ⟨x, a, s, e, h0, h1, h2⟩ := next_ok hc seed h (by omega)
    rw [e]
    simp only [Option.bind_some]
    have hmod : ∀ y : Int, 0 ≤ y → 0 ≤ Int.tmod y m ∧ Int.tmod y m < m := fun y hy => by
      rw [tmod_nn hy]
      exact ⟨Int.emod_nonneg _ (by omega), Int.emod_lt_of_pos _ (by omega)⟩
    by_cases c2 : m > 200
    · rw [if_pos c2]
      obtain ⟨x2, a2, s2, e2, h3, h4, h5⟩ := next_ok hc s h2 (by omega)
      rw [e2]
      simp only [Option.bind_some]
      have w1 : wrap64 (x * 256) = x * 256 := wrap_id (by omega) (by omega)
      have w2 : wrap64 (x * 256 + x2) = x * 256 + x2 := wrap_id (by omega) (by omega)
      rw [if_neg (by omega), w1, w2]
      obtain ⟨h6, h7⟩ := hmod (x * 256 + x2) (by omega)
      exact ⟨_, _, _, rfl, h6, h7, ⟨h5.1, by have := h5.2; omega⟩⟩
    · rw [if_neg c2, if_neg (by omega)]
      obtain ⟨h6, h7⟩ := hmod x h0
      exact ⟨_, _, _, rfl, h6, h7, ⟨h2.1, by have := h2.2; omega⟩⟩

theorem one_ok {code : List Int} (hc : Bytes code) {n at_ : Int} (seed m : Int) (h : At n at_) (hn : n ≤ 999999999) (hm : 1 ≤ m) : ∃ x a s, spec_l1Cur_one.f code at_ seed m = some (x, a, s) ∧ At (n + 2) a := by
  obtain ⟨x, a, s, e, _, _, h2⟩ := pick_ok hc seed m h hn hm
  unfold spec_l1Cur_one.f
  rw [e]
  exact ⟨_, _, _, rfl, h2⟩

theorem among_ok {code : List Int} (hc : Bytes code) {n at_ : Int} (seed : Int) (l : List Int) (h : At n at_) (hn : n ≤ 999999999) (hl : l ≠ []) : ∃ x a s, spec_l1Cur_among.f code at_ seed l = some (x, a, s) ∧ x ∈ l ∧ At (n + 2) a := by
  have hp : 0 < l.length := List.length_pos_iff.2 hl
  obtain ⟨x, a, s, e, h0, h1, h2⟩ := pick_ok hc seed l.length h hn (by omega)
  unfold spec_l1Cur_among.f
  rw [e]
  simp only [Option.bind_some]
  rw [if_pos h0, if_pos h1]
  refine ⟨_, _, _, rfl, ?_, h2⟩
  unfold rd
  rw [List.getD_eq_getElem?_getD, List.getElem?_eq_getElem (by omega)]
  exact List.getElem_mem _

theorem of_ok {code : List Int} (hc : Bytes code) {n at_ : Int} (seed : Int) (l : List ByteArray) (h : At n at_) (hn : n ≤ 999999999) (hl : l ≠ []) : ∃ x a s, spec_l1Cur_of.f code at_ seed l = some (x, a, s) ∧ x ∈ l ∧ At (n + 2) a := by
  have hp : 0 < l.length := List.length_pos_iff.2 hl
  obtain ⟨x, a, s, e, h0, h1, h2⟩ := pick_ok hc seed l.length h hn (by omega)
  unfold spec_l1Cur_of.f
  rw [e]
  simp only [Option.bind_some]
  rw [if_pos h0, if_pos h1]
  refine ⟨_, _, _, rfl, ?_, h2⟩
  unfold rdOf
  rw [List.getD_eq_getElem?_getD, List.getElem?_eq_getElem (by omega)]
  exact List.getElem_mem _

/-! ### drawn versions -/
theorem version_ok {code : List Int} (hc : Bytes code) {n at_ : Int} (seed : Int) (h : At n at_) (hn : n ≤ 99999999) : ∃ x0 x1 x2 x3 a s, Ev (fun k => spec_l1Cur_version.f k code at_ seed) (x0, x1, x2, x3, a, s) ∧ At (n + 14) a := by
  have hj : ∀ {n at_ : Int} (seed : Int) (_ : At n at_) (_ : n ≤ 999999900) (x0 : ByteArray) (x1 : Int) (x2 : Bool) (x3 : ByteArray), ∃ y0 y1 y2 y3 a s, Ev (fun k => spec_l1Cur_version.j0 k code at_ seed x0 x1 x2 x3) (y0, y1, y2, y3, a, s) ∧ At (n + 6) a := by
    intro n at_ seed h hn x0 x1 x2 x3
    obtain ⟨o, a, s, e, h2⟩ := one_ok hc seed 40 h (by omega) (by omega)
    cases o with
    | false =>
      refine ⟨x0, x1, x2, x3, a, s, Ev.step (fun k => spec_l1Cur_version.j0.eq_2 ..) ?_, ⟨h2.1, by have := h2.2; omega⟩⟩
      simp only [e, Option.bind_some]
      exact ev_if_neg (by simp) (ev_some rfl)
    | true =>
      obtain ⟨y, a2, s2, e2, _, h3⟩ := of_ok hc s ([(⟨#[]⟩ : ByteArray), (⟨#[97]⟩ : ByteArray)] : List ByteArray) h2 (by omega) (by simp)
      obtain ⟨z, a3, s3, e3, _, h4⟩ := among_ok hc s2 ([(-1), 1000000, 1000001] : List Int) h3 (by omega) (by simp)
      refine ⟨y, z, true, (⟨#[116]⟩ : ByteArray), a3, s3, Ev.step (fun k => spec_l1Cur_version.j0.eq_2 ..) ?_, ⟨h4.1, by have := h4.2; omega⟩⟩
      simp only [e, e2, e3, Option.bind_some]
      exact ev_if_pos (by simp) (ev_some rfl)
  obtain ⟨x, a, s, e, _, h2⟩ := of_ok hc seed ([(⟨#[97]⟩ : ByteArray), (⟨#[98]⟩ : ByteArray), (⟨#[99]⟩ : ByteArray)] : List ByteArray) h (by omega) (by simp)
  obtain ⟨m, a2, s2, e2, _, _, h3⟩ := pick_ok hc s 30 h2 (by omega) (by omega)
  obtain ⟨y, a3, s3, e3, _, h4⟩ := of_ok hc s2 ([(⟨#[]⟩ : ByteArray), (⟨#[120]⟩ : ByteArray), (⟨#[121]⟩ : ByteArray)] : List ByteArray) h3 (by omega) (by simp)
  obtain ⟨o, a4, s4, e4, h5⟩ := one_ok hc s3 4 h4 (by omega) (by omega)
  have hf : (fun k => spec_l1Cur_version.f k code at_ seed) = fun k => if o = true then (spec_l1Cur_version.j0 k code a4 s4 x m true (⟨#[]⟩ : ByteArray)) else (spec_l1Cur_version.j0 k code a4 s4 x m false y) := by
    funext k
    unfold spec_l1Cur_version.f
    simp only [e, e2, e3, e4, Option.bind_some]
  rw [hf]
  cases o with
  | true =>
    obtain ⟨y0, y1, y2, y3, b, t, k1, h6⟩ := hj s4 h5 (by omega) x m true (⟨#[]⟩ : ByteArray)
    exact ⟨y0, y1, y2, y3, b, t, ev_if_pos rfl k1, ⟨h6.1, by have := h6.2; omega⟩⟩
  | false =>
    obtain ⟨y0, y1, y2, y3, b, t, k1, h6⟩ := hj s4 h5 (by omega) x m false y
    exact ⟨y0, y1, y2, y3, b, t, ev_if_neg (by simp) k1, ⟨h6.1, by have := h6.2; omega⟩⟩
theorem versions_loop {code : List Int} (hc : Bytes code) : ∀ (m : Nat) {n at_ : Int} (seed : Int) (_ : At n at_) (_ : n + 14 * m ≤ 99999900) (_ : m ≤ 1000) (l : List (S48)) (_ : l.length ≤ 60),
    ∃ r a s, Ev (fun k => spec_l1Cur_versions.l0 k l (m : Int) code at_ seed) (r, a, s) ∧ r.length ≤ 60 ∧ At (n + 14 * m + 2) a
  | 0, n, at_, seed, h, hn, _, l, hl => by
    by_cases h1 : (l.length : Int) > 1
    · obtain ⟨o, a, s, e, h2⟩ := one_ok hc seed 20 h (by omega) (by omega)
      cases o with
      | true =>
        refine ⟨l.set (0 : Int).toNat (⟨(⟨#[122]⟩ : ByteArray), (rd_T48 l 0).f1, (rd_T48 l 0).f2, (rd_T48 l 0).f3⟩ : S48), a, s, Ev.step (fun k => spec_l1Cur_versions.l0.eq_2 ..) (ev_if_neg (by omega) (ev_if_pos h1 ?_)), by rw [List.length_set]; exact hl, ⟨h2.1, by have := h2.2; omega⟩⟩
        · simp only [e, Option.bind_some]
          exact ev_if_pos (by simp) (ev_if_pos (by omega) (ev_some rfl))
      | false =>
        refine ⟨l, a, s, Ev.step (fun k => spec_l1Cur_versions.l0.eq_2 ..) (ev_if_neg (by omega) (ev_if_pos h1 ?_)), hl, ⟨h2.1, by have := h2.2; omega⟩⟩
        simp only [e, Option.bind_some]
        exact ev_if_neg (by simp) (ev_some rfl)
    · exact ⟨l, at_, seed, Ev.step (fun k => spec_l1Cur_versions.l0.eq_2 ..) (ev_if_neg (by omega) (ev_if_neg h1 (ev_some rfl))), hl, ⟨h.1, by have := h.2; omega⟩⟩
  | m + 1, n, at_, seed, h, hn, hm, l, hl => by
    obtain ⟨x0, x1, x2, x3, a, s, e, h2⟩ := version_ok hc seed h (by omega)
    have k1 := spec_PutVersion_ev l ⟨x0, x1, x2, x3⟩ (by omega)
    have k1 : Ev (fun k => spec_PutVersion.f k l x0 x1 x2 x3) (putR l ⟨x0, x1, x2, x3⟩) := k1
    have hw : wrap64 (((m + 1 : Nat) : Int) - 1) = (m : Int) := by rw [wrap_id (by omega) (by omega)]; omega
    by_cases hp : (putR l ⟨x0, x1, x2, x3⟩).2 = true
    · obtain ⟨r, a', s', e', h3, h4⟩ := versions_loop hc m s h2 (by omega) (by omega) (putR l ⟨x0, x1, x2, x3⟩).1 (putR_len l _ hp)
      refine ⟨r, a', s', Ev.step (fun k => spec_l1Cur_versions.l0.eq_2 ..) (ev_if_pos (by omega) (ev_bind e (ev_bind k1 (ev_if_pos hp ?_)))), h3, ⟨h4.1, by have := h4.2; omega⟩⟩
      rw [hw]
      exact e'
    · obtain ⟨r, a', s', e', h3, h4⟩ := versions_loop hc m s h2 (by omega) (by omega) l hl
      refine ⟨r, a', s', Ev.step (fun k => spec_l1Cur_versions.l0.eq_2 ..) (ev_if_pos (by omega) (ev_bind e (ev_bind k1 (ev_if_neg hp ?_)))), h3, ⟨h4.1, by have := h4.2; omega⟩⟩
      rw [hw]
      exact e'
theorem versions_ok {code : List Int} (hc : Bytes code) {n at_ : Int} (seed : Int) (h : At n at_) (hn : n ≤ 9999999) : ∃ r a s, Ev (fun k => spec_l1Cur_versions.f k code at_ seed) (r, a, s) ∧ r.length ≤ 60 ∧ At (n + 1500) a := by
  obtain ⟨m, a, s, e, hm0, hm1, h2⟩ := pick_ok hc seed 14 h (by omega) (by omega)
  obtain ⟨o, a2, s2, e2, h3⟩ := one_ok hc s 20 h2 (by omega) (by omega)
  have hf : (fun k => spec_l1Cur_versions.f k code at_ seed) = fun k => if o = true then (spec_l1Cur_versions.j0 k ([] : List (S48)) 100 code a2 s2) else (spec_l1Cur_versions.j0 k ([] : List (S48)) m code a2 s2) := by
    funext k
    unfold spec_l1Cur_versions.f
    simp only [e, e2, Option.bind_some]
  rw [hf]
  cases o with
  | true =>
    obtain ⟨r, a', s', e', h4, h5⟩ := versions_loop hc 100 s2 h3 (by omega) (by omega) [] (by simp)
    exact ⟨r, a', s', ev_if_pos rfl (Ev.step (fun k => spec_l1Cur_versions.j0.eq_2 ..) e'), h4, ⟨h5.1, by have := h5.2; omega⟩⟩
  | false =>
    obtain ⟨r, a', s', e', h4, h5⟩ := versions_loop hc m.toNat s2 h3 (by omega) (by omega) [] (by simp)
    rw [Int.toNat_of_nonneg hm0] at e'
    exact ⟨r, a', s', ev_if_neg (by simp) (Ev.step (fun k => spec_l1Cur_versions.j0.eq_2 ..) e'), h4, ⟨h5.1, by have := h5.2; omega⟩⟩

theorem drawPutV_ok {code : List Int} (hc : Bytes code) : ∃ l x0 x1 x2 x3, Ev (fun k => spec_DrawPutVersion.f k code) (l, x0, x1, x2, x3) ∧ l.length ≤ 60 := by
  obtain ⟨r, a, s, e, h, h2⟩ := versions_ok hc 0 (n := 0) (at_ := 0) ⟨by omega, by omega⟩ (by omega)
  obtain ⟨x0, x1, x2, x3, b, t, e2, _⟩ := version_ok hc s h2 (by omega)
  exact ⟨r, x0, x1, x2, x3, ev_bind e (ev_bind e2 (ev_some rfl)), h⟩
theorem drawAsOf_ok {code : List Int} (hc : Bytes code) : ∃ l key at_, Ev (fun k => spec_DrawAsOf.f k code) (l, key, at_) ∧ l.length ≤ 60 := by
  obtain ⟨r, a, s, e, h, h2⟩ := versions_ok hc 0 (n := 0) (at_ := 0) ⟨by omega, by omega⟩ (by omega)
  obtain ⟨x, a2, s2, e2, _, h3⟩ := of_ok hc s ([(⟨#[97]⟩ : ByteArray), (⟨#[98]⟩ : ByteArray), (⟨#[113]⟩ : ByteArray), (⟨#[]⟩ : ByteArray)] : List ByteArray) h2 (by omega) (by simp)
  obtain ⟨y, a3, s3, e3, _, h4⟩ := among_ok hc s2 ([(-1), 0, 5, 10, 20, 30, 1000000, 1000001] : List Int) h3 (by omega) (by simp)
  refine ⟨r, x, y, ev_bind e ?_, h⟩
  unfold spec_l1Cur_time.f
  simp only [e2, e3, Option.bind_some]
  exact ev_some rfl
theorem drawKeysAt_ok {code : List Int} (hc : Bytes code) : ∃ l at_, Ev (fun k => spec_DrawKeysAt.f k code) (l, at_) ∧ l.length ≤ 60 := by
  obtain ⟨r, a, s, e, h, h2⟩ := versions_ok hc 0 (n := 0) (at_ := 0) ⟨by omega, by omega⟩ (by omega)
  obtain ⟨y, a3, s3, e3, _, h4⟩ := among_ok hc s ([(-1), 0, 5, 10, 20, 30, 1000000, 1000001] : List Int) h2 (by omega) (by simp)
  refine ⟨r, y, ev_bind e ?_, h⟩
  unfold spec_l1Cur_time.f
  simp only [e3, Option.bind_some]
  exact ev_some rfl
theorem drawHis_ok {code : List Int} (hc : Bytes code) : ∃ l key, Ev (fun k => spec_DrawHistoryOf.f k code) (l, key) ∧ l.length ≤ 60 := by
  obtain ⟨r, a, s, e, h, h2⟩ := versions_ok hc 0 (n := 0) (at_ := 0) ⟨by omega, by omega⟩ (by omega)
  obtain ⟨x, a2, s2, e2, _, h3⟩ := of_ok hc s ([(⟨#[97]⟩ : ByteArray), (⟨#[98]⟩ : ByteArray), (⟨#[113]⟩ : ByteArray), (⟨#[]⟩ : ByteArray)] : List ByteArray) h2 (by omega) (by simp)
  refine ⟨r, x, ev_bind e ?_, h⟩
  simp only [e2, Option.bind_some]
  exact ev_some rfl
def hasT (l : List ByteArray) (s : ByteArray) : Bool := l.any fun z => decide (z.toList = s.toList)
theorem hasT_loop (s : ByteArray) (l : List ByteArray) (hl : l.length ≤ 1048576) : ∀ (rest : List ByteArray) (i : Nat), l.drop i = rest → Ev (fun k => laws_hasText.l0 k s l l.length i) (hasT rest s)
  | [], i, hd => by
    have h := drop_nil hd
    exact Ev.step (fun k => laws_hasText.l0.eq_2 ..) (ev_if_neg (by omega) (ev_some rfl))
  | y :: rest, i, hd => by
    obtain ⟨hi, hd', hx⟩ := drop_cons hd
    have hx : rdOf ByteArray.empty l i = y := hx _
    refine Ev.step (fun k => laws_hasText.l0.eq_2 ..) (ev_if_pos (by omega) (ev_if_pos (by omega) (ev_if_pos (by omega) ?_)))
    rw [wrap_succ (by omega), hx]
    have e : hasT (y :: rest) s = (decide (y.toList = s.toList) || hasT rest s) := rfl
    rw [e]
    by_cases h : y.toList = s.toList
    · exact ev_if_pos h (ev_some (by simp [h]))
    · exact ev_if_neg h (ev_eq (hasT_loop s l hl rest (i + 1) hd') (by simp [h]))
theorem hasT_ev (s : ByteArray) (l : List ByteArray) (hl : l.length ≤ 1048576) : Ev (fun k => laws_hasText.f k l s) (hasT l s) := hasT_loop s l hl l 0 rfl
theorem sameTexts_loop (l : List ByteArray) (hl : l.length ≤ 1048576) : ∀ (rest : List ByteArray) (i : Nat), l.drop i = rest → Ev (fun k => laws_sameTexts.l0 k l l l.length i) true
  | [], i, hd => by
    have h := drop_nil hd
    exact Ev.step (fun k => laws_sameTexts.l0.eq_2 ..) (ev_if_neg (by omega) (ev_some rfl))
  | s :: rest, i, hd => by
    obtain ⟨hi, hd', hx⟩ := drop_cons hd
    refine Ev.step (fun k => laws_sameTexts.l0.eq_2 ..) (ev_if_pos (by omega) (ev_if_pos (by omega) (ev_if_pos (by omega) (ev_if_pos (by omega) (ev_if_pos rfl ?_)))))
    rw [wrap_succ (by omega)]
    exact sameTexts_loop l hl rest (i + 1) hd'
theorem sameTexts_ev (l : List ByteArray) (hl : l.length ≤ 1048576) : Ev (fun k => laws_sameTexts.f k l l) true := by
  unfold laws_sameTexts.f
  exact ev_if_pos rfl (sameTexts_loop l hl l 0 rfl)
theorem keysR_keep (l : List (S48)) (at_ : Int) (s : ByteArray) : ∀ (rest : List (S48)) (p : Option (S48)) (acc : List ByteArray), s ∈ acc → s ∈ keysR l at_ p acc rest
  | [], _, acc, h => h
  | x :: rest, p, acc, h => by
    rw [keysR]
    refine keysR_keep l at_ s rest _ _ ?_
    split
    · simp [h]
    · exact h
theorem keysR_only (l : List (S48)) (at_ : Int) : ∀ (rest : List (S48)) (p : Option (S48)) (acc : List ByteArray), (∀ s ∈ acc, (asOfL l s at_).2 = true) → ∀ s ∈ keysR l at_ p acc rest, (asOfL l s at_).2 = true
  | [], _, acc, h, s, hs => h s hs
  | x :: rest, p, acc, h, s, hs => by
    rw [keysR] at hs
    refine keysR_only l at_ rest _ _ ?_ s hs
    split
    · rename_i hc
      simp only [Bool.and_eq_true] at hc
      intro z hz
      rcases List.mem_append.1 hz with hz | hz
      · exact h z hz
      · have : z = x.f0 := by simpa using hz
        rw [this]; exact hc.2
    · exact h
theorem keysR_all (l : List (S48)) (at_ : Int) : ∀ (rest : List (S48)) (p : Option (S48)) (acc : List ByteArray), (∀ q, p = some q → (asOfL l q.f0 at_).2 = true → q.f0 ∈ acc) → ∀ y ∈ rest, (asOfL l y.f0 at_).2 = true → y.f0 ∈ keysR l at_ p acc rest
  | [], _, acc, _, y, hy, _ => by cases hy
  | x :: rest, p, acc, h, y, hy, hq => by
    rw [keysR]
    have hx : (asOfL l x.f0 at_).2 = true → x.f0 ∈ (if (!sameKey x p && (asOfL l x.f0 at_).2) = true then acc ++ [x.f0] else acc) := by
      intro ht
      split
      · simp
      · rename_i hc
        rw [ht, Bool.and_true] at hc
        cases p with
        | none => exact absurd rfl hc
        | some q =>
          have he : q.f0 = x.f0 := by
            simp only [sameKey, Bool.not_eq_true', decide_eq_false_iff_not, Decidable.not_not] at hc
            exact hc
          have := h q rfl (by rw [he]; exact ht)
          rw [he] at this
          exact this
    rcases List.mem_cons.1 hy with rfl | hy
    · exact keysR_keep l at_ _ rest _ _ (hx hq)
    · exact keysR_all l at_ rest _ _ (fun q hq' ht => by cases hq'; exact hx ht) y hy hq
theorem keys_has (l : List (S48)) (at_ : Int) (y : S48) (hy : y ∈ l) : hasT (keysR l at_ none [] l) y.f0 = (asOfL l y.f0 at_).2 := by
  cases h : (asOfL l y.f0 at_).2 with
  | true =>
    unfold hasT
    rw [List.any_eq_true]
    exact ⟨y.f0, keysR_all l at_ l none [] (fun q hq => by cases hq) y hy h, by simp⟩
  | false =>
    cases hc : hasT (keysR l at_ none [] l) y.f0 with
    | false => rfl
    | true =>
      unfold hasT at hc
      rw [List.any_eq_true] at hc
      obtain ⟨z, hz, he⟩ := hc
      have := keysR_only l at_ l none [] (fun s hs => by cases hs) z hz
      rw [toList_inj.1 (of_decide_eq_true he)] at this
      rw [h] at this
      cases this
theorem goodV_K {x : S48} (h : goodV x = true) : goodK x.f0 = true ∧ 0 ≤ x.f1 ∧ x.f1 ≤ 1000000 := by
  simp only [goodV, Bool.and_eq_true, decide_eq_true_eq] at h
  exact ⟨h.1, h.2.2.1.1, h.2.2.1.2⟩
theorem asofA_good {l : List (S48)} {key : ByteArray} {at_ : Int} (h1 : goodVsn l = true) (h2 : goodK key = true) (h3 : 0 ≤ at_) (h4 : at_ ≤ 1000000) : asofA l key at_ = ((asOfL l key at_).1, (asOfL l key at_).2, true) := by
  unfold asofA goodT
  rw [h1, h2, decide_eq_true h3, decide_eq_true h4]
  rfl
theorem asof_l1 (n : List (S48)) (hn : goodVsn n = true) (when_ : Int) (h0 : 0 ≤ when_) (h1 : when_ ≤ 1000000) : ∀ (rest : List (S48)) (i : Nat), n.drop i = rest → Ev (fun k => laws_FnAsOf.l1 k n when_ (keysR n when_ none [] n) n n.length i) true
  | [], i, hd => by
    have h := drop_nil hd
    exact Ev.step (fun k => laws_FnAsOf.l1.eq_2 ..) (ev_if_neg (by omega) (ev_some rfl))
  | y :: rest, i, hd => by
    obtain ⟨hi, hd', hx⟩ := drop_cons hd
    have hx : rd_T48 n i = y := hx _
    have hy : y ∈ n := List.mem_of_mem_drop (by rw [hd]; exact List.mem_cons_self)
    obtain ⟨g1, g2, g3⟩ := (goodVsn_iff n).1 hn
    have a1 := (asof_both n y.f0 when_ (by omega)).2
    rw [asofA_good hn (goodV_K (g1 y hy)).1 h0 h1] at a1
    have hk := keysR_length n when_ n none []
    have a2 := hasT_ev y.f0 (keysR n when_ none [] n) (by simp at hk; omega)
    rw [keys_has n when_ y hy] at a2
    refine Ev.step (fun k => laws_FnAsOf.l1.eq_2 ..) (ev_if_pos (by omega) (ev_if_pos (by omega) (ev_if_pos (by omega) ?_)))
    rw [hx]
    refine ev_bind a1 (ev_if_pos rfl (ev_bind a2 (ev_if_neg (by simp) ?_)))
    rw [wrap_succ (by omega)]
    exact asof_l1 n hn when_ h0 h1 rest (i + 1) hd'
theorem asof_j4 {more : List Int} (hm : Bytes more) : Ev (fun k => laws_FnAsOf.j4 k more) true := by
  obtain ⟨m, key, at_, d1, hm1⟩ := drawAsOf_ok hm
  obtain ⟨n, when_, d2, hn1⟩ := drawKeysAt_ok hm
  obtain ⟨h, name, d3, hh1⟩ := drawHis_ok hm
  obtain ⟨a1, a2⟩ := asof_both m key at_ (by omega)
  have b1 := impl_KeysAt_ev when_ n (by omega)
  have b2 := spec_KeysAt_ev when_ n (by omega)
  have c1 := impl_HistoryOf_ev name h (by omega)
  have c2 := spec_HistoryOf_ev name h (by omega)
  refine Ev.step (fun k => laws_FnAsOf.j4.eq_2 ..) (ev_bind d1 (ev_bind a2 (ev_bind a1 (ev_bind d2 (ev_bind b1 (ev_bind b2 (ev_bind d3 (ev_bind c1 (ev_bind c2 ?_)))))))))
  refine ev_if_neg (by simp) (ev_if_pos rfl (ev_if_neg (by simp) (ev_if_neg (by simp) (ev_bind (sameTexts_ev _ (keysL_length n when_ (by omega))) (ev_if_pos rfl (ev_if_neg (by simp) (ev_bind (sameV_ev _ (hisL_length h name (by omega))) ?_)))))))
  refine Ev.step (fun k => laws_FnAsOf.j5.eq_2 ..) (ev_if_neg (by simp) ?_)
  by_cases hk : (goodVsn n && goodT when_) = true
  · have e : keysL n when_ = (keysR n when_ none [] n, true) := by unfold keysL; rw [if_pos hk]
    rw [e]
    simp only [Bool.and_eq_true, goodT, decide_eq_true_eq] at hk
    exact ev_if_pos rfl (asof_l1 n hk.1 when_ hk.2.1 hk.2.2 n 0 rfl)
  · have e : keysL n when_ = ([], false) := by unfold keysL; rw [if_neg hk]
    rw [e]
    exact ev_if_neg (by simp) (ev_some rfl)
theorem asof_l0 {more : List Int} (hm : Bytes more) (a b : List (S48)) (x : S48) (hl : goodVsn (a ++ b) = true) (hp : goodVsn (a ++ x :: b) = true) (hx : goodV x = true) : ∀ (d i : Nat), 40 - i = d → i ≤ 40 →
    Ev (fun k => laws_FnAsOf.l0 k more (a ++ b) (a ++ x :: b) i x.f0 x.f1 x.f2 x.f3) true := by
  intro d
  obtain ⟨gK, g0, g1⟩ := goodV_K hx
  have len1 := ((goodVsn_iff _).1 hl).2.2
  have len2 := ((goodVsn_iff _).1 hp).2.2
  have hend : ∀ i : Nat, Ev (fun k => laws_FnAsOf.j3 k more (a ++ b) (a ++ x :: b) i false x.f0 x.f1 x.f2 x.f3) true := by
    intro i
    have c1 := impl_HistoryOf_ev x.f0 (a ++ x :: b) (by omega)
    have c2 := impl_HistoryOf_ev x.f0 (a ++ b) (by omega)
    have e1 : hisL (a ++ x :: b) x.f0 = (hisR x.f0 (a ++ x :: b), true) := by unfold hisL; rw [hp, gK]; rfl
    have e2 : hisL (a ++ b) x.f0 = (hisR x.f0 (a ++ b), true) := by unfold hisL; rw [hl, gK]; rfl
    rw [e1] at c1
    rw [e2] at c2
    have hlen : (hisR x.f0 (a ++ x :: b)).length = (hisR x.f0 (a ++ b)).length + 1 := by
      unfold hisR
      rw [List.filter_append, List.filter_append, List.filter_cons, if_pos (by simp), List.length_append, List.length_append, List.length_cons]
      omega
    have hle : (hisR x.f0 (a ++ b)).length ≤ (a ++ b).length := by unfold hisR; exact List.length_filter_le _ _
    refine Ev.step (fun k => laws_FnAsOf.j3.eq_2 ..) (ev_if_neg (by simp) (ev_bind c1 (ev_bind c2 (ev_if_pos rfl (ev_if_pos rfl (ev_if_pos ?_ (asof_j4 hm)))))))
    show ((hisR x.f0 (a ++ x :: b)).length : Int) = wrap64 (((hisR x.f0 (a ++ b)).length : Int) + 1)
    rw [wrap_succ (by omega), hlen]
  induction d with
  | zero =>
    intro i hd hi
    obtain rfl : i = 40 := by omega
    by_cases hat : ((40 : Nat) : Int) < x.f1
    · refine Ev.step (fun k => laws_FnAsOf.l0.eq_2 ..) (ev_if_pos hat ?_)
      exact hend 40
    · exact Ev.step (fun k => laws_FnAsOf.l0.eq_2 ..) (ev_if_neg hat (hend 40))
  | succ d ih =>
    intro i hd hi
    by_cases hat : (i : Int) < x.f1
    · refine Ev.step (fun k => laws_FnAsOf.l0.eq_2 ..) (ev_if_pos hat ?_)
      have e40 : decide ((i : Int) < 40) = true := decide_eq_true (by omega)
      rw [e40]
      have a1 := (asof_both (a ++ b) x.f0 i (by omega)).2
      have a2 := (asof_both (a ++ x :: b) x.f0 i (by omega)).2
      rw [asofA_good hl gK (by omega) (by omega)] at a1
      rw [asofA_good hp gK (by omega) (by omega), asOf_old hat] at a2
      refine Ev.step (fun k => laws_FnAsOf.j3.eq_2 ..) (ev_if_pos rfl (ev_bind a1 (ev_bind a2 (ev_if_pos rfl (ev_if_pos rfl (ev_if_pos rfl (ev_if_neg (by simp) ?_)))))))
      rw [wrap_succ (by omega)]
      exact ih (i + 1) (by omega) (by omega)
    · exact Ev.step (fun k => laws_FnAsOf.l0.eq_2 ..) (ev_if_neg hat (hend i))
theorem FnAsOf : laws_FnAsOf.Pure := by
  intro code more _ _ hc _ _ hm
  have hc : Bytes code := fun x hx => wf_u8 (hc x hx)
  have hm : Bytes more := fun x hx => wf_u8 (hm x hx)
  suffices h : Ev (fun k => laws_FnAsOf.f k code more) true by
    obtain ⟨K, h⟩ := h
    exact ⟨K, h K (Nat.le_refl _)⟩
  unfold laws_FnAsOf.f
  by_cases hbig : (wrap64 ((code.length : Int) + (more.length : Int))) > 1048576
  · exact ev_if_pos hbig (ev_some rfl)
  refine ev_if_neg hbig ?_
  obtain ⟨l, x0, x1, x2, x3, d, hl⟩ := drawPutV_ok hc
  have k1 := spec_PutVersion_ev l ⟨x0, x1, x2, x3⟩ (by omega)
  have k2 := impl_PutVersion_ev l ⟨x0, x1, x2, x3⟩ (by omega)
  have g1 := impl_GoodVersions_ev l (by omega)
  have g2 := spec_GoodVersions_ev l (by omega)
  have s1 := sameV_ev _ (putR_length l ⟨x0, x1, x2, x3⟩)
  refine ev_bind d (ev_bind k2 (ev_bind k1 (ev_if_neg (by simp) (ev_bind s1 (ev_if_pos rfl (ev_bind g1 (ev_bind g2 ?_)))))))
  rw [bne_self_eq_false]
  refine Ev.step (fun k => laws_FnAsOf.j0.eq_2 ..) (ev_if_neg (by simp) ?_)
  by_cases hp : (putR l ⟨x0, x1, x2, x3⟩).2 = true
  · refine ev_if_pos hp ?_
    obtain ⟨a, b, rfl, e, q1, q2, q3, q4⟩ := putR_true hp
    rw [e]
    obtain ⟨gK, g0, g1'⟩ := goodV_K q2
    have len2 := ((goodVsn_iff _).1 q3).2.2
    have a1 := (asof_both (a ++ (⟨x0, x1, x2, x3⟩ : S48) :: b) x0 x1 (by omega)).2
    rw [asofA_good q3 gK g0 g1', asOf_new (x := ⟨x0, x1, x2, x3⟩) q4] at a1
    have g3 := impl_GoodVersions_ev _ (show (a ++ (⟨x0, x1, x2, x3⟩ : S48) :: b).length ≤ 1048576 by omega)
    rw [q3] at g3
    refine ev_bind a1 (ev_bind g3 (ev_if_pos rfl (ev_if_pos rfl (ev_if_neg (by cases x2 <;> simp) ?_))))
    refine Ev.step (fun k => laws_FnAsOf.j1.eq_2 ..) (ev_if_neg (by simp) ?_)
    exact asof_l0 hm a b ⟨x0, x1, x2, x3⟩ q1 q3 q2 40 0 rfl (by omega)
  · exact ev_if_neg hp (asof_j4 hm)

end Go.Proofs.Ytabfkalcjfjkiaa.Pure
