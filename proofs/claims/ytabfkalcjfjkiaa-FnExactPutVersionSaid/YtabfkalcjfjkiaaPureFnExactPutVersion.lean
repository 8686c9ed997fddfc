/- The law FnExactPutVersion holds at every input; no conditions. -/
import Derived.Test.YtabfkalcjfjkiaaQFnExactPutVersionx13
import Derived.Test.YtabfkalcjfjkiaaBase
import Derived.OpenShut
import Derived.Test.YtabfkalcjfjkiaaStable
import Derived.Test.YtabfkalcjfjkiaaMerge
namespace Go.Proofs.Ytabfkalcjfjkiaa.Pure
open Go.RowKit Go.Proofs.Ytabfkalcjfjkiaa.QFnExactPutVersion Go.Proofs.YtabfkalcjfjkiaaW.PrintWords Go.Proofs.YtabfkalcjfjkiaaW.PrintLast Go.Proofs.Ytabfkalcjfjkiaa.Base
set_option linter.unusedSimpArgs false
set_option linter.unusedVariables false

def wf41 (x : S41) : Prop := x.f0.size ≤ 9223372036854775807 ∧ (Lit.int .i64 x.f1).wf = true ∧ True ∧ x.f3.size ≤ 9223372036854775807
def laws_FnExactPutVersion.Pure : Prop := ∀ (l0 : List (S41)) (s1_0 : ByteArray) (s1_1 : Int) (s1_2 : Bool) (s1_3 : ByteArray), (l0.length ≤ 9223372036854775807 ∧ ∀ y ∈ l0, wf41 y) → s1_0.size ≤ 9223372036854775807 → (Lit.int .i64 s1_1).wf = true → s1_3.size ≤ 9223372036854775807 → ∃ k, laws_FnExactPutVersion.f k l0 s1_0 s1_1 s1_2 s1_3 = some true

/-! ### good versions -/
def goodK (k : ByteArray) : Bool := decide (1 ≤ k.size) && decide (k.size ≤ 12)
def goodV (x : S48) : Bool := goodK x.f0 && (decide (x.f3.size ≤ 12) && ((decide (0 ≤ x.f1) && decide (x.f1 ≤ 1000000)) && (!x.f2 || decide (x.f3.size = 0))))
def lessV (a b : S48) : Bool := Op.bytesLess a.f0.toList b.f0.toList || (decide (a.f0 = b.f0) && decide (a.f1 < b.f1))
def chainV : Option (S48) → List (S48) → Bool
  | _, [] => true
  | none, x :: l => goodV x && chainV (some x) l
  | some p, x :: l => goodV x && (lessV p x && chainV (some x) l)
def goodVsn (l : List (S48)) : Bool := chainV none l && decide (l.length ≤ 60)
theorem beq_nil_size (s : ByteArray) : (s.toList == ([] : List UInt8)) = decide (s.size = 0) := by
  by_cases h : s.size = 0
  · rw [(toList_nil s).2 h, decide_eq_true h]; rfl
  · rw [decide_eq_false h]
    cases hc : s.toList with
    | nil => exact absurd ((toList_nil s).1 hc) h
    | cons a l => rfl
theorem bne_nil_size (s : ByteArray) : (s.toList != ([] : List UInt8)) = decide (1 ≤ s.size) := by
  show (!(s.toList == ([] : List UInt8))) = _
  rw [beq_nil_size]
  by_cases h : s.size = 0
  · simp [h]
  · have : 1 ≤ s.size := by omega
    simp only [decide_eq_false h, decide_eq_true this, Bool.not_false]
theorem size_le_cast (s : ByteArray) (n : Nat) : decide ((s.size : Int) ≤ (n : Int)) = decide (s.size ≤ n) := by
  by_cases h : s.size ≤ n
  · rw [decide_eq_true h, decide_eq_true (by omega)]
  · rw [decide_eq_false h, decide_eq_false (by omega)]
theorem len_le_cast {α : Type} (l : List α) (n : Nat) : decide ((l.length : Int) ≤ (n : Int)) = decide (l.length ≤ n) := by
  by_cases h : l.length ≤ n
  · rw [decide_eq_true h, decide_eq_true (by omega)]
  · rw [decide_eq_false h, decide_eq_false (by omega)]

/-! ### comparing -/
def cmpI (a b : Int) : Int := if a < b then -1 else if a > b then 1 else 0
def cmpT (a b : ByteArray) : Int := if Op.bytesLess a.toList b.toList = true then -1 else if Op.bytesLess b.toList a.toList = true then 1 else 0
theorem cmpBytes_eq : ∀ x y : List UInt8, Lib.compareBytes x y = if Op.bytesLess x y = true then -1 else if Op.bytesLess y x = true then 1 else 0
  | [], [] => rfl
  | [], b :: y => rfl
  | a :: x, [] => rfl
  | a :: x, b :: y => by
    have ih := cmpBytes_eq x y
    by_cases h1 : a < b
    · have h3 : ¬ b < a := UInt8.lt_asymm h1
      simp [Lib.compareBytes, Op.bytesLess, h1, h3]
    · by_cases h2 : b < a
      · have h3 : b ≠ a := UInt8.ne_of_lt h2
        simp [Lib.compareBytes, Op.bytesLess, h1, h2, Ne.symm h3]
      · have h3 : a = b := UInt8.le_antisymm (UInt8.not_lt.1 h2) (UInt8.not_lt.1 h1)
        subst h3
        simp [Lib.compareBytes, Op.bytesLess, ih]
theorem cmpB_eq (a b : ByteArray) : Go.Proofs.Ytabfkalcjfjkiaa.Ext.cmpB a b = cmpT a b := by
  unfold Go.Proofs.Ytabfkalcjfjkiaa.Ext.cmpB cmpT
  rw [cmpBytes_eq, toList_data, toList_data]
theorem strings_Compare_eq (a b : ByteArray) : strings_Compare.f a b = some (cmpT a b) := by
  unfold strings_Compare.f bytealg_CompareString.f
  rw [Option.bind_some, cmpB_eq]
theorem cmp_Compare_eq (a b : Int) : cmp_Compare_int.f a b = some (cmpI a b) := by
  unfold cmp_Compare_int.f cmp_isNaN_int.f cmpI
  by_cases h1 : a < b
  · simp [h1]
  · by_cases h2 : b < a <;> simp [h1, h2]
/-- The first one that is not 0. -/
def orL : List Int → Int
  | [] => 0
  | x :: l => if x = 0 then orL l else x
theorem cmp_Or_loop (l : List Int) (hl : l.length ≤ 1000) : ∀ (rest : List Int) (i : Nat), l.drop i = rest → Ev (fun k => cmp_Or_int.l0 k 0 l l.length i) (orL rest)
  | [], i, hd => by
    have h := drop_nil hd
    exact Ev.step (fun k => cmp_Or_int.l0.eq_2 ..) (ev_if_neg (by omega) (ev_some rfl))
  | x :: rest, i, hd => by
    obtain ⟨hi, hd', hx⟩ := drop_cons hd
    have hx : rd l i = x := hx 0
    refine Ev.step (fun k => cmp_Or_int.l0.eq_2 ..) (ev_if_pos (by omega) (ev_if_pos (by omega) (ev_if_pos (by omega) ?_)))
    rw [hx, wrap_succ (by omega)]
    unfold orL
    exact ev_ite (fun _ => cmp_Or_loop l hl rest (i + 1) hd') (fun _ => ev_some rfl)
theorem cmp_Or_ev (l : List Int) (hl : l.length ≤ 1000) : Ev (fun k => cmp_Or_int.f k l) (orL l) := cmp_Or_loop l hl l 0 rfl
theorem cmpI_zero (a b : Int) : cmpI a b = 0 ↔ a = b := by
  unfold cmpI
  by_cases h1 : a < b
  · simp [h1]; omega
  · by_cases h2 : b < a
    · simp [h1, h2]; omega
    · simp [h1, h2]; omega

/-! ### Version: sizes -/
theorem szVersion_ev (x : S41) (left : Int) (h0 : 0 ≤ left) (h1 : left ≤ 1048576) (hw : x.f0.size ≤ 9223372036854775807 ∧ x.f3.size ≤ 9223372036854775807) : ∃ r, laws_szVersion.f x.f0 x.f1 x.f2 x.f3 left = some r ∧ r ≤ 1048576 ∧ (0 ≤ r → x.f0.size ≤ 1048576 ∧ x.f3.size ≤ 1048576) := by
  unfold laws_szVersion.f
  have e : wrap64 (left - (x.f0.size : Int)) = left - x.f0.size := wrap_id (by omega) (by omega)
  rw [e]
  by_cases h : left - (x.f0.size : Int) < 0
  · exact ⟨-1, by rw [if_pos h], by omega, fun h => by omega⟩
  · have e2 : wrap64 (left - (x.f0.size : Int) - (x.f3.size : Int)) = left - x.f0.size - x.f3.size := wrap_id (by omega) (by omega)
    rw [if_neg h, e2]
    by_cases h2 : left - (x.f0.size : Int) - (x.f3.size : Int) < 0
    · exact ⟨-1, by rw [if_pos h2], by omega, fun h => by omega⟩
    · exact ⟨_, by rw [if_neg h2], by omega, fun _ => by omega⟩
theorem szVersionS_loop (l : List (S41)) (hl : l.length ≤ 1048576) (hw : ∀ x ∈ l, x.f0.size ≤ 9223372036854775807 ∧ x.f3.size ≤ 9223372036854775807) : ∀ (rest : List (S41)) (i : Nat) (left : Int), l.drop i = rest → 0 ≤ left → left ≤ 1048576 →
    ∃ r, Ev (fun k => laws_szVersionS.l0 k l left i) r ∧ r ≤ 1048576 ∧ (0 ≤ r → ∀ x ∈ rest, x.f0.size ≤ 1048576 ∧ x.f3.size ≤ 1048576)
  | [], i, left, hd, h0, h1 => by
    have h := drop_nil hd
    exact ⟨left, Ev.step (fun k => laws_szVersionS.l0.eq_2 ..) (ev_if_neg (by omega) (ev_some rfl)), h1, fun _ s hs => by simp at hs⟩
  | s :: rest, i, left, hd, h0, h1 => by
    obtain ⟨hi, hd', hx⟩ := drop_cons hd
    have hx : rd_T41 l i = s := hx _
    have hs : s ∈ l := List.mem_of_mem_drop (by rw [hd]; exact List.mem_cons_self)
    obtain ⟨q, hq, hq1, hq2⟩ := szVersion_ev s left h0 h1 (hw s hs)
    by_cases hn : q < 0
    · refine ⟨-1, Ev.step (fun k => laws_szVersionS.l0.eq_2 ..) (ev_if_pos (by omega) (ev_if_pos (by omega) ?_)), by omega, fun h => by omega⟩
      simp only [hx, hq, Option.bind_some]
      exact ev_if_pos hn (ev_some rfl)
    · obtain ⟨r, hr, hb, hall⟩ := szVersionS_loop l hl hw rest (i + 1) q hd' (by omega) hq1
      refine ⟨r, Ev.step (fun k => laws_szVersionS.l0.eq_2 ..) (ev_if_pos (by omega) (ev_if_pos (by omega) ?_)), hb, fun h t ht => ?_⟩
      · simp only [hx, hq, Option.bind_some]
        rw [wrap_succ (by omega)]
        exact ev_if_neg hn hr
      · rcases List.mem_cons.1 ht with rfl | ht
        · exact hq2 (by omega)
        · exact hall h t ht
theorem szVersionS_ev (l : List (S41)) (left : Int) (h0 : 0 ≤ left) (h1 : left ≤ 1048576) (hl : l.length ≤ 9223372036854775807) (hw : ∀ x ∈ l, x.f0.size ≤ 9223372036854775807 ∧ x.f3.size ≤ 9223372036854775807) :
    ∃ r, Ev (fun k => laws_szVersionS.f k l left) r ∧ r ≤ 1048576 ∧ (0 ≤ r → l.length ≤ 1048576 ∧ ∀ x ∈ l, x.f0.size ≤ 1048576 ∧ x.f3.size ≤ 1048576) := by
  unfold laws_szVersionS.f
  have e : wrap64 (left - (l.length : Int)) = left - l.length := wrap_id (by omega) (by omega)
  simp only [e]
  by_cases hn : left - (l.length : Int) < 0
  · exact ⟨-1, ev_if_pos hn (ev_some rfl), by omega, fun h => by omega⟩
  · obtain ⟨r, hr, hb, hall⟩ := szVersionS_loop l (by omega) hw l 0 (left - l.length) rfl (by omega) (by omega)
    exact ⟨r, ev_if_neg hn hr, hb, fun h => ⟨by omega, hall h⟩⟩

/-! ### Version: copied -/
def toVersion (x : S41) : S48 := ⟨x.f0, x.f1, x.f2, x.f3⟩
theorem toVersion_eq (x : S41) : laws_toVersion.f x.f0 x.f1 x.f2 x.f3 = some ((toVersion x).f0, (toVersion x).f1, (toVersion x).f2, (toVersion x).f3) := rfl
theorem toVersionS_loop (l : List (S41)) (hl : l.length ≤ 1048576) : ∀ (rest : List (S41)) (pre : List (S48)) (i : Nat), l.drop i = rest → pre.length = i →
    Ev (fun k => laws_toVersionS.l0 k l (pre ++ List.replicate rest.length z48) i) (pre ++ rest.map toVersion)
  | [], pre, i, hd, hp => by
    have h := drop_nil hd
    exact Ev.step (fun k => laws_toVersionS.l0.eq_2 ..) (ev_if_neg (by omega) (ev_some rfl))
  | s :: rest, pre, i, hd, hp => by
    obtain ⟨hi, hd', hx⟩ := drop_cons hd
    have hx : rd_T41 l i = s := hx _
    refine Ev.step (fun k => laws_toVersionS.l0.eq_2 ..) (ev_if_pos (by omega) (ev_if_pos (by omega) ?_))
    simp only [hx, toVersion_eq, Option.bind_some]
    refine ev_if_pos (by rw [List.length_append, List.length_replicate, List.length_cons]; omega) ?_
    rw [wrap_succ (by omega), Int.toNat_natCast, List.length_cons, List.replicate_succ]
    subst hp
    rw [set_at]
    have := toVersionS_loop l hl rest (pre ++ [toVersion s]) (pre.length + 1) hd' (by simp)
    simpa using this
theorem toVersionS_ev (l : List (S41)) (hl : l.length ≤ 1048576) : Ev (fun k => laws_toVersionS.f k l) (l.map toVersion) := by
  unfold laws_toVersionS.f
  refine ev_if_pos (by omega) (ev_if_pos (by omega) ?_)
  rw [Int.toNat_natCast]
  exact toVersionS_loop l hl l [] 0 rfl rfl

/-! ### Version: alike -/
theorem eqVersion_eq (x : S48) : laws_eqVersion.f x.f0 x.f1 x.f2 x.f3 x.f0 x.f1 x.f2 x.f3 = some true := by
  unfold laws_eqVersion.f
  simp
theorem eqVersionS_loop (l : List (S48)) (hl : l.length ≤ 1152921504606846976) : ∀ (rest : List (S48)) (i : Nat), l.drop i = rest → Ev (fun k => laws_eqVersionS.l0 k l l i) true
  | [], i, hd => by
    have h := drop_nil hd
    exact Ev.step (fun k => laws_eqVersionS.l0.eq_2 ..) (ev_if_neg (by omega) (ev_some rfl))
  | s :: rest, i, hd => by
    obtain ⟨hi, hd', hx⟩ := drop_cons hd
    have hx : rd_T48 l i = s := hx _
    refine Ev.step (fun k => laws_eqVersionS.l0.eq_2 ..) (ev_if_pos (by omega) (ev_if_pos (by omega) (ev_if_pos (by omega) ?_)))
    simp only [hx, eqVersion_eq, Option.bind_some]
    rw [wrap_succ (by omega)]
    exact ev_if_pos (by simp) (eqVersionS_loop l hl rest (i + 1) hd')
theorem eqVersionS_ev (l : List (S48)) (hl : l.length ≤ 1152921504606846976) : Ev (fun k => laws_eqVersionS.f k l l) true := by
  unfold laws_eqVersionS.f
  exact ev_if_pos rfl (eqVersionS_loop l hl l 0 rfl)

theorem spec_l5Pair_eq (k v : ByteArray) : spec_l5Pair.f k v = some (decide (k.size ≤ 12) && (decide (v.size ≤ 12) && decide (1 ≤ k.size))) := by
  unfold spec_l5Pair.f spec_l5Text.f
  have h1 : decide ((k.size : Int) ≤ 12) = decide (k.size ≤ 12) := size_le_cast k 12
  have h2 : decide ((v.size : Int) ≤ 12) = decide (v.size ≤ 12) := size_le_cast v 12
  simp only [bne_nil_size, h1, h2, Option.bind_some]
  cases decide (k.size ≤ 12) <;> cases decide (v.size ≤ 12) <;> simp
theorem spec_l14One_eq (x : S48) : spec_l14One.f x.f0 x.f1 x.f2 x.f3 = some (goodV x) := by
  unfold spec_l14One.f spec_l1In.f goodV goodK
  simp only [spec_l5Pair_eq, beq_nil_size, Option.bind_some]
  generalize decide (x.f0.size ≤ 12) = b1
  generalize decide (x.f3.size ≤ 12) = b2
  generalize decide (1 ≤ x.f0.size) = b3
  generalize decide (x.f3.size = 0) = b4
  generalize x.f2 = b5
  by_cases h1 : 0 ≤ x.f1
  · by_cases h2 : x.f1 ≤ 1000000 <;> cases b1 <;> cases b2 <;> cases b3 <;> cases b4 <;> cases b5 <;> simp [h1, h2]
  · cases b1 <;> cases b2 <;> cases b3 <;> cases b4 <;> cases b5 <;> simp [h1]
theorem spec_l14Less_eq (a b : S48) : spec_l14Less.f a.f0 a.f1 a.f2 a.f3 b.f0 b.f1 b.f2 b.f3 = some (lessV a b) := by
  unfold spec_l14Less.f lessV
  by_cases h1 : Op.bytesLess a.f0.toList b.f0.toList = true
  · simp [h1]
  · by_cases h2 : a.f0 = b.f0
    · have h2' : a.f0.toList = b.f0.toList := by rw [h2]
      have h1' : Op.bytesLess a.f0.toList b.f0.toList = false := by simpa using h1
      simp only [h1', h2', h2, if_true, decide_true, Bool.true_and, Bool.false_or, Bool.false_eq_true, if_false]
      have h3 : Op.bytesLess b.f0.toList b.f0.toList = false := by rw [← h2', ← h1']; rw [h2]
      simp [h3]
    · have h2' : ¬ a.f0.toList = b.f0.toList := fun h => h2 (toList_inj.1 h)
      simp [h1, h2, h2']
theorem spec_GoodVersions_loop (l : List (S48)) (hl : l.length ≤ 1048576) : ∀ (rest pre : List (S48)), l = pre ++ rest →
    Ev (fun k => spec_GoodVersions.l0 k l l l.length pre.length) (chainV pre.getLast? rest && decide (l.length ≤ 60))
  | [], pre, hd => by
    have e : l.length = pre.length := by rw [hd]; simp
    refine Ev.step (fun k => spec_GoodVersions.l0.eq_2 ..) (ev_if_neg (by omega) (ev_some ?_))
    have h2 : decide ((l.length : Int) ≤ 60) = decide (l.length ≤ 60) := len_le_cast l 60
    rw [h2]
    cases pre.getLast? <;> simp [chainV]
  | x :: rest, pre, hd => by
    obtain ⟨hi, hx⟩ := mid_at hd
    have hx : rd_T48 l pre.length = x := hx _
    refine Ev.step (fun k => spec_GoodVersions.l0.eq_2 ..) (ev_if_pos (by omega) (ev_if_pos (by omega) (ev_if_pos (by omega) ?_)))
    simp only [hx, spec_l14One_eq, Option.bind_some]
    have ih := spec_GoodVersions_loop l hl rest (pre ++ [x]) (by rw [hd]; simp)
    rw [List.length_append, List.length_singleton] at ih
    simp only [List.getLast?_append, List.getLast?_singleton, Option.some_or] at ih
    cases hg : goodV x with
    | true =>
      refine ev_if_pos rfl ?_
      rcases nil_or_snoc pre with rfl | ⟨q, p, rfl⟩
      · refine ev_if_neg (by simp) ?_
        rw [wrap_succ (by omega)]
        refine ev_eq ih ?_
        simp [chainV, hg]
      · have hlast := last_at hd z48
        have hlast : rd_T48 l (((q ++ [p]).length : Int) - 1) = p := hlast
        have hpos : ((q ++ [p]).length : Int) > 0 := by rw [List.length_append, List.length_singleton]; omega
        rw [wrap_id (x := ((q ++ [p]).length : Int) - 1) (by omega) (by omega)]
        simp only [hlast, spec_l14Less_eq, Option.bind_some]
        refine ev_if_pos hpos (ev_if_pos (by omega) (ev_if_pos (by omega) ?_))
        cases h4 : lessV p x with
        | true =>
          refine ev_if_pos rfl ?_
          rw [wrap_succ (by omega)]
          refine ev_eq ih ?_
          simp [chainV, hg, h4]
        | false =>
          refine ev_if_neg (by simp) (ev_some ?_)
          simp [chainV, h4]
    | false =>
      refine ev_if_neg (by simp) (ev_some ?_)
      rcases nil_or_snoc pre with rfl | ⟨q, p, rfl⟩ <;> simp [chainV, hg]
theorem spec_GoodVersions_ev (l : List (S48)) (hl : l.length ≤ 1048576) : Ev (fun k => spec_GoodVersions.f k l) (goodVsn l) :=
  spec_GoodVersions_loop l hl l [] rfl

theorem impl_isKey_eq (k : ByteArray) : impl_isKey.f k = some (goodK k) := by
  unfold impl_isKey.f impl_within.f goodK
  have h1 : decide ((k.size : Int) ≤ 12) = decide (k.size ≤ 12) := size_le_cast k 12
  by_cases h : 1 ≤ k.size
  · have h' : (k.size : Int) ≥ 1 := by omega
    simp only [h', if_true, h1, Option.bind_some, decide_eq_true h, Bool.true_and]
  · have h' : ¬ (k.size : Int) ≥ 1 := by omega
    simp only [h', if_false, Option.bind_some, decide_eq_false h, Bool.false_and]
theorem impl_isVersion_eq (x : S48) : impl_isVersion.f x.f0 x.f1 x.f2 x.f3 = some (goodV x) := by
  unfold impl_isVersion.f impl_within.f impl_isVal.f goodV
  have h3 : decide ((x.f3.size : Int) ≤ 12) = decide (x.f3.size ≤ 12) := size_le_cast x.f3 12
  simp only [impl_isKey_eq, beq_nil_size, h3, Option.bind_some]
  generalize goodK x.f0 = b1
  generalize decide (x.f3.size ≤ 12) = b2
  generalize decide (x.f3.size = 0) = b4
  generalize x.f2 = b5
  by_cases h1 : 0 ≤ x.f1
  · by_cases h2 : x.f1 ≤ 1000000 <;> cases b1 <;> cases b2 <;> cases b4 <;> cases b5 <;> simp [h1, h2]
  · cases b1 <;> cases b2 <;> cases b4 <;> cases b5 <;> simp [h1]
def cmpVn (a b : S48) : Int := orL [cmpT a.f0 b.f0, cmpI a.f1 b.f1]
theorem impl_compareVn_ev (a b : S48) : Ev (fun k => impl_Version_compare.f k a.f0 a.f1 a.f2 a.f3 b.f0 b.f1 b.f2 b.f3) (cmpVn a b) := by
  unfold impl_Version_compare.f
  simp only [cmp_Compare_eq, strings_Compare_eq, Option.bind_some]
  exact ev_bind (cmp_Or_ev _ (by simp)) (ev_some rfl)
theorem bl_total : ∀ x y : List UInt8, Op.bytesLess x y = false → Op.bytesLess y x = false → x = y
  | [], [], _, _ => rfl
  | [], b :: y, h, _ => by simp [Op.bytesLess] at h
  | a :: x, [], _, h => by simp [Op.bytesLess] at h
  | a :: x, b :: y, h, k => by
    simp only [Op.bytesLess, Bool.or_eq_false_iff, decide_eq_false_iff_not, Bool.and_eq_false_iff] at h k
    have e : a = b := UInt8.le_antisymm (UInt8.not_lt.1 k.1) (UInt8.not_lt.1 h.1)
    subst e
    have h2 : Op.bytesLess x y = false := by rcases h.2 with h | h; · simp at h
                                             · exact h
    have k2 : Op.bytesLess y x = false := by rcases k.2 with h | h; · simp at h
                                             · exact h
    rw [bl_total x y h2 k2]
theorem bl_irrefl : ∀ x : List UInt8, Op.bytesLess x x = false
  | [] => rfl
  | a :: x => by simp [Op.bytesLess, bl_irrefl x]
theorem cmpT_zero (a b : ByteArray) : cmpT a b = 0 ↔ a = b := by
  unfold cmpT
  by_cases h1 : Op.bytesLess a.toList b.toList = true
  · simp only [h1, if_true]
    constructor
    · intro h; cases h
    · intro h; subst h; rw [bl_irrefl] at h1; cases h1
  · by_cases h2 : Op.bytesLess b.toList a.toList = true
    · simp only [h1, h2, if_true, if_false]
      constructor
      · intro h; cases h
      · intro h; subst h; rw [bl_irrefl] at h2; cases h2
    · simp only [h1, h2, if_false, true_iff, Bool.false_eq_true]
      exact toList_inj.1 (bl_total _ _ (by simpa using h1) (by simpa using h2))
theorem cmpVn_neg (a b : S48) : (cmpVn a b ≥ 0) = (lessV a b = false) := by
  unfold cmpVn lessV
  simp only [orL]
  by_cases h0 : a.f0 = b.f0
  · have e := (cmpT_zero a.f0 b.f0).2 h0
    have hb : Op.bytesLess a.f0.toList b.f0.toList = false := by rw [h0, bl_irrefl]
    rw [if_pos e]
    unfold cmpI
    by_cases h1 : a.f1 < b.f1
    · simp [hb, h0, h1]
    · by_cases h2 : b.f1 < a.f1 <;> simp [hb, h0, h1, h2, bl_irrefl]
  · have e : ¬ cmpT a.f0 b.f0 = 0 := fun h => h0 ((cmpT_zero _ _).1 h)
    rw [if_neg e]
    unfold cmpT at e ⊢
    by_cases h1 : Op.bytesLess a.f0.toList b.f0.toList = true
    · simp [h1]
    · by_cases h2 : Op.bytesLess b.f0.toList a.f0.toList = true
      · simp [h1, h2, h0]
      · simp [h1, h2] at e
theorem impl_GoodVersions_loop (l : List (S48)) (hl : l.length ≤ 1048576) : ∀ (rest pre : List (S48)), l = pre ++ rest →
    Ev (fun k => impl_GoodVersions.l0 k l l l.length pre.length) (chainV pre.getLast? rest && decide (l.length ≤ 60))
  | [], pre, hd => by
    have e : l.length = pre.length := by rw [hd]; simp
    refine Ev.step (fun k => impl_GoodVersions.l0.eq_2 ..) (ev_if_neg (by omega) (ev_some ?_))
    have h2 : decide ((l.length : Int) ≤ 60) = decide (l.length ≤ 60) := len_le_cast l 60
    rw [h2]
    cases pre.getLast? <;> simp [chainV]
  | x :: rest, pre, hd => by
    obtain ⟨hi, hx⟩ := mid_at hd
    have hx : rd_T48 l pre.length = x := hx _
    refine Ev.step (fun k => impl_GoodVersions.l0.eq_2 ..) (ev_if_pos (by omega) (ev_if_pos (by omega) (ev_if_pos (by omega) ?_)))
    simp only [hx, impl_isVersion_eq, Option.bind_some]
    have ih := impl_GoodVersions_loop l hl rest (pre ++ [x]) (by rw [hd]; simp)
    rw [List.length_append, List.length_singleton] at ih
    simp only [List.getLast?_append, List.getLast?_singleton, Option.some_or] at ih
    cases hg : goodV x with
    | true =>
      refine ev_if_pos rfl ?_
      rcases nil_or_snoc pre with rfl | ⟨q, p, rfl⟩
      · refine ev_if_neg (by simp) ?_
        rw [wrap_succ (by omega)]
        refine ev_eq ih ?_
        simp [chainV, hg]
      · have hlast := last_at hd z48
        have hlast : rd_T48 l (((q ++ [p]).length : Int) - 1) = p := hlast
        have hpos : ((q ++ [p]).length : Int) > 0 := by rw [List.length_append, List.length_singleton]; omega
        rw [wrap_id (x := ((q ++ [p]).length : Int) - 1) (by omega) (by omega), hlast]
        refine ev_if_pos hpos (ev_if_pos (by omega) (ev_if_pos (by omega) (ev_bind (impl_compareVn_ev p x) ?_)))
        cases h4 : lessV p x with
        | true =>
          refine ev_if_neg (by rw [cmpVn_neg, h4]; simp) ?_
          rw [wrap_succ (by omega)]
          refine ev_eq ih ?_
          simp [chainV, hg, h4]
        | false =>
          refine ev_if_pos (by rw [cmpVn_neg, h4]) (ev_some ?_)
          simp [chainV, h4]
    | false =>
      refine ev_if_neg (by simp) (ev_some ?_)
      rcases nil_or_snoc pre with rfl | ⟨q, p, rfl⟩ <;> simp [chainV, hg]
theorem impl_GoodVersions_ev (l : List (S48)) (hl : l.length ≤ 1048576) : Ev (fun k => impl_GoodVersions.f k l) (goodVsn l) :=
  impl_GoodVersions_loop l hl l [] rfl

/-! ### marks -/
def mtN : Nat → Int → ByteArray → ByteArray
  | 0, _, acc => (⟨#[109]⟩ : ByteArray) ++ acc
  | f + 1, n, acc => if n > 0 then mtN f (n / 10) (strOfNums [(48 + n % 10) % 256] ++ acc) else (⟨#[109]⟩ : ByteArray) ++ acc
def mtx (n : Int) : ByteArray := if n ≤ 0 then ⟨#[109, 48]⟩ else mtN n.toNat n ⟨#[]⟩

theorem markText_loop : ∀ (f : Nat) (n : Int) (acc : ByteArray), 0 ≤ n → n ≤ f → acc.size + f ≤ 1152921504606846976 → Ev (fun k => laws_markText.l0 k n acc) (mtN f n acc)
  | 0, n, acc, h0, h1, h2 => by
    refine Ev.step (fun k => laws_markText.l0.eq_2 ..) (ev_if_neg (by omega) (ev_if_pos (by omega) (ev_some rfl)))
  | f + 1, n, acc, h0, h1, h2 => by
    refine Ev.step (fun k => laws_markText.l0.eq_2 ..) ?_
    unfold mtN
    by_cases hn : n > 0
    · refine ev_if_pos hn ?_
      rw [if_pos hn, tmod_nn (by omega), tdiv_nn (by omega), wrap_id (x := 48 + n % 10) (by omega) (by omega), wrap_id (x := n / 10) (by omega) (by omega)]
      simp only [Option.bind_some]
      exact ev_if_pos (by rw [one_size]; omega) (markText_loop f (n / 10) _ (by omega) (by omega) (by rw [size_append, one_size]; omega))
    · rw [if_neg hn]
      exact ev_if_neg hn (ev_if_pos (by omega) (ev_some rfl))
theorem markText_ev (n : Int) (h1 : n ≤ 576460752303423488) : Ev (fun k => laws_markText.f k n) (mtx n) := by
  unfold laws_markText.f mtx
  by_cases hn : n ≤ 0
  · rw [if_pos hn]; exact ev_if_pos hn (ev_some rfl)
  · rw [if_neg hn]; exact ev_if_neg hn (markText_loop n.toNat n ⟨#[]⟩ (by omega) (by omega) (by show 0 + _ ≤ _; omega))

def marksR : Nat → Nat → List ByteArray
  | 0, _ => []
  | d + 1, n => mtx n :: marksR d (n + 1)
theorem marksR_length : ∀ d n, (marksR d n).length = d
  | 0, _ => rfl
  | d + 1, n => by simp [marksR, marksR_length d (n + 1)]

/-! ### Version: marks -/
def mkVersion (n : Int) : S48 := ⟨mtx n, n + 1, Int.tmod (n + 2) 3 == 0, mtx (n + 3)⟩
def marksVersion : Nat → Nat → List (S48)
  | 0, _ => []
  | d + 1, n => mkVersion n :: marksVersion d (n + 4)
theorem marksVersion_length : ∀ d n, (marksVersion d n).length = d
  | 0, _ => rfl
  | d + 1, n => by simp [marksVersion, marksVersion_length d (n + 4)]
theorem rdVersion_mid (p : List (S48)) (x : S48) (q : List (S48)) : rd_T48 (p ++ x :: q) (p.length : Int) = x := (mid_at (l := p ++ x :: q) rfl).2 _
theorem wrap_four {n : Nat} (h : n ≤ 1073741824) : (Unit → wrap64 ((n : Int) + 1) = (n : Int) + 1) ∧ (Unit → wrap64 ((n : Int) + 1 + 1) = (n : Int) + 2) ∧ (Unit → wrap64 ((n : Int) + 2 + 1) = (n : Int) + 3) ∧ (Unit → wrap64 ((n : Int) + 3 + 1) = ((n + 4 : Nat) : Int)) :=
  ⟨fun _ => wrap_id (by omega) (by omega), fun _ => by rw [wrap_id (by omega) (by omega)]; omega, fun _ => by rw [wrap_id (by omega) (by omega)]; omega, fun _ => by rw [wrap_id (by omega) (by omega)]; omega⟩
theorem markVersionS_loop : ∀ (rest pre : List (S48)) (n : Nat), pre.length + rest.length ≤ 1073741824 → n + 4 * rest.length ≤ 1073741824 →
    Ev (fun k => laws_markVersionS.l0 k (pre ++ rest) n pre.length) (((n + 4 * rest.length : Nat) : Int), pre ++ marksVersion rest.length n)
  | [], pre, n, h1, h2 => by
    refine Ev.step (fun k => laws_markVersionS.l0.eq_2 ..) (ev_if_neg (by rw [List.append_nil]; omega) (ev_some (by simp [marksVersion])))
  | s :: rest, pre, n, h1, h2 => by
    rw [List.length_cons] at h1 h2
    obtain ⟨w1, w2, w3, w4⟩ := wrap_four (n := n) (by omega)
    refine Ev.step (fun k => laws_markVersionS.l0.eq_2 ..) (ev_if_pos (by rw [List.length_append, List.length_cons]; omega) (ev_bind (markText_ev n (by omega)) (ev_if_pos (by omega) ?_)))
    simp only [Option.bind_some, Int.toNat_natCast, set_at, rdVersion_mid, w1 (), w2 (), w3 (), w4 ()]
    refine ev_bind (markText_ev ((n : Int) + 3) (by omega)) ?_
    rw [wrap_succ (by omega)]
    have ih := markVersionS_loop rest (pre ++ [mkVersion n]) (n + 4) (by rw [List.length_append, List.length_singleton]; omega) (by omega)
    rw [List.append_assoc, List.length_append, List.length_singleton] at ih
    refine ev_eq ih ?_
    have e2 : n + 4 + 4 * rest.length = n + 4 * (rest.length + 1) := by omega
    simp only [List.length_cons, marksVersion, List.append_assoc, List.singleton_append, e2]
theorem markVersionS_ev (l : List (S48)) (n : Nat) (hb : 4 * l.length + n ≤ 1073741824) : Ev (fun k => laws_markVersionS.f k l n) (((n + 4 * l.length : Nat) : Int), marksVersion l.length n) := by
  unfold laws_markVersionS.f
  exact markVersionS_loop l [] n (by show 0 + _ ≤ _; omega) (by omega)

theorem heldVersionS_loop (l : List (S48)) (hl : l.length ≤ 1073741824) : ∀ (d n i : Nat), l.drop i = marksVersion d n → 4 * d + n ≤ 1073741824 → i + d = l.length →
    Ev (fun k => laws_heldVersionS.l0 k l n i) ((n + 4 * d : Nat) : Int)
  | 0, n, i, hd, hb, hi => by
    exact Ev.step (fun k => laws_heldVersionS.l0.eq_2 ..) (ev_if_neg (by omega) (ev_some rfl))
  | d + 1, n, i, hd, hb, hi => by
    obtain ⟨hi', hd', hx⟩ := drop_cons hd
    have hx : rd_T48 l i = mkVersion n := hx _
    obtain ⟨w1, w2, w3, w4⟩ := wrap_four (n := n) (by omega)
    refine Ev.step (fun k => laws_heldVersionS.l0.eq_2 ..) (ev_if_pos (by omega) (ev_if_pos (by omega) (ev_bind (markText_ev n (by omega)) ?_)))
    simp only [hx, w1 (), w2 (), w3 (), w4 (), mkVersion, bne_self_eq_false]
    refine ev_if_pos trivial (ev_if_pos trivial (ev_if_neg (by simp) (ev_bind (markText_ev ((n : Int) + 3) (by omega)) (ev_if_pos rfl ?_))))
    rw [wrap_succ (by omega)]
    refine ev_eq (heldVersionS_loop l hl d (n + 4) (i + 1) hd' (by omega) (by omega)) ?_
    congr 1
    omega
theorem heldVersionS_ev (d n : Nat) (hb : 4 * d + n ≤ 1073741824) : Ev (fun k => laws_heldVersionS.f k (marksVersion d n) n) ((n + 4 * d : Nat) : Int) := by
  unfold laws_heldVersionS.f
  exact heldVersionS_loop (marksVersion d n) (by rw [marksVersion_length]; omega) d n 0 rfl hb (by rw [marksVersion_length]; omega)

/-! ### by key and time -/
theorem bl_trans : ∀ x y z : List UInt8, Op.bytesLess x y = true → Op.bytesLess y z = true → Op.bytesLess x z = true
  | [], [], z, h, _ => by simp [Op.bytesLess] at h
  | [], _ :: _, [], _, k => by simp [Op.bytesLess] at k
  | [], _ :: _, _ :: _, _, _ => rfl
  | _ :: _, [], _, h, _ => by simp [Op.bytesLess] at h
  | _ :: _, _ :: _, [], _, k => by simp [Op.bytesLess] at k
  | a :: x, b :: y, c :: z, h, k => by
    simp only [Op.bytesLess, Bool.or_eq_true, decide_eq_true_eq, Bool.and_eq_true, beq_iff_eq] at h k ⊢
    rcases h with h | ⟨h, h'⟩
    · rcases k with k | ⟨k, k'⟩
      · exact .inl (UInt8.lt_trans h k)
      · exact .inl (k ▸ h)
    · rcases k with k | ⟨k, k'⟩
      · exact .inl (h ▸ k)
      · exact .inr ⟨h.trans k, bl_trans x y z h' k'⟩
theorem bl_asym (x y : List UInt8) (h : Op.bytesLess x y = true) : Op.bytesLess y x = false := by
  cases k : Op.bytesLess y x with
  | false => rfl
  | true => have := bl_trans x y x h k; rw [bl_irrefl] at this; cases this
theorem bl_neg (x y z : List UInt8) (h : Op.bytesLess x y = false) (k : Op.bytesLess y z = false) : Op.bytesLess x z = false := by
  cases hc : Op.bytesLess x z with
  | false => rfl
  | true =>
    cases h2 : Op.bytesLess y x with
    | true => have := bl_trans y x z h2 hc; rw [k] at this; cases this
    | false => have e := bl_total x y h h2; subst e; rw [k] at hc; cases hc
open Go.Proofs.Ytabfkalcjfjkiaa.Stable in
theorem lessV_weak : Weak lessV where
  asym := fun x y h => by
    simp only [lessV, Bool.or_eq_true, Bool.and_eq_true, decide_eq_true_eq, Bool.or_eq_false_iff, Bool.and_eq_false_iff, decide_eq_false_iff_not] at h ⊢
    rcases h with h | ⟨h1, h2⟩
    · refine ⟨bl_asym _ _ h, .inl (fun e => ?_)⟩
      rw [e, bl_irrefl] at h; cases h
    · rw [h1, bl_irrefl]
      exact ⟨rfl, .inr (by omega)⟩
  neg := fun x y z h k => by
    simp only [lessV, Bool.or_eq_false_iff, Bool.and_eq_false_iff, decide_eq_false_iff_not] at h k ⊢
    refine ⟨bl_neg _ _ _ h.1 k.1, ?_⟩
    by_cases e : x.f0 = z.f0
    · right
      by_cases e2 : x.f0 = y.f0
      · have e3 : y.f0 = z.f0 := e2.symm.trans e
        rcases h.2 with h2 | h2
        · exact absurd e2 h2
        · rcases k.2 with k2 | k2
          · exact absurd e3 k2
          · omega
      · exfalso
        apply e2
        have k1 := k.1
        rw [← e] at k1
        exact toList_inj.1 (bl_total _ _ h.1 k1)
    · exact .inl e
theorem cmp_ev (x y : S48) : ∃ r, Ev (fun k => impl_Version_compare.f k x.f0 x.f1 x.f2 x.f3 y.f0 y.f1 y.f2 y.f3) r ∧ decide (r < 0) = lessV x y := by
  refine ⟨_, impl_compareVn_ev x y, ?_⟩
  have h := cmpVn_neg x y
  cases hc : lessV x y with
  | true =>
    rw [hc] at h
    rw [decide_eq_true_eq]
    by_cases hn : cmpVn x y < 0
    · exact hn
    · exact absurd (h.mp (by omega)) (by simp)
  | false =>
    rw [hc] at h
    rw [decide_eq_false_iff_not]
    have := h.mpr rfl
    omega

/-! ### one version put in its place -/
open Go.Proofs.Ytabfkalcjfjkiaa.Stable Go.Proofs.Ytabfkalcjfjkiaa.Merge
instance : DecidableEq (S48) := fun a b => decidable_of_iff (a.f0 = b.f0 ∧ a.f1 = b.f1 ∧ a.f2 = b.f2 ∧ a.f3 = b.f3) (by
  cases a; cases b; simp)
theorem eqb (a b : S48) : ((a.f0.toList == b.f0.toList) && ((a.f1 == b.f1) && ((a.f2 == b.f2) && (a.f3.toList == b.f3.toList)))) = decide (a = b) := by
  by_cases h : a = b
  · subst h; simp
  · rw [decide_eq_false h]
    cases hc : ((a.f0.toList == b.f0.toList) && ((a.f1 == b.f1) && ((a.f2 == b.f2) && (a.f3.toList == b.f3.toList)))) with
    | false => rfl
    | true =>
      exfalso
      apply h
      simp only [Bool.and_eq_true, beq_iff_eq] at hc
      obtain ⟨h0, h1, h2, h3⟩ := hc
      cases a; cases b
      simp only at h0 h1 h2 h3
      rw [toList_inj.1 h0, h1, h2, toList_inj.1 h3]
theorem chainV_some : ∀ (l : List (S48)) (p : S48), chainV (some p) l = true ↔ (∀ x ∈ l, goodV x = true) ∧ Strict lessV (p :: l)
  | [], p => by simp [chainV, Strict]
  | x :: l, p => by
    have ih := chainV_some l x
    unfold chainV
    rw [Bool.and_eq_true, Bool.and_eq_true, ih]
    unfold Strict
    constructor
    · rintro ⟨h1, h2, h3, h4⟩
      refine ⟨fun z hz => ?_, ?_⟩
      · rcases List.mem_cons.1 hz with rfl | hz
        · exact h1
        · exact h3 z hz
      · rw [List.pairwise_cons]
        refine ⟨fun z hz => ?_, h4⟩
        rcases List.mem_cons.1 hz with rfl | hz
        · exact h2
        · rw [List.pairwise_cons] at h4
          exact lessV_weak.trans h2 (h4.1 z hz)
    · rintro ⟨h1, h2⟩
      rw [List.pairwise_cons] at h2
      exact ⟨h1 x (by simp), h2.1 x (by simp), fun z hz => h1 z (by simp [hz]), h2.2⟩
theorem chainV_none (l : List (S48)) : chainV none l = true ↔ (∀ x ∈ l, goodV x = true) ∧ Strict lessV l := by
  cases l with
  | nil => simp [chainV, Strict]
  | cons x l =>
    unfold chainV
    rw [Bool.and_eq_true, chainV_some]
    constructor
    · rintro ⟨h1, h2, h3⟩
      refine ⟨fun z hz => ?_, h3⟩
      rcases List.mem_cons.1 hz with rfl | hz
      · exact h1
      · exact h2 z hz
    · rintro ⟨h1, h2⟩
      exact ⟨h1 x (by simp), fun z hz => h1 z (by simp [hz]), h2⟩
theorem goodVsn_len {l : List (S48)} (h : goodVsn l = true) : l.length ≤ 60 := by
  simp only [goodVsn, Bool.and_eq_true, decide_eq_true_eq] at h
  exact h.2
theorem spec_put_loop (l : List (S48)) (hl : l.length ≤ 1048576) (x : S48) : ∀ (rest pre : List (S48)), l = pre ++ rest →
    Ev (fun k => spec_l14Put.l0 k l pre.length x.f0 x.f1 x.f2 x.f3) (match put lessV x rest with | some c => (pre ++ c, true) | none => (l, false))
  | [], pre, hd => by
    have e : l.length = pre.length := by rw [hd, List.append_nil]
    have e2 : l = pre := by rw [hd, List.append_nil]
    subst e2
    refine Ev.step (fun k => spec_l14Put.l0.eq_2 ..) (ev_if_neg (by omega) ?_)
    simp only [Option.bind_some, Int.toNat_natCast, List.take_length, List.drop_length, List.nil_append, List.length_nil, List.length_append, List.length_singleton, List.append_nil]
    refine ev_if_pos (by omega) (ev_if_pos (by omega) (ev_if_pos (by omega) (ev_if_pos (by omega) (ev_if_pos (by omega) (ev_some ?_)))))
    rfl
  | y :: rest, pre, hd => by
    obtain ⟨hi, hx⟩ := mid_at hd
    have hx : rd_T48 l pre.length = y := hx _
    refine Ev.step (fun k => spec_l14Put.l0.eq_2 ..) (ev_if_pos (by omega) (ev_if_pos (by omega) ?_))
    have e1 := spec_l14Less_eq y x
    have e2 := spec_l14Less_eq x y
    simp only [hx, e1, e2, Option.bind_some]
    unfold put
    by_cases h1 : lessV y x = true
    · refine ev_if_pos h1 ?_
      rw [wrap_succ (by omega)]
      have ih := spec_put_loop l hl x rest (pre ++ [y]) (by rw [hd]; simp)
      rw [List.length_append, List.length_singleton] at ih
      refine ev_eq ih ?_
      rw [if_pos h1]
      cases put lessV x rest <;> simp
    · refine ev_if_neg h1 ?_
      by_cases h2 : lessV x y = true
      · refine ev_if_pos h2 ?_
        have hlen : l.length = pre.length + (rest.length + 1) := by rw [hd]; simp
        have htake : l.take pre.length = pre := by rw [hd]; exact List.take_left' rfl
        have hdrop : l.drop pre.length = y :: rest := by rw [hd]; exact List.drop_left' rfl
        simp only [Option.bind_some, Int.toNat_natCast, htake, hdrop, List.nil_append, List.length_nil, List.length_append, List.length_singleton, List.length_cons]
        refine ev_if_pos (by omega) (ev_if_pos (by omega) (ev_if_pos (by omega) (ev_if_pos (by omega) (ev_some ?_))))
        rw [if_neg h1, if_pos h2]
        simp
      · refine ev_if_neg h2 (ev_some ?_)
        have e3 := eqb y x
        show (l, _) = _
        rw [e3, if_neg h1, if_neg h2]
        by_cases h3 : y = x
        · rw [if_pos h3, decide_eq_true h3, hd]
        · rw [if_neg h3, decide_eq_false h3]
theorem put_length (x : S48) : ∀ (l c : List (S48)), put lessV x l = some c → c.length ≤ l.length + 1
  | [], c, h => by injection h with h; subst h; simp
  | y :: l, c, h => by
    unfold put at h
    split at h
    · obtain ⟨c', hc', rfl⟩ := Option.map_eq_some_iff.1 h
      have := put_length x l c' hc'
      simp only [List.length_cons]; omega
    · split at h
      · injection h with h; subst h; simp
      · split at h
        · injection h with h; subst h; simp
        · cases h

theorem half_eq {i j : Nat} (h : i + j ≤ 4194304) : wrap64 ((IntKind.u64.wrap (wrap64 ((i : Int) + (j : Int)))) / 2) = (((i + j) / 2 : Nat) : Int) := by
  rw [wrap_id (x := (i : Int) + j) (by omega) (by omega)]
  have e : IntKind.u64.wrap ((i : Int) + (j : Int)) = (i : Int) + j := by
    simp [IntKind.wrap, IntKind.bits, IntKind.signed]
    omega
  rw [e, wrap_id (by omega) (by omega)]
  omega
theorem rdV_get (l : List (S48)) (i : Nat) (h : i < l.length) : rd_T48 l (i : Int) = l[i] := by
  unfold rd_T48
  rw [Int.toNat_natCast, List.getD_eq_getElem?_getD, List.getElem?_eq_getElem h]; rfl
theorem cmpVn_zero (x y : S48) : (cmpVn x y == 0) = (!lessV x y && !lessV y x) := by
  have hl : lessV x y = decide (cmpVn x y < 0) := by
    have h := cmpVn_neg x y
    cases hc : lessV x y with
    | true =>
      rw [hc] at h
      symm
      rw [decide_eq_true_eq]
      by_cases hn : cmpVn x y < 0
      · exact hn
      · exact absurd (h.mp (by omega)) (by simp)
    | false =>
      rw [hc] at h
      symm
      rw [decide_eq_false_iff_not]
      have := h.mpr rfl
      omega
  by_cases h0 : cmpVn x y = 0
  · have e1 : lessV x y = false := by rw [hl, h0]; rfl
    have e2 : lessV y x = false := by
      unfold cmpVn orL at h0
      split at h0
      · rename_i h1
        have h1 := (cmpT_zero _ _).1 h1
        unfold orL at h0
        split at h0
        · rename_i h2
          have h2 := (cmpI_zero _ _).1 h2
          unfold lessV
          rw [h1, bl_irrefl]
          simp only [Bool.false_or, Bool.and_eq_false_iff, decide_eq_false_iff_not]
          exact .inr (by omega)
        · rename_i h2; exact absurd h0 h2
      · rename_i h1; exact absurd h0 h1
    rw [h0, e1, e2]; rfl
  · have e0 : (cmpVn x y == 0) = false := by simpa using h0
    rw [e0]
    cases h1 : lessV x y with
    | true => rfl
    | false =>
      cases h2 : lessV y x with
      | true => rfl
      | false =>
        exfalso
        apply h0
        simp only [lessV, Bool.or_eq_false_iff, Bool.and_eq_false_iff, decide_eq_false_iff_not] at h1 h2
        have e := bl_total _ _ h1.1 h2.1
        have e := toList_inj.1 e
        have e3 : x.f1 = y.f1 := by
          rcases h1.2 with a | a
          · exact absurd e a
          · rcases h2.2 with b | b
            · exact absurd e.symm b
            · omega
        unfold cmpVn orL
        rw [if_pos ((cmpT_zero _ _).2 e)]
        unfold orL
        rw [if_pos ((cmpI_zero _ _).2 e3)]; rfl
/-- The search by halves, where `p` is the place. -/
theorem bsV_loop (l : List (S48)) (x : S48) (hl : l.length ≤ 1000) (p : Nat) (hp : p ≤ l.length) (hlt : ∀ (i : Nat) (h : i < l.length), lessV l[i] x = decide (i < p)) : ∀ (n i j : Nat), j - i = n → i ≤ p → p ≤ j → j ≤ l.length →
    Ev (fun k => slices_BinarySearchFunc_impl_Version__impl_Version_compare.l0 k l l.length i j x.f0 x.f1 x.f2 x.f3) ((p : Int), if h : p < l.length then !lessV x l[p] else false) := by
  intro n
  induction n using Nat.strongRecOn with
  | ind n ih =>
    intro i j hn hi hj hjl
    refine Ev.step (fun k => slices_BinarySearchFunc_impl_Version__impl_Version_compare.l0.eq_2 ..) ?_
    by_cases hij : i < j
    · refine ev_if_pos (by omega) ?_
      rw [half_eq (by omega)]
      have hm : (i + j) / 2 < l.length := by omega
      refine ev_if_pos (by omega) (ev_if_pos (by omega) ?_)
      rw [rdV_get l _ hm]
      refine ev_bind (impl_compareVn_ev _ _) ?_
      have hc := cmpVn_neg l[(i + j) / 2] x
      have hl2 := hlt _ hm
      by_cases hmp : (i + j) / 2 < p
      · rw [decide_eq_true hmp] at hl2
        rw [hl2] at hc
        have hneg : cmpVn l[(i + j) / 2] x < 0 := by
          by_cases hh : cmpVn l[(i + j) / 2] x < 0
          · exact hh
          · exact absurd (hc.mp (by omega)) (by simp)
        refine ev_if_pos hneg ?_
        rw [wrap_succ (by omega)]
        exact ih (j - ((i + j) / 2 + 1)) (by omega) ((i + j) / 2 + 1) j rfl (by omega) hj hjl
      · rw [decide_eq_false hmp] at hl2
        rw [hl2] at hc
        have hneg : ¬ cmpVn l[(i + j) / 2] x < 0 := by
          have := hc.mpr rfl
          omega
        refine ev_if_neg hneg ?_
        exact ih ((i + j) / 2 - i) (by omega) i ((i + j) / 2) rfl hi (by omega) (by omega)
    · have e : i = p := by omega
      subst e
      refine ev_if_neg (by omega) ?_
      by_cases hpl : i < l.length
      · refine ev_if_pos (by omega) (ev_if_pos (by omega) (ev_if_pos (by omega) ?_))
        rw [rdV_get l _ hpl]
        refine ev_bind (impl_compareVn_ev _ _) (ev_some ?_)
        rw [cmpVn_zero, hlt i hpl, decide_eq_false (Nat.lt_irrefl i), dif_pos hpl]
        rfl
      · refine ev_if_neg (by omega) (ev_some ?_)
        rw [dif_neg hpl]
/-- The list parted at the place of `x`. -/
theorem part_at (x : S48) : ∀ l : List (S48), Strict lessV l → ∃ a b, l = a ++ b ∧ (∀ y ∈ a, lessV y x = true) ∧ (∀ y ∈ b, lessV y x = false)
  | [], _ => ⟨[], [], rfl, by simp, by simp⟩
  | y :: l, hs => by
    have hs' := List.pairwise_cons.1 hs
    cases h : lessV y x with
    | true =>
      obtain ⟨a, b, e, h1, h2⟩ := part_at x l hs'.2
      refine ⟨y :: a, b, by rw [e]; rfl, ?_, h2⟩
      intro z hz
      rcases List.mem_cons.1 hz with rfl | hz
      · exact h
      · exact h1 z hz
    | false =>
      refine ⟨[], y :: l, rfl, by simp, ?_⟩
      intro z hz
      rcases List.mem_cons.1 hz with rfl | hz
      · exact h
      · exact lessV_weak.neg _ _ _ (lessV_weak.asym _ _ (hs'.1 z hz)) h
theorem put_app (x : S48) (b : List (S48)) : ∀ a : List (S48), (∀ y ∈ a, lessV y x = true) → put lessV x (a ++ b) = (put lessV x b).map (a ++ ·)
  | [], _ => by
    rw [List.nil_append]
    cases put lessV x b <;> rfl
  | y :: a, h => by
    have ih := put_app x b a (fun z hz => h z (by simp [hz]))
    rw [List.cons_append]
    show (if lessV y x = true then (put lessV x (a ++ b)).map (y :: ·) else _) = _
    rw [if_pos (h y (by simp)), ih]
    cases put lessV x b with
    | none => rfl
    | some c => rfl
def putR (l : List (S48)) (x : S48) : List (S48) × Bool :=
  if (goodVsn l && goodV x) = true then (match put lessV x l with | some c => if c.length = l.length + 1 ∧ c.length ≤ 60 then (c, true) else ([], false) | none => ([], false)) else ([], false)
theorem putR_length (l : List (S48)) (x : S48) : (putR l x).1.length ≤ 1048576 := by
  unfold putR
  split
  · split
    · split
      · dsimp only; omega
      · exact Nat.zero_le _
    · exact Nat.zero_le _
  · exact Nat.zero_le _
theorem spec_PutVersion_ev (l : List (S48)) (x : S48) (hl : l.length ≤ 1048576) : Ev (fun k => spec_PutVersion.f k l x.f0 x.f1 x.f2 x.f3) (putR l x) := by
  unfold spec_PutVersion.f
  refine ev_bind (spec_GoodVersions_ev l hl) ?_
  have hbad : ∀ b', (goodVsn l && goodV x) = false → b' = true → Ev (fun k => spec_PutVersion.j0 k l b' x.f0 x.f1 x.f2 x.f3) (putR l x) := by
    intro b' h1 h2
    refine Ev.step (fun k => spec_PutVersion.j0.eq_2 ..) (ev_if_pos h2 (ev_some ?_))
    unfold putR
    rw [h1, if_neg (by simp)]
  cases h1 : goodVsn l with
  | false => exact ev_if_neg (by simp) (hbad _ (by rw [h1]; rfl) rfl)
  | true =>
    refine ev_if_pos rfl ?_
    simp only [spec_l14One_eq, Option.bind_some]
    cases h2 : goodV x with
    | false => exact hbad _ (by rw [h1, h2]; rfl) rfl
    | true =>
      have l1 := goodVsn_len h1
      refine Ev.step (fun k => spec_PutVersion.j0.eq_2 ..) (ev_if_neg (by simp) ?_)
      unfold spec_l14Put.f
      have k1 := spec_put_loop l hl x l [] rfl
      have hR : putR l x = (match put lessV x l with | some c => if c.length = l.length + 1 ∧ c.length ≤ 60 then (c, true) else ([], false) | none => ([], false)) := by
        unfold putR
        rw [h1, h2, Bool.and_self, if_pos rfl]
      rw [hR]
      cases hp : put lessV x l with
      | none =>
        rw [hp] at k1
        exact ev_bind k1 (ev_if_neg (by simp) (ev_some rfl))
      | some c =>
        rw [hp] at k1
        have k1 : Ev (fun k => spec_l14Put.l0 k l 0 x.f0 x.f1 x.f2 x.f3) (c, true) := k1
        have hc := put_length x l c hp
        refine ev_bind k1 (ev_if_pos rfl ?_)
        rw [wrap_succ (by omega)]
        dsimp only
        by_cases e : c.length = l.length + 1
        · refine ev_if_pos (by omega) ?_
          by_cases h60 : c.length ≤ 60
          · exact ev_eq (ev_if_neg (by omega) (ev_some rfl)) (by show _ = if _ then _ else _; rw [if_pos ⟨e, h60⟩])
          · exact ev_eq (ev_if_pos (by omega) (ev_some rfl)) (by show _ = if _ then _ else _; rw [if_neg (fun h => h60 h.2)])
        · exact ev_eq (ev_if_neg (by omega) (ev_some rfl)) (by show _ = if _ then _ else _; rw [if_neg (fun h => e h.1)])
theorem impl_PutVersion_ev (l : List (S48)) (x : S48) (hl : l.length ≤ 1048576) : Ev (fun k => impl_PutVersion.f k l x.f0 x.f1 x.f2 x.f3) (putR l x) := by
  unfold impl_PutVersion.f
  refine ev_bind (impl_GoodVersions_ev l hl) ?_
  have hbad : ∀ b', (goodVsn l && goodV x) = false → b' = true → Ev (fun k => impl_PutVersion.j0 k l b' x.f0 x.f1 x.f2 x.f3) (putR l x) := by
    intro b' h1 h2
    refine Ev.step (fun k => impl_PutVersion.j0.eq_2 ..) (ev_if_pos h2 (ev_some ?_))
    unfold putR
    rw [h1, if_neg (by simp)]
  cases h1 : goodVsn l with
  | false => exact ev_if_neg (by simp) (hbad _ (by rw [h1]; rfl) rfl)
  | true =>
    refine ev_if_pos rfl ?_
    simp only [impl_isVersion_eq, Option.bind_some]
    cases h2 : goodV x with
    | false => exact hbad _ (by rw [h1, h2]; rfl) rfl
    | true =>
      have l1 := goodVsn_len h1
      have hs : Strict lessV l := by
        simp only [goodVsn, Bool.and_eq_true] at h1
        exact ((chainV_none l).1 h1.1).2
      refine Ev.step (fun k => impl_PutVersion.j0.eq_2 ..) (ev_if_neg (by simp) ?_)
      obtain ⟨a, b, e, ha, hb⟩ := part_at x l hs
      have hput := put_app x b a ha
      have hbs := bsV_loop l x (by omega) a.length (by rw [e]; simp) (by
        intro i hi
        subst e
        by_cases hia : i < a.length
        · rw [List.getElem_append_left hia, ha _ (List.getElem_mem hia), decide_eq_true hia]
        · rw [List.getElem_append_right (by omega), hb _ (List.getElem_mem _), decide_eq_false hia]) l.length 0 l.length rfl (Nat.zero_le _) (by rw [e]; simp) (Nat.le_refl _)
      have hR : putR l x = (match put lessV x l with | some c => if c.length = l.length + 1 ∧ c.length ≤ 60 then (c, true) else ([], false) | none => ([], false)) := by
        unfold putR
        rw [h1, h2, Bool.and_self, if_pos rfl]
      unfold impl_place.f slices_BinarySearchFunc_impl_Version__impl_Version_compare.f
      refine ev_bind (a := ((a.length : Int), (if h : a.length < l.length then (if !lessV x l[a.length] then false else decide (l.length < 60)) else decide (l.length < 60)))) (ev_bind hbs ?_) ?_
      · have hc60 : decide ((l.length : Int) < 60) = decide (l.length < 60) := by
          by_cases h : l.length < 60
          · rw [decide_eq_true h, decide_eq_true (by omega)]
          · rw [decide_eq_false h, decide_eq_false (by omega)]
        by_cases hp : a.length < l.length
        · rw [dif_pos hp, dif_pos hp]
          cases lessV x l[a.length] with
          | true => exact ev_if_neg (by simp) (ev_some (by rw [hc60]; rfl))
          | false => exact ev_if_pos rfl (ev_some rfl)
        · rw [dif_neg hp, dif_neg hp]
          exact ev_if_neg (by simp) (ev_some (by rw [hc60]))
      have hins : l.length < 60 → put lessV x l = some (a ++ x :: b) → Ev (fun k => (slices_Clone_impl_Version.f l).bind fun t => (slices_Insert_impl_Version.f t (a.length : Int) [(⟨x.f0, x.f1, x.f2, x.f3⟩ : S48)]).bind fun u => some (u, true)) (putR l x) := by
        intro h60 hp
        have htake : l.take a.length = a := by rw [e]; exact List.take_left' rfl
        have hdrop : l.drop a.length = b := by rw [e]; exact List.drop_left' rfl
        have hlen : l.length = a.length + b.length := by rw [e]; simp
        have hX : ((slices_Clone_impl_Version.f l).bind fun t => (slices_Insert_impl_Version.f t (a.length : Int) [(⟨x.f0, x.f1, x.f2, x.f3⟩ : S48)]).bind fun u => some (u, true)) = some (putR l x) := by
          rw [hR, hp]
          unfold slices_Clone_impl_Version.f slices_Insert_impl_Version.f
          simp only [Option.bind_some, List.nil_append, List.length_nil]
          rw [if_pos (by omega), Option.bind_some, if_pos ⟨by omega, by omega, by omega⟩, Int.toNat_natCast, htake, hdrop, Option.bind_some]
          show some (a ++ [x] ++ b, true) = some (if _ then _ else _)
          rw [if_pos ⟨by simp; omega, by simp; omega⟩]
          simp
        rw [hX]
        exact ev_some rfl
      have hno : ∀ c, put lessV x l = some c → c.length = l.length + 1 → ¬ l.length < 60 → putR l x = ([], false) := by
        intro c hc hcl h60
        rw [hR, hc]
        show (if _ then _ else _) = _
        rw [if_neg (by omega)]
      cases b with
      | nil =>
        have hp : ¬ a.length < l.length := by rw [e]; simp
        rw [dif_neg hp]
        have hput' : put lessV x l = some (a ++ [x]) := by rw [e, hput]; rfl
        by_cases h60 : l.length < 60
        · exact ev_if_pos (by simpa using h60) (hins h60 hput')
        · exact ev_if_neg (by simpa using h60) (ev_some (by rw [hno _ hput' (by rw [e]; simp) h60]))
      | cons y b =>
        have hp : a.length < l.length := by rw [e]; simp
        have hy : l[a.length] = y := by subst e; simp
        have hyx := hb y (by simp)
        rw [dif_pos hp, hy]
        cases hxy : lessV x y with
        | true =>
          have hput' : put lessV x l = some (a ++ x :: y :: b) := by
            rw [e, hput]
            unfold put
            rw [if_neg (by rw [hyx]; simp), if_pos hxy]; rfl
          by_cases h60 : l.length < 60
          · exact ev_if_pos (by simpa using h60) (hins h60 hput')
          · exact ev_if_neg (by simpa using h60) (ev_some (by rw [hno _ hput' (by rw [e]; simp; omega) h60]))
        | false =>
          refine ev_if_neg (by simp) (ev_some ?_)
          have hput' : put lessV x l = if y = x then some (a ++ y :: b) else none := by
            rw [e, hput]
            unfold put
            rw [if_neg (by rw [hyx]; simp), if_neg (by rw [hxy]; simp)]
            split <;> rfl
          rw [hR, hput']
          by_cases hyx2 : y = x
          · rw [if_pos hyx2]
            show _ = if _ then _ else _
            rw [if_neg (by rw [e]; omega)]
          · rw [if_neg hyx2]

theorem FnExactPutVersion : laws_FnExactPutVersion.Pure := by
  intro l v0 v1 v2 v3 hw hv0 hv1 hv3
  refine Ev.rounds (g := fun k => laws_FnExactPutVersion.f k l v0 v1 v2 v3) ?_
  unfold laws_FnExactPutVersion.f
  obtain ⟨r, hr, hr2, hall⟩ := szVersionS_ev l 1048576 (by omega) (by omega) hw.1 (fun x hx => ⟨(hw.2 x hx).1, (hw.2 x hx).2.2.2⟩)
  refine ev_bind hr ?_
  by_cases hn : r < 0
  · exact ev_if_pos hn (ev_some rfl)
  obtain ⟨h1, _⟩ := hall (by omega)
  refine ev_if_neg hn ?_
  obtain ⟨r', hr', _, _⟩ := szVersion_ev ⟨v0, v1, v2, v3⟩ r (by omega) hr2 ⟨hv0, hv3⟩
  have hr'' : laws_szVersion.f v0 v1 v2 v3 r = some r' := hr'
  simp only [hr'', Option.bind_some]
  by_cases hn' : r' < 0
  · exact ev_if_pos hn' (ev_some rfl)
  refine ev_if_neg hn' ?_
  have hto := toVersionS_ev l h1
  have h1' : (l.map toVersion).length ≤ 1048576 := by simpa using h1
  revert hto h1'
  generalize l.map toVersion = L
  intro hto hL
  have htv : ∀ k : Nat, laws_toVersion.f v0 v1 v2 v3 = some (v0, v1, v2, v3) := fun _ => rfl
  have k1 := spec_PutVersion_ev L ⟨v0, v1, v2, v3⟩ hL
  have k2 := impl_PutVersion_ev L ⟨v0, v1, v2, v3⟩ hL
  have hR := putR_length L ⟨v0, v1, v2, v3⟩
  revert k1 k2 hR
  generalize putR L ⟨v0, v1, v2, v3⟩ = R
  intro k1 k2 hR
  obtain ⟨X, ok⟩ := R
  have hR : X.length ≤ 1048576 := hR
  have eX := eqVersionS_ev X (by omega)
  have eL := eqVersionS_ev L (by omega)
  have mL := markVersionS_ev L 1 (by omega)
  have mX := markVersionS_ev X 1 (by omega)
  have hX := heldVersionS_ev X.length 1 (by omega)
  refine ev_bind hto (ev_bind (a := (v0, v1, v2, v3)) (ev_some rfl) (ev_bind k1 (ev_bind hto (ev_bind (a := (v0, v1, v2, v3)) (ev_some rfl) (ev_bind k2 (ev_bind eX (ev_if_pos rfl ?_)))))))
  simp only [bne_self_eq_false]
  refine Ev.step (fun k => laws_FnExactPutVersion.j0.eq_2 ..) (ev_if_neg (by simp) (ev_bind hto (ev_bind eL (ev_if_pos rfl (ev_bind mL (ev_if_neg (by omega) (ev_bind eX (ev_if_pos rfl ?_))))))))
  simp only [bne_self_eq_false]
  refine Ev.step (fun k => laws_FnExactPutVersion.j1.eq_2 ..) (ev_if_neg (by simp) (ev_bind mX (ev_bind hX (ev_if_neg (by omega) (ev_if_pos rfl (ev_bind hto (ev_bind (a := (v0, v1, v2, v3)) (ev_some rfl) (ev_bind k2 (ev_bind eX (ev_if_pos rfl ?_))))))))))
  simp only [bne_self_eq_false]
  exact Ev.step (fun k => laws_FnExactPutVersion.j2.eq_2 ..) (ev_if_neg (by simp) (ev_bind hX (ev_if_neg (by omega) (ev_if_pos rfl (ev_some rfl)))))

end Go.Proofs.Ytabfkalcjfjkiaa.Pure
