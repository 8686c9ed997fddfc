/- The law FnExactMergeVersions holds at every input; no conditions. -/
import Derived.Test.YtpfjlnfgekeobaaQFnExactMergeVersionsx15
import Derived.Test.YtpfjlnfgekeobaaBase
import Derived.OpenShut
import Derived.Test.YtpfjlnfgekeobaaStable
import Derived.Test.YtpfjlnfgekeobaaMerge
namespace Go.Proofs.Ytpfjlnfgekeobaa.Pure
open Go.RowKit Go.Proofs.Ytpfjlnfgekeobaa.QFnExactMergeVersions Go.Proofs.YtpfjlnfgekeobaaW.PrintWords Go.Proofs.YtpfjlnfgekeobaaW.PrintLast Go.Proofs.Ytpfjlnfgekeobaa.Base
set_option linter.unusedSimpArgs false
set_option linter.unusedVariables false

def wf39 (x : S39) : Prop := x.f0.size ≤ 9223372036854775807 ∧ (Lit.int .i64 x.f1).wf = true ∧ True ∧ x.f3.size ≤ 9223372036854775807
def laws_FnExactMergeVersions.Pure : Prop := ∀ (l0 : List (S39)) (l1 : List (S39)), (l0.length ≤ 9223372036854775807 ∧ ∀ y ∈ l0, wf39 y) → (l1.length ≤ 9223372036854775807 ∧ ∀ y ∈ l1, wf39 y) → ∃ k, laws_FnExactMergeVersions.f k l0 l1 = some true

/-! ### good versions -/
def goodK (k : ByteArray) : Bool := decide (1 ≤ k.size) && decide (k.size ≤ 12)
def goodV (x : S42) : Bool := goodK x.f0 && (decide (x.f3.size ≤ 12) && ((decide (0 ≤ x.f1) && decide (x.f1 ≤ 1000000)) && (!x.f2 || decide (x.f3.size = 0))))
def lessV (a b : S42) : Bool := Op.bytesLess a.f0.toList b.f0.toList || (decide (a.f0 = b.f0) && decide (a.f1 < b.f1))
def chainV : Option (S42) → List (S42) → Bool
  | _, [] => true
  | none, x :: l => goodV x && chainV (some x) l
  | some p, x :: l => goodV x && (lessV p x && chainV (some x) l)
def goodVsn (l : List (S42)) : Bool := chainV none l && decide (l.length ≤ 60)
theorem beq_nil_size (s : ByteArray) : (s.toList == ([] : List UInt8)) = decide (s.size = 0) := by
  by_cases h : s.size = 0
  · rw [(toList_nil s).2 h, decide_eq_true h]; rfl
  · rw [decide_eq_false h]
    cases hc : s.toList with
    | nil => exact absurd ((toList_nil s).1 hc) h
    | cons a l => rfl
theorem bne_nil_size (s : ByteArray) : (s.toList != ([] : List UInt8)) = decide (1 ≤ s.size) := by
  show (!(s.toList == ([] : List UInt8))) = _
  rw [beq_nil_size]
  by_cases h : s.size = 0
  · simp [h]
  · have : 1 ≤ s.size := by omega
    simp only [decide_eq_false h, decide_eq_true this, Bool.not_false]
theorem size_le_cast (s : ByteArray) (n : Nat) : decide ((s.size : Int) ≤ (n : Int)) = decide (s.size ≤ n) := by
  by_cases h : s.size ≤ n
  · rw [decide_eq_true h, decide_eq_true (by omega)]
  · rw [decide_eq_false h, decide_eq_false (by omega)]
theorem len_le_cast {α : Type} (l : List α) (n : Nat) : decide ((l.length : Int) ≤ (n : Int)) = decide (l.length ≤ n) := by
  by_cases h : l.length ≤ n
  · rw [decide_eq_true h, decide_eq_true (by omega)]
  · rw [decide_eq_false h, decide_eq_false (by omega)]

/-! ### comparing -/
def cmpI (a b : Int) : Int := if a < b then -1 else if a > b then 1 else 0
def cmpT (a b : ByteArray) : Int := if Op.bytesLess a.toList b.toList = true then -1 else if Op.bytesLess b.toList a.toList = true then 1 else 0
theorem cmpBytes_eq : ∀ x y : List UInt8, Lib.compareBytes x y = if Op.bytesLess x y = true then -1 else if Op.bytesLess y x = true then 1 else 0
  | [], [] => rfl
  | [], b :: y => rfl
  | a :: x, [] => rfl
  | a :: x, b :: y => by
    have ih := cmpBytes_eq x y
    by_cases h1 : a < b
    · have h3 : ¬ b < a := UInt8.lt_asymm h1
      simp [Lib.compareBytes, Op.bytesLess, h1, h3]
    · by_cases h2 : b < a
      · have h3 : b ≠ a := UInt8.ne_of_lt h2
        simp [Lib.compareBytes, Op.bytesLess, h1, h2, Ne.symm h3]
      · have h3 : a = b := UInt8.le_antisymm (UInt8.not_lt.1 h2) (UInt8.not_lt.1 h1)
        subst h3
        simp [Lib.compareBytes, Op.bytesLess, ih]
theorem cmpB_eq (a b : ByteArray) : Go.Proofs.Ytpfjlnfgekeobaa.Ext.cmpB a b = cmpT a b := by
  unfold Go.Proofs.Ytpfjlnfgekeobaa.Ext.cmpB cmpT
  rw [cmpBytes_eq, toList_data, toList_data]
theorem strings_Compare_eq (a b : ByteArray) : strings_Compare.f a b = some (cmpT a b) := by
  unfold strings_Compare.f bytealg_CompareString.f
  rw [Option.bind_some, cmpB_eq]
theorem cmp_Compare_eq (a b : Int) : cmp_Compare_int.f a b = some (cmpI a b) := by
  unfold cmp_Compare_int.f cmp_isNaN_int.f cmpI
  by_cases h1 : a < b
  · simp [h1]
  · by_cases h2 : b < a <;> simp [h1, h2]
/-- The first one that is not 0. -/
def orL : List Int → Int
  | [] => 0
  | x :: l => if x = 0 then orL l else x
theorem cmp_Or_loop (l : List Int) (hl : l.length ≤ 1000) : ∀ (rest : List Int) (i : Nat), l.drop i = rest → Ev (fun k => cmp_Or_int.l0 k 0 l l.length i) (orL rest)
  | [], i, hd => by
    have h := drop_nil hd
    exact Ev.step (fun k => cmp_Or_int.l0.eq_2 ..) (ev_if_neg (by omega) (ev_some rfl))
  | x :: rest, i, hd => by
    obtain ⟨hi, hd', hx⟩ := drop_cons hd
    have hx : rd l i = x := hx 0
    refine Ev.step (fun k => cmp_Or_int.l0.eq_2 ..) (ev_if_pos (by omega) (ev_if_pos (by omega) (ev_if_pos (by omega) ?_)))
    rw [hx, wrap_succ (by omega)]
    unfold orL
    exact ev_ite (fun _ => cmp_Or_loop l hl rest (i + 1) hd') (fun _ => ev_some rfl)
theorem cmp_Or_ev (l : List Int) (hl : l.length ≤ 1000) : Ev (fun k => cmp_Or_int.f k l) (orL l) := cmp_Or_loop l hl l 0 rfl
theorem cmpI_zero (a b : Int) : cmpI a b = 0 ↔ a = b := by
  unfold cmpI
  by_cases h1 : a < b
  · simp [h1]; omega
  · by_cases h2 : b < a
    · simp [h1, h2]; omega
    · simp [h1, h2]; omega

/-! ### Version: sizes -/
theorem szVersion_ev (x : S39) (left : Int) (h0 : 0 ≤ left) (h1 : left ≤ 1048576) (hw : x.f0.size ≤ 9223372036854775807 ∧ x.f3.size ≤ 9223372036854775807) : ∃ r, laws_szVersion.f x.f0 x.f1 x.f2 x.f3 left = some r ∧ r ≤ 1048576 ∧ (0 ≤ r → x.f0.size ≤ 1048576 ∧ x.f3.size ≤ 1048576) := by
  unfold laws_szVersion.f
  have e : wrap64 (left - (x.f0.size : Int)) = left - x.f0.size := wrap_id (by omega) (by omega)
  rw [e]
  by_cases h : left - (x.f0.size : Int) < 0
  · exact ⟨-1, by rw [if_pos h], by omega, fun h => by omega⟩
  · have e2 : wrap64 (left - (x.f0.size : Int) - (x.f3.size : Int)) = left - x.f0.size - x.f3.size := wrap_id (by omega) (by omega)
    rw [if_neg h, e2]
    by_cases h2 : left - (x.f0.size : Int) - (x.f3.size : Int) < 0
    · exact ⟨-1, by rw [if_pos h2], by omega, fun h => by omega⟩
    · exact ⟨_, by rw [if_neg h2], by omega, fun _ => by omega⟩
theorem szVersionS_loop (l : List (S39)) (hl : l.length ≤ 1048576) (hw : ∀ x ∈ l, x.f0.size ≤ 9223372036854775807 ∧ x.f3.size ≤ 9223372036854775807) : ∀ (rest : List (S39)) (i : Nat) (left : Int), l.drop i = rest → 0 ≤ left → left ≤ 1048576 →
    ∃ r, Ev (fun k => laws_szVersionS.l0 k l left i) r ∧ r ≤ 1048576 ∧ (0 ≤ r → ∀ x ∈ rest, x.f0.size ≤ 1048576 ∧ x.f3.size ≤ 1048576)
  | [], i, left, hd, h0, h1 => by
    have h := drop_nil hd
    exact ⟨left, Ev.step (fun k => laws_szVersionS.l0.eq_2 ..) (ev_if_neg (by omega) (ev_some rfl)), h1, fun _ s hs => by simp at hs⟩
  | s :: rest, i, left, hd, h0, h1 => by
    obtain ⟨hi, hd', hx⟩ := drop_cons hd
    have hx : rd_T39 l i = s := hx _
    have hs : s ∈ l := List.mem_of_mem_drop (by rw [hd]; exact List.mem_cons_self)
    obtain ⟨q, hq, hq1, hq2⟩ := szVersion_ev s left h0 h1 (hw s hs)
    by_cases hn : q < 0
    · refine ⟨-1, Ev.step (fun k => laws_szVersionS.l0.eq_2 ..) (ev_if_pos (by omega) (ev_if_pos (by omega) ?_)), by omega, fun h => by omega⟩
      simp only [hx, hq, Option.bind_some]
      exact ev_if_pos hn (ev_some rfl)
    · obtain ⟨r, hr, hb, hall⟩ := szVersionS_loop l hl hw rest (i + 1) q hd' (by omega) hq1
      refine ⟨r, Ev.step (fun k => laws_szVersionS.l0.eq_2 ..) (ev_if_pos (by omega) (ev_if_pos (by omega) ?_)), hb, fun h t ht => ?_⟩
      · simp only [hx, hq, Option.bind_some]
        rw [wrap_succ (by omega)]
        exact ev_if_neg hn hr
      · rcases List.mem_cons.1 ht with rfl | ht
        · exact hq2 (by omega)
        · exact hall h t ht
theorem szVersionS_ev (l : List (S39)) (left : Int) (h0 : 0 ≤ left) (h1 : left ≤ 1048576) (hl : l.length ≤ 9223372036854775807) (hw : ∀ x ∈ l, x.f0.size ≤ 9223372036854775807 ∧ x.f3.size ≤ 9223372036854775807) :
    ∃ r, Ev (fun k => laws_szVersionS.f k l left) r ∧ r ≤ 1048576 ∧ (0 ≤ r → l.length ≤ 1048576 ∧ ∀ x ∈ l, x.f0.size ≤ 1048576 ∧ x.f3.size ≤ 1048576) := by
  unfold laws_szVersionS.f
  have e : wrap64 (left - (l.length : Int)) = left - l.length := wrap_id (by omega) (by omega)
  simp only [e]
  by_cases hn : left - (l.length : Int) < 0
  · exact ⟨-1, ev_if_pos hn (ev_some rfl), by omega, fun h => by omega⟩
  · obtain ⟨r, hr, hb, hall⟩ := szVersionS_loop l (by omega) hw l 0 (left - l.length) rfl (by omega) (by omega)
    exact ⟨r, ev_if_neg hn hr, hb, fun h => ⟨by omega, hall h⟩⟩

/-! ### Version: copied -/
def toVersion (x : S39) : S42 := ⟨x.f0, x.f1, x.f2, x.f3⟩
theorem toVersion_eq (x : S39) : laws_toVersion.f x.f0 x.f1 x.f2 x.f3 = some ((toVersion x).f0, (toVersion x).f1, (toVersion x).f2, (toVersion x).f3) := rfl
theorem toVersionS_loop (l : List (S39)) (hl : l.length ≤ 1048576) : ∀ (rest : List (S39)) (pre : List (S42)) (i : Nat), l.drop i = rest → pre.length = i →
    Ev (fun k => laws_toVersionS.l0 k l (pre ++ List.replicate rest.length z42) i) (pre ++ rest.map toVersion)
  | [], pre, i, hd, hp => by
    have h := drop_nil hd
    exact Ev.step (fun k => laws_toVersionS.l0.eq_2 ..) (ev_if_neg (by omega) (ev_some rfl))
  | s :: rest, pre, i, hd, hp => by
    obtain ⟨hi, hd', hx⟩ := drop_cons hd
    have hx : rd_T39 l i = s := hx _
    refine Ev.step (fun k => laws_toVersionS.l0.eq_2 ..) (ev_if_pos (by omega) (ev_if_pos (by omega) ?_))
    simp only [hx, toVersion_eq, Option.bind_some]
    refine ev_if_pos (by rw [List.length_append, List.length_replicate, List.length_cons]; omega) ?_
    rw [wrap_succ (by omega), Int.toNat_natCast, List.length_cons, List.replicate_succ]
    subst hp
    rw [set_at]
    have := toVersionS_loop l hl rest (pre ++ [toVersion s]) (pre.length + 1) hd' (by simp)
    simpa using this
theorem toVersionS_ev (l : List (S39)) (hl : l.length ≤ 1048576) : Ev (fun k => laws_toVersionS.f k l) (l.map toVersion) := by
  unfold laws_toVersionS.f
  refine ev_if_pos (by omega) (ev_if_pos (by omega) ?_)
  rw [Int.toNat_natCast]
  exact toVersionS_loop l hl l [] 0 rfl rfl

/-! ### Version: alike -/
theorem eqVersion_eq (x : S42) : laws_eqVersion.f x.f0 x.f1 x.f2 x.f3 x.f0 x.f1 x.f2 x.f3 = some true := by
  unfold laws_eqVersion.f
  simp
theorem eqVersionS_loop (l : List (S42)) (hl : l.length ≤ 1152921504606846976) : ∀ (rest : List (S42)) (i : Nat), l.drop i = rest → Ev (fun k => laws_eqVersionS.l0 k l l i) true
  | [], i, hd => by
    have h := drop_nil hd
    exact Ev.step (fun k => laws_eqVersionS.l0.eq_2 ..) (ev_if_neg (by omega) (ev_some rfl))
  | s :: rest, i, hd => by
    obtain ⟨hi, hd', hx⟩ := drop_cons hd
    have hx : rd_T42 l i = s := hx _
    refine Ev.step (fun k => laws_eqVersionS.l0.eq_2 ..) (ev_if_pos (by omega) (ev_if_pos (by omega) (ev_if_pos (by omega) ?_)))
    simp only [hx, eqVersion_eq, Option.bind_some]
    rw [wrap_succ (by omega)]
    exact ev_if_pos (by simp) (eqVersionS_loop l hl rest (i + 1) hd')
theorem eqVersionS_ev (l : List (S42)) (hl : l.length ≤ 1152921504606846976) : Ev (fun k => laws_eqVersionS.f k l l) true := by
  unfold laws_eqVersionS.f
  exact ev_if_pos rfl (eqVersionS_loop l hl l 0 rfl)

theorem spec_l5Pair_eq (k v : ByteArray) : spec_l5Pair.f k v = some (decide (k.size ≤ 12) && (decide (v.size ≤ 12) && decide (1 ≤ k.size))) := by
  unfold spec_l5Pair.f spec_l5Text.f
  have h1 : decide ((k.size : Int) ≤ 12) = decide (k.size ≤ 12) := size_le_cast k 12
  have h2 : decide ((v.size : Int) ≤ 12) = decide (v.size ≤ 12) := size_le_cast v 12
  simp only [bne_nil_size, h1, h2, Option.bind_some]
  cases decide (k.size ≤ 12) <;> cases decide (v.size ≤ 12) <;> simp
theorem spec_l14One_eq (x : S42) : spec_l14One.f x.f0 x.f1 x.f2 x.f3 = some (goodV x) := by
  unfold spec_l14One.f spec_l1In.f goodV goodK
  simp only [spec_l5Pair_eq, beq_nil_size, Option.bind_some]
  generalize decide (x.f0.size ≤ 12) = b1
  generalize decide (x.f3.size ≤ 12) = b2
  generalize decide (1 ≤ x.f0.size) = b3
  generalize decide (x.f3.size = 0) = b4
  generalize x.f2 = b5
  by_cases h1 : 0 ≤ x.f1
  · by_cases h2 : x.f1 ≤ 1000000 <;> cases b1 <;> cases b2 <;> cases b3 <;> cases b4 <;> cases b5 <;> simp [h1, h2]
  · cases b1 <;> cases b2 <;> cases b3 <;> cases b4 <;> cases b5 <;> simp [h1]
theorem spec_l14Less_eq (a b : S42) : spec_l14Less.f a.f0 a.f1 a.f2 a.f3 b.f0 b.f1 b.f2 b.f3 = some (lessV a b) := by
  unfold spec_l14Less.f lessV
  by_cases h1 : Op.bytesLess a.f0.toList b.f0.toList = true
  · simp [h1]
  · by_cases h2 : a.f0 = b.f0
    · have h2' : a.f0.toList = b.f0.toList := by rw [h2]
      have h1' : Op.bytesLess a.f0.toList b.f0.toList = false := by simpa using h1
      simp only [h1', h2', h2, if_true, decide_true, Bool.true_and, Bool.false_or, Bool.false_eq_true, if_false]
      have h3 : Op.bytesLess b.f0.toList b.f0.toList = false := by rw [← h2', ← h1']; rw [h2]
      simp [h3]
    · have h2' : ¬ a.f0.toList = b.f0.toList := fun h => h2 (toList_inj.1 h)
      simp [h1, h2, h2']
theorem spec_GoodVersions_loop (l : List (S42)) (hl : l.length ≤ 1048576) : ∀ (rest pre : List (S42)), l = pre ++ rest →
    Ev (fun k => spec_GoodVersions.l0 k l l l.length pre.length) (chainV pre.getLast? rest && decide (l.length ≤ 60))
  | [], pre, hd => by
    have e : l.length = pre.length := by rw [hd]; simp
    refine Ev.step (fun k => spec_GoodVersions.l0.eq_2 ..) (ev_if_neg (by omega) (ev_some ?_))
    have h2 : decide ((l.length : Int) ≤ 60) = decide (l.length ≤ 60) := len_le_cast l 60
    rw [h2]
    cases pre.getLast? <;> simp [chainV]
  | x :: rest, pre, hd => by
    obtain ⟨hi, hx⟩ := mid_at hd
    have hx : rd_T42 l pre.length = x := hx _
    refine Ev.step (fun k => spec_GoodVersions.l0.eq_2 ..) (ev_if_pos (by omega) (ev_if_pos (by omega) (ev_if_pos (by omega) ?_)))
    simp only [hx, spec_l14One_eq, Option.bind_some]
    have ih := spec_GoodVersions_loop l hl rest (pre ++ [x]) (by rw [hd]; simp)
    rw [List.length_append, List.length_singleton] at ih
    simp only [List.getLast?_append, List.getLast?_singleton, Option.some_or] at ih
    cases hg : goodV x with
    | true =>
      refine ev_if_pos rfl ?_
      rcases nil_or_snoc pre with rfl | ⟨q, p, rfl⟩
      · refine ev_if_neg (by simp) ?_
        rw [wrap_succ (by omega)]
        refine ev_eq ih ?_
        simp [chainV, hg]
      · have hlast := last_at hd z42
        have hlast : rd_T42 l (((q ++ [p]).length : Int) - 1) = p := hlast
        have hpos : ((q ++ [p]).length : Int) > 0 := by rw [List.length_append, List.length_singleton]; omega
        rw [wrap_id (x := ((q ++ [p]).length : Int) - 1) (by omega) (by omega)]
        simp only [hlast, spec_l14Less_eq, Option.bind_some]
        refine ev_if_pos hpos (ev_if_pos (by omega) (ev_if_pos (by omega) ?_))
        cases h4 : lessV p x with
        | true =>
          refine ev_if_pos rfl ?_
          rw [wrap_succ (by omega)]
          refine ev_eq ih ?_
          simp [chainV, hg, h4]
        | false =>
          refine ev_if_neg (by simp) (ev_some ?_)
          simp [chainV, h4]
    | false =>
      refine ev_if_neg (by simp) (ev_some ?_)
      rcases nil_or_snoc pre with rfl | ⟨q, p, rfl⟩ <;> simp [chainV, hg]
theorem spec_GoodVersions_ev (l : List (S42)) (hl : l.length ≤ 1048576) : Ev (fun k => spec_GoodVersions.f k l) (goodVsn l) :=
  spec_GoodVersions_loop l hl l [] rfl

theorem impl_isKey_eq (k : ByteArray) : impl_isKey.f k = some (goodK k) := by
  unfold impl_isKey.f impl_within.f goodK
  have h1 : decide ((k.size : Int) ≤ 12) = decide (k.size ≤ 12) := size_le_cast k 12
  by_cases h : 1 ≤ k.size
  · have h' : (k.size : Int) ≥ 1 := by omega
    simp only [h', if_true, h1, Option.bind_some, decide_eq_true h, Bool.true_and]
  · have h' : ¬ (k.size : Int) ≥ 1 := by omega
    simp only [h', if_false, Option.bind_some, decide_eq_false h, Bool.false_and]
theorem impl_isVersion_eq (x : S42) : impl_isVersion.f x.f0 x.f1 x.f2 x.f3 = some (goodV x) := by
  unfold impl_isVersion.f impl_within.f impl_isVal.f goodV
  have h3 : decide ((x.f3.size : Int) ≤ 12) = decide (x.f3.size ≤ 12) := size_le_cast x.f3 12
  simp only [impl_isKey_eq, beq_nil_size, h3, Option.bind_some]
  generalize goodK x.f0 = b1
  generalize decide (x.f3.size ≤ 12) = b2
  generalize decide (x.f3.size = 0) = b4
  generalize x.f2 = b5
  by_cases h1 : 0 ≤ x.f1
  · by_cases h2 : x.f1 ≤ 1000000 <;> cases b1 <;> cases b2 <;> cases b4 <;> cases b5 <;> simp [h1, h2]
  · cases b1 <;> cases b2 <;> cases b4 <;> cases b5 <;> simp [h1]
def cmpVn (a b : S42) : Int := orL [cmpT a.f0 b.f0, cmpI a.f1 b.f1]
theorem impl_compareVn_ev (a b : S42) : Ev (fun k => impl_Version_compare.f k a.f0 a.f1 a.f2 a.f3 b.f0 b.f1 b.f2 b.f3) (cmpVn a b) := by
  unfold impl_Version_compare.f
  simp only [cmp_Compare_eq, strings_Compare_eq, Option.bind_some]
  exact ev_bind (cmp_Or_ev _ (by simp)) (ev_some rfl)
theorem bl_total : ∀ x y : List UInt8, Op.bytesLess x y = false → Op.bytesLess y x = false → x = y
  | [], [], _, _ => rfl
  | [], b :: y, h, _ => by simp [Op.bytesLess] at h
  | a :: x, [], _, h => by simp [Op.bytesLess] at h
  | a :: x, b :: y, h, k => by
    simp only [Op.bytesLess, Bool.or_eq_false_iff, decide_eq_false_iff_not, Bool.and_eq_false_iff] at h k
    have e : a = b := UInt8.le_antisymm (UInt8.not_lt.1 k.1) (UInt8.not_lt.1 h.1)
    subst e
    have h2 : Op.bytesLess x y = false := by rcases h.2 with h | h; · simp at h
                                             · exact h
    have k2 : Op.bytesLess y x = false := by rcases k.2 with h | h; · simp at h
                                             · exact h
    rw [bl_total x y h2 k2]
theorem bl_irrefl : ∀ x : List UInt8, Op.bytesLess x x = false
  | [] => rfl
  | a :: x => by simp [Op.bytesLess, bl_irrefl x]
theorem cmpT_zero (a b : ByteArray) : cmpT a b = 0 ↔ a = b := by
  unfold cmpT
  by_cases h1 : Op.bytesLess a.toList b.toList = true
  · simp only [h1, if_true]
    constructor
    · intro h; cases h
    · intro h; subst h; rw [bl_irrefl] at h1; cases h1
  · by_cases h2 : Op.bytesLess b.toList a.toList = true
    · simp only [h1, h2, if_true, if_false]
      constructor
      · intro h; cases h
      · intro h; subst h; rw [bl_irrefl] at h2; cases h2
    · simp only [h1, h2, if_false, true_iff, Bool.false_eq_true]
      exact toList_inj.1 (bl_total _ _ (by simpa using h1) (by simpa using h2))
theorem cmpVn_neg (a b : S42) : (cmpVn a b ≥ 0) = (lessV a b = false) := by
  unfold cmpVn lessV
  simp only [orL]
  by_cases h0 : a.f0 = b.f0
  · have e := (cmpT_zero a.f0 b.f0).2 h0
    have hb : Op.bytesLess a.f0.toList b.f0.toList = false := by rw [h0, bl_irrefl]
    rw [if_pos e]
    unfold cmpI
    by_cases h1 : a.f1 < b.f1
    · simp [hb, h0, h1]
    · by_cases h2 : b.f1 < a.f1 <;> simp [hb, h0, h1, h2, bl_irrefl]
  · have e : ¬ cmpT a.f0 b.f0 = 0 := fun h => h0 ((cmpT_zero _ _).1 h)
    rw [if_neg e]
    unfold cmpT at e ⊢
    by_cases h1 : Op.bytesLess a.f0.toList b.f0.toList = true
    · simp [h1]
    · by_cases h2 : Op.bytesLess b.f0.toList a.f0.toList = true
      · simp [h1, h2, h0]
      · simp [h1, h2] at e
theorem impl_GoodVersions_loop (l : List (S42)) (hl : l.length ≤ 1048576) : ∀ (rest pre : List (S42)), l = pre ++ rest →
    Ev (fun k => impl_GoodVersions.l0 k l l l.length pre.length) (chainV pre.getLast? rest && decide (l.length ≤ 60))
  | [], pre, hd => by
    have e : l.length = pre.length := by rw [hd]; simp
    refine Ev.step (fun k => impl_GoodVersions.l0.eq_2 ..) (ev_if_neg (by omega) (ev_some ?_))
    have h2 : decide ((l.length : Int) ≤ 60) = decide (l.length ≤ 60) := len_le_cast l 60
    rw [h2]
    cases pre.getLast? <;> simp [chainV]
  | x :: rest, pre, hd => by
    obtain ⟨hi, hx⟩ := mid_at hd
    have hx : rd_T42 l pre.length = x := hx _
    refine Ev.step (fun k => impl_GoodVersions.l0.eq_2 ..) (ev_if_pos (by omega) (ev_if_pos (by omega) (ev_if_pos (by omega) ?_)))
    simp only [hx, impl_isVersion_eq, Option.bind_some]
    have ih := impl_GoodVersions_loop l hl rest (pre ++ [x]) (by rw [hd]; simp)
    rw [List.length_append, List.length_singleton] at ih
    simp only [List.getLast?_append, List.getLast?_singleton, Option.some_or] at ih
    cases hg : goodV x with
    | true =>
      refine ev_if_pos rfl ?_
      rcases nil_or_snoc pre with rfl | ⟨q, p, rfl⟩
      · refine ev_if_neg (by simp) ?_
        rw [wrap_succ (by omega)]
        refine ev_eq ih ?_
        simp [chainV, hg]
      · have hlast := last_at hd z42
        have hlast : rd_T42 l (((q ++ [p]).length : Int) - 1) = p := hlast
        have hpos : ((q ++ [p]).length : Int) > 0 := by rw [List.length_append, List.length_singleton]; omega
        rw [wrap_id (x := ((q ++ [p]).length : Int) - 1) (by omega) (by omega), hlast]
        refine ev_if_pos hpos (ev_if_pos (by omega) (ev_if_pos (by omega) (ev_bind (impl_compareVn_ev p x) ?_)))
        cases h4 : lessV p x with
        | true =>
          refine ev_if_neg (by rw [cmpVn_neg, h4]; simp) ?_
          rw [wrap_succ (by omega)]
          refine ev_eq ih ?_
          simp [chainV, hg, h4]
        | false =>
          refine ev_if_pos (by rw [cmpVn_neg, h4]) (ev_some ?_)
          simp [chainV, h4]
    | false =>
      refine ev_if_neg (by simp) (ev_some ?_)
      rcases nil_or_snoc pre with rfl | ⟨q, p, rfl⟩ <;> simp [chainV, hg]
theorem impl_GoodVersions_ev (l : List (S42)) (hl : l.length ≤ 1048576) : Ev (fun k => impl_GoodVersions.f k l) (goodVsn l) :=
  impl_GoodVersions_loop l hl l [] rfl

/-! ### marks -/
def mtN : Nat → Int → ByteArray → ByteArray
  | 0, _, acc => (⟨#[109]⟩ : ByteArray) ++ acc
  | f + 1, n, acc => if n > 0 then mtN f (n / 10) (strOfNums [(48 + n % 10) % 256] ++ acc) else (⟨#[109]⟩ : ByteArray) ++ acc
def mtx (n : Int) : ByteArray := if n ≤ 0 then ⟨#[109, 48]⟩ else mtN n.toNat n ⟨#[]⟩

theorem markText_loop : ∀ (f : Nat) (n : Int) (acc : ByteArray), 0 ≤ n → n ≤ f → acc.size + f ≤ 1152921504606846976 → Ev (fun k => laws_markText.l0 k n acc) (mtN f n acc)
  | 0, n, acc, h0, h1, h2 => by
    refine Ev.step (fun k => laws_markText.l0.eq_2 ..) (ev_if_neg (by omega) (ev_if_pos (by omega) (ev_some rfl)))
  | f + 1, n, acc, h0, h1, h2 => by
    refine Ev.step (fun k => laws_markText.l0.eq_2 ..) ?_
    unfold mtN
    by_cases hn : n > 0
    · refine ev_if_pos hn ?_
      rw [if_pos hn, tmod_nn (by omega), tdiv_nn (by omega), wrap_id (x := 48 + n % 10) (by omega) (by omega), wrap_id (x := n / 10) (by omega) (by omega)]
      simp only [Option.bind_some]
      exact ev_if_pos (by rw [one_size]; omega) (markText_loop f (n / 10) _ (by omega) (by omega) (by rw [size_append, one_size]; omega))
    · rw [if_neg hn]
      exact ev_if_neg hn (ev_if_pos (by omega) (ev_some rfl))
theorem markText_ev (n : Int) (h1 : n ≤ 576460752303423488) : Ev (fun k => laws_markText.f k n) (mtx n) := by
  unfold laws_markText.f mtx
  by_cases hn : n ≤ 0
  · rw [if_pos hn]; exact ev_if_pos hn (ev_some rfl)
  · rw [if_neg hn]; exact ev_if_neg hn (markText_loop n.toNat n ⟨#[]⟩ (by omega) (by omega) (by show 0 + _ ≤ _; omega))

def marksR : Nat → Nat → List ByteArray
  | 0, _ => []
  | d + 1, n => mtx n :: marksR d (n + 1)
theorem marksR_length : ∀ d n, (marksR d n).length = d
  | 0, _ => rfl
  | d + 1, n => by simp [marksR, marksR_length d (n + 1)]

/-! ### Version: marks -/
def mkVersion (n : Int) : S42 := ⟨mtx n, n + 1, Int.tmod (n + 2) 3 == 0, mtx (n + 3)⟩
def marksVersion : Nat → Nat → List (S42)
  | 0, _ => []
  | d + 1, n => mkVersion n :: marksVersion d (n + 4)
theorem marksVersion_length : ∀ d n, (marksVersion d n).length = d
  | 0, _ => rfl
  | d + 1, n => by simp [marksVersion, marksVersion_length d (n + 4)]
theorem rdVersion_mid (p : List (S42)) (x : S42) (q : List (S42)) : rd_T42 (p ++ x :: q) (p.length : Int) = x := (mid_at (l := p ++ x :: q) rfl).2 _
theorem wrap_four {n : Nat} (h : n ≤ 1073741824) : (Unit → wrap64 ((n : Int) + 1) = (n : Int) + 1) ∧ (Unit → wrap64 ((n : Int) + 1 + 1) = (n : Int) + 2) ∧ (Unit → wrap64 ((n : Int) + 2 + 1) = (n : Int) + 3) ∧ (Unit → wrap64 ((n : Int) + 3 + 1) = ((n + 4 : Nat) : Int)) :=
  ⟨fun _ => wrap_id (by omega) (by omega), fun _ => by rw [wrap_id (by omega) (by omega)]; omega, fun _ => by rw [wrap_id (by omega) (by omega)]; omega, fun _ => by rw [wrap_id (by omega) (by omega)]; omega⟩
theorem markVersionS_loop : ∀ (rest pre : List (S42)) (n : Nat), pre.length + rest.length ≤ 1073741824 → n + 4 * rest.length ≤ 1073741824 →
    Ev (fun k => laws_markVersionS.l0 k (pre ++ rest) n pre.length) (((n + 4 * rest.length : Nat) : Int), pre ++ marksVersion rest.length n)
  | [], pre, n, h1, h2 => by
    refine Ev.step (fun k => laws_markVersionS.l0.eq_2 ..) (ev_if_neg (by rw [List.append_nil]; omega) (ev_some (by simp [marksVersion])))
  | s :: rest, pre, n, h1, h2 => by
    rw [List.length_cons] at h1 h2
    obtain ⟨w1, w2, w3, w4⟩ := wrap_four (n := n) (by omega)
    refine Ev.step (fun k => laws_markVersionS.l0.eq_2 ..) (ev_if_pos (by rw [List.length_append, List.length_cons]; omega) (ev_bind (markText_ev n (by omega)) (ev_if_pos (by omega) ?_)))
    simp only [Option.bind_some, Int.toNat_natCast, set_at, rdVersion_mid, w1 (), w2 (), w3 (), w4 ()]
    refine ev_bind (markText_ev ((n : Int) + 3) (by omega)) ?_
    rw [wrap_succ (by omega)]
    have ih := markVersionS_loop rest (pre ++ [mkVersion n]) (n + 4) (by rw [List.length_append, List.length_singleton]; omega) (by omega)
    rw [List.append_assoc, List.length_append, List.length_singleton] at ih
    refine ev_eq ih ?_
    have e2 : n + 4 + 4 * rest.length = n + 4 * (rest.length + 1) := by omega
    simp only [List.length_cons, marksVersion, List.append_assoc, List.singleton_append, e2]
theorem markVersionS_ev (l : List (S42)) (n : Nat) (hb : 4 * l.length + n ≤ 1073741824) : Ev (fun k => laws_markVersionS.f k l n) (((n + 4 * l.length : Nat) : Int), marksVersion l.length n) := by
  unfold laws_markVersionS.f
  exact markVersionS_loop l [] n (by show 0 + _ ≤ _; omega) (by omega)

theorem heldVersionS_loop (l : List (S42)) (hl : l.length ≤ 1073741824) : ∀ (d n i : Nat), l.drop i = marksVersion d n → 4 * d + n ≤ 1073741824 → i + d = l.length →
    Ev (fun k => laws_heldVersionS.l0 k l n i) ((n + 4 * d : Nat) : Int)
  | 0, n, i, hd, hb, hi => by
    exact Ev.step (fun k => laws_heldVersionS.l0.eq_2 ..) (ev_if_neg (by omega) (ev_some rfl))
  | d + 1, n, i, hd, hb, hi => by
    obtain ⟨hi', hd', hx⟩ := drop_cons hd
    have hx : rd_T42 l i = mkVersion n := hx _
    obtain ⟨w1, w2, w3, w4⟩ := wrap_four (n := n) (by omega)
    refine Ev.step (fun k => laws_heldVersionS.l0.eq_2 ..) (ev_if_pos (by omega) (ev_if_pos (by omega) (ev_bind (markText_ev n (by omega)) ?_)))
    simp only [hx, w1 (), w2 (), w3 (), w4 (), mkVersion, bne_self_eq_false]
    refine ev_if_pos trivial (ev_if_pos trivial (ev_if_neg (by simp) (ev_bind (markText_ev ((n : Int) + 3) (by omega)) (ev_if_pos rfl ?_))))
    rw [wrap_succ (by omega)]
    refine ev_eq (heldVersionS_loop l hl d (n + 4) (i + 1) hd' (by omega) (by omega)) ?_
    congr 1
    omega
theorem heldVersionS_ev (d n : Nat) (hb : 4 * d + n ≤ 1073741824) : Ev (fun k => laws_heldVersionS.f k (marksVersion d n) n) ((n + 4 * d : Nat) : Int) := by
  unfold laws_heldVersionS.f
  exact heldVersionS_loop (marksVersion d n) (by rw [marksVersion_length]; omega) d n 0 rfl hb (by rw [marksVersion_length]; omega)

/-! ### by key and time -/
theorem bl_trans : ∀ x y z : List UInt8, Op.bytesLess x y = true → Op.bytesLess y z = true → Op.bytesLess x z = true
  | [], [], z, h, _ => by simp [Op.bytesLess] at h
  | [], _ :: _, [], _, k => by simp [Op.bytesLess] at k
  | [], _ :: _, _ :: _, _, _ => rfl
  | _ :: _, [], _, h, _ => by simp [Op.bytesLess] at h
  | _ :: _, _ :: _, [], _, k => by simp [Op.bytesLess] at k
  | a :: x, b :: y, c :: z, h, k => by
    simp only [Op.bytesLess, Bool.or_eq_true, decide_eq_true_eq, Bool.and_eq_true, beq_iff_eq] at h k ⊢
    rcases h with h | ⟨h, h'⟩
    · rcases k with k | ⟨k, k'⟩
      · exact .inl (UInt8.lt_trans h k)
      · exact .inl (k ▸ h)
    · rcases k with k | ⟨k, k'⟩
      · exact .inl (h ▸ k)
      · exact .inr ⟨h.trans k, bl_trans x y z h' k'⟩
theorem bl_asym (x y : List UInt8) (h : Op.bytesLess x y = true) : Op.bytesLess y x = false := by
  cases k : Op.bytesLess y x with
  | false => rfl
  | true => have := bl_trans x y x h k; rw [bl_irrefl] at this; cases this
theorem bl_neg (x y z : List UInt8) (h : Op.bytesLess x y = false) (k : Op.bytesLess y z = false) : Op.bytesLess x z = false := by
  cases hc : Op.bytesLess x z with
  | false => rfl
  | true =>
    cases h2 : Op.bytesLess y x with
    | true => have := bl_trans y x z h2 hc; rw [k] at this; cases this
    | false => have e := bl_total x y h h2; subst e; rw [k] at hc; cases hc
open Go.Proofs.Ytpfjlnfgekeobaa.Stable in
theorem lessV_weak : Weak lessV where
  asym := fun x y h => by
    simp only [lessV, Bool.or_eq_true, Bool.and_eq_true, decide_eq_true_eq, Bool.or_eq_false_iff, Bool.and_eq_false_iff, decide_eq_false_iff_not] at h ⊢
    rcases h with h | ⟨h1, h2⟩
    · refine ⟨bl_asym _ _ h, .inl (fun e => ?_)⟩
      rw [e, bl_irrefl] at h; cases h
    · rw [h1, bl_irrefl]
      exact ⟨rfl, .inr (by omega)⟩
  neg := fun x y z h k => by
    simp only [lessV, Bool.or_eq_false_iff, Bool.and_eq_false_iff, decide_eq_false_iff_not] at h k ⊢
    refine ⟨bl_neg _ _ _ h.1 k.1, ?_⟩
    by_cases e : x.f0 = z.f0
    · right
      by_cases e2 : x.f0 = y.f0
      · have e3 : y.f0 = z.f0 := e2.symm.trans e
        rcases h.2 with h2 | h2
        · exact absurd e2 h2
        · rcases k.2 with k2 | k2
          · exact absurd e3 k2
          · omega
      · exfalso
        apply e2
        have k1 := k.1
        rw [← e] at k1
        exact toList_inj.1 (bl_total _ _ h.1 k1)
    · exact .inl e
theorem cmp_ev (x y : S42) : ∃ r, Ev (fun k => impl_Version_compare.f k x.f0 x.f1 x.f2 x.f3 y.f0 y.f1 y.f2 y.f3) r ∧ decide (r < 0) = lessV x y := by
  refine ⟨_, impl_compareVn_ev x y, ?_⟩
  have h := cmpVn_neg x y
  cases hc : lessV x y with
  | true =>
    rw [hc] at h
    rw [decide_eq_true_eq]
    by_cases hn : cmpVn x y < 0
    · exact hn
    · exact absurd (h.mp (by omega)) (by simp)
  | false =>
    rw [hc] at h
    rw [decide_eq_false_iff_not]
    have := h.mpr rfl
    omega

/-! ### stable sorting: the library's own way -/
section
open Go.Proofs.Ytpfjlnfgekeobaa.Stable
theorem rdS42at (l : List (S42)) (P : List (S42)) (x : S42) (Q : List (S42)) (i : Int) (h : l = P ++ x :: Q) (hi : i = P.length) : rd_T42 l i = x := by
  subst h; subst hi
  exact (mid_at (l := P ++ x :: Q) rfl).2 _
theorem setS42at (l P : List (S42)) (x y : S42) (Q : List (S42)) (i : Int) (h : l = P ++ x :: Q) (hi : i = P.length) : l.set i.toNat y = P ++ y :: Q := by
  subst h; subst hi
  rw [Int.toNat_natCast, set_at]
theorem insert_loop (hW : Weak lessV) (P Q : List (S42)) (b i : Int) (R : List (S42)) : ∀ (n : Nat) (L M : List (S42)) (x : S42), L.length = n → P.length + L.length + M.length + Q.length ≤ 1048576 → Sorted lessV L → (∀ y ∈ M, lessV x y = true) →
    Ev (fun k => slices_insertionSortCmpFunc_impl_Version__impl_Version_compare.l0 k (P ++ (ins lessV x (L ++ M) ++ Q)) P.length b (wrap64 (i + 1))) R →
    Ev (fun k => slices_insertionSortCmpFunc_impl_Version__impl_Version_compare.l1 k (P ++ (L ++ x :: (M ++ Q))) P.length b i ((P.length + L.length : Nat) : Int)) R
  | 0, L, M, x, hn, hl, hs, hM, h => by
    obtain rfl := List.eq_nil_of_length_eq_zero hn
    have e : ins lessV x ([] ++ M) = x :: M := by
      rw [List.nil_append]
      exact ins_front x M (fun y hy => hM y (List.mem_of_mem_head? hy))
    rw [e] at h
    exact Ev.step (fun k => slices_insertionSortCmpFunc_impl_Version__impl_Version_compare.l1.eq_2 ..) (ev_if_neg (by simp) h)
  | n + 1, L, M, x, hn, hl, hs, hM, h => by
    rcases nil_or_snoc L with rfl | ⟨L', y, rfl⟩
    · simp at hn
    · rw [List.length_append, List.length_singleton] at hn hl
      have hlen : (L' ++ [y]).length = L'.length + 1 := by simp
      have e1 : wrap64 (((P.length + (L' ++ [y]).length : Nat) : Int) - 1) = ((P.length + L'.length : Nat) : Int) := by rw [hlen, wrap_id (by omega) (by omega)]; omega
      have d1 : P ++ ((L' ++ [y]) ++ x :: (M ++ Q)) = (P ++ (L' ++ [y])) ++ x :: (M ++ Q) := by simp
      have d2 : P ++ ((L' ++ [y]) ++ x :: (M ++ Q)) = (P ++ L') ++ y :: (x :: (M ++ Q)) := by simp
      have r1 := rdS42at _ _ x _ ((P.length + (L' ++ [y]).length : Nat) : Int) d1 (by simp only [List.length_append])
      have r2 := rdS42at _ _ y _ ((P.length + L'.length : Nat) : Int) d2 (by rw [List.length_append])
      have hlen2 : ((P ++ ((L' ++ [y]) ++ x :: (M ++ Q))).length : Int) = P.length + L'.length + 2 + M.length + Q.length := by simp only [List.length_append, List.length_cons, List.length_singleton, List.length_nil]; omega
      have s1 : (P ++ ((L' ++ [y]) ++ x :: (M ++ Q))).set ((P.length + (L' ++ [y]).length : Nat) : Int).toNat y = (P ++ L') ++ y :: (y :: (M ++ Q)) := by
        rw [setS42at _ _ x y _ _ d1 (by simp only [List.length_append])]; simp
      have s2 : ((P ++ L') ++ y :: (y :: (M ++ Q))).set ((P.length + L'.length : Nat) : Int).toNat x = P ++ (L' ++ x :: ((y :: M) ++ Q)) := by
        rw [setS42at _ _ y x _ _ rfl (by rw [List.length_append])]; simp
      obtain ⟨r, hr, hc⟩ := cmp_ev x y
      refine Ev.step (fun k => slices_insertionSortCmpFunc_impl_Version__impl_Version_compare.l1.eq_2 ..) (ev_if_pos (by omega) (ev_if_pos (by omega) (ev_if_pos (by rw [hlen2]; omega) ?_)))
      simp only [e1, r1, r2]
      refine ev_if_pos (by omega) (ev_if_pos (by rw [hlen2]; omega) (ev_bind hr ?_))
      by_cases hlt : lessV x y = true
      · refine ev_if_pos (of_decide_eq_true (hc.trans hlt)) ?_
        have hd : ∀ k, slices_insertionSortCmpFunc_impl_Version__impl_Version_compare.l1 k (((P ++ ((L' ++ [y]) ++ x :: (M ++ Q))).set ((P.length + (L' ++ [y]).length : Nat) : Int).toNat y).set ((P.length + L'.length : Nat) : Int).toNat x) P.length b i ((P.length + L'.length : Nat) : Int) = slices_insertionSortCmpFunc_impl_Version__impl_Version_compare.l1 k (P ++ (L' ++ x :: ((y :: M) ++ Q))) P.length b i ((P.length + L'.length : Nat) : Int) := by
          intro k; rw [s1, s2]
        have hsL : Sorted lessV L' := by
          unfold Sorted at hs
          rw [List.pairwise_append] at hs
          exact hs.1
        have ih := insert_loop hW P Q b i R n L' (y :: M) x (by omega) (by rw [List.length_cons]; omega) hsL (fun z hz => by
          rcases List.mem_cons.1 hz with rfl | hz
          · exact hlt
          · exact hM z hz) (by simpa using h)
        obtain ⟨K, hK⟩ := ih
        exact ⟨K, fun k hk => (hd k).trans (hK k hk)⟩
      · have hf : lessV x y = false := by simpa using hlt
        refine ev_if_neg (fun hn0 => by have := hc.symm.trans (decide_eq_true hn0); rw [hf] at this; cases this) ?_
        have hall : ∀ z ∈ L' ++ [y], lessV x z = false := by
          intro z hz
          unfold Sorted at hs
          rw [List.pairwise_append] at hs
          rcases List.mem_append.1 hz with hz | hz
          · exact hW.neg x y z hf (hs.2.2 z hz y (by simp))
          · rw [List.mem_singleton] at hz; subst hz; exact hf
        have e : ins lessV x ((L' ++ [y]) ++ M) = (L' ++ [y]) ++ x :: M := by
          rw [ins_append hW x _ _ hall, ins_front x M (fun z hz => hM z (List.mem_of_mem_head? hz))]
        rw [e] at h
        simpa using h
theorem insertion_loop (hW : Weak lessV) (P Q : List (S42)) : ∀ (B A : List (S42)), P.length + A.length + B.length + Q.length ≤ 1048576 → Sorted lessV A →
    Ev (fun k => slices_insertionSortCmpFunc_impl_Version__impl_Version_compare.l0 k (P ++ (A ++ (B ++ Q))) P.length ((P.length + A.length + B.length : Nat) : Int) ((P.length + A.length : Nat) : Int)) (P ++ (B.foldl (fun a x => ins lessV x a) A ++ Q))
  | [], A, hl, hs => by
    exact Ev.step (fun k => slices_insertionSortCmpFunc_impl_Version__impl_Version_compare.l0.eq_2 ..) (ev_if_neg (by simp) (ev_some rfl))
  | x :: B, A, hl, hs => by
    rw [List.length_cons] at hl
    refine Ev.step (fun k => slices_insertionSortCmpFunc_impl_Version__impl_Version_compare.l0.eq_2 ..) (ev_if_pos (by rw [List.length_cons]; omega) ?_)
    have key := insert_loop hW P (B ++ Q) ((P.length + A.length + (x :: B).length : Nat) : Int) ((P.length + A.length : Nat) : Int) (P ++ ((x :: B).foldl (fun a x => ins lessV x a) A ++ Q)) A.length A [] x rfl (by rw [List.length_append, List.length_nil]; omega) hs (by simp) ?_
    · simpa using key
    · have ih := insertion_loop hW P Q B (ins lessV x A) (by rw [ins_length]; omega) (hs.ins hW x)
      rw [ins_length] at ih
      rw [wrap_succ (by omega), List.append_nil, List.foldl_cons]
      have e1 : P.length + (A.length + 1) + B.length = P.length + A.length + (x :: B).length := by rw [List.length_cons]; omega
      have e2 : P.length + (A.length + 1) = P.length + A.length + 1 := by omega
      rw [e1, e2] at ih
      exact ih
theorem insertion_ev (hW : Weak lessV) (P B Q : List (S42)) (a b : Int) (ha : a = P.length) (hb : b = ((P.length + B.length : Nat) : Int)) (hl : P.length + B.length + Q.length ≤ 1048576) : Ev (fun k => slices_insertionSortCmpFunc_impl_Version__impl_Version_compare.f k (P ++ (B ++ Q)) a b) (P ++ (isort lessV B ++ Q)) := by
  subst ha; subst hb
  unfold slices_insertionSortCmpFunc_impl_Version__impl_Version_compare.f isort
  rw [wrap_succ (by omega)]
  cases B with
  | nil => exact Ev.step (fun k => slices_insertionSortCmpFunc_impl_Version__impl_Version_compare.l0.eq_2 ..) (ev_if_neg (by rw [List.length_nil]; omega) (ev_some rfl))
  | cons x B =>
    rw [List.length_cons] at hl
    have h := insertion_loop hW P Q B [x] (by rw [List.length_singleton]; omega) (by simp [Sorted])
    rw [List.length_singleton] at h
    have e1 : P.length + 1 + B.length = P.length + (x :: B).length := by rw [List.length_cons]; omega
    rw [e1] at h
    simpa [ins] using h
theorem swap_loop (P M Q : List (S42)) (n : Int) : ∀ (A2 B2 A1 B1 : List (S42)), A2.length = B2.length → A1.length = B1.length → n = ((A1.length + A2.length : Nat) : Int) → P.length + B1.length + A2.length + M.length + A1.length + B2.length + Q.length ≤ 1048576 →
    Ev (fun k => slices_swapRangeCmpFunc_impl_Version__impl_Version_compare.l0 k (P ++ (B1 ++ (A2 ++ (M ++ (A1 ++ (B2 ++ Q)))))) P.length ((P.length + B1.length + A2.length + M.length : Nat) : Int) n (A1.length : Nat)) (P ++ ((B1 ++ B2) ++ (M ++ ((A1 ++ A2) ++ Q))))
  | [], [], A1, B1, h1, h2, hn, hl => by
    refine Ev.step (fun k => slices_swapRangeCmpFunc_impl_Version__impl_Version_compare.l0.eq_2 ..) (ev_if_neg (by rw [hn]; simp) (ev_some (by simp)))
  | [], _ :: _, _, _, h1, _, _, _ => by simp at h1
  | _ :: _, [], _, _, h1, _, _, _ => by simp at h1
  | u :: A2, v :: B2, A1, B1, h1, h2, hn, hl => by
    rw [List.length_cons, List.length_cons] at h1
    rw [List.length_cons, List.length_cons] at hl
    rw [List.length_cons] at hn
    have ib : wrap64 (((P.length + B1.length + (u :: A2).length + M.length : Nat) : Int) + ((A1.length : Nat) : Int)) = ((P.length + B1.length + A2.length + 1 + M.length + A1.length : Nat) : Int) := by rw [List.length_cons, wrap_id (by omega) (by omega)]; omega
    have ia : wrap64 ((P.length : Int) + ((A1.length : Nat) : Int)) = ((P.length + B1.length : Nat) : Int) := by rw [wrap_id (by omega) (by omega)]; omega
    have d1 : P ++ (B1 ++ ((u :: A2) ++ (M ++ (A1 ++ ((v :: B2) ++ Q))))) = (P ++ B1) ++ u :: (A2 ++ (M ++ (A1 ++ ((v :: B2) ++ Q)))) := by simp
    have d2 : P ++ (B1 ++ ((u :: A2) ++ (M ++ (A1 ++ ((v :: B2) ++ Q))))) = (P ++ (B1 ++ (u :: A2) ++ M ++ A1)) ++ v :: (B2 ++ Q) := by simp
    have r1 := rdS42at _ _ u _ ((P.length + B1.length : Nat) : Int) d1 (by rw [List.length_append])
    have r2 := rdS42at _ _ v _ ((P.length + B1.length + A2.length + 1 + M.length + A1.length : Nat) : Int) d2 (by simp only [List.length_append, List.length_cons]; omega)
    have hlen : ((P ++ (B1 ++ ((u :: A2) ++ (M ++ (A1 ++ ((v :: B2) ++ Q)))))).length : Int) = P.length + B1.length + A2.length + 1 + M.length + A1.length + B2.length + 1 + Q.length := by simp only [List.length_append, List.length_cons]; omega
    have s1 : (P ++ (B1 ++ ((u :: A2) ++ (M ++ (A1 ++ ((v :: B2) ++ Q)))))).set ((P.length + B1.length : Nat) : Int).toNat v = (P ++ ((B1 ++ [v]) ++ A2 ++ M ++ A1)) ++ v :: (B2 ++ Q) := by
      rw [setS42at _ _ u v _ _ d1 (by rw [List.length_append])]; simp
    have s2 : ((P ++ ((B1 ++ [v]) ++ A2 ++ M ++ A1)) ++ v :: (B2 ++ Q)).set ((P.length + B1.length + A2.length + 1 + M.length + A1.length : Nat) : Int).toNat u = P ++ ((B1 ++ [v]) ++ (A2 ++ (M ++ ((A1 ++ [u]) ++ (B2 ++ Q))))) := by
      rw [setS42at _ _ v u _ _ rfl (by simp only [List.length_append, List.length_cons, List.length_nil]; omega)]; simp
    have ih := swap_loop P M Q n A2 B2 (A1 ++ [u]) (B1 ++ [v]) (by omega) (by simp; omega) (by rw [hn, List.length_append, List.length_singleton]; omega) (by rw [List.length_append, List.length_singleton, List.length_append, List.length_singleton]; omega)
    rw [List.length_append, List.length_singleton, List.length_append, List.length_singleton] at ih
    refine Ev.step (fun k => slices_swapRangeCmpFunc_impl_Version__impl_Version_compare.l0.eq_2 ..) (ev_if_pos (by omega) ?_)
    simp only [ia, ib, r1, r2]
    refine ev_if_pos (by omega) (ev_if_pos (by rw [hlen]; omega) (ev_if_pos (by omega) (ev_if_pos (by rw [hlen]; omega) ?_)))
    rw [wrap_succ (by omega)]
    have e : P.length + (B1.length + 1) + A2.length + M.length = P.length + B1.length + (u :: A2).length + M.length := by rw [List.length_cons]; omega
    rw [e] at ih
    obtain ⟨K, hK⟩ := ih
    refine ⟨K, fun k hk => ?_⟩
    have h := hK k hk
    rw [← s2, ← s1] at h
    refine Eq.trans h ?_
    simp
theorem swap_ev (P A M B Q : List (S42)) (a b n : Int) (hAB : A.length = B.length) (ha : a = P.length) (hb : b = ((P.length + A.length + M.length : Nat) : Int)) (hn : n = A.length) (hl : P.length + A.length + M.length + B.length + Q.length ≤ 1048576) :
    Ev (fun k => slices_swapRangeCmpFunc_impl_Version__impl_Version_compare.f k (P ++ (A ++ (M ++ (B ++ Q)))) a b n) (P ++ (B ++ (M ++ (A ++ Q)))) := by
  subst ha; subst hb; subst hn
  unfold slices_swapRangeCmpFunc_impl_Version__impl_Version_compare.f
  have h := swap_loop P M Q (A.length : Int) A B [] [] hAB rfl (by simp) (by simp; omega)
  simpa using h
theorem split_len {β : Type} (l : List β) (n : Nat) (h : n ≤ l.length) : ∃ x y, l = x ++ y ∧ x.length = n := ⟨l.take n, l.drop n, (List.take_append_drop n l).symm, List.length_take_of_le h⟩
theorem rotate_loop (m : Int) : ∀ (n : Nat) (P A B Q : List (S42)), A.length + B.length ≤ n → 0 < A.length → 0 < B.length → m = ((P.length + A.length : Nat) : Int) → P.length + A.length + B.length + Q.length ≤ 1048576 →
    Ev (fun k => slices_rotateCmpFunc_impl_Version__impl_Version_compare.l0 k (P ++ (A ++ (B ++ Q))) m A.length B.length) (P ++ (B ++ (A ++ Q)))
  | 0, P, A, B, Q, hn, hA, hB, hm, hl => by omega
  | n + 1, P, A, B, Q, hn, hA, hB, hm, hl => by
    have w1 : wrap64 (m - (A.length : Int)) = P.length := by rw [hm, wrap_id (by omega) (by omega)]; omega
    refine Ev.step (fun k => slices_rotateCmpFunc_impl_Version__impl_Version_compare.l0.eq_2 ..) ?_
    simp only [w1]
    by_cases h1 : (A.length : Int) = B.length
    · refine ev_if_pos h1 (ev_bind (a := P ++ (B ++ (A ++ Q))) ?_ (ev_some rfl))
      have := swap_ev P A [] B Q P.length m A.length (by omega) rfl (by rw [hm]; simp) rfl (by simp; omega)
      simpa using this
    · refine ev_if_neg h1 ?_
      by_cases h2 : (A.length : Int) > B.length
      · obtain ⟨A1, A2, rfl, hA1⟩ := split_len A B.length (by omega)
        rw [List.length_append] at hn hA hm hl h1 h2
        refine ev_if_pos (by rw [List.length_append]; exact h2) (ev_bind (a := P ++ (B ++ (A2 ++ (A1 ++ Q)))) ?_ ?_)
        · have := swap_ev P A1 A2 B Q P.length m B.length (by omega) rfl (by rw [hm]; congr 1; omega) (by rw [hA1]) (by omega)
          simpa using this
        · have e : wrap64 (((A1 ++ A2).length : Int) - (B.length : Int)) = A2.length := by rw [List.length_append, wrap_id (by omega) (by omega)]; omega
          have ih := rotate_loop m n (P ++ B) A2 A1 Q (by omega) (by omega) (by omega) (by rw [hm, List.length_append]; congr 1; omega) (by rw [List.length_append]; omega)
          rw [e]
          rw [← hA1]
          simpa using ih
      · obtain ⟨B1, B2, rfl, hB1⟩ := split_len B (B.length - A.length) (by omega)
        rw [List.length_append] at hn hB hl h1 h2 hB1
        have hB2 : B2.length = A.length := by omega
        have w2 : wrap64 (wrap64 (m + ((B1 ++ B2).length : Int)) - (A.length : Int)) = ((P.length + A.length + B1.length : Nat) : Int) := by
          rw [List.length_append, hm, wrap_id (x := _ + _) (by omega) (by omega), wrap_id (by omega) (by omega)]; omega
        refine ev_if_neg (by rw [List.length_append]; exact h2) (ev_bind (a := P ++ (B2 ++ (B1 ++ (A ++ Q)))) ?_ ?_)
        · rw [w2]
          have := swap_ev P A B1 B2 Q P.length ((P.length + A.length + B1.length : Nat) : Int) A.length (by omega) rfl rfl rfl (by omega)
          simpa using this
        · have e : wrap64 (((B1 ++ B2).length : Int) - (A.length : Int)) = B1.length := by rw [List.length_append, wrap_id (by omega) (by omega)]; omega
          have ih := rotate_loop m n P B2 B1 (A ++ Q) (by omega) (by omega) (by omega) (by rw [hm, hB2]) (by rw [List.length_append]; omega)
          rw [e]
          rw [hB2] at ih
          simpa using ih
theorem rotate_ev (P A B Q : List (S42)) (a m b : Int) (ha : a = P.length) (hm : m = ((P.length + A.length : Nat) : Int)) (hb : b = ((P.length + A.length + B.length : Nat) : Int)) (hA : 0 < A.length) (hB : 0 < B.length) (hl : P.length + A.length + B.length + Q.length ≤ 1048576) :
    Ev (fun k => slices_rotateCmpFunc_impl_Version__impl_Version_compare.f k (P ++ (A ++ (B ++ Q))) a m b) (P ++ (B ++ (A ++ Q))) := by
  unfold slices_rotateCmpFunc_impl_Version__impl_Version_compare.f
  have e1 : wrap64 (m - a) = A.length := by rw [hm, ha, wrap_id (by omega) (by omega)]; omega
  have e2 : wrap64 (b - m) = B.length := by rw [hm, hb, wrap_id (by omega) (by omega)]; omega
  rw [e1, e2]
  exact rotate_loop m (A.length + B.length) P A B Q (Nat.le_refl _) hA hB hm hl

theorem half_eq {i j : Nat} (h : i + j ≤ 4194304) : wrap64 ((IntKind.u64.wrap (wrap64 ((i : Int) + (j : Int)))) / 2) = (((i + j) / 2 : Nat) : Int) := by
  rw [wrap_id (x := (i : Int) + j) (by omega) (by omega)]
  have e : IntKind.u64.wrap ((i : Int) + (j : Int)) = (i : Int) + j := by
    simp [IntKind.wrap, IntKind.bits, IntKind.signed]
    omega
  rw [e, wrap_id (by omega) (by omega)]
  omega
theorem rdS42get (l : List (S42)) (i : Nat) (x : S42) (h : l[i]? = some x) : rd_T42 l (i : Int) = x := by
  unfold rd_T42
  rw [Int.toNat_natCast, List.getD_eq_getElem?_getD, h]; rfl
theorem at_L (P L R Q : List (S42)) (u : Nat) (h : u < L.length) : (P ++ (L ++ (R ++ Q)))[P.length + u]? = L[u]? := by
  rw [List.getElem?_append_right (by omega), Nat.add_sub_cancel_left, List.getElem?_append_left h]
theorem at_R (P L R Q : List (S42)) (u : Nat) (h : u < R.length) : (P ++ (L ++ (R ++ Q)))[P.length + L.length + u]? = R[u]? := by
  rw [List.getElem?_append_right (by omega), List.getElem?_append_right (by omega), show P.length + L.length + u - P.length - L.length = u by omega, List.getElem?_append_left h]
theorem some_at {β : Type} (l : List β) (i : Nat) (h : i < l.length) : ∃ x, l[i]? = some x := ⟨l[i], List.getElem?_eq_getElem h⟩
theorem sorted_lt {l : List (S42)} (h : Sorted lessV l) {i j : Nat} {x y : S42} (hx : l[i]? = some x) (hy : l[j]? = some y) (hij : i < j) : lessV y x = false := by
  unfold Sorted at h
  rw [List.pairwise_iff_getElem] at h
  obtain ⟨hi, rfl⟩ := List.getElem?_eq_some_iff.1 hx
  obtain ⟨hj, rfl⟩ := List.getElem?_eq_some_iff.1 hy
  exact h i j hi hj hij
theorem lt_irr (hW : Weak lessV) (x : S42) : lessV x x = false := by
  cases h : lessV x x with
  | false => rfl
  | true => have := hW.asym x x h; rw [h] at this; exact this
theorem sorted_le (hW : Weak lessV) {l : List (S42)} (h : Sorted lessV l) {i j : Nat} {x y : S42} (hx : l[i]? = some x) (hy : l[j]? = some y) (hij : i ≤ j) : lessV y x = false := by
  rcases Nat.lt_or_eq_of_le hij with k | k
  · exact sorted_lt h hx hy k
  · subst k
    rw [hx] at hy; injection hy with hy; subst hy
    exact lt_irr hW x
theorem in_take {β : Type} {l : List β} {u : Nat} {x : β} (h : x ∈ l.take u) : ∃ i, i < u ∧ l[i]? = some x := by
  obtain ⟨i, hi⟩ := List.mem_iff_getElem?.1 h
  rw [List.getElem?_take] at hi
  split at hi
  · exact ⟨i, by assumption, hi⟩
  · cases hi
theorem in_drop {β : Type} {l : List β} {u : Nat} {x : β} (h : x ∈ l.drop u) : ∃ i, u ≤ i ∧ l[i]? = some x := by
  obtain ⟨i, hi⟩ := List.mem_iff_getElem?.1 h
  rw [List.getElem?_drop] at hi
  exact ⟨u + i, by omega, hi⟩
theorem mrg_length : ∀ (n : Nat) (l r : List (S42)), l.length + r.length ≤ n → (mrg lessV l r).length = l.length + r.length
  | _, [], r, _ => by rw [nil_mrg]; simp
  | _, l :: L, [], _ => by rw [mrg_nil]; rfl
  | 0, l :: L, r :: R, hn => by simp at hn
  | n + 1, l :: L, r :: R, hn => by
    simp only [List.length_cons] at hn
    rw [mrg_cons]
    split
    · rw [List.length_cons, mrg_length n (l :: L) R (by simp only [List.length_cons]; omega)]; simp only [List.length_cons]; omega
    · rw [List.length_cons, mrg_length n L (r :: R) (by simp only [List.length_cons]; omega)]; simp only [List.length_cons]; omega
/-- One element moved to the right. -/
theorem right_loop (P Z : List (S42)) (x : S42) (i : Int) : ∀ (E D : List (S42)), i = ((P.length + D.length + E.length + 1 : Nat) : Int) → P.length + D.length + E.length + 1 + Z.length ≤ 1048576 →
    Ev (fun k => slices_symMergeCmpFunc_impl_Version__impl_Version_compare.l1 k (P ++ (D ++ x :: (E ++ Z))) i ((P.length + D.length : Nat) : Int)) (P ++ (D ++ (E ++ x :: Z)))
  | [], D, hi, hl => by
    have e : wrap64 (i - 1) = ((P.length + D.length : Nat) : Int) := by rw [hi, List.length_nil, wrap_id (by omega) (by omega)]; omega
    refine Ev.step (fun k => slices_symMergeCmpFunc_impl_Version__impl_Version_compare.l1.eq_2 ..) ?_
    rw [e]
    exact ev_if_neg (by omega) (ev_some rfl)
  | y :: E, D, hi, hl => by
    rw [List.length_cons] at hi hl
    have e : wrap64 (i - 1) = ((P.length + D.length + E.length + 1 : Nat) : Int) := by rw [hi, wrap_id (by omega) (by omega)]; omega
    have d1 : P ++ (D ++ x :: ((y :: E) ++ Z)) = (P ++ D) ++ x :: (y :: (E ++ Z)) := by simp
    have d2 : P ++ (D ++ x :: ((y :: E) ++ Z)) = (P ++ (D ++ [x])) ++ y :: (E ++ Z) := by simp
    have r1 := rdS42at _ _ x _ ((P.length + D.length : Nat) : Int) d1 (by rw [List.length_append])
    have r2 := rdS42at _ _ y _ ((P.length + D.length + 1 : Nat) : Int) d2 (by simp only [List.length_append, List.length_singleton]; omega)
    have hlen : ((P ++ (D ++ x :: ((y :: E) ++ Z))).length : Int) = P.length + D.length + 2 + E.length + Z.length := by simp only [List.length_append, List.length_cons]; omega
    have s1 : (P ++ (D ++ x :: ((y :: E) ++ Z))).set ((P.length + D.length : Nat) : Int).toNat y = (P ++ (D ++ [y])) ++ y :: (E ++ Z) := by
      rw [setS42at _ _ x y _ _ d1 (by rw [List.length_append])]; simp
    have s2 : ((P ++ (D ++ [y])) ++ y :: (E ++ Z)).set ((P.length + D.length + 1 : Nat) : Int).toNat x = P ++ ((D ++ [y]) ++ x :: (E ++ Z)) := by
      rw [setS42at _ _ y x _ _ rfl (by simp only [List.length_append, List.length_singleton]; omega)]; simp
    refine Ev.step (fun k => slices_symMergeCmpFunc_impl_Version__impl_Version_compare.l1.eq_2 ..) ?_
    rw [e]
    refine ev_if_pos (by omega) ?_
    rw [wrap_succ (by omega)]
    simp only [r1, r2]
    refine ev_if_pos (by omega) (ev_if_pos (by rw [hlen]; omega) (ev_if_pos (by omega) (ev_if_pos (by rw [hlen]; omega) ?_)))
    have ih := right_loop P Z x i E (D ++ [y]) (by rw [hi, List.length_append, List.length_singleton]; congr 1; omega) (by rw [List.length_append, List.length_singleton]; omega)
    rw [List.length_append, List.length_singleton] at ih
    obtain ⟨K, hK⟩ := ih
    refine ⟨K, fun k hk => ?_⟩
    have h := hK k hk
    rw [← s2, ← s1] at h
    refine Eq.trans h ?_
    simp
/-- One element moved to the left. -/
theorem left_loop (P Z : List (S42)) (y : S42) : ∀ (n : Nat) (D E : List (S42)), D.length = n → P.length + D.length + 1 + E.length + Z.length ≤ 1048576 →
    Ev (fun k => slices_symMergeCmpFunc_impl_Version__impl_Version_compare.l3 k (P ++ (D ++ y :: (E ++ Z))) P.length ((P.length + D.length : Nat) : Int)) (P ++ (y :: (D ++ E) ++ Z))
  | 0, D, E, hn, hl => by
    obtain rfl := List.eq_nil_of_length_eq_zero hn
    exact Ev.step (fun k => slices_symMergeCmpFunc_impl_Version__impl_Version_compare.l3.eq_2 ..) (ev_if_neg (by simp) (ev_some (by simp)))
  | n + 1, D, E, hn, hl => by
    rcases nil_or_snoc D with rfl | ⟨D, x, rfl⟩
    · simp at hn
    · rw [List.length_append, List.length_singleton] at hn hl
      have d1 : P ++ ((D ++ [x]) ++ y :: (E ++ Z)) = (P ++ (D ++ [x])) ++ y :: (E ++ Z) := by simp
      have d2 : P ++ ((D ++ [x]) ++ y :: (E ++ Z)) = (P ++ D) ++ x :: (y :: (E ++ Z)) := by simp
      have r1 := rdS42at _ _ y _ ((P.length + (D ++ [x]).length : Nat) : Int) d1 (by simp only [List.length_append])
      have r2 := rdS42at _ _ x _ ((P.length + D.length : Nat) : Int) d2 (by rw [List.length_append])
      have e1 : wrap64 (((P.length + (D ++ [x]).length : Nat) : Int) - 1) = ((P.length + D.length : Nat) : Int) := by rw [List.length_append, List.length_singleton, wrap_id (by omega) (by omega)]; omega
      have hlen : ((P ++ ((D ++ [x]) ++ y :: (E ++ Z))).length : Int) = P.length + D.length + 2 + E.length + Z.length := by simp only [List.length_append, List.length_cons, List.length_singleton, List.length_nil]; omega
      have hlx : (D ++ [x]).length = D.length + 1 := by simp
      have s1 : (P ++ ((D ++ [x]) ++ y :: (E ++ Z))).set ((P.length + (D ++ [x]).length : Nat) : Int).toNat x = (P ++ D) ++ x :: (x :: (E ++ Z)) := by
        rw [setS42at _ _ y x _ _ d1 (by simp only [List.length_append])]; simp
      have s2 : ((P ++ D) ++ x :: (x :: (E ++ Z))).set ((P.length + D.length : Nat) : Int).toNat y = P ++ (D ++ y :: ((x :: E) ++ Z)) := by
        rw [setS42at _ _ x y _ _ rfl (by rw [List.length_append])]; simp
      refine Ev.step (fun k => slices_symMergeCmpFunc_impl_Version__impl_Version_compare.l3.eq_2 ..) (ev_if_pos (by omega) ?_)
      simp only [e1, r1, r2]
      refine ev_if_pos (by omega) (ev_if_pos (by rw [hlen]; omega) (ev_if_pos (by omega) (ev_if_pos (by rw [hlen]; omega) ?_)))
      have ih := left_loop P Z y n D (x :: E) (by omega) (by rw [List.length_cons]; omega)
      obtain ⟨K, hK⟩ := ih
      refine ⟨K, fun k hk => ?_⟩
      have h := hK k hk
      rw [← s2, ← s1] at h
      refine Eq.trans h ?_
      simp
/-- One element on the left: where it goes among the right ones. -/
theorem sym_left (hW : Weak lessV) (P R Q : List (S42)) (x : S42) (hs : Sorted lessV R) (hl : P.length + 1 + R.length + Q.length ≤ 1048576) : ∀ (d u v : Nat), v - u ≤ d → u ≤ v → v ≤ R.length → (∀ z, 0 < u → R[u - 1]? = some z → lessV z x = true) → (∀ z, R[v]? = some z → lessV z x = false) →
    Ev (fun k => slices_symMergeCmpFunc_impl_Version__impl_Version_compare.l0 k (P ++ ([x] ++ (R ++ Q))) P.length ((P.length + 1 + u : Nat) : Int) ((P.length + 1 + v : Nat) : Int)) (P ++ (mrg lessV [x] R ++ Q))
  | d, u, v, hd, huv, hv, h1, h2 => by
    by_cases e : u = v
    · subst e
      refine Ev.step (fun k => slices_symMergeCmpFunc_impl_Version__impl_Version_compare.l0.eq_2 ..) (ev_if_neg (by omega) ?_)
      have hR1 : ∀ y ∈ R.take u, lessV y x = true := by
        intro y hy
        obtain ⟨i, hi, hyi⟩ := in_take hy
        obtain ⟨z, hz⟩ := some_at R (u - 1) (by omega)
        have k1 := h1 z (by omega) hz
        have k2 := sorted_le hW hs hyi hz (by omega)
        cases hc : lessV y x with
        | true => rfl
        | false => rw [hW.neg z y x k2 hc] at k1; cases k1
      have hR2 : ∀ y ∈ R.drop u, lessV y x = false := by
        intro y hy
        obtain ⟨i, hi, hyi⟩ := in_drop hy
        obtain ⟨z, hz⟩ := some_at R u (by have := (List.getElem?_eq_some_iff.1 hyi).1; omega)
        exact hW.neg y z x (sorted_le hW hs hz hyi hi) (h2 z hz)
      have hm : mrg lessV [x] R = R.take u ++ x :: R.drop u := by
        have := mrg_cut (lt := lessV) _ [] (R.take u) [x] (R.drop u) (Nat.le_refl _) (by simp) (fun y hy z hz => by rw [List.mem_singleton] at hz; subst hz; exact hR1 y hy)
        rw [List.take_append_drop, List.nil_append, nil_mrg] at this
        rw [this]
        congr 1
        cases hdr : R.drop u with
        | nil => rw [mrg_nil]
        | cons w W =>
          rw [mrg_cons, if_neg (by rw [hR2 w (by rw [hdr]; simp)]; simp), nil_mrg]
      have hlt : (R.take u).length = u := List.length_take_of_le hv
      have hld : (R.drop u).length = R.length - u := List.length_drop
      have hr := right_loop P (R.drop u ++ Q) x ((P.length + 1 + u : Nat) : Int) (R.take u) [] (by rw [hlt, List.length_nil]; congr 1; omega) (by rw [List.length_append, hlt, hld, List.length_nil]; omega)
      rw [hm]
      have e1 : P ++ ([] ++ x :: (R.take u ++ (R.drop u ++ Q))) = P ++ ([x] ++ (R ++ Q)) := by
        rw [← List.append_assoc (R.take u), List.take_append_drop]; rfl
      rw [e1] at hr
      simpa using hr
    · cases d with
      | zero => omega
      | succ d =>
        have hh : wrap64 ((IntKind.u64.wrap (wrap64 (((P.length + 1 + u : Nat) : Int) + ((P.length + 1 + v : Nat) : Int)))) / 2) = ((P.length + 1 + (u + v) / 2 : Nat) : Int) := by
          rw [half_eq (by omega)]; congr 1; omega
        obtain ⟨z, hz⟩ := some_at R ((u + v) / 2) (by omega)
        have hlen : ((P ++ ([x] ++ (R ++ Q))).length : Int) = P.length + 1 + R.length + Q.length := by simp only [List.length_append, List.length_singleton]; omega
        have r1 := rdS42get (P ++ ([x] ++ (R ++ Q))) (P.length + 1 + (u + v) / 2) z ((at_R P [x] R Q ((u + v) / 2) (by omega)).trans hz)
        have r2 := rdS42at (P ++ ([x] ++ (R ++ Q))) P x (R ++ Q) (P.length : Int) rfl rfl
        obtain ⟨r, hr, hc⟩ := cmp_ev z x
        refine Ev.step (fun k => slices_symMergeCmpFunc_impl_Version__impl_Version_compare.l0.eq_2 ..) (ev_if_pos (by omega) ?_)
        simp only [hh, r1, r2]
        refine ev_if_pos (by omega) (ev_if_pos (by rw [hlen]; omega) (ev_if_pos (by omega) (ev_if_pos (by rw [hlen]; omega) (ev_bind hr ?_))))
        cases hlt : lessV z x with
        | true =>
          rw [hlt] at hc
          refine ev_if_pos (of_decide_eq_true hc) ?_
          rw [wrap_succ (by omega)]
          exact sym_left hW P R Q x hs hl d ((u + v) / 2 + 1) v (by omega) (by omega) hv (fun w _ hw => by
            rw [Nat.add_sub_cancel, hz] at hw; injection hw with hw; subst hw; exact hlt) h2
        | false =>
          rw [hlt] at hc
          refine ev_if_neg (of_decide_eq_false hc) ?_
          exact sym_left hW P R Q x hs hl d u ((u + v) / 2) (by omega) (by omega) (by omega) h1 (fun w hw => by
            rw [hz] at hw; injection hw with hw; subst hw; exact hlt)
/-- One element on the right: where it goes among the left ones. -/
theorem sym_right (hW : Weak lessV) (P L Q : List (S42)) (y : S42) (hs : Sorted lessV L) (hl : P.length + L.length + 1 + Q.length ≤ 1048576) : ∀ (d u v : Nat), v - u ≤ d → u ≤ v → v ≤ L.length → (∀ z, 0 < u → L[u - 1]? = some z → lessV y z = false) → (∀ z, L[v]? = some z → lessV y z = true) →
    Ev (fun k => slices_symMergeCmpFunc_impl_Version__impl_Version_compare.l2 k (P ++ (L ++ ([y] ++ Q))) ((P.length + L.length : Nat) : Int) ((P.length + u : Nat) : Int) ((P.length + v : Nat) : Int)) (P ++ (mrg lessV L [y] ++ Q))
  | d, u, v, hd, huv, hv, h1, h2 => by
    by_cases e : u = v
    · subst e
      refine Ev.step (fun k => slices_symMergeCmpFunc_impl_Version__impl_Version_compare.l2.eq_2 ..) (ev_if_neg (by omega) ?_)
      have hL1 : ∀ z ∈ L.take u, lessV y z = false := by
        intro z hz
        obtain ⟨i, hi, hzi⟩ := in_take hz
        obtain ⟨w, hw⟩ := some_at L (u - 1) (by omega)
        exact hW.neg y w z (h1 w (by omega) hw) (sorted_le hW hs hzi hw (by omega))
      have hL2 : ∀ z ∈ (L.drop u).head?, lessV y z = true := by
        intro z hz
        rw [List.head?_drop] at hz
        exact h2 z hz
      have hm : mrg lessV L [y] = L.take u ++ y :: L.drop u := by
        rw [mrg_one hW]
        conv => lhs; rw [← List.take_append_drop u L]
        rw [ins_append hW y _ _ hL1, ins_front y _ hL2]
      have hlt : (L.take u).length = u := List.length_take_of_le hv
      have hld : (L.drop u).length = L.length - u := List.length_drop
      have hr := left_loop (P ++ L.take u) Q y (L.length - u) (L.drop u) [] hld (by rw [List.length_append, hlt, hld, List.length_nil]; omega)
      rw [hm]
      have e1 : (P ++ L.take u) ++ (L.drop u ++ y :: ([] ++ Q)) = P ++ (L ++ ([y] ++ Q)) := by
        rw [List.append_assoc, ← List.append_assoc (L.take u), List.take_append_drop]; rfl
      have e2 : (P ++ L.take u).length = P.length + u := by rw [List.length_append, hlt]
      have e3 : P.length + u + (L.drop u).length = P.length + L.length := by rw [hld]; omega
      rw [e1, e2, e3] at hr
      simpa using hr
    · cases d with
      | zero => omega
      | succ d =>
        have hh : wrap64 ((IntKind.u64.wrap (wrap64 (((P.length + u : Nat) : Int) + ((P.length + v : Nat) : Int)))) / 2) = ((P.length + (u + v) / 2 : Nat) : Int) := by
          rw [half_eq (by omega)]; congr 1; omega
        obtain ⟨z, hz⟩ := some_at L ((u + v) / 2) (by omega)
        have hlen : ((P ++ (L ++ ([y] ++ Q))).length : Int) = P.length + L.length + 1 + Q.length := by simp only [List.length_append, List.length_singleton]; omega
        have r1 := rdS42get (P ++ (L ++ ([y] ++ Q))) (P.length + (u + v) / 2) z ((at_L P L [y] Q ((u + v) / 2) (by omega)).trans hz)
        have r2 := rdS42at (P ++ (L ++ ([y] ++ Q))) (P ++ L) y Q ((P.length + L.length : Nat) : Int) (by simp) (by rw [List.length_append])
        obtain ⟨r, hr, hc⟩ := cmp_ev y z
        refine Ev.step (fun k => slices_symMergeCmpFunc_impl_Version__impl_Version_compare.l2.eq_2 ..) (ev_if_pos (by omega) ?_)
        simp only [hh, r1, r2]
        refine ev_if_pos (by omega) (ev_if_pos (by rw [hlen]; omega) (ev_if_pos (by omega) (ev_if_pos (by rw [hlen]; omega) (ev_bind hr ?_))))
        cases hlt : lessV y z with
        | true =>
          rw [hlt] at hc
          refine ev_if_pos (of_decide_eq_true hc) ?_
          exact sym_right hW P L Q y hs hl d u ((u + v) / 2) (by omega) (by omega) (by omega) h1 (fun w hw => by
            rw [hz] at hw; injection hw with hw; subst hw; exact hlt)
        | false =>
          rw [hlt] at hc
          refine ev_if_neg (of_decide_eq_false hc) ?_
          rw [wrap_succ (by omega)]
          exact sym_right hW P L Q y hs hl d ((u + v) / 2 + 1) v (by omega) (by omega) hv (fun w _ hw => by
            rw [Nat.add_sub_cancel, hz] at hw; injection hw with hw; subst hw; exact hlt) h2

theorem sym_cut (P L R Q : List (S42)) (u v : Nat) : P ++ (L ++ (R ++ Q)) = (P ++ L.take u) ++ (L.drop u ++ (R.take v ++ (R.drop v ++ Q))) := by
  have e1 := List.take_append_drop u L
  have e2 := List.take_append_drop v R
  generalize L.take u = A at *
  generalize L.drop u = B at *
  generalize R.take v = C at *
  generalize R.drop v = D at *
  subst e1; subst e2
  simp
/-- The cut of two rows that rise: u of the left ones and v of the right ones come first. -/
def Cut (L R : List (S42)) (u v : Nat) : Prop := (∀ x ∈ L.take u, ∀ y ∈ R.drop v, lessV y x = false) ∧ (∀ y ∈ R.take v, ∀ x ∈ L.drop u, lessV y x = true)
theorem mid_num (u v : Nat) (h : u ≤ v) (e : ¬ u = v) : u ≤ (u + v) / 2 ∧ (u + v) / 2 < v := by omega
theorem q_num (t c hi lo u v r : Nat) (t1 : u ≤ t) (t2 : t < v) (hv : v ≤ hi) (hhc : hi ≤ c) (hlu : lo ≤ u) (hlo : c ≤ lo + r) : ∃ q, c = t + 1 + q ∧ q < r := ⟨c - t - 1, by omega, by omega⟩
theorem p_num (p l c t q : Nat) (x19 : Int) (hx : x19 = ((p + (p + l) + c : Nat) : Int)) (hq : c = t + 1 + q) (h1 : p + l + q ≤ 1048576) (h2 : p + t ≤ 1048576) : wrap64 (wrap64 (x19 - 1) - ((p + t : Nat) : Int)) = ((p + l + q : Nat) : Int) := by
  have e0 : wrap64 (x19 - 1) = ((p + (p + l) + t + q : Nat) : Int) := by
    rw [hx, hq, wrap_id (by omega) (by omega)]; omega
  rw [e0, wrap_id (by omega) (by omega)]; omega
theorem cq_num (c t q : Nat) (h : c = t + 1 + q) : c - t - 1 = q := by omega
theorem d_num (u t v d : Nat) (t1 : u ≤ t) (t2 : t < v) (hd : v - u ≤ d + 1) : t - u ≤ d ∧ v - (t + 1) ≤ d := by omega
/-- The search for the cut: s left ones and t right ones, s + t being c; between lo and hi. -/
theorem sym_search (hW : Weak lessV) (P L R Q : List (S42)) (hsL : Sorted lessV L) (hsR : Sorted lessV R) (hl : P.length + L.length + R.length + Q.length ≤ 1048576) (x1 x2 x3 x18 x19 : Int) (c lo hi : Nat) (hx19 : x19 = ((P.length + (P.length + L.length) + c : Nat) : Int)) (hx2 : x2 = ((P.length + L.length : Nat) : Int))
    (hhi : hi ≤ L.length) (hlo : c ≤ lo + R.length) (hhc : hi ≤ c) (hlo0 : lo = 0 ∨ c = lo + R.length) (hhi0 : hi = L.length ∨ hi = c) (X : List (S42))
    (k1 : ∀ s, lo ≤ s → s ≤ hi → Cut L R s (c - s) → Ev (fun k => if ((P.length + s : Nat) : Int) < x2 then (slices_symMergeCmpFunc_impl_Version__impl_Version_compare.j6 k (P ++ (L ++ (R ++ Q))) x1 x2 x3 x18 ((P.length + s : Nat) : Int) (wrap64 (x19 - ((P.length + s : Nat) : Int))) (decide (x2 < (wrap64 (x19 - ((P.length + s : Nat) : Int)))))) else (slices_symMergeCmpFunc_impl_Version__impl_Version_compare.j6 k (P ++ (L ++ (R ++ Q))) x1 x2 x3 x18 ((P.length + s : Nat) : Int) (wrap64 (x19 - ((P.length + s : Nat) : Int))) false)) X) :
    ∀ (d u v : Nat), v - u ≤ d → lo ≤ u → u ≤ v → v ≤ hi → (∀ z w, lo < u → R[c - u]? = some z → L[u - 1]? = some w → lessV z w = false) → (∀ z w, v < hi → R[c - v - 1]? = some z → L[v]? = some w → lessV z w = true) →
    Ev (fun k => slices_symMergeCmpFunc_impl_Version__impl_Version_compare.l4 k (P ++ (L ++ (R ++ Q))) x1 x2 x3 x18 x19 ((P.length + u : Nat) : Int) ((P.length + v : Nat) : Int) (wrap64 (x19 - 1))) X
  | d, u, v, hd, hlu, huv, hv, h1, h2 => by
    by_cases e : u = v
    · subst e
      refine Ev.step (fun k => slices_symMergeCmpFunc_impl_Version__impl_Version_compare.l4.eq_2 ..) (ev_if_neg (by omega) (k1 u hlu hv ⟨?_, ?_⟩))
      · intro x hx y hy
        obtain ⟨i, hi, hxi⟩ := in_take hx
        obtain ⟨j, hj, hyj⟩ := in_drop hy
        have hjl := (List.getElem?_eq_some_iff.1 hyj).1
        have hlt : lo < u := by omega
        obtain ⟨w, hw⟩ := some_at L (u - 1) (by omega)
        obtain ⟨z, hz⟩ := some_at R (c - u) (by omega)
        have a1 := sorted_le hW hsL hxi hw (by omega)
        have a2 := sorted_le hW hsR hz hyj hj
        exact hW.neg y w x (hW.neg y z w a2 (h1 z w hlt hz hw)) a1
      · intro y hy x hx
        obtain ⟨j, hj, hyj⟩ := in_take hy
        obtain ⟨i, hi', hxi⟩ := in_drop hx
        have hil := (List.getElem?_eq_some_iff.1 hxi).1
        have hlt : u < hi := by omega
        obtain ⟨w, hw⟩ := some_at L u (by omega)
        obtain ⟨z, hz⟩ := some_at R (c - u - 1) (by omega)
        have a0 := h2 z w hlt hz hw
        have a1 := sorted_le hW hsL hw hxi hi'
        have a2 := sorted_le hW hsR hyj hz (by omega)
        cases hc : lessV y x with
        | true => rfl
        | false => rw [hW.neg z x w (hW.neg z y x a2 hc) a1] at a0; cases a0
    · cases d with
      | zero => omega
      | succ d =>
        have hh : wrap64 ((IntKind.u64.wrap (wrap64 (((P.length + u : Nat) : Int) + ((P.length + v : Nat) : Int)))) / 2) = ((P.length + (u + v) / 2 : Nat) : Int) := by
          rw [half_eq (by omega)]; congr 1; omega
        obtain ⟨t1, t2⟩ := mid_num u v huv e
        generalize (u + v) / 2 = t at hh t1 t2
        have htL : t < L.length := Nat.lt_of_lt_of_le t2 (Nat.le_trans hv hhi)
        obtain ⟨q, hq, hqR⟩ := q_num t c hi lo u v R.length t1 t2 hv hhc hlu hlo
        have hPL : P.length + L.length + R.length ≤ 1048576 := Nat.le_trans (Nat.le_add_right _ _) hl
        have hPq : P.length + L.length + q ≤ 1048576 := Nat.le_trans (Nat.add_le_add_left (Nat.le_of_lt hqR) _) hPL
        have hPt : P.length + t ≤ 1048576 := Nat.le_trans (Nat.add_le_add_left (Nat.le_of_lt htL) _) (Nat.le_trans (Nat.le_add_right _ _) hPL)
        have hp := p_num P.length L.length c t q x19 hx19 hq hPq hPt
        obtain ⟨w, hw⟩ := some_at L t htL
        obtain ⟨z, hz⟩ := some_at R q hqR
        have r1 := rdS42get (P ++ (L ++ (R ++ Q))) (P.length + t) w ((at_L P L R Q t htL).trans hw)
        have r2 := rdS42get (P ++ (L ++ (R ++ Q))) (P.length + L.length + q) z ((at_R P L R Q q hqR).trans hz)
        obtain ⟨r, hr, hc⟩ := cmp_ev z w
        have hcq : c - t - 1 = q := cq_num c t q hq
        have hcq' : c - (t + 1) = q := (Nat.sub_sub c t 1).symm.trans hcq
        have hlen : (P ++ (L ++ (R ++ Q))).length = P.length + (L.length + (R.length + Q.length)) := by simp only [List.length_append]
        have b1 : (0 : Int) ≤ ((P.length + L.length + q : Nat) : Int) := Int.natCast_nonneg _
        have b2 : ((P.length + L.length + q : Nat) : Int) < ((P ++ (L ++ (R ++ Q))).length : Int) := Int.ofNat_lt.2 (by rw [hlen]; clear hlo0 hhi0 hl hx19 hx2 hh hp hhc hlo hhi hd hlu huv hv e; omega)
        have b3 : (0 : Int) ≤ ((P.length + t : Nat) : Int) := Int.natCast_nonneg _
        have b4 : ((P.length + t : Nat) : Int) < ((P ++ (L ++ (R ++ Q))).length : Int) := Int.ofNat_lt.2 (by rw [hlen]; clear hlo0 hhi0 hl hx19 hx2 hh hp hhc hlo hhi hd hlu huv hv e; omega)
        have b5 : ((P.length + u : Nat) : Int) < ((P.length + v : Nat) : Int) := Int.ofNat_lt.2 (Nat.add_lt_add_left (Nat.lt_of_le_of_lt t1 t2) _)
        obtain ⟨d1, d2⟩ := d_num u t v d t1 t2 hd
        have ws : wrap64 (((P.length + t : Nat) : Int) + 1) = ((P.length + t + 1 : Nat) : Int) := wrap_succ (Nat.lt_of_le_of_lt hPt (by decide))
        refine Ev.step (fun k => slices_symMergeCmpFunc_impl_Version__impl_Version_compare.l4.eq_2 ..) (ev_if_pos b5 ?_)
        simp only [hh, hp, r1, r2]
        refine ev_if_pos b1 (ev_if_pos b2 (ev_if_pos b3 (ev_if_pos b4 (ev_bind hr ?_))))
        cases hlt : lessV z w with
        | true =>
          rw [hlt] at hc
          refine ev_if_pos (of_decide_eq_true hc) ?_
          exact sym_search hW P L R Q hsL hsR hl x1 x2 x3 x18 x19 c lo hi hx19 hx2 hhi hlo hhc hlo0 hhi0 X k1 d u t d1 hlu t1 (Nat.le_trans (Nat.le_of_lt t2) hv) h1 (fun z' w' _ hz' hw' => by
            rw [hcq, hz] at hz'; injection hz' with hz'; subst hz'
            rw [hw] at hw'; injection hw' with hw'; subst hw'
            exact hlt)
        | false =>
          rw [hlt] at hc
          refine ev_if_neg (of_decide_eq_false hc) ?_
          rw [ws]
          exact sym_search hW P L R Q hsL hsR hl x1 x2 x3 x18 x19 c lo hi hx19 hx2 hhi hlo hhc hlo0 hhi0 X k1 d (t + 1) v d2 (Nat.le_succ_of_le (Nat.le_trans hlu t1)) t2 hv (fun z' w' _ hz' hw' => by
            rw [hcq', hz] at hz'; injection hz' with hz'; subst hz'
            rw [Nat.add_sub_cancel, hw] at hw'; injection hw' with hw'; subst hw'
            exact hlt) h2
theorem sym_ev (hW : Weak lessV) : ∀ (n : Nat) (P L R Q : List (S42)) (a m b : Int), L.length + R.length ≤ n → 0 < L.length → 0 < R.length → a = P.length → m = ((P.length + L.length : Nat) : Int) → b = ((P.length + L.length + R.length : Nat) : Int) → P.length + L.length + R.length + Q.length ≤ 1048576 → Sorted lessV L → Sorted lessV R →
    Ev (fun k => slices_symMergeCmpFunc_impl_Version__impl_Version_compare.f k (P ++ (L ++ (R ++ Q))) a m b) (P ++ (mrg lessV L R ++ Q))
  | 0, P, L, R, Q, a, m, b, hn, hL, hR, _, _, _, _, _, _ => by omega
  | n + 1, P, L, R, Q, a, m, b, hn, hL, hR, ha, hm, hb, hl, hsL, hsR => by
    have w1 : wrap64 (m - a) = L.length := by rw [hm, ha, wrap_id (by omega) (by omega)]; omega
    have w2 : wrap64 (b - m) = R.length := by rw [hm, hb, wrap_id (by omega) (by omega)]; omega
    have w3 : wrap64 ((IntKind.u64.wrap (wrap64 (a + b))) / 2) = ((P.length + (L.length + R.length) / 2 : Nat) : Int) := by
      rw [ha, hb, half_eq (by omega)]; congr 1; omega
    refine Ev.step (fun k => slices_symMergeCmpFunc_impl_Version__impl_Version_compare.f.eq_2 ..) ?_
    simp only [w1, w2, w3]
    by_cases h1 : (L.length : Int) = 1
    · obtain ⟨x, rfl⟩ : ∃ x, L = [x] := List.length_eq_one_iff.1 (by omega)
      refine ev_if_pos h1 ?_
      rw [ha, hm, hb]
      exact sym_left hW P R Q x hsR (by simpa using hl) R.length 0 R.length (by omega) (by omega) (Nat.le_refl _) (fun z h => by omega) (fun z hz => by rw [List.getElem?_eq_none (Nat.le_refl _)] at hz; cases hz)
    refine ev_if_neg h1 ?_
    by_cases h2 : (R.length : Int) = 1
    · obtain ⟨y, rfl⟩ : ∃ y, R = [y] := List.length_eq_one_iff.1 (by omega)
      refine ev_if_pos h2 ?_
      rw [ha, hm]
      exact sym_right hW P L Q y hsL (by simpa using hl) L.length 0 L.length (by omega) (by omega) (Nat.le_refl _) (fun z h => by omega) (fun z hz => by rw [List.getElem?_eq_none (Nat.le_refl _)] at hz; cases hz)
    refine ev_if_neg h2 ?_
    -- behind the search
    have key : ∀ (s : Nat), s ≤ L.length → s ≤ (L.length + R.length) / 2 → (L.length + R.length) / 2 - s ≤ R.length → Cut L R s ((L.length + R.length) / 2 - s) →
        Ev (fun k => if ((P.length + s : Nat) : Int) < m then (slices_symMergeCmpFunc_impl_Version__impl_Version_compare.j6 k (P ++ (L ++ (R ++ Q))) a m b ((P.length + (L.length + R.length) / 2 : Nat) : Int) ((P.length + s : Nat) : Int) (wrap64 (((P.length + (P.length + L.length) + (L.length + R.length) / 2 : Nat) : Int) - ((P.length + s : Nat) : Int))) (decide (m < (wrap64 (((P.length + (P.length + L.length) + (L.length + R.length) / 2 : Nat) : Int) - ((P.length + s : Nat) : Int)))))) else (slices_symMergeCmpFunc_impl_Version__impl_Version_compare.j6 k (P ++ (L ++ (R ++ Q))) a m b ((P.length + (L.length + R.length) / 2 : Nat) : Int) ((P.length + s : Nat) : Int) (wrap64 (((P.length + (P.length + L.length) + (L.length + R.length) / 2 : Nat) : Int) - ((P.length + s : Nat) : Int))) false)) (P ++ (mrg lessV L R ++ Q)) := by
      intro s hs1 hs2 hs3 hcut
      generalize hv : (L.length + R.length) / 2 - s = v at hcut hs3
      have hend : wrap64 (((P.length + (P.length + L.length) + (L.length + R.length) / 2 : Nat) : Int) - ((P.length + s : Nat) : Int)) = ((P.length + L.length + v : Nat) : Int) := by rw [wrap_id (by omega) (by omega)]; omega
      simp only [hend]
      have hmrg : mrg lessV L R = mrg lessV (L.take s) (R.take v) ++ mrg lessV (L.drop s) (R.drop v) := by
        have := mrg_cut (lt := lessV) _ (L.take s) (R.take v) (L.drop s) (R.drop v) (Nat.le_refl _) hcut.1 hcut.2
        rwa [List.take_append_drop, List.take_append_drop] at this
      have hL1 : (L.take s).length = s := List.length_take_of_le hs1
      have hL2 : (L.drop s).length = L.length - s := List.length_drop
      have hR1 : (R.take v).length = v := List.length_take_of_le hs3
      have hR2 : (R.drop v).length = R.length - v := List.length_drop
      have hmid : P.length + (L.length + R.length) / 2 = P.length + s + v := by omega
      have sL1 : Sorted lessV (L.take s) := List.Pairwise.sublist (List.take_sublist s L) hsL
      have sL2 : Sorted lessV (L.drop s) := List.Pairwise.sublist (List.drop_sublist s L) hsL
      have sR1 : Sorted lessV (R.take v) := List.Pairwise.sublist (List.take_sublist v R) hsR
      have sR2 : Sorted lessV (R.drop v) := List.Pairwise.sublist (List.drop_sublist v R) hsR
      -- behind the rotation
      have k7 : Ev (fun k => slices_symMergeCmpFunc_impl_Version__impl_Version_compare.j7 k (P ++ ((L.take s ++ R.take v) ++ ((L.drop s ++ R.drop v) ++ Q))) a b ((P.length + (L.length + R.length) / 2 : Nat) : Int) ((P.length + s : Nat) : Int) ((P.length + L.length + v : Nat) : Int)) (P ++ (mrg lessV L R ++ Q)) := by
        have hM1 : (mrg lessV (L.take s) (R.take v)).length = s + v := by rw [mrg_length _ _ _ (Nat.le_refl _), hL1, hR1]
        -- the right half
        have kr : Ev (fun k => if ((P.length + (L.length + R.length) / 2 : Nat) : Int) < ((P.length + L.length + v : Nat) : Int) then (if ((P.length + L.length + v : Nat) : Int) < b then ((slices_symMergeCmpFunc_impl_Version__impl_Version_compare.f k (P ++ (mrg lessV (L.take s) (R.take v) ++ ((L.drop s ++ R.drop v) ++ Q))) ((P.length + (L.length + R.length) / 2 : Nat) : Int) ((P.length + L.length + v : Nat) : Int) b).bind fun t => some t) else some (P ++ (mrg lessV (L.take s) (R.take v) ++ ((L.drop s ++ R.drop v) ++ Q)))) else some (P ++ (mrg lessV (L.take s) (R.take v) ++ ((L.drop s ++ R.drop v) ++ Q)))) (P ++ (mrg lessV L R ++ Q)) := by
          rw [hmrg]
          by_cases c1 : ((P.length + (L.length + R.length) / 2 : Nat) : Int) < ((P.length + L.length + v : Nat) : Int)
          · by_cases c2 : ((P.length + L.length + v : Nat) : Int) < b
            · refine ev_if_pos c1 (ev_if_pos c2 (ev_bind (a := P ++ ((mrg lessV (L.take s) (R.take v) ++ mrg lessV (L.drop s) (R.drop v)) ++ Q)) ?_ (ev_some rfl)))
              have := sym_ev hW n (P ++ mrg lessV (L.take s) (R.take v)) (L.drop s) (R.drop v) Q ((P.length + (L.length + R.length) / 2 : Nat) : Int) ((P.length + L.length + v : Nat) : Int) b (by omega) (by omega) (by rw [hb] at c2; omega) (by rw [List.length_append, hM1]; congr 1; omega) (by rw [List.length_append, hM1, hL2]; congr 1; omega) (by rw [hb, List.length_append, hM1, hL2, hR2]; congr 1; omega) (by rw [List.length_append, hM1, hL2, hR2]; omega) sL2 sR2
              simpa using this
            · refine ev_if_pos c1 (ev_if_neg c2 (ev_some ?_))
              have : R.drop v = [] := List.eq_nil_of_length_eq_zero (by rw [hb] at c2; omega)
              rw [this, mrg_nil]; simp
          · refine ev_if_neg c1 (ev_some ?_)
            have : L.drop s = [] := List.eq_nil_of_length_eq_zero (by omega)
            rw [this, nil_mrg]; simp
        have k8 : ∀ bb : Bool, (bb = decide (a < ((P.length + s : Nat) : Int) ∧ ((P.length + s : Nat) : Int) < ((P.length + (L.length + R.length) / 2 : Nat) : Int))) → Ev (fun k => slices_symMergeCmpFunc_impl_Version__impl_Version_compare.j8 k (P ++ ((L.take s ++ R.take v) ++ ((L.drop s ++ R.drop v) ++ Q))) a b ((P.length + (L.length + R.length) / 2 : Nat) : Int) ((P.length + s : Nat) : Int) ((P.length + L.length + v : Nat) : Int) bb) (P ++ (mrg lessV L R ++ Q)) := by
          intro bb hbb
          refine Ev.step (fun k => slices_symMergeCmpFunc_impl_Version__impl_Version_compare.j8.eq_2 ..) ?_
          cases bb with
          | true =>
            obtain ⟨c1, c2⟩ := of_decide_eq_true hbb.symm
            refine ev_if_pos rfl (ev_bind (a := P ++ (mrg lessV (L.take s) (R.take v) ++ ((L.drop s ++ R.drop v) ++ Q))) ?_ kr)
            have := sym_ev hW n P (L.take s) (R.take v) ((L.drop s ++ R.drop v) ++ Q) a ((P.length + s : Nat) : Int) ((P.length + (L.length + R.length) / 2 : Nat) : Int) (by omega) (by rw [ha] at c1; omega) (by omega) ha (by rw [hL1]) (by rw [hL1, hR1]; congr 1) (by simp only [List.length_append, hL1, hL2, hR1, hR2]; omega) sL1 sR1
            simpa using this
          | false =>
            have hno := of_decide_eq_false hbb.symm
            have e : L.take s ++ R.take v = mrg lessV (L.take s) (R.take v) := by
              rcases Nat.eq_zero_or_pos s with h0 | h0
              · have : L.take s = [] := List.eq_nil_of_length_eq_zero (by omega)
                rw [this, nil_mrg]; rfl
              · have : R.take v = [] := List.eq_nil_of_length_eq_zero (by rw [ha] at hno; omega)
                rw [this, mrg_nil, List.append_nil]
            rw [e]
            exact ev_if_neg (by simp) kr
        refine Ev.step (fun k => slices_symMergeCmpFunc_impl_Version__impl_Version_compare.j7.eq_2 ..) ?_
        by_cases c1 : a < ((P.length + s : Nat) : Int)
        · exact ev_if_pos c1 (k8 _ (decide_eq_decide.2 ⟨fun h => ⟨c1, h⟩, fun h => h.2⟩))
        · exact ev_if_neg c1 (k8 _ (decide_eq_false (fun h => c1 h.1)).symm)
      have hrot : P ++ (L ++ (R ++ Q)) = (P ++ L.take s) ++ (L.drop s ++ (R.take v ++ (R.drop v ++ Q))) := sym_cut P L R Q s v
      have hfin : P ++ ((L.take s ++ R.take v) ++ ((L.drop s ++ R.drop v) ++ Q)) = (P ++ L.take s) ++ (R.take v ++ (L.drop s ++ (R.drop v ++ Q))) := by simp
      have k6 : ∀ bb : Bool, (bb = decide (((P.length + s : Nat) : Int) < m ∧ m < ((P.length + L.length + v : Nat) : Int))) → Ev (fun k => slices_symMergeCmpFunc_impl_Version__impl_Version_compare.j6 k (P ++ (L ++ (R ++ Q))) a m b ((P.length + (L.length + R.length) / 2 : Nat) : Int) ((P.length + s : Nat) : Int) ((P.length + L.length + v : Nat) : Int) bb) (P ++ (mrg lessV L R ++ Q)) := by
        intro bb hbb
        refine Ev.step (fun k => slices_symMergeCmpFunc_impl_Version__impl_Version_compare.j6.eq_2 ..) ?_
        cases bb with
        | true =>
          obtain ⟨c1, c2⟩ := of_decide_eq_true hbb.symm
          refine ev_if_pos rfl (ev_bind (a := P ++ ((L.take s ++ R.take v) ++ ((L.drop s ++ R.drop v) ++ Q))) ?_ k7)
          have := rotate_ev (P ++ L.take s) (L.drop s) (R.take v) (R.drop v ++ Q) ((P.length + s : Nat) : Int) m ((P.length + L.length + v : Nat) : Int) (by rw [List.length_append, hL1]) (by rw [hm, List.length_append, hL1, hL2]; congr 1; omega) (by rw [List.length_append, hL1, hL2, hR1]; congr 1; omega) (by rw [hm] at c1; omega) (by rw [hm] at c2; omega) (by simp only [List.length_append, hL1, hL2, hR1, hR2]; omega)
          rw [hrot, hfin]
          exact this
        | false =>
          have hno := of_decide_eq_false hbb.symm
          have e : P ++ (L ++ (R ++ Q)) = P ++ ((L.take s ++ R.take v) ++ ((L.drop s ++ R.drop v) ++ Q)) := by
            rw [hrot, hfin]
            rcases Nat.eq_zero_or_pos v with h0 | h0
            · have : R.take v = [] := List.eq_nil_of_length_eq_zero (by omega)
              rw [this]; simp
            · have : L.drop s = [] := List.eq_nil_of_length_eq_zero (by rw [hm] at hno; omega)
              rw [this]; simp
          rw [e]
          exact ev_if_neg (by simp) k7
      by_cases c1 : ((P.length + s : Nat) : Int) < m
      · exact ev_if_pos c1 (k6 _ (decide_eq_decide.2 ⟨fun h => ⟨c1, h⟩, fun h => h.2⟩))
      · exact ev_if_neg c1 (k6 _ (decide_eq_false (fun h => c1 h.1)).symm)
    have hx : wrap64 (((P.length + (L.length + R.length) / 2 : Nat) : Int) + m) = ((P.length + (P.length + L.length) + (L.length + R.length) / 2 : Nat) : Int) := by rw [hm, wrap_id (by omega) (by omega)]; omega
    simp only [hx]
    by_cases h3 : m > ((P.length + (L.length + R.length) / 2 : Nat) : Int)
    · have hlow : wrap64 (((P.length + (P.length + L.length) + (L.length + R.length) / 2 : Nat) : Int) - b) = ((P.length + ((L.length + R.length) / 2 - R.length) : Nat) : Int) := by rw [hb, wrap_id (by omega) (by omega)]; omega
      rw [hlow]
      refine ev_if_pos h3 (Ev.step (fun k => slices_symMergeCmpFunc_impl_Version__impl_Version_compare.j4.eq_2 ..) ?_)
      rw [hm] at h3
      exact sym_search hW P L R Q hsL hsR hl a m b _ _ ((L.length + R.length) / 2) ((L.length + R.length) / 2 - R.length) ((L.length + R.length) / 2) rfl hm (by omega) (by omega) (Nat.le_refl _) (by omega) (.inr rfl) _ (fun s hs1 hs2 hc => key s (by omega) hs2 (by omega) hc) _ _ _ (Nat.le_refl _) (Nat.le_refl _) (by omega) (Nat.le_refl _) (fun z w h => by omega) (fun z w h => by omega)
    · refine ev_if_neg h3 (Ev.step (fun k => slices_symMergeCmpFunc_impl_Version__impl_Version_compare.j4.eq_2 ..) ?_)
      rw [hm] at h3
      have e1 : a = ((P.length + 0 : Nat) : Int) := by rw [ha]; simp
      have := sym_search hW P L R Q hsL hsR hl a m b ((P.length + (L.length + R.length) / 2 : Nat) : Int) _ ((L.length + R.length) / 2) 0 L.length rfl hm (Nat.le_refl _) (by omega) (by omega) (.inl rfl) (.inl rfl) _ (fun s hs1 hs2 hc => key s hs2 (by omega) (by omega) hc) _ 0 L.length (Nat.le_refl _) (Nat.le_refl _) (by omega) (Nat.le_refl _) (fun z w h => by omega) (fun z w h => by omega)
      rw [← e1, ← hm] at this
      exact this
/-! the blocks -/
def blk (bs : Nat) : Nat → List (S42) → List (S42)
  | 0, R => isort lessV R
  | f + 1, R => if bs ≤ R.length then isort lessV (R.take bs) ++ blk bs f (R.drop bs) else isort lessV R
theorem blk_length (bs : Nat) : ∀ (f : Nat) (R : List (S42)), (blk bs f R).length = R.length
  | 0, R => isort_length R
  | f + 1, R => by
    unfold blk
    split
    · rw [List.length_append, isort_length, blk_length bs f, List.length_take, List.length_drop]; omega
    · exact isort_length R
theorem blk_fuel (bs : Nat) (h0 : 0 < bs) : ∀ (f g : Nat) (R : List (S42)), R.length ≤ bs * f → R.length ≤ bs * g → blk bs f R = blk bs g R
  | 0, 0, R, _, _ => rfl
  | 0, g + 1, R, h1, _ => by
    have : R = [] := List.eq_nil_of_length_eq_zero (by omega)
    subst this
    unfold blk
    rw [if_neg (by simp; omega)]
  | f + 1, 0, R, _, h2 => by
    have : R = [] := List.eq_nil_of_length_eq_zero (by omega)
    subst this
    unfold blk
    rw [if_neg (by simp; omega)]
  | f + 1, g + 1, R, h1, h2 => by
    unfold blk
    rw [Nat.mul_succ] at h1 h2
    rw [blk_fuel bs h0 f g (R.drop bs) (by rw [List.length_drop]; omega) (by rw [List.length_drop]; omega)]
theorem blk_one (bs : Nat) (f : Nat) (R : List (S42)) (h : R.length ≤ bs) : blk bs f R = isort lessV R := by
  cases f with
  | zero => rfl
  | succ f =>
    unfold blk
    split
    · have e : R.drop bs = [] := List.drop_eq_nil_of_le h
      rw [e, List.take_of_length_le h]
      have : blk bs f ([] : List (S42)) = [] := List.eq_nil_of_length_eq_zero (by rw [blk_length]; rfl)
      rw [this, List.append_nil]
    · exact rfl
theorem first_loop (hW : Weak lessV) (N : Nat) (X : List (S42)) (D : List (S42)) (hN : D.length = N) (hl : N ≤ 1048576) (k1 : Ev (fun k => slices_stableCmpFunc_impl_Version__impl_Version_compare.l1 k (blk 20 N D) N 20) X) : ∀ (f : Nat) (P R : List (S42)), R.length ≤ f → P.length + R.length = N → P ++ blk 20 f R = blk 20 N D →
    Ev (fun k => slices_stableCmpFunc_impl_Version__impl_Version_compare.l0 k (P ++ R) N 20 P.length ((P.length + 20 : Nat) : Int)) X
  | 0, P, R, hf, hPR, hD => by
    have : R = [] := List.eq_nil_of_length_eq_zero (by omega)
    subst this
    refine Ev.step (fun k => slices_stableCmpFunc_impl_Version__impl_Version_compare.l0.eq_2 ..) (ev_if_neg (by simp at hPR; omega) (ev_bind (a := P ++ blk 20 0 []) ?_ ?_))
    · have := insertion_ev hW P [] [] P.length N rfl (by rw [← hPR]) (by simp; omega)
      simpa [blk] using this
    · rw [hD]; exact k1
  | f + 1, P, R, hf, hPR, hD => by
    have hu : blk 20 (f + 1) R = if 20 ≤ R.length then isort lessV (R.take 20) ++ blk 20 f (R.drop 20) else isort lessV R := rfl
    rw [hu] at hD
    by_cases h : 20 ≤ R.length
    · rw [if_pos h] at hD
      refine Ev.step (fun k => slices_stableCmpFunc_impl_Version__impl_Version_compare.l0.eq_2 ..) (ev_if_pos (by omega) (ev_bind (a := P ++ (isort lessV (R.take 20) ++ R.drop 20)) ?_ ?_))
      · have := insertion_ev hW P (R.take 20) (R.drop 20) P.length ((P.length + 20 : Nat) : Int) rfl (by rw [List.length_take_of_le h]) (by rw [List.length_take_of_le h, List.length_drop]; omega)
        rwa [List.take_append_drop] at this
      · have hi : (P ++ isort lessV (R.take 20)).length = P.length + 20 := by rw [List.length_append, isort_length, List.length_take_of_le h]
        have ih := first_loop hW N X D hN hl k1 f (P ++ isort lessV (R.take 20)) (R.drop 20) (by rw [List.length_drop]; omega) (by rw [hi, List.length_drop]; omega) (by rw [List.append_assoc]; exact hD)
        have e : wrap64 (((P.length + 20 : Nat) : Int) + 20) = ((P.length + 20 + 20 : Nat) : Int) := by rw [wrap_id (by omega) (by omega)]; omega
        rw [hi, List.append_assoc] at ih
        rw [e]
        exact ih
    · rw [if_neg h] at hD
      refine Ev.step (fun k => slices_stableCmpFunc_impl_Version__impl_Version_compare.l0.eq_2 ..) (ev_if_neg (by omega) (ev_bind (a := P ++ isort lessV R) ?_ ?_))
      · have := insertion_ev hW P R [] P.length N rfl (by rw [hPR]) (by simp; omega)
        simpa using this
      · rw [hD]; exact k1
theorem pass_loop (hW : Weak lessV) (N bs : Nat) (h0 : 0 < bs) (X : List (S42)) (D' : List (S42)) (hl : N ≤ 1048576) (hbs : bs < N) (k1 : Ev (fun k => slices_stableCmpFunc_impl_Version__impl_Version_compare.l1 k D' N ((2 * bs : Nat) : Int)) X) : ∀ (f : Nat) (P R : List (S42)), R.length ≤ f → P.length + R.length = N → P ++ blk (2 * bs) f R = D' →
    Ev (fun k => slices_stableCmpFunc_impl_Version__impl_Version_compare.l2 k (P ++ blk bs (2 * f) R) N bs P.length ((P.length + 2 * bs : Nat) : Int)) X
  | 0, P, R, hf, hPR, hD => by
    have : R = [] := List.eq_nil_of_length_eq_zero (by omega)
    subst this
    simp only [List.length_nil, Nat.add_zero] at hPR
    have e1 : wrap64 ((P.length : Int) + (bs : Int)) = ((P.length + bs : Nat) : Int) := by rw [wrap_id (by omega) (by omega)]; omega
    have e2 : wrap64 ((bs : Int) * 2) = ((2 * bs : Nat) : Int) := by rw [wrap_id (by omega) (by omega)]; omega
    refine Ev.step (fun k => slices_stableCmpFunc_impl_Version__impl_Version_compare.l2.eq_2 ..) (ev_if_neg (by omega) ?_)
    rw [e1, e2]
    refine ev_if_neg (by omega) ?_
    rw [← hD] at k1
    exact k1
  | f + 1, P, R, hf, hPR, hD => by
    have e1 : wrap64 ((P.length : Int) + (bs : Int)) = ((P.length + bs : Nat) : Int) := by rw [wrap_id (by omega) (by omega)]; omega
    have e2 : wrap64 ((bs : Int) * 2) = ((2 * bs : Nat) : Int) := by rw [wrap_id (by omega) (by omega)]; omega
    have e3 : wrap64 (((P.length + 2 * bs : Nat) : Int) + wrap64 (2 * (bs : Int))) = ((P.length + 2 * bs + 2 * bs : Nat) : Int) := by rw [wrap_id (x := 2 * (bs : Int)) (by omega) (by omega), wrap_id (by omega) (by omega)]; omega
    have two : 2 * (f + 1) = 2 * f + 1 + 1 := by omega
    refine Ev.step (fun k => slices_stableCmpFunc_impl_Version__impl_Version_compare.l2.eq_2 ..) ?_
    simp only [e1, e2, e3]
    by_cases h2 : 2 * bs ≤ R.length
    · have hu : blk (2 * bs) (f + 1) R = isort lessV (R.take (2 * bs)) ++ blk (2 * bs) f (R.drop (2 * bs)) := by rw [blk, if_pos h2]
      have hA : (R.take bs).length = bs := List.length_take_of_le (by omega)
      have hB : ((R.drop bs).take bs).length = bs := List.length_take_of_le (by rw [List.length_drop]; omega)
      have hb2 : blk bs (2 * (f + 1)) R = isort lessV (R.take bs) ++ (isort lessV ((R.drop bs).take bs) ++ blk bs (2 * f) (R.drop (2 * bs))) := by
        rw [two, blk, if_pos (by omega), blk, if_pos (by rw [List.length_drop]; omega), List.drop_drop, show bs + bs = 2 * bs by omega]
      have htk : R.take bs ++ (R.drop bs).take bs = R.take (2 * bs) := by
        rw [show 2 * bs = bs + bs by omega, List.take_add]
      rw [hb2]
      refine ev_if_pos (by omega) (ev_bind (a := P ++ (isort lessV (R.take (2 * bs)) ++ blk bs (2 * f) (R.drop (2 * bs)))) ?_ ?_)
      · have := sym_ev hW _ P (isort lessV (R.take bs)) (isort lessV ((R.drop bs).take bs)) (blk bs (2 * f) (R.drop (2 * bs))) P.length ((P.length + bs : Nat) : Int) ((P.length + 2 * bs : Nat) : Int) (Nat.le_refl _) (by rw [isort_length, hA]; exact h0) (by rw [isort_length, hB]; exact h0) rfl (by rw [isort_length, hA]) (by rw [isort_length, hA, isort_length, hB]; congr 1; omega) (by rw [isort_length, hA, isort_length, hB, blk_length, List.length_drop]; omega) (isort_sorted hW _) (isort_sorted hW _)
        rw [← isort_append hW, htk] at this
        exact this
      · have hi : (P ++ isort lessV (R.take (2 * bs))).length = P.length + 2 * bs := by rw [List.length_append, isort_length, List.length_take_of_le h2]
        have ih := pass_loop hW N bs h0 X D' hl hbs k1 f (P ++ isort lessV (R.take (2 * bs))) (R.drop (2 * bs)) (by rw [List.length_drop]; omega) (by rw [hi, List.length_drop]; omega) (by rw [List.append_assoc, ← hu]; exact hD)
        rw [hi, List.append_assoc] at ih
        exact ih
    · have hu : blk (2 * bs) (f + 1) R = isort lessV R := by rw [blk, if_neg h2]
      refine ev_if_neg (by omega) ?_
      rw [hu] at hD
      rw [← hD] at k1
      by_cases h1 : bs < R.length
      · have hA : (R.take bs).length = bs := List.length_take_of_le (by omega)
        have hb2 : blk bs (2 * (f + 1)) R = isort lessV (R.take bs) ++ isort lessV (R.drop bs) := by
          rw [two, blk, if_pos (by omega), blk_one bs _ _ (by rw [List.length_drop]; omega)]
        rw [hb2]
        refine ev_if_pos (by omega) (ev_bind (a := P ++ isort lessV R) ?_ k1)
        have := sym_ev hW _ P (isort lessV (R.take bs)) (isort lessV (R.drop bs)) [] P.length ((P.length + bs : Nat) : Int) N (Nat.le_refl _) (by rw [isort_length, hA]; exact h0) (by rw [isort_length, List.length_drop]; omega) rfl (by rw [isort_length, hA]) (by rw [isort_length, hA, isort_length, List.length_drop, ← hPR]; congr 1; omega) (by rw [isort_length, hA, isort_length, List.length_drop, List.length_nil]; omega) (isort_sorted hW _) (isort_sorted hW _)
        rw [← isort_append hW, List.take_append_drop] at this
        simpa using this
      · rw [blk_one bs _ _ (by omega)]
        exact ev_if_neg (by omega) k1
theorem stable_loop (hW : Weak lessV) (D : List (S42)) (hl : D.length ≤ 1048576) : ∀ (d bs : Nat), D.length ≤ bs + d → 0 < bs → bs ≤ 4194304 →
    Ev (fun k => slices_stableCmpFunc_impl_Version__impl_Version_compare.l1 k (blk bs D.length D) D.length bs) (isort lessV D)
  | d, bs, hd, h0, hb => by
    refine Ev.step (fun k => slices_stableCmpFunc_impl_Version__impl_Version_compare.l1.eq_2 ..) ?_
    by_cases h : bs < D.length
    · cases d with
      | zero => omega
      | succ d =>
        have ih := stable_loop hW D hl d (2 * bs) (by omega) (by omega) (by omega)
        have e : wrap64 (2 * (bs : Int)) = ((2 * bs : Nat) : Int) := by rw [wrap_id (by omega) (by omega)]; omega
        rw [e]
        have hp := pass_loop hW D.length bs h0 _ (blk (2 * bs) D.length D) hl h ih D.length [] D (Nat.le_refl _) (by simp) rfl
        have hle : D.length ≤ bs * D.length := Nat.le_mul_of_pos_left _ h0
        rw [blk_fuel bs h0 (2 * D.length) D.length D (by rw [Nat.mul_left_comm]; omega) hle] at hp
        refine ev_if_pos (by omega) ?_
        simpa using hp
    · exact ev_if_neg (by omega) (ev_some (blk_one bs _ D (by omega)))
theorem stable_ev (hW : Weak lessV) (D : List (S42)) (hl : D.length ≤ 1048576) : Ev (fun k => slices_stableCmpFunc_impl_Version__impl_Version_compare.f k D D.length) (isort lessV D) := by
  unfold slices_stableCmpFunc_impl_Version__impl_Version_compare.f
  have h := first_loop hW D.length _ D rfl hl (stable_loop hW D hl D.length 20 (by omega) (by omega) (by omega)) D.length [] D (Nat.le_refl _) (by simp) rfl
  simpa using h
theorem sortStable_ev (hW : Weak lessV) (D : List (S42)) (hl : D.length ≤ 1048576) : Ev (fun k => slices_SortStableFunc_impl_Version__impl_Version_compare.f k D) (isort lessV D) := by
  unfold slices_SortStableFunc_impl_Version__impl_Version_compare.f
  exact ev_bind (stable_ev hW D hl) (ev_some rfl)
end

/-! ### merged versions -/
open Go.Proofs.Ytpfjlnfgekeobaa.Stable Go.Proofs.Ytpfjlnfgekeobaa.Merge
instance : DecidableEq (S42) := fun a b => decidable_of_iff (a.f0 = b.f0 ∧ a.f1 = b.f1 ∧ a.f2 = b.f2 ∧ a.f3 = b.f3) (by
  cases a; cases b; simp)
theorem eqb (a b : S42) : ((a.f0.toList == b.f0.toList) && ((a.f1 == b.f1) && ((a.f2 == b.f2) && (a.f3.toList == b.f3.toList)))) = decide (a = b) := by
  by_cases h : a = b
  · subst h; simp
  · rw [decide_eq_false h]
    cases hc : ((a.f0.toList == b.f0.toList) && ((a.f1 == b.f1) && ((a.f2 == b.f2) && (a.f3.toList == b.f3.toList)))) with
    | false => rfl
    | true =>
      exfalso
      apply h
      simp only [Bool.and_eq_true, beq_iff_eq] at hc
      obtain ⟨h0, h1, h2, h3⟩ := hc
      cases a; cases b
      simp only at h0 h1 h2 h3
      rw [toList_inj.1 h0, h1, h2, toList_inj.1 h3]
theorem neb (a b : S42) : ((!(a.f0.toList == b.f0.toList)) || ((!(a.f1 == b.f1)) || ((!(a.f2 == b.f2)) || (!(a.f3.toList == b.f3.toList))))) = decide (a ≠ b) := by
  have h := eqb a b
  revert h
  generalize (a.f0.toList == b.f0.toList) = b1
  generalize (a.f1 == b.f1) = b2
  generalize (a.f2 == b.f2) = b3
  generalize (a.f3.toList == b.f3.toList) = b4
  intro h
  by_cases e : a = b
  · rw [decide_eq_true e] at h
    rw [decide_eq_false (by simpa using e)]
    cases b1 <;> cases b2 <;> cases b3 <;> cases b4 <;> simp at h ⊢
  · rw [decide_eq_false e] at h
    rw [decide_eq_true e]
    cases b1 <;> cases b2 <;> cases b3 <;> cases b4 <;> simp at h ⊢
theorem compact_second (n : Nat) (hn : n ≤ 1048576) : ∀ (rest q : List (S42)) (p : S42) (D out junk : List (S42)), D = (q ++ [p]) ++ rest → D.length ≤ n → out.length + junk.length ≤ n → rest.length ≤ junk.length →
    Ev (fun k => slices_Compact_impl_Version.l1 k (out ++ junk) out.length D (q ++ [p]).length) (out ++ compFrom p rest)
  | [], q, p, D, out, junk, hD, h1, h2, h3 => by
    have e : D.length = (q ++ [p]).length := by rw [hD, List.append_nil]
    refine Ev.step (fun k => slices_Compact_impl_Version.l1.eq_2 ..) (ev_if_neg (by rw [e]; omega) (ev_if_pos (by omega) (ev_if_pos (by rw [List.length_append]; omega) (ev_some ?_))))
    rw [Int.toNat_natCast, List.take_left' rfl, List.take_left' rfl]
    simp [compFrom]
  | y :: rest, q, p, D, out, junk, hD, h1, h2, h3 => by
    obtain ⟨hi, hx⟩ := mid_at hD
    have hx : rd_T42 D (q ++ [p]).length = y := hx _
    have hlast := last_at hD z42
    have hlast : rd_T42 D (((q ++ [p]).length : Int) - 1) = p := hlast
    have hpos : 0 < (q ++ [p]).length := by simp
    rw [List.length_cons] at h3
    refine Ev.step (fun k => slices_Compact_impl_Version.l1.eq_2 ..) (ev_if_pos (by omega) (ev_if_pos (by omega) ?_))
    rw [wrap_id (x := ((q ++ [p]).length : Int) - 1) (by omega) (by omega)]
    simp only [hx, hlast, neb]
    refine ev_if_pos (by omega) (ev_if_pos (by omega) ?_)
    have hD2 : D = ((q ++ [p]) ++ [y]) ++ rest := by rw [hD]; simp
    by_cases e : y = p
    · refine ev_if_neg (by simpa using e) ?_
      rw [wrap_succ (by omega)]
      have ih := compact_second n hn rest (q ++ [p]) y D out junk hD2 h1 h2 (by omega)
      rw [@List.length_append _ (q ++ [p]) [y], List.length_singleton] at ih
      unfold compFrom
      rw [if_pos e]
      rw [e] at ih
      exact ih
    · refine ev_if_pos (by simpa using e) ?_
      cases junk with
      | nil => simp at h3
      | cons z junk =>
        rw [List.length_cons] at h2 h3
        refine ev_if_pos (by omega) (ev_if_pos (by simp only [List.length_append, List.length_cons]; omega) ?_)
        rw [Int.toNat_natCast, set_at, wrap_succ (by omega), wrap_succ (by omega)]
        have ih := compact_second n hn rest (q ++ [p]) y D (out ++ [y]) junk hD2 h1 (by rw [List.length_append, List.length_singleton]; omega) (by omega)
        rw [@List.length_append _ (q ++ [p]) [y], List.length_singleton, @List.length_append _ out [y], List.length_singleton] at ih
        unfold compFrom
        rw [if_neg e]
        have e1 : (out ++ [y]) ++ junk = out ++ y :: junk := by simp
        have e2 : (out ++ [y]) ++ compFrom y rest = out ++ y :: compFrom y rest := by simp
        rw [e1, e2] at ih
        exact ih
theorem compact_first (l : List (S42)) (hl : l.length ≤ 1048576) : ∀ (rest q : List (S42)) (p : S42), l = (q ++ [p]) ++ rest → (∀ r, comp ((q ++ [p]) ++ r) = (q ++ [p]) ++ compFrom p r) →
    Ev (fun k => slices_Compact_impl_Version.l0 k l (q ++ [p]).length) (comp l)
  | [], q, p, hD, hc => by
    have e : l.length = (q ++ [p]).length := by rw [hD, List.append_nil]
    refine Ev.step (fun k => slices_Compact_impl_Version.l0.eq_2 ..) (ev_if_neg (by rw [e]; omega) (ev_some ?_))
    have := hc []
    rw [← hD] at this
    rw [this, hD]; simp [compFrom]
  | y :: rest, q, p, hD, hc => by
    obtain ⟨hi, hx⟩ := mid_at hD
    have hx : rd_T42 l (q ++ [p]).length = y := hx _
    have hlast := last_at hD z42
    have hlast : rd_T42 l (((q ++ [p]).length : Int) - 1) = p := hlast
    have hpos : 0 < (q ++ [p]).length := by simp
    refine Ev.step (fun k => slices_Compact_impl_Version.l0.eq_2 ..) (ev_if_pos (by omega) (ev_if_pos (by omega) ?_))
    rw [wrap_id (x := ((q ++ [p]).length : Int) - 1) (by omega) (by omega)]
    simp only [hx, hlast, eqb]
    refine ev_if_pos (by omega) (ev_if_pos (by omega) ?_)
    by_cases e : y = p
    · refine ev_if_pos (by simpa using e) (ev_if_pos (by omega) ?_)
      rw [Int.toNat_natCast]
      have hdrop : l.drop (q ++ [p]).length = y :: rest := by rw [hD]; exact List.drop_left' rfl
      rw [hdrop]
      have hlen : l.length = (q ++ [p]).length + (rest.length + 1) := by rw [hD, @List.length_append _ (q ++ [p]) (y :: rest), List.length_cons]
      have k1 := compact_second 1048576 (Nat.le_refl _) rest [] y (y :: rest) (q ++ [p]) (y :: rest) rfl (by rw [List.length_cons]; omega) (by rw [List.length_cons]; omega) (by rw [List.length_cons]; omega)
      rw [← hD] at k1
      refine ev_eq k1 ?_
      have := hc (y :: rest)
      rw [← hD] at this
      rw [this]
      conv => rhs; rw [compFrom, if_pos e]
      rw [e]
    · refine ev_if_neg (by simpa using e) ?_
      rw [wrap_succ (by omega)]
      have ih := compact_first l hl rest (q ++ [p]) y (by rw [hD]; simp) (fun r => by
        have := hc (y :: r)
        rw [compFrom, if_neg e] at this
        have e1 : ((q ++ [p]) ++ [y]) ++ r = (q ++ [p]) ++ y :: r := by simp
        have e2 : ((q ++ [p]) ++ [y]) ++ compFrom y r = (q ++ [p]) ++ y :: compFrom y r := by simp
        rw [e1, e2]
        exact this)
      rw [@List.length_append _ (q ++ [p]) [y], List.length_singleton] at ih
      exact ih
theorem compact_ev : ∀ (l : List (S42)), l.length ≤ 1048576 → Ev (fun k => slices_Compact_impl_Version.f k l) (comp l)
  | [], hl => by
    unfold slices_Compact_impl_Version.f
    exact ev_if_pos (by simp) (ev_some rfl)
  | [x], hl => by
    unfold slices_Compact_impl_Version.f
    exact ev_if_pos (by simp) (ev_some rfl)
  | x :: y :: l, hl => by
    unfold slices_Compact_impl_Version.f
    refine ev_if_neg (by simp only [List.length_cons]; omega) ?_
    exact compact_first (x :: y :: l) hl (y :: l) [] x rfl (fun r => rfl)
theorem concat_ev (a b : List (S42)) (ha : a.length ≤ 60) (hb : b.length ≤ 60) : Ev (fun k => slices_Concat_impl_Version.f k [a, b]) (a ++ b) := by
  unfold slices_Concat_impl_Version.f
  have h0 : rd_L6 [a, b] 0 = a := rfl
  have h1 : rd_L6 [a, b] 1 = b := rfl
  have w0 : wrap64 (0 + 1) = 1 := by rw [wrap_id (by omega) (by omega)]; rfl
  have w1 : wrap64 (1 + 1) = 2 := by rw [wrap_id (by omega) (by omega)]; rfl
  have hl : (([a, b] : List (List (S42))).length : Int) = 2 := rfl
  have wa : wrap64 (0 + (a.length : Int)) = a.length := by rw [wrap_id (by omega) (by omega)]; omega
  have wb : wrap64 ((a.length : Int) + (b.length : Int)) = ((a.length : Int) + (b.length : Int)) := wrap_id (by omega) (by omega)
  rw [hl]
  refine Ev.step (fun k => slices_Concat_impl_Version.l0.eq_2 ..) (ev_if_pos (by decide) (ev_if_pos (by decide) (ev_if_pos (by rw [hl]; decide) ?_)))
  rw [h0, wa, w0]
  refine ev_if_neg (by omega) ?_
  refine Ev.step (fun k => slices_Concat_impl_Version.l0.eq_2 ..) (ev_if_pos (by decide) (ev_if_pos (by decide) (ev_if_pos (by rw [hl]; decide) ?_)))
  rw [h1, wb, w1]
  refine ev_if_neg (by omega) ?_
  refine Ev.step (fun k => slices_Concat_impl_Version.l0.eq_2 ..) (ev_if_neg (by decide) (ev_bind (a := ([] : List (S42))) ?_ ?_))
  · unfold slices_Grow_impl_Version.f
    exact ev_if_pos (by omega) (ev_if_pos (by omega) (ev_some rfl))
  rw [hl]
  refine Ev.step (fun k => slices_Concat_impl_Version.l1.eq_2 ..) (ev_if_pos (by decide) (ev_if_pos (by decide) (ev_if_pos (by rw [hl]; decide) ?_)))
  rw [h0, w0]
  refine ev_if_pos (by rw [List.length_nil]; omega) ?_
  rw [List.nil_append]
  refine Ev.step (fun k => slices_Concat_impl_Version.l1.eq_2 ..) (ev_if_pos (by decide) (ev_if_pos (by decide) (ev_if_pos (by rw [hl]; decide) ?_)))
  rw [h1, w1]
  refine ev_if_pos (by omega) ?_
  exact Ev.step (fun k => slices_Concat_impl_Version.l1.eq_2 ..) (ev_if_neg (by decide) (ev_some rfl))
theorem chainV_some : ∀ (l : List (S42)) (p : S42), chainV (some p) l = true ↔ (∀ x ∈ l, goodV x = true) ∧ Strict lessV (p :: l)
  | [], p => by simp [chainV, Strict]
  | x :: l, p => by
    have ih := chainV_some l x
    unfold chainV
    rw [Bool.and_eq_true, Bool.and_eq_true, ih]
    unfold Strict
    constructor
    · rintro ⟨h1, h2, h3, h4⟩
      refine ⟨fun z hz => ?_, ?_⟩
      · rcases List.mem_cons.1 hz with rfl | hz
        · exact h1
        · exact h3 z hz
      · rw [List.pairwise_cons]
        refine ⟨fun z hz => ?_, h4⟩
        rcases List.mem_cons.1 hz with rfl | hz
        · exact h2
        · rw [List.pairwise_cons] at h4
          exact lessV_weak.trans h2 (h4.1 z hz)
    · rintro ⟨h1, h2⟩
      rw [List.pairwise_cons] at h2
      exact ⟨h1 x (by simp), h2.1 x (by simp), fun z hz => h1 z (by simp [hz]), h2.2⟩
theorem chainV_none (l : List (S42)) : chainV none l = true ↔ (∀ x ∈ l, goodV x = true) ∧ Strict lessV l := by
  cases l with
  | nil => simp [chainV, Strict]
  | cons x l =>
    unfold chainV
    rw [Bool.and_eq_true, chainV_some]
    constructor
    · rintro ⟨h1, h2, h3⟩
      refine ⟨fun z hz => ?_, h3⟩
      rcases List.mem_cons.1 hz with rfl | hz
      · exact h1
      · exact h2 z hz
    · rintro ⟨h1, h2⟩
      exact ⟨h1 x (by simp), fun z hz => h1 z (by simp [hz]), h2⟩
theorem mem_foldl_ins (y : S42) : ∀ (l acc : List (S42)), y ∈ l.foldl (fun a x => ins lessV x a) acc → y ∈ acc ∨ y ∈ l
  | [], acc, h => .inl h
  | x :: l, acc, h => by
    rcases mem_foldl_ins y l _ h with h | h
    · rcases (mem_ins x y acc).1 h with h | h
      · exact .inr (by simp [h])
      · exact .inl h
    · exact .inr (by simp [h])
theorem mem_comp (l : List (S42)) (z : S42) (h : z ∈ comp l) : z ∈ l := by
  cases l with
  | nil => simp [comp] at h
  | cons x l =>
    rcases List.mem_cons.1 h with h | h
    · simp [h]
    · exact List.mem_cons_of_mem _ (compFrom_mem x l z h)
theorem comp_length_from (p : S42) : ∀ l : List (S42), (compFrom p l).length ≤ l.length
  | [] => Nat.le_refl _
  | y :: l => by
    unfold compFrom
    split
    · have := comp_length_from p l; simp only [List.length_cons]; omega
    · have := comp_length_from y l; simp only [List.length_cons]; omega
theorem comp_length (l : List (S42)) : (comp l).length ≤ l.length := by
  cases l with
  | nil => exact Nat.le_refl _
  | cons x l => have := comp_length_from x l; simp only [comp, List.length_cons]; omega
def mergeR (a b : List (S42)) : List (S42) × Bool :=
  if (goodVsn a && goodVsn b) = true then (match puts lessV a b with | some c => if c.length ≤ 60 then (c, true) else ([], false) | none => ([], false)) else ([], false)
theorem mergeR_length (a b : List (S42)) : (mergeR a b).1.length ≤ 1048576 := by
  unfold mergeR
  split
  · split
    · split
      · dsimp only; omega
      · exact Nat.zero_le _
    · exact Nat.zero_le _
  · exact Nat.zero_le _
theorem mergeR_impl (a b : List (S42)) (h : (goodVsn a && goodVsn b) = true) : mergeR a b = if goodVsn (comp (isort lessV (a ++ b))) = true then (comp (isort lessV (a ++ b)), true) else ([], false) := by
  unfold mergeR
  rw [if_pos h]
  simp only [goodVsn, Bool.and_eq_true, decide_eq_true_eq] at h
  obtain ⟨⟨ha, _⟩, hb, _⟩ := h
  obtain ⟨ga, sa⟩ := (chainV_none a).1 ha
  obtain ⟨gb, sb⟩ := (chainV_none b).1 hb
  obtain ⟨k1, k2⟩ := merge_both lessV_weak a b sa sb
  have hall : ∀ x ∈ comp (isort lessV (a ++ b)), goodV x = true := by
    intro x hx
    rcases mem_foldl_ins x (a ++ b) [] (mem_comp _ x hx) with h | h
    · cases h
    · rcases List.mem_append.1 h with h | h
      · exact ga x h
      · exact gb x h
  cases hp : puts lessV a b with
  | some c =>
    obtain ⟨e, s⟩ := k1 c hp
    rw [e] at hall ⊢
    have hc := (chainV_none c).2 ⟨hall, s⟩
    unfold goodVsn
    simp only [hc, Bool.true_and, decide_eq_true_eq]
  | none =>
    have hn := k2 hp
    rw [if_neg]
    unfold goodVsn
    rw [Bool.and_eq_true]
    intro h
    exact hn ((chainV_none _).1 h.1).2
theorem goodVsn_len {l : List (S42)} (h : goodVsn l = true) : l.length ≤ 60 := by
  simp only [goodVsn, Bool.and_eq_true, decide_eq_true_eq] at h
  exact h.2
theorem impl_MergeVersions_ev (a b : List (S42)) (ha : a.length ≤ 1048576) (hb : b.length ≤ 1048576) : Ev (fun k => impl_MergeVersions.f k a b) (mergeR a b) := by
  unfold impl_MergeVersions.f
  refine ev_bind (impl_GoodVersions_ev a ha) ?_
  have hbad : ∀ b', (goodVsn a && goodVsn b) = false → b' = true → Ev (fun k => impl_MergeVersions.j0 k a b b') (mergeR a b) := by
    intro b' h1 h2
    refine Ev.step (fun k => impl_MergeVersions.j0.eq_2 ..) (ev_if_pos h2 (ev_some ?_))
    unfold mergeR
    rw [h1, if_neg (by simp)]
  cases h1 : goodVsn a with
  | false => exact ev_if_neg (by simp) (hbad _ (by rw [h1]; rfl) rfl)
  | true =>
    refine ev_if_pos rfl (ev_bind (impl_GoodVersions_ev b hb) ?_)
    cases h2 : goodVsn b with
    | false => exact hbad _ (by rw [h1, h2]; rfl) rfl
    | true =>
      have l1 := goodVsn_len h1
      have l2 := goodVsn_len h2
      have hs : (isort lessV (a ++ b)).length ≤ 1048576 := by rw [isort_length, List.length_append]; omega
      have hc := comp_length (isort lessV (a ++ b))
      refine Ev.step (fun k => impl_MergeVersions.j0.eq_2 ..) (ev_if_neg (by simp) (ev_bind (concat_ev a b l1 l2) (ev_bind (sortStable_ev lessV_weak (a ++ b) (by rw [List.length_append]; omega)) (ev_bind (compact_ev _ hs) (ev_bind (impl_GoodVersions_ev _ (by omega)) ?_)))))
      rw [mergeR_impl a b (by rw [h1, h2]; rfl)]
      by_cases hg : goodVsn (comp (isort lessV (a ++ b))) = true
      · exact ev_eq (ev_if_pos hg (ev_some rfl)) (by rw [if_pos hg])
      · exact ev_eq (ev_if_neg hg (ev_some rfl)) (by rw [if_neg hg])
theorem spec_put_loop (l : List (S42)) (hl : l.length ≤ 1048576) (x : S42) : ∀ (rest pre : List (S42)), l = pre ++ rest →
    Ev (fun k => spec_l14Put.l0 k l pre.length x.f0 x.f1 x.f2 x.f3) (match put lessV x rest with | some c => (pre ++ c, true) | none => (l, false))
  | [], pre, hd => by
    have e : l.length = pre.length := by rw [hd, List.append_nil]
    have e2 : l = pre := by rw [hd, List.append_nil]
    subst e2
    refine Ev.step (fun k => spec_l14Put.l0.eq_2 ..) (ev_if_neg (by omega) ?_)
    simp only [Option.bind_some, Int.toNat_natCast, List.take_length, List.drop_length, List.nil_append, List.length_nil, List.length_append, List.length_singleton, List.append_nil]
    refine ev_if_pos (by omega) (ev_if_pos (by omega) (ev_if_pos (by omega) (ev_if_pos (by omega) (ev_if_pos (by omega) (ev_some ?_)))))
    rfl
  | y :: rest, pre, hd => by
    obtain ⟨hi, hx⟩ := mid_at hd
    have hx : rd_T42 l pre.length = y := hx _
    refine Ev.step (fun k => spec_l14Put.l0.eq_2 ..) (ev_if_pos (by omega) (ev_if_pos (by omega) ?_))
    have e1 := spec_l14Less_eq y x
    have e2 := spec_l14Less_eq x y
    simp only [hx, e1, e2, Option.bind_some]
    unfold put
    by_cases h1 : lessV y x = true
    · refine ev_if_pos h1 ?_
      rw [wrap_succ (by omega)]
      have ih := spec_put_loop l hl x rest (pre ++ [y]) (by rw [hd]; simp)
      rw [List.length_append, List.length_singleton] at ih
      refine ev_eq ih ?_
      rw [if_pos h1]
      cases put lessV x rest <;> simp
    · refine ev_if_neg h1 ?_
      by_cases h2 : lessV x y = true
      · refine ev_if_pos h2 ?_
        have hlen : l.length = pre.length + (rest.length + 1) := by rw [hd]; simp
        have htake : l.take pre.length = pre := by rw [hd]; exact List.take_left' rfl
        have hdrop : l.drop pre.length = y :: rest := by rw [hd]; exact List.drop_left' rfl
        simp only [Option.bind_some, Int.toNat_natCast, htake, hdrop, List.nil_append, List.length_nil, List.length_append, List.length_singleton, List.length_cons]
        refine ev_if_pos (by omega) (ev_if_pos (by omega) (ev_if_pos (by omega) (ev_if_pos (by omega) (ev_some ?_))))
        rw [if_neg h1, if_pos h2]
        simp
      · refine ev_if_neg h2 (ev_some ?_)
        have e3 := eqb y x
        show (l, _) = _
        rw [e3, if_neg h1, if_neg h2]
        by_cases h3 : y = x
        · rw [if_pos h3, decide_eq_true h3, hd]
        · rw [if_neg h3, decide_eq_false h3]
theorem put_length (x : S42) : ∀ (l c : List (S42)), put lessV x l = some c → c.length ≤ l.length + 1
  | [], c, h => by injection h with h; subst h; simp
  | y :: l, c, h => by
    unfold put at h
    split at h
    · obtain ⟨c', hc', rfl⟩ := Option.map_eq_some_iff.1 h
      have := put_length x l c' hc'
      simp only [List.length_cons]; omega
    · split at h
      · injection h with h; subst h; simp
      · split at h
        · injection h with h; subst h; simp
        · cases h
theorem spec_merge_loop (l : List (S42)) (hl : l.length ≤ 60) : ∀ (rest acc : List (S42)) (i : Nat), l.drop i = rest → acc.length + rest.length ≤ 1000 →
    Ev (fun k => spec_MergeVersions.l0 k acc l l.length i) (match puts lessV acc rest with | some c => if c.length ≤ 60 then (c, true) else ([], false) | none => ([], false))
  | [], acc, i, hd, ha => by
    have h := drop_nil hd
    refine Ev.step (fun k => spec_MergeVersions.l0.eq_2 ..) (ev_if_neg (by omega) ?_)
    unfold puts
    by_cases h60 : acc.length ≤ 60
    · refine ev_if_neg (by omega) (ev_some ?_)
      show _ = if _ then _ else _
      rw [if_pos h60]
    · refine ev_if_pos (by omega) (ev_some ?_)
      show _ = if _ then _ else _
      rw [if_neg h60]
  | x :: rest, acc, i, hd, ha => by
    obtain ⟨hi, hd', hx⟩ := drop_cons hd
    have hx : rd_T42 l i = x := hx _
    rw [List.length_cons] at ha
    refine Ev.step (fun k => spec_MergeVersions.l0.eq_2 ..) (ev_if_pos (by omega) (ev_if_pos (by omega) (ev_if_pos (by omega) ?_)))
    rw [hx]
    have k1 := spec_put_loop acc (by omega) x acc [] rfl
    unfold puts
    refine ev_bind k1 ?_
    cases hp : put lessV x acc with
    | none => exact ev_if_neg (by simp) (ev_some rfl)
    | some c =>
      have hc := put_length x acc c hp
      refine ev_if_pos rfl ?_
      rw [wrap_succ (by omega), Option.bind_some]
      exact spec_merge_loop l hl rest c (i + 1) hd' (by omega)
theorem spec_MergeVersions_ev (a b : List (S42)) (ha : a.length ≤ 1048576) (hb : b.length ≤ 1048576) : Ev (fun k => spec_MergeVersions.f k a b) (mergeR a b) := by
  unfold spec_MergeVersions.f
  refine ev_bind (spec_GoodVersions_ev a ha) ?_
  have hbad : ∀ b', (goodVsn a && goodVsn b) = false → b' = true → Ev (fun k => spec_MergeVersions.j0 k a b b') (mergeR a b) := by
    intro b' h1 h2
    refine Ev.step (fun k => spec_MergeVersions.j0.eq_2 ..) (ev_if_pos h2 (ev_some ?_))
    unfold mergeR
    rw [h1, if_neg (by simp)]
  cases h1 : goodVsn a with
  | false => exact ev_if_neg (by simp) (hbad _ (by rw [h1]; rfl) rfl)
  | true =>
    refine ev_if_pos rfl (ev_bind (spec_GoodVersions_ev b hb) ?_)
    cases h2 : goodVsn b with
    | false => exact hbad _ (by rw [h1, h2]; rfl) rfl
    | true =>
      have l1 := goodVsn_len h1
      have l2 := goodVsn_len h2
      refine Ev.step (fun k => spec_MergeVersions.j0.eq_2 ..) (ev_if_neg (by simp) ?_)
      simp only [Option.bind_some, List.nil_append, List.length_nil]
      refine ev_if_pos (by omega) ?_
      have k1 := spec_merge_loop b l2 b a 0 rfl (by omega)
      unfold mergeR
      rw [h1, h2, Bool.and_self, if_pos rfl]
      exact k1

theorem FnExactMergeVersions : laws_FnExactMergeVersions.Pure := by
  intro l m hw hv
  refine Ev.rounds (g := fun k => laws_FnExactMergeVersions.f k l m) ?_
  unfold laws_FnExactMergeVersions.f
  obtain ⟨r, hr, hr2, hall⟩ := szVersionS_ev l 1048576 (by omega) (by omega) hw.1 (fun x hx => ⟨(hw.2 x hx).1, (hw.2 x hx).2.2.2⟩)
  refine ev_bind hr ?_
  by_cases hn : r < 0
  · exact ev_if_pos hn (ev_some rfl)
  obtain ⟨h1, _⟩ := hall (by omega)
  refine ev_if_neg hn ?_
  obtain ⟨r', hr', _, hall'⟩ := szVersionS_ev m r (by omega) hr2 hv.1 (fun x hx => ⟨(hv.2 x hx).1, (hv.2 x hx).2.2.2⟩)
  refine ev_bind hr' ?_
  by_cases hn' : r' < 0
  · exact ev_if_pos hn' (ev_some rfl)
  obtain ⟨h2, _⟩ := hall' (by omega)
  refine ev_if_neg hn' ?_
  have hto := toVersionS_ev l h1
  have h1' : (l.map toVersion).length ≤ 1048576 := by simpa using h1
  have hto2 := toVersionS_ev m h2
  have h2' : (m.map toVersion).length ≤ 1048576 := by simpa using h2
  revert hto h1' hto2 h2'
  generalize l.map toVersion = L
  generalize m.map toVersion = M
  intro hto hL hto2 hM
  have k1 := spec_MergeVersions_ev L M hL hM
  have k2 := impl_MergeVersions_ev L M hL hM
  have hR := mergeR_length L M
  revert k1 k2 hR
  generalize mergeR L M = R
  intro k1 k2 hR
  obtain ⟨X, ok⟩ := R
  have hR : X.length ≤ 1048576 := hR
  have eX := eqVersionS_ev X (by omega)
  have eL := eqVersionS_ev L (by omega)
  have eM := eqVersionS_ev M (by omega)
  have mL := markVersionS_ev L 1 (by omega)
  have mM := markVersionS_ev M (1 + 4 * L.length) (by omega)
  have mX := markVersionS_ev X 1 (by omega)
  have hX := heldVersionS_ev X.length 1 (by omega)
  refine ev_bind hto (ev_bind hto2 (ev_bind k1 (ev_bind hto (ev_bind hto2 (ev_bind k2 (ev_bind eX (ev_if_pos rfl ?_)))))))
  simp only [bne_self_eq_false]
  refine Ev.step (fun k => laws_FnExactMergeVersions.j0.eq_2 ..) (ev_if_neg (by simp) (ev_bind hto (ev_bind eL (ev_if_pos rfl (ev_bind hto2 (ev_bind eM (ev_if_pos rfl (ev_bind mL (ev_bind mM (ev_if_neg (by omega) (ev_bind eX (ev_if_pos rfl ?_))))))))))))
  simp only [bne_self_eq_false]
  refine Ev.step (fun k => laws_FnExactMergeVersions.j1.eq_2 ..) (ev_if_neg (by simp) (ev_bind mX (ev_bind hX (ev_if_neg (by omega) (ev_if_pos rfl (ev_bind hto (ev_bind hto2 (ev_bind k2 (ev_bind eX (ev_if_pos rfl ?_))))))))))
  simp only [bne_self_eq_false]
  exact Ev.step (fun k => laws_FnExactMergeVersions.j2.eq_2 ..) (ev_if_neg (by simp) (ev_bind hX (ev_if_neg (by omega) (ev_if_pos rfl (ev_some rfl)))))

end Go.Proofs.Ytpfjlnfgekeobaa.Pure
