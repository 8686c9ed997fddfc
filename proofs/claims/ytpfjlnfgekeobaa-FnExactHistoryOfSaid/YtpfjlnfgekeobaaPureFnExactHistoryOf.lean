/- The law FnExactHistoryOf holds at every input; no conditions. -/
import Derived.Test.YtpfjlnfgekeobaaQFnExactHistoryOfx9
import Derived.Test.YtpfjlnfgekeobaaBase
import Derived.OpenShut
namespace Go.Proofs.Ytpfjlnfgekeobaa.Pure
open Go.RowKit Go.Proofs.Ytpfjlnfgekeobaa.QFnExactHistoryOf Go.Proofs.YtpfjlnfgekeobaaW.PrintWords Go.Proofs.YtpfjlnfgekeobaaW.PrintLast Go.Proofs.Ytpfjlnfgekeobaa.Base
set_option linter.unusedSimpArgs false
set_option linter.unusedVariables false

def wf39 (x : S39) : Prop := x.f0.size ≤ 9223372036854775807 ∧ (Lit.int .i64 x.f1).wf = true ∧ True ∧ x.f3.size ≤ 9223372036854775807
def laws_FnExactHistoryOf.Pure : Prop := ∀ (l0 : List (S39)) (a1 : ByteArray), (l0.length ≤ 9223372036854775807 ∧ ∀ y ∈ l0, wf39 y) → a1.size ≤ 140737488351232 → ∃ k, laws_FnExactHistoryOf.f k l0 a1 = some true

/-! ### good versions -/
def goodK (k : ByteArray) : Bool := decide (1 ≤ k.size) && decide (k.size ≤ 12)
def goodV (x : S42) : Bool := goodK x.f0 && (decide (x.f3.size ≤ 12) && ((decide (0 ≤ x.f1) && decide (x.f1 ≤ 1000000)) && (!x.f2 || decide (x.f3.size = 0))))
def lessV (a b : S42) : Bool := Op.bytesLess a.f0.toList b.f0.toList || (decide (a.f0 = b.f0) && decide (a.f1 < b.f1))
def chainV : Option (S42) → List (S42) → Bool
  | _, [] => true
  | none, x :: l => goodV x && chainV (some x) l
  | some p, x :: l => goodV x && (lessV p x && chainV (some x) l)
def goodVsn (l : List (S42)) : Bool := chainV none l && decide (l.length ≤ 60)
theorem beq_nil_size (s : ByteArray) : (s.toList == ([] : List UInt8)) = decide (s.size = 0) := by
  by_cases h : s.size = 0
  · rw [(toList_nil s).2 h, decide_eq_true h]; rfl
  · rw [decide_eq_false h]
    cases hc : s.toList with
    | nil => exact absurd ((toList_nil s).1 hc) h
    | cons a l => rfl
theorem bne_nil_size (s : ByteArray) : (s.toList != ([] : List UInt8)) = decide (1 ≤ s.size) := by
  show (!(s.toList == ([] : List UInt8))) = _
  rw [beq_nil_size]
  by_cases h : s.size = 0
  · simp [h]
  · have : 1 ≤ s.size := by omega
    simp only [decide_eq_false h, decide_eq_true this, Bool.not_false]
theorem size_le_cast (s : ByteArray) (n : Nat) : decide ((s.size : Int) ≤ (n : Int)) = decide (s.size ≤ n) := by
  by_cases h : s.size ≤ n
  · rw [decide_eq_true h, decide_eq_true (by omega)]
  · rw [decide_eq_false h, decide_eq_false (by omega)]
theorem len_le_cast {α : Type} (l : List α) (n : Nat) : decide ((l.length : Int) ≤ (n : Int)) = decide (l.length ≤ n) := by
  by_cases h : l.length ≤ n
  · rw [decide_eq_true h, decide_eq_true (by omega)]
  · rw [decide_eq_false h, decide_eq_false (by omega)]

/-! ### comparing -/
def cmpI (a b : Int) : Int := if a < b then -1 else if a > b then 1 else 0
def cmpT (a b : ByteArray) : Int := if Op.bytesLess a.toList b.toList = true then -1 else if Op.bytesLess b.toList a.toList = true then 1 else 0
theorem cmpBytes_eq : ∀ x y : List UInt8, Lib.compareBytes x y = if Op.bytesLess x y = true then -1 else if Op.bytesLess y x = true then 1 else 0
  | [], [] => rfl
  | [], b :: y => rfl
  | a :: x, [] => rfl
  | a :: x, b :: y => by
    have ih := cmpBytes_eq x y
    by_cases h1 : a < b
    · have h3 : ¬ b < a := UInt8.lt_asymm h1
      simp [Lib.compareBytes, Op.bytesLess, h1, h3]
    · by_cases h2 : b < a
      · have h3 : b ≠ a := UInt8.ne_of_lt h2
        simp [Lib.compareBytes, Op.bytesLess, h1, h2, Ne.symm h3]
      · have h3 : a = b := UInt8.le_antisymm (UInt8.not_lt.1 h2) (UInt8.not_lt.1 h1)
        subst h3
        simp [Lib.compareBytes, Op.bytesLess, ih]
theorem cmpB_eq (a b : ByteArray) : Go.Proofs.Ytpfjlnfgekeobaa.Ext.cmpB a b = cmpT a b := by
  unfold Go.Proofs.Ytpfjlnfgekeobaa.Ext.cmpB cmpT
  rw [cmpBytes_eq, toList_data, toList_data]
theorem strings_Compare_eq (a b : ByteArray) : strings_Compare.f a b = some (cmpT a b) := by
  unfold strings_Compare.f bytealg_CompareString.f
  rw [Option.bind_some, cmpB_eq]
theorem cmp_Compare_eq (a b : Int) : cmp_Compare_int.f a b = some (cmpI a b) := by
  unfold cmp_Compare_int.f cmp_isNaN_int.f cmpI
  by_cases h1 : a < b
  · simp [h1]
  · by_cases h2 : b < a <;> simp [h1, h2]
/-- The first one that is not 0. -/
def orL : List Int → Int
  | [] => 0
  | x :: l => if x = 0 then orL l else x
theorem cmp_Or_loop (l : List Int) (hl : l.length ≤ 1000) : ∀ (rest : List Int) (i : Nat), l.drop i = rest → Ev (fun k => cmp_Or_int.l0 k 0 l l.length i) (orL rest)
  | [], i, hd => by
    have h := drop_nil hd
    exact Ev.step (fun k => cmp_Or_int.l0.eq_2 ..) (ev_if_neg (by omega) (ev_some rfl))
  | x :: rest, i, hd => by
    obtain ⟨hi, hd', hx⟩ := drop_cons hd
    have hx : rd l i = x := hx 0
    refine Ev.step (fun k => cmp_Or_int.l0.eq_2 ..) (ev_if_pos (by omega) (ev_if_pos (by omega) (ev_if_pos (by omega) ?_)))
    rw [hx, wrap_succ (by omega)]
    unfold orL
    exact ev_ite (fun _ => cmp_Or_loop l hl rest (i + 1) hd') (fun _ => ev_some rfl)
theorem cmp_Or_ev (l : List Int) (hl : l.length ≤ 1000) : Ev (fun k => cmp_Or_int.f k l) (orL l) := cmp_Or_loop l hl l 0 rfl
theorem cmpI_zero (a b : Int) : cmpI a b = 0 ↔ a = b := by
  unfold cmpI
  by_cases h1 : a < b
  · simp [h1]; omega
  · by_cases h2 : b < a
    · simp [h1, h2]; omega
    · simp [h1, h2]; omega

/-! ### Version: sizes -/
theorem szVersion_ev (x : S39) (left : Int) (h0 : 0 ≤ left) (h1 : left ≤ 1048576) (hw : x.f0.size ≤ 9223372036854775807 ∧ x.f3.size ≤ 9223372036854775807) : ∃ r, laws_szVersion.f x.f0 x.f1 x.f2 x.f3 left = some r ∧ r ≤ 1048576 ∧ (0 ≤ r → x.f0.size ≤ 1048576 ∧ x.f3.size ≤ 1048576) := by
  unfold laws_szVersion.f
  have e : wrap64 (left - (x.f0.size : Int)) = left - x.f0.size := wrap_id (by omega) (by omega)
  rw [e]
  by_cases h : left - (x.f0.size : Int) < 0
  · exact ⟨-1, by rw [if_pos h], by omega, fun h => by omega⟩
  · have e2 : wrap64 (left - (x.f0.size : Int) - (x.f3.size : Int)) = left - x.f0.size - x.f3.size := wrap_id (by omega) (by omega)
    rw [if_neg h, e2]
    by_cases h2 : left - (x.f0.size : Int) - (x.f3.size : Int) < 0
    · exact ⟨-1, by rw [if_pos h2], by omega, fun h => by omega⟩
    · exact ⟨_, by rw [if_neg h2], by omega, fun _ => by omega⟩
theorem szVersionS_loop (l : List (S39)) (hl : l.length ≤ 1048576) (hw : ∀ x ∈ l, x.f0.size ≤ 9223372036854775807 ∧ x.f3.size ≤ 9223372036854775807) : ∀ (rest : List (S39)) (i : Nat) (left : Int), l.drop i = rest → 0 ≤ left → left ≤ 1048576 →
    ∃ r, Ev (fun k => laws_szVersionS.l0 k l left i) r ∧ r ≤ 1048576 ∧ (0 ≤ r → ∀ x ∈ rest, x.f0.size ≤ 1048576 ∧ x.f3.size ≤ 1048576)
  | [], i, left, hd, h0, h1 => by
    have h := drop_nil hd
    exact ⟨left, Ev.step (fun k => laws_szVersionS.l0.eq_2 ..) (ev_if_neg (by omega) (ev_some rfl)), h1, fun _ s hs => by simp at hs⟩
  | s :: rest, i, left, hd, h0, h1 => by
    obtain ⟨hi, hd', hx⟩ := drop_cons hd
    have hx : rd_T39 l i = s := hx _
    have hs : s ∈ l := List.mem_of_mem_drop (by rw [hd]; exact List.mem_cons_self)
    obtain ⟨q, hq, hq1, hq2⟩ := szVersion_ev s left h0 h1 (hw s hs)
    by_cases hn : q < 0
    · refine ⟨-1, Ev.step (fun k => laws_szVersionS.l0.eq_2 ..) (ev_if_pos (by omega) (ev_if_pos (by omega) ?_)), by omega, fun h => by omega⟩
      simp only [hx, hq, Option.bind_some]
      exact ev_if_pos hn (ev_some rfl)
    · obtain ⟨r, hr, hb, hall⟩ := szVersionS_loop l hl hw rest (i + 1) q hd' (by omega) hq1
      refine ⟨r, Ev.step (fun k => laws_szVersionS.l0.eq_2 ..) (ev_if_pos (by omega) (ev_if_pos (by omega) ?_)), hb, fun h t ht => ?_⟩
      · simp only [hx, hq, Option.bind_some]
        rw [wrap_succ (by omega)]
        exact ev_if_neg hn hr
      · rcases List.mem_cons.1 ht with rfl | ht
        · exact hq2 (by omega)
        · exact hall h t ht
theorem szVersionS_ev (l : List (S39)) (left : Int) (h0 : 0 ≤ left) (h1 : left ≤ 1048576) (hl : l.length ≤ 9223372036854775807) (hw : ∀ x ∈ l, x.f0.size ≤ 9223372036854775807 ∧ x.f3.size ≤ 9223372036854775807) :
    ∃ r, Ev (fun k => laws_szVersionS.f k l left) r ∧ r ≤ 1048576 ∧ (0 ≤ r → l.length ≤ 1048576 ∧ ∀ x ∈ l, x.f0.size ≤ 1048576 ∧ x.f3.size ≤ 1048576) := by
  unfold laws_szVersionS.f
  have e : wrap64 (left - (l.length : Int)) = left - l.length := wrap_id (by omega) (by omega)
  simp only [e]
  by_cases hn : left - (l.length : Int) < 0
  · exact ⟨-1, ev_if_pos hn (ev_some rfl), by omega, fun h => by omega⟩
  · obtain ⟨r, hr, hb, hall⟩ := szVersionS_loop l (by omega) hw l 0 (left - l.length) rfl (by omega) (by omega)
    exact ⟨r, ev_if_neg hn hr, hb, fun h => ⟨by omega, hall h⟩⟩

/-! ### Version: copied -/
def toVersion (x : S39) : S42 := ⟨x.f0, x.f1, x.f2, x.f3⟩
theorem toVersion_eq (x : S39) : laws_toVersion.f x.f0 x.f1 x.f2 x.f3 = some ((toVersion x).f0, (toVersion x).f1, (toVersion x).f2, (toVersion x).f3) := rfl
theorem toVersionS_loop (l : List (S39)) (hl : l.length ≤ 1048576) : ∀ (rest : List (S39)) (pre : List (S42)) (i : Nat), l.drop i = rest → pre.length = i →
    Ev (fun k => laws_toVersionS.l0 k l (pre ++ List.replicate rest.length z42) i) (pre ++ rest.map toVersion)
  | [], pre, i, hd, hp => by
    have h := drop_nil hd
    exact Ev.step (fun k => laws_toVersionS.l0.eq_2 ..) (ev_if_neg (by omega) (ev_some rfl))
  | s :: rest, pre, i, hd, hp => by
    obtain ⟨hi, hd', hx⟩ := drop_cons hd
    have hx : rd_T39 l i = s := hx _
    refine Ev.step (fun k => laws_toVersionS.l0.eq_2 ..) (ev_if_pos (by omega) (ev_if_pos (by omega) ?_))
    simp only [hx, toVersion_eq, Option.bind_some]
    refine ev_if_pos (by rw [List.length_append, List.length_replicate, List.length_cons]; omega) ?_
    rw [wrap_succ (by omega), Int.toNat_natCast, List.length_cons, List.replicate_succ]
    subst hp
    rw [set_at]
    have := toVersionS_loop l hl rest (pre ++ [toVersion s]) (pre.length + 1) hd' (by simp)
    simpa using this
theorem toVersionS_ev (l : List (S39)) (hl : l.length ≤ 1048576) : Ev (fun k => laws_toVersionS.f k l) (l.map toVersion) := by
  unfold laws_toVersionS.f
  refine ev_if_pos (by omega) (ev_if_pos (by omega) ?_)
  rw [Int.toNat_natCast]
  exact toVersionS_loop l hl l [] 0 rfl rfl

/-! ### Version: alike -/
theorem eqVersion_eq (x : S42) : laws_eqVersion.f x.f0 x.f1 x.f2 x.f3 x.f0 x.f1 x.f2 x.f3 = some true := by
  unfold laws_eqVersion.f
  simp
theorem eqVersionS_loop (l : List (S42)) (hl : l.length ≤ 1152921504606846976) : ∀ (rest : List (S42)) (i : Nat), l.drop i = rest → Ev (fun k => laws_eqVersionS.l0 k l l i) true
  | [], i, hd => by
    have h := drop_nil hd
    exact Ev.step (fun k => laws_eqVersionS.l0.eq_2 ..) (ev_if_neg (by omega) (ev_some rfl))
  | s :: rest, i, hd => by
    obtain ⟨hi, hd', hx⟩ := drop_cons hd
    have hx : rd_T42 l i = s := hx _
    refine Ev.step (fun k => laws_eqVersionS.l0.eq_2 ..) (ev_if_pos (by omega) (ev_if_pos (by omega) (ev_if_pos (by omega) ?_)))
    simp only [hx, eqVersion_eq, Option.bind_some]
    rw [wrap_succ (by omega)]
    exact ev_if_pos (by simp) (eqVersionS_loop l hl rest (i + 1) hd')
theorem eqVersionS_ev (l : List (S42)) (hl : l.length ≤ 1152921504606846976) : Ev (fun k => laws_eqVersionS.f k l l) true := by
  unfold laws_eqVersionS.f
  exact ev_if_pos rfl (eqVersionS_loop l hl l 0 rfl)

theorem spec_l5Pair_eq (k v : ByteArray) : spec_l5Pair.f k v = some (decide (k.size ≤ 12) && (decide (v.size ≤ 12) && decide (1 ≤ k.size))) := by
  unfold spec_l5Pair.f spec_l5Text.f
  have h1 : decide ((k.size : Int) ≤ 12) = decide (k.size ≤ 12) := size_le_cast k 12
  have h2 : decide ((v.size : Int) ≤ 12) = decide (v.size ≤ 12) := size_le_cast v 12
  simp only [bne_nil_size, h1, h2, Option.bind_some]
  cases decide (k.size ≤ 12) <;> cases decide (v.size ≤ 12) <;> simp
theorem spec_l14One_eq (x : S42) : spec_l14One.f x.f0 x.f1 x.f2 x.f3 = some (goodV x) := by
  unfold spec_l14One.f spec_l1In.f goodV goodK
  simp only [spec_l5Pair_eq, beq_nil_size, Option.bind_some]
  generalize decide (x.f0.size ≤ 12) = b1
  generalize decide (x.f3.size ≤ 12) = b2
  generalize decide (1 ≤ x.f0.size) = b3
  generalize decide (x.f3.size = 0) = b4
  generalize x.f2 = b5
  by_cases h1 : 0 ≤ x.f1
  · by_cases h2 : x.f1 ≤ 1000000 <;> cases b1 <;> cases b2 <;> cases b3 <;> cases b4 <;> cases b5 <;> simp [h1, h2]
  · cases b1 <;> cases b2 <;> cases b3 <;> cases b4 <;> cases b5 <;> simp [h1]
theorem spec_l14Less_eq (a b : S42) : spec_l14Less.f a.f0 a.f1 a.f2 a.f3 b.f0 b.f1 b.f2 b.f3 = some (lessV a b) := by
  unfold spec_l14Less.f lessV
  by_cases h1 : Op.bytesLess a.f0.toList b.f0.toList = true
  · simp [h1]
  · by_cases h2 : a.f0 = b.f0
    · have h2' : a.f0.toList = b.f0.toList := by rw [h2]
      have h1' : Op.bytesLess a.f0.toList b.f0.toList = false := by simpa using h1
      simp only [h1', h2', h2, if_true, decide_true, Bool.true_and, Bool.false_or, Bool.false_eq_true, if_false]
      have h3 : Op.bytesLess b.f0.toList b.f0.toList = false := by rw [← h2', ← h1']; rw [h2]
      simp [h3]
    · have h2' : ¬ a.f0.toList = b.f0.toList := fun h => h2 (toList_inj.1 h)
      simp [h1, h2, h2']
theorem spec_GoodVersions_loop (l : List (S42)) (hl : l.length ≤ 1048576) : ∀ (rest pre : List (S42)), l = pre ++ rest →
    Ev (fun k => spec_GoodVersions.l0 k l l l.length pre.length) (chainV pre.getLast? rest && decide (l.length ≤ 60))
  | [], pre, hd => by
    have e : l.length = pre.length := by rw [hd]; simp
    refine Ev.step (fun k => spec_GoodVersions.l0.eq_2 ..) (ev_if_neg (by omega) (ev_some ?_))
    have h2 : decide ((l.length : Int) ≤ 60) = decide (l.length ≤ 60) := len_le_cast l 60
    rw [h2]
    cases pre.getLast? <;> simp [chainV]
  | x :: rest, pre, hd => by
    obtain ⟨hi, hx⟩ := mid_at hd
    have hx : rd_T42 l pre.length = x := hx _
    refine Ev.step (fun k => spec_GoodVersions.l0.eq_2 ..) (ev_if_pos (by omega) (ev_if_pos (by omega) (ev_if_pos (by omega) ?_)))
    simp only [hx, spec_l14One_eq, Option.bind_some]
    have ih := spec_GoodVersions_loop l hl rest (pre ++ [x]) (by rw [hd]; simp)
    rw [List.length_append, List.length_singleton] at ih
    simp only [List.getLast?_append, List.getLast?_singleton, Option.some_or] at ih
    cases hg : goodV x with
    | true =>
      refine ev_if_pos rfl ?_
      rcases nil_or_snoc pre with rfl | ⟨q, p, rfl⟩
      · refine ev_if_neg (by simp) ?_
        rw [wrap_succ (by omega)]
        refine ev_eq ih ?_
        simp [chainV, hg]
      · have hlast := last_at hd z42
        have hlast : rd_T42 l (((q ++ [p]).length : Int) - 1) = p := hlast
        have hpos : ((q ++ [p]).length : Int) > 0 := by rw [List.length_append, List.length_singleton]; omega
        rw [wrap_id (x := ((q ++ [p]).length : Int) - 1) (by omega) (by omega)]
        simp only [hlast, spec_l14Less_eq, Option.bind_some]
        refine ev_if_pos hpos (ev_if_pos (by omega) (ev_if_pos (by omega) ?_))
        cases h4 : lessV p x with
        | true =>
          refine ev_if_pos rfl ?_
          rw [wrap_succ (by omega)]
          refine ev_eq ih ?_
          simp [chainV, hg, h4]
        | false =>
          refine ev_if_neg (by simp) (ev_some ?_)
          simp [chainV, h4]
    | false =>
      refine ev_if_neg (by simp) (ev_some ?_)
      rcases nil_or_snoc pre with rfl | ⟨q, p, rfl⟩ <;> simp [chainV, hg]
theorem spec_GoodVersions_ev (l : List (S42)) (hl : l.length ≤ 1048576) : Ev (fun k => spec_GoodVersions.f k l) (goodVsn l) :=
  spec_GoodVersions_loop l hl l [] rfl

theorem impl_isKey_eq (k : ByteArray) : impl_isKey.f k = some (goodK k) := by
  unfold impl_isKey.f impl_within.f goodK
  have h1 : decide ((k.size : Int) ≤ 12) = decide (k.size ≤ 12) := size_le_cast k 12
  by_cases h : 1 ≤ k.size
  · have h' : (k.size : Int) ≥ 1 := by omega
    simp only [h', if_true, h1, Option.bind_some, decide_eq_true h, Bool.true_and]
  · have h' : ¬ (k.size : Int) ≥ 1 := by omega
    simp only [h', if_false, Option.bind_some, decide_eq_false h, Bool.false_and]
theorem impl_isVersion_eq (x : S42) : impl_isVersion.f x.f0 x.f1 x.f2 x.f3 = some (goodV x) := by
  unfold impl_isVersion.f impl_within.f impl_isVal.f goodV
  have h3 : decide ((x.f3.size : Int) ≤ 12) = decide (x.f3.size ≤ 12) := size_le_cast x.f3 12
  simp only [impl_isKey_eq, beq_nil_size, h3, Option.bind_some]
  generalize goodK x.f0 = b1
  generalize decide (x.f3.size ≤ 12) = b2
  generalize decide (x.f3.size = 0) = b4
  generalize x.f2 = b5
  by_cases h1 : 0 ≤ x.f1
  · by_cases h2 : x.f1 ≤ 1000000 <;> cases b1 <;> cases b2 <;> cases b4 <;> cases b5 <;> simp [h1, h2]
  · cases b1 <;> cases b2 <;> cases b4 <;> cases b5 <;> simp [h1]
def cmpVn (a b : S42) : Int := orL [cmpT a.f0 b.f0, cmpI a.f1 b.f1]
theorem impl_compareVn_ev (a b : S42) : Ev (fun k => impl_Version_compare.f k a.f0 a.f1 a.f2 a.f3 b.f0 b.f1 b.f2 b.f3) (cmpVn a b) := by
  unfold impl_Version_compare.f
  simp only [cmp_Compare_eq, strings_Compare_eq, Option.bind_some]
  exact ev_bind (cmp_Or_ev _ (by simp)) (ev_some rfl)
theorem bl_total : ∀ x y : List UInt8, Op.bytesLess x y = false → Op.bytesLess y x = false → x = y
  | [], [], _, _ => rfl
  | [], b :: y, h, _ => by simp [Op.bytesLess] at h
  | a :: x, [], _, h => by simp [Op.bytesLess] at h
  | a :: x, b :: y, h, k => by
    simp only [Op.bytesLess, Bool.or_eq_false_iff, decide_eq_false_iff_not, Bool.and_eq_false_iff] at h k
    have e : a = b := UInt8.le_antisymm (UInt8.not_lt.1 k.1) (UInt8.not_lt.1 h.1)
    subst e
    have h2 : Op.bytesLess x y = false := by rcases h.2 with h | h; · simp at h
                                             · exact h
    have k2 : Op.bytesLess y x = false := by rcases k.2 with h | h; · simp at h
                                             · exact h
    rw [bl_total x y h2 k2]
theorem bl_irrefl : ∀ x : List UInt8, Op.bytesLess x x = false
  | [] => rfl
  | a :: x => by simp [Op.bytesLess, bl_irrefl x]
theorem cmpT_zero (a b : ByteArray) : cmpT a b = 0 ↔ a = b := by
  unfold cmpT
  by_cases h1 : Op.bytesLess a.toList b.toList = true
  · simp only [h1, if_true]
    constructor
    · intro h; cases h
    · intro h; subst h; rw [bl_irrefl] at h1; cases h1
  · by_cases h2 : Op.bytesLess b.toList a.toList = true
    · simp only [h1, h2, if_true, if_false]
      constructor
      · intro h; cases h
      · intro h; subst h; rw [bl_irrefl] at h2; cases h2
    · simp only [h1, h2, if_false, true_iff, Bool.false_eq_true]
      exact toList_inj.1 (bl_total _ _ (by simpa using h1) (by simpa using h2))
theorem cmpVn_neg (a b : S42) : (cmpVn a b ≥ 0) = (lessV a b = false) := by
  unfold cmpVn lessV
  simp only [orL]
  by_cases h0 : a.f0 = b.f0
  · have e := (cmpT_zero a.f0 b.f0).2 h0
    have hb : Op.bytesLess a.f0.toList b.f0.toList = false := by rw [h0, bl_irrefl]
    rw [if_pos e]
    unfold cmpI
    by_cases h1 : a.f1 < b.f1
    · simp [hb, h0, h1]
    · by_cases h2 : b.f1 < a.f1 <;> simp [hb, h0, h1, h2, bl_irrefl]
  · have e : ¬ cmpT a.f0 b.f0 = 0 := fun h => h0 ((cmpT_zero _ _).1 h)
    rw [if_neg e]
    unfold cmpT at e ⊢
    by_cases h1 : Op.bytesLess a.f0.toList b.f0.toList = true
    · simp [h1]
    · by_cases h2 : Op.bytesLess b.f0.toList a.f0.toList = true
      · simp [h1, h2, h0]
      · simp [h1, h2] at e
theorem impl_GoodVersions_loop (l : List (S42)) (hl : l.length ≤ 1048576) : ∀ (rest pre : List (S42)), l = pre ++ rest →
    Ev (fun k => impl_GoodVersions.l0 k l l l.length pre.length) (chainV pre.getLast? rest && decide (l.length ≤ 60))
  | [], pre, hd => by
    have e : l.length = pre.length := by rw [hd]; simp
    refine Ev.step (fun k => impl_GoodVersions.l0.eq_2 ..) (ev_if_neg (by omega) (ev_some ?_))
    have h2 : decide ((l.length : Int) ≤ 60) = decide (l.length ≤ 60) := len_le_cast l 60
    rw [h2]
    cases pre.getLast? <;> simp [chainV]
  | x :: rest, pre, hd => by
    obtain ⟨hi, hx⟩ := mid_at hd
    have hx : rd_T42 l pre.length = x := hx _
    refine Ev.step (fun k => impl_GoodVersions.l0.eq_2 ..) (ev_if_pos (by omega) (ev_if_pos (by omega) (ev_if_pos (by omega) ?_)))
    simp only [hx, impl_isVersion_eq, Option.bind_some]
    have ih := impl_GoodVersions_loop l hl rest (pre ++ [x]) (by rw [hd]; simp)
    rw [List.length_append, List.length_singleton] at ih
    simp only [List.getLast?_append, List.getLast?_singleton, Option.some_or] at ih
    cases hg : goodV x with
    | true =>
      refine ev_if_pos rfl ?_
      rcases nil_or_snoc pre with rfl | ⟨q, p, rfl⟩
      · refine ev_if_neg (by simp) ?_
        rw [wrap_succ (by omega)]
        refine ev_eq ih ?_
        simp [chainV, hg]
      · have hlast := last_at hd z42
        have hlast : rd_T42 l (((q ++ [p]).length : Int) - 1) = p := hlast
        have hpos : ((q ++ [p]).length : Int) > 0 := by rw [List.length_append, List.length_singleton]; omega
        rw [wrap_id (x := ((q ++ [p]).length : Int) - 1) (by omega) (by omega), hlast]
        refine ev_if_pos hpos (ev_if_pos (by omega) (ev_if_pos (by omega) (ev_bind (impl_compareVn_ev p x) ?_)))
        cases h4 : lessV p x with
        | true =>
          refine ev_if_neg (by rw [cmpVn_neg, h4]; simp) ?_
          rw [wrap_succ (by omega)]
          refine ev_eq ih ?_
          simp [chainV, hg, h4]
        | false =>
          refine ev_if_pos (by rw [cmpVn_neg, h4]) (ev_some ?_)
          simp [chainV, h4]
    | false =>
      refine ev_if_neg (by simp) (ev_some ?_)
      rcases nil_or_snoc pre with rfl | ⟨q, p, rfl⟩ <;> simp [chainV, hg]
theorem impl_GoodVersions_ev (l : List (S42)) (hl : l.length ≤ 1048576) : Ev (fun k => impl_GoodVersions.f k l) (goodVsn l) :=
  impl_GoodVersions_loop l hl l [] rfl

/-! ### marks -/
def mtN : Nat → Int → ByteArray → ByteArray
  | 0, _, acc => (⟨#[109]⟩ : ByteArray) ++ acc
  | f + 1, n, acc => if n > 0 then mtN f (n / 10) (strOfNums [(48 + n % 10) % 256] ++ acc) else (⟨#[109]⟩ : ByteArray) ++ acc
def mtx (n : Int) : ByteArray := if n ≤ 0 then ⟨#[109, 48]⟩ else mtN n.toNat n ⟨#[]⟩

theorem markText_loop : ∀ (f : Nat) (n : Int) (acc : ByteArray), 0 ≤ n → n ≤ f → acc.size + f ≤ 1152921504606846976 → Ev (fun k => laws_markText.l0 k n acc) (mtN f n acc)
  | 0, n, acc, h0, h1, h2 => by
    refine Ev.step (fun k => laws_markText.l0.eq_2 ..) (ev_if_neg (by omega) (ev_if_pos (by omega) (ev_some rfl)))
  | f + 1, n, acc, h0, h1, h2 => by
    refine Ev.step (fun k => laws_markText.l0.eq_2 ..) ?_
    unfold mtN
    by_cases hn : n > 0
    · refine ev_if_pos hn ?_
      rw [if_pos hn, tmod_nn (by omega), tdiv_nn (by omega), wrap_id (x := 48 + n % 10) (by omega) (by omega), wrap_id (x := n / 10) (by omega) (by omega)]
      simp only [Option.bind_some]
      exact ev_if_pos (by rw [one_size]; omega) (markText_loop f (n / 10) _ (by omega) (by omega) (by rw [size_append, one_size]; omega))
    · rw [if_neg hn]
      exact ev_if_neg hn (ev_if_pos (by omega) (ev_some rfl))
theorem markText_ev (n : Int) (h1 : n ≤ 576460752303423488) : Ev (fun k => laws_markText.f k n) (mtx n) := by
  unfold laws_markText.f mtx
  by_cases hn : n ≤ 0
  · rw [if_pos hn]; exact ev_if_pos hn (ev_some rfl)
  · rw [if_neg hn]; exact ev_if_neg hn (markText_loop n.toNat n ⟨#[]⟩ (by omega) (by omega) (by show 0 + _ ≤ _; omega))

def marksR : Nat → Nat → List ByteArray
  | 0, _ => []
  | d + 1, n => mtx n :: marksR d (n + 1)
theorem marksR_length : ∀ d n, (marksR d n).length = d
  | 0, _ => rfl
  | d + 1, n => by simp [marksR, marksR_length d (n + 1)]

/-! ### Version: marks -/
def mkVersion (n : Int) : S42 := ⟨mtx n, n + 1, Int.tmod (n + 2) 3 == 0, mtx (n + 3)⟩
def marksVersion : Nat → Nat → List (S42)
  | 0, _ => []
  | d + 1, n => mkVersion n :: marksVersion d (n + 4)
theorem marksVersion_length : ∀ d n, (marksVersion d n).length = d
  | 0, _ => rfl
  | d + 1, n => by simp [marksVersion, marksVersion_length d (n + 4)]
theorem rdVersion_mid (p : List (S42)) (x : S42) (q : List (S42)) : rd_T42 (p ++ x :: q) (p.length : Int) = x := (mid_at (l := p ++ x :: q) rfl).2 _
theorem wrap_four {n : Nat} (h : n ≤ 1073741824) : (Unit → wrap64 ((n : Int) + 1) = (n : Int) + 1) ∧ (Unit → wrap64 ((n : Int) + 1 + 1) = (n : Int) + 2) ∧ (Unit → wrap64 ((n : Int) + 2 + 1) = (n : Int) + 3) ∧ (Unit → wrap64 ((n : Int) + 3 + 1) = ((n + 4 : Nat) : Int)) :=
  ⟨fun _ => wrap_id (by omega) (by omega), fun _ => by rw [wrap_id (by omega) (by omega)]; omega, fun _ => by rw [wrap_id (by omega) (by omega)]; omega, fun _ => by rw [wrap_id (by omega) (by omega)]; omega⟩
theorem markVersionS_loop : ∀ (rest pre : List (S42)) (n : Nat), pre.length + rest.length ≤ 1073741824 → n + 4 * rest.length ≤ 1073741824 →
    Ev (fun k => laws_markVersionS.l0 k (pre ++ rest) n pre.length) (((n + 4 * rest.length : Nat) : Int), pre ++ marksVersion rest.length n)
  | [], pre, n, h1, h2 => by
    refine Ev.step (fun k => laws_markVersionS.l0.eq_2 ..) (ev_if_neg (by rw [List.append_nil]; omega) (ev_some (by simp [marksVersion])))
  | s :: rest, pre, n, h1, h2 => by
    rw [List.length_cons] at h1 h2
    obtain ⟨w1, w2, w3, w4⟩ := wrap_four (n := n) (by omega)
    refine Ev.step (fun k => laws_markVersionS.l0.eq_2 ..) (ev_if_pos (by rw [List.length_append, List.length_cons]; omega) (ev_bind (markText_ev n (by omega)) (ev_if_pos (by omega) ?_)))
    simp only [Option.bind_some, Int.toNat_natCast, set_at, rdVersion_mid, w1 (), w2 (), w3 (), w4 ()]
    refine ev_bind (markText_ev ((n : Int) + 3) (by omega)) ?_
    rw [wrap_succ (by omega)]
    have ih := markVersionS_loop rest (pre ++ [mkVersion n]) (n + 4) (by rw [List.length_append, List.length_singleton]; omega) (by omega)
    rw [List.append_assoc, List.length_append, List.length_singleton] at ih
    refine ev_eq ih ?_
    have e2 : n + 4 + 4 * rest.length = n + 4 * (rest.length + 1) := by omega
    simp only [List.length_cons, marksVersion, List.append_assoc, List.singleton_append, e2]
theorem markVersionS_ev (l : List (S42)) (n : Nat) (hb : 4 * l.length + n ≤ 1073741824) : Ev (fun k => laws_markVersionS.f k l n) (((n + 4 * l.length : Nat) : Int), marksVersion l.length n) := by
  unfold laws_markVersionS.f
  exact markVersionS_loop l [] n (by show 0 + _ ≤ _; omega) (by omega)

theorem heldVersionS_loop (l : List (S42)) (hl : l.length ≤ 1073741824) : ∀ (d n i : Nat), l.drop i = marksVersion d n → 4 * d + n ≤ 1073741824 → i + d = l.length →
    Ev (fun k => laws_heldVersionS.l0 k l n i) ((n + 4 * d : Nat) : Int)
  | 0, n, i, hd, hb, hi => by
    exact Ev.step (fun k => laws_heldVersionS.l0.eq_2 ..) (ev_if_neg (by omega) (ev_some rfl))
  | d + 1, n, i, hd, hb, hi => by
    obtain ⟨hi', hd', hx⟩ := drop_cons hd
    have hx : rd_T42 l i = mkVersion n := hx _
    obtain ⟨w1, w2, w3, w4⟩ := wrap_four (n := n) (by omega)
    refine Ev.step (fun k => laws_heldVersionS.l0.eq_2 ..) (ev_if_pos (by omega) (ev_if_pos (by omega) (ev_bind (markText_ev n (by omega)) ?_)))
    simp only [hx, w1 (), w2 (), w3 (), w4 (), mkVersion, bne_self_eq_false]
    refine ev_if_pos trivial (ev_if_pos trivial (ev_if_neg (by simp) (ev_bind (markText_ev ((n : Int) + 3) (by omega)) (ev_if_pos rfl ?_))))
    rw [wrap_succ (by omega)]
    refine ev_eq (heldVersionS_loop l hl d (n + 4) (i + 1) hd' (by omega) (by omega)) ?_
    congr 1
    omega
theorem heldVersionS_ev (d n : Nat) (hb : 4 * d + n ≤ 1073741824) : Ev (fun k => laws_heldVersionS.f k (marksVersion d n) n) ((n + 4 * d : Nat) : Int) := by
  unfold laws_heldVersionS.f
  exact heldVersionS_loop (marksVersion d n) (by rw [marksVersion_length]; omega) d n 0 rfl hb (by rw [marksVersion_length]; omega)

/-! ### the history of a key -/
theorem beq_toList (a b : ByteArray) : (a.toList == b.toList) = decide (a = b) := by
  by_cases h : a = b
  · subst h; simp
  · have : ¬ a.toList = b.toList := fun k => h (toList_inj.1 k)
    simp [h, this]
def hisR (key : ByteArray) (l : List (S42)) : List (S42) := l.filter fun x => decide (x.f0 = key)
theorem spec_history_loop (key : ByteArray) (l : List (S42)) (hl : l.length ≤ 1048576) : ∀ (rest acc : List (S42)) (i : Nat), l.drop i = rest → acc.length ≤ i → i ≤ l.length →
    Ev (fun k => spec_HistoryOf.l0 k key acc l l.length i) (acc ++ hisR key rest, true)
  | [], acc, i, hd, ha, hi => by
    have h := drop_nil hd
    exact Ev.step (fun k => spec_HistoryOf.l0.eq_2 ..) (ev_if_neg (by omega) (ev_some (by simp [hisR])))
  | x :: rest, acc, i, hd, ha, hi => by
    obtain ⟨hi, hd', hx⟩ := drop_cons hd
    have hx : rd_T42 l i = x := hx _
    refine Ev.step (fun k => spec_HistoryOf.l0.eq_2 ..) (ev_if_pos (by omega) (ev_if_pos (by omega) (ev_if_pos (by omega) ?_)))
    rw [hx, wrap_succ (by omega)]
    by_cases h : x.f0 = key
    · refine ev_if_pos (by rw [h]) (ev_if_pos (by omega) (ev_eq (spec_history_loop key l hl rest (acc ++ [x]) (i + 1) hd' (by rw [List.length_append, List.length_singleton]; omega) (by omega)) ?_))
      simp [hisR, h]
    · refine ev_if_neg (fun k => h (toList_inj.1 k)) (ev_eq (spec_history_loop key l hl rest acc (i + 1) hd' (by omega) (by omega)) ?_)
      simp [hisR, h]
theorem impl_history_loop (key : ByteArray) (l : List (S42)) (hl : l.length ≤ 1048576) : ∀ (rest acc : List (S42)) (i : Nat), l.drop i = rest → acc.length ≤ i → i ≤ l.length →
    Ev (fun k => impl_only__impl_HistoryOf_1.l0 k acc l l.length i key) (acc ++ hisR key rest)
  | [], acc, i, hd, ha, hi => by
    have h := drop_nil hd
    exact Ev.step (fun k => impl_only__impl_HistoryOf_1.l0.eq_2 ..) (ev_if_neg (by omega) (ev_some (by simp [hisR])))
  | x :: rest, acc, i, hd, ha, hi => by
    obtain ⟨hi, hd', hx⟩ := drop_cons hd
    have hx : rd_T42 l i = x := hx _
    refine Ev.step (fun k => impl_only__impl_HistoryOf_1.l0.eq_2 ..) (ev_if_pos (by omega) (ev_if_pos (by omega) (ev_if_pos (by omega) ?_)))
    rw [hx, wrap_succ (by omega)]
    simp only [impl_HistoryOf_1.f, Option.bind_some, beq_toList]
    by_cases h : x.f0 = key
    · refine ev_if_pos (by simp [h]) (ev_if_pos (by omega) (ev_eq (impl_history_loop key l hl rest (acc ++ [x]) (i + 1) hd' (by rw [List.length_append, List.length_singleton]; omega) (by omega)) ?_))
      simp [hisR, h]
    · refine ev_if_neg (by simp [h]) (ev_eq (impl_history_loop key l hl rest acc (i + 1) hd' (by omega) (by omega)) ?_)
      simp [hisR, h]
def hisL (l : List (S42)) (key : ByteArray) : List (S42) × Bool := if (goodVsn l && goodK key) = true then (hisR key l, true) else ([], false)
theorem goodK_alt (key : ByteArray) : (decide (key.size ≤ 12) && (decide ((⟨#[]⟩ : ByteArray).size ≤ 12) && decide (1 ≤ key.size))) = goodK key := by
  have : decide ((⟨#[]⟩ : ByteArray).size ≤ 12) = true := rfl
  rw [this, Bool.true_and, Bool.and_comm]; rfl
theorem spec_HistoryOf_ev (key : ByteArray) (l : List (S42)) (hl : l.length ≤ 1048576) : Ev (fun k => spec_HistoryOf.f k l key) (hisL l key) := by
  unfold spec_HistoryOf.f hisL
  simp only [spec_l5Pair_eq, goodK_alt, Option.bind_some]
  refine ev_bind (spec_GoodVersions_ev l hl) ?_
  cases h1 : goodVsn l with
  | false => exact ev_if_neg (by simp) (Ev.step (fun k => spec_HistoryOf.j0.eq_2 ..) (ev_if_pos rfl (ev_some (by simp))))
  | true =>
    refine ev_if_pos rfl ?_
    cases h2 : goodK key with
    | false => exact Ev.step (fun k => spec_HistoryOf.j0.eq_2 ..) (ev_if_pos rfl (ev_some (by simp)))
    | true => exact Ev.step (fun k => spec_HistoryOf.j0.eq_2 ..) (ev_if_neg (by simp) (spec_history_loop key l hl l [] 0 rfl (Nat.le_refl _) (by omega)))
theorem impl_HistoryOf_ev (key : ByteArray) (l : List (S42)) (hl : l.length ≤ 1048576) : Ev (fun k => impl_HistoryOf.f k l key) (hisL l key) := by
  unfold impl_HistoryOf.f hisL
  simp only [impl_isKey_eq, Option.bind_some]
  refine ev_bind (impl_GoodVersions_ev l hl) ?_
  cases h1 : goodVsn l with
  | false => exact ev_if_neg (by simp) (ev_some (by simp))
  | true =>
    refine ev_if_pos rfl ?_
    cases h2 : goodK key with
    | false => exact ev_if_neg (by simp) (ev_some (by simp))
    | true =>
      refine ev_if_pos rfl (ev_bind ?_ (ev_some rfl))
      unfold impl_only__impl_HistoryOf_1.f
      exact impl_history_loop key l hl l [] 0 rfl (Nat.le_refl _) (by omega)
theorem hisL_length (l : List (S42)) (key : ByteArray) (hl : l.length ≤ 1048576) : (hisL l key).1.length ≤ 1048576 := by
  unfold hisL
  split
  · exact Nat.le_trans (List.length_filter_le _ _) hl
  · exact Nat.zero_le _

theorem FnExactHistoryOf : laws_FnExactHistoryOf.Pure := by
  intro l key hw _
  refine Ev.rounds (g := fun k => laws_FnExactHistoryOf.f k l key) ?_
  unfold laws_FnExactHistoryOf.f
  by_cases hb : (key.size : Int) > 1048576
  · exact ev_if_pos hb (ev_some rfl)
  refine ev_if_neg hb ?_
  obtain ⟨r, hr, _, hall⟩ := szVersionS_ev l 1048576 (by omega) (by omega) hw.1 (fun x hx => ⟨(hw.2 x hx).1, (hw.2 x hx).2.2.2⟩)
  refine ev_bind hr ?_
  by_cases hn : r < 0
  · exact ev_if_pos hn (ev_some rfl)
  obtain ⟨h1, _⟩ := hall (by omega)
  refine ev_if_neg hn ?_
  have hto := toVersionS_ev l h1
  have h1' : (l.map toVersion).length ≤ 1048576 := by simpa using h1
  revert hto h1'
  generalize l.map toVersion = L
  intro hto hL
  have k1 := spec_HistoryOf_ev key L hL
  have k2 := impl_HistoryOf_ev key L hL
  have hR := hisL_length L key hL
  revert k1 k2 hR
  generalize hisL L key = R
  intro k1 k2 hR
  obtain ⟨X, ok⟩ := R
  have hR : X.length ≤ 1048576 := hR
  have eX := eqVersionS_ev X (by omega)
  have eL := eqVersionS_ev L (by omega)
  have mL := markVersionS_ev L 1 (by omega)
  have mX := markVersionS_ev X 1 (by omega)
  have hX := heldVersionS_ev X.length 1 (by omega)
  refine ev_bind hto (ev_bind k1 (ev_bind hto (ev_bind k2 (ev_bind eX (ev_if_pos rfl ?_)))))
  simp only [bne_self_eq_false]
  refine Ev.step (fun k => laws_FnExactHistoryOf.j0.eq_2 ..) (ev_if_neg (by simp) (ev_bind hto (ev_bind eL (ev_if_pos rfl (ev_bind mL (ev_if_neg (by omega) (ev_bind eX (ev_if_pos rfl ?_))))))))
  simp only [bne_self_eq_false]
  refine Ev.step (fun k => laws_FnExactHistoryOf.j1.eq_2 ..) (ev_if_neg (by simp) (ev_bind mX (ev_bind hX (ev_if_neg (by omega) (ev_if_pos rfl (ev_bind hto (ev_bind k2 (ev_bind eX (ev_if_pos rfl ?_)))))))))
  simp only [bne_self_eq_false]
  exact Ev.step (fun k => laws_FnExactHistoryOf.j2.eq_2 ..) (ev_if_neg (by simp) (ev_bind hX (ev_if_neg (by omega) (ev_if_pos rfl (ev_some rfl)))))

end Go.Proofs.Ytpfjlnfgekeobaa.Pure
