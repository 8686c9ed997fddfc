/- The law FnExactCompareValues holds at every input; no conditions. -/
import Derived.Test.YtngblojmiicclaaQFnExactCompareValuesx3
import Derived.Test.YtngblojmiicclaaBase
import Derived.OpenShut
namespace Go.Proofs.Ytngblojmiicclaa.Pure
open Go.RowKit Go.Proofs.Ytngblojmiicclaa.QFnExactCompareValues Go.Proofs.YtngblojmiicclaaW.PrintWords Go.Proofs.YtngblojmiicclaaW.PrintLast Go.Proofs.Ytngblojmiicclaa.Base
set_option linter.unusedSimpArgs false
set_option linter.unusedVariables false


def laws_FnExactCompareValues.Pure : Prop := ∀ (s0_0 : Int) (s0_1 : Int) (s0_2 : ByteArray) (s1_0 : Int) (s1_1 : Int) (s1_2 : ByteArray), (Lit.int .i64 s0_0).wf = true → (Lit.int .i64 s0_1).wf = true → s0_2.size ≤ 9223372036854775807 → (Lit.int .i64 s1_0).wf = true → (Lit.int .i64 s1_1).wf = true → s1_2.size ≤ 9223372036854775807 → ∃ k, laws_FnExactCompareValues.f k s0_0 s0_1 s0_2 s1_0 s1_1 s1_2 = some true

/-! ### good values -/
def goodVal (x0 x1 : Int) (x2 : ByteArray) : Bool :=
  if x0 = 1 then (if x1 = 0 then decide (x2.size = 0) else false)
  else if x0 = 2 then (if 0 ≤ x1 ∧ x1 ≤ 1 then decide (x2.size = 0) else false)
  else if x0 = 3 then (if -1000000000 ≤ x1 ∧ x1 ≤ 1000000000 then decide (x2.size = 0) else false)
  else if x0 = 4 then (if x1 = 0 then decide (x2.size ≤ 12) else false)
  else false
theorem beq_nil_size (s : ByteArray) : (s.toList == ([] : List UInt8)) = decide (s.size = 0) := by
  by_cases h : s.size = 0
  · rw [(toList_nil s).2 h, decide_eq_true h]; rfl
  · rw [decide_eq_false h]
    cases hc : s.toList with
    | nil => exact absurd ((toList_nil s).1 hc) h
    | cons a l => rfl
theorem size_le_cast (s : ByteArray) (n : Nat) : decide ((s.size : Int) ≤ (n : Int)) = decide (s.size ≤ n) := by
  by_cases h : s.size ≤ n
  · rw [decide_eq_true h, decide_eq_true (by omega)]
  · rw [decide_eq_false h, decide_eq_false (by omega)]
theorem spec_GoodValue_eq (x0 x1 : Int) (x2 : ByteArray) : spec_GoodValue.f x0 x1 x2 = some (goodVal x0 x1 x2) := by
  unfold spec_GoodValue.f goodVal spec_l1In.f
  have h12 : decide ((x2.size : Int) ≤ 12) = decide (x2.size ≤ 12) := size_le_cast x2 12
  simp only [beq_nil_size, h12]
  generalize decide (x2.size = 0) = z
  generalize decide (x2.size ≤ 12) = y
  by_cases h1 : x0 = 1
  · by_cases h2 : x1 = 0 <;> simp [h1, h2]
  by_cases h2 : x0 = 2
  · by_cases h3 : 0 ≤ x1 <;> by_cases h4 : x1 ≤ 1 <;> simp [h2, h3, h4]
  by_cases h3 : x0 = 3
  · by_cases h4 : -1000000000 ≤ x1 <;> by_cases h5 : x1 ≤ 1000000000 <;> simp [h3, h4, h5]
  by_cases h4 : x0 = 4
  · by_cases h5 : x1 = 0 <;> simp [h4, h5]
  simp [h1, h2, h3, h4]
theorem impl_GoodValue_eq (x0 x1 : Int) (x2 : ByteArray) : impl_GoodValue.f x0 x1 x2 = some (goodVal x0 x1 x2) := by
  unfold impl_GoodValue.f goodVal impl_within.f
  have h12 : decide ((x2.size : Int) ≤ 12) = decide (x2.size ≤ 12) := size_le_cast x2 12
  simp only [beq_nil_size, h12]
  generalize decide (x2.size = 0) = z
  generalize decide (x2.size ≤ 12) = y
  by_cases h1 : x0 = 1
  · by_cases h2 : x1 = 0 <;> simp [h1, h2]
  by_cases h2 : x0 = 2
  · by_cases h3 : 0 ≤ x1 <;> by_cases h4 : x1 ≤ 1 <;> simp [h2, h3, h4]
  by_cases h3 : x0 = 3
  · by_cases h4 : -1000000000 ≤ x1 <;> by_cases h5 : x1 ≤ 1000000000 <;> simp [h3, h4, h5]
  by_cases h4 : x0 = 4
  · by_cases h5 : x1 = 0 <;> simp [h4, h5]
  simp [h1, h2, h3, h4]

/-! ### comparing -/
def cmpI (a b : Int) : Int := if a < b then -1 else if a > b then 1 else 0
def cmpT (a b : ByteArray) : Int := if Op.bytesLess a.toList b.toList = true then -1 else if Op.bytesLess b.toList a.toList = true then 1 else 0
theorem cmpBytes_eq : ∀ x y : List UInt8, Lib.compareBytes x y = if Op.bytesLess x y = true then -1 else if Op.bytesLess y x = true then 1 else 0
  | [], [] => rfl
  | [], b :: y => rfl
  | a :: x, [] => rfl
  | a :: x, b :: y => by
    have ih := cmpBytes_eq x y
    by_cases h1 : a < b
    · have h3 : ¬ b < a := UInt8.lt_asymm h1
      simp [Lib.compareBytes, Op.bytesLess, h1, h3]
    · by_cases h2 : b < a
      · have h3 : b ≠ a := UInt8.ne_of_lt h2
        simp [Lib.compareBytes, Op.bytesLess, h1, h2, Ne.symm h3]
      · have h3 : a = b := UInt8.le_antisymm (UInt8.not_lt.1 h2) (UInt8.not_lt.1 h1)
        subst h3
        simp [Lib.compareBytes, Op.bytesLess, ih]
theorem cmpB_eq (a b : ByteArray) : Go.Proofs.Ytngblojmiicclaa.Ext.cmpB a b = cmpT a b := by
  unfold Go.Proofs.Ytngblojmiicclaa.Ext.cmpB cmpT
  rw [cmpBytes_eq, toList_data, toList_data]
theorem strings_Compare_eq (a b : ByteArray) : strings_Compare.f a b = some (cmpT a b) := by
  unfold strings_Compare.f bytealg_CompareString.f
  rw [Option.bind_some, cmpB_eq]
theorem cmp_Compare_eq (a b : Int) : cmp_Compare_int.f a b = some (cmpI a b) := by
  unfold cmp_Compare_int.f cmp_isNaN_int.f cmpI
  by_cases h1 : a < b
  · simp [h1]
  · by_cases h2 : b < a <;> simp [h1, h2]
/-- The first one that is not 0. -/
def orL : List Int → Int
  | [] => 0
  | x :: l => if x = 0 then orL l else x
theorem cmp_Or_loop (l : List Int) (hl : l.length ≤ 1000) : ∀ (rest : List Int) (i : Nat), l.drop i = rest → Ev (fun k => cmp_Or_int.l0 k 0 l l.length i) (orL rest)
  | [], i, hd => by
    have h := drop_nil hd
    exact Ev.step (fun k => cmp_Or_int.l0.eq_2 ..) (ev_if_neg (by omega) (ev_some rfl))
  | x :: rest, i, hd => by
    obtain ⟨hi, hd', hx⟩ := drop_cons hd
    have hx : rd l i = x := hx 0
    refine Ev.step (fun k => cmp_Or_int.l0.eq_2 ..) (ev_if_pos (by omega) (ev_if_pos (by omega) (ev_if_pos (by omega) ?_)))
    rw [hx, wrap_succ (by omega)]
    unfold orL
    exact ev_ite (fun _ => cmp_Or_loop l hl rest (i + 1) hd') (fun _ => ev_some rfl)
theorem cmp_Or_ev (l : List Int) (hl : l.length ≤ 1000) : Ev (fun k => cmp_Or_int.f k l) (orL l) := cmp_Or_loop l hl l 0 rfl
theorem cmpI_zero (a b : Int) : cmpI a b = 0 ↔ a = b := by
  unfold cmpI
  by_cases h1 : a < b
  · simp [h1]; omega
  · by_cases h2 : b < a
    · simp [h1, h2]; omega
    · simp [h1, h2]; omega

def cmpV (a0 a1 : Int) (a2 : ByteArray) (b0 b1 : Int) (b2 : ByteArray) : Int := orL [cmpI a0 b0, cmpI a1 b1, cmpT a2 b2]
theorem spec_l4Sign_eq (a b : Int) : spec_l4Sign.f a b = some (cmpI a b) := by
  unfold spec_l4Sign.f cmpI
  by_cases h1 : a < b
  · simp [h1]
  · by_cases h2 : b < a <;> simp [h1, h2]
theorem spec_l4Compare_eq (a0 a1 : Int) (a2 : ByteArray) (b0 b1 : Int) (b2 : ByteArray) : spec_l4Compare.f a0 a1 a2 b0 b1 b2 = some (cmpV a0 a1 a2 b0 b1 b2) := by
  unfold spec_l4Compare.f cmpV
  simp only [spec_l4Sign_eq, Option.bind_some, orL]
  by_cases h1 : a0 = b0
  · have e1 := (cmpI_zero a0 b0).2 h1
    by_cases h2 : a1 = b1
    · have e2 := (cmpI_zero a1 b1).2 h2
      simp only [h1, h2, (cmpI_zero b0 b0).2 rfl, (cmpI_zero b1 b1).2 rfl, if_true]
      unfold cmpT
      by_cases h3 : Op.bytesLess a2.toList b2.toList = true
      · simp [h3]
      · by_cases h4 : Op.bytesLess b2.toList a2.toList = true <;> simp [h3, h4]
    · have e2 : ¬ cmpI a1 b1 = 0 := fun h => h2 ((cmpI_zero a1 b1).1 h)
      simp [h1, h2, e2, (cmpI_zero b0 b0).2 rfl]
  · have e1 : ¬ cmpI a0 b0 = 0 := fun h => h1 ((cmpI_zero a0 b0).1 h)
    simp [h1, e1]
theorem impl_compareVal_ev (a0 a1 : Int) (a2 : ByteArray) (b0 b1 : Int) (b2 : ByteArray) : Ev (fun k => impl_Value_compare.f k a0 a1 a2 b0 b1 b2) (cmpV a0 a1 a2 b0 b1 b2) := by
  unfold impl_Value_compare.f
  simp only [cmp_Compare_eq, strings_Compare_eq, Option.bind_some]
  exact ev_bind (cmp_Or_ev _ (by simp)) (ev_some rfl)

theorem szValue_one (x0 x1 : Int) (x2 : ByteArray) (left : Int) (h0 : 0 ≤ left) (h1 : left ≤ 1048576) (hw : x2.size ≤ 9223372036854775807) : ∃ r, laws_szValue.f x0 x1 x2 left = some r ∧ r ≤ 1048576 := by
  unfold laws_szValue.f
  have e : wrap64 (left - (x2.size : Int)) = left - x2.size := wrap_id (by omega) (by omega)
  rw [e]
  by_cases h : left - (x2.size : Int) < 0
  · exact ⟨-1, by rw [if_pos h], by omega⟩
  · exact ⟨_, by rw [if_neg h], by omega⟩

theorem FnExactCompareValues : laws_FnExactCompareValues.Pure := by
  intro a0 a1 a2 b0 b1 b2 _ _ wa _ _ wb
  refine Ev.rounds (g := fun k => laws_FnExactCompareValues.f k a0 a1 a2 b0 b1 b2) ?_
  unfold laws_FnExactCompareValues.f laws_toValue.f spec_CompareValues.f impl_CompareValues.f
  obtain ⟨r, hr, hb⟩ := szValue_one a0 a1 a2 1048576 (by omega) (by omega) wa
  simp only [hr, Option.bind_some]
  by_cases hn : r < 0
  · exact ev_if_pos hn (ev_some rfl)
  refine ev_if_neg hn ?_
  obtain ⟨q, hq, _⟩ := szValue_one b0 b1 b2 r (by omega) hb wb
  simp only [hq, Option.bind_some]
  by_cases hm : q < 0
  · exact ev_if_pos hm (ev_some rfl)
  refine ev_if_neg hm ?_
  simp only [spec_GoodValue_eq, impl_GoodValue_eq, spec_l4Compare_eq, Option.bind_some]
  cases goodVal a0 a1 a2 with
  | false => exact ev_fun fun _ => by simp
  | true =>
    cases goodVal b0 b1 b2 with
    | false => exact ev_fun fun _ => by simp
    | true =>
      simp only [if_true, Option.bind_some]
      exact ev_bind (ev_bind (impl_compareVal_ev a0 a1 a2 b0 b1 b2) (ev_some rfl)) (ev_fun fun _ => by simp)

end Go.Proofs.Ytngblojmiicclaa.Pure
