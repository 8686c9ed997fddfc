/- The law FnExactCompareRows holds at every input; no conditions. -/
import Derived.Test.YtngblojmiicclaaQFnExactCompareRowsx4
import Derived.Test.YtngblojmiicclaaBase
import Derived.OpenShut
namespace Go.Proofs.Ytngblojmiicclaa.Pure
open Go.RowKit Go.Proofs.Ytngblojmiicclaa.QFnExactCompareRows Go.Proofs.YtngblojmiicclaaW.PrintWords Go.Proofs.YtngblojmiicclaaW.PrintLast Go.Proofs.Ytngblojmiicclaa.Base
set_option linter.unusedSimpArgs false
set_option linter.unusedVariables false

def wf37 (x : S37) : Prop := (Lit.int .i64 x.f0).wf = true ∧ (Lit.int .i64 x.f1).wf = true ∧ x.f2.size ≤ 9223372036854775807
def laws_FnExactCompareRows.Pure : Prop := ∀ (l0 : List (S37)) (l1 : List (S37)), (l0.length ≤ 9223372036854775807 ∧ ∀ y ∈ l0, wf37 y) → (l1.length ≤ 9223372036854775807 ∧ ∀ y ∈ l1, wf37 y) → ∃ k, laws_FnExactCompareRows.f k l0 l1 = some true

/-! ### good values -/
def goodVal (x0 x1 : Int) (x2 : ByteArray) : Bool :=
  if x0 = 1 then (if x1 = 0 then decide (x2.size = 0) else false)
  else if x0 = 2 then (if 0 ≤ x1 ∧ x1 ≤ 1 then decide (x2.size = 0) else false)
  else if x0 = 3 then (if -1000000000 ≤ x1 ∧ x1 ≤ 1000000000 then decide (x2.size = 0) else false)
  else if x0 = 4 then (if x1 = 0 then decide (x2.size ≤ 12) else false)
  else false
theorem beq_nil_size (s : ByteArray) : (s.toList == ([] : List UInt8)) = decide (s.size = 0) := by
  by_cases h : s.size = 0
  · rw [(toList_nil s).2 h, decide_eq_true h]; rfl
  · rw [decide_eq_false h]
    cases hc : s.toList with
    | nil => exact absurd ((toList_nil s).1 hc) h
    | cons a l => rfl
theorem size_le_cast (s : ByteArray) (n : Nat) : decide ((s.size : Int) ≤ (n : Int)) = decide (s.size ≤ n) := by
  by_cases h : s.size ≤ n
  · rw [decide_eq_true h, decide_eq_true (by omega)]
  · rw [decide_eq_false h, decide_eq_false (by omega)]
theorem spec_GoodValue_eq (x0 x1 : Int) (x2 : ByteArray) : spec_GoodValue.f x0 x1 x2 = some (goodVal x0 x1 x2) := by
  unfold spec_GoodValue.f goodVal spec_l1In.f
  have h12 : decide ((x2.size : Int) ≤ 12) = decide (x2.size ≤ 12) := size_le_cast x2 12
  simp only [beq_nil_size, h12]
  generalize decide (x2.size = 0) = z
  generalize decide (x2.size ≤ 12) = y
  by_cases h1 : x0 = 1
  · by_cases h2 : x1 = 0 <;> simp [h1, h2]
  by_cases h2 : x0 = 2
  · by_cases h3 : 0 ≤ x1 <;> by_cases h4 : x1 ≤ 1 <;> simp [h2, h3, h4]
  by_cases h3 : x0 = 3
  · by_cases h4 : -1000000000 ≤ x1 <;> by_cases h5 : x1 ≤ 1000000000 <;> simp [h3, h4, h5]
  by_cases h4 : x0 = 4
  · by_cases h5 : x1 = 0 <;> simp [h4, h5]
  simp [h1, h2, h3, h4]
theorem impl_GoodValue_eq (x0 x1 : Int) (x2 : ByteArray) : impl_GoodValue.f x0 x1 x2 = some (goodVal x0 x1 x2) := by
  unfold impl_GoodValue.f goodVal impl_within.f
  have h12 : decide ((x2.size : Int) ≤ 12) = decide (x2.size ≤ 12) := size_le_cast x2 12
  simp only [beq_nil_size, h12]
  generalize decide (x2.size = 0) = z
  generalize decide (x2.size ≤ 12) = y
  by_cases h1 : x0 = 1
  · by_cases h2 : x1 = 0 <;> simp [h1, h2]
  by_cases h2 : x0 = 2
  · by_cases h3 : 0 ≤ x1 <;> by_cases h4 : x1 ≤ 1 <;> simp [h2, h3, h4]
  by_cases h3 : x0 = 3
  · by_cases h4 : -1000000000 ≤ x1 <;> by_cases h5 : x1 ≤ 1000000000 <;> simp [h3, h4, h5]
  by_cases h4 : x0 = 4
  · by_cases h5 : x1 = 0 <;> simp [h4, h5]
  simp [h1, h2, h3, h4]

/-! ### comparing -/
def cmpI (a b : Int) : Int := if a < b then -1 else if a > b then 1 else 0
def cmpT (a b : ByteArray) : Int := if Op.bytesLess a.toList b.toList = true then -1 else if Op.bytesLess b.toList a.toList = true then 1 else 0
theorem cmpBytes_eq : ∀ x y : List UInt8, Lib.compareBytes x y = if Op.bytesLess x y = true then -1 else if Op.bytesLess y x = true then 1 else 0
  | [], [] => rfl
  | [], b :: y => rfl
  | a :: x, [] => rfl
  | a :: x, b :: y => by
    have ih := cmpBytes_eq x y
    by_cases h1 : a < b
    · have h3 : ¬ b < a := UInt8.lt_asymm h1
      simp [Lib.compareBytes, Op.bytesLess, h1, h3]
    · by_cases h2 : b < a
      · have h3 : b ≠ a := UInt8.ne_of_lt h2
        simp [Lib.compareBytes, Op.bytesLess, h1, h2, Ne.symm h3]
      · have h3 : a = b := UInt8.le_antisymm (UInt8.not_lt.1 h2) (UInt8.not_lt.1 h1)
        subst h3
        simp [Lib.compareBytes, Op.bytesLess, ih]
theorem cmpB_eq (a b : ByteArray) : Go.Proofs.Ytngblojmiicclaa.Ext.cmpB a b = cmpT a b := by
  unfold Go.Proofs.Ytngblojmiicclaa.Ext.cmpB cmpT
  rw [cmpBytes_eq, toList_data, toList_data]
theorem strings_Compare_eq (a b : ByteArray) : strings_Compare.f a b = some (cmpT a b) := by
  unfold strings_Compare.f bytealg_CompareString.f
  rw [Option.bind_some, cmpB_eq]
theorem cmp_Compare_eq (a b : Int) : cmp_Compare_int.f a b = some (cmpI a b) := by
  unfold cmp_Compare_int.f cmp_isNaN_int.f cmpI
  by_cases h1 : a < b
  · simp [h1]
  · by_cases h2 : b < a <;> simp [h1, h2]
/-- The first one that is not 0. -/
def orL : List Int → Int
  | [] => 0
  | x :: l => if x = 0 then orL l else x
theorem cmp_Or_loop (l : List Int) (hl : l.length ≤ 1000) : ∀ (rest : List Int) (i : Nat), l.drop i = rest → Ev (fun k => cmp_Or_int.l0 k 0 l l.length i) (orL rest)
  | [], i, hd => by
    have h := drop_nil hd
    exact Ev.step (fun k => cmp_Or_int.l0.eq_2 ..) (ev_if_neg (by omega) (ev_some rfl))
  | x :: rest, i, hd => by
    obtain ⟨hi, hd', hx⟩ := drop_cons hd
    have hx : rd l i = x := hx 0
    refine Ev.step (fun k => cmp_Or_int.l0.eq_2 ..) (ev_if_pos (by omega) (ev_if_pos (by omega) (ev_if_pos (by omega) ?_)))
    rw [hx, wrap_succ (by omega)]
    unfold orL
    exact ev_ite (fun _ => cmp_Or_loop l hl rest (i + 1) hd') (fun _ => ev_some rfl)
theorem cmp_Or_ev (l : List Int) (hl : l.length ≤ 1000) : Ev (fun k => cmp_Or_int.f k l) (orL l) := cmp_Or_loop l hl l 0 rfl
theorem cmpI_zero (a b : Int) : cmpI a b = 0 ↔ a = b := by
  unfold cmpI
  by_cases h1 : a < b
  · simp [h1]; omega
  · by_cases h2 : b < a
    · simp [h1, h2]; omega
    · simp [h1, h2]; omega

def cmpV (a0 a1 : Int) (a2 : ByteArray) (b0 b1 : Int) (b2 : ByteArray) : Int := orL [cmpI a0 b0, cmpI a1 b1, cmpT a2 b2]
theorem spec_l4Sign_eq (a b : Int) : spec_l4Sign.f a b = some (cmpI a b) := by
  unfold spec_l4Sign.f cmpI
  by_cases h1 : a < b
  · simp [h1]
  · by_cases h2 : b < a <;> simp [h1, h2]
theorem spec_l4Compare_eq (a0 a1 : Int) (a2 : ByteArray) (b0 b1 : Int) (b2 : ByteArray) : spec_l4Compare.f a0 a1 a2 b0 b1 b2 = some (cmpV a0 a1 a2 b0 b1 b2) := by
  unfold spec_l4Compare.f cmpV
  simp only [spec_l4Sign_eq, Option.bind_some, orL]
  by_cases h1 : a0 = b0
  · have e1 := (cmpI_zero a0 b0).2 h1
    by_cases h2 : a1 = b1
    · have e2 := (cmpI_zero a1 b1).2 h2
      simp only [h1, h2, (cmpI_zero b0 b0).2 rfl, (cmpI_zero b1 b1).2 rfl, if_true]
      unfold cmpT
      by_cases h3 : Op.bytesLess a2.toList b2.toList = true
      · simp [h3]
      · by_cases h4 : Op.bytesLess b2.toList a2.toList = true <;> simp [h3, h4]
    · have e2 : ¬ cmpI a1 b1 = 0 := fun h => h2 ((cmpI_zero a1 b1).1 h)
      simp [h1, h2, e2, (cmpI_zero b0 b0).2 rfl]
  · have e1 : ¬ cmpI a0 b0 = 0 := fun h => h1 ((cmpI_zero a0 b0).1 h)
    simp [h1, e1]
theorem impl_compareVal_ev (a0 a1 : Int) (a2 : ByteArray) (b0 b1 : Int) (b2 : ByteArray) : Ev (fun k => impl_Value_compare.f k a0 a1 a2 b0 b1 b2) (cmpV a0 a1 a2 b0 b1 b2) := by
  unfold impl_Value_compare.f
  simp only [cmp_Compare_eq, strings_Compare_eq, Option.bind_some]
  exact ev_bind (cmp_Or_ev _ (by simp)) (ev_some rfl)

/-! ### Value: sizes -/
theorem szValue_ev (x : S37) (left : Int) (h0 : 0 ≤ left) (h1 : left ≤ 1048576) (hw : x.f2.size ≤ 9223372036854775807) : ∃ r, laws_szValue.f x.f0 x.f1 x.f2 left = some r ∧ r ≤ 1048576 ∧ (0 ≤ r → x.f2.size ≤ 1048576) := by
  unfold laws_szValue.f
  have e : wrap64 (left - (x.f2.size : Int)) = left - x.f2.size := wrap_id (by omega) (by omega)
  rw [e]
  by_cases h : left - (x.f2.size : Int) < 0
  · exact ⟨-1, by rw [if_pos h], by omega, fun h => by omega⟩
  · exact ⟨_, by rw [if_neg h], by omega, fun _ => by omega⟩
theorem szValueS_loop (l : List (S37)) (hl : l.length ≤ 1048576) (hw : ∀ x ∈ l, x.f2.size ≤ 9223372036854775807) : ∀ (rest : List (S37)) (i : Nat) (left : Int), l.drop i = rest → 0 ≤ left → left ≤ 1048576 →
    ∃ r, Ev (fun k => laws_szValueS.l0 k l left i) r ∧ r ≤ 1048576 ∧ (0 ≤ r → ∀ x ∈ rest, x.f2.size ≤ 1048576)
  | [], i, left, hd, h0, h1 => by
    have h := drop_nil hd
    exact ⟨left, Ev.step (fun k => laws_szValueS.l0.eq_2 ..) (ev_if_neg (by omega) (ev_some rfl)), h1, fun _ s hs => by simp at hs⟩
  | s :: rest, i, left, hd, h0, h1 => by
    obtain ⟨hi, hd', hx⟩ := drop_cons hd
    have hx : rd_T37 l i = s := hx _
    have hs : s ∈ l := List.mem_of_mem_drop (by rw [hd]; exact List.mem_cons_self)
    obtain ⟨q, hq, hq1, hq2⟩ := szValue_ev s left h0 h1 (hw s hs)
    by_cases hn : q < 0
    · refine ⟨-1, Ev.step (fun k => laws_szValueS.l0.eq_2 ..) (ev_if_pos (by omega) (ev_if_pos (by omega) ?_)), by omega, fun h => by omega⟩
      simp only [hx, hq, Option.bind_some]
      exact ev_if_pos hn (ev_some rfl)
    · obtain ⟨r, hr, hb, hall⟩ := szValueS_loop l hl hw rest (i + 1) q hd' (by omega) hq1
      refine ⟨r, Ev.step (fun k => laws_szValueS.l0.eq_2 ..) (ev_if_pos (by omega) (ev_if_pos (by omega) ?_)), hb, fun h t ht => ?_⟩
      · simp only [hx, hq, Option.bind_some]
        rw [wrap_succ (by omega)]
        exact ev_if_neg hn hr
      · rcases List.mem_cons.1 ht with rfl | ht
        · exact hq2 (by omega)
        · exact hall h t ht
theorem szValueS_ev (l : List (S37)) (left : Int) (h0 : 0 ≤ left) (h1 : left ≤ 1048576) (hl : l.length ≤ 9223372036854775807) (hw : ∀ x ∈ l, x.f2.size ≤ 9223372036854775807) :
    ∃ r, Ev (fun k => laws_szValueS.f k l left) r ∧ r ≤ 1048576 ∧ (0 ≤ r → l.length ≤ 1048576 ∧ ∀ x ∈ l, x.f2.size ≤ 1048576) := by
  unfold laws_szValueS.f
  have e : wrap64 (left - (l.length : Int)) = left - l.length := wrap_id (by omega) (by omega)
  simp only [e]
  by_cases hn : left - (l.length : Int) < 0
  · exact ⟨-1, ev_if_pos hn (ev_some rfl), by omega, fun h => by omega⟩
  · obtain ⟨r, hr, hb, hall⟩ := szValueS_loop l (by omega) hw l 0 (left - l.length) rfl (by omega) (by omega)
    exact ⟨r, ev_if_neg hn hr, hb, fun h => ⟨by omega, hall h⟩⟩

/-! ### Value: copied -/
def toValue (x : S37) : S41 := ⟨x.f0, x.f1, x.f2⟩
theorem toValue_eq (x : S37) : laws_toValue.f x.f0 x.f1 x.f2 = some ((toValue x).f0, (toValue x).f1, (toValue x).f2) := rfl
theorem toValueS_loop (l : List (S37)) (hl : l.length ≤ 1048576) : ∀ (rest : List (S37)) (pre : List (S41)) (i : Nat), l.drop i = rest → pre.length = i →
    Ev (fun k => laws_toValueS.l0 k l (pre ++ List.replicate rest.length z41) i) (pre ++ rest.map toValue)
  | [], pre, i, hd, hp => by
    have h := drop_nil hd
    exact Ev.step (fun k => laws_toValueS.l0.eq_2 ..) (ev_if_neg (by omega) (ev_some rfl))
  | s :: rest, pre, i, hd, hp => by
    obtain ⟨hi, hd', hx⟩ := drop_cons hd
    have hx : rd_T37 l i = s := hx _
    refine Ev.step (fun k => laws_toValueS.l0.eq_2 ..) (ev_if_pos (by omega) (ev_if_pos (by omega) ?_))
    simp only [hx, toValue_eq, Option.bind_some]
    refine ev_if_pos (by rw [List.length_append, List.length_replicate, List.length_cons]; omega) ?_
    rw [wrap_succ (by omega), Int.toNat_natCast, List.length_cons, List.replicate_succ]
    subst hp
    rw [set_at]
    have := toValueS_loop l hl rest (pre ++ [toValue s]) (pre.length + 1) hd' (by simp)
    simpa using this
theorem toValueS_ev (l : List (S37)) (hl : l.length ≤ 1048576) : Ev (fun k => laws_toValueS.f k l) (l.map toValue) := by
  unfold laws_toValueS.f
  refine ev_if_pos (by omega) (ev_if_pos (by omega) ?_)
  rw [Int.toNat_natCast]
  exact toValueS_loop l hl l [] 0 rfl rfl

/-! ### Value: alike -/
theorem eqValue_eq (x : S41) : laws_eqValue.f x.f0 x.f1 x.f2 x.f0 x.f1 x.f2 = some true := by
  unfold laws_eqValue.f
  simp
theorem eqValueS_loop (l : List (S41)) (hl : l.length ≤ 1152921504606846976) : ∀ (rest : List (S41)) (i : Nat), l.drop i = rest → Ev (fun k => laws_eqValueS.l0 k l l i) true
  | [], i, hd => by
    have h := drop_nil hd
    exact Ev.step (fun k => laws_eqValueS.l0.eq_2 ..) (ev_if_neg (by omega) (ev_some rfl))
  | s :: rest, i, hd => by
    obtain ⟨hi, hd', hx⟩ := drop_cons hd
    have hx : rd_T41 l i = s := hx _
    refine Ev.step (fun k => laws_eqValueS.l0.eq_2 ..) (ev_if_pos (by omega) (ev_if_pos (by omega) (ev_if_pos (by omega) ?_)))
    simp only [hx, eqValue_eq, Option.bind_some]
    rw [wrap_succ (by omega)]
    exact ev_if_pos (by simp) (eqValueS_loop l hl rest (i + 1) hd')
theorem eqValueS_ev (l : List (S41)) (hl : l.length ≤ 1152921504606846976) : Ev (fun k => laws_eqValueS.f k l l) true := by
  unfold laws_eqValueS.f
  exact ev_if_pos rfl (eqValueS_loop l hl l 0 rfl)

/-! ### slices.ContainsFunc with impl_Value__impl_isRow_1 -/
theorem cfIsRow_loop (l : List (S41)) (hl : l.length ≤ 1152921504606846976) (P : (S41) → Bool) (hP : ∀ x ∈ l, impl_isRow_1.f x.f0 x.f1 x.f2 = some (P x)) : ∀ (rest : List (S41)) (i : Nat), l.drop i = rest →
    ∃ r : Int, Ev (fun k => slices_IndexFunc_impl_Value__impl_isRow_1.l0 k l l.length i) r ∧ decide (r ≥ 0) = rest.any P
  | [], i, hd => by
    have h := drop_nil hd
    exact ⟨-1, Ev.step (fun k => slices_IndexFunc_impl_Value__impl_isRow_1.l0.eq_2 ..) (ev_if_neg (by omega) (ev_some rfl)), rfl⟩
  | s :: rest, i, hd => by
    obtain ⟨hi, hd', hx⟩ := drop_cons hd
    have hx : rd_T41 l i = s := hx _
    have hs : s ∈ l := List.mem_of_mem_drop (by rw [hd]; exact List.mem_cons_self)
    cases hb : P s with
    | true =>
      refine ⟨i, Ev.step (fun k => slices_IndexFunc_impl_Value__impl_isRow_1.l0.eq_2 ..) (ev_if_pos (by omega) (ev_if_pos (by omega) (ev_if_pos (by omega) ?_))), by simp [hb]⟩
      simp only [hx, hP s hs, Option.bind_some]
      exact ev_true hb (ev_some rfl)
    | false =>
      obtain ⟨r, hr, he⟩ := cfIsRow_loop l hl P hP rest (i + 1) hd'
      refine ⟨r, Ev.step (fun k => slices_IndexFunc_impl_Value__impl_isRow_1.l0.eq_2 ..) (ev_if_pos (by omega) (ev_if_pos (by omega) (ev_if_pos (by omega) ?_))), by simp [hb, he]⟩
      simp only [hx, hP s hs, Option.bind_some]
      rw [wrap_succ (by omega)]
      exact ev_false hb hr
theorem cfIsRow_ev (l : List (S41)) (hl : l.length ≤ 1152921504606846976) (P : (S41) → Bool) (hP : ∀ x ∈ l, impl_isRow_1.f x.f0 x.f1 x.f2 = some (P x)) : Ev (fun k => slices_ContainsFunc_impl_Value__impl_isRow_1.f k l) (l.any P) := by
  unfold slices_ContainsFunc_impl_Value__impl_isRow_1.f slices_IndexFunc_impl_Value__impl_isRow_1.f
  obtain ⟨r, hr, he⟩ := cfIsRow_loop l hl P hP l 0 rfl
  exact ev_bind hr (ev_some he)

/-! ### rows -/
def goodVs (l : List (S41)) : Bool := l.all (fun x => goodVal x.f0 x.f1 x.f2)
def goodRowB (l : List (S41)) : Bool := goodVs l && decide (l.length ≤ 6)
def cmpRow : List (S41) → List (S41) → Int
  | [], [] => 0
  | [], _ :: _ => -1
  | _ :: _, [] => 1
  | a :: l, b :: m => if cmpV a.f0 a.f1 a.f2 b.f0 b.f1 b.f2 = 0 then cmpRow l m else cmpV a.f0 a.f1 a.f2 b.f0 b.f1 b.f2
theorem spec_l4Row_loop (l : List (S41)) (hl : l.length ≤ 1048576) : ∀ (rest pre : List (S41)), l = pre ++ rest → goodVs pre = true →
    Ev (fun k => spec_l4Row.l0 k l l l.length pre.length) (goodRowB l)
  | [], pre, hd, ha => by
    have e : pre = l := by rw [hd]; simp
    subst e
    refine Ev.step (fun k => spec_l4Row.l0.eq_2 ..) (ev_if_neg (by omega) (ev_some ?_))
    have h6 : ((pre.length : Int) ≤ 6) = (pre.length ≤ 6) := by apply propext; omega
    simp [goodRowB, ha, h6]
  | s :: rest, pre, hd, ha => by
    obtain ⟨hi, hx⟩ := mid_at hd
    have hx : rd_T41 l pre.length = s := hx _
    refine Ev.step (fun k => spec_l4Row.l0.eq_2 ..) (ev_if_pos (by omega) (ev_if_pos (by omega) (ev_if_pos (by omega) ?_)))
    simp only [hx, spec_GoodValue_eq, Option.bind_some]
    cases hg : goodVal s.f0 s.f1 s.f2 with
    | true =>
      refine ev_if_pos rfl ?_
      rw [wrap_succ (by omega)]
      have ih := spec_l4Row_loop l hl rest (pre ++ [s]) (by rw [hd]; simp) (by unfold goodVs at ha ⊢; rw [List.all_append, ha]; simp [hg])
      rwa [List.length_append, List.length_singleton] at ih
    | false =>
      refine ev_if_neg (by simp) (ev_some ?_)
      have : goodVs l = false := by
        cases hc : goodVs l with
        | false => rfl
        | true => unfold goodVs at hc; rw [List.all_eq_true] at hc; have := hc s (by rw [hd]; simp); rw [hg] at this; cases this
      simp [goodRowB, this]
theorem spec_l4Row_ev (l : List (S41)) (hl : l.length ≤ 1048576) : Ev (fun k => spec_l4Row.f k l) (goodRowB l) := spec_l4Row_loop l hl l [] rfl rfl
theorem impl_isRow_ev (l : List (S41)) (hl : l.length ≤ 1048576) : Ev (fun k => impl_isRow.f k l) (goodRowB l) := by
  unfold impl_isRow.f goodRowB
  have hc := cfIsRow_ev l (by omega) (fun x => !goodVal x.f0 x.f1 x.f2) (fun x _ => by unfold impl_isRow_1.f; rw [impl_GoodValue_eq]; rfl)
  have hall : (!l.any fun x => !goodVal x.f0 x.f1 x.f2) = goodVs l := by
    rw [List.not_any_eq_all_not]; unfold goodVs; congr 1; funext x; simp
  by_cases h : l.length ≤ 6
  · exact ev_if_pos (by omega) (ev_bind hc (ev_some (by rw [hall]; simp [h])))
  · exact ev_if_neg (by omega) (ev_some (by simp [h]))
theorem drop_len {α : Type} {l : List α} {i : Nat} {rest : List α} (h : l.drop i = rest) (hi : i ≤ l.length) : l.length = i + rest.length := by
  rw [← h, List.length_drop]; omega
theorem spec_cmpRows_loop (l m : List (S41)) (hl : l.length ≤ 1048576) (hm : m.length ≤ 1048576) : ∀ (r1 r2 : List (S41)) (i : Nat), l.drop i = r1 → m.drop i = r2 → i ≤ l.length → i ≤ m.length →
    Ev (fun k => spec_CompareRows.l0 k l m l l.length i) (cmpRow r1 r2, true)
  | [], r2, i, h1, h2, i1, i2 => by
    have e1 := drop_len h1 i1
    have e2 := drop_len h2 i2
    refine Ev.step (fun k => spec_CompareRows.l0.eq_2 ..) (ev_if_neg (by simp at e1; omega) ?_)
    simp only [spec_l4Sign_eq, Option.bind_some]
    refine ev_some ?_
    cases r2 with
    | nil => simp at e1 e2; simp [cmpRow, cmpI, e1, e2]
    | cons b r2 =>
      simp at e1 e2
      have h : (l.length : Int) < m.length := by omega
      simp [cmpRow, cmpI, h]
  | a :: r1, [], i, h1, h2, i1, i2 => by
    have e1 := drop_len h1 i1
    have e2 := drop_len h2 i2
    simp only [List.length_cons, List.length_nil] at e1 e2
    refine Ev.step (fun k => spec_CompareRows.l0.eq_2 ..) (ev_if_pos (by omega) (ev_if_pos (by omega) (ev_if_pos (by omega) (ev_if_pos (by omega) (ev_some rfl)))))
  | a :: r1, b :: r2, i, h1, h2, i1, i2 => by
    obtain ⟨hi, hd1, hx⟩ := drop_cons h1
    obtain ⟨hj, hd2, hy⟩ := drop_cons h2
    have hx : rd_T41 l i = a := hx _
    have hy : rd_T41 m i = b := hy _
    refine Ev.step (fun k => spec_CompareRows.l0.eq_2 ..) (ev_if_pos (by omega) (ev_if_pos (by omega) (ev_if_pos (by omega) (ev_if_neg (by omega) (ev_if_pos (by omega) ?_)))))
    simp only [hx, hy, spec_l4Compare_eq, Option.bind_some]
    rw [wrap_succ (by omega)]
    refine ev_eq (ev_ite (fun _ => spec_cmpRows_loop l m hl hm r1 r2 (i + 1) hd1 hd2 hi hj) (fun _ => ev_some rfl)) ?_
    simp only [cmpRow]
    split <;> rfl
theorem impl_cmpRows_loop (l m : List (S41)) (hl : l.length ≤ 1048576) (hm : m.length ≤ 1048576) : ∀ (r1 r2 : List (S41)) (i : Nat), l.drop i = r1 → m.drop i = r2 → i ≤ l.length → i ≤ m.length →
    Ev (fun k => slices_CompareFunc_impl_Value__impl_Value_compare.l0 k l m l l.length i) (cmpRow r1 r2)
  | [], r2, i, h1, h2, i1, i2 => by
    have e1 := drop_len h1 i1
    have e2 := drop_len h2 i2
    refine Ev.step (fun k => slices_CompareFunc_impl_Value__impl_Value_compare.l0.eq_2 ..) (ev_if_neg (by simp at e1; omega) (ev_fun fun _ => ?_))
    cases r2 with
    | nil => simp at e1 e2; simp [cmpRow, e1, e2]
    | cons b r2 =>
      simp at e1 e2
      have h : (l.length : Int) < m.length := by omega
      simp [cmpRow, h]
  | a :: r1, [], i, h1, h2, i1, i2 => by
    have e1 := drop_len h1 i1
    have e2 := drop_len h2 i2
    simp only [List.length_cons, List.length_nil] at e1 e2
    refine Ev.step (fun k => slices_CompareFunc_impl_Value__impl_Value_compare.l0.eq_2 ..) (ev_if_pos (by omega) (ev_if_pos (by omega) (ev_if_pos (by omega) (ev_if_pos (by omega) (ev_some rfl)))))
  | a :: r1, b :: r2, i, h1, h2, i1, i2 => by
    obtain ⟨hi, hd1, hx⟩ := drop_cons h1
    obtain ⟨hj, hd2, hy⟩ := drop_cons h2
    have hx : rd_T41 l i = a := hx _
    have hy : rd_T41 m i = b := hy _
    refine Ev.step (fun k => slices_CompareFunc_impl_Value__impl_Value_compare.l0.eq_2 ..) (ev_if_pos (by omega) (ev_if_pos (by omega) (ev_if_pos (by omega) (ev_if_neg (by omega) (ev_if_pos (by omega) ?_)))))
    rw [hx, hy]
    refine ev_bind (impl_compareVal_ev _ _ _ _ _ _) ?_
    rw [wrap_succ (by omega)]
    simp only [cmpRow]
    exact ev_ite (fun _ => impl_cmpRows_loop l m hl hm r1 r2 (i + 1) hd1 hd2 hi hj) (fun _ => ev_some rfl)

theorem FnExactCompareRows : laws_FnExactCompareRows.Pure := by
  intro l m wl wm
  refine Ev.rounds (g := fun k => laws_FnExactCompareRows.f k l m) ?_
  unfold laws_FnExactCompareRows.f
  obtain ⟨r, hr, hb, hall⟩ := szValueS_ev l 1048576 (by omega) (by omega) wl.1 (fun x hx => (wl.2 x hx).2.2)
  refine ev_bind hr ?_
  by_cases hn : r < 0
  · exact ev_if_pos hn (ev_some rfl)
  obtain ⟨h1, _⟩ := hall (by omega)
  refine ev_if_neg hn ?_
  obtain ⟨q, hq, _, hall2⟩ := szValueS_ev m r (by omega) hb wm.1 (fun x hx => (wm.2 x hx).2.2)
  refine ev_bind hq ?_
  by_cases hn2 : q < 0
  · exact ev_if_pos hn2 (ev_some rfl)
  obtain ⟨h2, _⟩ := hall2 (by omega)
  refine ev_if_neg hn2 ?_
  have t1 := toValueS_ev l h1
  have t2 := toValueS_ev m h2
  have l1 : (l.map toValue).length ≤ 1048576 := by simpa using h1
  have l2 : (m.map toValue).length ≤ 1048576 := by simpa using h2
  revert t1 t2 l1 l2
  generalize l.map toValue = L
  generalize m.map toValue = M
  intro t1 t2 l1 l2
  have key : ∃ r, Ev (fun k => spec_CompareRows.f k L M) r ∧ Ev (fun k => impl_CompareRows.f k L M) r := by
    unfold spec_CompareRows.f impl_CompareRows.f slices_CompareFunc_impl_Value__impl_Value_compare.f
    have a1 := spec_l4Row_ev L l1
    have a2 := spec_l4Row_ev M l2
    have b1 := impl_isRow_ev L l1
    have b2 := impl_isRow_ev M l2
    have fail : Ev (fun k => spec_CompareRows.j0 k L M true) (0, false) := Ev.step (fun k => spec_CompareRows.j0.eq_2 ..) (ev_if_pos rfl (ev_some rfl))
    cases g1 : goodRowB L with
    | false =>
      rw [g1] at a1 b1
      exact ⟨(0, false), ev_bind a1 (ev_if_neg (by simp) fail), ev_bind b1 (ev_if_neg (by simp) (ev_some rfl))⟩
    | true =>
      rw [g1] at a1 b1
      cases g2 : goodRowB M with
      | false =>
        rw [g2] at a2 b2
        exact ⟨(0, false), ev_bind a1 (ev_if_pos rfl (ev_bind a2 fail)), ev_bind b1 (ev_if_pos rfl (ev_bind b2 (ev_if_neg (by simp) (ev_some rfl))))⟩
      | true =>
        rw [g2] at a2 b2
        exact ⟨(cmpRow L M, true), ev_bind a1 (ev_if_pos rfl (ev_bind a2 (Ev.step (fun k => spec_CompareRows.j0.eq_2 ..) (ev_if_neg (by simp) (spec_cmpRows_loop L M l1 l2 L M 0 rfl rfl (by omega) (by omega)))))), ev_bind b1 (ev_if_pos rfl (ev_bind b2 (ev_if_pos rfl (ev_bind (impl_cmpRows_loop L M l1 l2 L M 0 rfl rfl (by omega) (by omega)) (ev_some rfl)))))⟩
  obtain ⟨_, k1, k2⟩ := key
  refine ev_bind t1 (ev_bind t2 (ev_bind k1 (ev_bind t1 (ev_bind t2 (ev_bind k2 (ev_if_pos rfl ?_))))))
  rw [bne_self_eq_false]
  exact Ev.step (fun k => laws_FnExactCompareRows.j0.eq_2 ..) (ev_if_neg (by simp) (ev_bind t1 (ev_bind (eqValueS_ev L (by omega)) (ev_if_pos rfl (ev_bind t2 (ev_bind (eqValueS_ev M (by omega)) (ev_if_pos rfl (ev_some rfl))))))))

end Go.Proofs.Ytngblojmiicclaa.Pure
