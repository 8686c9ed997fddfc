/- The law FnExactGoodBlock holds at every input; no conditions. -/
import Derived.Test.YtgnpbbdejagbnaaQFnExactGoodBlockx2
import Derived.Test.YtgnpbbdejagbnaaBase
import Derived.OpenShut
namespace Go.Proofs.Ytgnpbbdejagbnaa.Pure
open Go.RowKit Go.Proofs.Ytgnpbbdejagbnaa.QFnExactGoodBlock Go.Proofs.YtgnpbbdejagbnaaW.PrintWords Go.Proofs.YtgnpbbdejagbnaaW.PrintLast Go.Proofs.Ytgnpbbdejagbnaa.Base
set_option linter.unusedSimpArgs false
set_option linter.unusedVariables false


def laws_FnExactGoodBlock.Pure : Prop := ∀ (s0_0 : ByteArray) (s0_1 : ByteArray) (s0_2 : List (ByteArray)), s0_0.size ≤ 9223372036854775807 → s0_1.size ≤ 9223372036854775807 → (s0_2.length ≤ 9223372036854775807 ∧ ∀ y ∈ s0_2, y.size ≤ 9223372036854775807) → ∃ k, laws_FnExactGoodBlock.f k s0_0 s0_1 s0_2 = some true

/-! ### good blocks -/
def goodB (p r : ByteArray) (l : List ByteArray) : Bool := l.all (fun s => decide (s.size ≤ 60)) && (decide (p.size = 4) && (decide (r.size = 4) && decide (l.length ≤ 6)))
theorem all_of_mem {α : Type} {P : α → Bool} {l : List α} {x : α} (hx : x ∈ l) (h : P x = false) : l.all P = false := by
  cases hc : l.all P with
  | false => rfl
  | true => rw [List.all_eq_true] at hc; rw [hc x hx] at h; cases h
theorem spec_GoodBlock_loop (p r : ByteArray) (l : List ByteArray) (hl : l.length ≤ 1048576) : ∀ (rest pre : List ByteArray), l = pre ++ rest → pre.all (fun s => decide (s.size ≤ 60)) = true →
    Ev (fun k => spec_GoodBlock.l0 k l l.length pre.length p r l) (goodB p r l)
  | [], pre, hd, ha => by
    have e : pre = l := by rw [hd]; simp
    subst e
    refine Ev.step (fun k => spec_GoodBlock.l0.eq_2 ..) (ev_if_neg (by omega) (ev_fun fun _ => ?_))
    unfold goodB
    rw [ha]
    have h6 : ((pre.length : Int) ≤ 6) = (pre.length ≤ 6) := by apply propext; omega
    by_cases h1 : p.size = 4
    · by_cases h2 : r.size = 4
      · have h1' : (p.size : Int) = 4 := by omega
        have h2' : (r.size : Int) = 4 := by omega
        simp [h1, h2, h1', h2', h6]
      · have h1' : (p.size : Int) = 4 := by omega
        have h2' : ¬ (r.size : Int) = 4 := by omega
        simp [h1, h2, h1', h2']
    · have h1' : ¬ (p.size : Int) = 4 := by omega
      simp [h1, h1']
  | s :: rest, pre, hd, ha => by
    obtain ⟨hi, hx⟩ := mid_at hd
    refine Ev.step (fun k => spec_GoodBlock.l0.eq_2 ..) (ev_if_pos (by omega) (ev_if_pos (by omega) (ev_if_pos (by omega) ?_)))
    rw [hx]
    by_cases hs : s.size ≤ 60
    · refine ev_if_neg (by omega) ?_
      rw [wrap_succ (by omega)]
      have ih := spec_GoodBlock_loop p r l hl rest (pre ++ [s]) (by rw [hd]; simp) (by simp [ha, hs])
      rwa [List.length_append, List.length_singleton] at ih
    · refine ev_if_pos (by omega) (ev_some ?_)
      have : l.all (fun s => decide (s.size ≤ 60)) = false := all_of_mem (x := s) (by rw [hd]; simp) (by simp [hs])
      simp [goodB, this]
theorem spec_GoodBlock_ev (p r : ByteArray) (l : List ByteArray) (hl : l.length ≤ 1048576) : Ev (fun k => spec_GoodBlock.f k p r l) (goodB p r l) := spec_GoodBlock_loop p r l hl l [] rfl rfl

/-! ### slices.ContainsFunc with string__impl_GoodBlock_1 -/
theorem cfGoodBlock_loop (l : List (ByteArray)) (hl : l.length ≤ 1152921504606846976) (P : (ByteArray) → Bool) (hP : ∀ x ∈ l, impl_GoodBlock_1.f x = some (P x)) : ∀ (rest : List (ByteArray)) (i : Nat), l.drop i = rest →
    ∃ r : Int, Ev (fun k => slices_IndexFunc_string__impl_GoodBlock_1.l0 k l l.length i) r ∧ decide (r ≥ 0) = rest.any P
  | [], i, hd => by
    have h := drop_nil hd
    exact ⟨-1, Ev.step (fun k => slices_IndexFunc_string__impl_GoodBlock_1.l0.eq_2 ..) (ev_if_neg (by omega) (ev_some rfl)), rfl⟩
  | s :: rest, i, hd => by
    obtain ⟨hi, hd', hx⟩ := drop_cons hd
    have hx : rdOf ByteArray.empty l i = s := hx _
    have hs : s ∈ l := List.mem_of_mem_drop (by rw [hd]; exact List.mem_cons_self)
    cases hb : P s with
    | true =>
      refine ⟨i, Ev.step (fun k => slices_IndexFunc_string__impl_GoodBlock_1.l0.eq_2 ..) (ev_if_pos (by omega) (ev_if_pos (by omega) (ev_if_pos (by omega) ?_))), by simp [hb]⟩
      simp only [hx, hP s hs, Option.bind_some]
      exact ev_true hb (ev_some rfl)
    | false =>
      obtain ⟨r, hr, he⟩ := cfGoodBlock_loop l hl P hP rest (i + 1) hd'
      refine ⟨r, Ev.step (fun k => slices_IndexFunc_string__impl_GoodBlock_1.l0.eq_2 ..) (ev_if_pos (by omega) (ev_if_pos (by omega) (ev_if_pos (by omega) ?_))), by simp [hb, he]⟩
      simp only [hx, hP s hs, Option.bind_some]
      rw [wrap_succ (by omega)]
      exact ev_false hb hr
theorem cfGoodBlock_ev (l : List (ByteArray)) (hl : l.length ≤ 1152921504606846976) (P : (ByteArray) → Bool) (hP : ∀ x ∈ l, impl_GoodBlock_1.f x = some (P x)) : Ev (fun k => slices_ContainsFunc_string__impl_GoodBlock_1.f k l) (l.any P) := by
  unfold slices_ContainsFunc_string__impl_GoodBlock_1.f slices_IndexFunc_string__impl_GoodBlock_1.f
  obtain ⟨r, hr, he⟩ := cfGoodBlock_loop l hl P hP l 0 rfl
  exact ev_bind hr (ev_some he)

theorem impl_GoodBlock_ev (p r : ByteArray) (l : List ByteArray) (hl : l.length ≤ 1048576) : Ev (fun k => impl_GoodBlock.f k p r l) (goodB p r l) := by
  unfold impl_GoodBlock.f impl_isDigest.f goodB
  have hc := cfGoodBlock_ev l (by omega) (fun s => decide ((s.size : Int) > 60)) (fun _ _ => rfl)
  have hall : (!l.any fun s => decide ((s.size : Int) > 60)) = l.all (fun s => decide (s.size ≤ 60)) := by
    rw [List.not_any_eq_all_not]
    congr 1
    funext s
    by_cases h : s.size ≤ 60
    · have : ¬ (s.size : Int) > 60 := by omega
      simp [h, this]
    · have : (s.size : Int) > 60 := by omega
      simp [h, this]
  by_cases h1 : p.size = 4
  · have h1' : ((p.size : Int) == 4) = true := by simp; omega
    by_cases h2 : r.size = 4
    · have h2' : ((r.size : Int) == 4) = true := by simp; omega
      simp only [h1', h2', Option.bind_some, if_true]
      by_cases h3 : l.length ≤ 6
      · refine ev_if_pos (by omega) (ev_bind hc (ev_some ?_))
        simp [h1, h2, h3, ← hall]
      · exact ev_if_neg (by omega) (ev_some (by simp [h3]))
    · have h2' : ((r.size : Int) == 4) = false := by simp; omega
      simp only [h1', h2', Option.bind_some, if_true]
      exact ev_fun fun _ => by simp [h2]
  · have h1' : ((p.size : Int) == 4) = false := by simp; omega
    simp only [h1', Option.bind_some]
    exact ev_fun fun _ => by simp [h1]

/-! ### lists of texts: their size, copied -/
theorem szStringS_loop (l : List ByteArray) (hl : l.length ≤ 1048576) (hw : ∀ s ∈ l, s.size ≤ 9223372036854775807) : ∀ (rest : List ByteArray) (i : Nat) (left : Int), l.drop i = rest → 0 ≤ left → left ≤ 1048576 →
    ∃ r, Ev (fun k => laws_szStringS.l0 k l left i) r ∧ r ≤ 1048576 ∧ (0 ≤ r → ∀ s ∈ rest, s.size ≤ 1048576)
  | [], i, left, hd, h0, h1 => by
    have h := drop_nil hd
    exact ⟨left, Ev.step (fun k => laws_szStringS.l0.eq_2 ..) (ev_if_neg (by omega) (ev_some rfl)), h1, fun _ s hs => by simp at hs⟩
  | s :: rest, i, left, hd, h0, h1 => by
    obtain ⟨hi, hd', hx⟩ := drop_cons hd
    have hs : s ∈ l := by
      have : s ∈ l.drop i := by rw [hd]; exact List.mem_cons_self
      exact List.mem_of_mem_drop this
    have hsz := hw s hs
    have e : wrap64 (left - (s.size : Int)) = left - s.size := wrap_id (by omega) (by omega)
    by_cases hn : left - (s.size : Int) < 0
    · refine ⟨-1, Ev.step (fun k => laws_szStringS.l0.eq_2 ..) (ev_if_pos (by omega) (ev_if_pos (by omega) ?_)), by omega, fun h => by omega⟩
      rw [hx, e]
      exact ev_if_pos hn (ev_some rfl)
    · obtain ⟨r, hr, hb, hall⟩ := szStringS_loop l hl hw rest (i + 1) (left - s.size) hd' (by omega) (by omega)
      refine ⟨r, Ev.step (fun k => laws_szStringS.l0.eq_2 ..) (ev_if_pos (by omega) (ev_if_pos (by omega) ?_)), hb, fun h t ht => ?_⟩
      · rw [hx, e, wrap_succ (by omega)]
        exact ev_if_neg hn hr
      · rcases List.mem_cons.1 ht with rfl | ht
        · omega
        · exact hall h t ht
theorem szStringS_ev (l : List ByteArray) (left : Int) (h0 : 0 ≤ left) (h1 : left ≤ 1048576) (hl : l.length ≤ 9223372036854775807) (hw : ∀ s ∈ l, s.size ≤ 9223372036854775807) :
    ∃ r, Ev (fun k => laws_szStringS.f k l left) r ∧ r ≤ 1048576 ∧ (0 ≤ r → l.length ≤ 1048576 ∧ ∀ s ∈ l, s.size ≤ 1048576) := by
  unfold laws_szStringS.f
  have e : wrap64 (left - (l.length : Int)) = left - l.length := wrap_id (by omega) (by omega)
  simp only [e]
  by_cases hn : left - (l.length : Int) < 0
  · exact ⟨-1, ev_if_pos hn (ev_some rfl), by omega, fun h => by omega⟩
  · obtain ⟨r, hr, hb, hall⟩ := szStringS_loop l (by omega) hw l 0 (left - l.length) rfl (by omega) (by omega)
    exact ⟨r, ev_if_neg hn hr, hb, fun h => ⟨by omega, hall h⟩⟩

theorem toStringS_loop (l : List ByteArray) (hl : l.length ≤ 1048576) : ∀ (rest pre : List ByteArray) (i : Nat), l.drop i = rest → pre.length = i →
    Ev (fun k => laws_toStringS.l0 k l (pre ++ List.replicate rest.length (⟨#[]⟩ : ByteArray)) i) (pre ++ rest)
  | [], pre, i, hd, hp => by
    have h := drop_nil hd
    exact Ev.step (fun k => laws_toStringS.l0.eq_2 ..) (ev_if_neg (by omega) (ev_some rfl))
  | s :: rest, pre, i, hd, hp => by
    obtain ⟨hi, hd', hx⟩ := drop_cons hd
    refine Ev.step (fun k => laws_toStringS.l0.eq_2 ..) (ev_if_pos (by omega) (ev_if_pos (by omega) (ev_if_pos (by simp; omega) ?_)))
    rw [wrap_succ (by omega), hx, Int.toNat_natCast, List.length_cons, List.replicate_succ]
    subst hp
    rw [set_at]
    have := toStringS_loop l hl rest (pre ++ [s]) (pre.length + 1) hd' (by simp)
    simpa using this
theorem toStringS_ev (l : List ByteArray) (hl : l.length ≤ 1048576) : Ev (fun k => laws_toStringS.f k l) l := by
  unfold laws_toStringS.f
  refine ev_if_pos (by omega) (ev_if_pos (by omega) ?_)
  rw [Int.toNat_natCast]
  exact toStringS_loop l hl l [] 0 rfl rfl

/-! ### lists of texts: alike -/
theorem eqStringS_loop (l : List ByteArray) (hl : l.length ≤ 1152921504606846976) : ∀ (rest : List ByteArray) (i : Nat), l.drop i = rest → Ev (fun k => laws_eqStringS.l0 k l l i) true
  | [], i, hd => by
    have h := drop_nil hd
    exact Ev.step (fun k => laws_eqStringS.l0.eq_2 ..) (ev_if_neg (by omega) (ev_some rfl))
  | s :: rest, i, hd => by
    obtain ⟨hi, hd', hx⟩ := drop_cons hd
    refine Ev.step (fun k => laws_eqStringS.l0.eq_2 ..) (ev_if_pos (by omega) (ev_if_pos (by omega) (ev_if_pos (by omega) (ev_if_pos rfl ?_))))
    rw [wrap_succ (by omega)]
    exact eqStringS_loop l hl rest (i + 1) hd'
theorem eqStringS_ev (l : List ByteArray) (hl : l.length ≤ 1152921504606846976) : Ev (fun k => laws_eqStringS.f k l l) true := by
  unfold laws_eqStringS.f
  exact ev_if_pos rfl (eqStringS_loop l hl l 0 rfl)

theorem szBlock_ev (p r : ByteArray) (l : List ByteArray) (hp : p.size ≤ 9223372036854775807) (hr : r.size ≤ 9223372036854775807) (hl : l.length ≤ 9223372036854775807) (hw : ∀ s ∈ l, s.size ≤ 9223372036854775807) :
    ∃ q, Ev (fun k => laws_szBlock.f k p r l 1048576) q ∧ (0 ≤ q → p.size ≤ 1048576 ∧ r.size ≤ 1048576 ∧ l.length ≤ 1048576 ∧ ∀ s ∈ l, s.size ≤ 1048576) := by
  unfold laws_szBlock.f
  have e1 : wrap64 (1048576 - (p.size : Int)) = 1048576 - p.size := wrap_id (by omega) (by omega)
  rw [e1]
  by_cases h1 : 1048576 - (p.size : Int) < 0
  · exact ⟨-1, ev_if_pos h1 (ev_some rfl), fun h => by omega⟩
  · have e2 : wrap64 (1048576 - (p.size : Int) - (r.size : Int)) = 1048576 - p.size - r.size := wrap_id (by omega) (by omega)
    rw [e2]
    by_cases h2 : 1048576 - (p.size : Int) - (r.size : Int) < 0
    · exact ⟨-1, ev_if_neg h1 (ev_if_pos h2 (ev_some rfl)), fun h => by omega⟩
    · obtain ⟨q, hq, _, hall⟩ := szStringS_ev l (1048576 - p.size - r.size) (by omega) (by omega) hl hw
      by_cases h3 : q < 0
      · exact ⟨-1, ev_if_neg h1 (ev_if_neg h2 (ev_bind hq (ev_if_pos h3 (ev_some rfl)))), fun h => by omega⟩
      · obtain ⟨a1, a2⟩ := hall (by omega)
        exact ⟨q, ev_if_neg h1 (ev_if_neg h2 (ev_bind hq (ev_if_neg h3 (ev_some rfl)))), fun _ => ⟨by omega, by omega, a1, a2⟩⟩
theorem toBlock_ev (p r : ByteArray) (l : List ByteArray) (hl : l.length ≤ 1048576) : Ev (fun k => laws_toBlock.f k p r l) (p, r, l) := ev_bind (toStringS_ev l hl) (ev_some rfl)

theorem eqBlock_ev (p r : ByteArray) (l : List ByteArray) (hl : l.length ≤ 1152921504606846976) : Ev (fun k => laws_eqBlock.f k p r l p r l) true := ev_if_pos rfl (ev_if_pos rfl (ev_bind (eqStringS_ev l hl) (ev_if_pos rfl (ev_some rfl))))

theorem FnExactGoodBlock : laws_FnExactGoodBlock.Pure := by
  intro p r l w1 w2 hw
  obtain ⟨w3, w4⟩ := hw
  refine Ev.rounds (g := fun k => laws_FnExactGoodBlock.f k p r l) ?_
  unfold laws_FnExactGoodBlock.f
  obtain ⟨q, hq, hall⟩ := szBlock_ev p r l w1 w2 w3 w4
  refine ev_bind hq ?_
  by_cases hn : q < 0
  · exact ev_if_pos hn (ev_some rfl)
  obtain ⟨_, _, h3, _⟩ := hall (by omega)
  have hto := toBlock_ev p r l h3
  refine ev_if_neg hn (ev_bind hto (ev_bind (spec_GoodBlock_ev _ _ _ h3) (ev_bind hto (ev_bind (impl_GoodBlock_ev _ _ _ h3) ?_))))
  rw [bne_self_eq_false]
  exact ev_if_neg (by simp) (ev_bind hto (ev_bind (eqBlock_ev _ _ _ (show l.length ≤ _ by omega)) (ev_if_pos rfl (ev_some rfl))))

end Go.Proofs.Ytgnpbbdejagbnaa.Pure
