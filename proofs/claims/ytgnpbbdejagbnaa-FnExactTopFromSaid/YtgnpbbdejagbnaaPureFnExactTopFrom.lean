/- The law FnExactTopFrom holds at every input; no conditions. -/
import Derived.Test.YtgnpbbdejagbnaaQFnExactTopFromx3
import Derived.Test.YtgnpbbdejagbnaaBase
import Derived.OpenShut
namespace Go.Proofs.Ytgnpbbdejagbnaa.Pure
open Go.RowKit Go.Proofs.Ytgnpbbdejagbnaa.QFnExactTopFrom Go.Proofs.YtgnpbbdejagbnaaW.PrintWords Go.Proofs.YtgnpbbdejagbnaaW.PrintLast Go.Proofs.Ytgnpbbdejagbnaa.Base
set_option linter.unusedSimpArgs false
set_option linter.unusedVariables false


def laws_FnExactTopFrom.Pure : Prop := ∀ (a0 : Int) (a1 : ByteArray) (l2 : List (ByteArray)), (Lit.int .i64 a0).wf = true → a1.size ≤ 140737488351232 → (l2.length ≤ 9223372036854775807 ∧ ∀ y ∈ l2, y.size ≤ 9223372036854775807) → ∃ k, laws_FnExactTopFrom.f k a0 a1 l2 = some true

/-! ### digests -/
def feedN (s : ByteArray) : Nat → Nat → Int → Int → Int × Int
  | 0, _, A, B => (A, B)
  | d + 1, i, A, B => feedN s d (i + 1) ((A + bt s i) % 65521) ((B + (A + bt s i) % 65521) % 65521)

theorem feedN_range (s : ByteArray) : ∀ (d i : Nat) (A B : Int), 0 ≤ A → A < 65521 → 0 ≤ B → B < 65521 →
    0 ≤ (feedN s d i A B).1 ∧ (feedN s d i A B).1 < 65521 ∧ 0 ≤ (feedN s d i A B).2 ∧ (feedN s d i A B).2 < 65521
  | 0, _, _, _, h1, h2, h3, h4 => ⟨h1, h2, h3, h4⟩
  | d + 1, i, A, B, _, _, _, _ => feedN_range s d (i + 1) _ _ (by omega) (by omega) (by omega) (by omega)

def dig (kind : Int) (s : ByteArray) : ByteArray :=
  strOfNums [(feedN s s.size 0 (kind + 1) (kind + 1)).2 / 256, (feedN s s.size 0 (kind + 1) (kind + 1)).2 % 256, (feedN s s.size 0 (kind + 1) (kind + 1)).1 / 256, (feedN s s.size 0 (kind + 1) (kind + 1)).1 % 256]

theorem spec_feed_ev (s : ByteArray) (hs : s.size ≤ 1152921504606846976) (L : Int) : ∀ (d i : Nat) (A B : Int), i + d = s.size → 0 ≤ A → A < 65521 → 0 ≤ B → B < 65521 →
    Ev (fun k => spec_l1Feed.l0 k s i A B L) ((feedN s d i A B).1, (feedN s d i A B).2, wrap64 (L + s.size))
  | 0, i, A, B, hd, _, _, _, _ => by
    refine Ev.step (fun k => spec_l1Feed.l0.eq_2 ..) ?_
    refine ev_if_neg (by omega) ?_
    exact ev_some rfl
  | d + 1, i, A, B, hd, h1, h2, h3, h4 => by
    refine Ev.step (fun k => spec_l1Feed.l0.eq_2 ..) ?_
    refine ev_if_pos (by omega) (ev_if_pos (by omega) ?_)
    have hb := bt_range s i
    rw [wrap_succ (by omega), wrap_bt, wrap_id (x := A + bt s i) (by omega) (by omega), tmod_nn (by omega), wrap_id (by omega) (by omega), tmod_nn (by omega)]
    exact spec_feed_ev s hs L d (i + 1) _ _ (by omega) (by omega) (by omega) (by omega) (by omega)

theorem impl_feed_ev (s : ByteArray) (hs : s.size ≤ 1152921504606846976) (L : Int) : ∀ (d i : Nat) (A B : Int), i + d = s.size → 0 ≤ A → A < 65521 → 0 ≤ B → B < 65521 →
    Ev (fun k => impl_Mix_feed.l0 k s s.size i A B L) ((feedN s d i A B).1, (feedN s d i A B).2, wrap64 (L + s.size))
  | 0, i, A, B, hd, _, _, _, _ => by
    refine Ev.step (fun k => impl_Mix_feed.l0.eq_2 ..) ?_
    refine ev_if_neg (by omega) ?_
    exact ev_some rfl
  | d + 1, i, A, B, hd, h1, h2, h3, h4 => by
    refine Ev.step (fun k => impl_Mix_feed.l0.eq_2 ..) ?_
    refine ev_if_pos (by omega) (ev_if_pos (by omega) (ev_if_pos (by omega) ?_))
    have hb := bt_range s i
    rw [wrap_succ (by omega), wrap_bt, wrap_id (x := A + bt s i) (by omega) (by omega), tmod_nn (by omega), wrap_id (by omega) (by omega), tmod_nn (by omega)]
    exact impl_feed_ev s hs L d (i + 1) _ _ (by omega) (by omega) (by omega) (by omega) (by omega)

theorem spec_digest_ev (kind : Int) (s : ByteArray) (h1 : 97 ≤ kind) (h2 : kind ≤ 122) (hs : s.size ≤ 1152921504606846976) : Ev (fun k => spec_l1Digest.f k kind s) (dig kind s) := by
  unfold spec_l1Digest.f spec_NewMix.f spec_l1Kind.f spec_l1End.f spec_l1Feed.f
  rw [if_pos h1, decide_eq_true h2, wrap_id (x := kind) (by omega) (by omega), wrap_id (by omega) (by omega)]
  simp only [Option.bind_some, if_true]
  have h := spec_feed_ev s hs 0 s.size 0 (1 + kind) (1 + kind) (by omega) (by omega) (by omega) (by omega) (by omega)
  have e : (1 : Int) + kind = kind + 1 := by omega
  rw [e] at h ⊢
  refine ev_bind h (ev_some ?_)
  have hr := feedN_range s s.size 0 (kind + 1) (kind + 1) (by omega) (by omega) (by omega) (by omega)
  unfold dig
  simp only
  generalize feedN s s.size 0 (kind + 1) (kind + 1) = p at *
  have e1 : p.2 / 256 % 256 = p.2 / 256 := by omega
  have e2 : p.1 / 256 % 256 = p.1 / 256 := by omega
  rw [e1, e2]

theorem impl_digest_ev (kind : Int) (s : ByteArray) (h1 : 97 ≤ kind) (h2 : kind ≤ 122) (hs : s.size ≤ 1152921504606846976) : Ev (fun k => impl_digest.f k kind s) (dig kind s) := by
  unfold impl_digest.f impl_newMix.f impl_Mix_end.f impl_Mix_feed.f
  rw [wrap_id (x := kind) (by omega) (by omega), wrap_id (by omega) (by omega)]
  simp only [Option.bind_some]
  have h := impl_feed_ev s hs 0 s.size 0 (kind + 1) (kind + 1) (by omega) (by omega) (by omega) (by omega) (by omega)
  refine ev_bind h (ev_some ?_)
  have hr := feedN_range s s.size 0 (kind + 1) (kind + 1) (by omega) (by omega) (by omega) (by omega)
  unfold dig
  simp only
  generalize feedN s s.size 0 (kind + 1) (kind + 1) = p at *
  rw [tdiv_nn (by omega), tdiv_nn (by omega), tmod_nn (by omega), tmod_nn (by omega), wrap_id (by omega) (by omega), wrap_id (by omega) (by omega)]
  have e1 : p.2 / 256 % 256 = p.2 / 256 := by omega
  have e2 : p.1 / 256 % 256 = p.1 / 256 := by omega
  have e3 : p.2 % 256 % 256 = p.2 % 256 := by omega
  have e4 : p.1 % 256 % 256 = p.1 % 256 := by omega
  rw [e1, e2, e3, e4]

theorem dig_size (kind : Int) (s : ByteArray) : (dig kind s).size = 4 := rfl

/-! ### lists of texts: their size, copied -/
theorem szStringS_loop (l : List ByteArray) (hl : l.length ≤ 1048576) (hw : ∀ s ∈ l, s.size ≤ 9223372036854775807) : ∀ (rest : List ByteArray) (i : Nat) (left : Int), l.drop i = rest → 0 ≤ left → left ≤ 1048576 →
    ∃ r, Ev (fun k => laws_szStringS.l0 k l left i) r ∧ r ≤ 1048576 ∧ (0 ≤ r → ∀ s ∈ rest, s.size ≤ 1048576)
  | [], i, left, hd, h0, h1 => by
    have h := drop_nil hd
    exact ⟨left, Ev.step (fun k => laws_szStringS.l0.eq_2 ..) (ev_if_neg (by omega) (ev_some rfl)), h1, fun _ s hs => by simp at hs⟩
  | s :: rest, i, left, hd, h0, h1 => by
    obtain ⟨hi, hd', hx⟩ := drop_cons hd
    have hs : s ∈ l := by
      have : s ∈ l.drop i := by rw [hd]; exact List.mem_cons_self
      exact List.mem_of_mem_drop this
    have hsz := hw s hs
    have e : wrap64 (left - (s.size : Int)) = left - s.size := wrap_id (by omega) (by omega)
    by_cases hn : left - (s.size : Int) < 0
    · refine ⟨-1, Ev.step (fun k => laws_szStringS.l0.eq_2 ..) (ev_if_pos (by omega) (ev_if_pos (by omega) ?_)), by omega, fun h => by omega⟩
      rw [hx, e]
      exact ev_if_pos hn (ev_some rfl)
    · obtain ⟨r, hr, hb, hall⟩ := szStringS_loop l hl hw rest (i + 1) (left - s.size) hd' (by omega) (by omega)
      refine ⟨r, Ev.step (fun k => laws_szStringS.l0.eq_2 ..) (ev_if_pos (by omega) (ev_if_pos (by omega) ?_)), hb, fun h t ht => ?_⟩
      · rw [hx, e, wrap_succ (by omega)]
        exact ev_if_neg hn hr
      · rcases List.mem_cons.1 ht with rfl | ht
        · omega
        · exact hall h t ht
theorem szStringS_ev (l : List ByteArray) (left : Int) (h0 : 0 ≤ left) (h1 : left ≤ 1048576) (hl : l.length ≤ 9223372036854775807) (hw : ∀ s ∈ l, s.size ≤ 9223372036854775807) :
    ∃ r, Ev (fun k => laws_szStringS.f k l left) r ∧ r ≤ 1048576 ∧ (0 ≤ r → l.length ≤ 1048576 ∧ ∀ s ∈ l, s.size ≤ 1048576) := by
  unfold laws_szStringS.f
  have e : wrap64 (left - (l.length : Int)) = left - l.length := wrap_id (by omega) (by omega)
  simp only [e]
  by_cases hn : left - (l.length : Int) < 0
  · exact ⟨-1, ev_if_pos hn (ev_some rfl), by omega, fun h => by omega⟩
  · obtain ⟨r, hr, hb, hall⟩ := szStringS_loop l (by omega) hw l 0 (left - l.length) rfl (by omega) (by omega)
    exact ⟨r, ev_if_neg hn hr, hb, fun h => ⟨by omega, hall h⟩⟩

theorem toStringS_loop (l : List ByteArray) (hl : l.length ≤ 1048576) : ∀ (rest pre : List ByteArray) (i : Nat), l.drop i = rest → pre.length = i →
    Ev (fun k => laws_toStringS.l0 k l (pre ++ List.replicate rest.length (⟨#[]⟩ : ByteArray)) i) (pre ++ rest)
  | [], pre, i, hd, hp => by
    have h := drop_nil hd
    exact Ev.step (fun k => laws_toStringS.l0.eq_2 ..) (ev_if_neg (by omega) (ev_some rfl))
  | s :: rest, pre, i, hd, hp => by
    obtain ⟨hi, hd', hx⟩ := drop_cons hd
    refine Ev.step (fun k => laws_toStringS.l0.eq_2 ..) (ev_if_pos (by omega) (ev_if_pos (by omega) (ev_if_pos (by simp; omega) ?_)))
    rw [wrap_succ (by omega), hx, Int.toNat_natCast, List.length_cons, List.replicate_succ]
    subst hp
    rw [set_at]
    have := toStringS_loop l hl rest (pre ++ [s]) (pre.length + 1) hd' (by simp)
    simpa using this
theorem toStringS_ev (l : List ByteArray) (hl : l.length ≤ 1048576) : Ev (fun k => laws_toStringS.f k l) l := by
  unfold laws_toStringS.f
  refine ev_if_pos (by omega) (ev_if_pos (by omega) ?_)
  rw [Int.toNat_natCast]
  exact toStringS_loop l hl l [] 0 rfl rfl

/-! ### lists of texts: alike -/
theorem eqStringS_loop (l : List ByteArray) (hl : l.length ≤ 1152921504606846976) : ∀ (rest : List ByteArray) (i : Nat), l.drop i = rest → Ev (fun k => laws_eqStringS.l0 k l l i) true
  | [], i, hd => by
    have h := drop_nil hd
    exact Ev.step (fun k => laws_eqStringS.l0.eq_2 ..) (ev_if_neg (by omega) (ev_some rfl))
  | s :: rest, i, hd => by
    obtain ⟨hi, hd', hx⟩ := drop_cons hd
    refine Ev.step (fun k => laws_eqStringS.l0.eq_2 ..) (ev_if_pos (by omega) (ev_if_pos (by omega) (ev_if_pos (by omega) (ev_if_pos rfl ?_))))
    rw [wrap_succ (by omega)]
    exact eqStringS_loop l hl rest (i + 1) hd'
theorem eqStringS_ev (l : List ByteArray) (hl : l.length ≤ 1152921504606846976) : Ev (fun k => laws_eqStringS.f k l l) true := by
  unfold laws_eqStringS.f
  exact ev_if_pos rfl (eqStringS_loop l hl l 0 rfl)

/-! ### slices.ContainsFunc with string__impl_areDigests_1 -/
theorem cfAreDigests_loop (l : List (ByteArray)) (hl : l.length ≤ 1152921504606846976) (P : (ByteArray) → Bool) (hP : ∀ x ∈ l, impl_areDigests_1.f x = some (P x)) : ∀ (rest : List (ByteArray)) (i : Nat), l.drop i = rest →
    ∃ r : Int, Ev (fun k => slices_IndexFunc_string__impl_areDigests_1.l0 k l l.length i) r ∧ decide (r ≥ 0) = rest.any P
  | [], i, hd => by
    have h := drop_nil hd
    exact ⟨-1, Ev.step (fun k => slices_IndexFunc_string__impl_areDigests_1.l0.eq_2 ..) (ev_if_neg (by omega) (ev_some rfl)), rfl⟩
  | s :: rest, i, hd => by
    obtain ⟨hi, hd', hx⟩ := drop_cons hd
    have hx : rdOf ByteArray.empty l i = s := hx _
    have hs : s ∈ l := List.mem_of_mem_drop (by rw [hd]; exact List.mem_cons_self)
    cases hb : P s with
    | true =>
      refine ⟨i, Ev.step (fun k => slices_IndexFunc_string__impl_areDigests_1.l0.eq_2 ..) (ev_if_pos (by omega) (ev_if_pos (by omega) (ev_if_pos (by omega) ?_))), by simp [hb]⟩
      simp only [hx, hP s hs, Option.bind_some]
      exact ev_true hb (ev_some rfl)
    | false =>
      obtain ⟨r, hr, he⟩ := cfAreDigests_loop l hl P hP rest (i + 1) hd'
      refine ⟨r, Ev.step (fun k => slices_IndexFunc_string__impl_areDigests_1.l0.eq_2 ..) (ev_if_pos (by omega) (ev_if_pos (by omega) (ev_if_pos (by omega) ?_))), by simp [hb, he]⟩
      simp only [hx, hP s hs, Option.bind_some]
      rw [wrap_succ (by omega)]
      exact ev_false hb hr
theorem cfAreDigests_ev (l : List (ByteArray)) (hl : l.length ≤ 1152921504606846976) (P : (ByteArray) → Bool) (hP : ∀ x ∈ l, impl_areDigests_1.f x = some (P x)) : Ev (fun k => slices_ContainsFunc_string__impl_areDigests_1.f k l) (l.any P) := by
  unfold slices_ContainsFunc_string__impl_areDigests_1.f slices_IndexFunc_string__impl_areDigests_1.f
  obtain ⟨r, hr, he⟩ := cfAreDigests_loop l hl P hP l 0 rfl
  exact ev_bind hr (ev_some he)

def topR (no : Int) (leaf : ByteArray) : List ByteArray → ByteArray
  | [] => leaf
  | s :: l => if no % 2 = 0 then topR (no / 2) (dig 116 (leaf ++ s)) l else topR (no / 2) (dig 116 (s ++ leaf)) l
def fourB (l : List ByteArray) (n : Int) : Bool := l.all (fun s => decide (s.size = 4)) && ((l.length : Int) == n)

theorem spec_pair_ev (a b : ByteArray) (ha : a.size ≤ 1048576) (hb : b.size ≤ 1048576) : Ev (fun k => spec_l3Pair.f k a b) (dig 116 (a ++ b)) :=
  ev_if_pos (by omega) (ev_bind (spec_digest_ev 116 _ (by omega) (by omega) (by rw [size_append]; omega)) (ev_some rfl))
theorem impl_pair_ev (a b : ByteArray) (ha : a.size ≤ 1048576) (hb : b.size ≤ 1048576) : Ev (fun k => impl_pair.f k a b) (dig 116 (a ++ b)) :=
  ev_if_pos (by omega) (ev_bind (impl_digest_ev 116 _ (by omega) (by omega) (by rw [size_append]; omega)) (ev_some rfl))

theorem spec_top_loop (l : List ByteArray) (hl : l.length ≤ 1048576) (hw : ∀ s ∈ l, s.size ≤ 1048576) : ∀ (rest : List ByteArray) (i : Nat) (no : Int) (leaf : ByteArray), l.drop i = rest → 0 ≤ no → no ≤ 1000 → leaf.size ≤ 1048576 →
    Ev (fun k => spec_l3Top.l0 k no leaf l l.length i) (topR no leaf rest)
  | [], i, no, leaf, hd, h0, h1, hs => by
    have h := drop_nil hd
    exact Ev.step (fun k => spec_l3Top.l0.eq_2 ..) (ev_if_neg (by omega) (ev_some rfl))
  | s :: rest, i, no, leaf, hd, h0, h1, hs => by
    obtain ⟨hi, hd', hx⟩ := drop_cons hd
    have hss := hw s (List.mem_of_mem_drop (by rw [hd]; exact List.mem_cons_self))
    refine Ev.step (fun k => spec_l3Top.l0.eq_2 ..) (ev_if_pos (by omega) (ev_if_pos (by omega) (ev_if_pos (by omega) ?_)))
    rw [hx, tmod_nn h0, tdiv_nn h0, wrap_succ (by omega), wrap_id (x := no / 2) (by omega) (by omega)]
    unfold topR
    refine ev_ite (fun _ => ev_bind (spec_pair_ev _ _ hs hss) ?_) (fun _ => ev_bind (spec_pair_ev _ _ hss hs) ?_)
    · exact spec_top_loop l hl hw rest (i + 1) _ _ hd' (by omega) (by omega) (by rw [dig_size]; omega)
    · exact spec_top_loop l hl hw rest (i + 1) _ _ hd' (by omega) (by omega) (by rw [dig_size]; omega)
theorem impl_top_loop (l : List ByteArray) (hl : l.length ≤ 1048576) (hw : ∀ s ∈ l, s.size ≤ 1048576) : ∀ (rest : List ByteArray) (i : Nat) (no : Int) (leaf : ByteArray), l.drop i = rest → 0 ≤ no → no ≤ 1000 → leaf.size ≤ 1048576 →
    Ev (fun k => impl_topFrom.l0 k no leaf l l.length i) (topR no leaf rest)
  | [], i, no, leaf, hd, h0, h1, hs => by
    have h := drop_nil hd
    exact Ev.step (fun k => impl_topFrom.l0.eq_2 ..) (ev_if_neg (by omega) (ev_some rfl))
  | s :: rest, i, no, leaf, hd, h0, h1, hs => by
    obtain ⟨hi, hd', hx⟩ := drop_cons hd
    have hss := hw s (List.mem_of_mem_drop (by rw [hd]; exact List.mem_cons_self))
    refine Ev.step (fun k => impl_topFrom.l0.eq_2 ..) (ev_if_pos (by omega) (ev_if_pos (by omega) (ev_if_pos (by omega) ?_)))
    rw [hx, tmod_nn h0, tdiv_nn h0, wrap_succ (by omega), wrap_id (x := no / 2) (by omega) (by omega)]
    unfold topR
    refine ev_ite (fun _ => ev_bind (impl_pair_ev _ _ hs hss) ?_) (fun _ => ev_bind (impl_pair_ev _ _ hss hs) ?_)
    · exact impl_top_loop l hl hw rest (i + 1) _ _ hd' (by omega) (by omega) (by rw [dig_size]; omega)
    · exact impl_top_loop l hl hw rest (i + 1) _ _ hd' (by omega) (by omega) (by rw [dig_size]; omega)

theorem spec_four_loop (l : List ByteArray) (n : Int) (hl : l.length ≤ 1048576) : ∀ (rest pre : List ByteArray), l = pre ++ rest → pre.all (fun s => decide (s.size = 4)) = true →
    Ev (fun k => spec_l3Four.l0 k l n l l.length pre.length) (fourB l n)
  | [], pre, hd, ha => by
    have e : pre = l := by rw [hd]; simp
    subst e
    refine Ev.step (fun k => spec_l3Four.l0.eq_2 ..) (ev_if_neg (by omega) (ev_some ?_))
    simp [fourB, ha]
  | s :: rest, pre, hd, ha => by
    obtain ⟨hi, hx⟩ := mid_at hd
    refine Ev.step (fun k => spec_l3Four.l0.eq_2 ..) (ev_if_pos (by omega) (ev_if_pos (by omega) (ev_if_pos (by omega) ?_)))
    rw [hx]
    by_cases hs : s.size = 4
    · refine ev_if_pos (by omega) ?_
      rw [wrap_succ (by omega)]
      have ih := spec_four_loop l n hl rest (pre ++ [s]) (by rw [hd]; simp) (by simp [ha, hs])
      rwa [List.length_append, List.length_singleton] at ih
    · refine ev_if_neg (by omega) (ev_some ?_)
      have : l.all (fun s => decide (s.size = 4)) = false := by
        cases hc : l.all (fun s => decide (s.size = 4)) with
        | false => rfl
        | true => rw [List.all_eq_true] at hc; exact absurd (hc s (by rw [hd]; simp)) (by simp [hs])
      simp [fourB, this]
theorem impl_areDigests_ev (l : List ByteArray) (n : Int) (hl : l.length ≤ 1048576) : Ev (fun k => impl_areDigests.f k l n) (fourB l n) := by
  unfold impl_areDigests.f fourB
  have hc := cfAreDigests_ev l (by omega) (fun s => !((s.size : Int) == 4)) (fun _ _ => rfl)
  have hall : (!l.any fun s => !((s.size : Int) == 4)) = l.all (fun s => decide (s.size = 4)) := by
    rw [List.not_any_eq_all_not]
    congr 1
    funext s
    by_cases h : s.size = 4
    · simp [h]
    · have : ¬ (s.size : Int) = 4 := by omega
      simp [h, this]
  by_cases h : (l.length : Int) = n
  · refine ev_if_pos h (ev_bind hc (ev_some ?_))
    rw [hall]; simp [h]
  · exact ev_if_neg h (ev_some (by simp [h]))

theorem FnExactTopFrom : laws_FnExactTopFrom.Pure := by
  intro no leaf l hno _ hw
  have hno := bounds_i64 hno
  refine Ev.rounds (g := fun k => laws_FnExactTopFrom.f k no leaf l) ?_
  unfold laws_FnExactTopFrom.f
  by_cases hs : (leaf.size : Int) > 1048576
  · exact ev_if_pos hs (ev_some rfl)
  refine ev_if_neg hs ?_
  obtain ⟨r, hr, _, hall⟩ := szStringS_ev l 1048576 (by omega) (by omega) hw.1 hw.2
  refine ev_bind hr ?_
  by_cases hn : r < 0
  · exact ev_if_pos hn (ev_some rfl)
  obtain ⟨h1, h2⟩ := hall (by omega)
  have hto := toStringS_ev l h1
  have key : ∃ r, Ev (fun k => spec_TopFrom.f k no leaf l) r ∧ Ev (fun k => impl_TopFrom.f k no leaf l) r := by
    unfold spec_TopFrom.f impl_TopFrom.f spec_l3No.f impl_isUse.f impl_within.f spec_l1In.f impl_isDigest.f
    by_cases e1 : no ≥ 0
    · by_cases e2 : no ≤ 7
      · by_cases e3 : (leaf.size : Int) = 4
        · simp only [e1, e2, e3, Option.bind_some, decide_true, if_true, beq_self_eq_true]
          have k1 : Ev (fun k => spec_l3Four.f k l 3) (fourB l 3) := spec_four_loop l 3 h1 l [] rfl rfl
          have k2 := impl_areDigests_ev l 3 h1
          cases hg : fourB l 3 with
          | false =>
            rw [hg] at k1 k2
            exact ⟨(⟨#[]⟩, false), ev_bind k1 (ev_if_neg (by simp) (ev_some rfl)), ev_bind k2 (ev_if_neg (by simp) (ev_some rfl))⟩
          | true =>
            rw [hg] at k1 k2
            exact ⟨(topR no leaf l, true), ev_bind k1 (ev_if_pos rfl (ev_bind (spec_top_loop l h1 h2 l 0 no leaf rfl e1 (by omega) (by omega)) (ev_some rfl))), ev_bind k2 (ev_if_pos rfl (ev_bind (impl_top_loop l h1 h2 l 0 no leaf rfl e1 (by omega) (by omega)) (ev_some rfl)))⟩
        · refine ⟨(⟨#[]⟩, false), ev_fun fun _ => ?_, ev_fun fun _ => ?_⟩ <;> simp [e1, e2, e3]
      · refine ⟨(⟨#[]⟩, false), ev_fun fun _ => ?_, ev_fun fun _ => ?_⟩ <;> simp [e1, e2]
    · refine ⟨(⟨#[]⟩, false), ev_fun fun _ => ?_, ev_fun fun _ => ?_⟩ <;> simp [e1]
  obtain ⟨r, k1, k2⟩ := key
  refine ev_if_neg hn (ev_bind hto (ev_bind k1 (ev_bind hto (ev_bind k2 (ev_if_pos rfl ?_)))))
  rw [bne_self_eq_false]
  exact Ev.step (fun k => laws_FnExactTopFrom.j0.eq_2 ..) (ev_if_neg (by simp) (ev_bind hto (ev_bind (eqStringS_ev l (by omega)) (ev_if_pos rfl (ev_some rfl)))))

end Go.Proofs.Ytgnpbbdejagbnaa.Pure
