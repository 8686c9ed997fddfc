/- The law FnExactListDigest holds at every input; no conditions. -/
import Derived.Test.YtgnpbbdejagbnaaPFnExactListDigestx3
import Derived.Test.YtgnpbbdejagbnaaBase
import Derived.OpenShut
namespace Go.Proofs.Ytgnpbbdejagbnaa.Pure
open Go.RowKit Go.Proofs.Ytgnpbbdejagbnaa.PFnExactListDigest Go.Proofs.YtgnpbbdejagbnaaW.PrintWords Go.Proofs.YtgnpbbdejagbnaaW.PrintLast Go.Proofs.Ytgnpbbdejagbnaa.Base
set_option linter.unusedSimpArgs false
set_option linter.unusedVariables false


def laws_FnExactListDigest.Pure : Prop := ∀ (a0 : Int) (l1 : List (ByteArray)), (Lit.int .u8 a0).wf = true → (l1.length ≤ 9223372036854775807 ∧ ∀ y ∈ l1, y.size ≤ 9223372036854775807) → ∃ k, laws_FnExactListDigest.f k a0 l1 = some true

/-! ### digests -/
def feedN (s : ByteArray) : Nat → Nat → Int → Int → Int × Int
  | 0, _, A, B => (A, B)
  | d + 1, i, A, B => feedN s d (i + 1) ((A + bt s i) % 65521) ((B + (A + bt s i) % 65521) % 65521)

theorem feedN_range (s : ByteArray) : ∀ (d i : Nat) (A B : Int), 0 ≤ A → A < 65521 → 0 ≤ B → B < 65521 →
    0 ≤ (feedN s d i A B).1 ∧ (feedN s d i A B).1 < 65521 ∧ 0 ≤ (feedN s d i A B).2 ∧ (feedN s d i A B).2 < 65521
  | 0, _, _, _, h1, h2, h3, h4 => ⟨h1, h2, h3, h4⟩
  | d + 1, i, A, B, _, _, _, _ => feedN_range s d (i + 1) _ _ (by omega) (by omega) (by omega) (by omega)

def dig (kind : Int) (s : ByteArray) : ByteArray :=
  strOfNums [(feedN s s.size 0 (kind + 1) (kind + 1)).2 / 256, (feedN s s.size 0 (kind + 1) (kind + 1)).2 % 256, (feedN s s.size 0 (kind + 1) (kind + 1)).1 / 256, (feedN s s.size 0 (kind + 1) (kind + 1)).1 % 256]

theorem spec_feed_ev (s : ByteArray) (hs : s.size ≤ 1152921504606846976) (L : Int) : ∀ (d i : Nat) (A B : Int), i + d = s.size → 0 ≤ A → A < 65521 → 0 ≤ B → B < 65521 →
    Ev (fun k => spec_l1Feed.l0 k s i A B L) ((feedN s d i A B).1, (feedN s d i A B).2, wrap64 (L + s.size))
  | 0, i, A, B, hd, _, _, _, _ => by
    refine Ev.step (fun k => spec_l1Feed.l0.eq_2 ..) ?_
    refine ev_if_neg (by omega) ?_
    exact ev_some rfl
  | d + 1, i, A, B, hd, h1, h2, h3, h4 => by
    refine Ev.step (fun k => spec_l1Feed.l0.eq_2 ..) ?_
    refine ev_if_pos (by omega) (ev_if_pos (by omega) ?_)
    have hb := bt_range s i
    rw [wrap_succ (by omega), wrap_bt, wrap_id (x := A + bt s i) (by omega) (by omega), tmod_nn (by omega), wrap_id (by omega) (by omega), tmod_nn (by omega)]
    exact spec_feed_ev s hs L d (i + 1) _ _ (by omega) (by omega) (by omega) (by omega) (by omega)

theorem impl_feed_ev (s : ByteArray) (hs : s.size ≤ 1152921504606846976) (L : Int) : ∀ (d i : Nat) (A B : Int), i + d = s.size → 0 ≤ A → A < 65521 → 0 ≤ B → B < 65521 →
    Ev (fun k => impl_Mix_feed.l0 k s s.size i A B L) ((feedN s d i A B).1, (feedN s d i A B).2, wrap64 (L + s.size))
  | 0, i, A, B, hd, _, _, _, _ => by
    refine Ev.step (fun k => impl_Mix_feed.l0.eq_2 ..) ?_
    refine ev_if_neg (by omega) ?_
    exact ev_some rfl
  | d + 1, i, A, B, hd, h1, h2, h3, h4 => by
    refine Ev.step (fun k => impl_Mix_feed.l0.eq_2 ..) ?_
    refine ev_if_pos (by omega) (ev_if_pos (by omega) (ev_if_pos (by omega) ?_))
    have hb := bt_range s i
    rw [wrap_succ (by omega), wrap_bt, wrap_id (x := A + bt s i) (by omega) (by omega), tmod_nn (by omega), wrap_id (by omega) (by omega), tmod_nn (by omega)]
    exact impl_feed_ev s hs L d (i + 1) _ _ (by omega) (by omega) (by omega) (by omega) (by omega)

theorem spec_digest_ev (kind : Int) (s : ByteArray) (h1 : 97 ≤ kind) (h2 : kind ≤ 122) (hs : s.size ≤ 1152921504606846976) : Ev (fun k => spec_l1Digest.f k kind s) (dig kind s) := by
  unfold spec_l1Digest.f spec_NewMix.f spec_l1Kind.f spec_l1End.f spec_l1Feed.f
  rw [if_pos h1, decide_eq_true h2, wrap_id (x := kind) (by omega) (by omega), wrap_id (by omega) (by omega)]
  simp only [Option.bind_some, if_true]
  have h := spec_feed_ev s hs 0 s.size 0 (1 + kind) (1 + kind) (by omega) (by omega) (by omega) (by omega) (by omega)
  have e : (1 : Int) + kind = kind + 1 := by omega
  rw [e] at h ⊢
  refine ev_bind h (ev_some ?_)
  have hr := feedN_range s s.size 0 (kind + 1) (kind + 1) (by omega) (by omega) (by omega) (by omega)
  unfold dig
  simp only
  generalize feedN s s.size 0 (kind + 1) (kind + 1) = p at *
  have e1 : p.2 / 256 % 256 = p.2 / 256 := by omega
  have e2 : p.1 / 256 % 256 = p.1 / 256 := by omega
  rw [e1, e2]

theorem impl_digest_ev (kind : Int) (s : ByteArray) (h1 : 97 ≤ kind) (h2 : kind ≤ 122) (hs : s.size ≤ 1152921504606846976) : Ev (fun k => impl_digest.f k kind s) (dig kind s) := by
  unfold impl_digest.f impl_newMix.f impl_Mix_end.f impl_Mix_feed.f
  rw [wrap_id (x := kind) (by omega) (by omega), wrap_id (by omega) (by omega)]
  simp only [Option.bind_some]
  have h := impl_feed_ev s hs 0 s.size 0 (kind + 1) (kind + 1) (by omega) (by omega) (by omega) (by omega) (by omega)
  refine ev_bind h (ev_some ?_)
  have hr := feedN_range s s.size 0 (kind + 1) (kind + 1) (by omega) (by omega) (by omega) (by omega)
  unfold dig
  simp only
  generalize feedN s s.size 0 (kind + 1) (kind + 1) = p at *
  rw [tdiv_nn (by omega), tdiv_nn (by omega), tmod_nn (by omega), tmod_nn (by omega), wrap_id (by omega) (by omega), wrap_id (by omega) (by omega)]
  have e1 : p.2 / 256 % 256 = p.2 / 256 := by omega
  have e2 : p.1 / 256 % 256 = p.1 / 256 := by omega
  have e3 : p.2 % 256 % 256 = p.2 % 256 := by omega
  have e4 : p.1 % 256 % 256 = p.1 % 256 := by omega
  rw [e1, e2, e3, e4]

theorem dig_size (kind : Int) (s : ByteArray) : (dig kind s).size = 4 := rfl

def digOf (kind : Int) (s : ByteArray) : ByteArray × Bool := if 97 ≤ kind ∧ kind ≤ 122 ∧ s.size ≤ 600 then (dig kind s, true) else (⟨#[]⟩, false)


theorem impl_DigestOf_ev (kind : Int) (s : ByteArray) (hs : s.size ≤ 1152921504606846976) : Ev (fun k => impl_DigestOf.f k kind s) (digOf kind s) := by
  unfold impl_DigestOf.f impl_isKind.f digOf
  by_cases h1 : 97 ≤ kind
  · by_cases h2 : kind ≤ 122
    · by_cases h3 : s.size ≤ 600
      · have h4 : ¬ (s.size : Int) > 600 := by omega
        simp only [ge_iff_le, h1, h2, h3, h4, if_true, if_false, decide_true, Option.bind_some, and_self]
        exact ev_bind (impl_digest_ev kind s h1 h2 hs) (ev_some rfl)
      · have h4 : (s.size : Int) > 600 := by omega
        simp only [ge_iff_le, h1, h2, h3, h4, if_true, if_false, decide_true, Option.bind_some, and_false]
        exact ev_some rfl
    · simp only [ge_iff_le, h1, h2, if_true, if_false, decide_false, Option.bind_some, and_false, false_and, Bool.false_eq_true]
      exact ev_some rfl
  · simp only [ge_iff_le, h1, if_false, Option.bind_some, false_and, Bool.false_eq_true]
    exact ev_some rfl

/-! ### lists of texts -/
def rowR (acc : ByteArray) : List ByteArray → ByteArray
  | [] => acc
  | s :: l => rowR (acc ++ (strOfNums [(s.size : Int) % 256] ++ s)) l

theorem spec_row_ev (l : List ByteArray) (hl : l.length ≤ 1000) : ∀ (rest : List ByteArray) (i : Nat) (acc : ByteArray), l.drop i = rest → acc.size ≤ 140737488351232 * (i + 1) → (∀ s ∈ rest, s.size ≤ 1048576) →
    Ev (fun k => spec_l1Row.l0 k acc l l.length i) (rowR acc rest)
  | [], i, acc, hd, _, _ => by
    have h := drop_nil hd
    refine Ev.step (fun k => spec_l1Row.l0.eq_2 ..) ?_
    exact ev_if_neg (by omega) (ev_some rfl)
  | s :: rest, i, acc, hd, ha, hr => by
    obtain ⟨hi, hd', hx⟩ := drop_cons hd
    have hs := hr s (by simp)
    refine Ev.step (fun k => spec_l1Row.l0.eq_2 ..) ?_
    refine ev_if_pos (by omega) (ev_if_pos (by omega) (ev_if_pos (by omega) ?_))
    simp only [hx, Option.bind_some]
    have e : (strOfNums [(s.size : Int) % 256] ++ s).size = 1 + s.size := by rw [size_append, one_size]
    refine ev_if_pos (by rw [one_size]; omega) (ev_if_pos (by rw [e]; omega) ?_)
    rw [wrap_succ (by omega)]
    exact spec_row_ev l hl rest (i + 1) _ hd' (by rw [size_append, e]; omega) (fun t ht => hr t (by simp [ht]))

def listDig (kind : Int) (acc : ByteArray) (l : List ByteArray) : ByteArray × Bool := if l.all (fun s => decide (s.size ≤ 100)) then digOf kind (rowR acc l) else (⟨#[]⟩, false)

theorem impl_ListDigest_ev (kind : Int) (l : List ByteArray) (hl : l.length ≤ 20) : ∀ (rest : List ByteArray) (i : Nat) (acc : ByteArray), l.drop i = rest → acc.size ≤ 101 * i → i ≤ l.length →
    Ev (fun k => impl_ListDigest.l0 k kind acc l l.length i) (listDig kind acc rest)
  | [], i, acc, hd, ha, hn => by
    have h := drop_nil hd
    refine Ev.step (fun k => impl_ListDigest.l0.eq_2 ..) ?_
    exact ev_if_neg (by omega) (ev_bind (impl_DigestOf_ev kind acc (by omega)) (ev_some rfl))
  | s :: rest, i, acc, hd, ha, hn => by
    obtain ⟨hi, hd', hx⟩ := drop_cons hd
    refine Ev.step (fun k => impl_ListDigest.l0.eq_2 ..) ?_
    refine ev_if_pos (by omega) (ev_if_pos (by omega) (ev_if_pos (by omega) ?_))
    simp only [hx]
    by_cases hs : s.size ≤ 100
    · refine ev_if_neg (by omega) ?_
      simp only [impl_oneByte.f, Option.bind_some]
      have e : (strOfNums [(s.size : Int) % 256] ++ s).size = 1 + s.size := by rw [size_append, one_size]
      refine ev_if_pos (by rw [one_size]; omega) (ev_if_pos (by rw [e]; omega) ?_)
      rw [wrap_succ (by omega)]
      refine ev_eq (impl_ListDigest_ev kind l hl rest (i + 1) _ hd' (by rw [size_append, e]; omega) (by omega)) ?_
      simp [listDig, rowR, hs]
    · refine ev_if_pos (by omega) (ev_some ?_)
      simp [listDig, hs]

/-! ### lists of texts: their size, copied -/
theorem szStringS_loop (l : List ByteArray) (hl : l.length ≤ 1048576) (hw : ∀ s ∈ l, s.size ≤ 9223372036854775807) : ∀ (rest : List ByteArray) (i : Nat) (left : Int), l.drop i = rest → 0 ≤ left → left ≤ 1048576 →
    ∃ r, Ev (fun k => laws_szStringS.l0 k l left i) r ∧ r ≤ 1048576 ∧ (0 ≤ r → ∀ s ∈ rest, s.size ≤ 1048576)
  | [], i, left, hd, h0, h1 => by
    have h := drop_nil hd
    exact ⟨left, Ev.step (fun k => laws_szStringS.l0.eq_2 ..) (ev_if_neg (by omega) (ev_some rfl)), h1, fun _ s hs => by simp at hs⟩
  | s :: rest, i, left, hd, h0, h1 => by
    obtain ⟨hi, hd', hx⟩ := drop_cons hd
    have hs : s ∈ l := by
      have : s ∈ l.drop i := by rw [hd]; exact List.mem_cons_self
      exact List.mem_of_mem_drop this
    have hsz := hw s hs
    have e : wrap64 (left - (s.size : Int)) = left - s.size := wrap_id (by omega) (by omega)
    by_cases hn : left - (s.size : Int) < 0
    · refine ⟨-1, Ev.step (fun k => laws_szStringS.l0.eq_2 ..) (ev_if_pos (by omega) (ev_if_pos (by omega) ?_)), by omega, fun h => by omega⟩
      rw [hx, e]
      exact ev_if_pos hn (ev_some rfl)
    · obtain ⟨r, hr, hb, hall⟩ := szStringS_loop l hl hw rest (i + 1) (left - s.size) hd' (by omega) (by omega)
      refine ⟨r, Ev.step (fun k => laws_szStringS.l0.eq_2 ..) (ev_if_pos (by omega) (ev_if_pos (by omega) ?_)), hb, fun h t ht => ?_⟩
      · rw [hx, e, wrap_succ (by omega)]
        exact ev_if_neg hn hr
      · rcases List.mem_cons.1 ht with rfl | ht
        · omega
        · exact hall h t ht
theorem szStringS_ev (l : List ByteArray) (left : Int) (h0 : 0 ≤ left) (h1 : left ≤ 1048576) (hl : l.length ≤ 9223372036854775807) (hw : ∀ s ∈ l, s.size ≤ 9223372036854775807) :
    ∃ r, Ev (fun k => laws_szStringS.f k l left) r ∧ r ≤ 1048576 ∧ (0 ≤ r → l.length ≤ 1048576 ∧ ∀ s ∈ l, s.size ≤ 1048576) := by
  unfold laws_szStringS.f
  have e : wrap64 (left - (l.length : Int)) = left - l.length := wrap_id (by omega) (by omega)
  simp only [e]
  by_cases hn : left - (l.length : Int) < 0
  · exact ⟨-1, ev_if_pos hn (ev_some rfl), by omega, fun h => by omega⟩
  · obtain ⟨r, hr, hb, hall⟩ := szStringS_loop l (by omega) hw l 0 (left - l.length) rfl (by omega) (by omega)
    exact ⟨r, ev_if_neg hn hr, hb, fun h => ⟨by omega, hall h⟩⟩

theorem set_at {α : Type} (p : List α) (x y : α) (q : List α) : (p ++ x :: q).set p.length y = p ++ y :: q := by
  rw [List.set_append_right _ _ (Nat.le_refl _), Nat.sub_self]; rfl

theorem toStringS_loop (l : List ByteArray) (hl : l.length ≤ 1048576) : ∀ (rest pre : List ByteArray) (i : Nat), l.drop i = rest → pre.length = i →
    Ev (fun k => laws_toStringS.l0 k l (pre ++ List.replicate rest.length (⟨#[]⟩ : ByteArray)) i) (pre ++ rest)
  | [], pre, i, hd, hp => by
    have h := drop_nil hd
    exact Ev.step (fun k => laws_toStringS.l0.eq_2 ..) (ev_if_neg (by omega) (ev_some rfl))
  | s :: rest, pre, i, hd, hp => by
    obtain ⟨hi, hd', hx⟩ := drop_cons hd
    refine Ev.step (fun k => laws_toStringS.l0.eq_2 ..) (ev_if_pos (by omega) (ev_if_pos (by omega) (ev_if_pos (by simp; omega) ?_)))
    rw [wrap_succ (by omega), hx, Int.toNat_natCast, List.length_cons, List.replicate_succ]
    subst hp
    rw [set_at]
    have := toStringS_loop l hl rest (pre ++ [s]) (pre.length + 1) hd' (by simp)
    simpa using this
theorem toStringS_ev (l : List ByteArray) (hl : l.length ≤ 1048576) : Ev (fun k => laws_toStringS.f k l) l := by
  unfold laws_toStringS.f
  refine ev_if_pos (by omega) (ev_if_pos (by omega) ?_)
  rw [Int.toNat_natCast]
  exact toStringS_loop l hl l [] 0 rfl rfl

/-! ### lists of texts: alike -/
theorem eqStringS_loop (l : List ByteArray) (hl : l.length ≤ 1152921504606846976) : ∀ (rest : List ByteArray) (i : Nat), l.drop i = rest → Ev (fun k => laws_eqStringS.l0 k l l i) true
  | [], i, hd => by
    have h := drop_nil hd
    exact Ev.step (fun k => laws_eqStringS.l0.eq_2 ..) (ev_if_neg (by omega) (ev_some rfl))
  | s :: rest, i, hd => by
    obtain ⟨hi, hd', hx⟩ := drop_cons hd
    refine Ev.step (fun k => laws_eqStringS.l0.eq_2 ..) (ev_if_pos (by omega) (ev_if_pos (by omega) (ev_if_pos (by omega) (ev_if_pos rfl ?_))))
    rw [wrap_succ (by omega)]
    exact eqStringS_loop l hl rest (i + 1) hd'
theorem eqStringS_ev (l : List ByteArray) (hl : l.length ≤ 1152921504606846976) : Ev (fun k => laws_eqStringS.f k l l) true := by
  unfold laws_eqStringS.f
  exact ev_if_pos rfl (eqStringS_loop l hl l 0 rfl)

theorem all_small_false {l : List ByteArray} (h : ¬ l.all (fun s => decide (s.size ≤ 100)) = true) : l.all (fun s => decide (s.size ≤ 100)) = false := by
  cases hc : l.all (fun s => decide (s.size ≤ 100)) with
  | false => rfl
  | true => exact absurd hc h

theorem rowR_size : ∀ (l : List ByteArray) (acc : ByteArray), (∀ s ∈ l, s.size ≤ 100) → (rowR acc l).size ≤ acc.size + 101 * l.length
  | [], acc, _ => by simp [rowR]
  | s :: l, acc, h => by
    have h1 := h s (by simp)
    have := rowR_size l (acc ++ (strOfNums [(s.size : Int) % 256] ++ s)) (fun t ht => h t (by simp [ht]))
    simp only [rowR, size_append, one_size, List.length_cons] at *
    omega

def listDigAll (kind : Int) (l : List ByteArray) : ByteArray × Bool := if l.length ≤ 20 then listDig kind ⟨#[]⟩ l else (⟨#[]⟩, false)

theorem spec_ListDigest_loop (kind : Int) (l : List ByteArray) (hl : l.length ≤ 1048576) : ∀ (rest : List ByteArray) (i : Nat), l.drop i = rest → (∀ s ∈ l.take i, s.size ≤ 100) →
    Ev (fun k => spec_ListDigest.l0 k kind l l l.length i) (listDigAll kind l)
  | [], i, hd, ht => by
    have h := drop_nil hd
    rw [List.take_of_length_le h] at ht
    have hall : l.all (fun s => decide (s.size ≤ 100)) = true := by rw [List.all_eq_true]; intro s hs; exact decide_eq_true (ht s hs)
    refine Ev.step (fun k => spec_ListDigest.l0.eq_2 ..) (ev_if_neg (by omega) ?_)
    unfold spec_l1Kind.f listDigAll listDig
    rw [if_pos hall]
    have fail : ∀ (b : Bool), b = true → Ev (fun k => spec_ListDigest.j1 k kind l b) (⟨#[]⟩, false) := fun b hb => Ev.step (fun k => spec_ListDigest.j1.eq_2 ..) (ev_if_pos hb (ev_some rfl))
    by_cases h1 : 97 ≤ kind
    · by_cases h2 : kind ≤ 122
      · simp only [ge_iff_le, h1, h2, if_true, decide_true, Option.bind_some]
        by_cases h3 : (l.length : Int) > 20
        · have h4 : ¬ l.length ≤ 20 := by omega
          rw [if_neg h4]
          exact ev_if_pos h3 (fail _ rfl)
        · have h4 : l.length ≤ 20 := by omega
          have hrow : Ev (fun k => spec_l1Row.f k l) (rowR ⟨#[]⟩ l) := spec_row_ev l (by omega) l 0 ⟨#[]⟩ rfl (by show 0 ≤ _; omega) (fun s hs => by have := ht s hs; omega)
          rw [if_pos h4]
          refine ev_if_neg h3 (ev_bind hrow ?_)
          unfold digOf
          by_cases h5 : (rowR ⟨#[]⟩ l).size ≤ 600
          · rw [if_pos ⟨h1, h2, h5⟩]
            refine Ev.step (fun k => spec_ListDigest.j1.eq_2 ..) (ev_if_neg (by simp; omega) (ev_bind hrow (ev_bind (spec_digest_ev kind _ h1 h2 (by omega)) (ev_some rfl))))
          · rw [if_neg (by omega)]
            exact fail _ (by simp; omega)
      · simp only [ge_iff_le, h1, h2, if_true, decide_false, Option.bind_some, if_false, Bool.false_eq_true]
        refine ev_eq (fail true rfl) ?_
        simp [digOf, h2]
    · simp only [ge_iff_le, h1, if_false, Option.bind_some, Bool.false_eq_true]
      refine ev_eq (fail true rfl) ?_
      simp [digOf, h1]
  | s :: rest, i, hd, ht => by
    obtain ⟨hi, hd', hx⟩ := drop_cons hd
    refine Ev.step (fun k => spec_ListDigest.l0.eq_2 ..) (ev_if_pos (by omega) (ev_if_pos (by omega) (ev_if_pos (by omega) ?_)))
    rw [hx]
    have hsl : s ∈ l := by
      have : s ∈ l.drop i := by rw [hd]; exact List.mem_cons_self
      exact List.mem_of_mem_drop this
    by_cases hs : s.size ≤ 100
    · refine ev_if_neg (by omega) ?_
      rw [wrap_succ (by omega)]
      refine spec_ListDigest_loop kind l hl rest (i + 1) hd' ?_
      intro t ht'
      have e : l.take (i + 1) = l.take i ++ [s] := by
        rw [List.take_succ_eq_append_getElem hi]
        congr 2
        have := List.drop_eq_getElem_cons hi
        rw [hd] at this
        injection this with this _
        exact this.symm
      rw [e] at ht'
      rcases List.mem_append.1 ht' with h | h
      · exact ht t h
      · simp at h; subst h; exact hs
    · refine ev_if_pos (by omega) (ev_some ?_)
      unfold listDigAll listDig
      have hn : l.all (fun s => decide (s.size ≤ 100)) = false := all_small_false (by
        intro h
        rw [List.all_eq_true] at h
        exact hs (by simpa using h s hsl))
      rw [hn]
      simp

theorem FnExactListDigest : laws_FnExactListDigest.Pure := by
  intro kind l _ hw
  refine Ev.rounds (g := fun k => laws_FnExactListDigest.f k kind l) ?_
  unfold laws_FnExactListDigest.f
  obtain ⟨r, hr, _, hall⟩ := szStringS_ev l 1048576 (by omega) (by omega) hw.1 hw.2
  refine ev_bind hr ?_
  by_cases hn : r < 0
  · exact ev_if_pos hn (ev_some rfl)
  obtain ⟨h1, h2⟩ := hall (by omega)
  refine ev_if_neg hn ?_
  have hto := toStringS_ev l h1
  have himpl : Ev (fun k => impl_ListDigest.f k kind l) (listDigAll kind l) := by
    unfold impl_ListDigest.f listDigAll
    by_cases h3 : l.length ≤ 20
    · rw [if_pos h3]
      exact ev_if_neg (by omega) (impl_ListDigest_ev kind l h3 l 0 ⟨#[]⟩ rfl (by show 0 ≤ _; omega) (by omega))
    · rw [if_neg h3]
      exact ev_if_pos (by omega) (ev_some rfl)
  refine ev_bind hto (ev_bind (spec_ListDigest_loop kind l h1 l 0 rfl (by simp)) (ev_bind hto (ev_bind himpl (ev_if_pos rfl ?_))))
  rw [bne_self_eq_false]
  exact Ev.step (fun k => laws_FnExactListDigest.j0.eq_2 ..) (ev_if_neg (by simp) (ev_bind hto (ev_bind (eqStringS_ev l (by omega)) (ev_if_pos rfl (ev_some rfl)))))

end Go.Proofs.Ytgnpbbdejagbnaa.Pure
