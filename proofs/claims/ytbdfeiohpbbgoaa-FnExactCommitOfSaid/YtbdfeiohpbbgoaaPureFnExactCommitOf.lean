/- The law FnExactCommitOf holds at every input; no conditions. -/
import Derived.Test.YtbdfeiohpbbgoaaPFnExactCommitOfx2
import Derived.Test.YtbdfeiohpbbgoaaBase
import Derived.OpenShut
namespace Go.Proofs.Ytbdfeiohpbbgoaa.Pure
open Go.RowKit Go.Proofs.Ytbdfeiohpbbgoaa.PFnExactCommitOf Go.Proofs.YtbdfeiohpbbgoaaW.PrintWords Go.Proofs.YtbdfeiohpbbgoaaW.PrintLast Go.Proofs.Ytbdfeiohpbbgoaa.Base
set_option linter.unusedSimpArgs false
set_option linter.unusedVariables false

/-! ### digests -/
def feedN (s : ByteArray) : Nat → Nat → Int → Int → Int × Int
  | 0, _, A, B => (A, B)
  | d + 1, i, A, B => feedN s d (i + 1) ((A + bt s i) % 65521) ((B + (A + bt s i) % 65521) % 65521)

theorem feedN_range (s : ByteArray) : ∀ (d i : Nat) (A B : Int), 0 ≤ A → A < 65521 → 0 ≤ B → B < 65521 →
    0 ≤ (feedN s d i A B).1 ∧ (feedN s d i A B).1 < 65521 ∧ 0 ≤ (feedN s d i A B).2 ∧ (feedN s d i A B).2 < 65521
  | 0, _, _, _, h1, h2, h3, h4 => ⟨h1, h2, h3, h4⟩
  | d + 1, i, A, B, _, _, _, _ => feedN_range s d (i + 1) _ _ (by omega) (by omega) (by omega) (by omega)

def dig (kind : Int) (s : ByteArray) : ByteArray :=
  strOfNums [(feedN s s.size 0 (kind + 1) (kind + 1)).2 / 256, (feedN s s.size 0 (kind + 1) (kind + 1)).2 % 256, (feedN s s.size 0 (kind + 1) (kind + 1)).1 / 256, (feedN s s.size 0 (kind + 1) (kind + 1)).1 % 256]

theorem spec_feed_ev (s : ByteArray) (hs : s.size ≤ 1152921504606846976) (L : Int) : ∀ (d i : Nat) (A B : Int), i + d = s.size → 0 ≤ A → A < 65521 → 0 ≤ B → B < 65521 →
    Ev (fun k => spec_l1Feed.l0 k s i A B L) ((feedN s d i A B).1, (feedN s d i A B).2, wrap64 (L + s.size))
  | 0, i, A, B, hd, _, _, _, _ => by
    refine Ev.step (fun k => spec_l1Feed.l0.eq_2 ..) ?_
    refine ev_if_neg (by omega) ?_
    exact ev_some rfl
  | d + 1, i, A, B, hd, h1, h2, h3, h4 => by
    refine Ev.step (fun k => spec_l1Feed.l0.eq_2 ..) ?_
    refine ev_if_pos (by omega) (ev_if_pos (by omega) ?_)
    have hb := bt_range s i
    rw [wrap_succ (by omega), wrap_bt, wrap_id (x := A + bt s i) (by omega) (by omega), tmod_nn (by omega), wrap_id (by omega) (by omega), tmod_nn (by omega)]
    exact spec_feed_ev s hs L d (i + 1) _ _ (by omega) (by omega) (by omega) (by omega) (by omega)

theorem impl_feed_ev (s : ByteArray) (hs : s.size ≤ 1152921504606846976) (L : Int) : ∀ (d i : Nat) (A B : Int), i + d = s.size → 0 ≤ A → A < 65521 → 0 ≤ B → B < 65521 →
    Ev (fun k => impl_Mix_feed.l0 k s s.size i A B L) ((feedN s d i A B).1, (feedN s d i A B).2, wrap64 (L + s.size))
  | 0, i, A, B, hd, _, _, _, _ => by
    refine Ev.step (fun k => impl_Mix_feed.l0.eq_2 ..) ?_
    refine ev_if_neg (by omega) ?_
    exact ev_some rfl
  | d + 1, i, A, B, hd, h1, h2, h3, h4 => by
    refine Ev.step (fun k => impl_Mix_feed.l0.eq_2 ..) ?_
    refine ev_if_pos (by omega) (ev_if_pos (by omega) (ev_if_pos (by omega) ?_))
    have hb := bt_range s i
    rw [wrap_succ (by omega), wrap_bt, wrap_id (x := A + bt s i) (by omega) (by omega), tmod_nn (by omega), wrap_id (by omega) (by omega), tmod_nn (by omega)]
    exact impl_feed_ev s hs L d (i + 1) _ _ (by omega) (by omega) (by omega) (by omega) (by omega)

theorem spec_digest_ev (kind : Int) (s : ByteArray) (h1 : 97 ≤ kind) (h2 : kind ≤ 122) (hs : s.size ≤ 1152921504606846976) : Ev (fun k => spec_l1Digest.f k kind s) (dig kind s) := by
  unfold spec_l1Digest.f spec_NewMix.f spec_l1Kind.f spec_l1End.f spec_l1Feed.f
  rw [if_pos h1, decide_eq_true h2, wrap_id (x := kind) (by omega) (by omega), wrap_id (by omega) (by omega)]
  simp only [Option.bind_some, if_true]
  have h := spec_feed_ev s hs 0 s.size 0 (1 + kind) (1 + kind) (by omega) (by omega) (by omega) (by omega) (by omega)
  have e : (1 : Int) + kind = kind + 1 := by omega
  rw [e] at h ⊢
  refine ev_bind h (ev_some ?_)
  have hr := feedN_range s s.size 0 (kind + 1) (kind + 1) (by omega) (by omega) (by omega) (by omega)
  unfold dig
  simp only
  generalize feedN s s.size 0 (kind + 1) (kind + 1) = p at *
  have e1 : p.2 / 256 % 256 = p.2 / 256 := by omega
  have e2 : p.1 / 256 % 256 = p.1 / 256 := by omega
  rw [e1, e2]

theorem impl_digest_ev (kind : Int) (s : ByteArray) (h1 : 97 ≤ kind) (h2 : kind ≤ 122) (hs : s.size ≤ 1152921504606846976) : Ev (fun k => impl_digest.f k kind s) (dig kind s) := by
  unfold impl_digest.f impl_newMix.f impl_Mix_end.f impl_Mix_feed.f
  rw [wrap_id (x := kind) (by omega) (by omega), wrap_id (by omega) (by omega)]
  simp only [Option.bind_some]
  have h := impl_feed_ev s hs 0 s.size 0 (kind + 1) (kind + 1) (by omega) (by omega) (by omega) (by omega) (by omega)
  refine ev_bind h (ev_some ?_)
  have hr := feedN_range s s.size 0 (kind + 1) (kind + 1) (by omega) (by omega) (by omega) (by omega)
  unfold dig
  simp only
  generalize feedN s s.size 0 (kind + 1) (kind + 1) = p at *
  rw [tdiv_nn (by omega), tdiv_nn (by omega), tmod_nn (by omega), tmod_nn (by omega), wrap_id (by omega) (by omega), wrap_id (by omega) (by omega)]
  have e1 : p.2 / 256 % 256 = p.2 / 256 := by omega
  have e2 : p.1 / 256 % 256 = p.1 / 256 := by omega
  have e3 : p.2 % 256 % 256 = p.2 % 256 := by omega
  have e4 : p.1 % 256 % 256 = p.1 % 256 := by omega
  rw [e1, e2, e3, e4]

theorem dig_size (kind : Int) (s : ByteArray) : (dig kind s).size = 4 := rfl

def digOf (kind : Int) (s : ByteArray) : ByteArray × Bool := if 97 ≤ kind ∧ kind ≤ 122 ∧ s.size ≤ 600 then (dig kind s, true) else (⟨#[]⟩, false)


theorem impl_DigestOf_ev (kind : Int) (s : ByteArray) (hs : s.size ≤ 1152921504606846976) : Ev (fun k => impl_DigestOf.f k kind s) (digOf kind s) := by
  unfold impl_DigestOf.f impl_isKind.f digOf
  by_cases h1 : 97 ≤ kind
  · by_cases h2 : kind ≤ 122
    · by_cases h3 : s.size ≤ 600
      · have h4 : ¬ (s.size : Int) > 600 := by omega
        simp only [ge_iff_le, h1, h2, h3, h4, if_true, if_false, decide_true, Option.bind_some, and_self]
        exact ev_bind (impl_digest_ev kind s h1 h2 hs) (ev_some rfl)
      · have h4 : (s.size : Int) > 600 := by omega
        simp only [ge_iff_le, h1, h2, h3, h4, if_true, if_false, decide_true, Option.bind_some, and_false]
        exact ev_some rfl
    · simp only [ge_iff_le, h1, h2, if_true, if_false, decide_false, Option.bind_some, and_false, false_and, Bool.false_eq_true]
      exact ev_some rfl
  · simp only [ge_iff_le, h1, if_false, Option.bind_some, false_and, Bool.false_eq_true]
    exact ev_some rfl

/-! ### lists of texts -/
def rowR (acc : ByteArray) : List ByteArray → ByteArray
  | [] => acc
  | s :: l => rowR (acc ++ (strOfNums [(s.size : Int) % 256] ++ s)) l

theorem spec_row_ev (l : List ByteArray) (hl : l.length ≤ 1000) : ∀ (rest : List ByteArray) (i : Nat) (acc : ByteArray), l.drop i = rest → acc.size ≤ 140737488351232 * (i + 1) → (∀ s ∈ rest, s.size ≤ 1048576) →
    Ev (fun k => spec_l1Row.l0 k acc l l.length i) (rowR acc rest)
  | [], i, acc, hd, _, _ => by
    have h := drop_nil hd
    refine Ev.step (fun k => spec_l1Row.l0.eq_2 ..) ?_
    exact ev_if_neg (by omega) (ev_some rfl)
  | s :: rest, i, acc, hd, ha, hr => by
    obtain ⟨hi, hd', hx⟩ := drop_cons hd
    have hs := hr s (by simp)
    refine Ev.step (fun k => spec_l1Row.l0.eq_2 ..) ?_
    refine ev_if_pos (by omega) (ev_if_pos (by omega) (ev_if_pos (by omega) ?_))
    simp only [hx, Option.bind_some]
    have e : (strOfNums [(s.size : Int) % 256] ++ s).size = 1 + s.size := by rw [size_append, one_size]
    refine ev_if_pos (by rw [one_size]; omega) (ev_if_pos (by rw [e]; omega) ?_)
    rw [wrap_succ (by omega)]
    exact spec_row_ev l hl rest (i + 1) _ hd' (by rw [size_append, e]; omega) (fun t ht => hr t (by simp [ht]))

def listDig (kind : Int) (acc : ByteArray) (l : List ByteArray) : ByteArray × Bool := if l.all (fun s => decide (s.size ≤ 100)) then digOf kind (rowR acc l) else (⟨#[]⟩, false)

theorem impl_ListDigest_ev (kind : Int) (l : List ByteArray) (hl : l.length ≤ 20) : ∀ (rest : List ByteArray) (i : Nat) (acc : ByteArray), l.drop i = rest → acc.size ≤ 101 * i → i ≤ l.length →
    Ev (fun k => impl_ListDigest.l0 k kind acc l l.length i) (listDig kind acc rest)
  | [], i, acc, hd, ha, hn => by
    have h := drop_nil hd
    refine Ev.step (fun k => impl_ListDigest.l0.eq_2 ..) ?_
    exact ev_if_neg (by omega) (ev_bind (impl_DigestOf_ev kind acc (by omega)) (ev_some rfl))
  | s :: rest, i, acc, hd, ha, hn => by
    obtain ⟨hi, hd', hx⟩ := drop_cons hd
    refine Ev.step (fun k => impl_ListDigest.l0.eq_2 ..) ?_
    refine ev_if_pos (by omega) (ev_if_pos (by omega) (ev_if_pos (by omega) ?_))
    simp only [hx]
    by_cases hs : s.size ≤ 100
    · refine ev_if_neg (by omega) ?_
      simp only [impl_oneByte.f, Option.bind_some]
      have e : (strOfNums [(s.size : Int) % 256] ++ s).size = 1 + s.size := by rw [size_append, one_size]
      refine ev_if_pos (by rw [one_size]; omega) (ev_if_pos (by rw [e]; omega) ?_)
      rw [wrap_succ (by omega)]
      refine ev_eq (impl_ListDigest_ev kind l hl rest (i + 1) _ hd' (by rw [size_append, e]; omega) (by omega)) ?_
      simp [listDig, rowR, hs]
    · refine ev_if_pos (by omega) (ev_some ?_)
      simp [listDig, hs]

theorem FnExactCommitOf : laws_FnExactCommitOf.Pure := by
  intro a b c h1 h2 h3
  refine Ev.rounds (g := fun k => laws_FnExactCommitOf.f k a b c) ?_
  unfold laws_FnExactCommitOf.f
  by_cases ha : (a.size : Int) > 1048576
  · exact ev_if_pos ha (ev_some rfl)
  by_cases hb : (b.size : Int) > 1048576
  · exact ev_if_neg ha (ev_if_pos hb (ev_some rfl))
  by_cases hc : (c.size : Int) > 1048576
  · exact ev_if_neg ha (ev_if_neg hb (ev_if_pos hc (ev_some rfl)))
  refine ev_if_neg ha (ev_if_neg hb (ev_if_neg hc ?_))
  have key : ∃ r, Ev (fun k => spec_CommitOf.f k a b c) r ∧ Ev (fun k => impl_CommitOf.f k a b c) r := by
    unfold spec_CommitOf.f impl_CommitOf.f impl_isName.f impl_within.f spec_l15Good.f spec_l15Name.f spec_l1In.f
    by_cases e1 : (a.size : Int) ≥ 1
    · by_cases e2 : (a.size : Int) ≤ 8
      · by_cases e3 : (b.size : Int) ≥ 1
        · by_cases e4 : (b.size : Int) ≤ 8
          · by_cases e5 : (c.size : Int) ≤ 40
            · refine ⟨(dig 98 (rowR ⟨#[]⟩ [a, b, c]), true), ?_, ?_⟩
              · simp only [e1, e2, e3, e4, e5, Option.bind_some, decide_true, if_true]
                unfold spec_l15Commit.f
                refine ev_bind (ev_bind (spec_row_ev [a, b, c] (by simp) [a, b, c] 0 ⟨#[]⟩ rfl (by show 0 ≤ _; omega) ?_) (ev_bind (spec_digest_ev 98 _ (by omega) (by omega) ?_) (ev_some rfl))) (ev_some rfl)
                · intro s hs; simp at hs; rcases hs with rfl | rfl | rfl <;> omega
                · simp only [rowR, size_append, one_size]
                  show 0 + _ + _ + _ ≤ _
                  omega
              · simp only [e1, e2, e3, e4, Option.bind_some, decide_true, if_true]
                refine ev_if_neg (by omega) ?_
                unfold impl_ListDigest.f
                refine ev_bind (ev_if_neg (by simp) (impl_ListDigest_ev 98 [a, b, c] (by simp) [a, b, c] 0 ⟨#[]⟩ rfl (by show 0 ≤ _; omega) (by simp))) (ev_some ?_)
                have e6 : (rowR ⟨#[]⟩ [a, b, c]).size ≤ 600 := by
                  simp only [rowR, size_append, one_size]
                  show 0 + _ + _ + _ ≤ _
                  omega
                have e7 : a.size ≤ 100 ∧ b.size ≤ 100 ∧ c.size ≤ 100 := by omega
                simp [listDig, digOf, e6, e7]
            · refine ⟨(⟨#[]⟩, false), ev_fun fun _ => ?_, ?_⟩
              · simp [e1, e2, e3, e4, e5]
              · simp only [e1, e2, e3, e4, Option.bind_some, decide_true, if_true]
                exact ev_if_pos (by omega) (ev_some rfl)
          · refine ⟨(⟨#[]⟩, false), ev_fun fun _ => ?_, ev_fun fun _ => ?_⟩ <;> simp [e1, e2, e3, e4]
        · refine ⟨(⟨#[]⟩, false), ev_fun fun _ => ?_, ev_fun fun _ => ?_⟩ <;> simp [e1, e2, e3]
      · refine ⟨(⟨#[]⟩, false), ev_fun fun _ => ?_, ev_fun fun _ => ?_⟩ <;> simp [e1, e2]
    · refine ⟨(⟨#[]⟩, false), ev_fun fun _ => ?_, ev_fun fun _ => ?_⟩ <;> simp [e1]
  obtain ⟨r, k1, k2⟩ := key
  refine ev_bind k1 (ev_bind k2 ?_)
  simp only [bne_self_eq_false, Bool.false_eq_true, if_true, if_false]
  exact ev_some rfl

end Go.Proofs.Ytbdfeiohpbbgoaa.Pure
