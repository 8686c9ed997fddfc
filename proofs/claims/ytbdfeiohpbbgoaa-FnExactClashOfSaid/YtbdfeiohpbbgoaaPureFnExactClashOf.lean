/- The law FnExactClashOf holds at every input; no conditions. -/
import Derived.Test.YtbdfeiohpbbgoaaPFnExactClashOfx2
import Derived.Test.YtbdfeiohpbbgoaaBase
import Derived.OpenShut
namespace Go.Proofs.Ytbdfeiohpbbgoaa.Pure
open Go.RowKit Go.Proofs.Ytbdfeiohpbbgoaa.PFnExactClashOf Go.Proofs.YtbdfeiohpbbgoaaW.PrintWords Go.Proofs.YtbdfeiohpbbgoaaW.PrintLast Go.Proofs.Ytbdfeiohpbbgoaa.Base
set_option linter.unusedSimpArgs false
set_option linter.unusedVariables false

/-! ### digests -/
def feedN (s : ByteArray) : Nat → Nat → Int → Int → Int × Int
  | 0, _, A, B => (A, B)
  | d + 1, i, A, B => feedN s d (i + 1) ((A + bt s i) % 65521) ((B + (A + bt s i) % 65521) % 65521)

theorem feedN_range (s : ByteArray) : ∀ (d i : Nat) (A B : Int), 0 ≤ A → A < 65521 → 0 ≤ B → B < 65521 →
    0 ≤ (feedN s d i A B).1 ∧ (feedN s d i A B).1 < 65521 ∧ 0 ≤ (feedN s d i A B).2 ∧ (feedN s d i A B).2 < 65521
  | 0, _, _, _, h1, h2, h3, h4 => ⟨h1, h2, h3, h4⟩
  | d + 1, i, A, B, _, _, _, _ => feedN_range s d (i + 1) _ _ (by omega) (by omega) (by omega) (by omega)

def dig (kind : Int) (s : ByteArray) : ByteArray :=
  strOfNums [(feedN s s.size 0 (kind + 1) (kind + 1)).2 / 256, (feedN s s.size 0 (kind + 1) (kind + 1)).2 % 256, (feedN s s.size 0 (kind + 1) (kind + 1)).1 / 256, (feedN s s.size 0 (kind + 1) (kind + 1)).1 % 256]

theorem spec_feed_ev (s : ByteArray) (hs : s.size ≤ 1152921504606846976) (L : Int) : ∀ (d i : Nat) (A B : Int), i + d = s.size → 0 ≤ A → A < 65521 → 0 ≤ B → B < 65521 →
    Ev (fun k => spec_l1Feed.l0 k s i A B L) ((feedN s d i A B).1, (feedN s d i A B).2, wrap64 (L + s.size))
  | 0, i, A, B, hd, _, _, _, _ => by
    refine Ev.step (fun k => spec_l1Feed.l0.eq_2 ..) ?_
    refine ev_if_neg (by omega) ?_
    exact ev_some rfl
  | d + 1, i, A, B, hd, h1, h2, h3, h4 => by
    refine Ev.step (fun k => spec_l1Feed.l0.eq_2 ..) ?_
    refine ev_if_pos (by omega) (ev_if_pos (by omega) ?_)
    have hb := bt_range s i
    rw [wrap_succ (by omega), wrap_bt, wrap_id (x := A + bt s i) (by omega) (by omega), tmod_nn (by omega), wrap_id (by omega) (by omega), tmod_nn (by omega)]
    exact spec_feed_ev s hs L d (i + 1) _ _ (by omega) (by omega) (by omega) (by omega) (by omega)

theorem impl_feed_ev (s : ByteArray) (hs : s.size ≤ 1152921504606846976) (L : Int) : ∀ (d i : Nat) (A B : Int), i + d = s.size → 0 ≤ A → A < 65521 → 0 ≤ B → B < 65521 →
    Ev (fun k => impl_Mix_feed.l0 k s s.size i A B L) ((feedN s d i A B).1, (feedN s d i A B).2, wrap64 (L + s.size))
  | 0, i, A, B, hd, _, _, _, _ => by
    refine Ev.step (fun k => impl_Mix_feed.l0.eq_2 ..) ?_
    refine ev_if_neg (by omega) ?_
    exact ev_some rfl
  | d + 1, i, A, B, hd, h1, h2, h3, h4 => by
    refine Ev.step (fun k => impl_Mix_feed.l0.eq_2 ..) ?_
    refine ev_if_pos (by omega) (ev_if_pos (by omega) (ev_if_pos (by omega) ?_))
    have hb := bt_range s i
    rw [wrap_succ (by omega), wrap_bt, wrap_id (x := A + bt s i) (by omega) (by omega), tmod_nn (by omega), wrap_id (by omega) (by omega), tmod_nn (by omega)]
    exact impl_feed_ev s hs L d (i + 1) _ _ (by omega) (by omega) (by omega) (by omega) (by omega)

theorem spec_digest_ev (kind : Int) (s : ByteArray) (h1 : 97 ≤ kind) (h2 : kind ≤ 122) (hs : s.size ≤ 1152921504606846976) : Ev (fun k => spec_l1Digest.f k kind s) (dig kind s) := by
  unfold spec_l1Digest.f spec_NewMix.f spec_l1Kind.f spec_l1End.f spec_l1Feed.f
  rw [if_pos h1, decide_eq_true h2, wrap_id (x := kind) (by omega) (by omega), wrap_id (by omega) (by omega)]
  simp only [Option.bind_some, if_true]
  have h := spec_feed_ev s hs 0 s.size 0 (1 + kind) (1 + kind) (by omega) (by omega) (by omega) (by omega) (by omega)
  have e : (1 : Int) + kind = kind + 1 := by omega
  rw [e] at h ⊢
  refine ev_bind h (ev_some ?_)
  have hr := feedN_range s s.size 0 (kind + 1) (kind + 1) (by omega) (by omega) (by omega) (by omega)
  unfold dig
  simp only
  generalize feedN s s.size 0 (kind + 1) (kind + 1) = p at *
  have e1 : p.2 / 256 % 256 = p.2 / 256 := by omega
  have e2 : p.1 / 256 % 256 = p.1 / 256 := by omega
  rw [e1, e2]

theorem impl_digest_ev (kind : Int) (s : ByteArray) (h1 : 97 ≤ kind) (h2 : kind ≤ 122) (hs : s.size ≤ 1152921504606846976) : Ev (fun k => impl_digest.f k kind s) (dig kind s) := by
  unfold impl_digest.f impl_newMix.f impl_Mix_end.f impl_Mix_feed.f
  rw [wrap_id (x := kind) (by omega) (by omega), wrap_id (by omega) (by omega)]
  simp only [Option.bind_some]
  have h := impl_feed_ev s hs 0 s.size 0 (kind + 1) (kind + 1) (by omega) (by omega) (by omega) (by omega) (by omega)
  refine ev_bind h (ev_some ?_)
  have hr := feedN_range s s.size 0 (kind + 1) (kind + 1) (by omega) (by omega) (by omega) (by omega)
  unfold dig
  simp only
  generalize feedN s s.size 0 (kind + 1) (kind + 1) = p at *
  rw [tdiv_nn (by omega), tdiv_nn (by omega), tmod_nn (by omega), tmod_nn (by omega), wrap_id (by omega) (by omega), wrap_id (by omega) (by omega)]
  have e1 : p.2 / 256 % 256 = p.2 / 256 := by omega
  have e2 : p.1 / 256 % 256 = p.1 / 256 := by omega
  have e3 : p.2 % 256 % 256 = p.2 % 256 := by omega
  have e4 : p.1 % 256 % 256 = p.1 % 256 := by omega
  rw [e1, e2, e3, e4]

theorem dig_size (kind : Int) (s : ByteArray) : (dig kind s).size = 4 := rfl

def digOf (kind : Int) (s : ByteArray) : ByteArray × Bool := if 97 ≤ kind ∧ kind ≤ 122 ∧ s.size ≤ 600 then (dig kind s, true) else (⟨#[]⟩, false)


theorem spec_DigestOf_ev (kind : Int) (s : ByteArray) (hs : s.size ≤ 1152921504606846976) : Ev (fun k => spec_DigestOf.f k kind s) (digOf kind s) := by
  unfold spec_DigestOf.f spec_l1Kind.f digOf
  by_cases h1 : 97 ≤ kind
  · by_cases h2 : kind ≤ 122
    · by_cases h3 : s.size ≤ 600
      · have h4 : ¬ (s.size : Int) > 600 := by omega
        simp only [ge_iff_le, h1, h2, h3, h4, if_true, if_false, decide_true, Option.bind_some, and_self]
        exact ev_bind (spec_digest_ev kind s h1 h2 hs) (ev_some rfl)
      · have h4 : (s.size : Int) > 600 := by omega
        simp only [ge_iff_le, h1, h2, h3, h4, if_true, if_false, decide_true, Option.bind_some, and_false]
        exact ev_some rfl
    · simp only [ge_iff_le, h1, h2, if_true, if_false, decide_false, Option.bind_some, and_false, false_and, Bool.false_eq_true]
      exact ev_some rfl
  · simp only [ge_iff_le, h1, if_false, Option.bind_some, false_and, Bool.false_eq_true]
    exact ev_some rfl

theorem impl_DigestOf_ev (kind : Int) (s : ByteArray) (hs : s.size ≤ 1152921504606846976) : Ev (fun k => impl_DigestOf.f k kind s) (digOf kind s) := by
  unfold impl_DigestOf.f impl_isKind.f digOf
  by_cases h1 : 97 ≤ kind
  · by_cases h2 : kind ≤ 122
    · by_cases h3 : s.size ≤ 600
      · have h4 : ¬ (s.size : Int) > 600 := by omega
        simp only [ge_iff_le, h1, h2, h3, h4, if_true, if_false, decide_true, Option.bind_some, and_self]
        exact ev_bind (impl_digest_ev kind s h1 h2 hs) (ev_some rfl)
      · have h4 : (s.size : Int) > 600 := by omega
        simp only [ge_iff_le, h1, h2, h3, h4, if_true, if_false, decide_true, Option.bind_some, and_false]
        exact ev_some rfl
    · simp only [ge_iff_le, h1, h2, if_true, if_false, decide_false, Option.bind_some, and_false, false_and, Bool.false_eq_true]
      exact ev_some rfl
  · simp only [ge_iff_le, h1, if_false, Option.bind_some, false_and, Bool.false_eq_true]
    exact ev_some rfl

theorem FnExactClashOf : laws_FnExactClashOf.Pure := by
  intro kind s t _ h1 h2
  refine Ev.rounds (g := fun k => laws_FnExactClashOf.f k kind s t) ?_
  unfold laws_FnExactClashOf.f spec_ClashOf.f impl_ClashOf.f
  by_cases hb : (s.size : Int) > 1048576
  · exact ev_if_pos hb (ev_some rfl)
  · refine ev_if_neg hb ?_
    by_cases hc : (t.size : Int) > 1048576
    · exact ev_if_pos hc (ev_some rfl)
    · refine ev_if_neg hc ?_
      generalize hp : digOf kind s = p
      generalize hq : digOf kind t = q
      have a1 := spec_DigestOf_ev kind s (by omega)
      have a2 := spec_DigestOf_ev kind t (by omega)
      have b1 := impl_DigestOf_ev kind s (by omega)
      have b2 := impl_DigestOf_ev kind t (by omega)
      rw [hp] at a1 b1
      rw [hq] at a2 b2
      refine ev_bind (a := if p.2 = true then (if q.2 = true then (if s.toList = t.toList then (false, true) else (p.1.toList == q.1.toList, true)) else (false, false)) else (false, false)) ?_ (ev_bind (a := if p.2 = true then (if q.2 = true then (if s.toList = t.toList then (false, true) else (p.1.toList == q.1.toList, true)) else (false, false)) else (false, false)) ?_ ?_)
      · refine ev_bind a1 (ev_bind a2 ?_)
        repeat' first | (refine ev_ite ?_ ?_; all_goals intro _) | exact ev_some rfl
      · refine ev_bind b1 (ev_bind b2 ?_)
        repeat' first | (refine ev_ite ?_ ?_; all_goals intro _) | exact ev_some rfl
      · simp only [bne_self_eq_false, Bool.false_eq_true, if_false]
        exact ev_some rfl

end Go.Proofs.Ytbdfeiohpbbgoaa.Pure
