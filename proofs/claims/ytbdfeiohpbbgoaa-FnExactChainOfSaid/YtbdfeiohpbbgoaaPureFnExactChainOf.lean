/- The law FnExactChainOf holds at every input; no conditions. -/
import Derived.Test.YtbdfeiohpbbgoaaPFnExactChainOfx2
import Derived.Test.YtbdfeiohpbbgoaaBase
import Derived.OpenShut
namespace Go.Proofs.Ytbdfeiohpbbgoaa.Pure
open Go.RowKit Go.Proofs.Ytbdfeiohpbbgoaa.PFnExactChainOf Go.Proofs.YtbdfeiohpbbgoaaW.PrintWords Go.Proofs.YtbdfeiohpbbgoaaW.PrintLast Go.Proofs.Ytbdfeiohpbbgoaa.Base
set_option linter.unusedSimpArgs false
set_option linter.unusedVariables false

/-! ### digests -/
def feedN (s : ByteArray) : Nat → Nat → Int → Int → Int × Int
  | 0, _, A, B => (A, B)
  | d + 1, i, A, B => feedN s d (i + 1) ((A + bt s i) % 65521) ((B + (A + bt s i) % 65521) % 65521)

theorem feedN_range (s : ByteArray) : ∀ (d i : Nat) (A B : Int), 0 ≤ A → A < 65521 → 0 ≤ B → B < 65521 →
    0 ≤ (feedN s d i A B).1 ∧ (feedN s d i A B).1 < 65521 ∧ 0 ≤ (feedN s d i A B).2 ∧ (feedN s d i A B).2 < 65521
  | 0, _, _, _, h1, h2, h3, h4 => ⟨h1, h2, h3, h4⟩
  | d + 1, i, A, B, _, _, _, _ => feedN_range s d (i + 1) _ _ (by omega) (by omega) (by omega) (by omega)

def dig (kind : Int) (s : ByteArray) : ByteArray :=
  strOfNums [(feedN s s.size 0 (kind + 1) (kind + 1)).2 / 256, (feedN s s.size 0 (kind + 1) (kind + 1)).2 % 256, (feedN s s.size 0 (kind + 1) (kind + 1)).1 / 256, (feedN s s.size 0 (kind + 1) (kind + 1)).1 % 256]

theorem spec_feed_ev (s : ByteArray) (hs : s.size ≤ 1152921504606846976) (L : Int) : ∀ (d i : Nat) (A B : Int), i + d = s.size → 0 ≤ A → A < 65521 → 0 ≤ B → B < 65521 →
    Ev (fun k => spec_l1Feed.l0 k s i A B L) ((feedN s d i A B).1, (feedN s d i A B).2, wrap64 (L + s.size))
  | 0, i, A, B, hd, _, _, _, _ => by
    refine Ev.step (fun k => spec_l1Feed.l0.eq_2 ..) ?_
    refine ev_if_neg (by omega) ?_
    exact ev_some rfl
  | d + 1, i, A, B, hd, h1, h2, h3, h4 => by
    refine Ev.step (fun k => spec_l1Feed.l0.eq_2 ..) ?_
    refine ev_if_pos (by omega) (ev_if_pos (by omega) ?_)
    have hb := bt_range s i
    rw [wrap_succ (by omega), wrap_bt, wrap_id (x := A + bt s i) (by omega) (by omega), tmod_nn (by omega), wrap_id (by omega) (by omega), tmod_nn (by omega)]
    exact spec_feed_ev s hs L d (i + 1) _ _ (by omega) (by omega) (by omega) (by omega) (by omega)

theorem impl_feed_ev (s : ByteArray) (hs : s.size ≤ 1152921504606846976) (L : Int) : ∀ (d i : Nat) (A B : Int), i + d = s.size → 0 ≤ A → A < 65521 → 0 ≤ B → B < 65521 →
    Ev (fun k => impl_Mix_feed.l0 k s s.size i A B L) ((feedN s d i A B).1, (feedN s d i A B).2, wrap64 (L + s.size))
  | 0, i, A, B, hd, _, _, _, _ => by
    refine Ev.step (fun k => impl_Mix_feed.l0.eq_2 ..) ?_
    refine ev_if_neg (by omega) ?_
    exact ev_some rfl
  | d + 1, i, A, B, hd, h1, h2, h3, h4 => by
    refine Ev.step (fun k => impl_Mix_feed.l0.eq_2 ..) ?_
    refine ev_if_pos (by omega) (ev_if_pos (by omega) (ev_if_pos (by omega) ?_))
    have hb := bt_range s i
    rw [wrap_succ (by omega), wrap_bt, wrap_id (x := A + bt s i) (by omega) (by omega), tmod_nn (by omega), wrap_id (by omega) (by omega), tmod_nn (by omega)]
    exact impl_feed_ev s hs L d (i + 1) _ _ (by omega) (by omega) (by omega) (by omega) (by omega)

theorem spec_digest_ev (kind : Int) (s : ByteArray) (h1 : 97 ≤ kind) (h2 : kind ≤ 122) (hs : s.size ≤ 1152921504606846976) : Ev (fun k => spec_l1Digest.f k kind s) (dig kind s) := by
  unfold spec_l1Digest.f spec_NewMix.f spec_l1Kind.f spec_l1End.f spec_l1Feed.f
  rw [if_pos h1, decide_eq_true h2, wrap_id (x := kind) (by omega) (by omega), wrap_id (by omega) (by omega)]
  simp only [Option.bind_some, if_true]
  have h := spec_feed_ev s hs 0 s.size 0 (1 + kind) (1 + kind) (by omega) (by omega) (by omega) (by omega) (by omega)
  have e : (1 : Int) + kind = kind + 1 := by omega
  rw [e] at h ⊢
  refine ev_bind h (ev_some ?_)
  have hr := feedN_range s s.size 0 (kind + 1) (kind + 1) (by omega) (by omega) (by omega) (by omega)
  unfold dig
  simp only
  generalize feedN s s.size 0 (kind + 1) (kind + 1) = p at *
  have e1 : p.2 / 256 % 256 = p.2 / 256 := by omega
  have e2 : p.1 / 256 % 256 = p.1 / 256 := by omega
  rw [e1, e2]

theorem impl_digest_ev (kind : Int) (s : ByteArray) (h1 : 97 ≤ kind) (h2 : kind ≤ 122) (hs : s.size ≤ 1152921504606846976) : Ev (fun k => impl_digest.f k kind s) (dig kind s) := by
  unfold impl_digest.f impl_newMix.f impl_Mix_end.f impl_Mix_feed.f
  rw [wrap_id (x := kind) (by omega) (by omega), wrap_id (by omega) (by omega)]
  simp only [Option.bind_some]
  have h := impl_feed_ev s hs 0 s.size 0 (kind + 1) (kind + 1) (by omega) (by omega) (by omega) (by omega) (by omega)
  refine ev_bind h (ev_some ?_)
  have hr := feedN_range s s.size 0 (kind + 1) (kind + 1) (by omega) (by omega) (by omega) (by omega)
  unfold dig
  simp only
  generalize feedN s s.size 0 (kind + 1) (kind + 1) = p at *
  rw [tdiv_nn (by omega), tdiv_nn (by omega), tmod_nn (by omega), tmod_nn (by omega), wrap_id (by omega) (by omega), wrap_id (by omega) (by omega)]
  have e1 : p.2 / 256 % 256 = p.2 / 256 := by omega
  have e2 : p.1 / 256 % 256 = p.1 / 256 := by omega
  have e3 : p.2 % 256 % 256 = p.2 % 256 := by omega
  have e4 : p.1 % 256 % 256 = p.1 % 256 := by omega
  rw [e1, e2, e3, e4]

theorem dig_size (kind : Int) (s : ByteArray) : (dig kind s).size = 4 := rfl

/-! ### chains -/
def chainR : Nat → Nat → ByteArray → ByteArray
  | 0, _, s => s
  | n + 1, i, s => chainR n (i + 1) (dig 99 (strOfNums [(i : Int) % 256] ++ s))


theorem spec_chain_ev (f b : Int) (n0 : Nat) (hfb : f + b = (n0 : Int)) (hn0 : n0 ≤ 1000) : ∀ (n i : Nat) (s : ByteArray), i + n = n0 → s.size ≤ 140737488351232 →
    Ev (fun k => spec_l2Chain.l0 k s f b i) (chainR n i s)
  | 0, i, s, hi, hs => by
    refine Ev.step (fun k => spec_l2Chain.l0.eq_2 ..) ?_
    rw [hfb, wrap_cast (by omega)]
    exact ev_if_neg (by omega) (ev_some rfl)
  | n + 1, i, s, hi, hs => by
    refine Ev.step (fun k => spec_l2Chain.l0.eq_2 ..) ?_
    rw [hfb, wrap_cast (by omega)]
    simp only [Option.bind_some]
    refine ev_if_pos (by omega) (ev_if_pos (by rw [one_size]; omega) (ev_bind (spec_digest_ev 99 _ (by omega) (by omega) (by rw [size_append, one_size]; omega)) ?_))
    rw [wrap_succ (by omega)]
    exact spec_chain_ev f b n0 hfb hn0 n (i + 1) _ (by omega) (by rw [dig_size]; omega)

theorem impl_chain_ev (f b : Int) (n0 : Nat) (hfb : f + b = (n0 : Int)) (hn0 : n0 ≤ 1000) : ∀ (n i : Nat) (s : ByteArray), i + n = n0 → s.size ≤ 140737488351232 →
    Ev (fun k => impl_chain.l0 k s f b i) (chainR n i s)
  | 0, i, s, hi, hs => by
    refine Ev.step (fun k => impl_chain.l0.eq_2 ..) ?_
    rw [hfb, wrap_cast (by omega)]
    exact ev_if_neg (by omega) (ev_some rfl)
  | n + 1, i, s, hi, hs => by
    refine Ev.step (fun k => impl_chain.l0.eq_2 ..) ?_
    rw [hfb, wrap_cast (by omega)]
    simp only [impl_oneByte.f, Option.bind_some]
    refine ev_if_pos (by omega) (ev_if_pos (by rw [one_size]; omega) (ev_bind (impl_digest_ev 99 _ (by omega) (by omega) (by rw [size_append, one_size]; omega)) ?_))
    rw [wrap_succ (by omega)]
    exact impl_chain_ev f b n0 hfb hn0 n (i + 1) _ (by omega) (by rw [dig_size]; omega)

theorem chainR_size : ∀ (n i : Nat) (s : ByteArray), 0 < n → (chainR n i s).size = 4
  | 1, _, _, _ => rfl
  | n + 2, i, s, _ => chainR_size (n + 1) (i + 1) _ (by omega)

theorem FnExactChainOf : laws_FnExactChainOf.Pure := by
  intro s f b h1 hf hb
  have hf := bounds_i64 hf
  have hb := bounds_i64 hb
  refine Ev.rounds (g := fun k => laws_FnExactChainOf.f k s f b) ?_
  unfold laws_FnExactChainOf.f
  by_cases hs : (s.size : Int) > 1048576
  · exact ev_if_pos hs (ev_some rfl)
  · refine ev_if_neg hs ?_
    have key : ∃ r, Ev (fun k => spec_ChainOf.f k s f b) r ∧ Ev (fun k => impl_ChainOf.f k s f b) r := by
      unfold spec_ChainOf.f impl_ChainOf.f impl_isDigest.f impl_within.f spec_l1In.f
      by_cases e4 : (s.size : Int) = 4
      · by_cases e1 : f ≥ 0
        · by_cases e2 : f ≤ 15
          · have ew : wrap64 (15 - f) = 15 - f := wrap_id (by omega) (by omega)
            by_cases e3 : b ≥ 0
            · by_cases e5 : b ≤ 15 - f
              · refine ⟨(chainR b.toNat f.toNat s, true), ?_, ?_⟩
                · simp only [e4, e1, e2, e3, e5, ew, Option.bind_some, decide_true, if_true]
                  have h := spec_chain_ev f b (f + b).toNat (by omega) (by omega) b.toNat f.toNat s (by omega) (by omega)
                  rw [show ((f.toNat : Nat) : Int) = f by omega] at h
                  exact ev_bind h (ev_some rfl)
                · simp only [e4, e1, e2, e3, e5, ew, Option.bind_some, decide_true, if_true, beq_self_eq_true]
                  have h := impl_chain_ev f b (f + b).toNat (by omega) (by omega) b.toNat f.toNat s (by omega) (by omega)
                  rw [show ((f.toNat : Nat) : Int) = f by omega] at h
                  exact ev_bind h (ev_some rfl)
              · refine ⟨(⟨#[]⟩, false), ev_fun fun _ => ?_, ev_fun fun _ => ?_⟩ <;> simp [e4, e1, e2, e3, e5, ew]
            · refine ⟨(⟨#[]⟩, false), ev_fun fun _ => ?_, ev_fun fun _ => ?_⟩ <;> simp [e4, e1, e2, e3, ew]
          · refine ⟨(⟨#[]⟩, false), ev_fun fun _ => ?_, ev_fun fun _ => ?_⟩ <;> simp [e4, e1, e2]
        · refine ⟨(⟨#[]⟩, false), ev_fun fun _ => ?_, ev_fun fun _ => ?_⟩ <;> simp [e4, e1]
      · refine ⟨(⟨#[]⟩, false), ev_fun fun _ => ?_, ev_fun fun _ => ?_⟩ <;> simp [e4]
    obtain ⟨r, k1, k2⟩ := key
    refine ev_bind k1 (ev_bind k2 ?_)
    simp only [bne_self_eq_false, Bool.false_eq_true, if_true, if_false]
    exact ev_some rfl

end Go.Proofs.Ytbdfeiohpbbgoaa.Pure
