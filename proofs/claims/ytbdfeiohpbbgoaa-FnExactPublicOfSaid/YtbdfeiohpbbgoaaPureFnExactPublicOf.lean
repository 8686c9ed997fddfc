/- The law FnExactPublicOf holds at every input; no conditions. -/
import Derived.Test.YtbdfeiohpbbgoaaPFnExactPublicOfx2
import Derived.Test.YtbdfeiohpbbgoaaBase
import Derived.OpenShut
namespace Go.Proofs.Ytbdfeiohpbbgoaa.Pure
open Go.RowKit Go.Proofs.Ytbdfeiohpbbgoaa.PFnExactPublicOf Go.Proofs.YtbdfeiohpbbgoaaW.PrintWords Go.Proofs.YtbdfeiohpbbgoaaW.PrintLast Go.Proofs.Ytbdfeiohpbbgoaa.Base
set_option linter.unusedSimpArgs false
set_option linter.unusedVariables false

/-! ### digests -/
def feedN (s : ByteArray) : Nat → Nat → Int → Int → Int × Int
  | 0, _, A, B => (A, B)
  | d + 1, i, A, B => feedN s d (i + 1) ((A + bt s i) % 65521) ((B + (A + bt s i) % 65521) % 65521)

theorem feedN_range (s : ByteArray) : ∀ (d i : Nat) (A B : Int), 0 ≤ A → A < 65521 → 0 ≤ B → B < 65521 →
    0 ≤ (feedN s d i A B).1 ∧ (feedN s d i A B).1 < 65521 ∧ 0 ≤ (feedN s d i A B).2 ∧ (feedN s d i A B).2 < 65521
  | 0, _, _, _, h1, h2, h3, h4 => ⟨h1, h2, h3, h4⟩
  | d + 1, i, A, B, _, _, _, _ => feedN_range s d (i + 1) _ _ (by omega) (by omega) (by omega) (by omega)

def dig (kind : Int) (s : ByteArray) : ByteArray :=
  strOfNums [(feedN s s.size 0 (kind + 1) (kind + 1)).2 / 256, (feedN s s.size 0 (kind + 1) (kind + 1)).2 % 256, (feedN s s.size 0 (kind + 1) (kind + 1)).1 / 256, (feedN s s.size 0 (kind + 1) (kind + 1)).1 % 256]

theorem spec_feed_ev (s : ByteArray) (hs : s.size ≤ 1152921504606846976) (L : Int) : ∀ (d i : Nat) (A B : Int), i + d = s.size → 0 ≤ A → A < 65521 → 0 ≤ B → B < 65521 →
    Ev (fun k => spec_l1Feed.l0 k s i A B L) ((feedN s d i A B).1, (feedN s d i A B).2, wrap64 (L + s.size))
  | 0, i, A, B, hd, _, _, _, _ => by
    refine Ev.step (fun k => spec_l1Feed.l0.eq_2 ..) ?_
    refine ev_if_neg (by omega) ?_
    exact ev_some rfl
  | d + 1, i, A, B, hd, h1, h2, h3, h4 => by
    refine Ev.step (fun k => spec_l1Feed.l0.eq_2 ..) ?_
    refine ev_if_pos (by omega) (ev_if_pos (by omega) ?_)
    have hb := bt_range s i
    rw [wrap_succ (by omega), wrap_bt, wrap_id (x := A + bt s i) (by omega) (by omega), tmod_nn (by omega), wrap_id (by omega) (by omega), tmod_nn (by omega)]
    exact spec_feed_ev s hs L d (i + 1) _ _ (by omega) (by omega) (by omega) (by omega) (by omega)

theorem impl_feed_ev (s : ByteArray) (hs : s.size ≤ 1152921504606846976) (L : Int) : ∀ (d i : Nat) (A B : Int), i + d = s.size → 0 ≤ A → A < 65521 → 0 ≤ B → B < 65521 →
    Ev (fun k => impl_Mix_feed.l0 k s s.size i A B L) ((feedN s d i A B).1, (feedN s d i A B).2, wrap64 (L + s.size))
  | 0, i, A, B, hd, _, _, _, _ => by
    refine Ev.step (fun k => impl_Mix_feed.l0.eq_2 ..) ?_
    refine ev_if_neg (by omega) ?_
    exact ev_some rfl
  | d + 1, i, A, B, hd, h1, h2, h3, h4 => by
    refine Ev.step (fun k => impl_Mix_feed.l0.eq_2 ..) ?_
    refine ev_if_pos (by omega) (ev_if_pos (by omega) (ev_if_pos (by omega) ?_))
    have hb := bt_range s i
    rw [wrap_succ (by omega), wrap_bt, wrap_id (x := A + bt s i) (by omega) (by omega), tmod_nn (by omega), wrap_id (by omega) (by omega), tmod_nn (by omega)]
    exact impl_feed_ev s hs L d (i + 1) _ _ (by omega) (by omega) (by omega) (by omega) (by omega)

theorem spec_digest_ev (kind : Int) (s : ByteArray) (h1 : 97 ≤ kind) (h2 : kind ≤ 122) (hs : s.size ≤ 1152921504606846976) : Ev (fun k => spec_l1Digest.f k kind s) (dig kind s) := by
  unfold spec_l1Digest.f spec_NewMix.f spec_l1Kind.f spec_l1End.f spec_l1Feed.f
  rw [if_pos h1, decide_eq_true h2, wrap_id (x := kind) (by omega) (by omega), wrap_id (by omega) (by omega)]
  simp only [Option.bind_some, if_true]
  have h := spec_feed_ev s hs 0 s.size 0 (1 + kind) (1 + kind) (by omega) (by omega) (by omega) (by omega) (by omega)
  have e : (1 : Int) + kind = kind + 1 := by omega
  rw [e] at h ⊢
  refine ev_bind h (ev_some ?_)
  have hr := feedN_range s s.size 0 (kind + 1) (kind + 1) (by omega) (by omega) (by omega) (by omega)
  unfold dig
  simp only
  generalize feedN s s.size 0 (kind + 1) (kind + 1) = p at *
  have e1 : p.2 / 256 % 256 = p.2 / 256 := by omega
  have e2 : p.1 / 256 % 256 = p.1 / 256 := by omega
  rw [e1, e2]

theorem impl_digest_ev (kind : Int) (s : ByteArray) (h1 : 97 ≤ kind) (h2 : kind ≤ 122) (hs : s.size ≤ 1152921504606846976) : Ev (fun k => impl_digest.f k kind s) (dig kind s) := by
  unfold impl_digest.f impl_newMix.f impl_Mix_end.f impl_Mix_feed.f
  rw [wrap_id (x := kind) (by omega) (by omega), wrap_id (by omega) (by omega)]
  simp only [Option.bind_some]
  have h := impl_feed_ev s hs 0 s.size 0 (kind + 1) (kind + 1) (by omega) (by omega) (by omega) (by omega) (by omega)
  refine ev_bind h (ev_some ?_)
  have hr := feedN_range s s.size 0 (kind + 1) (kind + 1) (by omega) (by omega) (by omega) (by omega)
  unfold dig
  simp only
  generalize feedN s s.size 0 (kind + 1) (kind + 1) = p at *
  rw [tdiv_nn (by omega), tdiv_nn (by omega), tmod_nn (by omega), tmod_nn (by omega), wrap_id (by omega) (by omega), wrap_id (by omega) (by omega)]
  have e1 : p.2 / 256 % 256 = p.2 / 256 := by omega
  have e2 : p.1 / 256 % 256 = p.1 / 256 := by omega
  have e3 : p.2 % 256 % 256 = p.2 % 256 := by omega
  have e4 : p.1 % 256 % 256 = p.1 % 256 := by omega
  rw [e1, e2, e3, e4]

theorem dig_size (kind : Int) (s : ByteArray) : (dig kind s).size = 4 := rfl

/-! ### chains -/
def chainR : Nat → Nat → ByteArray → ByteArray
  | 0, _, s => s
  | n + 1, i, s => chainR n (i + 1) (dig 99 (strOfNums [(i : Int) % 256] ++ s))


theorem spec_chain_ev (f b : Int) (n0 : Nat) (hfb : f + b = (n0 : Int)) (hn0 : n0 ≤ 1000) : ∀ (n i : Nat) (s : ByteArray), i + n = n0 → s.size ≤ 140737488351232 →
    Ev (fun k => spec_l2Chain.l0 k s f b i) (chainR n i s)
  | 0, i, s, hi, hs => by
    refine Ev.step (fun k => spec_l2Chain.l0.eq_2 ..) ?_
    rw [hfb, wrap_cast (by omega)]
    exact ev_if_neg (by omega) (ev_some rfl)
  | n + 1, i, s, hi, hs => by
    refine Ev.step (fun k => spec_l2Chain.l0.eq_2 ..) ?_
    rw [hfb, wrap_cast (by omega)]
    simp only [Option.bind_some]
    refine ev_if_pos (by omega) (ev_if_pos (by rw [one_size]; omega) (ev_bind (spec_digest_ev 99 _ (by omega) (by omega) (by rw [size_append, one_size]; omega)) ?_))
    rw [wrap_succ (by omega)]
    exact spec_chain_ev f b n0 hfb hn0 n (i + 1) _ (by omega) (by rw [dig_size]; omega)

theorem impl_chain_ev (f b : Int) (n0 : Nat) (hfb : f + b = (n0 : Int)) (hn0 : n0 ≤ 1000) : ∀ (n i : Nat) (s : ByteArray), i + n = n0 → s.size ≤ 140737488351232 →
    Ev (fun k => impl_chain.l0 k s f b i) (chainR n i s)
  | 0, i, s, hi, hs => by
    refine Ev.step (fun k => impl_chain.l0.eq_2 ..) ?_
    rw [hfb, wrap_cast (by omega)]
    exact ev_if_neg (by omega) (ev_some rfl)
  | n + 1, i, s, hi, hs => by
    refine Ev.step (fun k => impl_chain.l0.eq_2 ..) ?_
    rw [hfb, wrap_cast (by omega)]
    simp only [impl_oneByte.f, Option.bind_some]
    refine ev_if_pos (by omega) (ev_if_pos (by rw [one_size]; omega) (ev_bind (impl_digest_ev 99 _ (by omega) (by omega) (by rw [size_append, one_size]; omega)) ?_))
    rw [wrap_succ (by omega)]
    exact impl_chain_ev f b n0 hfb hn0 n (i + 1) _ (by omega) (by rw [dig_size]; omega)

theorem chainR_size : ∀ (n i : Nat) (s : ByteArray), 0 < n → (chainR n i s).size = 4
  | 1, _, _, _ => rfl
  | n + 2, i, s, _ => chainR_size (n + 1) (i + 1) _ (by omega)

/-! ### keys -/
def keyOf (seed : ByteArray) (k : Nat) : ByteArray := dig 107 (strOfNums [(k : Int) % 256] ++ seed)

def pubR (seed : ByteArray) : Nat → Nat → ByteArray → ByteArray
  | 0, _, acc => dig 112 acc
  | d + 1, i, acc => pubR seed d (i + 1) (acc ++ chainR 15 0 (keyOf seed i))

theorem spec_key_ev (seed : ByteArray) (hs : seed.size ≤ 1048576) (k : Nat) : Ev (fun n => spec_l2Key.f n seed k) (keyOf seed k) := by
  unfold spec_l2Key.f
  simp only [Option.bind_some]
  exact ev_if_pos (by rw [one_size]; omega) (ev_bind (spec_digest_ev 107 _ (by omega) (by omega) (by rw [size_append, one_size]; omega)) (ev_some rfl))

theorem spec_chain0_ev (s : ByteArray) (hs : s.size ≤ 1048576) : Ev (fun n => spec_l2Chain.f n s 0 15) (chainR 15 0 s) := by
  unfold spec_l2Chain.f
  exact spec_chain_ev 0 15 15 rfl (by omega) 15 0 s rfl (by omega)

theorem impl_chain0_ev (s : ByteArray) (hs : s.size ≤ 1048576) : Ev (fun n => impl_chain.f n s 0 15) (chainR 15 0 s) := by
  unfold impl_chain.f
  exact impl_chain_ev 0 15 15 rfl (by omega) 15 0 s rfl (by omega)

theorem spec_public_ev (seed : ByteArray) (hs : seed.size ≤ 1048576) : ∀ (d i : Nat) (acc : ByteArray), i + d = 11 → acc.size = 4 * i →
    Ev (fun n => spec_l2Public.l0 n seed acc i) (pubR seed d i acc)
  | 0, i, acc, hd, ha => by
    refine Ev.step (fun k => spec_l2Public.l0.eq_2 ..) ?_
    exact ev_if_neg (by omega) (ev_bind (spec_digest_ev 112 _ (by omega) (by omega) (by omega)) (ev_some rfl))
  | d + 1, i, acc, hd, ha => by
    refine Ev.step (fun k => spec_l2Public.l0.eq_2 ..) ?_
    have hc : (chainR 15 0 (keyOf seed i)).size = 4 := chainR_size 15 0 _ (by omega)
    refine ev_if_pos (by omega) (ev_bind (spec_key_ev seed hs i) (ev_bind (spec_chain0_ev _ (by unfold keyOf; rw [dig_size]; omega)) (ev_if_pos (by omega) ?_)))
    rw [wrap_succ (by omega)]
    exact spec_public_ev seed hs d (i + 1) _ (by omega) (by rw [size_append, hc]; omega)

def keysR (seed : ByteArray) : Nat → Nat → List ByteArray
  | 0, _ => []
  | d + 1, i => keyOf seed i :: keysR seed d (i + 1)

theorem keysR_length (seed : ByteArray) : ∀ d i, (keysR seed d i).length = d
  | 0, _ => rfl
  | d + 1, i => by simp [keysR, keysR_length seed d (i + 1)]

theorem impl_parts_ev (seed : ByteArray) (hs : seed.size ≤ 1048576) : ∀ (d i : Nat) (acc : List ByteArray), i + d = 11 → acc.length = i →
    Ev (fun n => impl_parts.l0 n seed acc i) (acc ++ keysR seed d i)
  | 0, i, acc, hd, ha => by
    refine Ev.step (fun k => impl_parts.l0.eq_2 ..) ?_
    exact ev_if_neg (by omega) (ev_some (by simp [keysR]))
  | d + 1, i, acc, hd, ha => by
    refine Ev.step (fun k => impl_parts.l0.eq_2 ..) ?_
    simp only [impl_oneByte.f, Option.bind_some]
    refine ev_if_pos (by omega) (ev_if_pos (by rw [one_size]; omega) (ev_bind (impl_digest_ev 107 _ (by omega) (by omega) (by rw [size_append, one_size]; omega)) (ev_if_pos (by omega) ?_)))
    rw [wrap_succ (by omega)]
    refine ev_eq (impl_parts_ev seed hs d (i + 1) _ (by omega) (by simp [ha])) ?_
    simp [keysR, keyOf]

theorem impl_public_ev (seed : ByteArray) (l : List ByteArray) (hl : l.length = 11) : ∀ (d i : Nat) (acc : ByteArray), i + d = 11 → acc.size = 4 * i → l.drop i = keysR seed d i →
    Ev (fun n => impl_public.l0 n acc l l.length i) (pubR seed d i acc)
  | 0, i, acc, hd, ha, _ => by
    refine Ev.step (fun k => impl_public.l0.eq_2 ..) ?_
    exact ev_if_neg (by omega) (ev_bind (impl_digest_ev 112 _ (by omega) (by omega) (by omega)) (ev_some rfl))
  | d + 1, i, acc, hd, ha, hr => by
    refine Ev.step (fun k => impl_public.l0.eq_2 ..) ?_
    obtain ⟨hi, hd', hx⟩ := drop_cons hr
    have hc : (chainR 15 0 (keyOf seed i)).size = 4 := chainR_size 15 0 _ (by omega)
    refine ev_if_pos (by omega) (ev_if_pos (by omega) (ev_if_pos (by omega) ?_))
    simp only [hx]
    refine ev_bind (impl_chain0_ev _ (by unfold keyOf; rw [dig_size]; omega)) (ev_if_pos (by omega) ?_)
    rw [wrap_succ (by omega)]
    exact impl_public_ev seed l hl d (i + 1) _ (by omega) (by rw [size_append, hc]; omega) hd'

theorem FnExactPublicOf : laws_FnExactPublicOf.Pure := by
  intro s _
  refine Ev.rounds (g := fun k => laws_FnExactPublicOf.f k s) ?_
  unfold laws_FnExactPublicOf.f
  by_cases hs : (s.size : Int) > 1048576
  · exact ev_if_pos hs (ev_some rfl)
  · refine ev_if_neg hs ?_
    have key : ∃ r, Ev (fun k => spec_PublicOf.f k s) r ∧ Ev (fun k => impl_PublicOf.f k s) r := by
      unfold spec_PublicOf.f impl_PublicOf.f impl_isSeed.f impl_within.f spec_l2Seed.f spec_l1In.f
      by_cases e1 : (s.size : Int) ≥ 1
      · by_cases e2 : (s.size : Int) ≤ 16
        · refine ⟨(pubR s 11 0 ⟨#[]⟩, true), ?_, ?_⟩
          · simp only [e1, e2, Option.bind_some, decide_true, if_true]
            unfold spec_l2Public.f
            exact ev_bind (spec_public_ev s (by omega) 11 0 ⟨#[]⟩ rfl rfl) (ev_some rfl)
          · simp only [e1, e2, Option.bind_some, decide_true, if_true]
            unfold impl_public.f impl_parts.f
            exact ev_bind (ev_bind (impl_parts_ev s (by omega) 11 0 [] rfl rfl) (impl_public_ev s _ (by simp [keysR_length]) 11 0 ⟨#[]⟩ rfl rfl rfl)) (ev_some rfl)
        · refine ⟨(⟨#[]⟩, false), ev_fun fun _ => ?_, ev_fun fun _ => ?_⟩ <;> simp [e1, e2]
      · refine ⟨(⟨#[]⟩, false), ev_fun fun _ => ?_, ev_fun fun _ => ?_⟩ <;> simp [e1]
    obtain ⟨r, k1, k2⟩ := key
    refine ev_bind k1 (ev_bind k2 ?_)
    simp only [bne_self_eq_false, Bool.false_eq_true, if_true, if_false]
    exact ev_some rfl

end Go.Proofs.Ytbdfeiohpbbgoaa.Pure
