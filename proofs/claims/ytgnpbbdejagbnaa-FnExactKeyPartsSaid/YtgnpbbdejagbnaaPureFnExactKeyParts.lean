/- The law FnExactKeyParts holds at every input; no conditions. -/
import Derived.Test.YtgnpbbdejagbnaaPFnExactKeyPartsx3
import Derived.Test.YtgnpbbdejagbnaaBase
import Derived.OpenShut
namespace Go.Proofs.Ytgnpbbdejagbnaa.Pure
open Go.RowKit Go.Proofs.Ytgnpbbdejagbnaa.PFnExactKeyParts Go.Proofs.YtgnpbbdejagbnaaW.PrintWords Go.Proofs.YtgnpbbdejagbnaaW.PrintLast Go.Proofs.Ytgnpbbdejagbnaa.Base
set_option linter.unusedSimpArgs false
set_option linter.unusedVariables false

/-! ### digests -/
def feedN (s : ByteArray) : Nat → Nat → Int → Int → Int × Int
  | 0, _, A, B => (A, B)
  | d + 1, i, A, B => feedN s d (i + 1) ((A + bt s i) % 65521) ((B + (A + bt s i) % 65521) % 65521)

theorem feedN_range (s : ByteArray) : ∀ (d i : Nat) (A B : Int), 0 ≤ A → A < 65521 → 0 ≤ B → B < 65521 →
    0 ≤ (feedN s d i A B).1 ∧ (feedN s d i A B).1 < 65521 ∧ 0 ≤ (feedN s d i A B).2 ∧ (feedN s d i A B).2 < 65521
  | 0, _, _, _, h1, h2, h3, h4 => ⟨h1, h2, h3, h4⟩
  | d + 1, i, A, B, _, _, _, _ => feedN_range s d (i + 1) _ _ (by omega) (by omega) (by omega) (by omega)

def dig (kind : Int) (s : ByteArray) : ByteArray :=
  strOfNums [(feedN s s.size 0 (kind + 1) (kind + 1)).2 / 256, (feedN s s.size 0 (kind + 1) (kind + 1)).2 % 256, (feedN s s.size 0 (kind + 1) (kind + 1)).1 / 256, (feedN s s.size 0 (kind + 1) (kind + 1)).1 % 256]

theorem spec_feed_ev (s : ByteArray) (hs : s.size ≤ 1152921504606846976) (L : Int) : ∀ (d i : Nat) (A B : Int), i + d = s.size → 0 ≤ A → A < 65521 → 0 ≤ B → B < 65521 →
    Ev (fun k => spec_l1Feed.l0 k s i A B L) ((feedN s d i A B).1, (feedN s d i A B).2, wrap64 (L + s.size))
  | 0, i, A, B, hd, _, _, _, _ => by
    refine Ev.step (fun k => spec_l1Feed.l0.eq_2 ..) ?_
    refine ev_if_neg (by omega) ?_
    exact ev_some rfl
  | d + 1, i, A, B, hd, h1, h2, h3, h4 => by
    refine Ev.step (fun k => spec_l1Feed.l0.eq_2 ..) ?_
    refine ev_if_pos (by omega) (ev_if_pos (by omega) ?_)
    have hb := bt_range s i
    rw [wrap_succ (by omega), wrap_bt, wrap_id (x := A + bt s i) (by omega) (by omega), tmod_nn (by omega), wrap_id (by omega) (by omega), tmod_nn (by omega)]
    exact spec_feed_ev s hs L d (i + 1) _ _ (by omega) (by omega) (by omega) (by omega) (by omega)

theorem impl_feed_ev (s : ByteArray) (hs : s.size ≤ 1152921504606846976) (L : Int) : ∀ (d i : Nat) (A B : Int), i + d = s.size → 0 ≤ A → A < 65521 → 0 ≤ B → B < 65521 →
    Ev (fun k => impl_Mix_feed.l0 k s s.size i A B L) ((feedN s d i A B).1, (feedN s d i A B).2, wrap64 (L + s.size))
  | 0, i, A, B, hd, _, _, _, _ => by
    refine Ev.step (fun k => impl_Mix_feed.l0.eq_2 ..) ?_
    refine ev_if_neg (by omega) ?_
    exact ev_some rfl
  | d + 1, i, A, B, hd, h1, h2, h3, h4 => by
    refine Ev.step (fun k => impl_Mix_feed.l0.eq_2 ..) ?_
    refine ev_if_pos (by omega) (ev_if_pos (by omega) (ev_if_pos (by omega) ?_))
    have hb := bt_range s i
    rw [wrap_succ (by omega), wrap_bt, wrap_id (x := A + bt s i) (by omega) (by omega), tmod_nn (by omega), wrap_id (by omega) (by omega), tmod_nn (by omega)]
    exact impl_feed_ev s hs L d (i + 1) _ _ (by omega) (by omega) (by omega) (by omega) (by omega)

theorem spec_digest_ev (kind : Int) (s : ByteArray) (h1 : 97 ≤ kind) (h2 : kind ≤ 122) (hs : s.size ≤ 1152921504606846976) : Ev (fun k => spec_l1Digest.f k kind s) (dig kind s) := by
  unfold spec_l1Digest.f spec_NewMix.f spec_l1Kind.f spec_l1End.f spec_l1Feed.f
  rw [if_pos h1, decide_eq_true h2, wrap_id (x := kind) (by omega) (by omega), wrap_id (by omega) (by omega)]
  simp only [Option.bind_some, if_true]
  have h := spec_feed_ev s hs 0 s.size 0 (1 + kind) (1 + kind) (by omega) (by omega) (by omega) (by omega) (by omega)
  have e : (1 : Int) + kind = kind + 1 := by omega
  rw [e] at h ⊢
  refine ev_bind h (ev_some ?_)
  have hr := feedN_range s s.size 0 (kind + 1) (kind + 1) (by omega) (by omega) (by omega) (by omega)
  unfold dig
  simp only
  generalize feedN s s.size 0 (kind + 1) (kind + 1) = p at *
  have e1 : p.2 / 256 % 256 = p.2 / 256 := by omega
  have e2 : p.1 / 256 % 256 = p.1 / 256 := by omega
  rw [e1, e2]

theorem impl_digest_ev (kind : Int) (s : ByteArray) (h1 : 97 ≤ kind) (h2 : kind ≤ 122) (hs : s.size ≤ 1152921504606846976) : Ev (fun k => impl_digest.f k kind s) (dig kind s) := by
  unfold impl_digest.f impl_newMix.f impl_Mix_end.f impl_Mix_feed.f
  rw [wrap_id (x := kind) (by omega) (by omega), wrap_id (by omega) (by omega)]
  simp only [Option.bind_some]
  have h := impl_feed_ev s hs 0 s.size 0 (kind + 1) (kind + 1) (by omega) (by omega) (by omega) (by omega) (by omega)
  refine ev_bind h (ev_some ?_)
  have hr := feedN_range s s.size 0 (kind + 1) (kind + 1) (by omega) (by omega) (by omega) (by omega)
  unfold dig
  simp only
  generalize feedN s s.size 0 (kind + 1) (kind + 1) = p at *
  rw [tdiv_nn (by omega), tdiv_nn (by omega), tmod_nn (by omega), tmod_nn (by omega), wrap_id (by omega) (by omega), wrap_id (by omega) (by omega)]
  have e1 : p.2 / 256 % 256 = p.2 / 256 := by omega
  have e2 : p.1 / 256 % 256 = p.1 / 256 := by omega
  have e3 : p.2 % 256 % 256 = p.2 % 256 := by omega
  have e4 : p.1 % 256 % 256 = p.1 % 256 := by omega
  rw [e1, e2, e3, e4]

theorem dig_size (kind : Int) (s : ByteArray) : (dig kind s).size = 4 := rfl

/-! ### keys -/
def keyOf (seed : ByteArray) (k : Nat) : ByteArray := dig 107 (strOfNums [(k : Int) % 256] ++ seed)

theorem spec_key_ev (seed : ByteArray) (hs : seed.size ≤ 1048576) (k : Nat) : Ev (fun n => spec_l2Key.f n seed k) (keyOf seed k) := by
  unfold spec_l2Key.f
  simp only [Option.bind_some]
  exact ev_if_pos (by rw [one_size]; omega) (ev_bind (spec_digest_ev 107 _ (by omega) (by omega) (by rw [size_append, one_size]; omega)) (ev_some rfl))

def keysR (seed : ByteArray) : Nat → Nat → List ByteArray
  | 0, _ => []
  | d + 1, i => keyOf seed i :: keysR seed d (i + 1)

theorem keysR_length (seed : ByteArray) : ∀ d i, (keysR seed d i).length = d
  | 0, _ => rfl
  | d + 1, i => by simp [keysR, keysR_length seed d (i + 1)]

theorem impl_parts_ev (seed : ByteArray) (hs : seed.size ≤ 1048576) : ∀ (d i : Nat) (acc : List ByteArray), i + d = 11 → acc.length = i →
    Ev (fun n => impl_parts.l0 n seed acc i) (acc ++ keysR seed d i)
  | 0, i, acc, hd, ha => by
    refine Ev.step (fun k => impl_parts.l0.eq_2 ..) ?_
    exact ev_if_neg (by omega) (ev_some (by simp [keysR]))
  | d + 1, i, acc, hd, ha => by
    refine Ev.step (fun k => impl_parts.l0.eq_2 ..) ?_
    simp only [impl_oneByte.f, Option.bind_some]
    refine ev_if_pos (by omega) (ev_if_pos (by rw [one_size]; omega) (ev_bind (impl_digest_ev 107 _ (by omega) (by omega) (by rw [size_append, one_size]; omega)) (ev_if_pos (by omega) ?_)))
    rw [wrap_succ (by omega)]
    refine ev_eq (impl_parts_ev seed hs d (i + 1) _ (by omega) (by simp [ha])) ?_
    simp [keysR, keyOf]


/-! ### lists of texts: alike -/
theorem eqStringS_loop (l : List ByteArray) (hl : l.length ≤ 1152921504606846976) : ∀ (rest : List ByteArray) (i : Nat), l.drop i = rest → Ev (fun k => laws_eqStringS.l0 k l l i) true
  | [], i, hd => by
    have h := drop_nil hd
    exact Ev.step (fun k => laws_eqStringS.l0.eq_2 ..) (ev_if_neg (by omega) (ev_some rfl))
  | s :: rest, i, hd => by
    obtain ⟨hi, hd', hx⟩ := drop_cons hd
    refine Ev.step (fun k => laws_eqStringS.l0.eq_2 ..) (ev_if_pos (by omega) (ev_if_pos (by omega) (ev_if_pos (by omega) (ev_if_pos rfl ?_))))
    rw [wrap_succ (by omega)]
    exact eqStringS_loop l hl rest (i + 1) hd'
theorem eqStringS_ev (l : List ByteArray) (hl : l.length ≤ 1152921504606846976) : Ev (fun k => laws_eqStringS.f k l l) true := by
  unfold laws_eqStringS.f
  exact ev_if_pos rfl (eqStringS_loop l hl l 0 rfl)

/-! ### marks -/
def mtN : Nat → Int → ByteArray → ByteArray
  | 0, _, acc => (⟨#[109]⟩ : ByteArray) ++ acc
  | f + 1, n, acc => if n > 0 then mtN f (n / 10) (strOfNums [(48 + n % 10) % 256] ++ acc) else (⟨#[109]⟩ : ByteArray) ++ acc
def mtx (n : Int) : ByteArray := if n ≤ 0 then ⟨#[109, 48]⟩ else mtN n.toNat n ⟨#[]⟩

theorem markText_loop : ∀ (f : Nat) (n : Int) (acc : ByteArray), 0 ≤ n → n ≤ f → acc.size + f ≤ 1152921504606846976 → Ev (fun k => laws_markText.l0 k n acc) (mtN f n acc)
  | 0, n, acc, h0, h1, h2 => by
    refine Ev.step (fun k => laws_markText.l0.eq_2 ..) (ev_if_neg (by omega) (ev_if_pos (by omega) (ev_some rfl)))
  | f + 1, n, acc, h0, h1, h2 => by
    refine Ev.step (fun k => laws_markText.l0.eq_2 ..) ?_
    unfold mtN
    by_cases hn : n > 0
    · refine ev_if_pos hn ?_
      rw [if_pos hn, tmod_nn (by omega), tdiv_nn (by omega), wrap_id (x := 48 + n % 10) (by omega) (by omega), wrap_id (x := n / 10) (by omega) (by omega)]
      simp only [Option.bind_some]
      exact ev_if_pos (by rw [one_size]; omega) (markText_loop f (n / 10) _ (by omega) (by omega) (by rw [size_append, one_size]; omega))
    · rw [if_neg hn]
      exact ev_if_neg hn (ev_if_pos (by omega) (ev_some rfl))
theorem markText_ev (n : Int) (h1 : n ≤ 576460752303423488) : Ev (fun k => laws_markText.f k n) (mtx n) := by
  unfold laws_markText.f mtx
  by_cases hn : n ≤ 0
  · rw [if_pos hn]; exact ev_if_pos hn (ev_some rfl)
  · rw [if_neg hn]; exact ev_if_neg hn (markText_loop n.toNat n ⟨#[]⟩ (by omega) (by omega) (by show 0 + _ ≤ _; omega))

def marksR : Nat → Nat → List ByteArray
  | 0, _ => []
  | d + 1, n => mtx n :: marksR d (n + 1)
theorem marksR_length : ∀ d n, (marksR d n).length = d
  | 0, _ => rfl
  | d + 1, n => by simp [marksR, marksR_length d (n + 1)]

theorem markStringS_loop : ∀ (rest pre : List ByteArray) (n i : Nat), pre.length = i → i + rest.length ≤ 1073741824 ∧ n + rest.length ≤ 1073741824 →
    Ev (fun k => laws_markStringS.l0 k (pre ++ rest) n i) (((n + rest.length : Nat) : Int), pre ++ marksR rest.length n)
  | [], pre, n, i, hp, hb => by
    refine Ev.step (fun k => laws_markStringS.l0.eq_2 ..) (ev_if_neg (by rw [List.append_nil]; omega) (ev_some (by simp [marksR])))
  | s :: rest, pre, n, i, hp, hb => by
    simp only [List.length_cons] at hb
    refine Ev.step (fun k => laws_markStringS.l0.eq_2 ..) (ev_if_pos (by rw [List.length_append, List.length_cons]; omega) (ev_bind (markText_ev n (by omega)) (ev_if_pos (by omega) ?_)))
    rw [wrap_succ (by omega), wrap_succ (by omega), Int.toNat_natCast]
    subst hp
    have e : (pre ++ s :: rest).set pre.length (mtx n) = (pre ++ [mtx n]) ++ rest := by
      rw [List.set_append_right _ _ (Nat.le_refl _), Nat.sub_self]; simp
    rw [e]
    refine ev_eq (markStringS_loop rest (pre ++ [mtx n]) (n + 1) (pre.length + 1) (by simp) ⟨by omega, by omega⟩) ?_
    have e2 : n + 1 + rest.length = n + (rest.length + 1) := by omega
    simp only [List.length_cons, marksR, List.append_assoc, List.singleton_append, e2]
theorem markStringS_ev (l : List ByteArray) (n : Nat) (hb : l.length + n ≤ 1073741824) : Ev (fun k => laws_markStringS.f k l n) (((n + l.length : Nat) : Int), marksR l.length n) := by
  unfold laws_markStringS.f
  exact markStringS_loop l [] n 0 rfl ⟨by omega, by omega⟩

theorem heldStringS_loop (l : List ByteArray) (hl : l.length ≤ 1073741824) : ∀ (d n i : Nat), l.drop i = marksR d n → d + n ≤ 1073741824 → i + d = l.length →
    Ev (fun k => laws_heldStringS.l0 k l n i) ((n + d : Nat) : Int)
  | 0, n, i, hd, hb, hi => by
    exact Ev.step (fun k => laws_heldStringS.l0.eq_2 ..) (ev_if_neg (by omega) (ev_some rfl))
  | d + 1, n, i, hd, hb, hi => by
    obtain ⟨hi', hd', hx⟩ := drop_cons hd
    refine Ev.step (fun k => laws_heldStringS.l0.eq_2 ..) (ev_if_pos (by omega) (ev_if_pos (by omega) (ev_bind (markText_ev n (by omega)) ?_)))
    rw [hx, wrap_succ (by omega), wrap_succ (by omega)]
    refine ev_if_pos rfl (ev_eq (heldStringS_loop l hl d (n + 1) (i + 1) hd' (by omega) (by omega)) ?_)
    congr 1
    omega
theorem heldStringS_ev (d n : Nat) (hb : d + n ≤ 1073741824) : Ev (fun k => laws_heldStringS.f k (marksR d n) n) ((n + d : Nat) : Int) := by
  unfold laws_heldStringS.f
  exact heldStringS_loop (marksR d n) (by rw [marksR_length]; omega) d n 0 rfl hb (by rw [marksR_length]; omega)

theorem spec_keys_ev (seed : ByteArray) (hs : seed.size ≤ 1048576) : ∀ (d i : Nat) (acc : List ByteArray), i + d = 11 → acc.length = i →
    Ev (fun n => spec_KeyParts.l0 n seed acc i) (acc ++ keysR seed d i, true)
  | 0, i, acc, hd, ha => by
    refine Ev.step (fun k => spec_KeyParts.l0.eq_2 ..) ?_
    exact ev_if_neg (by omega) (ev_some (by simp [keysR]))
  | d + 1, i, acc, hd, ha => by
    refine Ev.step (fun k => spec_KeyParts.l0.eq_2 ..) ?_
    refine ev_if_pos (by omega) (ev_bind (spec_key_ev seed hs i) (ev_if_pos (by omega) ?_))
    rw [wrap_succ (by omega)]
    refine ev_eq (spec_keys_ev seed hs d (i + 1) _ (by omega) (by simp [ha])) ?_
    simp [keysR]

theorem FnExactKeyParts : laws_FnExactKeyParts.Pure := by
  intro s _
  refine Ev.rounds (g := fun k => laws_FnExactKeyParts.f k s) ?_
  unfold laws_FnExactKeyParts.f
  by_cases hs : (s.size : Int) > 1048576
  · exact ev_if_pos hs (ev_some rfl)
  refine ev_if_neg hs ?_
  have key : ∃ r, Ev (fun k => spec_KeyParts.f k s) r ∧ Ev (fun k => impl_KeyParts.f k s) r ∧ r.1.length ≤ 11 := by
    unfold spec_KeyParts.f impl_KeyParts.f impl_isSeed.f impl_within.f spec_l2Seed.f spec_l1In.f
    by_cases e1 : (s.size : Int) ≥ 1
    · by_cases e2 : (s.size : Int) ≤ 16
      · refine ⟨(keysR s 11 0, true), ?_, ?_, by simp [keysR_length]⟩
        · simp only [e1, e2, Option.bind_some, decide_true, if_true]
          exact spec_keys_ev s (by omega) 11 0 [] rfl rfl
        · simp only [e1, e2, Option.bind_some, decide_true, if_true]
          unfold impl_parts.f
          exact ev_bind (impl_parts_ev s (by omega) 11 0 [] rfl rfl) (ev_some rfl)
      · refine ⟨([], false), ev_fun fun _ => ?_, ev_fun fun _ => ?_, by simp⟩ <;> simp [e1, e2]
    · refine ⟨([], false), ev_fun fun _ => ?_, ev_fun fun _ => ?_, by simp⟩ <;> simp [e1]
  obtain ⟨r, k1, k2, hl⟩ := key
  have heq := eqStringS_ev r.1 (by omega)
  refine ev_bind k1 (ev_bind k2 (ev_bind heq (ev_if_pos rfl ?_)))
  rw [bne_self_eq_false]
  have hheld := heldStringS_ev r.1.length 1 (by omega)
  refine Ev.step (fun k => laws_FnExactKeyParts.j0.eq_2 ..) (ev_if_neg (by simp) (ev_bind (markStringS_ev r.1 1 (by omega)) (ev_bind hheld (ev_if_neg (by omega) (ev_if_pos rfl (ev_bind k2 (ev_bind heq (ev_if_pos rfl ?_))))))))
  rw [bne_self_eq_false]
  exact Ev.step (fun k => laws_FnExactKeyParts.j1.eq_2 ..) (ev_if_neg (by simp) (ev_bind hheld (ev_if_neg (by omega) (ev_if_pos rfl (ev_some rfl)))))

end Go.Proofs.Ytgnpbbdejagbnaa.Pure
