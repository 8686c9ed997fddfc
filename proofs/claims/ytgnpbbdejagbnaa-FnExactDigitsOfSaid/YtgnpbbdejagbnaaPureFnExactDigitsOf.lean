/- The law FnExactDigitsOf holds at every input; no conditions. -/
import Derived.Test.YtgnpbbdejagbnaaQFnExactDigitsOfx3
import Derived.Test.YtgnpbbdejagbnaaBase
import Derived.OpenShut
namespace Go.Proofs.Ytgnpbbdejagbnaa.Pure
open Go.RowKit Go.Proofs.Ytgnpbbdejagbnaa.QFnExactDigitsOf Go.Proofs.YtgnpbbdejagbnaaW.PrintWords Go.Proofs.YtgnpbbdejagbnaaW.PrintLast Go.Proofs.Ytgnpbbdejagbnaa.Base
set_option linter.unusedSimpArgs false
set_option linter.unusedVariables false

/-! ### digests -/
def feedN (s : ByteArray) : Nat → Nat → Int → Int → Int × Int
  | 0, _, A, B => (A, B)
  | d + 1, i, A, B => feedN s d (i + 1) ((A + bt s i) % 65521) ((B + (A + bt s i) % 65521) % 65521)

theorem feedN_range (s : ByteArray) : ∀ (d i : Nat) (A B : Int), 0 ≤ A → A < 65521 → 0 ≤ B → B < 65521 →
    0 ≤ (feedN s d i A B).1 ∧ (feedN s d i A B).1 < 65521 ∧ 0 ≤ (feedN s d i A B).2 ∧ (feedN s d i A B).2 < 65521
  | 0, _, _, _, h1, h2, h3, h4 => ⟨h1, h2, h3, h4⟩
  | d + 1, i, A, B, _, _, _, _ => feedN_range s d (i + 1) _ _ (by omega) (by omega) (by omega) (by omega)

def dig (kind : Int) (s : ByteArray) : ByteArray :=
  strOfNums [(feedN s s.size 0 (kind + 1) (kind + 1)).2 / 256, (feedN s s.size 0 (kind + 1) (kind + 1)).2 % 256, (feedN s s.size 0 (kind + 1) (kind + 1)).1 / 256, (feedN s s.size 0 (kind + 1) (kind + 1)).1 % 256]

theorem spec_feed_ev (s : ByteArray) (hs : s.size ≤ 1152921504606846976) (L : Int) : ∀ (d i : Nat) (A B : Int), i + d = s.size → 0 ≤ A → A < 65521 → 0 ≤ B → B < 65521 →
    Ev (fun k => spec_l1Feed.l0 k s i A B L) ((feedN s d i A B).1, (feedN s d i A B).2, wrap64 (L + s.size))
  | 0, i, A, B, hd, _, _, _, _ => by
    refine Ev.step (fun k => spec_l1Feed.l0.eq_2 ..) ?_
    refine ev_if_neg (by omega) ?_
    exact ev_some rfl
  | d + 1, i, A, B, hd, h1, h2, h3, h4 => by
    refine Ev.step (fun k => spec_l1Feed.l0.eq_2 ..) ?_
    refine ev_if_pos (by omega) (ev_if_pos (by omega) ?_)
    have hb := bt_range s i
    rw [wrap_succ (by omega), wrap_bt, wrap_id (x := A + bt s i) (by omega) (by omega), tmod_nn (by omega), wrap_id (by omega) (by omega), tmod_nn (by omega)]
    exact spec_feed_ev s hs L d (i + 1) _ _ (by omega) (by omega) (by omega) (by omega) (by omega)

theorem impl_feed_ev (s : ByteArray) (hs : s.size ≤ 1152921504606846976) (L : Int) : ∀ (d i : Nat) (A B : Int), i + d = s.size → 0 ≤ A → A < 65521 → 0 ≤ B → B < 65521 →
    Ev (fun k => impl_Mix_feed.l0 k s s.size i A B L) ((feedN s d i A B).1, (feedN s d i A B).2, wrap64 (L + s.size))
  | 0, i, A, B, hd, _, _, _, _ => by
    refine Ev.step (fun k => impl_Mix_feed.l0.eq_2 ..) ?_
    refine ev_if_neg (by omega) ?_
    exact ev_some rfl
  | d + 1, i, A, B, hd, h1, h2, h3, h4 => by
    refine Ev.step (fun k => impl_Mix_feed.l0.eq_2 ..) ?_
    refine ev_if_pos (by omega) (ev_if_pos (by omega) (ev_if_pos (by omega) ?_))
    have hb := bt_range s i
    rw [wrap_succ (by omega), wrap_bt, wrap_id (x := A + bt s i) (by omega) (by omega), tmod_nn (by omega), wrap_id (by omega) (by omega), tmod_nn (by omega)]
    exact impl_feed_ev s hs L d (i + 1) _ _ (by omega) (by omega) (by omega) (by omega) (by omega)

theorem spec_digest_ev (kind : Int) (s : ByteArray) (h1 : 97 ≤ kind) (h2 : kind ≤ 122) (hs : s.size ≤ 1152921504606846976) : Ev (fun k => spec_l1Digest.f k kind s) (dig kind s) := by
  unfold spec_l1Digest.f spec_NewMix.f spec_l1Kind.f spec_l1End.f spec_l1Feed.f
  rw [if_pos h1, decide_eq_true h2, wrap_id (x := kind) (by omega) (by omega), wrap_id (by omega) (by omega)]
  simp only [Option.bind_some, if_true]
  have h := spec_feed_ev s hs 0 s.size 0 (1 + kind) (1 + kind) (by omega) (by omega) (by omega) (by omega) (by omega)
  have e : (1 : Int) + kind = kind + 1 := by omega
  rw [e] at h ⊢
  refine ev_bind h (ev_some ?_)
  have hr := feedN_range s s.size 0 (kind + 1) (kind + 1) (by omega) (by omega) (by omega) (by omega)
  unfold dig
  simp only
  generalize feedN s s.size 0 (kind + 1) (kind + 1) = p at *
  have e1 : p.2 / 256 % 256 = p.2 / 256 := by omega
  have e2 : p.1 / 256 % 256 = p.1 / 256 := by omega
  rw [e1, e2]

theorem impl_digest_ev (kind : Int) (s : ByteArray) (h1 : 97 ≤ kind) (h2 : kind ≤ 122) (hs : s.size ≤ 1152921504606846976) : Ev (fun k => impl_digest.f k kind s) (dig kind s) := by
  unfold impl_digest.f impl_newMix.f impl_Mix_end.f impl_Mix_feed.f
  rw [wrap_id (x := kind) (by omega) (by omega), wrap_id (by omega) (by omega)]
  simp only [Option.bind_some]
  have h := impl_feed_ev s hs 0 s.size 0 (kind + 1) (kind + 1) (by omega) (by omega) (by omega) (by omega) (by omega)
  refine ev_bind h (ev_some ?_)
  have hr := feedN_range s s.size 0 (kind + 1) (kind + 1) (by omega) (by omega) (by omega) (by omega)
  unfold dig
  simp only
  generalize feedN s s.size 0 (kind + 1) (kind + 1) = p at *
  rw [tdiv_nn (by omega), tdiv_nn (by omega), tmod_nn (by omega), tmod_nn (by omega), wrap_id (by omega) (by omega), wrap_id (by omega) (by omega)]
  have e1 : p.2 / 256 % 256 = p.2 / 256 := by omega
  have e2 : p.1 / 256 % 256 = p.1 / 256 := by omega
  have e3 : p.2 % 256 % 256 = p.2 % 256 := by omega
  have e4 : p.1 % 256 % 256 = p.1 % 256 := by omega
  rw [e1, e2, e3, e4]

theorem dig_size (kind : Int) (s : ByteArray) : (dig kind s).size = 4 := rfl

/-! ### lists of whole numbers: alike, marked, held -/
theorem rd_rdOf (l : List Int) (i : Int) : rd l i = rdOf 0 l i := rfl
theorem eqIntS_loop (l : List Int) (hl : l.length ≤ 1152921504606846976) : ∀ (rest : List Int) (i : Nat), l.drop i = rest → Ev (fun k => laws_eqIntS.l0 k l l i) true
  | [], i, hd => by
    have h := drop_nil hd
    exact Ev.step (fun k => laws_eqIntS.l0.eq_2 ..) (ev_if_neg (by omega) (ev_some rfl))
  | s :: rest, i, hd => by
    obtain ⟨hi, hd', hx⟩ := drop_cons hd
    refine Ev.step (fun k => laws_eqIntS.l0.eq_2 ..) (ev_if_pos (by omega) (ev_if_pos (by omega) (ev_if_pos (by omega) (ev_if_pos rfl ?_))))
    rw [wrap_succ (by omega)]
    exact eqIntS_loop l hl rest (i + 1) hd'
theorem eqIntS_ev (l : List Int) (hl : l.length ≤ 1152921504606846976) : Ev (fun k => laws_eqIntS.f k l l) true := by
  unfold laws_eqIntS.f
  exact ev_if_pos rfl (eqIntS_loop l hl l 0 rfl)
def marksI : Nat → Nat → List Int
  | 0, _ => []
  | d + 1, n => (n : Int) :: marksI d (n + 1)
theorem marksI_length : ∀ d n, (marksI d n).length = d
  | 0, _ => rfl
  | d + 1, n => by simp [marksI, marksI_length d (n + 1)]
theorem markIntS_loop : ∀ (rest pre : List Int) (n : Nat), pre.length + rest.length ≤ 1073741824 → n + rest.length ≤ 1073741824 →
    Ev (fun k => laws_markIntS.l0 k (pre ++ rest) n pre.length) (((n + rest.length : Nat) : Int), pre ++ marksI rest.length n)
  | [], pre, n, hp, hb => by
    refine Ev.step (fun k => laws_markIntS.l0.eq_2 ..) (ev_if_neg (by rw [List.append_nil]; omega) (ev_some (by simp [marksI])))
  | s :: rest, pre, n, hp, hb => by
    rw [List.length_cons] at hp hb
    refine Ev.step (fun k => laws_markIntS.l0.eq_2 ..) (ev_if_pos (by rw [List.length_append, List.length_cons]; omega) (ev_if_pos (by omega) ?_))
    rw [wrap_succ (by omega), wrap_succ (by omega), Int.toNat_natCast, set_at]
    have ih := markIntS_loop rest (pre ++ [(n : Int)]) (n + 1) (by rw [List.length_append, List.length_singleton]; omega) (by omega)
    rw [List.append_assoc, List.length_append, List.length_singleton] at ih
    refine ev_eq ih ?_
    have e2 : n + 1 + rest.length = n + (rest.length + 1) := by omega
    simp only [List.length_cons, marksI, List.append_assoc, List.singleton_append, e2]
theorem markIntS_ev (l : List Int) (n : Nat) (hb : l.length + n ≤ 1073741824) : Ev (fun k => laws_markIntS.f k l n) (((n + l.length : Nat) : Int), marksI l.length n) := by
  unfold laws_markIntS.f
  exact markIntS_loop l [] n (by show 0 + _ ≤ _; omega) (by omega)
theorem heldIntS_loop (l : List Int) (hl : l.length ≤ 1073741824) : ∀ (d n i : Nat), l.drop i = marksI d n → d + n ≤ 1073741824 → i + d = l.length →
    Ev (fun k => laws_heldIntS.l0 k l n i) ((n + d : Nat) : Int)
  | 0, n, i, hd, hb, hi => by
    exact Ev.step (fun k => laws_heldIntS.l0.eq_2 ..) (ev_if_neg (by omega) (ev_some rfl))
  | d + 1, n, i, hd, hb, hi => by
    obtain ⟨hi', hd', hx⟩ := drop_cons hd
    refine Ev.step (fun k => laws_heldIntS.l0.eq_2 ..) (ev_if_pos (by omega) (ev_if_pos (by omega) ?_))
    rw [rd_rdOf, hx, wrap_succ (by omega), wrap_succ (by omega)]
    refine ev_if_pos rfl (ev_eq (heldIntS_loop l hl d (n + 1) (i + 1) hd' (by omega) (by omega)) ?_)
    congr 1
    omega
theorem heldIntS_ev (d n : Nat) (hb : d + n ≤ 1073741824) : Ev (fun k => laws_heldIntS.f k (marksI d n) n) ((n + d : Nat) : Int) := by
  unfold laws_heldIntS.f
  exact heldIntS_loop (marksI d n) (by rw [marksI_length]; omega) d n 0 rfl hb (by rw [marksI_length]; omega)

open Go.Proofs.Ytgnpbbdejagbnaa.Ext
theorem numsOf_bt (s : ByteArray) (i : Nat) (hi : i < s.size) : rd (numsOf s) i = bt s i := by
  unfold rd numsOf bt
  rw [dif_pos (by rw [Int.toNat_natCast]; exact hi), List.getD_eq_getElem?_getD, List.getElem?_map]
  simp only [Int.toNat_natCast]
  have h : i < s.data.toList.length := by rw [Array.length_toList]; exact hi
  rw [List.getElem?_eq_getElem h]
  rfl
theorem numsOf_range (s : ByteArray) : ∀ n ∈ numsOf s, 0 ≤ n ∧ n ≤ 255 := by
  intro n hn
  unfold numsOf at hn
  obtain ⟨b, _, rfl⟩ := List.mem_map.1 hn
  have := b.toNat_lt
  omega
def digs : List Int → List Int
  | [] => []
  | n :: l => n / 16 :: n % 16 :: digs l
def sumD : List Int → Int
  | [] => 0
  | n :: l => (15 - n) + sumD l
theorem digs_length : ∀ l, (digs l).length = 2 * l.length
  | [] => rfl
  | n :: l => by simp only [digs, List.length_cons, digs_length l]; omega
theorem digs_range : ∀ l : List Int, (∀ n ∈ l, 0 ≤ n ∧ n ≤ 255) → ∀ n ∈ digs l, 0 ≤ n ∧ n ≤ 15
  | [], _, n, hn => by simp [digs] at hn
  | m :: l, h, n, hn => by
    have hm := h m (by simp)
    simp only [digs, List.mem_cons] at hn
    rcases hn with rfl | rfl | hn
    · omega
    · omega
    · exact digs_range l (fun x hx => h x (by simp [hx])) n hn
theorem sumD_range : ∀ l : List Int, (∀ n ∈ l, 0 ≤ n ∧ n ≤ 15) → 0 ≤ sumD l ∧ sumD l ≤ 15 * l.length
  | [], _ => by simp [sumD]
  | m :: l, h => by
    have hm := h m (by simp)
    have ih := sumD_range l (fun x hx => h x (by simp [hx]))
    simp only [sumD, List.length_cons]
    omega
theorem sumD_append (x y : List Int) : sumD (x ++ y) = sumD x + sumD y := by
  induction x with
  | nil => simp [sumD]
  | cons a x ih => simp only [List.cons_append, sumD, ih]; omega
theorem sumD_digs_cons (n : Int) (l : List Int) : sumD (digs (n :: l)) = 30 - n / 16 - n % 16 + sumD (digs l) := by
  simp only [digs, sumD]; omega
def tailD (x : Int) : List Int := [x / 256, x / 16 % 16, x % 16]
theorem i64_and15 (x : Int) (h0 : 0 ≤ x) (h1 : x < 4294967296) : Go.bits .and .i64 x 15 = x % 16 :=
  bits_mask .i64 32 (by decide) (fun n h0 h1 => by rw [IntKind.wrap_i64]; omega) 4 (by decide) x h0 h1

theorem spec_sum_loop (out : List Int) (hr : ∀ n ∈ out, 0 ≤ n ∧ n ≤ 15) (hl : out.length ≤ 200) : ∀ (rest : List Int) (i : Nat) (sum : Int), out.drop i = rest → 0 ≤ sum → sum ≤ 15 * i → i ≤ out.length →
    Ev (fun k => spec_l2Digits.l1 k out sum out out.length i) (out ++ tailD (sum + sumD rest))
  | [], i, sum, hd, h0, h1, h2 => by
    have h := drop_nil hd
    refine Ev.step (fun k => spec_l2Digits.l1.eq_2 ..) (ev_if_neg (by omega) ?_)
    simp only [Option.bind_some, List.length_cons, List.length_nil]
    refine ev_if_pos (by omega) (ev_some ?_)
    simp only [sumD, Int.add_zero, tailD]
    rw [i64_and15 _ (by omega) (by omega), i64_and15 _ (by omega) (by omega), i64_and15 _ (by omega) (by omega)]
    have e : sum / 256 % 16 = sum / 256 := by omega
    rw [e]
  | n :: rest, i, sum, hd, h0, h1, h2 => by
    obtain ⟨hi, hd', hx⟩ := drop_cons hd
    have hn := hr n (List.mem_of_mem_drop (by rw [hd]; exact List.mem_cons_self))
    refine Ev.step (fun k => spec_l2Digits.l1.eq_2 ..) (ev_if_pos (by omega) (ev_if_pos (by omega) (ev_if_pos (by omega) ?_)))
    rw [rd_rdOf, hx, wrap_succ (by omega), wrap_id (x := 15 - n) (by omega) (by omega), wrap_id (x := sum + (15 - n)) (by omega) (by omega)]
    refine ev_eq (spec_sum_loop out hr hl rest (i + 1) _ hd' (by omega) (by omega) (by omega)) ?_
    have e : sum + (15 - n) + sumD rest = sum + sumD (n :: rest) := by simp only [sumD]; omega
    rw [e]
theorem spec_digits_loop (s : ByteArray) (hs : s.size ≤ 100) : ∀ (rest : List Int) (i : Nat) (acc : List Int), (numsOf s).drop i = rest → i ≤ s.size → acc.length = 2 * i → (∀ n ∈ acc, 0 ≤ n ∧ n ≤ 15) →
    Ev (fun k => spec_l2Digits.l0 k acc s 0 i) ((acc ++ digs rest) ++ tailD (sumD (acc ++ digs rest)))
  | [], i, acc, hd, hi, ha, hr => by
    have h := drop_nil hd
    rw [numsOf_length] at h
    refine Ev.step (fun k => spec_l2Digits.l0.eq_2 ..) (ev_if_neg (by omega) ?_)
    simp only [digs, List.append_nil]
    refine ev_eq (spec_sum_loop acc hr (by omega) acc 0 0 rfl (by omega) (by omega) (by omega)) ?_
    rw [Int.zero_add]
  | n :: rest, i, acc, hd, hi, ha, hr => by
    obtain ⟨hi', hd', hx⟩ := drop_cons hd
    rw [numsOf_length] at hi'
    have hn := numsOf_range s n (List.mem_of_mem_drop (by rw [hd]; exact List.mem_cons_self))
    have hb : bt s i = n := by rw [← numsOf_bt s i hi', rd_rdOf, hx]
    refine Ev.step (fun k => spec_l2Digits.l0.eq_2 ..) (ev_if_pos (by omega) (ev_if_pos (by omega) ?_))
    rw [hb, u8_and15 (x := n) (by omega) (by omega), wrap_id (x := n / 16) (by omega) (by omega), wrap_id (x := n % 16) (by omega) (by omega), wrap_succ (by omega)]
    simp only [Option.bind_some, List.length_cons, List.length_nil]
    refine ev_if_pos (by omega) (ev_eq (spec_digits_loop s hs rest (i + 1) (acc ++ [n / 16, n % 16]) hd' (by omega) (by rw [List.length_append]; simp only [List.length_cons, List.length_nil]; omega) ?_) ?_)
    · intro x hx
      rcases List.mem_append.1 hx with hx | hx
      · exact hr x hx
      · simp only [List.mem_cons, List.not_mem_nil, or_false] at hx
        rcases hx with rfl | rfl <;> omega
    · simp only [digs, List.append_assoc, List.cons_append, List.nil_append]
theorem impl_digits_loop (y : List Int) (hy : ∀ n ∈ y, 0 ≤ n ∧ n ≤ 255) (hl : y.length ≤ 100) : ∀ (rest : List Int) (i : Nat) (acc : List Int) (sum : Int), y.drop i = rest → i ≤ y.length → acc.length = 2 * i → sum = sumD acc → (∀ n ∈ acc, 0 ≤ n ∧ n ≤ 15) →
    Ev (fun k => impl_digits.l0 k acc sum y y.length i) ((acc ++ digs rest) ++ tailD (sumD (acc ++ digs rest)))
  | [], i, acc, sum, hd, hi, ha, hsum, hr => by
    have h := drop_nil hd
    have hb := sumD_range acc hr
    subst hsum
    refine Ev.step (fun k => impl_digits.l0.eq_2 ..) (ev_if_neg (by omega) ?_)
    simp only [digs, List.append_nil, Option.bind_some, List.length_cons, List.length_nil]
    refine ev_if_pos (by omega) (ev_some ?_)
    rw [tdiv_nn (a := sumD acc) (b := 256) (by omega), tdiv_nn (a := sumD acc) (b := 16) (by omega), tmod_nn (a := sumD acc) (b := 16) (by omega)]
    rw [wrap_id (x := sumD acc / 256) (by omega) (by omega), wrap_id (x := sumD acc / 16) (by omega) (by omega), tmod_nn (a := sumD acc / 16) (b := 16) (by omega)]
    rfl
  | n :: rest, i, acc, sum, hd, hi, ha, hsum, hr => by
    obtain ⟨hi', hd', hx⟩ := drop_cons hd
    have hn := hy n (List.mem_of_mem_drop (by rw [hd]; exact List.mem_cons_self))
    have hb := sumD_range acc hr
    subst hsum
    refine Ev.step (fun k => impl_digits.l0.eq_2 ..) (ev_if_pos (by omega) (ev_if_pos (by omega) (ev_if_pos (by omega) ?_)))
    have e1 : Int.tdiv n 16 % 256 = n / 16 := by rw [tdiv_nn (by omega)]; omega
    have e2 : wrap64 (Int.tmod n 16) = n % 16 := by rw [tmod_nn (by omega), wrap_id (by omega) (by omega)]
    rw [rd_rdOf, hx, e1, e2, wrap_succ (by omega), wrap_id (x := 30 - n / 16 - n % 16) (by omega) (by omega), wrap_id (x := sumD acc + (30 - n / 16 - n % 16)) (by omega) (by omega)]
    simp only [Option.bind_some, List.length_cons, List.length_nil]
    refine ev_if_pos (by omega) (ev_eq (impl_digits_loop y hy hl rest (i + 1) (acc ++ [n / 16, n % 16]) _ hd' (by omega) (by rw [List.length_append]; simp only [List.length_cons, List.length_nil]; omega) ?_ ?_) ?_)
    · rw [sumD_append]; simp only [sumD]; omega
    · intro x hx
      rcases List.mem_append.1 hx with hx | hx
      · exact hr x hx
      · simp only [List.mem_cons, List.not_mem_nil, or_false] at hx
        rcases hx with rfl | rfl <;> omega
    · simp only [digs, List.append_assoc, List.cons_append, List.nil_append]
theorem DigitsOf_both (s : ByteArray) (hs : s.size ≤ 1048576) : ∃ R : List Int × Bool, Ev (fun k => spec_DigitsOf.f k s) R ∧ Ev (fun k => impl_DigitsOf.f k s) R ∧ R.1.length ≤ 100 := by
  unfold spec_DigitsOf.f impl_DigitsOf.f spec_l2Long.f
  by_cases h : s.size ≤ 200
  · have k1 := spec_digest_ev 109 s (by omega) (by omega) (by omega)
    have k2 := impl_digest_ev 109 s (by omega) (by omega) (by omega)
    have hz := dig_size 109 s
    revert k1 k2 hz
    generalize dig 109 s = d
    intro k1 k2 hz
    have a := spec_digits_loop d (by omega) (numsOf d) 0 [] rfl (by omega) rfl (by simp)
    have b := impl_digits_loop (numsOf d) (numsOf_range d) (by rw [numsOf_length]; omega) (numsOf d) 0 [] 0 rfl (by omega) rfl rfl (by simp)
    simp only [List.nil_append] at a b
    refine ⟨(digs (numsOf d) ++ tailD (sumD (digs (numsOf d))), true), ev_bind (ev_some (show _ = true by simp; omega)) (ev_if_pos rfl (ev_bind ?_ (ev_some rfl))), ev_if_neg (by omega) (ev_bind ?_ (ev_some rfl)), ?_⟩
    · unfold spec_l2Digits.f
      exact ev_bind k1 a
    · unfold impl_digits.f
      refine ev_bind k2 (ev_if_pos (by omega) ?_)
      simp only [Option.bind_some]
      exact b
    · show (digs (numsOf d) ++ tailD (sumD (digs (numsOf d)))).length ≤ 100
      rw [List.length_append, digs_length, numsOf_length]
      simp only [tailD, List.length_cons, List.length_nil]
      omega
  · exact ⟨([], false), ev_bind (ev_some (show _ = false by simp; omega)) (ev_if_neg (by simp) (ev_some rfl)), ev_if_pos (by omega) (ev_some rfl), Nat.zero_le _⟩
theorem FnExactDigitsOf : laws_FnExactDigitsOf.Pure := by
  intro s _
  refine Ev.rounds (g := fun k => laws_FnExactDigitsOf.f k s) ?_
  unfold laws_FnExactDigitsOf.f
  by_cases hs : (s.size : Int) > 1048576
  · exact ev_if_pos hs (ev_some rfl)
  refine ev_if_neg hs ?_
  obtain ⟨⟨X, ok⟩, k1, k2, hl⟩ := DigitsOf_both s (by omega)
  have hl : X.length ≤ 100 := hl
  have heq := eqIntS_ev X (by omega)
  have hm := markIntS_ev X 1 (by omega)
  have hheld := heldIntS_ev X.length 1 (by omega)
  refine ev_bind k1 (ev_bind k2 (ev_bind heq (ev_if_pos rfl ?_)))
  simp only [bne_self_eq_false]
  refine Ev.step (fun k => laws_FnExactDigitsOf.j0.eq_2 ..) (ev_if_neg (by simp) (ev_bind hm (ev_bind hheld (ev_if_neg (by omega) (ev_if_pos rfl (ev_bind k2 (ev_bind heq (ev_if_pos rfl ?_))))))))
  simp only [bne_self_eq_false]
  exact Ev.step (fun k => laws_FnExactDigitsOf.j1.eq_2 ..) (ev_if_neg (by simp) (ev_bind hheld (ev_if_neg (by omega) (ev_if_pos rfl (ev_some rfl)))))

end Go.Proofs.Ytgnpbbdejagbnaa.Pure
