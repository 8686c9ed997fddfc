/- The law FnExactReadBlock holds at every input; no conditions. -/
import Derived.Test.YtngblojmiicclaaQFnExactReadBlockx5
import Derived.Test.YtngblojmiicclaaBase
import Derived.OpenShut
namespace Go.Proofs.Ytngblojmiicclaa.Pure
open Go.RowKit Go.Proofs.Ytngblojmiicclaa.QFnExactReadBlock Go.Proofs.YtngblojmiicclaaW.PrintWords Go.Proofs.YtngblojmiicclaaW.PrintLast Go.Proofs.Ytngblojmiicclaa.Base
set_option linter.unusedSimpArgs false
set_option linter.unusedVariables false

/-! ### good blocks -/
def goodB (p r : ByteArray) (l : List ByteArray) : Bool := l.all (fun s => decide (s.size ≤ 60)) && (decide (p.size = 4) && (decide (r.size = 4) && decide (l.length ≤ 6)))
theorem all_of_mem {α : Type} {P : α → Bool} {l : List α} {x : α} (hx : x ∈ l) (h : P x = false) : l.all P = false := by
  cases hc : l.all P with
  | false => rfl
  | true => rw [List.all_eq_true] at hc; rw [hc x hx] at h; cases h
theorem spec_GoodBlock_loop (p r : ByteArray) (l : List ByteArray) (hl : l.length ≤ 1048576) : ∀ (rest pre : List ByteArray), l = pre ++ rest → pre.all (fun s => decide (s.size ≤ 60)) = true →
    Ev (fun k => spec_GoodBlock.l0 k l l.length pre.length p r l) (goodB p r l)
  | [], pre, hd, ha => by
    have e : pre = l := by rw [hd]; simp
    subst e
    refine Ev.step (fun k => spec_GoodBlock.l0.eq_2 ..) (ev_if_neg (by omega) (ev_fun fun _ => ?_))
    unfold goodB
    rw [ha]
    have h6 : ((pre.length : Int) ≤ 6) = (pre.length ≤ 6) := by apply propext; omega
    by_cases h1 : p.size = 4
    · by_cases h2 : r.size = 4
      · have h1' : (p.size : Int) = 4 := by omega
        have h2' : (r.size : Int) = 4 := by omega
        simp [h1, h2, h1', h2', h6]
      · have h1' : (p.size : Int) = 4 := by omega
        have h2' : ¬ (r.size : Int) = 4 := by omega
        simp [h1, h2, h1', h2']
    · have h1' : ¬ (p.size : Int) = 4 := by omega
      simp [h1, h1']
  | s :: rest, pre, hd, ha => by
    obtain ⟨hi, hx⟩ := mid_at hd
    refine Ev.step (fun k => spec_GoodBlock.l0.eq_2 ..) (ev_if_pos (by omega) (ev_if_pos (by omega) (ev_if_pos (by omega) ?_)))
    rw [hx]
    by_cases hs : s.size ≤ 60
    · refine ev_if_neg (by omega) ?_
      rw [wrap_succ (by omega)]
      have ih := spec_GoodBlock_loop p r l hl rest (pre ++ [s]) (by rw [hd]; simp) (by simp [ha, hs])
      rwa [List.length_append, List.length_singleton] at ih
    · refine ev_if_pos (by omega) (ev_some ?_)
      have : l.all (fun s => decide (s.size ≤ 60)) = false := all_of_mem (x := s) (by rw [hd]; simp) (by simp [hs])
      simp [goodB, this]
theorem spec_GoodBlock_ev (p r : ByteArray) (l : List ByteArray) (hl : l.length ≤ 1048576) : Ev (fun k => spec_GoodBlock.f k p r l) (goodB p r l) := spec_GoodBlock_loop p r l hl l [] rfl rfl

/-! ### slices.ContainsFunc with string__impl_GoodBlock_1 -/
theorem cfGoodBlock_loop (l : List (ByteArray)) (hl : l.length ≤ 1152921504606846976) (P : (ByteArray) → Bool) (hP : ∀ x ∈ l, impl_GoodBlock_1.f x = some (P x)) : ∀ (rest : List (ByteArray)) (i : Nat), l.drop i = rest →
    ∃ r : Int, Ev (fun k => slices_IndexFunc_string__impl_GoodBlock_1.l0 k l l.length i) r ∧ decide (r ≥ 0) = rest.any P
  | [], i, hd => by
    have h := drop_nil hd
    exact ⟨-1, Ev.step (fun k => slices_IndexFunc_string__impl_GoodBlock_1.l0.eq_2 ..) (ev_if_neg (by omega) (ev_some rfl)), rfl⟩
  | s :: rest, i, hd => by
    obtain ⟨hi, hd', hx⟩ := drop_cons hd
    have hx : rdOf ByteArray.empty l i = s := hx _
    have hs : s ∈ l := List.mem_of_mem_drop (by rw [hd]; exact List.mem_cons_self)
    cases hb : P s with
    | true =>
      refine ⟨i, Ev.step (fun k => slices_IndexFunc_string__impl_GoodBlock_1.l0.eq_2 ..) (ev_if_pos (by omega) (ev_if_pos (by omega) (ev_if_pos (by omega) ?_))), by simp [hb]⟩
      simp only [hx, hP s hs, Option.bind_some]
      exact ev_true hb (ev_some rfl)
    | false =>
      obtain ⟨r, hr, he⟩ := cfGoodBlock_loop l hl P hP rest (i + 1) hd'
      refine ⟨r, Ev.step (fun k => slices_IndexFunc_string__impl_GoodBlock_1.l0.eq_2 ..) (ev_if_pos (by omega) (ev_if_pos (by omega) (ev_if_pos (by omega) ?_))), by simp [hb, he]⟩
      simp only [hx, hP s hs, Option.bind_some]
      rw [wrap_succ (by omega)]
      exact ev_false hb hr
theorem cfGoodBlock_ev (l : List (ByteArray)) (hl : l.length ≤ 1152921504606846976) (P : (ByteArray) → Bool) (hP : ∀ x ∈ l, impl_GoodBlock_1.f x = some (P x)) : Ev (fun k => slices_ContainsFunc_string__impl_GoodBlock_1.f k l) (l.any P) := by
  unfold slices_ContainsFunc_string__impl_GoodBlock_1.f slices_IndexFunc_string__impl_GoodBlock_1.f
  obtain ⟨r, hr, he⟩ := cfGoodBlock_loop l hl P hP l 0 rfl
  exact ev_bind hr (ev_some he)

theorem impl_GoodBlock_ev (p r : ByteArray) (l : List ByteArray) (hl : l.length ≤ 1048576) : Ev (fun k => impl_GoodBlock.f k p r l) (goodB p r l) := by
  unfold impl_GoodBlock.f impl_isDigest.f goodB
  have hc := cfGoodBlock_ev l (by omega) (fun s => decide ((s.size : Int) > 60)) (fun _ _ => rfl)
  have hall : (!l.any fun s => decide ((s.size : Int) > 60)) = l.all (fun s => decide (s.size ≤ 60)) := by
    rw [List.not_any_eq_all_not]
    congr 1
    funext s
    by_cases h : s.size ≤ 60
    · have : ¬ (s.size : Int) > 60 := by omega
      simp [h, this]
    · have : (s.size : Int) > 60 := by omega
      simp [h, this]
  by_cases h1 : p.size = 4
  · have h1' : ((p.size : Int) == 4) = true := by simp; omega
    by_cases h2 : r.size = 4
    · have h2' : ((r.size : Int) == 4) = true := by simp; omega
      simp only [h1', h2', Option.bind_some, if_true]
      by_cases h3 : l.length ≤ 6
      · refine ev_if_pos (by omega) (ev_bind hc (ev_some ?_))
        simp [h1, h2, h3, ← hall]
      · exact ev_if_neg (by omega) (ev_some (by simp [h3]))
    · have h2' : ((r.size : Int) == 4) = false := by simp; omega
      simp only [h1', h2', Option.bind_some, if_true]
      exact ev_fun fun _ => by simp [h2]
  · have h1' : ((p.size : Int) == 4) = false := by simp; omega
    simp only [h1', Option.bind_some]
    exact ev_fun fun _ => by simp [h1]

/-! ### lists of texts: alike -/
theorem eqStringS_loop (l : List ByteArray) (hl : l.length ≤ 1152921504606846976) : ∀ (rest : List ByteArray) (i : Nat), l.drop i = rest → Ev (fun k => laws_eqStringS.l0 k l l i) true
  | [], i, hd => by
    have h := drop_nil hd
    exact Ev.step (fun k => laws_eqStringS.l0.eq_2 ..) (ev_if_neg (by omega) (ev_some rfl))
  | s :: rest, i, hd => by
    obtain ⟨hi, hd', hx⟩ := drop_cons hd
    refine Ev.step (fun k => laws_eqStringS.l0.eq_2 ..) (ev_if_pos (by omega) (ev_if_pos (by omega) (ev_if_pos (by omega) (ev_if_pos rfl ?_))))
    rw [wrap_succ (by omega)]
    exact eqStringS_loop l hl rest (i + 1) hd'
theorem eqStringS_ev (l : List ByteArray) (hl : l.length ≤ 1152921504606846976) : Ev (fun k => laws_eqStringS.f k l l) true := by
  unfold laws_eqStringS.f
  exact ev_if_pos rfl (eqStringS_loop l hl l 0 rfl)

theorem eqBlock_ev (p r : ByteArray) (l : List ByteArray) (hl : l.length ≤ 1152921504606846976) : Ev (fun k => laws_eqBlock.f k p r l p r l) true := ev_if_pos rfl (ev_if_pos rfl (ev_bind (eqStringS_ev l hl) (ev_if_pos rfl (ev_some rfl))))

/-! ### marks -/
def mtN : Nat → Int → ByteArray → ByteArray
  | 0, _, acc => (⟨#[109]⟩ : ByteArray) ++ acc
  | f + 1, n, acc => if n > 0 then mtN f (n / 10) (strOfNums [(48 + n % 10) % 256] ++ acc) else (⟨#[109]⟩ : ByteArray) ++ acc
def mtx (n : Int) : ByteArray := if n ≤ 0 then ⟨#[109, 48]⟩ else mtN n.toNat n ⟨#[]⟩

theorem markText_loop : ∀ (f : Nat) (n : Int) (acc : ByteArray), 0 ≤ n → n ≤ f → acc.size + f ≤ 1152921504606846976 → Ev (fun k => laws_markText.l0 k n acc) (mtN f n acc)
  | 0, n, acc, h0, h1, h2 => by
    refine Ev.step (fun k => laws_markText.l0.eq_2 ..) (ev_if_neg (by omega) (ev_if_pos (by omega) (ev_some rfl)))
  | f + 1, n, acc, h0, h1, h2 => by
    refine Ev.step (fun k => laws_markText.l0.eq_2 ..) ?_
    unfold mtN
    by_cases hn : n > 0
    · refine ev_if_pos hn ?_
      rw [if_pos hn, tmod_nn (by omega), tdiv_nn (by omega), wrap_id (x := 48 + n % 10) (by omega) (by omega), wrap_id (x := n / 10) (by omega) (by omega)]
      simp only [Option.bind_some]
      exact ev_if_pos (by rw [one_size]; omega) (markText_loop f (n / 10) _ (by omega) (by omega) (by rw [size_append, one_size]; omega))
    · rw [if_neg hn]
      exact ev_if_neg hn (ev_if_pos (by omega) (ev_some rfl))
theorem markText_ev (n : Int) (h1 : n ≤ 576460752303423488) : Ev (fun k => laws_markText.f k n) (mtx n) := by
  unfold laws_markText.f mtx
  by_cases hn : n ≤ 0
  · rw [if_pos hn]; exact ev_if_pos hn (ev_some rfl)
  · rw [if_neg hn]; exact ev_if_neg hn (markText_loop n.toNat n ⟨#[]⟩ (by omega) (by omega) (by show 0 + _ ≤ _; omega))

def marksR : Nat → Nat → List ByteArray
  | 0, _ => []
  | d + 1, n => mtx n :: marksR d (n + 1)
theorem marksR_length : ∀ d n, (marksR d n).length = d
  | 0, _ => rfl
  | d + 1, n => by simp [marksR, marksR_length d (n + 1)]

theorem markStringS_loop : ∀ (rest pre : List ByteArray) (n i : Nat), pre.length = i → i + rest.length ≤ 1073741824 ∧ n + rest.length ≤ 1073741824 →
    Ev (fun k => laws_markStringS.l0 k (pre ++ rest) n i) (((n + rest.length : Nat) : Int), pre ++ marksR rest.length n)
  | [], pre, n, i, hp, hb => by
    refine Ev.step (fun k => laws_markStringS.l0.eq_2 ..) (ev_if_neg (by rw [List.append_nil]; omega) (ev_some (by simp [marksR])))
  | s :: rest, pre, n, i, hp, hb => by
    simp only [List.length_cons] at hb
    refine Ev.step (fun k => laws_markStringS.l0.eq_2 ..) (ev_if_pos (by rw [List.length_append, List.length_cons]; omega) (ev_bind (markText_ev n (by omega)) (ev_if_pos (by omega) ?_)))
    rw [wrap_succ (by omega), wrap_succ (by omega), Int.toNat_natCast]
    subst hp
    have e : (pre ++ s :: rest).set pre.length (mtx n) = (pre ++ [mtx n]) ++ rest := by
      rw [List.set_append_right _ _ (Nat.le_refl _), Nat.sub_self]; simp
    rw [e]
    refine ev_eq (markStringS_loop rest (pre ++ [mtx n]) (n + 1) (pre.length + 1) (by simp) ⟨by omega, by omega⟩) ?_
    have e2 : n + 1 + rest.length = n + (rest.length + 1) := by omega
    simp only [List.length_cons, marksR, List.append_assoc, List.singleton_append, e2]
theorem markStringS_ev (l : List ByteArray) (n : Nat) (hb : l.length + n ≤ 1073741824) : Ev (fun k => laws_markStringS.f k l n) (((n + l.length : Nat) : Int), marksR l.length n) := by
  unfold laws_markStringS.f
  exact markStringS_loop l [] n 0 rfl ⟨by omega, by omega⟩

theorem heldStringS_loop (l : List ByteArray) (hl : l.length ≤ 1073741824) : ∀ (d n i : Nat), l.drop i = marksR d n → d + n ≤ 1073741824 → i + d = l.length →
    Ev (fun k => laws_heldStringS.l0 k l n i) ((n + d : Nat) : Int)
  | 0, n, i, hd, hb, hi => by
    exact Ev.step (fun k => laws_heldStringS.l0.eq_2 ..) (ev_if_neg (by omega) (ev_some rfl))
  | d + 1, n, i, hd, hb, hi => by
    obtain ⟨hi', hd', hx⟩ := drop_cons hd
    refine Ev.step (fun k => laws_heldStringS.l0.eq_2 ..) (ev_if_pos (by omega) (ev_if_pos (by omega) (ev_bind (markText_ev n (by omega)) ?_)))
    rw [hx, wrap_succ (by omega), wrap_succ (by omega)]
    refine ev_if_pos rfl (ev_eq (heldStringS_loop l hl d (n + 1) (i + 1) hd' (by omega) (by omega)) ?_)
    congr 1
    omega
theorem heldStringS_ev (d n : Nat) (hb : d + n ≤ 1073741824) : Ev (fun k => laws_heldStringS.f k (marksR d n) n) ((n + d : Nat) : Int) := by
  unfold laws_heldStringS.f
  exact heldStringS_loop (marksR d n) (by rw [marksR_length]; omega) d n 0 rfl hb (by rw [marksR_length]; omega)

theorem bt_extract (s : ByteArray) (i : Nat) (h : i < s.size) : bt (s.extract i s.size) 0 = bt s i := by
  unfold bt
  have e : (s.extract i s.size).size = s.size - i := by rw [ByteArray.size_extract]; omega
  rw [dif_pos (by show 0 < _; omega), dif_pos (by rw [Int.toNat_natCast]; exact h)]
  simp only [ByteArray.getElem_extract, Int.toNat_natCast, Int.toNat_zero, Nat.add_zero]
abbrev RB := ByteArray × ByteArray × List ByteArray × Bool
theorem bt_nat (s : ByteArray) (i : Int) : ∃ b : Nat, (Unit → bt s i = b) ∧ b ≤ 255 := by
  have h := bt_range s i
  generalize bt s i = x at h ⊢
  exact ⟨x.toNat, fun _ => by omega, by omega⟩
theorem read_word {i b n : Nat} (hn : n ≤ 600) (hi : i < n) (hb : b ≤ 255) : (Unit → wrap64 (b : Int) = (b : Int)) ∧ (Unit → wrap64 (wrap64 ((n : Int) - (i : Int)) - 1) = (n : Int) - i - 1) ∧ (Unit → wrap64 ((i : Int) + 1) = ((i + 1 : Nat) : Int)) ∧ (Unit → wrap64 (((i + 1 : Nat) : Int) + (b : Int)) = ((i + 1 + b : Nat) : Int)) ∧ (Unit → wrap64 (1 + (b : Int)) = ((1 + b : Nat) : Int)) ∧ (Unit → wrap64 ((i : Int) + ((1 + b : Nat) : Int)) = ((i + 1 + b : Nat) : Int)) := by
  refine ⟨fun _ => wrap_cast (by omega), fun _ => ?_, fun _ => wrap_succ (by omega), fun _ => ?_, fun _ => ?_, fun _ => ?_⟩
  · rw [wrap_id (x := (n : Int) - (i : Int)) (by omega) (by omega), wrap_id (by omega) (by omega)]
  · rw [wrap_id (by omega) (by omega)]; omega
  · rw [wrap_id (by omega) (by omega)]; omega
  · rw [wrap_id (by omega) (by omega)]; omega
theorem read_end (s p r t : ByteArray) (acc : List ByteArray) (i : Nat) (ha : acc.length ≤ 600) (hi : i = s.size) (ht : t.size = 0) :
    ∃ R : RB, Ev (fun k => spec_ReadBlock.l0 k s i p r acc) R ∧ Ev (fun k => impl_ReadBlock.l0 k t p r acc) R ∧ R.2.2.1.length ≤ 600 := by
  have k1 := spec_GoodBlock_ev p r acc (by omega)
  have k2 := impl_GoodBlock_ev p r acc (by omega)
  refine ⟨if goodB p r acc = true then (p, r, acc, true) else (⟨#[]⟩, ⟨#[]⟩, [], false), Ev.step (fun k => spec_ReadBlock.l0.eq_2 ..) (ev_if_neg (by omega) (ev_bind k1 (ev_ite (fun _ => ev_some rfl) (fun _ => ev_some rfl)))), Ev.step (fun k => impl_ReadBlock.l0.eq_2 ..) (ev_if_pos ((toList_nil _).2 ht) (ev_bind k2 (ev_ite (fun _ => ev_some rfl) (fun _ => ev_some rfl)))), ?_⟩
  split
  · exact ha
  · exact Nat.zero_le _
theorem read_bad (s p r t : ByteArray) (acc : List ByteArray) (i b n : Nat) (en : s.size = n) (hn : n ≤ 600) (hi : i < n) (et : t.size = n - i) (hb : b ≤ 255) (e1 : Unit → bt s i = b) (e2 : Unit → bt t 0 = b) (hbad : n - i ≤ b) :
    ∃ R : RB, Ev (fun k => spec_ReadBlock.l0 k s i p r acc) R ∧ Ev (fun k => impl_ReadBlock.l0 k t p r acc) R ∧ R.2.2.1.length ≤ 600 := by
  obtain ⟨w1, w2, _⟩ := read_word hn hi hb
  have hne : ¬ t.toList = ([] : List UInt8) := by rw [toList_nil]; omega
  refine ⟨(⟨#[]⟩, ⟨#[]⟩, [], false), Ev.step (fun k => spec_ReadBlock.l0.eq_2 ..) (ev_if_pos (by rw [en]; omega) (ev_if_pos (by omega) (ev_if_pos ?_ (ev_some rfl)))), Ev.step (fun k => impl_ReadBlock.l0.eq_2 ..) (ev_if_neg hne (ev_if_pos (by rw [et]; omega) (ev_if_pos ?_ (ev_some rfl)))), Nat.zero_le _⟩
  · rw [e1 (), w1 (), en, w2 ()]; omega
  · rw [e2 (), w1 (), et]; omega
theorem read_on (s p r t : ByteArray) (acc : List ByteArray) (i b n : Nat) (en : s.size = n) (hn : n ≤ 600) (hi : i < n) (et : t.size = n - i) (hb : b ≤ 255) (e1 : Unit → bt s i = b) (e2 : Unit → bt t 0 = b) (hbad : b < n - i) (ha : acc.length ≤ 600) (x : ByteArray) (R : RB) (x1 : s.extract (i + 1) (i + 1 + b) = x) (x2 : t.extract 1 (1 + b) = x) (t' : ByteArray) (x3 : t.extract (1 + b) t.size = t')
    (r1 : Ev (fun k => spec_ReadBlock.l0 k s ((i + 1 + b : Nat) : Int) p r (acc ++ [x])) R) (r2 : Ev (fun k => impl_ReadBlock.l0 k t' p r (acc ++ [x])) R) :
    Ev (fun k => spec_ReadBlock.l0 k s i p r acc) R ∧ Ev (fun k => impl_ReadBlock.l0 k t p r acc) R := by
  obtain ⟨w1, w2, w4, w5, w6, w7⟩ := read_word hn hi hb
  have hne : ¬ t.toList = ([] : List UInt8) := by rw [toList_nil]; omega
  refine ⟨Ev.step (fun k => spec_ReadBlock.l0.eq_2 ..) (ev_if_pos (by rw [en]; omega) (ev_if_pos (by omega) (ev_if_neg ?_ ?_))), Ev.step (fun k => impl_ReadBlock.l0.eq_2 ..) (ev_if_neg hne (ev_if_pos (by rw [et]; omega) (ev_if_neg ?_ ?_)))⟩
  · rw [e1 (), w1 (), en, w2 ()]; omega
  · simp only [e1 (), w1 (), w4 (), w5 (), w6 (), w7 (), Int.toNat_natCast, x1]
    exact ev_if_pos (by omega) (ev_if_pos (by omega) (ev_if_pos (by rw [en]; omega) (ev_if_pos (by omega) r1)))
  · rw [e2 (), w1 (), et]; omega
  · simp only [e2 (), w1 (), w6 (), Int.toNat_natCast, x2, x3]
    exact ev_if_pos (by omega) (ev_if_pos (by rw [et]; omega) (ev_if_pos (by omega) (ev_if_pos (by omega) r2)))
theorem read_loop (s p r : ByteArray) (n : Nat) (en : s.size = n) (hs : n ≤ 600) : ∀ (f d i : Nat) (acc : List ByteArray), d ≤ f → i + d = n → acc.length ≤ i → ∀ t, t = s.extract i n →
    ∃ R : RB, Ev (fun k => spec_ReadBlock.l0 k s i p r acc) R ∧ Ev (fun k => impl_ReadBlock.l0 k t p r acc) R ∧ R.2.2.1.length ≤ 600 := by
  intro f
  induction f with
  | zero =>
    intro d i acc hf hd ha t ht
    have esz : t.size = n - i := by rw [ht, ByteArray.size_extract, en]; omega
    exact read_end s p r t acc i (by omega) (by omega) (by omega)
  | succ f ih =>
    intro d i acc hf hd ha t ht
    have esz : t.size = n - i := by rw [ht, ByteArray.size_extract, en]; omega
    by_cases h0 : d = 0
    · exact read_end s p r t acc i (by omega) (by omega) (by omega)
    · obtain ⟨b, eb, hb2⟩ := bt_nat s i
      have eb2 : Unit → bt t 0 = b := fun _ => by rw [ht, ← en, bt_extract s i (by omega), eb ()]
      by_cases hbad : n - i ≤ b
      · exact read_bad s p r t acc i b n en hs (by omega) esz hb2 eb eb2 hbad
      · have x1 : t.extract 1 (1 + b) = s.extract (i + 1) (i + 1 + b) := by
          rw [ht, ByteArray.extract_extract]
          congr 1
          omega
        have x2 : t.extract (1 + b) t.size = s.extract (i + 1 + b) n := by
          rw [esz, ht, ByteArray.extract_extract]
          congr 1 <;> omega
        obtain ⟨R, r1, r2, r3⟩ := ih (d - (1 + b)) (i + 1 + b) (acc ++ [s.extract (i + 1) (i + 1 + b)]) (by omega) (by omega) (by rw [List.length_append, List.length_singleton]; omega) _ rfl
        obtain ⟨q1, q2⟩ := read_on s p r t acc i b n en hs (by omega) esz hb2 eb eb2 (by omega) (by omega) _ R rfl x1 _ x2 r1 r2
        exact ⟨R, q1, q2, r3⟩

theorem ReadBlock_both (s : ByteArray) : ∃ R : RB, Ev (fun k => spec_ReadBlock.f k s) R ∧ Ev (fun k => impl_ReadBlock.f k s) R ∧ R.2.2.1.length ≤ 600 := by
  unfold spec_ReadBlock.f impl_ReadBlock.f
  by_cases h1 : 8 ≤ s.size
  · by_cases h2 : s.size ≤ 600
    · obtain ⟨R, r1, r2, r3⟩ := read_loop s (s.extract 0 4) (s.extract 4 8) s.size rfl h2 (s.size - 8) (s.size - 8) 8 [] (by omega) (by omega) (by simp) _ rfl
      refine ⟨R, ev_bind (a := true) ?_ (ev_if_pos rfl (ev_if_pos (by omega) (ev_if_pos (by omega) (ev_if_pos (by omega) (ev_if_pos (by omega) r1))))), ev_bind (a := true) ?_ (ev_if_pos rfl (ev_if_pos (by omega) (ev_if_pos (by omega) (ev_if_pos (by omega) (ev_if_pos (by omega) r2))))), r3⟩
      · unfold spec_l1In.f; exact ev_if_pos (by omega) (ev_some (by simp; omega))
      · unfold impl_within.f; exact ev_if_pos (by omega) (ev_some (by simp; omega))
    · refine ⟨(⟨#[]⟩, ⟨#[]⟩, [], false), ev_bind (a := false) ?_ (ev_if_neg (by simp) (ev_some rfl)), ev_bind (a := false) ?_ (ev_if_neg (by simp) (ev_some rfl)), by show 0 ≤ 600; omega⟩
      · unfold spec_l1In.f; exact ev_if_pos (by omega) (ev_some (by simp; omega))
      · unfold impl_within.f; exact ev_if_pos (by omega) (ev_some (by simp; omega))
  · refine ⟨(⟨#[]⟩, ⟨#[]⟩, [], false), ev_bind (a := false) ?_ (ev_if_neg (by simp) (ev_some rfl)), ev_bind (a := false) ?_ (ev_if_neg (by simp) (ev_some rfl)), by show 0 ≤ 600; omega⟩
    · unfold spec_l1In.f; exact ev_if_neg (by omega) (ev_some rfl)
    · unfold impl_within.f; exact ev_if_neg (by omega) (ev_some rfl)

theorem FnExactReadBlock : laws_FnExactReadBlock.Pure := by
  intro s hs
  refine Ev.rounds (g := fun k => laws_FnExactReadBlock.f k s) ?_
  unfold laws_FnExactReadBlock.f
  by_cases hn : (s.size : Int) > 1048576
  · exact ev_if_pos hn (ev_some rfl)
  obtain ⟨⟨p, r, l, ok⟩, r1, r2, r3⟩ := ReadBlock_both s
  have r3 : l.length ≤ 600 := r3
  have hm : Ev (fun k => laws_markBlock.f k p r l 1) (((1 + l.length : Nat) : Int), marksR l.length 1) := by
    unfold laws_markBlock.f
    exact ev_bind (markStringS_ev l 1 (by omega)) (ev_some rfl)
  have hh : Ev (fun k => laws_heldBlock.f k p r (marksR l.length 1) 1) ((1 + l.length : Nat) : Int) := by
    unfold laws_heldBlock.f
    exact ev_bind (heldStringS_ev l.length 1 (by omega)) (ev_if_neg (by omega) (ev_some rfl))
  have he := eqBlock_ev p r l (by omega)
  refine ev_if_neg hn (ev_bind r1 (ev_bind r2 (ev_bind he (ev_if_pos rfl ?_))))
  simp only [bne_self_eq_false]
  refine Ev.step (fun k => laws_FnExactReadBlock.j0.eq_2 ..) (ev_if_neg (by simp) (ev_bind hm (ev_bind hh (ev_if_neg (by omega) (ev_if_pos rfl (ev_bind r2 (ev_bind he (ev_if_pos rfl ?_))))))))
  simp only [bne_self_eq_false]
  exact Ev.step (fun k => laws_FnExactReadBlock.j1.eq_2 ..) (ev_if_neg (by simp) (ev_bind hh (ev_if_neg (by omega) (ev_if_pos rfl (ev_some rfl)))))

end Go.Proofs.Ytngblojmiicclaa.Pure
