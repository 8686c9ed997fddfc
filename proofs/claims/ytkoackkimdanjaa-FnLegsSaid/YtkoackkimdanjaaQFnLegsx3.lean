-- Written by this session's own program (wip/pp_patch.py, wip/pp.sh) out of the given translation. Not trusted: Lean checks it.
import Derived.Test.YtkoackkimdanjaaQFnLegsx0
import Derived.Test.YtkoackkimdanjaaQFnLegsx2
namespace Go.Proofs.Ytkoackkimdanjaa.QFnLegs
open Go.RowKit Go.Proofs.YtkoackkimdanjaaW.PrintWords Go.Proofs.YtkoackkimdanjaaW.PrintLast Go.Proofs.YtkoackkimdanjaaW.PrintMore
attribute [local go_sem] max2_int min2_int max_two min_two max_three min_three max_four min_four   -- for this text's walks alone
open Go.Proofs.Ytkoackkimdanjaa.Ext
attribute [local go_sem high] ext_gtr ext_leq
set_option linter.unusedVariables false
set_option linter.unusedSimpArgs false

/-! ### spec_l13Build: function 44 (by hand) -/
def spec_l13Build.f (l0 : List S48) (a1 : Int) (l2 : List S59) : Option (List S59) := if 0 ≤ a1 ∧ LegGood (fun x : S48 => x.f0.data.toList) a1.toNat l0 ∧ l2.length + 1 + l0.length * 13 ≤ 1000000 then some (l2 ++ legsF (fun x : S48 => x.f0.data.toList) (fun x => x.f1) (fun a b c k => (⟨a, b, c, k⟩ : S59)) (13 - a1.toNat) l0 a1.toNat l2.length) else none
def spec_l13Build.At (wd : S48 → List UInt8) (wt : S48 → Int) (mk : Int → Int → Int → List Int → S59) (k : Nat) : Prop := ∀ (P0_ : Nat → Prop) (A0 : Option Addr) (c0 : Nat) (l0 : List S48) (n : Nat) (u9002_ : Value) (l2 : List S59) (w0 w : World), n + k = 13 → LegGood wd n l0 → l2.length + 1 + l0.length * k ≤ 1000000 → Below w0.heap.size w0 w → (∀ W_, Kept w W_ (fun k_ => P0_ k_) → Kd.C k48 W_ A0 l0.length l0) → l0.length ≤ c0 → Kd.S k59 59 w w0.heap.size P0_ u9002_ l2 →
  Calls Try.prog 44 #[.slice A0 l0.length c0, .int .i64 n, u9002_] w fun e w' => ∃ v0_ : Value, e = .returned (v0_) ∧ Kd.S k59 59 w' w0.heap.size (fun k_ => (P0_ k_ ∨ w.heap.size ≤ k_)) v0_ (l2 ++ legsF wd wt mk k l0 n l2.length) ∧ Below w0.heap.size w0 w' ∧ Kept w w' (fun k_ => P0_ k_)
set_option maxHeartbeats 8000000 in
set_option maxRecDepth 100000 in
theorem spec_l13Build.step (wd : S48 → List UInt8) (hwd : wd = fun x => x.f0.data.toList) (wt : S48 → Int) (hwt : wt = fun x => x.f1) (mk : Int → Int → Int → List Int → S59) (hmk : mk = fun a b c k => ⟨a, b, c, k⟩) (k : Nat) (ih0 : spec_l13Build.At wd wt mk k) : spec_l13Build.At wd wt mk (k + 1) := by
  intro P0_ A0 cc0 l0 n u9002_ l2 w0 w hn hg hmax hB hr0 hc0 ho2
  unfold spec_l13Build.At at ih0
  have ih := mk_ ih0
  clear ih0
  have HN := mk_ hn
  have HG := mk_ hg
  have HM := mk_ hmax
  have HB := mk_ hB
  have HR := mk_ hr0
  have HC := mk_ hc0
  have HS := mk_ ho2
  obtain ⟨A2, c2, rfl⟩ := Kd.S_slice ho2
  clear hn hg hmax hB hr0 hc0 ho2
  go_enter Try.func44, Try.ntmps44
  go_wp2_with (first | ((with_reducible refine gate_dst (N := 8) rfl ?_); refine box_event sq_0 (N := 8) sq_0 (cs := #[.int .i64 0, .int .i64 0, .int .i64 0, .slice none 0 0]) (t := 59) sq_h ?_; intro g8 hg8 w3 hbox hb8; have BK := mk_ hbox; have B3 := mk_ hb8; have G8 := mk_ hg8; have hc0 := (blk_cell BK.out 0).trans rfl; have hc1 := (blk_cell BK.out 1).trans rfl; have hc2 := (blk_cell BK.out 2).trans rfl; have hc3 := (blk_cell BK.out 3).trans rfl; have hf0 := blk_frozen BK.out 0; have hf1 := blk_frozen BK.out 1; have hf2 := blk_frozen BK.out 2; have hf3 := blk_frozen BK.out 3; clear hbox hb8 hg8))
  have GE := mk_ (show w.heap.size ≤ g8 from by rw [G8.out]; exact Nat.le_refl _)
  clear hc0 hc1 hc2 hc3 hf0 hf1 hf2 hf3
  go_loopg [19] l0.length (fun kq v19 w' => ∃ (i : Nat) (x : Int), v19 = .int .i64 x ∧ Aside0 (x = i) ∧ Aside0 (i + kq = l0.length) ∧ Aside0 (w'.heap[g8]? = some (.cells #[.int .i64 (if i = 0 then 0 else legLetter wd n l0), .int .i64 (if i = 0 then 0 else legWeight wd wt n l0), .int .i64 (legBest wt (l0.take i) 0), .slice none 0 0] 59 (0, 0))) ∧ Aside0 (Below w.heap.size w w'))
  case atStart => exact ⟨0, 0, rfl, ⟨rfl⟩, ⟨by simp⟩, ⟨blk_put (cs := #[.int .i64 0, .int .i64 0, .int .i64 0, .slice none 0 0]) (blk_put (cs := #[.int .i64 0, .int .i64 0, .int .i64 0, .slice none 0 0]) (blk_put (cs := #[.int .i64 0, .int .i64 0, .int .i64 0, .slice none 0 0]) (blk_put (cs := #[.int .i64 0, .int .i64 0, .int .i64 0, .slice none 0 0]) BK.out 0 _ rfl) 1 _ rfl) 2 _ rfl) 3 _ rfl⟩, ⟨below_set (below_set (below_set (below_set B3.out GE.out) GE.out) GE.out) GE.out⟩⟩
  case round => as_aux_lemma =>
   clear BK B3
   obtain ⟨i, x, rfl, HX, HI, BK, B3⟩ := hrel
   cases gk with
   | zero =>
    have c1 : decide (x < (l0.length : Int)) = false := decide_eq_false (by have := HX.out; have := HI.out; omega)
    have hcell : ∃ L W B, L = legLetter wd n l0 ∧ W = legWeight wd wt n l0 ∧ B = legBest wt l0 0 ∧ wr.heap[g8]? = some (.cells #[.int .i64 L, .int .i64 W, .int .i64 B, .slice none 0 0] 59 (0, 0)) := by
     refine ⟨_, _, _, rfl, rfl, rfl, ?_⟩
     have h := BK.out
     have hi : i = l0.length := by have := HI.out; omega
     rw [hi, List.take_length] at h
     rw [h]
     cases l0 with
     | nil => rfl
     | cons y l => rw [if_neg (by simp), if_neg (by simp)]
    obtain ⟨L, W, B, hL, hW, hB, hcell⟩ := hcell
    have HLWB := mk_ (And.intro hL (And.intro hW hB))
    clear BK hL hW hB
    have hc0 : wr.cell? ⟨g8, 0, none⟩ = some (.int .i64 L) := (blk_cell hcell 0).trans rfl
    have hc1 : wr.cell? ⟨g8, 1, none⟩ = some (.int .i64 W) := (blk_cell hcell 1).trans rfl
    have hc2 : wr.cell? ⟨g8, 2, none⟩ = some (.int .i64 B) := (blk_cell hcell 2).trans rfl
    have hc3 : wr.cell? ⟨g8, 3, none⟩ = some (.slice none 0 0) := (blk_cell hcell 3).trans rfl
    have HS1 := mk_ (Kd.S_mono (Kd.S_below HS.out B3.out) (fun k_ h_ => (Or.inl h_ : P0_ k_ ∨ w.heap.size ≤ k_)))
    clear hcell
    have hinfo : (Try.prog.info? 59).map (fun i => (i.zero, i.size, i.bytes)) = some (some (.agg #[.int .i64 0, .int .i64 0, .int .i64 0, .slice none 0 0]), 4, 48) := by kernel_rfl
    have hmkL : ∀ W0 base ok, Kd.M k59 W0 base ok (mk L W B []) [.int .i64 L, .int .i64 W, .int .i64 B, .slice none 0 0] := by
     intro W0 base ok
     rw [hmk]
     exact k59_mkM W0 base ok (⟨L, W, B, []⟩ : S59) (Kd.R_nil _ _ _ _ _)
    have HBw := mk_ (below_step HB.out B3.out)
    go_wp2_with (first | ((with_reducible refine gate_builtin (b := .append) (xs := #[.tmp 50, .tmp 52]) rfl ?_); at_builtin; refine Kd.S_append k59 (w0 := w0) w0.heap.size rfl (.tmp 50) (.tmp 52) 24 59 (.agg #[.int .i64 0, .int .i64 0, .int .i64 0, .slice none 0 0]) 48 rfl Try.underlying24 hinfo rfl (by decide) (by omega) (.slice A2 l2.length c2) l2 (mk L W B []) [.int .i64 L, .int .i64 W, .int .i64 B, .slice none 0 0] (fun k_ => (P0_ k_ ∨ w.heap.size ≤ k_)) (fun _ => False) rfl rfl (hmkL _ _ _) (fun _ h_ => h_.elim) ?aF ?aO HBw.out HBw.out.size ?aL ?_; (case aF => exact fun k_ h_ => Or.inr (Nat.le_trans B3.out.size h_)); (case aO => exact Kd.S_mono HS1.out (fun _ h_ => ⟨h_, fun e_ => e_⟩)); (case aL => have := HM.out; omega); intro v1 w1 ho hb hg hat; have HS2 := mk_ ho; have HB2 := mk_ hb; have HK2 := mk_ (Kept.of_grown hg (Kept.of_below B3.out P0_) (fun k_ e_ => .inl ((Kd.S_R HS.out).1 k_ e_))); clear ho hb hg hat))
    obtain ⟨F, hF⟩ : ∃ F : List S48 → Nat → List S59, F = fun g a => legsF wd wt mk k g (n + 1) a := ⟨_, rfl⟩
    have HF := mk_ hF
    obtain ⟨R, hR⟩ : ∃ R : List Int × List S59, R = foldK F l2.length (groups wd n (legRest wd n l0)) [] [] := ⟨_, rfl⟩
    have HRF := mk_ hR
    clear hF hR hc0 hc1 hc2 hc3 HS1 hmkL hinfo c1 HX HI
    go_loopg [2, 11] l0.length (fun kq v2 v11 w' => ∃ (p : Nat) (z : Int) (ks : List Int) (bs : List S59), v11 = .int .i64 z ∧ Aside0 (z = p) ∧ Aside0 (p + kq = l0.length) ∧ Aside0 (foldK F l2.length (groups wd n (if p = 0 then legRest wd n l0 else l0.drop p)) ks bs = R) ∧ Aside0 (bs.length + (l0.length - p) * (k + 1) ≤ l0.length * (k + 1)) ∧ Aside0 (ks.length ≤ p) ∧ Aside0 (Kd.S k59 59 w' w0.heap.size (fun k_ => (P0_ k_ ∨ w.heap.size ≤ k_)) v2 (l2 ++ mk L W B ks :: bs)) ∧ Aside0 (Below w0.heap.size w0 w') ∧ Aside0 (Kept w w' (fun k_ => P0_ k_)))
    case atStart => exact ⟨0, 0, [], [], rfl, ⟨rfl⟩, ⟨by simp⟩, ⟨by rw [if_pos rfl, HRF.out]⟩, ⟨by simp⟩, ⟨Nat.le_refl _⟩, HS2, HB2, HK2⟩
    case round => as_aux_lemma =>
     clear HS2 HB2 HK2
     obtain ⟨p, z, ks, bs, rfl, HZ, HP, HA, HBd, HKS, HS2, HB2, HK2⟩ := hrel
     cases gk with
     | zero =>
      have c1 : decide (z < (l0.length : Int)) = false := decide_eq_false (by have := HZ.out; have := HP.out; omega)
      go_wp2
      go_ret
      have ha := HA.out
      have hp : p = l0.length := by have := HP.out; omega
      have hgr : (if p = 0 then legRest wd n l0 else l0.drop p) = [] := by
       split
       ·rename_i h0
        have : l0 = [] := List.eq_nil_of_length_eq_zero (by omega)
        rw [this]; rfl
       ·rw [hp, List.drop_length]
      rw [hgr] at ha
      have ha : (ks, bs) = R := ha
      have hs := HS2.out
      have e : mk L W B ks :: bs = legsF wd wt mk (k + 1) l0 n l2.length := by
       have h1 : ks = R.1 := by rw [← ha]
       have h2 : bs = R.2 := by rw [← ha]
       rw [h1, h2, HRF.out, HF.out, HLWB.out.1, HLWB.out.2.1, HLWB.out.2.2]
       rfl
      rw [e] at hs
      exact ⟨_, rfl, hs, HB2.out, HK2.out⟩
     | succ k1 =>
      obtain ⟨g2, cp2, e2, _, _, _⟩ := Kd.S_form HS2.out (by simp; omega)
      subst e2
      obtain ⟨N, hN⟩ : ∃ N, N = (l2 ++ mk L W B ks :: bs).length := ⟨_, rfl⟩
      have HN2 := mk_ hN
      rw [← hN] at HS2 ⊢
      clear hN
      have p1 : z < (l0.length : Int) := by have := HZ.out; have := HP.out; omega
      have p0 : 0 ≤ z := by have := HZ.out; omega
      have c1 : decide (z < (l0.length : Int)) = true := decide_eq_true p1
      have c0 : decide (0 ≤ z) = true := decide_eq_true p0
      obtain ⟨y, hy⟩ : ∃ y, l0[p]? = some y := ⟨_, List.getElem?_eq_getElem (by have := HP.out; omega)⟩
      have HY := mk_ hy
      have hys := HG.out.size y (List.mem_of_getElem? hy)
      have HYS := mk_ hys
      have hC := HR.out wr HK2.out
      obtain ⟨ad, rfl, hx0, hx1⟩ := at_T48 hC z p0 p1
      have hrd : rd_T48 l0 z = y := by unfold rd_T48; rw [HZ.out, Int.toNat_natCast, List.getD_eq_getElem?_getD, hy]; rfl
      rw [hrd] at hx0 hx1
      have hsz : (wd y).length = y.f0.size := by rw [hwd]; exact size_data _
      have HSZ := mk_ hsz
      have HW := mk_ (show wrap64 (z + 1) = z + 1 from by have := HG.out.many; unfold wrap64; omega)
      clear hy hys hrd hsz hC
      by_cases hs : y.f0.size = n
      ·have d1 : ((y.f0.size : Int) == (n : Int)) = true := beq_iff_eq.mpr (by omega)
       have HS0 := mk_ hs
       clear hs
       go_wp2
       go_roundg k1
       case measure => omega
       case rel =>
        have hp0 : p = 0 := by
         rcases Nat.eq_zero_or_pos p with h | h
         ·exact h
         ·exfalso
          have hy := HY.out
          have hg := HG.out
          cases l0 with
          | nil => cases hy
          | cons a l =>
           obtain ⟨q, rfl⟩ : ∃ q, p = q + 1 := ⟨p - 1, by omega⟩
           have := hg.tail_long y (List.mem_of_getElem? (by simpa using hy : l[q]? = some y))
           have h1 := HSZ.out
           have h2 := HS0.out
           omega
        refine ⟨p + 1, z + 1, ks, bs, by rw [HW.out], ⟨by have := HZ.out; omega⟩, ⟨by have := HP.out; omega⟩, ⟨?_⟩, ⟨?_⟩, ⟨Nat.le_succ_of_le HKS.out⟩, HS2, HB2, HK2⟩
        ·have ha := HA.out
         have hy := HY.out
         rw [hp0] at ha hy ⊢
         rw [if_pos rfl] at ha
         rw [if_neg (by omega)]
         cases l0 with
         | nil => cases hy
         | cons a l =>
          have hy : a = y := by simpa using hy
          have e1 : legRest wd n (a :: l) = if (wd a).length = n then l else a :: l := rfl
          rw [e1, hy, if_pos (by rw [HSZ.out]; exact HS0.out)] at ha
          exact ha
        ·have := HBd.out
         exact Nat.le_trans (Nat.add_le_add_left (Nat.mul_le_mul_right _ (by omega)) _) this
      ·have d1 : ((y.f0.size : Int) == (n : Int)) = false := beq_eq_false_iff_ne.mpr (by omega)
       have HS0 := mk_ hs
       have HNS := mk_ (show n < y.f0.size by have := HYS.out; have := HSZ.out; omega)
       clear hs
       have HA2 := mk_ (show foldK F l2.length (groups wd n (l0.drop p)) ks bs = R from by
        have ha := HA.out
        by_cases h : p = 0
        ·have hy := HY.out
         rw [h] at ha hy ⊢
         rw [if_pos rfl] at ha
         cases l0 with
         | nil => cases hy
         | cons a l =>
          have hy : a = y := by simpa using hy
          have e1 : legRest wd n (a :: l) = if (wd a).length = n then l else a :: l := rfl
          rw [e1, hy, if_neg (by rw [HSZ.out]; exact HS0.out)] at ha
          rw [hy]
          exact ha
        ·rwa [if_neg h] at ha)
       clear HA
       obtain ⟨wS, hwS⟩ : ∃ wS : World, wS = wr := ⟨_, rfl⟩
       have HC1 := mk_ (HR.out wr HK2.out)
       rw [← hwS] at HS2 HB2 HK2 hx0 hx1 HC1 ⊢
       have HX0 := mk_ hx0
       have HWS := mk_ hwS
       clear hwS HWS
       go_upto_block 4 with fail
       go_cut [12] (fun v12 wx => ∃ (q : Nat) (x : Int), v12 = .int .i64 x ∧ Aside0 (x = q) ∧ Aside0 (p ≤ q) ∧ Aside0 (q ≤ l0.length) ∧ Aside0 (p < q ∧ groups wd n (l0.drop p) = (l0.drop p).take (q - p) :: groups wd n (l0.drop q)) ∧ Aside0 (Below wS.heap.size wS wx))
       case first => as_aux_lemma =>
        go_wp2_with fail
        go_loopg [12] (l0.length - p) (fun kq v12 w' => ∃ (q : Nat) (x : Int), v12 = .int .i64 x ∧ Aside0 (x = q) ∧ Aside0 (q + kq = l0.length) ∧ Aside0 (p ≤ q) ∧ Aside0 (∀ m y', p ≤ m → m < q → l0[m]? = some y' → (wd y').getD n 0 = (wd y).getD n 0) ∧ Aside0 (Below wS.heap.size wS w'))
        case atStart => exact ⟨p, z, rfl, HZ, ⟨by have := HP.out; omega⟩, ⟨Nat.le_refl _⟩, ⟨fun m _ h1 h2 => absurd h2 (by omega)⟩, ⟨Below.refl _ _⟩⟩
        case round =>
         obtain ⟨q, x, rfl, HX, HQ, HPQ, HM4, HBW⟩ := hrel
         by_cases hgo : ∃ y', l0[q]? = some y' ∧ (wd y').getD n 0 = (wd y).getD n 0
         ·obtain ⟨y', hy', hl'⟩ := hgo
          have hql : q < l0.length := (List.getElem?_eq_some_iff.1 hy').1
          have HY' := mk_ hy'
          have HL' := mk_ hl'
          have hys' := HG.out.size y' (List.mem_of_getElem? hy')
          have hn' : n < (wd y').length := by
           rcases Nat.eq_zero_or_pos q with h | h
           ·have hp : p = q := by have := HPQ.out; omega
            have hy := HY.out
            rw [hp, hy'] at hy
            injection hy with hy
            rw [hy]; have := HSZ.out; have := HNS.out; omega
           ·have hg := HG.out
            cases l0 with
            | nil => cases hy'
            | cons a l =>
             obtain ⟨m, rfl⟩ : ∃ m, q = m + 1 := ⟨q - 1, by omega⟩
             exact hg.tail_long y' (List.mem_of_getElem? (by simpa using hy' : l[m]? = some y'))
          have hc2 := Kd.C_below HC1.out HBW.out
          have q1 : x < (l0.length : Int) := by have := HX.out; omega
          have q0 : 0 ≤ x := by have := HX.out; omega
          obtain ⟨ad2, e2, hv0, _⟩ := at_T48 hc2 x q0 q1
          injection e2 with e2
          subst e2
          have hrd : rd_T48 l0 x = y' := by unfold rd_T48; rw [HX.out, Int.toNat_natCast, List.getD_eq_getElem?_getD, hy']; rfl
          rw [hrd] at hv0
          have hu0 := (HBW.out.cell (World.block_lt_of_cell? wS _ HX0.out)).trans HX0.out
          have hd1 : decide (x < (l0.length : Int)) = true := decide_eq_true q1
          have hd0 : decide (0 ≤ x) = true := decide_eq_true q0
          have hsz' : (wd y').length = y'.f0.size := by rw [hwd]; exact size_data _
          have hn2 : n < y'.f0.size := by omega
          have hn3 : n < y.f0.size := HNS.out
          have hb1 := bt_at y'.f0 (n : Int)
          have hb2 := bt_at y.f0 (n : Int)
          have i0 := eq_true (show (0 : Int) ≤ (n : Int) by omega)
          have i1 := eq_true (show (n : Int) < (y'.f0.size : Int) by omega)
          have i2 := eq_true (show (n : Int) < (y.f0.size : Int) by omega)
          have i3 := eq_true hn2
          have i4 := eq_true hn3
          have e0 := eq_true q0
          have e1 := eq_true q1
          have e2 := eq_true p0
          have e3 := eq_true p1
          have hbe : bt y'.f0 (n : Int) = bt y.f0 (n : Int) := by rw [bt_data, bt_data]; have h := hl'; rw [hwd] at h; exact congrArg (fun u : UInt8 => (u.toNat : Int)) h
          have hbe2 : y'.f0[n]'hn2 = y.f0[n]'hn3 := by rw [← getD_data _ _ hn2, ← getD_data _ _ hn3]; have h := hl'; rw [hwd] at h; exact h
          have hbe3 : ((y'.f0[n]'hn2) == (y.f0[n]'hn3)) = true := beq_iff_eq.mpr hbe2
          have HWX := mk_ (show wrap64 (x + 1) = x + 1 from by have := HG.out.many; have := HX.out; unfold wrap64; omega)
          clear hy' hl' hys' hc2 hrd hsz'
          cases gk with
          | zero => exact absurd hql (by have := HQ.out; omega)
          | succ k4 =>
           go_wp2_with fail
           repeat (go_quiet (fail))
           all_goals (try go_wp2)
           go_roundg k4
           case measure => omega
           case rel =>
            refine ⟨q + 1, x + 1, by rw [HWX.out], ⟨by have := HX.out; omega⟩, ⟨by have := HQ.out; omega⟩, ⟨by have := HPQ.out; omega⟩, ⟨fun m y'' h1 h2 h3 => ?_⟩, ⟨pw_below_drewN HBW.out _⟩⟩
            by_cases hm : m = q
            rotate_left
            ·exact HM4.out m y'' h1 (by omega) h3
            rw [hm, HY'.out] at h3
            injection h3 with h3
            rw [← h3]; exact HL'.out
         ·have hql : q ≤ l0.length := by have := HQ.out; omega
          have HG4 := mk_ (groups_drop (wd := wd) HY.out HPQ.out hql HM4.out hgo)
          have HQL := mk_ hql
          have HC3 := mk_ (Kd.C_below HC1.out HBW.out)
          clear HC1 HS2 HB2 HK2
          by_cases hex : x < (l0.length : Int)
          ·obtain ⟨y', hy'⟩ : ∃ y', l0[q]? = some y' := ⟨_, List.getElem?_eq_getElem (by have := HX.out; omega)⟩
           have hl' : ¬ (wd y').getD n 0 = (wd y).getD n 0 := fun h => hgo ⟨y', hy', h⟩
           have hys' := HG.out.size y' (List.mem_of_getElem? hy')
           have hn' : n < (wd y').length := by
            rcases Nat.lt_or_ge n (wd y').length with h | h
            ·exact h
            ·exfalso
             have hqp : q ≠ p := fun e_ => by
              rw [e_, HY.out] at hy'
              injection hy' with e2_
              rw [← e2_] at h
              have h1 := HNS.out
              have h2 := HSZ.out
              omega
             have hlt : 0 < q := by have := HPQ.out; omega
             cases l0 with
             | nil => cases hy'
             | cons a l =>
              obtain ⟨q', rfl⟩ : ∃ q', q = q' + 1 := ⟨q - 1, by omega⟩
              have := HG.out.tail_long y' (List.mem_of_getElem? (by simpa using hy' : l[q']? = some y'))
              omega
           obtain ⟨ad2, e2, hv0, _⟩ := at_T48 HC3.out x (by have := HX.out; omega) hex
           injection e2 with e2
           subst e2
           have hu0 := (HBW.out.cell (World.block_lt_of_cell? wS _ HX0.out)).trans HX0.out
           have hrd : rd_T48 l0 x = y' := by unfold rd_T48; rw [HX.out, Int.toNat_natCast, List.getD_eq_getElem?_getD, hy']; rfl
           rw [hrd] at hv0
           have hd1 : decide (x < (l0.length : Int)) = true := decide_eq_true hex
           have hd0 : decide (0 ≤ x) = true := decide_eq_true (by have := HX.out; omega)
           have hsz' : (wd y').length = y'.f0.size := by rw [hwd]; exact size_data _
           have hn2 : n < y'.f0.size := by omega
           have hn3 : n < y.f0.size := HNS.out
           have hb1 := bt_at y'.f0 (n : Int)
           have hb2 := bt_at y.f0 (n : Int)
           have i0 := eq_true (show (0 : Int) ≤ (n : Int) by omega)
           have i1 := eq_true (show (n : Int) < (y'.f0.size : Int) by omega)
           have i2 := eq_true (show (n : Int) < (y.f0.size : Int) by omega)
           have i3 := eq_true hn2
           have i4 := eq_true hn3
           have e1 := eq_true hex
           have e2 := eq_true p0
           have e3 := eq_true p1
           have hbe2 : ¬ y'.f0[n]'hn2 = y.f0[n]'hn3 := by rw [← getD_data _ _ hn2, ← getD_data _ _ hn3]; have h := hl'; rw [hwd] at h; exact h
           have hbe3 : ((y'.f0[n]'hn2) == (y.f0[n]'hn3)) = false := beq_eq_false_iff_ne.mpr hbe2
           have hbe4 := eq_false hbe2
           have hbe5 : ((((y'.f0[n]'hn2).toNat : Int)) == (((y.f0[n]'hn3).toNat : Int))) = false := beq_eq_false_iff_ne.mpr (fun h => hbe2 (UInt8.toNat_inj.mp (Int.ofNat_inj.mp h)))
           have q0 := eq_true (show (0 : Int) ≤ x by have := HX.out; omega)
           clear hy' hl' hys' hrd hsz' hbe2 hql hgo hex
           go_wp2_with fail
           go_quiet (fail)
           go_wp2_with fail
           go_meet
           exact ⟨q, x, rfl, HX, HPQ, HQL, HG4, ⟨pw_below_drewN HBW.out _⟩⟩
          ·have hd1 : decide (x < (l0.length : Int)) = false := decide_eq_false hex
           clear hex hql hgo
           go_wp2_with fail
           go_quiet (fail)
           go_wp2_with fail
           go_meet
           exact ⟨q, x, rfl, HX, HPQ, HQL, HG4, ⟨pw_below_drewN HBW.out _⟩⟩
       case rest =>
        obtain ⟨q, x, rfl, HX, HPQ, HQL, HG4, HBW⟩ := hcut
        have HS3 := mk_ (Kd.S_bound (Kd.S_below HS2.out HBW.out))
        have HB3 := mk_ (below_step HB2.out HBW.out)
        have HK3 := mk_ (Kept.below HK2.out HBW.out)
        have HC3 := mk_ (Kd.C_below HC1.out HBW.out)
        clear HC1 HS2 HB2 HK2
        have hNl : l2.length < N := by rw [HN2.out, List.length_append, List.length_cons]; omega
        have t0 : (0 : Int) ≤ (l2.length : Int) := by omega
        have t1 : (l2.length : Int) < (N : Int) := by omega
        obtain ⟨oki, cs, _, hM, hcc, hfr, hoki, hH⟩ := Kd.S_elem HS3.out z59 (l2.length : Int) t0 t1
        rw [get_mid _ _ _ _ _ (by simp), hmk] at hM
        obtain ⟨ve, rfl, hRk⟩ := k59_openM hM
        obtain ⟨Ak, ck, rfl⟩ := Kd.R_slice hRk
        simp only [show (k59 : Kd S59).sz = 4 from rfl, Int.toNat_natCast] at hcc hfr
        have r0 := hcc 0 _ rfl
        have r1 := hcc 1 _ rfl
        have r2 := hcc 2 _ rfl
        have r3 := hcc 3 _ rfl
        rw [Nat.add_zero] at r0
        have HRk := mk_ hRk
        have HFR := mk_ hfr
        have HOK := mk_ hoki
        have HH := mk_ hH
        have s0 := eq_true t0
        have s1 := eq_true t1
        have HNN := mk_ hNl
        have g2w : g2 < wc.heap.size := World.block_lt_of_cell? wc _ r0
        have hMax : N ≤ 1000000 := by have h1 := HM.out; have h2 := HBd.out; have h3 := HN2.out; rw [List.length_append, List.length_cons] at h3; omega
        have HMX := mk_ hMax
        have hK20 : ks.length ≤ 20 := by have h1 := HKS.out; have h2 := HP.out; have h3 := HG.out.many; omega
        have HK20 := mk_ hK20
        clear hM hcc hfr hoki hH hRk hNl hMax hK20
        have hinfo3 : (Try.prog.info? 3).map (fun i => (i.zero, i.size, i.bytes)) = some (some (.int .i64 0), 1, 8) := by kernel_rfl
        have HCK := mk_ (Kd.R_reads' HRk.out).2.2
        have HPQ2 := mk_ (And.intro HG4.out.1 HQL.out)
        have q0 := eq_true (show (0 : Int) ≤ x by have := HX.out; omega)
        have q1 := eq_true (show x ≤ (cc0 : Int) by have := HX.out; have := HQL.out; have := HC.out; omega)
        have q2 := eq_true (show z ≤ max x 0 by have := HX.out; have := HZ.out; have := HPQ.out; omega)
        have q3 := eq_false (show ¬ max x 0 < z by have := HX.out; have := HZ.out; have := HPQ.out; omega)
        have q4 := eq_false (show ¬ cc0 = z.toNat by have := HZ.out; have := HPQ2.out; have := HC.out; omega)
        have q5 := eq_false (show ¬ z.toNat = cc0 by have := HZ.out; have := HPQ2.out; have := HC.out; omega)
        go_wp2_with (first | ((with_reducible refine gate_dst (N := 13) rfl ?_); refine box_event sq_0 (N := 13) sq_0 (cs := #[.int .i64 0, .int .i64 0, .int .i64 0, .slice none 0 0]) (t := 59) sq_h ?_; intro g13 hg13 w5 hbox hb5; have B5 := mk_ (show Below wc.heap.size wc w5 from hb5); have G13 := mk_ (show wc.heap.size ≤ g13 from by rw [hg13]; exact Nat.le_refl _); have BK5 := mk_ hbox; have kb0 := (blk_cell BK5.out 0).trans rfl; have kb1 := (blk_cell BK5.out 1).trans rfl; have kb2 := (blk_cell BK5.out 2).trans rfl; have kb3 := (blk_cell BK5.out 3).trans rfl; have kf0 := blk_frozen BK5.out 0; have kf1 := blk_frozen BK5.out 1; have kf2 := blk_frozen BK5.out 2; have kf3 := blk_frozen BK5.out 3; clear hg13 hbox hb5) | ((with_reducible refine gate_dst (N := 96) rfl ?_); refine Kd.R_lit (Kd.int .i64) _ 3 sq_0 (N := 96) sq_0 (xs := ([] : List Int)) (inner := []) (ok := fun _ => True) (okp := fun _ => True) sq_h ?hp (fun _ hk => hk) trivial (Below.refl _ _) (Nat.le_refl _) (by simp) ?_; (case hp => exact (Reps.none _ _)); intro v1 w7 ho hb hg_ hnew_; have B7 := mk_ (below_step (below_set (below_set (below_set (below_set B5.out G13.out) G13.out) G13.out) G13.out) hb); have BK7 := mk_ (show w7.heap[g13]? = some (.cells #[.int .i64 L, .int .i64 W, .int .i64 B, .slice Ak ks.length ck] 59 (0, 0)) from blk_below (blk_put (cs := #[.int .i64 L, .int .i64 W, .int .i64 B, .slice none 0 0]) (blk_put (cs := #[.int .i64 L, .int .i64 W, .int .i64 0, .slice none 0 0]) (blk_put (cs := #[.int .i64 L, .int .i64 0, .int .i64 0, .slice none 0 0]) (blk_put (cs := #[.int .i64 0, .int .i64 0, .int .i64 0, .slice none 0 0]) BK5.out 0 _ rfl) 1 _ rfl) 2 _ rfl) 3 _ rfl) hb); have HR1 := mk_ (Kd.R_lower ho (below_set (below_set (below_set (below_set B5.out G13.out) G13.out) G13.out) G13.out).size); have HC7 := mk_ (Kd.C_below HCK.out B7.out); have kc3 : w7.cell? ⟨g13, 3, none⟩ = some (.slice Ak ks.length ck) := (blk_cell BK7.out 3).trans rfl; clear kb0 kb1 kb2 kb3 kf0 kf1 kf2 kf3 ho hb hg_ hnew_ B5 BK5) | ((with_reducible refine gate_builtin (b := .append) (xs := #[.tmp 96, .tmp 98]) rfl ?_); at_builtin; refine Kd.R_append_rows (Kd.int .i64) (w0 := wc) wc.heap.size rfl (.tmp 96) (.tmp 98) 57 3 (.int .i64 0) 8 rfl Try.underlying57 hinfo3 rfl (by decide) (by omega) v1 [] ks _ _ _ (fun _ => True) (fun _ => False) rfl rfl HR1.out ?aR (fun _ _ h => h) (fun _ h => h.elim) (fun _ _ => trivial) B7.out B7.out.size ?aL ?_; (case aR => exact HC7.out); (case aL => have := HK20.out; simp; omega); intro v2 w8 ho hb hg hat; have BK8 := mk_ (blk_grown BK7.out hg (Kd.R_ne HR1.out BK7.out (by decide))); have B8 := mk_ hb; have HR2 := mk_ ho; clear kc3 BK7 B7 HR1 HC7 ho hb hg hat) | ((with_reducible refine gate_builtin (b := .append) (xs := #[.tmp 99, .tmp 102]) rfl ?_); at_builtin; refine Kd.R_append (Kd.int .i64) (w0 := wc) wc.heap.size rfl (.tmp 99) (.tmp 102) 57 3 (.int .i64 0) 8 rfl Try.underlying57 hinfo3 rfl (by decide) (by omega) v2 ([] ++ ks) (N : Int) [.int .i64 (N : Int)] (fun _ => True) (fun _ => False) rfl rfl rfl (fun _ hk => hk.elim) (fun _ _ => trivial) HR2.out B8.out B8.out.size ?aL ?_; (case aL => have := HK20.out; simp; omega); intro v3 w9 ho hb hg hat; have BK9 := mk_ (blk_grown BK8.out hg (Kd.R_ne HR2.out BK8.out (by decide))); have B9 := mk_ hb; obtain ⟨yk, hyk⟩ : ∃ yk : List Int, yk = [] ++ ks ++ [(N : Int)] := ⟨_, rfl⟩; rw [← hyk] at ho; have HYK := mk_ hyk; obtain ⟨A9, c9, e9⟩ := Kd.R_slice ho; subst e9; have HR9 := mk_ ho; have kc0 : w9.cell? ⟨g13, 0, none⟩ = some (.int .i64 L) := (blk_cell BK9.out 0).trans rfl; have kc1 : w9.cell? ⟨g13, 1, none⟩ = some (.int .i64 W) := (blk_cell BK9.out 1).trans rfl; have kc2 : w9.cell? ⟨g13, 2, none⟩ = some (.int .i64 B) := (blk_cell BK9.out 2).trans rfl; have kc3 : w9.cell? ⟨g13, 3, none⟩ = some (.slice Ak ks.length ck) := (blk_cell BK9.out 3).trans rfl; have kf3 := blk_frozen BK9.out 3; have u0 := (B9.out.cell (World.block_lt_of_cell? wc _ r0)).trans r0; have u1 := (B9.out.cell (World.block_lt_of_cell? wc _ r1)).trans r1; have u2 := (B9.out.cell (World.block_lt_of_cell? wc _ r2)).trans r2; have u3 := (B9.out.cell (World.block_lt_of_cell? wc _ r3)).trans r3; have uf0 := (B9.out.frozen (World.block_lt_of_cell? wc _ r0)).trans (HFR.out 0); have uf1 := (B9.out.frozen (World.block_lt_of_cell? wc _ r1)).trans (HFR.out 1); have uf2 := (B9.out.frozen (World.block_lt_of_cell? wc _ r2)).trans (HFR.out 2); have uf3 := (B9.out.frozen (World.block_lt_of_cell? wc _ r3)).trans (HFR.out 3); have nb1 : (g2 = g13) = False := eq_false (fun e_ => by have := G13.out; omega); have nb2 : (g13 = g2) = False := eq_false (fun e_ => by have := G13.out; omega); clear BK8 B8 HR2 ho hb hg hat hyk r0 r1 r2 r3))
        have B10 : Below wc.heap.size wc (w9.setCell ⟨g13, 3, none⟩ (.slice A9 yk.length c9)) := below_set B9.out G13.out
        have hR10 := Kd.R_lower (base' := w0.heap.size) (Kd.R_far (p := ⟨g13, 3, none⟩) (Kd.R_tight rfl HR9.out) (fun k_ hk_ e_ => Kd.R_ne HR9.out BK9.out (by decide) (by have h9_ : k_ = g13 := e_; rw [← h9_]; exact hk_)) (.slice A9 yk.length c9)) HB3.out.size
        have hH10 := Kd.H_mono (ok' := fun k_ => (P0_ k_ ∨ w.heap.size ≤ k_) ∧ ¬ (some k_ = (Value.slice A9 yk.length c9).ownBlock)) (Kd.H_elder' (u := .slice A9 yk.length c9) HH.out (fun k_ h_ => (HOK.out k_ h_).1.2.2.1) (Kd.R_base HR9.out) B10) (fun k_ h_ => ⟨h_.1.1, h_.2⟩)
        have hM10 := k59_mkM _ _ _ (⟨L, W, B, yk⟩ : S59) hR10
        obtain ⟨hS11, hg11⟩ := Kd.S_seg (okg := fun k_ => some k_ = (Value.slice A9 yk.length c9).ownBlock) hH10 t0 t1 (seg := [.int .i64 L, .int .i64 W, .int .i64 B, .slice A9 yk.length c9]) (j := 0) (show 4 ≤ 4 from by decide) hM10 (fun _ h_ => Or.inr h_) (fun k_ h_ => ⟨Or.inr (Nat.le_trans HK3.out.1 (Kd.R_base HR9.out k_ h_.symm)), fun e_ => by have := Kd.R_base HR9.out k_ h_.symm; omega⟩)
        rw [set_mid _ _ _ _ _ (by simp), List.append_assoc, show ([(⟨L, W, B, yk⟩ : S59)] ++ bs) = mk L W B yk :: bs by rw [hmk]; rfl] at hS11
        have hWW : (w9.setCell ⟨g13, 3, none⟩ (.slice A9 yk.length c9)).setCells g2 ((l2.length : Int).toNat * (k59 : Kd S59).sz + 0) [.int .i64 L, .int .i64 W, .int .i64 B, .slice A9 yk.length c9] = ((((w9.setCell ⟨g13, 3, none⟩ (.slice A9 yk.length c9)).setCell ⟨g2, l2.length * 4, none⟩ (.int .i64 L)).setCell ⟨g2, l2.length * 4 + 1, none⟩ (.int .i64 W)).setCell ⟨g2, l2.length * 4 + 2, none⟩ (.int .i64 B)).setCell ⟨g2, l2.length * 4 + 3, none⟩ (.slice A9 yk.length c9) := rfl
        rw [hWW] at hS11 hg11
        have hb11 := pw_below_grown (below_step HB3.out B10) (some g2) (Nat.le_trans HB3.out.size B10.size) hg11 (fun k_ e_ => by injection e_ with e_; subst e_; exact Kd.S_base HS3.out _ rfl)
        have hk11 := Kept.of_grown hg11 (Kept.below HK3.out B10) (fun k_ e_ => by injection e_ with e_; subst e_; exact ((Kd.S_R HS3.out).1 _ rfl).1)
        obtain ⟨SUB, hSUB⟩ : ∃ SUB, SUB = (l0.drop p).take (q - p) := ⟨_, rfl⟩
        have hz : z.toNat = p := by have := HZ.out; omega
        have hxq : x.toNat = q := by have := HX.out; omega
        have hsl : SUB.length = q - p := by rw [hSUB, List.length_take, List.length_drop]; have := HPQ2.out; omega
        have hgs := HG4.out.2
        rw [← hSUB] at hgs
        have hys : l0.drop p = y :: l0.drop (p + 1) := by
         have hpl : p < l0.length := by have := HPQ2.out; omega
         rw [List.drop_eq_getElem_cons hpl]
         congr 1
         have h := HY.out
         rw [List.getElem?_eq_getElem hpl] at h
         injection h
        have hgd : LegGood wd n (l0.drop p) := HG.out.sub (List.drop_sublist _ _)
        have hlr : legRest wd n (l0.drop p) = l0.drop p := by
         rw [hys]
         show (if (wd y).length = n then _ else _) = _
         rw [if_neg (by have := HNS.out; have := HSZ.out; omega)]
        have hgs1 : LegGood wd (n + 1) SUB := hgd.group (by rw [hlr, hgs]; exact List.mem_cons_self ..)
        have hw1 : wrap64 ((n : Int) + 1) = ((n + 1 : Nat) : Int) := by have := HN.out; unfold wrap64; omega
        have hNe : N = l2.length + (bs.length + 1) := by rw [HN2.out, List.length_append, List.length_cons]
        have hmul : (q - p) * (k + 1) = (q - p) * k + (q - p) := Nat.mul_succ _ _
        have hmul2 : (l0.length - p) * (k + 1) = (l0.length - q) * (k + 1) + (q - p) * (k + 1) := by rw [← Nat.add_mul]; congr 1; have := HPQ2.out; omega
        rw [hz, hxq, ← hsl, hw1]
        have hll : (l2 ++ mk L W B yk :: bs).length = N := by rw [hNe, List.length_append, List.length_cons]
        (with_reducible refine (ih.out (fun k_ => P0_ k_ ∨ w.heap.size ≤ k_) (some (ad.add (p * 2))) (cc0 - p) SUB (n + 1) _ (l2 ++ mk L W B yk :: bs) w0 _ (by have := HN.out; omega) hgs1 (by rw [hll, hsl]; have := HPQ2.out; have := HM.out; have := HBd.out; omega) hb11 (fun W_ hk_ => ?hrc) (by rw [hsl]; have := HPQ2.out; have := HC.out; omega) hS11).mono ?_)
        case hrc =>
         have h1 := HR.out W_ (Kept.then_ hk11 hk_ (fun _ h_ => h_))
         have h2 := Kd.C_mid (c := cc0) (lo := p) (hi := q) h1 (Nat.le_of_lt HPQ2.out.1) HPQ2.out.2 HC.out
         rw [if_neg (by have := HPQ2.out; have := HC.out; omega), List.drop_take, ← hSUB] at h2
         exact h2
        rintro e w12 ⟨v12, rfl, hs12, hb12, hk12⟩
        have HS12 := mk_ (Kd.S_mono hs12 (fun k_ h_ => h_.elim id (fun h_ => Or.inr (Nat.le_trans hk11.1 h_))))
        have HB12 := mk_ hb12
        have HK12 := mk_ (Kept.then_ hk11 hk12 (fun _ h_ => h_))
        have HLL := mk_ hll
        have HSL := mk_ hsl
        have HGS := mk_ hgs
        have HNe := mk_ hNe
        have HMU := mk_ (And.intro hmul hmul2)
        clear hs12 hb12 hk12 hll hsl hgs hNe hmul hmul2 hz hxq hys hgd hlr hgs1 hw1 hS11 hg11 hb11 hk11 hM10 hH10 hR10 B10 hSUB
        go_wp2
        go_roundg (l0.length - q)
        case measure => have := HP.out; have := HPQ2.out; omega
        case rel =>
         have hln := HLL.out
         have hs := HS12.out
         rw [hln, List.append_assoc, List.cons_append] at hs
         have hF : legsF wd wt mk k SUB (n + 1) N = F SUB N := by rw [HF.out]
         rw [hF] at hs
         refine ⟨q, x, yk, bs ++ F SUB N, rfl, HX, ⟨by have := HPQ2.out; omega⟩, ⟨?_⟩, ⟨?_⟩, ⟨?_⟩, ⟨hs⟩, HB12, HK12⟩
         ·rw [if_neg (by have := HPQ2.out; omega)]
          have ha := HA2.out
          rw [HGS.out] at ha
          have ha : foldK F l2.length (groups wd n (l0.drop q)) (ks ++ [((l2.length + 1 + bs.length : Nat) : Int)]) (bs ++ F SUB (l2.length + 1 + bs.length)) = R := ha
          rw [show l2.length + 1 + bs.length = N by rw [HNe.out]; omega] at ha
          rw [HYK.out, List.nil_append]
          exact ha
         ·rw [List.length_append, ← hF]
          have h1 := legsF_le (wd := wd) (wt := wt) (mk := mk) k SUB (n + 1) N
          rw [HSL.out] at h1
          have h2 := HMU.out
          have h3 := HBd.out
          have h4 := HPQ2.out
          omega
         ·rw [HYK.out, List.nil_append, List.length_append]
          have h1 := HKS.out
          have h2 := HPQ2.out
          show ks.length + 1 ≤ q
          omega
   | succ k1 => as_aux_lemma =>
    have hx := HX.out
    have hi := HI.out
    have p1 : x < (l0.length : Int) := by omega
    have p0 : 0 ≤ x := by omega
    have c1 : decide (x < (l0.length : Int)) = true := decide_eq_true p1
    have c0 : decide (0 ≤ x) = true := decide_eq_true p0
    obtain ⟨y, hy⟩ : ∃ y, l0[i]? = some y := ⟨_, List.getElem?_eq_getElem (by omega)⟩
    have HY := mk_ hy
    have hym : y ∈ l0 := List.mem_of_getElem? hy
    have hys := HG.out.size y hym
    obtain ⟨ad, rfl, hx0, hx1⟩ := at_T48 (Kd.C_below (HR.out w (Kept.refl _ _)) B3.out) x p0 p1
    have hrd : rd_T48 l0 x = y := by unfold rd_T48; rw [hx, Int.toNat_natCast, List.getD_eq_getElem?_getD, hy]; rfl
    rw [hrd] at hx0 hx1
    have HW := mk_ (show wrap64 (x + 1) = x + 1 from by have := HG.out.many; unfold wrap64; omega)
    obtain ⟨b, hb⟩ : ∃ b, b = legBest wt (l0.take i) 0 := ⟨_, rfl⟩
    obtain ⟨lt, hlt⟩ : ∃ a, a = (if i = 0 then 0 else legLetter wd n l0) := ⟨_, rfl⟩
    obtain ⟨wg, hwg⟩ : ∃ a, a = (if i = 0 then 0 else legWeight wd wt n l0) := ⟨_, rfl⟩
    rw [← hb, ← hlt, ← hwg] at BK
    have HBL := mk_ hb
    have HLT := mk_ hlt
    have HWG := mk_ hwg
    have HYS := mk_ hys
    have hsz : (wd y).length = y.f0.size := by rw [hwd]; exact size_data _
    have HSZ := mk_ hsz
    clear hx hi hy hym hys hb hlt hwg hrd
    by_cases hn : n = 0
    ·have HN0 := mk_ hn
     have d3 : decide (0 < (n : Int)) = false := decide_eq_false (by omega)
     have d3n : decide (0 < n) = false := decide_eq_false (by omega)
     have d3e : (0 < n) = False := eq_false (by omega)
     clear hn
     by_cases hs : y.f0.size = n
     ·as_aux_lemma =>
      have d1 : ((y.f0.size : Int) == (n : Int)) = true := beq_iff_eq.mpr (by omega)
      have HS0 := mk_ hs
      clear hs
      by_cases hb2 : b < y.f1
      ·have d2 : decide (b < y.f1) = true := decide_eq_true hb2
       have HB0 := mk_ hb2
       clear hb2
       go_wp2_with (first | ((with_reducible refine gate_dst (N := 10) rfl ?_); refine box_event sq_0 (N := 10) sq_0 (cs := #[.string ⟨#[]⟩, .int .i64 0]) (t := 48) sq_h ?_; intro g10 hg10 w4 hbox hb4; have G10 := mk_ hg10; have BK4 := mk_ (blk_below BK.out hb4); have B4 := mk_ (below_step B3.out hb4); have ne1 : (g10 = g8) = False := eq_false (fun e_ => by have := blk_lt BK.out; omega); have ne2 : (g8 = g10) = False := eq_false (fun e_ => by have := blk_lt BK.out; omega); have he0 : w4.cell? ⟨g10, 0, none⟩ = some (.string ⟨#[]⟩) := (blk_cell hbox 0).trans rfl; have he1 : w4.cell? ⟨g10, 1, none⟩ = some (.int .i64 0) := (blk_cell hbox 1).trans rfl; have hc0 : w4.cell? ⟨g8, 0, none⟩ = some (.int .i64 lt) := (blk_cell BK4.out 0).trans rfl; have hc1 : w4.cell? ⟨g8, 1, none⟩ = some (.int .i64 wg) := (blk_cell BK4.out 1).trans rfl; have hc2 : w4.cell? ⟨g8, 2, none⟩ = some (.int .i64 b) := (blk_cell BK4.out 2).trans rfl; have hf0 := blk_frozen BK4.out 0; have hf1 := blk_frozen BK4.out 1; have hf2 := blk_frozen BK4.out 2; have hk0 := blk_frozen hbox 0; have hk1 := blk_frozen hbox 1; clear hg10 hbox hb4 BK))
       go_roundg k1
       case measure => omega
       case rel =>
        have E1 : (if i + 1 = 0 then 0 else legLetter wd n l0) = lt := by rw [HLT.out, HN0.out, legLetter_zero]; simp
        have E2 : (if i + 1 = 0 then 0 else legWeight wd wt n l0) = y.f1 := by rw [if_neg (by omega), HG.out.weight HY.out, if_pos (by rw [HSZ.out]; exact HS0.out), hwt]
        have E3 : legBest wt (l0.take (i + 1)) 0 = y.f1 := by rw [legBest_take _ _ _ HY.out, ← HBL.out, hwt]; have := HB0.out; show max b y.f1 = _; omega
        refine ⟨i + 1, x + 1, by rw [HW.out], ⟨by have := HX.out; omega⟩, ⟨by have := HI.out; omega⟩, ⟨?_⟩, ⟨below_set (below_set (below_set (below_set B4.out (by rw [G10.out]; exact below_size B3.out)) (by rw [G10.out]; exact below_size B3.out)) GE.out) GE.out⟩⟩
        rw [E1, E2, E3]
        refine blk_put (cs := #[.int .i64 lt, .int .i64 y.f1, .int .i64 b, .slice none 0 0]) ?_ 2 _ rfl
        refine blk_put (cs := #[.int .i64 lt, .int .i64 wg, .int .i64 b, .slice none 0 0]) ?_ 1 _ rfl
        exact blk_far (blk_far BK4.out (fun e_ => ne2.mp e_) _) (fun e_ => ne2.mp e_) _
      ·have d2 : decide (b < y.f1) = false := decide_eq_false hb2
       have HB0 := mk_ hb2
       clear hb2
       go_wp2_with (first | ((with_reducible refine gate_dst (N := 10) rfl ?_); refine box_event sq_0 (N := 10) sq_0 (cs := #[.string ⟨#[]⟩, .int .i64 0]) (t := 48) sq_h ?_; intro g10 hg10 w4 hbox hb4; have G10 := mk_ hg10; have BK4 := mk_ (blk_below BK.out hb4); have B4 := mk_ (below_step B3.out hb4); have ne1 : (g10 = g8) = False := eq_false (fun e_ => by have := blk_lt BK.out; omega); have ne2 : (g8 = g10) = False := eq_false (fun e_ => by have := blk_lt BK.out; omega); have he0 : w4.cell? ⟨g10, 0, none⟩ = some (.string ⟨#[]⟩) := (blk_cell hbox 0).trans rfl; have he1 : w4.cell? ⟨g10, 1, none⟩ = some (.int .i64 0) := (blk_cell hbox 1).trans rfl; have hc0 : w4.cell? ⟨g8, 0, none⟩ = some (.int .i64 lt) := (blk_cell BK4.out 0).trans rfl; have hc1 : w4.cell? ⟨g8, 1, none⟩ = some (.int .i64 wg) := (blk_cell BK4.out 1).trans rfl; have hc2 : w4.cell? ⟨g8, 2, none⟩ = some (.int .i64 b) := (blk_cell BK4.out 2).trans rfl; have hf0 := blk_frozen BK4.out 0; have hf1 := blk_frozen BK4.out 1; have hf2 := blk_frozen BK4.out 2; have hk0 := blk_frozen hbox 0; have hk1 := blk_frozen hbox 1; clear hg10 hbox hb4 BK))
       go_roundg k1
       case measure => omega
       case rel =>
        have E1 : (if i + 1 = 0 then 0 else legLetter wd n l0) = lt := by rw [HLT.out, HN0.out, legLetter_zero]; simp
        have E2 : (if i + 1 = 0 then 0 else legWeight wd wt n l0) = y.f1 := by rw [if_neg (by omega), HG.out.weight HY.out, if_pos (by rw [HSZ.out]; exact HS0.out), hwt]
        have E3 : legBest wt (l0.take (i + 1)) 0 = b := by rw [legBest_take _ _ _ HY.out, ← HBL.out, hwt]; have := HB0.out; show max b y.f1 = _; omega
        refine ⟨i + 1, x + 1, by rw [HW.out], ⟨by have := HX.out; omega⟩, ⟨by have := HI.out; omega⟩, ⟨?_⟩, ⟨below_set (below_set (below_set B4.out (by rw [G10.out]; exact below_size B3.out)) (by rw [G10.out]; exact below_size B3.out)) GE.out⟩⟩
        rw [E1, E2, E3]
        refine blk_put (cs := #[.int .i64 lt, .int .i64 wg, .int .i64 b, .slice none 0 0]) ?_ 1 _ rfl
        exact blk_far (blk_far BK4.out (fun e_ => ne2.mp e_) _) (fun e_ => ne2.mp e_) _
     ·as_aux_lemma =>
      have d1 : ((y.f0.size : Int) == (n : Int)) = false := beq_eq_false_iff_ne.mpr (by omega)
      have HS0 := mk_ hs
      clear hs
      by_cases hb2 : b < y.f1
      ·have d2 : decide (b < y.f1) = true := decide_eq_true hb2
       have HB0 := mk_ hb2
       clear hb2
       go_wp2_with (first | ((with_reducible refine gate_dst (N := 10) rfl ?_); refine box_event sq_0 (N := 10) sq_0 (cs := #[.string ⟨#[]⟩, .int .i64 0]) (t := 48) sq_h ?_; intro g10 hg10 w4 hbox hb4; have G10 := mk_ hg10; have BK4 := mk_ (blk_below BK.out hb4); have B4 := mk_ (below_step B3.out hb4); have ne1 : (g10 = g8) = False := eq_false (fun e_ => by have := blk_lt BK.out; omega); have ne2 : (g8 = g10) = False := eq_false (fun e_ => by have := blk_lt BK.out; omega); have he0 : w4.cell? ⟨g10, 0, none⟩ = some (.string ⟨#[]⟩) := (blk_cell hbox 0).trans rfl; have he1 : w4.cell? ⟨g10, 1, none⟩ = some (.int .i64 0) := (blk_cell hbox 1).trans rfl; have hc0 : w4.cell? ⟨g8, 0, none⟩ = some (.int .i64 lt) := (blk_cell BK4.out 0).trans rfl; have hc1 : w4.cell? ⟨g8, 1, none⟩ = some (.int .i64 wg) := (blk_cell BK4.out 1).trans rfl; have hc2 : w4.cell? ⟨g8, 2, none⟩ = some (.int .i64 b) := (blk_cell BK4.out 2).trans rfl; have hf0 := blk_frozen BK4.out 0; have hf1 := blk_frozen BK4.out 1; have hf2 := blk_frozen BK4.out 2; have hk0 := blk_frozen hbox 0; have hk1 := blk_frozen hbox 1; clear hg10 hbox hb4 BK))
       go_roundg k1
       case measure => omega
       case rel =>
        have E1 : (if i + 1 = 0 then 0 else legLetter wd n l0) = lt := by rw [HLT.out, HN0.out, legLetter_zero]; simp
        have E2 : (if i + 1 = 0 then 0 else legWeight wd wt n l0) = wg := by rw [if_neg (by omega), HG.out.weight HY.out, if_neg (by rw [HSZ.out]; exact HS0.out), HWG.out]
        have E3 : legBest wt (l0.take (i + 1)) 0 = y.f1 := by rw [legBest_take _ _ _ HY.out, ← HBL.out, hwt]; have := HB0.out; show max b y.f1 = _; omega
        refine ⟨i + 1, x + 1, by rw [HW.out], ⟨by have := HX.out; omega⟩, ⟨by have := HI.out; omega⟩, ⟨?_⟩, ⟨below_set (below_set (below_set B4.out (by rw [G10.out]; exact below_size B3.out)) (by rw [G10.out]; exact below_size B3.out)) GE.out⟩⟩
        rw [E1, E2, E3]
        refine blk_put (cs := #[.int .i64 lt, .int .i64 wg, .int .i64 b, .slice none 0 0]) ?_ 2 _ rfl
        exact blk_far (blk_far BK4.out (fun e_ => ne2.mp e_) _) (fun e_ => ne2.mp e_) _
      ·have d2 : decide (b < y.f1) = false := decide_eq_false hb2
       have HB0 := mk_ hb2
       clear hb2
       go_wp2_with (first | ((with_reducible refine gate_dst (N := 10) rfl ?_); refine box_event sq_0 (N := 10) sq_0 (cs := #[.string ⟨#[]⟩, .int .i64 0]) (t := 48) sq_h ?_; intro g10 hg10 w4 hbox hb4; have G10 := mk_ hg10; have BK4 := mk_ (blk_below BK.out hb4); have B4 := mk_ (below_step B3.out hb4); have ne1 : (g10 = g8) = False := eq_false (fun e_ => by have := blk_lt BK.out; omega); have ne2 : (g8 = g10) = False := eq_false (fun e_ => by have := blk_lt BK.out; omega); have he0 : w4.cell? ⟨g10, 0, none⟩ = some (.string ⟨#[]⟩) := (blk_cell hbox 0).trans rfl; have he1 : w4.cell? ⟨g10, 1, none⟩ = some (.int .i64 0) := (blk_cell hbox 1).trans rfl; have hc0 : w4.cell? ⟨g8, 0, none⟩ = some (.int .i64 lt) := (blk_cell BK4.out 0).trans rfl; have hc1 : w4.cell? ⟨g8, 1, none⟩ = some (.int .i64 wg) := (blk_cell BK4.out 1).trans rfl; have hc2 : w4.cell? ⟨g8, 2, none⟩ = some (.int .i64 b) := (blk_cell BK4.out 2).trans rfl; have hf0 := blk_frozen BK4.out 0; have hf1 := blk_frozen BK4.out 1; have hf2 := blk_frozen BK4.out 2; have hk0 := blk_frozen hbox 0; have hk1 := blk_frozen hbox 1; clear hg10 hbox hb4 BK))
       go_roundg k1
       case measure => omega
       case rel =>
        have E1 : (if i + 1 = 0 then 0 else legLetter wd n l0) = lt := by rw [HLT.out, HN0.out, legLetter_zero]; simp
        have E2 : (if i + 1 = 0 then 0 else legWeight wd wt n l0) = wg := by rw [if_neg (by omega), HG.out.weight HY.out, if_neg (by rw [HSZ.out]; exact HS0.out), HWG.out]
        have E3 : legBest wt (l0.take (i + 1)) 0 = b := by rw [legBest_take _ _ _ HY.out, ← HBL.out, hwt]; have := HB0.out; show max b y.f1 = _; omega
        refine ⟨i + 1, x + 1, by rw [HW.out], ⟨by have := HX.out; omega⟩, ⟨by have := HI.out; omega⟩, ⟨?_⟩, ⟨below_set (below_set B4.out (by rw [G10.out]; exact below_size B3.out)) (by rw [G10.out]; exact below_size B3.out)⟩⟩
        rw [E1, E2, E3]
        exact blk_far (blk_far BK4.out (fun e_ => ne2.mp e_) _) (fun e_ => ne2.mp e_) _
    ·have HN0 := mk_ hn
     have d3 : decide (0 < (n : Int)) = true := decide_eq_true (by omega)
     have d3n : decide (0 < n) = true := decide_eq_true (by omega)
     have d3e : (0 < n) = True := eq_true (by omega)
     have hw1 : wrap64 ((n : Int) - 1) = (n : Int) - 1 := by have := HN.out; unfold wrap64; omega
     have hx4 := bt_at y.f0 ((n : Int) - 1)
     have p4 := eq_true (show 0 ≤ ((n : Int) - 1) by omega)
     have q4 := eq_true (show ((n : Int) - 1) < (y.f0.size : Int) by have := HYS.out; have := HSZ.out; omega)
     have hle0 : n ≤ y.f0.size := by have := HYS.out; have := HSZ.out; omega
     have q4n := eq_true hle0
     have q4i := eq_true (show (n : Int) ≤ (y.f0.size : Int) by omega)
     have p4n := eq_true (show 1 ≤ n by omega)
     have p4i := eq_true (show (1 : Int) ≤ (n : Int) by omega)
     have hlt0 : n - 1 < y.f0.size := by have := HYS.out; have := HSZ.out; omega
     have hg97 : (wd y).getD (n - 1) 0 = y.f0[n - 1]'hlt0 := by have e := getD_data y.f0 (n - 1) hlt0; rw [show wd y = y.f0.data.toList by rw [hwd]]; exact e
     clear hn
     by_cases hs : y.f0.size = n
     ·as_aux_lemma =>
      have d1 : ((y.f0.size : Int) == (n : Int)) = true := beq_iff_eq.mpr (by omega)
      have HS0 := mk_ hs
      clear hs
      by_cases hb2 : b < y.f1
      ·have d2 : decide (b < y.f1) = true := decide_eq_true hb2
       have HB0 := mk_ hb2
       clear hb2
       go_wp2_with (first | ((with_reducible refine gate_dst (N := 10) rfl ?_); refine box_event sq_0 (N := 10) sq_0 (cs := #[.string ⟨#[]⟩, .int .i64 0]) (t := 48) sq_h ?_; intro g10 hg10 w4 hbox hb4; have G10 := mk_ hg10; have BK4 := mk_ (blk_below BK.out hb4); have B4 := mk_ (below_step B3.out hb4); have ne1 : (g10 = g8) = False := eq_false (fun e_ => by have := blk_lt BK.out; omega); have ne2 : (g8 = g10) = False := eq_false (fun e_ => by have := blk_lt BK.out; omega); have he0 : w4.cell? ⟨g10, 0, none⟩ = some (.string ⟨#[]⟩) := (blk_cell hbox 0).trans rfl; have he1 : w4.cell? ⟨g10, 1, none⟩ = some (.int .i64 0) := (blk_cell hbox 1).trans rfl; have hc0 : w4.cell? ⟨g8, 0, none⟩ = some (.int .i64 lt) := (blk_cell BK4.out 0).trans rfl; have hc1 : w4.cell? ⟨g8, 1, none⟩ = some (.int .i64 wg) := (blk_cell BK4.out 1).trans rfl; have hc2 : w4.cell? ⟨g8, 2, none⟩ = some (.int .i64 b) := (blk_cell BK4.out 2).trans rfl; have hf0 := blk_frozen BK4.out 0; have hf1 := blk_frozen BK4.out 1; have hf2 := blk_frozen BK4.out 2; have hk0 := blk_frozen hbox 0; have hk1 := blk_frozen hbox 1; clear hg10 hbox hb4 BK))
       go_roundg k1
       case measure => omega
       case rel =>
        have E1 : (if i + 1 = 0 then 0 else legLetter wd n l0) = ((((y.f0[n - 1]'hlt0).toNat : Int) - 97) % 256) := by rw [if_neg (by omega), HG.out.letter (by have := HN0.out; omega) (List.mem_of_getElem? HY.out), hg97]
        have E2 : (if i + 1 = 0 then 0 else legWeight wd wt n l0) = y.f1 := by rw [if_neg (by omega), HG.out.weight HY.out, if_pos (by rw [HSZ.out]; exact HS0.out), hwt]
        have E3 : legBest wt (l0.take (i + 1)) 0 = y.f1 := by rw [legBest_take _ _ _ HY.out, ← HBL.out, hwt]; have := HB0.out; show max b y.f1 = _; omega
        refine ⟨i + 1, x + 1, by rw [HW.out], ⟨by have := HX.out; omega⟩, ⟨by have := HI.out; omega⟩, ⟨?_⟩, ⟨below_set (below_set (below_set (below_set (below_set B4.out (by rw [G10.out]; exact below_size B3.out)) (by rw [G10.out]; exact below_size B3.out)) GE.out) GE.out) GE.out⟩⟩
        rw [E1, E2, E3]
        refine blk_put (cs := #[.int .i64 lt, .int .i64 y.f1, .int .i64 y.f1, .slice none 0 0]) ?_ 0 _ rfl
        refine blk_put (cs := #[.int .i64 lt, .int .i64 y.f1, .int .i64 b, .slice none 0 0]) ?_ 2 _ rfl
        refine blk_put (cs := #[.int .i64 lt, .int .i64 wg, .int .i64 b, .slice none 0 0]) ?_ 1 _ rfl
        exact blk_far (blk_far BK4.out (fun e_ => ne2.mp e_) _) (fun e_ => ne2.mp e_) _
      ·have d2 : decide (b < y.f1) = false := decide_eq_false hb2
       have HB0 := mk_ hb2
       clear hb2
       go_wp2_with (first | ((with_reducible refine gate_dst (N := 10) rfl ?_); refine box_event sq_0 (N := 10) sq_0 (cs := #[.string ⟨#[]⟩, .int .i64 0]) (t := 48) sq_h ?_; intro g10 hg10 w4 hbox hb4; have G10 := mk_ hg10; have BK4 := mk_ (blk_below BK.out hb4); have B4 := mk_ (below_step B3.out hb4); have ne1 : (g10 = g8) = False := eq_false (fun e_ => by have := blk_lt BK.out; omega); have ne2 : (g8 = g10) = False := eq_false (fun e_ => by have := blk_lt BK.out; omega); have he0 : w4.cell? ⟨g10, 0, none⟩ = some (.string ⟨#[]⟩) := (blk_cell hbox 0).trans rfl; have he1 : w4.cell? ⟨g10, 1, none⟩ = some (.int .i64 0) := (blk_cell hbox 1).trans rfl; have hc0 : w4.cell? ⟨g8, 0, none⟩ = some (.int .i64 lt) := (blk_cell BK4.out 0).trans rfl; have hc1 : w4.cell? ⟨g8, 1, none⟩ = some (.int .i64 wg) := (blk_cell BK4.out 1).trans rfl; have hc2 : w4.cell? ⟨g8, 2, none⟩ = some (.int .i64 b) := (blk_cell BK4.out 2).trans rfl; have hf0 := blk_frozen BK4.out 0; have hf1 := blk_frozen BK4.out 1; have hf2 := blk_frozen BK4.out 2; have hk0 := blk_frozen hbox 0; have hk1 := blk_frozen hbox 1; clear hg10 hbox hb4 BK))
       go_roundg k1
       case measure => omega
       case rel =>
        have E1 : (if i + 1 = 0 then 0 else legLetter wd n l0) = ((((y.f0[n - 1]'hlt0).toNat : Int) - 97) % 256) := by rw [if_neg (by omega), HG.out.letter (by have := HN0.out; omega) (List.mem_of_getElem? HY.out), hg97]
        have E2 : (if i + 1 = 0 then 0 else legWeight wd wt n l0) = y.f1 := by rw [if_neg (by omega), HG.out.weight HY.out, if_pos (by rw [HSZ.out]; exact HS0.out), hwt]
        have E3 : legBest wt (l0.take (i + 1)) 0 = b := by rw [legBest_take _ _ _ HY.out, ← HBL.out, hwt]; have := HB0.out; show max b y.f1 = _; omega
        refine ⟨i + 1, x + 1, by rw [HW.out], ⟨by have := HX.out; omega⟩, ⟨by have := HI.out; omega⟩, ⟨?_⟩, ⟨below_set (below_set (below_set (below_set B4.out (by rw [G10.out]; exact below_size B3.out)) (by rw [G10.out]; exact below_size B3.out)) GE.out) GE.out⟩⟩
        rw [E1, E2, E3]
        refine blk_put (cs := #[.int .i64 lt, .int .i64 y.f1, .int .i64 b, .slice none 0 0]) ?_ 0 _ rfl
        refine blk_put (cs := #[.int .i64 lt, .int .i64 wg, .int .i64 b, .slice none 0 0]) ?_ 1 _ rfl
        exact blk_far (blk_far BK4.out (fun e_ => ne2.mp e_) _) (fun e_ => ne2.mp e_) _
     ·as_aux_lemma =>
      have d1 : ((y.f0.size : Int) == (n : Int)) = false := beq_eq_false_iff_ne.mpr (by omega)
      have HS0 := mk_ hs
      clear hs
      by_cases hb2 : b < y.f1
      ·have d2 : decide (b < y.f1) = true := decide_eq_true hb2
       have HB0 := mk_ hb2
       clear hb2
       go_wp2_with (first | ((with_reducible refine gate_dst (N := 10) rfl ?_); refine box_event sq_0 (N := 10) sq_0 (cs := #[.string ⟨#[]⟩, .int .i64 0]) (t := 48) sq_h ?_; intro g10 hg10 w4 hbox hb4; have G10 := mk_ hg10; have BK4 := mk_ (blk_below BK.out hb4); have B4 := mk_ (below_step B3.out hb4); have ne1 : (g10 = g8) = False := eq_false (fun e_ => by have := blk_lt BK.out; omega); have ne2 : (g8 = g10) = False := eq_false (fun e_ => by have := blk_lt BK.out; omega); have he0 : w4.cell? ⟨g10, 0, none⟩ = some (.string ⟨#[]⟩) := (blk_cell hbox 0).trans rfl; have he1 : w4.cell? ⟨g10, 1, none⟩ = some (.int .i64 0) := (blk_cell hbox 1).trans rfl; have hc0 : w4.cell? ⟨g8, 0, none⟩ = some (.int .i64 lt) := (blk_cell BK4.out 0).trans rfl; have hc1 : w4.cell? ⟨g8, 1, none⟩ = some (.int .i64 wg) := (blk_cell BK4.out 1).trans rfl; have hc2 : w4.cell? ⟨g8, 2, none⟩ = some (.int .i64 b) := (blk_cell BK4.out 2).trans rfl; have hf0 := blk_frozen BK4.out 0; have hf1 := blk_frozen BK4.out 1; have hf2 := blk_frozen BK4.out 2; have hk0 := blk_frozen hbox 0; have hk1 := blk_frozen hbox 1; clear hg10 hbox hb4 BK))
       go_roundg k1
       case measure => omega
       case rel =>
        have E1 : (if i + 1 = 0 then 0 else legLetter wd n l0) = ((((y.f0[n - 1]'hlt0).toNat : Int) - 97) % 256) := by rw [if_neg (by omega), HG.out.letter (by have := HN0.out; omega) (List.mem_of_getElem? HY.out), hg97]
        have E2 : (if i + 1 = 0 then 0 else legWeight wd wt n l0) = wg := by rw [if_neg (by omega), HG.out.weight HY.out, if_neg (by rw [HSZ.out]; exact HS0.out), HWG.out]
        have E3 : legBest wt (l0.take (i + 1)) 0 = y.f1 := by rw [legBest_take _ _ _ HY.out, ← HBL.out, hwt]; have := HB0.out; show max b y.f1 = _; omega
        refine ⟨i + 1, x + 1, by rw [HW.out], ⟨by have := HX.out; omega⟩, ⟨by have := HI.out; omega⟩, ⟨?_⟩, ⟨below_set (below_set (below_set (below_set B4.out (by rw [G10.out]; exact below_size B3.out)) (by rw [G10.out]; exact below_size B3.out)) GE.out) GE.out⟩⟩
        rw [E1, E2, E3]
        refine blk_put (cs := #[.int .i64 lt, .int .i64 wg, .int .i64 y.f1, .slice none 0 0]) ?_ 0 _ rfl
        refine blk_put (cs := #[.int .i64 lt, .int .i64 wg, .int .i64 b, .slice none 0 0]) ?_ 2 _ rfl
        exact blk_far (blk_far BK4.out (fun e_ => ne2.mp e_) _) (fun e_ => ne2.mp e_) _
      ·have d2 : decide (b < y.f1) = false := decide_eq_false hb2
       have HB0 := mk_ hb2
       clear hb2
       go_wp2_with (first | ((with_reducible refine gate_dst (N := 10) rfl ?_); refine box_event sq_0 (N := 10) sq_0 (cs := #[.string ⟨#[]⟩, .int .i64 0]) (t := 48) sq_h ?_; intro g10 hg10 w4 hbox hb4; have G10 := mk_ hg10; have BK4 := mk_ (blk_below BK.out hb4); have B4 := mk_ (below_step B3.out hb4); have ne1 : (g10 = g8) = False := eq_false (fun e_ => by have := blk_lt BK.out; omega); have ne2 : (g8 = g10) = False := eq_false (fun e_ => by have := blk_lt BK.out; omega); have he0 : w4.cell? ⟨g10, 0, none⟩ = some (.string ⟨#[]⟩) := (blk_cell hbox 0).trans rfl; have he1 : w4.cell? ⟨g10, 1, none⟩ = some (.int .i64 0) := (blk_cell hbox 1).trans rfl; have hc0 : w4.cell? ⟨g8, 0, none⟩ = some (.int .i64 lt) := (blk_cell BK4.out 0).trans rfl; have hc1 : w4.cell? ⟨g8, 1, none⟩ = some (.int .i64 wg) := (blk_cell BK4.out 1).trans rfl; have hc2 : w4.cell? ⟨g8, 2, none⟩ = some (.int .i64 b) := (blk_cell BK4.out 2).trans rfl; have hf0 := blk_frozen BK4.out 0; have hf1 := blk_frozen BK4.out 1; have hf2 := blk_frozen BK4.out 2; have hk0 := blk_frozen hbox 0; have hk1 := blk_frozen hbox 1; clear hg10 hbox hb4 BK))
       go_roundg k1
       case measure => omega
       case rel =>
        have E1 : (if i + 1 = 0 then 0 else legLetter wd n l0) = ((((y.f0[n - 1]'hlt0).toNat : Int) - 97) % 256) := by rw [if_neg (by omega), HG.out.letter (by have := HN0.out; omega) (List.mem_of_getElem? HY.out), hg97]
        have E2 : (if i + 1 = 0 then 0 else legWeight wd wt n l0) = wg := by rw [if_neg (by omega), HG.out.weight HY.out, if_neg (by rw [HSZ.out]; exact HS0.out), HWG.out]
        have E3 : legBest wt (l0.take (i + 1)) 0 = b := by rw [legBest_take _ _ _ HY.out, ← HBL.out, hwt]; have := HB0.out; show max b y.f1 = _; omega
        refine ⟨i + 1, x + 1, by rw [HW.out], ⟨by have := HX.out; omega⟩, ⟨by have := HI.out; omega⟩, ⟨?_⟩, ⟨below_set (below_set (below_set B4.out (by rw [G10.out]; exact below_size B3.out)) (by rw [G10.out]; exact below_size B3.out)) GE.out⟩⟩
        rw [E1, E2, E3]
        refine blk_put (cs := #[.int .i64 lt, .int .i64 wg, .int .i64 b, .slice none 0 0]) ?_ 0 _ rfl
        exact blk_far (blk_far BK4.out (fun e_ => ne2.mp e_) _) (fun e_ => ne2.mp e_) _
theorem spec_l13Build.walk (wd : S48 → List UInt8) (hwd : wd = fun x => x.f0.data.toList) (wt : S48 → Int) (hwt : wt = fun x => x.f1) (mk : Int → Int → Int → List Int → S59) (hmk : mk = fun a b c k => ⟨a, b, c, k⟩) (k : Nat) : spec_l13Build.At wd wt mk k := by
 induction k with
 | zero => exact fun _ _ _ _ _ _ _ _ _ hn hg _ _ _ _ _ => absurd hg.n12 (by omega)
 | succ k ih => exact spec_l13Build.step wd hwd wt hwt mk hmk k ih
theorem spec_l13Build.calls (A0 : Option Addr) (c0 : Nat) (l0 : List S48) (a1 : Int) (P0_ : Nat → Prop) (u9002_ : Value) (l2 r : List S59) (w0 w : World) (hB : Below w0.heap.size w0 w) (hr0 : ∀ W_, Kept w W_ (fun k_ => P0_ k_) → Kd.C k48 W_ A0 l0.length l0) (hc0 : l0.length ≤ c0) (ho2 : Kd.S k59 59 w w0.heap.size P0_ u9002_ l2) (h : spec_l13Build.f l0 a1 l2 = some r) :
  Calls Try.prog 44 #[.slice A0 l0.length c0, .int .i64 a1, u9002_] w fun e w' => ∃ v0_ : Value, e = .returned (v0_) ∧ Kd.S k59 59 w' w0.heap.size (fun k_ => (P0_ k_ ∨ w.heap.size ≤ k_)) v0_ r ∧ Below w0.heap.size w0 w' ∧ Kept w w' (fun k_ => P0_ k_) := by
 unfold spec_l13Build.f at h
 split at h
 ·rename_i hc
  have h := Option.some.inj h
  subst h
  have he : a1 = ((a1.toNat : Nat) : Int) := by omega
  have h13 := Nat.mul_le_mul_left l0.length (Nat.sub_le 13 a1.toNat)
  have h := spec_l13Build.walk (fun x : S48 => x.f0.data.toList) rfl (fun x => x.f1) rfl (fun a b c k => (⟨a, b, c, k⟩ : S59)) rfl (13 - a1.toNat) P0_ A0 c0 l0 a1.toNat u9002_ l2 w0 w (by have := hc.2.1.n12; omega) hc.2.1 (by omega) hB hr0 hc0 ho2
  rw [← he] at h
  exact h
 ·cases h

/-! ### spec_BuildLegs: function 12 -/
def spec_BuildLegs.f (k : Nat) (l0 : List (S48)) : Option ((List (S59)) × Bool) := (spec_GoodEntries.f k l0).bind fun t107 => (if t107 = true then ((spec_l13Build.f l0 0 ([] : List (S59))).bind fun t108 => (if (t108.length : Int) > 120 then (some (([] : List (S59)), false)) else (some (t108, true)))) else (some (([] : List (S59)), false)))
theorem spec_BuildLegs.mono : ∀ a0 k, LeO (spec_BuildLegs.f k a0) (spec_BuildLegs.f (k + 1) a0) := by
 intro a0 k
 unfold spec_BuildLegs.f
 repeat' first
   | (with_reducible exact spec_GoodEntries.mono _ _)
   | (with_reducible exact LeO.refl _)
   | (with_reducible exact LeO.none _)
   | (with_reducible refine LeO.ite ?_ ?_)
   | (with_reducible refine LeO.bind ?_ (fun _ => ?_))
   | exact spec_GoodEntries.mono _ _
   | exact LeO.none _
   | refine LeO.ite ?_ ?_
   | refine LeO.bind ?_ (fun _ => ?_)
set_option maxHeartbeats 8000000 in
set_option maxRecDepth 100000 in
theorem spec_BuildLegs.calls (k : Nat) (A0 : Option Addr) (c0 : Nat) (l0 : List (S48)) (r1 : List (S59)) (r2 : Bool) (w : World) (hr0 : Kd.C k48 w A0 l0.length l0) (hc0 : l0.length ≤ c0) (h : spec_BuildLegs.f k l0 = some (r1, r2)) :
  Calls Try.prog 12 #[.slice A0 l0.length c0] w fun e w' => ∃ v0_ : Value, e = .returned (.tuple #[v0_, .bool r2]) ∧ Kd.S k59 59 w' w.heap.size (fun _ => True) v0_ r1 ∧ Below w.heap.size w w' := by
 have HR0 := mk_ hr0
 have HC0 := mk_ hc0
 clear hr0 hc0
 have HB := mk_ (Below.refl w.heap.size w)
 have H : ((spec_GoodEntries.f k l0).bind fun t107 => (if t107 = true then ((spec_l13Build.f l0 0 ([] : List (S59))).bind fun t108 => (if (t108.length : Int) > 120 then (some (([] : List (S59)), false)) else (some (t108, true)))) else (some (([] : List (S59)), false)))) = some (r1, r2) := h
 clear h
 replace H := Option.bind_eq_some_iff.mp H
 obtain ⟨t107, A20, H⟩ := H
 replace H : (if t107 = true then ((spec_l13Build.f l0 0 ([] : List (S59))).bind fun t108 => (if (t108.length : Int) > 120 then (some (([] : List (S59)), false)) else (some (t108, true)))) else (some (([] : List (S59)), false))) = some (r1, r2) := H
 have A2 := mk_ A20
 clear A20
 by_cases c3 : t107 = true
 ·subst c3
  have H1 : ((spec_l13Build.f l0 0 ([] : List (S59))).bind fun t108 => (if (t108.length : Int) > 120 then (some (([] : List (S59)), false)) else (some (t108, true)))) = some (r1, r2) := by rw [if_pos rfl] at H; exact H
  clear H
  have H := H1
  clear H1
  replace H := Option.bind_eq_some_iff.mp H
  obtain ⟨t108, A40, H⟩ := H
  replace H : (if (t108.length : Int) > 120 then (some (([] : List (S59)), false)) else (some (t108, true))) = some (r1, r2) := H
  have A4 := mk_ A40
  clear A40
  by_cases c5 : (t108.length : Int) > 120
  ·rw [if_pos c5] at H
   have c5b0 : decide (120 < (t108.length : Int)) = true := decide_eq_true c5
   have c5b1 : decide (120 < t108.length) = true := decide_eq_true (by omega)
   clear c5
   simp only [Option.some.injEq, Prod.mk.injEq] at H
   obtain ⟨rfl, rfl⟩ := H
   go_enter Try.func12, Try.ntmps12
   go_wp2_with (first | ((with_reducible refine gate_callee (f := 36) rfl ?_); refine goesL_ (some 6) rfl rfl Try.func36 (by kernel_rfl) rfl #[.slice A0 l0.length c0] rfl sq_a ?_; (with_reducible refine (spec_GoodEntries.calls k _ _ l0 true _ ?side1 ?side2 A2.out).mono ?_); (case side1 => exact sq_c HR0.out); (case side2 => exact HC0.out); rintro e w6 ⟨rfl, hb⟩; refine ⟨_, rfl, ?_⟩; have n0_ := mk_ (below_step sq_b hb); clear HB; have HB := n0_; clear n0_; (try clear hb)) | ((with_reducible refine gate_callee (f := 44) rfl ?_); refine goesL_ (some 9) rfl rfl Try.func44 (by kernel_rfl) rfl #[.slice A0 l0.length c0, .int .i64 0, .slice none 0 0] rfl sq_a ?_; (refine (spec_l13Build.calls _ _ l0 0 (fun k_ => some k_ = (.slice none 0 0 : Value).ownBlock) (.slice none 0 0) ([] : List (S59)) t108 w _ ?side1 ?side2 ?side3 ?side4 A4.out).mono ?_); (case side1 => repeat (first | (with_reducible first | exact HB.out | apply below_alloc | apply pw_below_drewN | apply below_drew1) | exact HB.out)); (case side2 => exact Kd.C_kept_came k48_heap HR0.out sq_b (fun k_ hs_ => (fun e_ => by simp [Value.ownBlock] at e_) hs_)); (case side3 => exact HC0.out); (case side4 => first | exact Kd.R_nil _ _ _ _ _ | exact Kd.S_nil _ _ _ _ _); rintro e w7 ⟨v109, rfl, ho0, hb, hkp⟩; refine ⟨_, rfl, ?_⟩; have n0_ := mk_ (Kd.S_mono (ok' := fun k_ => True) ho0 (fun k_ hk_ => trivial)); have n1_ := mk_ (hb); clear HB; have HO110 := n0_; have HB := n1_; clear n0_ n1_; (try clear hb); (try clear hkp); (try clear ho0); obtain ⟨Ao8, co8, eo8⟩ := Kd.S_slice HO110.out; subst eo8))
   go_ret2
   exact ⟨_, sq_w, by first | exact Kd.S_nil _ _ _ _ _ | exact Kd.N_nil _ _ _ _ _ | exact Kd.V_nil _ _ _ _ _ | exact Kd.Q_nil _ _ _ _ _ | exact Kd.R_nil _ _ _ _ _, sq_b⟩
  ·rw [if_neg c5] at H
   have c5b0 : decide (120 < (t108.length : Int)) = false := decide_eq_false c5
   have c5b1 : decide (120 < t108.length) = false := decide_eq_false (by omega)
   clear c5
   simp only [Option.some.injEq, Prod.mk.injEq] at H
   obtain ⟨rfl, rfl⟩ := H
   go_enter Try.func12, Try.ntmps12
   go_wp2_with (first | ((with_reducible refine gate_callee (f := 36) rfl ?_); refine goesL_ (some 6) rfl rfl Try.func36 (by kernel_rfl) rfl #[.slice A0 l0.length c0] rfl sq_a ?_; (with_reducible refine (spec_GoodEntries.calls k _ _ l0 true _ ?side1 ?side2 A2.out).mono ?_); (case side1 => exact sq_c HR0.out); (case side2 => exact HC0.out); rintro e w9 ⟨rfl, hb⟩; refine ⟨_, rfl, ?_⟩; have n0_ := mk_ (below_step sq_b hb); clear HB; have HB := n0_; clear n0_; (try clear hb)) | ((with_reducible refine gate_callee (f := 44) rfl ?_); refine goesL_ (some 9) rfl rfl Try.func44 (by kernel_rfl) rfl #[.slice A0 l0.length c0, .int .i64 0, .slice none 0 0] rfl sq_a ?_; (refine (spec_l13Build.calls _ _ l0 0 (fun k_ => some k_ = (.slice none 0 0 : Value).ownBlock) (.slice none 0 0) ([] : List (S59)) t108 w _ ?side1 ?side2 ?side3 ?side4 A4.out).mono ?_); (case side1 => repeat (first | (with_reducible first | exact HB.out | apply below_alloc | apply pw_below_drewN | apply below_drew1) | exact HB.out)); (case side2 => exact Kd.C_kept_came k48_heap HR0.out sq_b (fun k_ hs_ => (fun e_ => by simp [Value.ownBlock] at e_) hs_)); (case side3 => exact HC0.out); (case side4 => first | exact Kd.R_nil _ _ _ _ _ | exact Kd.S_nil _ _ _ _ _); rintro e w10 ⟨v109, rfl, ho0, hb, hkp⟩; refine ⟨_, rfl, ?_⟩; have n0_ := mk_ (Kd.S_mono (ok' := fun k_ => True) ho0 (fun k_ hk_ => trivial)); have n1_ := mk_ (hb); clear HB; have HO110 := n0_; have HB := n1_; clear n0_ n1_; (try clear hb); (try clear hkp); (try clear ho0); obtain ⟨Ao11, co11, eo11⟩ := Kd.S_slice HO110.out; subst eo11))
   go_ret2
   exact ⟨_, sq_w, sq_s HO110, sq_b⟩
 ·replace c3 := Bool.eq_false_iff.mpr c3
  subst c3
  have H1 : (some (([] : List (S59)), false)) = some (r1, r2) := by rw [if_neg (show ¬ (false = true) by decide)] at H; exact H
  clear H
  have H := H1
  clear H1
  simp only [Option.some.injEq, Prod.mk.injEq] at H
  obtain ⟨rfl, rfl⟩ := H
  go_enter Try.func12, Try.ntmps12
  go_wp2_with (first | ((with_reducible refine gate_callee (f := 36) rfl ?_); refine goesL_ (some 6) rfl rfl Try.func36 (by kernel_rfl) rfl #[.slice A0 l0.length c0] rfl sq_a ?_; (with_reducible refine (spec_GoodEntries.calls k _ _ l0 false _ ?side1 ?side2 A2.out).mono ?_); (case side1 => exact sq_c HR0.out); (case side2 => exact HC0.out); rintro e w12 ⟨rfl, hb⟩; refine ⟨_, rfl, ?_⟩; have n0_ := mk_ (below_step sq_b hb); clear HB; have HB := n0_; clear n0_; (try clear hb)))
  go_ret2
  exact ⟨_, sq_w, by first | exact Kd.S_nil _ _ _ _ _ | exact Kd.N_nil _ _ _ _ _ | exact Kd.V_nil _ _ _ _ _ | exact Kd.Q_nil _ _ _ _ _ | exact Kd.R_nil _ _ _ _ _, sq_b⟩

/-! ### impl_within: function 74 -/
def impl_within.f (a0 : Int) (a1 : Int) (a2 : Int) : Option (Bool) := if a0 ≥ a1 then (some (decide (a0 ≤ a2))) else (some false)
set_option maxHeartbeats 8000000 in
set_option maxRecDepth 100000 in
theorem impl_within.calls (a0 : Int) (a1 : Int) (a2 : Int) (r : Bool) (w : World) (h : impl_within.f a0 a1 a2 = some r) :
  Calls Try.prog 74 #[.int .i64 a0, .int .i64 a1, .int .i64 a2] w fun e w' => e = .returned (.bool r) ∧ Drawn0 w w' := by
 have H : (if a0 ≥ a1 then (some (decide (a0 ≤ a2))) else (some false)) = some r := h
 clear h
 by_cases c4 : a0 ≥ a1
 ·rw [if_pos c4] at H
  have c4b0 : decide (a1 ≤ a0) = true := decide_eq_true c4
  clear c4
  obtain rfl := Option.some.inj H
  go_enter Try.func74, Try.ntmps74
  go_wp2
  go_ret
  exact ⟨sq_e, by repeat (first | exact Drawn0.refl _ | apply Drawn0.step)⟩
 ·rw [if_neg c4] at H
  have c4b0 : decide (a1 ≤ a0) = false := decide_eq_false c4
  clear c4
  obtain rfl := Option.some.inj H
  go_enter Try.func74, Try.ntmps74
  go_wp2
  go_ret
  exact ⟨sq_e, by repeat (first | exact Drawn0.refl _ | apply Drawn0.step)⟩

/-! ### impl_isLetter: function 96 -/
def impl_isLetter.f (a0 : Int) : Option (Bool) := if a0 ≥ 97 then (some (decide (a0 ≤ 122))) else (some false)
set_option maxHeartbeats 8000000 in
set_option maxRecDepth 100000 in
theorem impl_isLetter.calls (a0 : Int) (r : Bool) (w : World) (h : impl_isLetter.f a0 = some r) :
  Calls Try.prog 96 #[.int .u8 a0] w fun e w' => e = .returned (.bool r) ∧ Drawn0 w w' := by
 have H : (if a0 ≥ 97 then (some (decide (a0 ≤ 122))) else (some false)) = some r := h
 clear h
 by_cases c2 : a0 ≥ 97
 ·rw [if_pos c2] at H
  have c2b0 : decide (97 ≤ a0) = true := decide_eq_true c2
  clear c2
  obtain rfl := Option.some.inj H
  go_enter Try.func96, Try.ntmps96
  go_wp2
  go_ret
  exact ⟨sq_e, by repeat (first | exact Drawn0.refl _ | apply Drawn0.step)⟩
 ·rw [if_neg c2] at H
  have c2b0 : decide (97 ≤ a0) = false := decide_eq_false c2
  clear c2
  obtain rfl := Option.some.inj H
  go_enter Try.func96, Try.ntmps96
  go_wp2
  go_ret
  exact ⟨sq_e, by repeat (first | exact Drawn0.refl _ | apply Drawn0.step)⟩

/-! ### impl_areLetters: function 56 -/
def impl_areLetters.l0 : Nat → ByteArray → Int → Int → Option (Bool)
 | 0, _, _, _ => none
 | k + 1, x0, x5, x6 => if x6 < x5 then (if 0 ≤ x6 then (if x6 < (x0.size : Int) then ((impl_isLetter.f (bt x0 x6)).bind fun t111 => (if t111 = true then (impl_areLetters.l0 k x0 x5 (wrap64 (x6 + 1))) else (some false))) else (none)) else (none)) else (some (decide ((x0.size : Int) ≤ 12)))
def impl_areLetters.f (k : Nat) (a0 : ByteArray) : Option (Bool) := impl_areLetters.l0 k a0 (a0.size : Int) 0
theorem impl_areLetters.mono_l : ∀ k, (∀ y0 y1 y2, LeO (impl_areLetters.l0 k y0 y1 y2) (impl_areLetters.l0 (k + 1) y0 y1 y2))
 | 0 => fun _ _ _ r h => by simp [impl_areLetters.l0] at h
 | k + 1 => by
  have ih0 := impl_areLetters.mono_l k
  ·intro y0 y1 y2
   unfold impl_areLetters.l0
   repeat' first
   | (with_reducible exact ih0 _ _ _)
   | (with_reducible exact LeO.refl _)
   | (with_reducible exact LeO.none _)
   | (with_reducible refine LeO.ite ?_ ?_)
   | (with_reducible refine LeO.bind ?_ (fun _ => ?_))
   | exact ih0 _ _ _
   | exact LeO.none _
   | refine LeO.ite ?_ ?_
   | refine LeO.bind ?_ (fun _ => ?_)
theorem impl_areLetters.mono : ∀ a0 k, LeO (impl_areLetters.f k a0) (impl_areLetters.f (k + 1) a0) := by
 intro a0 k
 have ih0 := impl_areLetters.mono_l k
 unfold impl_areLetters.f
 repeat' first
   | (with_reducible exact ih0 _ _ _)
   | (with_reducible exact LeO.refl _)
   | (with_reducible exact LeO.none _)
   | (with_reducible refine LeO.ite ?_ ?_)
   | (with_reducible refine LeO.bind ?_ (fun _ => ?_))
   | exact ih0 _ _ _
   | exact LeO.none _
   | refine LeO.ite ?_ ?_
   | refine LeO.bind ?_ (fun _ => ?_)
set_option maxHeartbeats 8000000 in
set_option maxRecDepth 100000 in
theorem impl_areLetters.calls (k : Nat) (a0 : ByteArray) (r : Bool) (w : World) (h : impl_areLetters.f k a0 = some r) :
  Calls Try.prog 56 #[.string a0] w fun e w' => e = .returned (.bool r) ∧ Drawn0 w w' := by
 have H : (impl_areLetters.l0 k a0 (a0.size : Int) 0) = some r := h
 clear h
 have H' := mk_ H
 clear H
 go_enter Try.func56, Try.ntmps56
 go_wp2
 go_loopg [6] k (fun kq v6 w' => ∃ (x6_1 : Int), v6 = .int .i64 x6_1 ∧ Aside0 (impl_areLetters.l0 kq a0 (a0.size : Int) x6_1 = some r) ∧ Aside0 (kq ≤ k) ∧ Drawn0 w w')
 case atStart => exact ⟨(0), sq_e, H', ⟨Nat.le_refl _⟩, by repeat (first | exact Drawn0.refl _ | apply Drawn0.step)⟩
 case round =>
  clear H'
  obtain ⟨x6_1, rfl, HA, HK1, ⟨m1, rfl⟩⟩ := hrel
  cases gk with
  | zero => exact absurd HA.out (by simp [impl_areLetters.l0])
  | succ k1 =>
   have H := HA.out
   clear HA
   simp only [impl_areLetters.l0] at H
   by_cases c2 : x6_1 < (a0.size : Int)
   ·rw [if_pos c2] at H
    have c2b0 : decide (x6_1 < (a0.size : Int)) = true := decide_eq_true c2
    clear c2
    by_cases c3 : 0 ≤ x6_1
    rotate_left
    ·rw [if_neg c3] at H
     exact absurd H (by simp)
    rw [if_pos c3] at H
    have c3b0 : decide (0 ≤ x6_1) = true := decide_eq_true c3
    clear c3
    by_cases c4 : x6_1 < (a0.size : Int)
    rotate_left
    ·rw [if_neg c4] at H
     exact absurd H (by simp)
    rw [if_pos c4] at H
    have c4b0 : decide (x6_1 < (a0.size : Int)) = true := decide_eq_true c4
    clear c4
    replace H := Option.bind_eq_some_iff.mp H
    obtain ⟨t111, A60, H⟩ := H
    replace H : (if t111 = true then (impl_areLetters.l0 k1 a0 (a0.size : Int) (wrap64 (x6_1 + 1))) else (some false)) = some r := H
    have A6 := mk_ A60
    clear A60
    by_cases c7 : t111 = true
    ·subst c7
     have H1 : (impl_areLetters.l0 k1 a0 (a0.size : Int) (wrap64 (x6_1 + 1))) = some r := by rw [if_pos rfl] at H; exact H
     clear H
     have H := H1
     clear H1
     have H' := mk_ H
     clear H
     have p5 : 0 ≤ (x6_1 : Int) := sq_d
     have q5 : x6_1 < (a0.size : Int) := sq_d
     have hx5 := bt_at a0 x6_1
     replace p5 := eq_true p5
     replace q5 := eq_true q5
     go_wp2_with (first | ((with_reducible refine gate_callee (f := 96) rfl ?_); refine goesL_ (some 12) rfl rfl Try.func96 (by kernel_rfl) rfl #[.int .u8 (bt a0 x6_1)] rfl sq_a ?_; (with_reducible refine (impl_isLetter.calls (bt a0 x6_1) true _ A6.out).mono ?_); rintro e w' ⟨rfl, ⟨nd, rfl⟩⟩; refine ⟨_, rfl, ?_⟩))
     go_roundg k1
     case measure => have := HK1.out; omega
     case rel => exact ⟨(wrap64 (x6_1 + 1)), sq_e, H', ⟨by have := HK1.out; omega⟩, by repeat (first | exact Drawn0.refl _ | apply Drawn0.step)⟩
    ·replace c7 := Bool.eq_false_iff.mpr c7
     subst c7
     have H1 : (some false) = some r := by rw [if_neg (show ¬ (false = true) by decide)] at H; exact H
     clear H
     have H := H1
     clear H1
     obtain rfl := Option.some.inj H
     have p5 : 0 ≤ (x6_1 : Int) := sq_d
     have q5 : x6_1 < (a0.size : Int) := sq_d
     have hx5 := bt_at a0 x6_1
     replace p5 := eq_true p5
     replace q5 := eq_true q5
     go_wp2_with (first | ((with_reducible refine gate_callee (f := 96) rfl ?_); refine goesL_ (some 12) rfl rfl Try.func96 (by kernel_rfl) rfl #[.int .u8 (bt a0 x6_1)] rfl sq_a ?_; (with_reducible refine (impl_isLetter.calls (bt a0 x6_1) false _ A6.out).mono ?_); rintro e w' ⟨rfl, ⟨nd, rfl⟩⟩; refine ⟨_, rfl, ?_⟩))
     go_ret
     exact ⟨sq_e, by repeat (first | exact Drawn0.refl _ | apply Drawn0.step)⟩
   ·rw [if_neg c2] at H
    have c2b0 : decide (x6_1 < (a0.size : Int)) = false := decide_eq_false c2
    clear c2
    obtain rfl := Option.some.inj H
    go_wp2
    go_ret
    exact ⟨sq_e, by repeat (first | exact Drawn0.refl _ | apply Drawn0.step)⟩

end Go.Proofs.Ytkoackkimdanjaa.QFnLegs
