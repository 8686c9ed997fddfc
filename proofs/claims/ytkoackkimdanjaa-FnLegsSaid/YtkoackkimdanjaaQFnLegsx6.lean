-- Written by this session's own program (wip/pp_patch.py, wip/pp.sh) out of the given translation. Not trusted: Lean checks it.
import Derived.Test.YtkoackkimdanjaaQFnLegsx0
import Derived.Test.YtkoackkimdanjaaQFnLegsx5
namespace Go.Proofs.Ytkoackkimdanjaa.QFnLegs
open Go.RowKit Go.Proofs.YtkoackkimdanjaaW.PrintWords Go.Proofs.YtkoackkimdanjaaW.PrintLast Go.Proofs.YtkoackkimdanjaaW.PrintMore
attribute [local go_sem] max2_int min2_int max_two min_two max_three min_three max_four min_four   -- for this text's walks alone
open Go.Proofs.Ytkoackkimdanjaa.Ext
attribute [local go_sem high] ext_gtr ext_leq
set_option linter.unusedVariables false
set_option linter.unusedSimpArgs false

/-! ### impl_legs_1: function 110 (by hand) -/
set_option maxHeartbeats 8000000 in
set_option maxRecDepth 100000 in
theorem impl_legs_1.calls (x y : S48) (n g4 g5 : Nat) (A : Option Addr) (c : Nat) (l : List S48) (w : World) (h5 : w.cell? ⟨g5, 0, none⟩ = some (.int .i64 n)) (h4 : w.cell? ⟨g4, 0, none⟩ = some (.slice A l.length c)) (hC : Kd.C k48 w A l.length l) (hl : l[0]? = some y) (hx : n < x.f0.size) (hy : n < y.f0.size) (hn : n ≤ 12) :
  Calls Try.prog 110 #[.agg #[.string x.f0, .int .i64 x.f1], .pointer (some ⟨g5, 0, none⟩), .pointer (some ⟨g4, 0, none⟩)] w fun e w' => e = .returned (.bool (!decide (x.f0.data.toList.getD n 0 = y.f0.data.toList.getD n 0))) ∧ Below w.heap.size w w' := by
 have hlen : 0 < l.length := (List.getElem?_eq_some_iff.1 hl).1
 obtain ⟨ad, rfl, hv0, _⟩ := at_T48 hC 0 (Int.le_refl 0) (by omega)
 have hrd : rd_T48 l 0 = y := by unfold rd_T48; rw [List.getD_eq_getElem?_getD, show (0 : Int).toNat = 0 from rfl, hl]; rfl
 rw [hrd, show (0 : Int).toNat * 2 = 0 from rfl, show ad.add 0 = ad by cases ad; simp [Addr.add]] at hv0
 have hlt5 := World.block_lt_of_cell? w _ h5
 have hlt4 := World.block_lt_of_cell? w _ h4
 have HRES := mk_ (show (!decide (x.f0.data.toList.getD n 0 = y.f0.data.toList.getD n 0)) = !((((x.f0[n]'hx).toNat : Int)) == (((y.f0[n]'hy).toNat : Int))) by
  rw [getD_data _ _ hx, getD_data _ _ hy]
  congr 1
  rw [Bool.eq_iff_iff, decide_eq_true_iff, beq_iff_eq]
  exact ⟨fun h => by rw [h], fun h => UInt8.toNat_inj.mp (Int.ofNat_inj.mp h)⟩)
 go_enter Try.func110, Try.ntmps110
 go_wp2_with fail
 obtain ⟨W1, hW1⟩ : ∃ W1, W1 = w.alloc (.cells #[.string x.f0, .int .i64 x.f1] 48) := ⟨_, rfl⟩
 have hB1 : Below w.heap.size w W1 := by rw [hW1]; exact below_alloc (Below.refl _ _) _
 have hx0 : W1.cell? ⟨w.heap.size, 0, none⟩ = some (.string x.f0) := by rw [hW1]; simp
 have k5 : W1.cell? ⟨g5, 0, none⟩ = some (.int .i64 n) := (hB1.cell hlt5).trans h5
 have k4 : W1.cell? ⟨g4, 0, none⟩ = some (.slice (some ad) l.length c) := (hB1.cell hlt4).trans h4
 have kv := (hB1.cell (World.block_lt_of_cell? w _ hv0)).trans hv0
 rw [← hW1]
 have HB1 := mk_ hB1
 have hb1 := bt_at x.f0 (n : Int)
 have hb2 := bt_at y.f0 (n : Int)
 have i0 := eq_true (show (0 : Int) ≤ (n : Int) by omega)
 have i1 := eq_true (show (n : Int) < (x.f0.size : Int) by omega)
 have i2 := eq_true (show (n : Int) < (y.f0.size : Int) by omega)
 have i3 := eq_true hx
 have i4 := eq_true hy
 have i5 := eq_true (show (0 : Int) < (l.length : Int) by omega)
 have i6 := eq_true hlen
 clear hW1 hB1 h4 h5 hv0 hC hlt4 hlt5 hl hrd
 go_quiet (fail)
 go_wp2
 go_ret
 rw [HRES.out]
 exact ⟨rfl, pw_below_drewN HB1.out _⟩

/-! ### impl_legs: function 85 (by hand) -/
def impl_legs.f (l0 : List S59) (l1 : List S48) (a2 : Int) : Option (List S59) := if 0 ≤ a2 ∧ LegGood (fun x : S48 => x.f0.data.toList) a2.toNat l1 ∧ (0 < a2.toNat → l1 ≠ []) ∧ l0.length + 1 + l1.length * 13 ≤ 1000000 then some (l0 ++ legsF (fun x : S48 => x.f0.data.toList) (fun x => x.f1) (fun a b c k => (⟨a, b, c, k⟩ : S59)) (13 - a2.toNat) l1 a2.toNat l0.length) else none
theorem impl_legs.run {α : Type} (wd : α → List UInt8) (n : Nat) (rs : List α) (y : α) (hy : rs[0]? = some y) : ∃ q : Nat, 0 < q ∧ q ≤ rs.length ∧ groups wd n rs = rs.take q :: groups wd n (rs.drop q) ∧ ((idxF (fun x => !decide ((wd x).getD n 0 = (wd y).getD n 0)) rs 0 = -1 ∧ q = rs.length) ∨ idxF (fun x => !decide ((wd x).getD n 0 = (wd y).getD n 0)) rs 0 = (q : Int)) := by
 by_cases h : idxF (fun x => !decide ((wd x).getD n 0 = (wd y).getD n 0)) rs 0 = -1
 ·have hf := List.filter_eq_self.1 (idxF_none _ rs 0 h)
  have hg := groups_drop (wd := wd) (n := n) (p := 0) (q := rs.length) hy (Nat.zero_le _) (Nat.le_refl _) (fun m y' _ _ hm => by
   have := hf y' (List.mem_of_getElem? hm)
   simpa using this) (fun ⟨y', hy', _⟩ => by rw [List.getElem?_eq_none (Nat.le_refl _)] at hy'; cases hy')
  refine ⟨rs.length, hg.1, Nat.le_refl _, ?_, Or.inl ⟨h, rfl⟩⟩
  simpa using hg.2
 ·obtain ⟨k, x, hk, he, hx, hp, hf⟩ := idxF_some _ rs 0 h
  have hf := List.filter_eq_self.1 hf
  have hg := groups_drop (wd := wd) (n := n) (p := 0) (q := k) hy (Nat.zero_le _) (by omega) (fun m y' _ hmk hm => by
   have hmem : y' ∈ rs.take k := List.mem_of_getElem? (i := m) (by rw [List.getElem?_take, if_pos hmk]; exact hm)
   have := hf y' hmem
   simpa using this) (fun ⟨y', hy', hs⟩ => by
   rw [hx] at hy'
   injection hy' with e
   subst e
   simp at hp
   exact hp hs)
  refine ⟨k, hg.1, by omega, by simpa using hg.2, Or.inr ?_⟩
  rw [he]; simp
def impl_legs.ends {α : Type} (wd : α → List UInt8) (n : Nat) : List α → Bool
 | [] => false
 | y :: _ => decide ((wd y).length = n)
def impl_legs.At (wd : S48 → List UInt8) (wt : S48 → Int) (mk : Int → Int → Int → List Int → S59) (k : Nat) : Prop := ∀ (P0_ : Nat → Prop) (u9000_ : Value) (l2 : List S59) (A0 : Option Addr) (c0 : Nat) (l0 : List S48) (n : Nat) (w0 w : World), n + k = 13 → LegGood wd n l0 → l2.length + 1 + l0.length * k ≤ 1000000 → (0 < n → l0 ≠ []) → Below w0.heap.size w0 w → Kd.S k59 59 w w0.heap.size P0_ u9000_ l2 → (∀ W_, Kept w W_ (fun k_ => P0_ k_) → Kd.C k48 W_ A0 l0.length l0) → l0.length ≤ c0 →
  Calls Try.prog 85 #[u9000_, .slice A0 l0.length c0, .int .i64 n] w fun e w' => ∃ v0_ : Value, e = .returned (v0_) ∧ Kd.S k59 59 w' w0.heap.size (fun k_ => (P0_ k_ ∨ w.heap.size ≤ k_)) v0_ (l2 ++ legsF wd wt mk k l0 n l2.length) ∧ Below w0.heap.size w0 w' ∧ Kept w w' (fun k_ => P0_ k_)
set_option maxHeartbeats 8000000 in
set_option maxRecDepth 100000 in
theorem impl_legs.step (wd : S48 → List UInt8) (hwd : wd = fun x => x.f0.data.toList) (wt : S48 → Int) (hwt : wt = fun x => x.f1) (mk : Int → Int → Int → List Int → S59) (hmk : mk = fun a b c k => ⟨a, b, c, k⟩) (k : Nat) (ih0 : impl_legs.At wd wt mk k) : impl_legs.At wd wt mk (k + 1) := by
  intro P0_ u9000_ l2 A0 cc0 l0 n w0 w hn hg hmax hne hB ho2 hr0 hc0
  unfold impl_legs.At at ih0
  have ih := mk_ ih0
  clear ih0
  have HN := mk_ hn
  have HG := mk_ hg
  have HM := mk_ hmax
  have HE := mk_ hne
  have HB := mk_ hB
  have HR := mk_ hr0
  have HC := mk_ hc0
  have HS := mk_ (Kd.S_mono (Kd.S_bound ho2) (fun k_ h_ => (⟨h_.1, h_.2.2.1⟩ : P0_ k_ ∧ k_ < w.heap.size)))
  obtain ⟨A2, c2, rfl⟩ := Kd.S_slice ho2
  clear hn hg hmax hne hB hr0 hc0 ho2
  go_enter Try.func85, Try.ntmps85
  go_upto_if 16 with (first | ((with_reducible refine gate_dst (N := 4) rfl ?_); refine box_event sq_0 (N := 4) sq_0 (cs := #[.slice A0 l0.length cc0]) (t := 27) sq_h ?_; intro g4 hg4 wA hboxA hbA; have G4 := mk_ hg4; have BA := mk_ hbA; have BK4A := mk_ hboxA; clear hg4 hboxA hbA) | ((with_reducible refine gate_dst (N := 5) rfl ?_); refine box_event sq_0 (N := 5) sq_0 (cs := #[.int .i64 n]) (t := 3) sq_h ?_; intro g5 hg5 wB hboxB hbB; have G5 := mk_ (show wA.heap.size ≤ g5 from by rw [hg5]; exact Nat.le_refl _); have BB := mk_ (below_step BA.out hbB); have BK4B := mk_ (blk_below BK4A.out hbB); have BK5B := mk_ hboxB; clear hg5 hboxB hbB) | ((with_reducible refine gate_dst (N := 8) rfl ?_); refine box_event sq_0 (N := 8) sq_0 (cs := #[.int .i64 0, .int .i64 0, .int .i64 0, .slice none 0 0]) (t := 59) sq_h ?_; intro g8 hg8 w3 hbox hb8; have G8 := mk_ (show wB.heap.size ≤ g8 from by rw [hg8]; exact Nat.le_refl _); have B3 := mk_ (below_step BB.out hb8); have BK4 := mk_ (blk_below BK4B.out hb8); have BK5 := mk_ (blk_below BK5B.out hb8); have BK8 := mk_ hbox; have hc0 := (blk_cell BK8.out 0).trans rfl; have hc1 := (blk_cell BK8.out 1).trans rfl; have hc2 := (blk_cell BK8.out 2).trans rfl; have hc3 := (blk_cell BK8.out 3).trans rfl; have hf0 := blk_frozen BK8.out 0; have hf1 := blk_frozen BK8.out 1; have hf2 := blk_frozen BK8.out 2; have hf3 := blk_frozen BK8.out 3; have hk5 : w3.cell? ⟨g5, 0, none⟩ = some (.int .i64 n) := (blk_cell BK5.out 0).trans rfl; have ne48 : (g4 = g8) = False := eq_false (fun e_ => by have := blk_lt BK4B.out; have := G8.out; omega); have ne84 : (g8 = g4) = False := eq_false (fun e_ => by have := blk_lt BK4B.out; have := G8.out; omega); have ne58 : (g5 = g8) = False := eq_false (fun e_ => by have := blk_lt BK5B.out; have := G8.out; omega); have ne85 : (g8 = g5) = False := eq_false (fun e_ => by have := blk_lt BK5B.out; have := G8.out; omega); clear hbox hb8 hg8))
  obtain ⟨wC, hwC⟩ : ∃ wC, wC = ((((w3.setCell ⟨g8, 0, none⟩ (.int .i64 0)).setCell ⟨g8, 1, none⟩ (.int .i64 0)).setCell ⟨g8, 2, none⟩ (.int .i64 0)).setCell ⟨g8, 3, none⟩ (.slice none 0 0)) := ⟨_, rfl⟩
  have GE := mk_ (show w.heap.size ≤ g8 from Nat.le_trans BB.out.size G8.out)
  have hBC : Below w.heap.size w wC := by rw [hwC]; exact below_set (below_set (below_set (below_set B3.out GE.out) GE.out) GE.out) GE.out
  have hK8 : wC.heap[g8]? = some (.cells #[.int .i64 0, .int .i64 0, .int .i64 0, .slice none 0 0] 59 (0, 0)) := by rw [hwC]; exact blk_put (cs := #[.int .i64 0, .int .i64 0, .int .i64 0, .slice none 0 0]) (blk_put (cs := #[.int .i64 0, .int .i64 0, .int .i64 0, .slice none 0 0]) (blk_put (cs := #[.int .i64 0, .int .i64 0, .int .i64 0, .slice none 0 0]) (blk_put (cs := #[.int .i64 0, .int .i64 0, .int .i64 0, .slice none 0 0]) BK8.out 0 _ rfl) 1 _ rfl) 2 _ rfl) 3 _ rfl
  have hK4 : wC.heap[g4]? = some (.cells #[.slice A0 l0.length cc0] 27 (0, 0)) := by rw [hwC]; exact blk_far (blk_far (blk_far (blk_far BK4.out (fun e_ => ne48.mp e_) _) (fun e_ => ne48.mp e_) _) (fun e_ => ne48.mp e_) _) (fun e_ => ne48.mp e_) _
  have hK5 : wC.heap[g5]? = some (.cells #[.int .i64 n] 3 (0, 0)) := by rw [hwC]; exact blk_far (blk_far (blk_far (blk_far BK5.out (fun e_ => ne58.mp e_) _) (fun e_ => ne58.mp e_) _) (fun e_ => ne58.mp e_) _) (fun e_ => ne58.mp e_) _
  rw [← hwC]
  have BC := mk_ hBC
  have K8 := mk_ hK8
  have K4 := mk_ hK4
  have K5 := mk_ hK5
  have G45 := mk_ (show w.heap.size ≤ g4 ∧ g4 < g5 ∧ g5 < g8 from ⟨by rw [G4.out]; exact Nat.le_refl _, by have := G5.out; have := blk_lt BK4A.out; omega, by have := G8.out; have := blk_lt BK5B.out; omega⟩)
  clear hwC hBC hK8 hK4 hK5 hc0 hc1 hc2 hc3 hf0 hf1 hf2 hf3 hk5 BK8 BK4 BK5 B3 BB BA BK4A BK4B BK5B G4 G5 G8
  go_cut [] (fun wx => Aside0 (wx.heap[g8]? = some (.cells #[.int .i64 (legLetter wd n l0), .int .i64 0, .int .i64 0, .slice none 0 0] 59 (0, 0))) ∧ Aside0 (wx.heap[g4]? = some (.cells #[.slice A0 l0.length cc0] 27 (0, 0))) ∧ Aside0 (wx.heap[g5]? = some (.cells #[.int .i64 n] 3 (0, 0))) ∧ Aside0 (Below w.heap.size w wx))
  case first =>
   by_cases hn : n = 0
   ·have d3 : decide (0 < (n : Int)) = false := decide_eq_false (by omega)
    have d3n : decide (0 < n) = false := decide_eq_false (by omega)
    have HN0 := mk_ hn
    clear hn
    rw [d3n]
    go_wp2_with fail
    go_meet
    exact ⟨⟨by rw [show legLetter wd n l0 = 0 from by rw [HN0.out]; exact legLetter_zero _]; exact K8.out⟩, K4, K5, BC⟩
   ·have hne := HE.out (by omega)
    have hlen : 0 < l0.length := List.length_pos_iff.2 hne
    obtain ⟨y, hy⟩ : ∃ y, l0[0]? = some y := ⟨_, List.getElem?_eq_getElem hlen⟩
    have HY := mk_ hy
    have hys := HG.out.size y (List.mem_of_getElem? hy)
    have hsz : (wd y).length = y.f0.size := by rw [hwd]; exact size_data _
    have hCC := HR.out wC (Kept.of_below BC.out _)
    obtain ⟨ad, rfl, hv0, _⟩ := at_T48 hCC 0 (Int.le_refl 0) (by omega)
    have hrd : rd_T48 l0 0 = y := by unfold rd_T48; rw [List.getD_eq_getElem?_getD, show (0 : Int).toNat = 0 from rfl, hy]; rfl
    rw [hrd, show (0 : Int).toNat * 2 = 0 from rfl, show ad.add 0 = ad by cases ad; simp [Addr.add]] at hv0
    have hl0 := (blk_cell K4.out 0).trans rfl
    have hl5 := (blk_cell K5.out 0).trans rfl
    have hc0 := (blk_cell K8.out 0).trans rfl
    have hf0 := blk_frozen K8.out 0
    have d3 : decide (0 < (n : Int)) = true := decide_eq_true (by omega)
    have d3n : decide (0 < n) = true := decide_eq_true (by omega)
    have d3e : (0 < n) = True := eq_true (by omega)
    have hw1 : wrap64 ((n : Int) - 1) = (n : Int) - 1 := by have := HN.out; unfold wrap64; omega
    have hx4 := bt_at y.f0 ((n : Int) - 1)
    have p4 := eq_true (show 0 ≤ ((n : Int) - 1) by omega)
    have q4 := eq_true (show ((n : Int) - 1) < (y.f0.size : Int) by omega)
    have hle0 : n ≤ y.f0.size := by omega
    have q4n := eq_true hle0
    have q4i := eq_true (show (n : Int) ≤ (y.f0.size : Int) by omega)
    have p4n := eq_true (show 1 ≤ n by omega)
    have p4i := eq_true (show (1 : Int) ≤ (n : Int) by omega)
    have hlt0 : n - 1 < y.f0.size := by omega
    have i5 := eq_true (show (0 : Int) < (l0.length : Int) by omega)
    have i6 := eq_true hlen
    have hg97 : (wd y).getD (n - 1) 0 = y.f0[n - 1]'hlt0 := by have e := getD_data y.f0 (n - 1) hlt0; rw [show wd y = y.f0.data.toList by rw [hwd]]; exact e
    have HLT := mk_ (show legLetter wd n l0 = ((((y.f0[n - 1]'hlt0).toNat : Int)) - 97) % 256 by rw [HG.out.letter (by omega) (List.mem_of_getElem? HY.out), hg97])
    clear hn hne hlen hy hys hsz hrd
    rw [d3n]
    go_wp2_with fail
    go_region
    go_wp2_with fail
    go_meet
    exact ⟨⟨by rw [HLT.out]; exact blk_put (cs := #[.int .i64 0, .int .i64 0, .int .i64 0, .slice none 0 0]) K8.out 0 _ rfl⟩, ⟨blk_far K4.out (fun e_ => ne48.mp e_) _⟩, ⟨blk_far K5.out (fun e_ => ne58.mp e_) _⟩, ⟨below_drew (below_set BC.out GE.out)⟩⟩
  case rest =>
   obtain ⟨K8, K4, K5, BC⟩ := hcut
   have hl4 := (blk_cell K4.out 0).trans rfl
   go_wp2_with fail
   go_loopg [29] l0.length (fun kq v29 w' => ∃ (i : Nat) (x : Int), v29 = .int .i64 x ∧ Aside0 (x = i) ∧ Aside0 (i + kq = l0.length) ∧ Aside0 (w'.heap[g8]? = some (.cells #[.int .i64 (legLetter wd n l0), .int .i64 0, .int .i64 (legBest wt (l0.take i) 0), .slice none 0 0] 59 (0, 0))) ∧ Aside0 (w'.heap[g4]? = some (.cells #[.slice A0 l0.length cc0] 27 (0, 0))) ∧ Aside0 (w'.heap[g5]? = some (.cells #[.int .i64 n] 3 (0, 0))) ∧ Aside0 (Below w.heap.size w w'))
   case atStart => exact ⟨0, 0, rfl, ⟨rfl⟩, ⟨by simp⟩, K8, K4, K5, BC⟩
   case round =>
    clear K8 K4 K5 BC hl4
    obtain ⟨i, x, rfl, HX, HI, K8, K4, K5, BC⟩ := hrel
    cases gk with
    | zero =>
     have c1 : decide (x < (l0.length : Int)) = false := decide_eq_false (by have := HX.out; have := HI.out; omega)
     have HTK := mk_ (show l0.take i = l0 by rw [show i = l0.length by have := HI.out; omega, List.take_length])
     rw [HTK.out] at K8
     clear HX HI HTK
     obtain ⟨bq, hbq⟩ : ∃ bq : Bool, bq = impl_legs.ends wd n l0 := ⟨_, rfl⟩
     have HBQ := mk_ hbq
     clear hbq
     go_upto_region 10 with fail
     go_cut [51] (fun v51 wx => v51 = .bool bq ∧ Aside0 (wx.heap[g8]? = some (.cells #[.int .i64 (legLetter wd n l0), .int .i64 0, .int .i64 (legBest wt l0 0), .slice none 0 0] 59 (0, 0))) ∧ Aside0 (wx.heap[g4]? = some (.cells #[.slice A0 l0.length cc0] 27 (0, 0))) ∧ Aside0 (wx.heap[g5]? = some (.cells #[.int .i64 n] 3 (0, 0))) ∧ Aside0 (Below w.heap.size w wx))
     case first =>
      have hl4 := (blk_cell K4.out 0).trans rfl
      have hl5 := (blk_cell K5.out 0).trans rfl
      by_cases hlen : 0 < l0.length
      ·have d1 : decide (0 < (l0.length : Int)) = true := decide_eq_true (by omega)
       have d2 : decide (0 < l0.length) = true := decide_eq_true hlen
       obtain ⟨y, hy⟩ : ∃ y, l0[0]? = some y := ⟨_, List.getElem?_eq_getElem hlen⟩
       have hsz : (wd y).length = y.f0.size := by rw [hwd]; exact size_data _
       have hl0 : ∃ l', l0 = y :: l' := by
        cases l0 with
        | nil => simp at hlen
        | cons a l' =>
         have h9 : a = y := by simpa using hy
         exact ⟨l', by rw [h9]⟩
       obtain ⟨ad, rfl, hv0, hv1⟩ := at_T48 (HR.out wr (Kept.of_below BC.out _)) 0 (Int.le_refl 0) (by omega)
       have hrd : rd_T48 l0 0 = y := by unfold rd_T48; rw [List.getD_eq_getElem?_getD, show (0 : Int).toNat = 0 from rfl, hy]; rfl
       have had : ad.add 0 = ad := by cases ad; simp [Addr.add]
       rw [hrd, show (0 : Int).toNat * 2 = 0 from rfl, had] at hv0 hv1
       have i5 := eq_true (show (0 : Int) < (l0.length : Int) by omega)
       have i6 := eq_true hlen

       by_cases hs : y.f0.size = n
       ·have e1 : ((y.f0.size : Int) == (n : Int)) = true := beq_iff_eq.mpr (by omega)
        have HBT := mk_ (show bq = true by obtain ⟨l', hl'⟩ := hl0; rw [HBQ.out, hl']; exact decide_eq_true (by omega))
        clear hs hlen hy hsz hl0 hrd had hv1
        go_quiet (fail)
        go_wp2_with fail
        go_meet
        exact ⟨by rw [HBT.out], ⟨blk_drewN K8.out _⟩, ⟨blk_drewN K4.out _⟩, ⟨blk_drewN K5.out _⟩, ⟨pw_below_drewN BC.out _⟩⟩
       ·have e1 : ((y.f0.size : Int) == (n : Int)) = false := beq_eq_false_iff_ne.mpr (by omega)
        have HBT := mk_ (show bq = false by obtain ⟨l', hl'⟩ := hl0; rw [HBQ.out, hl']; exact decide_eq_false (by omega))
        clear hs hlen hy hsz hl0 hrd had hv1
        go_quiet (fail)
        go_wp2_with fail
        go_meet
        exact ⟨by rw [HBT.out], ⟨blk_drewN K8.out _⟩, ⟨blk_drewN K4.out _⟩, ⟨blk_drewN K5.out _⟩, ⟨pw_below_drewN BC.out _⟩⟩
      ·have d1 : decide (0 < (l0.length : Int)) = false := decide_eq_false (by omega)
       have d2 : decide (0 < l0.length) = false := decide_eq_false hlen
       have HBT := mk_ (show bq = false by rw [HBQ.out]; cases l0 with
        | nil => rfl
        | cons a l' => simp at hlen)
       clear hlen
       go_quiet (fail)
       go_wp2_with fail
       go_meet
       exact ⟨by rw [HBT.out], ⟨blk_drewN K8.out _⟩, ⟨blk_drewN K4.out _⟩, ⟨blk_drewN K5.out _⟩, ⟨pw_below_drewN BC.out _⟩⟩
     case rest =>
      clear K8 K4 K5 BC
      obtain ⟨rfl, K8, K4, K5, BC⟩ := hcut
      go_upto_if 51 with fail
      go_cut [] (fun wx => Aside0 (wx.heap[g8]? = some (.cells #[.int .i64 (legLetter wd n l0), .int .i64 (legWeight wd wt n l0), .int .i64 (legBest wt l0 0), .slice none 0 0] 59 (0, 0))) ∧ (∃ Ap cp, Aside0 (wx.heap[g4]? = some (.cells #[.slice Ap (legRest wd n l0).length cp] 27 (0, 0))) ∧ Aside0 (∀ W_, Kept w W_ (fun k_ => P0_ k_) → Kd.C k48 W_ Ap (legRest wd n l0).length (legRest wd n l0)) ∧ Aside0 ((legRest wd n l0).length ≤ cp)) ∧ Aside0 (wx.heap[g5]? = some (.cells #[.int .i64 n] 3 (0, 0))) ∧ Aside0 (Below w.heap.size w wx))
      case first =>
       cases hbq : bq with
       | true =>
        have hlen : 0 < l0.length := by
         cases l0 with
         | nil => rw [HBQ.out] at hbq; cases hbq
         | cons a l' => simp
        obtain ⟨y, hy⟩ : ∃ y, l0[0]? = some y := ⟨_, List.getElem?_eq_getElem hlen⟩
        have hsz : (wd y).length = y.f0.size := by rw [hwd]; exact size_data _
        have hl0 : ∃ l', l0 = y :: l' := by
         cases l0 with
         | nil => simp at hlen
         | cons a l' =>
          have h9 : a = y := by simpa using hy
          exact ⟨l', by rw [h9]⟩
        obtain ⟨ad, rfl, hv0, hv1⟩ := at_T48 (HR.out wc (Kept.of_below BC.out _)) 0 (Int.le_refl 0) (by omega)
        have hrd : rd_T48 l0 0 = y := by unfold rd_T48; rw [List.getD_eq_getElem?_getD, show (0 : Int).toNat = 0 from rfl, hy]; rfl
        have had : ad.add 0 = ad := by cases ad; simp [Addr.add]
        rw [hrd, show (0 : Int).toNat * 2 = 0 from rfl, had] at hv0 hv1
        have i5 := eq_true (show (0 : Int) < (l0.length : Int) by omega)
        have i6 := eq_true hlen

        have hs : (wd y).length = n := by obtain ⟨l', hl'⟩ := hl0; rw [HBQ.out, hl'] at hbq; exact of_decide_eq_true hbq
        have HLW := mk_ (show legWeight wd wt n l0 = y.f1 by obtain ⟨l', hl'⟩ := hl0; rw [hl']; show (if (wd y).length = n then wt y else 0) = _; rw [if_pos hs, hwt])
        have HLR := mk_ (show legRest wd n l0 = l0.drop 1 by obtain ⟨l', hl'⟩ := hl0; rw [hl']; show (if (wd y).length = n then l' else y :: l') = _; rw [if_pos hs]; rfl)
        have hl4 := (blk_cell K4.out 0).trans rfl
        have hf4 := blk_frozen K4.out 0
        have hc1 := (blk_cell K8.out 1).trans rfl
        have hf1 := blk_frozen K8.out 1
        have HAD := mk_ had
        have HL := mk_ hlen
        have hcc1 : 1 ≤ cc0 := Nat.le_trans hlen HC.out
        have s1 := eq_true (show (1 : Int) ≤ (l0.length : Int) by omega)
        have s2 := eq_true (show (l0.length : Int) ≤ (cc0 : Int) by have := HC.out; omega)
        have s3 := eq_true (show (0 : Int) ≤ (l0.length : Int) by omega)
        have s4 := eq_true hcc1
        have s5 := eq_true (show l0.length ≤ cc0 from HC.out)
        clear hs hy hsz hl0 hrd had hbq hlen
        go_upto_region 12 with fail
        obtain ⟨wD, hwD⟩ : ∃ wD, wD = wc.setCell ⟨g8, 1, none⟩ (.int .i64 y.f1) := ⟨_, rfl⟩
        have hD8 : wD.heap[g8]? = some (.cells #[.int .i64 (legLetter wd n l0), .int .i64 y.f1, .int .i64 (legBest wt l0 0), .slice none 0 0] 59 (0, 0)) := by rw [hwD]; exact blk_put (cs := #[.int .i64 (legLetter wd n l0), .int .i64 0, .int .i64 (legBest wt l0 0), .slice none 0 0]) K8.out 1 _ rfl
        have hD4 : wD.heap[g4]? = some (.cells #[.slice (some ad) l0.length cc0] 27 (0, 0)) := by rw [hwD]; exact blk_far K4.out (fun e_ => ne48.mp e_) _
        have hD5 : wD.heap[g5]? = some (.cells #[.int .i64 n] 3 (0, 0)) := by rw [hwD]; exact blk_far K5.out (fun e_ => ne58.mp e_) _
        have hDB : Below w.heap.size w wD := by rw [hwD]; exact below_set BC.out GE.out
        rw [← hwD]
        have D8 := mk_ hD8
        have D4 := mk_ hD4
        have D5 := mk_ hD5
        have DB := mk_ hDB
        clear hwD hD8 hD4 hD5 hDB K8 K4 K5 BC hl4 hf4 hc1 hf1 hv0 hv1 s1 s2 s3 s4 s5 i5 i6
        obtain ⟨L0, hL0⟩ : ∃ L0, L0 = l0.length := ⟨_, rfl⟩
        rw [← hL0] at D4
        have h4 := (blk_cell D4.out 0).trans rfl
        have h4f := blk_frozen D4.out 0
        have hHL : 0 < L0 := by rw [hL0]; exact HL.out
        have hHC : L0 ≤ cc0 := by rw [hL0]; exact HC.out
        have HL0 := mk_ hL0
        clear hL0
        have s1 := eq_true (show (1 : Int) ≤ (L0 : Int) by omega)
        have s1n := eq_true (show 1 ≤ L0 by omega)
        have s1p := eq_true hHL
        have s1z := eq_false (show ¬ L0 = 0 by omega)
        have s1i := eq_false (show ¬ (L0 : Int) < 1 by omega)
        have s1j := eq_false (show ¬ L0 < 1 by omega)
        have s2 := eq_true (show (L0 : Int) ≤ (cc0 : Int) by omega)
        have s2n := eq_true hHC
        have s3 := eq_true (show (0 : Int) ≤ (L0 : Int) by omega)
        have HHC := mk_ (And.intro hHL hHC)
        have HRL := mk_ (show (legRest wd n l0).length = L0 - 1 by rw [HLR.out, List.length_drop, HL0.out])
        have G4E := mk_ (show w.heap.size ≤ g4 from G45.out.1)
        have ne54 : (g5 = g4) = False := eq_false (fun e_ => by have := G45.out; omega)
        clear hHL hHC
        by_cases hcc : cc0 = 1
        ·have hcc1 := eq_true hcc
         have HCC := mk_ hcc
         clear hcc
         go_wp2_with fail
         go_meet
         refine ⟨⟨by rw [HLW.out]; exact blk_far D8.out (fun e_ => ne84.mp e_) _⟩, ⟨some ad, cc0 - 1, ⟨by rw [HRL.out]; exact blk_put (cs := #[.slice (some ad) L0 cc0]) D4.out 0 _ rfl⟩, ⟨fun W_ h_ => ?_⟩, ⟨by rw [HRL.out]; have := HHC.out; omega⟩⟩, ⟨blk_far D5.out (fun e_ => ne54.mp e_) _⟩, ⟨below_set DB.out G4E.out⟩⟩
         have h := Kd.C_drop (m := 1) (c := cc0) (HR.out W_ h_) (by rw [← HL0.out]; exact HHC.out.1) HC.out
         rw [if_pos HCC.out, ← HLR.out] at h
         exact h
        ·have hcc1 := eq_false hcc
         have HCC := mk_ hcc
         clear hcc
         go_wp2_with fail
         go_meet
         refine ⟨⟨by rw [HLW.out]; exact blk_far D8.out (fun e_ => ne84.mp e_) _⟩, ⟨some (ad.add 2), cc0 - 1, ⟨by rw [HRL.out]; exact blk_put (cs := #[.slice (some ad) L0 cc0]) D4.out 0 _ rfl⟩, ⟨fun W_ h_ => ?_⟩, ⟨by rw [HRL.out]; have := HHC.out; omega⟩⟩, ⟨blk_far D5.out (fun e_ => ne54.mp e_) _⟩, ⟨below_set DB.out G4E.out⟩⟩
         have h := Kd.C_drop (m := 1) (c := cc0) (HR.out W_ h_) (by rw [← HL0.out]; exact HHC.out.1) HC.out
         rw [if_neg HCC.out, ← HLR.out] at h
         exact h
       | false =>
        have HLW := mk_ (show legWeight wd wt n l0 = 0 by
         have h := HBQ.out
         rw [hbq] at h
         cases l0 with
         | nil => rfl
         | cons a l' => show (if (wd a).length = n then wt a else 0) = _; exact if_neg (of_decide_eq_false h.symm))
        have HLR := mk_ (show legRest wd n l0 = l0 by
         have h := HBQ.out
         rw [hbq] at h
         cases l0 with
         | nil => rfl
         | cons a l' => show (if (wd a).length = n then l' else a :: l') = _; exact if_neg (of_decide_eq_false h.symm))
        clear hbq
        go_wp2_with fail
        go_meet
        exact ⟨⟨by rw [HLW.out]; exact K8.out⟩, ⟨A0, cc0, ⟨by rw [HLR.out]; exact K4.out⟩, ⟨fun W_ h_ => by rw [HLR.out]; exact HR.out W_ h_⟩, ⟨by rw [HLR.out]; exact HC.out⟩⟩, K5, BC⟩
      case rest =>
       clear K8 K4 K5 BC
       obtain ⟨K8, ⟨A1, c1, K4, HR1, HC1⟩, K5, BC⟩ := hcut
       obtain ⟨L, hL⟩ : ∃ L, L = legLetter wd n l0 := ⟨_, rfl⟩
       obtain ⟨W, hW⟩ : ∃ W, W = legWeight wd wt n l0 := ⟨_, rfl⟩
       obtain ⟨B, hB⟩ : ∃ B, B = legBest wt l0 0 := ⟨_, rfl⟩
       rw [← hL, ← hW, ← hB] at K8
       have HLWB := mk_ (And.intro hL (And.intro hW hB))
       clear hL hW hB
       have hx0 : wc.cell? ⟨g8, 0, none⟩ = some (.int .i64 L) := (blk_cell K8.out 0).trans rfl
       have hx1 : wc.cell? ⟨g8, 1, none⟩ = some (.int .i64 W) := (blk_cell K8.out 1).trans rfl
       have hx2 : wc.cell? ⟨g8, 2, none⟩ = some (.int .i64 B) := (blk_cell K8.out 2).trans rfl
       have hx3 : wc.cell? ⟨g8, 3, none⟩ = some (.slice none 0 0) := (blk_cell K8.out 3).trans rfl
       have HS1 := mk_ (Kd.S_below HS.out BC.out)
       have HBw := mk_ (below_step HB.out BC.out)
       obtain ⟨wM, hwM⟩ : ∃ wM : World, wM = wc := ⟨_, rfl⟩
       obtain ⟨okQ, hokQ⟩ : ∃ okQ : Nat → Prop, okQ = fun k_ => (P0_ k_ ∧ k_ < w.heap.size) ∨ wM.heap.size ≤ k_ := ⟨_, rfl⟩
       have HQ0 := mk_ (show ∀ k_, P0_ k_ ∧ k_ < w.heap.size → okQ k_ from fun k_ h_ => by rw [hokQ]; exact Or.inl h_)
       have HQ1 := mk_ (show ∀ k_, wM.heap.size ≤ k_ → okQ k_ from fun k_ h_ => by rw [hokQ]; exact Or.inr h_)
       have HQ2 := mk_ (show ∀ k_, okQ k_ → P0_ k_ ∨ w.heap.size ≤ k_ from fun k_ h_ => by rw [hokQ] at h_; exact h_.elim (fun h_ => Or.inl h_.1) (fun h_ => Or.inr (Nat.le_trans (by rw [hwM]; exact BC.out.size) h_)))
       have HQ4 := mk_ (show ¬ okQ g4 from fun h_ => by rw [hokQ] at h_; have h1 := G45.out; have h2 := blk_lt K4.out; rw [← hwM] at h2; rcases h_ with h_ | h_ <;> omega)
       have HQ5 := mk_ (show ¬ okQ g5 from fun h_ => by rw [hokQ] at h_; have h1 := G45.out; have h2 := blk_lt K5.out; rw [← hwM] at h2; rcases h_ with h_ | h_ <;> omega)
       have HMS := mk_ (show w.heap.size ≤ wM.heap.size by rw [hwM]; exact BC.out.size)
       have HBCM := mk_ (show Below w.heap.size w wM by rw [hwM]; exact BC.out)
       rw [← hwM] at K4 K5 hx0 hx1 hx2 hx3 HS1 HBw ⊢
       clear hokQ hwM K8 BC
       have hmkL : ∀ W0 base ok, Kd.M k59 W0 base ok (mk L W B []) [.int .i64 L, .int .i64 W, .int .i64 B, .slice none 0 0] := by
        intro W0 base ok
        rw [hmk]
        exact k59_mkM W0 base ok (⟨L, W, B, []⟩ : S59) (Kd.R_nil _ _ _ _ _)
       have hinfo : (Try.prog.info? 59).map (fun i => (i.zero, i.size, i.bytes)) = some (some (.agg #[.int .i64 0, .int .i64 0, .int .i64 0, .slice none 0 0]), 4, 48) := by kernel_rfl
       go_wp2_with (first | ((with_reducible refine gate_builtin (b := .append) (xs := #[.tmp 59, .tmp 61]) rfl ?_); at_builtin; refine Kd.S_append k59 (w0 := w0) w0.heap.size rfl (.tmp 59) (.tmp 61) 24 59 (.agg #[.int .i64 0, .int .i64 0, .int .i64 0, .slice none 0 0]) 48 rfl Try.underlying24 hinfo rfl (by decide) (by omega) (.slice A2 l2.length c2) l2 (mk L W B []) [.int .i64 L, .int .i64 W, .int .i64 B, .slice none 0 0] okQ (fun _ => False) rfl rfl (hmkL _ _ _) (fun _ h_ => h_.elim) ?aF ?aO HBw.out HBw.out.size ?aL ?_; (case aF => exact HQ1.out); (case aO => exact Kd.S_mono HS1.out (fun k_ h_ => ⟨HQ0.out k_ h_, fun e_ => e_⟩)); (case aL => have := HM.out; omega); intro v1 w1 ho hb hg hat; have HS2 := mk_ ho; have HB2 := mk_ hb; have HK2 := mk_ (Kept.of_grown hg (Kept.refl wM (fun k_ => okQ k_ ∨ k_ = g4)) (fun k_ e_ => Or.inl (Or.inl (HQ0.out k_ ((Kd.S_R HS1.out).1 k_ e_))))); have KN4 := mk_ (blk_grown K4.out hg (fun e_ => by have := ((Kd.S_R HS1.out).1 g4 e_.symm).2; have := G45.out.1; omega)); clear ho hb hg hat))
       obtain ⟨F, hF⟩ : ∃ F : List S48 → Nat → List S59, F = fun g a => legsF wd wt mk k g (n + 1) a := ⟨_, rfl⟩
       have HF := mk_ hF
       obtain ⟨R, hR⟩ : ∃ R : List Int × List S59, R = foldK F l2.length (groups wd n (legRest wd n l0)) [] [] := ⟨_, rfl⟩
       have HRF := mk_ hR
       clear hF hR hx0 hx1 hx2 hx3 HS1 HBw hmkL hinfo
       go_loopg [0, 11] (legRest wd n l0).length (fun kq v0 v11 w' => ∃ (rs : List S48) (ks : List Int) (bs : List S59) (Ap : Option Addr) (cp : Nat), Aside0 (kq = rs.length) ∧ Aside0 (foldK F l2.length (groups wd n rs) ks bs = R) ∧ Aside0 (bs.length + rs.length * (k + 1) ≤ l0.length * (k + 1)) ∧ Aside0 (ks.length + rs.length ≤ l0.length) ∧ Aside0 (LegGood wd n rs) ∧ Aside0 (∀ y ∈ rs, n < (wd y).length) ∧ Aside0 (w'.heap[g4]? = some (.cells #[.slice Ap rs.length cp] 27 (0, 0))) ∧ Aside0 (∀ W_, Kept w W_ (fun k_ => P0_ k_) → Kd.C k48 W_ Ap rs.length rs) ∧ Aside0 (rs.length ≤ cp) ∧ Aside0 (Kd.S k59 59 w' w0.heap.size okQ v0 (l2 ++ mk L W B ks :: bs)) ∧ Aside0 (Below w0.heap.size w0 w') ∧ Aside0 (Kept wM w' (fun k_ => okQ k_ ∨ k_ = g4)))
       case atStart => exact ⟨legRest wd n l0, [], [], A1, c1, ⟨rfl⟩, ⟨HRF.out.symm⟩, ⟨by simpa using Nat.mul_le_mul_right (k + 1) (legRest_length (wd := wd) n l0)⟩, ⟨by simpa using legRest_length (wd := wd) n l0⟩, ⟨HG.out.sub (legRest_sub n l0)⟩, ⟨HG.out.rest_long⟩, KN4, HR1, HC1, HS2, HB2, HK2⟩
       case round =>
        clear K4 KN4 HS2 HB2 HK2 HR1 HC1
        obtain ⟨rs, ks, bs, Ap, cp, HKQ, HA, HBd, HKS, HGR, HLR, K4, HR1, HC1, HS2, HB2, HK2⟩ := hrel
        have HKW := mk_ (Kept.then_ (Kept.of_below HBCM.out (fun k_ => P0_ k_)) HK2.out (fun k_ h_ => h_.elim (HQ2.out k_) (fun e_ => Or.inr (by rw [e_]; exact G45.out.1))))
        have K5r := mk_ (blk_kept K5.out HK2.out (fun h_ => h_.elim HQ5.out (fun e_ => by have := G45.out.2.1; omega)))
        have hl4 := (blk_cell K4.out 0).trans rfl
        cases gk with
        | zero =>
         have hrs : rs = [] := List.eq_nil_of_length_eq_zero HKQ.out.symm
         subst hrs
         go_wp2_with fail
         go_ret
         have ha : (ks, bs) = R := HA.out
         have hs := Kd.S_mono (ok' := fun k_ => P0_ k_ ∨ w.heap.size ≤ k_) HS2.out (fun k_ h_ => HQ2.out k_ h_)
         have e : mk L W B ks :: bs = legsF wd wt mk (k + 1) l0 n l2.length := by
          have h1 : ks = R.1 := by rw [← ha]
          have h2 : bs = R.2 := by rw [← ha]
          rw [h1, h2, HRF.out, HF.out, HLWB.out.1, HLWB.out.2.1, HLWB.out.2.2]
          rfl
         rw [e] at hs
         exact ⟨_, rfl, hs, HB2.out, HKW.out⟩
        | succ k1 =>
         have hlen : 0 < rs.length := by have := HKQ.out; omega
         obtain ⟨y, hy⟩ : ∃ y, rs[0]? = some y := ⟨_, List.getElem?_eq_getElem hlen⟩
         obtain ⟨q, hq0, hq1, hqg, hqi⟩ := impl_legs.run wd n rs y hy
         obtain ⟨g2, cp2, e2, _, _, _⟩ := Kd.S_form HS2.out (by simp; omega)
         subst e2
         obtain ⟨N, hN⟩ : ∃ N, N = (l2 ++ mk L W B ks :: bs).length := ⟨_, rfl⟩
         have HN2 := mk_ hN
         rw [← hN] at HS2 ⊢
         obtain ⟨j, hj⟩ : ∃ j, j = idxF (fun x => !decide ((wd x).getD n 0 = (wd y).getD n 0)) rs 0 := ⟨_, rfl⟩
         rw [← hj] at hqi
         have HJ := mk_ hj
         have HY := mk_ hy
         have HQG := mk_ (And.intro hq0 (And.intro hq1 hqg))
         have HQI := mk_ hqi
         have d1 : decide (0 < (rs.length : Int)) = true := decide_eq_true (by omega)
         have d2 : decide (0 < rs.length) = true := decide_eq_true hlen
         clear hN hj hy hq0 hq1 hqg hqi hlen
         go_wp2_with fail
         have hl5 := (blk_cell K5r.out 0).trans rfl
         (with_reducible refine (slices_IndexFunc_impl_Entry.calls (fun x => !decide ((wd x).getD n 0 = (wd y).getD n 0)) 110 #[.pointer (some ⟨g5, 0, none⟩), .pointer (some ⟨g4, 0, none⟩)] Ap cp rs wr ?s1 ?s2 ?s3).mono ?_)
         case s1 => exact HR1.out wr HKW.out
         case s2 => exact fun args W => enters_ Try.func110 (by kernel_rfl) rfl args W
         case s3 =>
          intro x hx W_ hW_
          have hnx : n < x.f0.size := by have := HLR.out x hx; rw [hwd] at this; simpa using this
          have hny : n < y.f0.size := by have := HLR.out y (List.mem_of_getElem? HY.out); rw [hwd] at this; simpa using this
          refine calls_of_args ?_ ((impl_legs_1.calls x y n g4 g5 Ap cp rs W_ ((hW_.cell (World.block_lt_of_cell? wr _ hl5)).trans hl5) ((hW_.cell (World.block_lt_of_cell? wr _ hl4)).trans hl4) (Kd.C_below (HR1.out wr HKW.out) hW_) HY.out hnx hny (by have := HN.out; omega)).mono ?_)
          ·rfl
          ·rintro e w3 ⟨he, hb3⟩
           refine ⟨?_, hb3⟩
           rw [he, hwd]
         rintro e w1 ⟨he, hb1⟩
         rw [← HJ.out] at he
         subst he
         have K4I := mk_ (blk_below K4.out hb1)
         have K5I := mk_ (blk_below K5r.out hb1)
         have HSI := mk_ (Kd.S_below HS2.out hb1)
         have HBI := mk_ (below_step HB2.out hb1)
         have HKI := mk_ (Kept.below HK2.out hb1)
         have hl4 := (blk_cell K4I.out 0).trans rfl
         obtain ⟨wI, hwI⟩ : ∃ wI : World, wI = w1 := ⟨_, rfl⟩
         rw [← hwI] at K4I K5I HSI HBI HKI hl4 ⊢
         have HWI := mk_ hwI
         clear hb1 K4 K5r HS2 HB2 HK2 HKW hl5 hwI
         go_upto_if 70 with fail
         go_cut [11] (fun v11 wx => v11 = .int .i64 (q : Int) ∧ wx = wI)
         case first =>
          rcases HQI.out with ⟨hj, hqr⟩ | hj
          ·have dj : decide (j < 0) = true := decide_eq_true (by omega)
           have HQR := mk_ hqr
           clear hj hqr
           rw [dj]
           go_wp2_with fail
           go_meet
           exact ⟨by rw [HQR.out], rfl⟩
          ·have dj : decide (j < 0) = false := decide_eq_false (by omega)
           have HJQ := mk_ hj
           clear hj
           rw [dj]
           go_wp2_with fail
           go_meet
           exact ⟨by rw [HJQ.out], rfl⟩
         case rest =>
          obtain ⟨rfl, hwc⟩ := hcut
          subst hwc
          have hNl : l2.length < N := by rw [HN2.out, List.length_append, List.length_cons]; omega
          have t0 : (0 : Int) ≤ (l2.length : Int) := by omega
          have t1 : (l2.length : Int) < (N : Int) := by omega
          obtain ⟨oki, cs, _, hM, hcc, hfr, hoki, hH⟩ := Kd.S_elem HSI.out z59 (l2.length : Int) t0 t1
          rw [get_mid _ _ _ _ _ (by simp), hmk] at hM
          obtain ⟨ve, rfl, hRk⟩ := k59_openM hM
          obtain ⟨Ak, ck, rfl⟩ := Kd.R_slice hRk
          simp only [show (k59 : Kd S59).sz = 4 from rfl, Int.toNat_natCast] at hcc hfr
          have r3 := hcc 3 _ rfl
          have rf3 := hfr 3
          have HRk := mk_ hRk
          have HOK := mk_ hoki
          have HH := mk_ hH
          have s0 := eq_true t0
          have s1 := eq_true t1
          have HNN := mk_ hNl
          have hMax : N ≤ 1000000 := by have h1 := HM.out; have h2 := HBd.out; have h3 := HN2.out; rw [List.length_append, List.length_cons] at h3; omega
          have HMX := mk_ hMax
          have HK20 := mk_ (show ks.length ≤ 20 by have h1 := HKS.out; have h3 := HG.out.many; omega)
          have hinfo3 : (Try.prog.info? 3).map (fun i => (i.zero, i.size, i.bytes)) = some (some (.int .i64 0), 1, 8) := by kernel_rfl
          have HWQ := mk_ (show ∀ k_, wc.heap.size ≤ k_ → okQ k_ from fun k_ h_ => HQ1.out k_ (Nat.le_trans HKI.out.1 h_))
          clear hM hcc hfr hoki hH hRk hNl hMax
          go_upto_region 19 with (first | ((with_reducible refine gate_builtin (b := .append) (xs := #[.tmp 79, .tmp 82]) rfl ?_); at_builtin; refine Kd.R_append (Kd.int .i64) (w0 := w0) w0.heap.size rfl (.tmp 79) (.tmp 82) 57 3 (.int .i64 0) 8 rfl Try.underlying57 hinfo3 rfl (by decide) (by omega) (.slice Ak ks.length ck) ks (N : Int) [.int .i64 (N : Int)] (fun k_ => oki k_ ∨ okQ k_ ∧ wc.heap.size ≤ k_) (fun _ => False) rfl rfl rfl (fun _ hk => hk.elim) ?aF ?aO HBI.out HBI.out.size ?aL ?_; (case aF => exact fun k_ h_ => Or.inr ⟨HWQ.out k_ h_, h_⟩); (case aO => exact Kd.R_mono HRk.out (fun k_ h_ => Or.inl h_)); (case aL => have := HK20.out; omega); intro v3 w9 ho hb hg hat; obtain ⟨yk, hyk⟩ : ∃ yk : List Int, yk = ks ++ [(N : Int)] := ⟨_, rfl⟩; rw [← hyk] at ho; have HYK := mk_ hyk; obtain ⟨A9, c9, e9⟩ := Kd.R_slice ho; subst e9; have HR9 := mk_ ho; have B9 := mk_ hb; have HG9 := mk_ hg; have H9 := mk_ (Kd.H_grown (Kd.H_widen HH.out) hg (fun k_ e_ => Or.inl (HRk.out.1 k_ e_))); obtain ⟨h9c, h9f⟩ := Kd.H_at H9.out t0 t1; simp only [show (k59 : Kd S59).sz = 4 from rfl, Int.toNat_natCast] at h9c h9f; have u3 := h9c 3 _ rfl; have uf3 := h9f 3; clear h9c h9f ho hb hg hat hyk))
          have hM9 := k59_mkM _ _ _ (⟨L, W, B, yk⟩ : S59) HR9.out
          obtain ⟨hS11, hg11⟩ := Kd.S_seg0 H9.out t0 t1 (seg := [.slice A9 yk.length c9]) (j := 3) (show 3 + 1 ≤ 4 from by decide) hM9 (fun _ h_ => h_)
          rw [set_mid _ _ _ _ _ (by simp), List.append_assoc, show ([(⟨L, W, B, yk⟩ : S59)] ++ bs) = mk L W B yk :: bs by rw [hmk]; rfl] at hS11
          have hWW : w9.setCells g2 ((l2.length : Int).toNat * (k59 : Kd S59).sz + 3) [.slice A9 yk.length c9] = w9.setCell ⟨g2, l2.length * 4 + 3, none⟩ (.slice A9 yk.length c9) := rfl
          rw [hWW] at hS11 hg11
          have hQ2 : okQ g2 := (Kd.S_R HSI.out).1 _ rfl
          have n24 : g2 ≠ g4 := fun e_ => HQ4.out (e_ ▸ hQ2)
          have n25 : g2 ≠ g5 := fun e_ => HQ5.out (e_ ▸ hQ2)
          have hkA : ∀ k_, (Value.slice Ak ks.length ck).ownBlock = some k_ → okQ k_ := fun k_ e_ => (HOK.out k_ (HRk.out.1 k_ e_)).1
          have hk11 := Kept.of_grown hg11 (Kept.of_grown HG9.out HKI.out (fun k_ e_ => Or.inl (Or.inl (hkA k_ e_)))) (fun k_ e_ => by injection e_ with e_; subst e_; exact Or.inl (Or.inl hQ2))
          have hb11 := pw_below_grown B9.out (some g2) B9.out.size hg11 (fun k_ e_ => by injection e_ with e_; subst e_; exact Kd.S_base HSI.out _ rfl)
          have h411 := blk_far (p := ⟨g2, l2.length * 4 + 3, none⟩) (blk_grown K4I.out HG9.out (fun e_ => HQ4.out (hkA g4 e_.symm))) (fun e_ => n24 e_.symm) (.slice A9 yk.length c9)
          have h511 := blk_far (p := ⟨g2, l2.length * 4 + 3, none⟩) (blk_grown K5I.out HG9.out (fun e_ => HQ5.out (hkA g5 e_.symm))) (fun e_ => n25 e_.symm) (.slice A9 yk.length c9)
          obtain ⟨W11, hW11⟩ : ∃ W11, W11 = w9.setCell ⟨g2, l2.length * 4 + 3, none⟩ (.slice A9 yk.length c9) := ⟨_, rfl⟩
          rw [← hW11] at hS11 hk11 hb11 h411 h511 ⊢
          have HS11 := mk_ hS11
          have HK11 := mk_ hk11
          have HB11 := mk_ hb11
          have K411 := mk_ h411
          have K511 := mk_ h511
          clear hM9 hS11 hg11 hWW hQ2 n24 n25 hkA hk11 hb11 h411 h511 hW11 u3 uf3 r3 rf3 K4I K5I HKI HSI HBI H9 HG9 B9 HR9 HH HOK HRk hl4
          have HKW := mk_ (Kept.then_ (Kept.of_below HBCM.out (fun k_ => P0_ k_)) HK11.out (fun k_ h_ => h_.elim (HQ2.out k_) (fun e_ => Or.inr (by rw [e_]; exact G45.out.1))))
          obtain ⟨m, hm⟩ : ∃ m, m = rs.length := ⟨_, rfl⟩
          have HMR := mk_ hm
          rw [← hm] at K411
          have hqm : q ≤ m := by rw [hm]; exact HQG.out.2.1
          have hmc : m ≤ cp := by rw [hm]; exact HC1.out
          have hq0 := HQG.out.1
          obtain ⟨ad, rfl, _, _⟩ := at_T48 (HR1.out W11 HKW.out) 0 (Int.le_refl 0) (by rw [← hm]; omega)
          have hl4 := (blk_cell K411.out 0).trans rfl
          have hl5 := (blk_cell K511.out 0).trans rfl
          have s2 := eq_true (show (q : Int) ≤ (cp : Int) by omega)
          have s3 := eq_true (show q ≤ cp by omega)
          have s4 := eq_true (show (0 : Int) ≤ (q : Int) by omega)
          have s5 := eq_false (show ¬ cp = 0 by omega)
          have s6 := eq_false (show ¬ 0 = cp by omega)
          have HQM := mk_ (And.intro hqm hmc)
          clear hqm hmc hq0 hm
          go_still_tail 6, (by kernel_rfl)
          have HS11 := mk_ (Kd.S_drew HS11.out)
          have HK11 := mk_ (Kept.drew HK11.out)
          have HB11 := mk_ (below_drew HB11.out)
          have K411 := mk_ (blk_drew K411.out)
          have K511 := mk_ (blk_drew K511.out)
          have HKW := mk_ (Kept.drew HKW.out)
          clear hl4 hl5 s2 s3 s4 s5 s6
          obtain ⟨WD, hWD⟩ : ∃ WD, WD = W11.drew := ⟨_, rfl⟩
          rw [← hWD] at HS11 HK11 HB11 K411 K511 HKW
          change wpList _ _ _ _ _ W11.drew
          rw [← hWD]
          clear hWD
          obtain ⟨SUB, hSUB⟩ : ∃ SUB, SUB = rs.take q := ⟨_, rfl⟩
          have hsl : SUB.length = q := by rw [hSUB, List.length_take]; exact Nat.min_eq_left HQG.out.2.1
          have HSUB := mk_ hSUB
          have hw1 : wrap64 ((n : Int) + 1) = ((n + 1 : Nat) : Int) := by have := HN.out; unfold wrap64; omega
          have HNe := mk_ (show N = l2.length + (bs.length + 1) by rw [HN2.out, List.length_append, List.length_cons])
          have hm2 : rs.length * (k + 1) = (rs.length - q) * (k + 1) + q * (k + 1) := by rw [← Nat.add_mul]; congr 1; have := HQG.out.2.1; omega
          have hm1 : q * (k + 1) = q * k + q := Nat.mul_succ _ _
          have HMU := mk_ (show m * (k + 1) = (m - q) * (k + 1) + (q * k + q) by rw [HMR.out, ← hm1]; exact hm2)
          have HQ0P := mk_ HQG.out.1
          have hlr : legRest wd n rs = rs := by
           cases rs with
           | nil => rfl
           | cons a l =>
            show (if (wd a).length = n then l else a :: l) = _
            rw [if_neg (by have := HLR.out a (by simp); omega)]
          have hgs1 : LegGood wd (n + 1) SUB := HGR.out.group (by rw [hlr, HQG.out.2.2, hSUB]; exact List.mem_cons_self ..)
          have HGS := mk_ hgs1
          have HLRR := mk_ hlr
          clear hgs1 hlr hm1 hm2 hSUB
          go_wp2_with fail
          rw [show ((n : Int) + 1) = ((n + 1 : Nat) : Int) by omega]
          have h4_ : (l2 ++ mk L W B yk :: bs).length + 1 + SUB.length * k ≤ 1000000 := by
           rw [List.length_append, List.length_cons, hsl]
           have h1 := HM.out
           have h2 := HBd.out
           rw [← HMR.out] at h2
           have h3 := HMU.out
           have h4 := HQ0P.out
           omega
          have h5_ : 0 < n + 1 → SUB ≠ [] := by intro _ h_; rw [h_] at hsl; have := HQ0P.out; simp at hsl; omega
          have h6_ : ∀ W_, Kept WD W_ (fun k_ => okQ k_) → Kd.C k48 W_ (some ad) SUB.length SUB := fun W_ hk_ => by
           have h1 := HR1.out W_ (Kept.then_ HKW.out hk_ (fun k_ h_ => HQ2.out k_ h_))
           have h2 := Kd.C_take (m := q) h1 HQG.out.2.1
           rw [← HSUB.out] at h2
           exact h2
          have hih := ih.out okQ (.slice (some ⟨g2, 0, none⟩) N cp2) (l2 ++ mk L W B yk :: bs) (some ad) cp SUB (n + 1) w0 WD (by have := HN.out; omega) HGS.out h4_ h5_ HB11.out HS11.out h6_ (by rw [hsl]; have := HQM.out; omega)
          clear h4_ h5_ h6_
          rw [hsl] at hih
          (with_reducible refine hih.mono ?_)
          rintro e w12 ⟨v12, rfl, hs12, hb12, hk12⟩
          have hll : (l2 ++ mk L W B yk :: bs).length = N := by rw [HNe.out, List.length_append, List.length_cons]
          rw [hll, List.append_assoc, List.cons_append] at hs12
          have HS12 := mk_ (Kd.S_mono (ok' := okQ) hs12 (fun k_ h_ => h_.elim id (fun h_ => HQ1.out k_ (Nat.le_trans HK11.out.1 h_))))
          have HB12 := mk_ hb12
          have HK12 := mk_ (Kept.then_ HK11.out hk12 (fun _ h_ => Or.inl (Or.inl h_)))
          have K412 := mk_ (blk_kept K411.out hk12 HQ4.out)
          have HSL := mk_ hsl
          have h4 := (blk_cell K412.out 0).trans rfl
          have h4f := blk_frozen K412.out 0
          have hqm := HQM.out
          have s1 := eq_true (show (q : Int) ≤ (m : Int) by omega)
          have s1n := eq_true (show q ≤ m by omega)
          have s1i := eq_false (show ¬ (m : Int) < (q : Int) by omega)
          have s1j := eq_false (show ¬ m < q by omega)
          have s2 := eq_true (show (m : Int) ≤ (cp : Int) by omega)
          have s2n := eq_true (show m ≤ cp by omega)
          have s3 := eq_true (show (0 : Int) ≤ (m : Int) by omega)
          have s4 := eq_true (show (0 : Int) ≤ (q : Int) by omega)
          clear hs12 hb12 hk12 hsl hw1 hll hqm hih K411 K511 HS11 HB11 HK11
          by_cases hcc : cp = q
          ·have hcc1 := eq_true hcc
           have HCQ := mk_ hcc
           clear hcc
           go_wp2_with fail
           go_roundg (m - q)
           case measure => have := HKQ.out; have := HMR.out; have := HQ0P.out; omega
           case rel =>
            have hs := HS12.out
            have hF : legsF wd wt mk k SUB (n + 1) N = F SUB N := by rw [HF.out]
            rw [hF] at hs
            have hdl : (rs.drop q).length = m - q := by rw [List.length_drop, HMR.out]
            refine ⟨rs.drop q, yk, bs ++ F SUB N, some ad, cp - q, ⟨hdl.symm⟩, ⟨?_⟩, ⟨?_⟩, ⟨?_⟩, ⟨HGR.out.sub (List.drop_sublist _ _)⟩, ⟨fun y' h_ => HLR.out y' (List.mem_of_mem_drop h_)⟩, ⟨?_⟩, ⟨fun W_ h_ => ?_⟩, ⟨?_⟩, ⟨?_⟩, ⟨?_⟩, ⟨?_⟩⟩
            ·have ha := HA.out
             rw [HQG.out.2.2, ← HSUB.out] at ha
             have ha : foldK F l2.length (groups wd n (rs.drop q)) (ks ++ [((l2.length + 1 + bs.length : Nat) : Int)]) (bs ++ F SUB (l2.length + 1 + bs.length)) = R := ha
             rw [show l2.length + 1 + bs.length = N by rw [HNe.out]; omega] at ha
             rw [HYK.out]
             exact ha
            ·rw [List.length_append, ← hF, hdl]
             have h1 := legsF_le (wd := wd) (wt := wt) (mk := mk) k SUB (n + 1) N
             rw [HSL.out] at h1
             have h2 := HMU.out
             have h3 := HBd.out
             rw [← HMR.out] at h3
             have h4 := HQ0P.out
             omega
            ·rw [HYK.out, List.length_append, hdl]
             have h1 := HKS.out
             rw [← HMR.out] at h1
             have h2 := HQ0P.out
             have h3 := HQM.out
             show ks.length + 1 + (m - q) ≤ l0.length
             omega
            ·rw [hdl]
             exact blk_put (cs := #[.slice (some ad) m cp]) K412.out 0 _ rfl
            ·have h := Kd.C_drop (m := q) (c := cp) (HR1.out W_ h_) (by rw [← HMR.out]; exact HQM.out.1) HC1.out
             rw [if_pos HCQ.out] at h
             exact h
            ·rw [hdl]; have := HQM.out; omega
            ·exact Kd.S_far (p := ⟨g4, 0, none⟩) hs (fun k_ h_ e_ => HQ4.out (by have h9_ : k_ = g4 := e_; rw [← h9_]; exact h_)) _
            ·exact HB12.out.setCell (p := ⟨g4, 0, none⟩) (Nat.le_trans HB.out.size G45.out.1) _
            ·exact Kept.setCell (p := ⟨g4, 0, none⟩) HK12.out (Or.inl (Or.inr rfl)) _
          ·have hcc1 := eq_false hcc
           have HCQ := mk_ hcc
           clear hcc
           go_wp2_with fail
           go_roundg (m - q)
           case measure => have := HKQ.out; have := HMR.out; have := HQ0P.out; omega
           case rel =>
            have hs := HS12.out
            have hF : legsF wd wt mk k SUB (n + 1) N = F SUB N := by rw [HF.out]
            rw [hF] at hs
            have hdl : (rs.drop q).length = m - q := by rw [List.length_drop, HMR.out]
            refine ⟨rs.drop q, yk, bs ++ F SUB N, some (ad.add (q * 2)), cp - q, ⟨hdl.symm⟩, ⟨?_⟩, ⟨?_⟩, ⟨?_⟩, ⟨HGR.out.sub (List.drop_sublist _ _)⟩, ⟨fun y' h_ => HLR.out y' (List.mem_of_mem_drop h_)⟩, ⟨?_⟩, ⟨fun W_ h_ => ?_⟩, ⟨?_⟩, ⟨?_⟩, ⟨?_⟩, ⟨?_⟩⟩
            ·have ha := HA.out
             rw [HQG.out.2.2, ← HSUB.out] at ha
             have ha : foldK F l2.length (groups wd n (rs.drop q)) (ks ++ [((l2.length + 1 + bs.length : Nat) : Int)]) (bs ++ F SUB (l2.length + 1 + bs.length)) = R := ha
             rw [show l2.length + 1 + bs.length = N by rw [HNe.out]; omega] at ha
             rw [HYK.out]
             exact ha
            ·rw [List.length_append, ← hF, hdl]
             have h1 := legsF_le (wd := wd) (wt := wt) (mk := mk) k SUB (n + 1) N
             rw [HSL.out] at h1
             have h2 := HMU.out
             have h3 := HBd.out
             rw [← HMR.out] at h3
             have h4 := HQ0P.out
             omega
            ·rw [HYK.out, List.length_append, hdl]
             have h1 := HKS.out
             rw [← HMR.out] at h1
             have h2 := HQ0P.out
             have h3 := HQM.out
             show ks.length + 1 + (m - q) ≤ l0.length
             omega
            ·rw [hdl]
             exact blk_put (cs := #[.slice (some ad) m cp]) K412.out 0 _ rfl
            ·have h := Kd.C_drop (m := q) (c := cp) (HR1.out W_ h_) (by rw [← HMR.out]; exact HQM.out.1) HC1.out
             rw [if_neg HCQ.out] at h
             exact h
            ·rw [hdl]; have := HQM.out; omega
            ·exact Kd.S_far (p := ⟨g4, 0, none⟩) hs (fun k_ h_ e_ => HQ4.out (by have h9_ : k_ = g4 := e_; rw [← h9_]; exact h_)) _
            ·exact HB12.out.setCell (p := ⟨g4, 0, none⟩) (Nat.le_trans HB.out.size G45.out.1) _
            ·exact Kept.setCell (p := ⟨g4, 0, none⟩) HK12.out (Or.inl (Or.inr rfl)) _
    | succ k1 =>
     have hx := HX.out
     have hi := HI.out
     have p1 : x < (l0.length : Int) := by omega
     have p0 : 0 ≤ x := by omega
     have c1 : decide (x < (l0.length : Int)) = true := decide_eq_true p1
     have c0 : decide (0 ≤ x) = true := decide_eq_true p0
     obtain ⟨y, hy⟩ : ∃ y, l0[i]? = some y := ⟨_, List.getElem?_eq_getElem (by omega)⟩
     have HY := mk_ hy
     obtain ⟨ad, rfl, hx0, hx1⟩ := at_T48 (HR.out wr (Kept.of_below BC.out _)) x p0 p1
     have hrd : rd_T48 l0 x = y := by unfold rd_T48; rw [hx, Int.toNat_natCast, List.getD_eq_getElem?_getD, hy]; rfl
     rw [hrd] at hx0 hx1
     have HW := mk_ (show wrap64 (x + 1) = x + 1 from by have := HG.out.many; unfold wrap64; omega)
     obtain ⟨b, hb⟩ : ∃ b, b = legBest wt (l0.take i) 0 := ⟨_, rfl⟩
     have HBL := mk_ hb
     rw [← hb] at K8
     clear hb hx hi hy hrd
     go_wp2_with (first | ((with_reducible refine gate_dst (N := 10) rfl ?_); refine box_event sq_0 (N := 10) sq_0 (cs := #[.string ⟨#[]⟩, .int .i64 0]) (t := 48) sq_h ?_; intro g10 hg10 w4 hbox hb4; have B4 := mk_ (below_step BC.out hb4); have GE10 := mk_ (show w.heap.size ≤ g10 from by rw [hg10]; exact BC.out.size); have KK8 := mk_ (blk_below K8.out hb4); have KK4 := mk_ (blk_below K4.out hb4); have KK5 := mk_ (blk_below K5.out hb4); have ne1 : (g10 = g8) = False := eq_false (fun e_ => by have := blk_lt K8.out; omega); have ne2 : (g8 = g10) = False := eq_false (fun e_ => by have := blk_lt K8.out; omega); have ne3 : (g4 = g10) = False := eq_false (fun e_ => by have := blk_lt K4.out; omega); have ne4 : (g5 = g10) = False := eq_false (fun e_ => by have := blk_lt K5.out; omega); have he0 := (blk_cell hbox 0).trans rfl; have he1 := (blk_cell hbox 1).trans rfl; have hk0 := blk_frozen hbox 0; have hk1 := blk_frozen hbox 1; have hc2 := (blk_cell KK8.out 2).trans rfl; have hf2 := blk_frozen KK8.out 2; clear hg10 hbox hb4 K8 K4 K5 BC))
     all_goals
      go_roundg k1
      case measure => omega
      case rel =>
       have E3 : legBest wt (l0.take (i + 1)) 0 = max b y.f1 := by rw [legBest_take _ _ _ HY.out, ← HBL.out, hwt]
       refine ⟨i + 1, x + 1, by rw [HW.out], ⟨by have := HX.out; omega⟩, ⟨by have := HI.out; omega⟩, ⟨?_⟩, ⟨?_⟩, ⟨?_⟩, ⟨below_set (below_set (below_set B4.out GE10.out) GE10.out) GE.out⟩⟩
       ·first
         | (rw [E3]; refine blk_put (cs := #[.int .i64 (legLetter wd n l0), .int .i64 0, .int .i64 b, .slice none 0 0]) ?_ 2 _ rfl; exact blk_far (blk_far KK8.out (fun e_ => ne2.mp e_) _) (fun e_ => ne2.mp e_) _)
         | (rw [E3, show max b y.f1 = y.f1 by omega]; refine blk_put (cs := #[.int .i64 (legLetter wd n l0), .int .i64 0, .int .i64 b, .slice none 0 0]) ?_ 2 _ rfl; exact blk_far (blk_far KK8.out (fun e_ => ne2.mp e_) _) (fun e_ => ne2.mp e_) _)
         | (rw [E3, show max b y.f1 = b by omega]; refine blk_put (cs := #[.int .i64 (legLetter wd n l0), .int .i64 0, .int .i64 b, .slice none 0 0]) ?_ 2 _ rfl; exact blk_far (blk_far KK8.out (fun e_ => ne2.mp e_) _) (fun e_ => ne2.mp e_) _)
       ·exact blk_far (blk_far (blk_far KK4.out (fun e_ => ne3.mp e_) _) (fun e_ => ne3.mp e_) _) (fun e_ => ne48.mp e_) _
       ·exact blk_far (blk_far (blk_far KK5.out (fun e_ => ne4.mp e_) _) (fun e_ => ne4.mp e_) _) (fun e_ => ne58.mp e_) _
theorem impl_legs.walk (wd : S48 → List UInt8) (hwd : wd = fun x => x.f0.data.toList) (wt : S48 → Int) (hwt : wt = fun x => x.f1) (mk : Int → Int → Int → List Int → S59) (hmk : mk = fun a b c k => ⟨a, b, c, k⟩) (k : Nat) : impl_legs.At wd wt mk k := by
 induction k with
 | zero => exact fun _ _ _ _ _ _ _ _ _ hn hg _ _ _ _ _ _ => absurd hg.n12 (by omega)
 | succ k ih => exact impl_legs.step wd hwd wt hwt mk hmk k ih
theorem impl_legs.calls (P0_ : Nat → Prop) (u9000_ : Value) (l0 : List S59) (A1 : Option Addr) (c1 : Nat) (l1 : List S48) (a2 : Int) (r : List S59) (w0 w : World) (hB : Below w0.heap.size w0 w) (ho0 : Kd.S k59 59 w w0.heap.size P0_ u9000_ l0) (hr1 : ∀ W_, Kept w W_ (fun k_ => P0_ k_) → Kd.C k48 W_ A1 l1.length l1) (hc1 : l1.length ≤ c1) (h : impl_legs.f l0 l1 a2 = some r) :
  Calls Try.prog 85 #[u9000_, .slice A1 l1.length c1, .int .i64 a2] w fun e w' => ∃ v0_ : Value, e = .returned (v0_) ∧ Kd.S k59 59 w' w0.heap.size (fun k_ => (P0_ k_ ∨ w.heap.size ≤ k_)) v0_ r ∧ Below w0.heap.size w0 w' ∧ Kept w w' (fun k_ => P0_ k_) := by
 unfold impl_legs.f at h
 split at h
 ·rename_i hc
  have h := Option.some.inj h
  subst h
  have he : a2 = ((a2.toNat : Nat) : Int) := by omega
  have h13 := Nat.mul_le_mul_left l1.length (Nat.sub_le 13 a2.toNat)
  have h := impl_legs.walk (fun x : S48 => x.f0.data.toList) rfl (fun x => x.f1) rfl (fun a b c k => (⟨a, b, c, k⟩ : S59)) rfl (13 - a2.toNat) P0_ u9000_ l0 A1 c1 l1 a2.toNat w0 w (by have := hc.2.1.n12; omega) hc.2.1 (by omega) hc.2.2.1 hB ho0 hr1 hc1
  rw [← he] at h
  exact h
 ·cases h

/-! ### impl_build: function 45 -/
def impl_build.f (k : Nat) (l0 : List (S48)) : Option ((List (S59)) × Bool) := (impl_GoodEntries.f k l0).bind fun t120 => (if t120 = true then ((impl_legs.f ([] : List (S59)) l0 0).bind fun t121 => (if (t121.length : Int) > 120 then (some (([] : List (S59)), false)) else (some (t121, true)))) else (some (([] : List (S59)), false)))
theorem impl_build.mono : ∀ a0 k, LeO (impl_build.f k a0) (impl_build.f (k + 1) a0) := by
 intro a0 k
 unfold impl_build.f
 repeat' first
   | (with_reducible exact impl_GoodEntries.mono _ _)
   | (with_reducible exact LeO.refl _)
   | (with_reducible exact LeO.none _)
   | (with_reducible refine LeO.ite ?_ ?_)
   | (with_reducible refine LeO.bind ?_ (fun _ => ?_))
   | exact impl_GoodEntries.mono _ _
   | exact LeO.none _
   | refine LeO.ite ?_ ?_
   | refine LeO.bind ?_ (fun _ => ?_)
set_option maxHeartbeats 8000000 in
set_option maxRecDepth 100000 in
theorem impl_build.calls (k : Nat) (A0 : Option Addr) (c0 : Nat) (l0 : List (S48)) (r1 : List (S59)) (r2 : Bool) (w : World) (hr0 : Kd.C k48 w A0 l0.length l0) (hc0 : l0.length ≤ c0) (h : impl_build.f k l0 = some (r1, r2)) :
  Calls Try.prog 45 #[.slice A0 l0.length c0] w fun e w' => ∃ v0_ : Value, e = .returned (.tuple #[v0_, .bool r2]) ∧ Kd.S k59 59 w' w.heap.size (fun _ => True) v0_ r1 ∧ Below w.heap.size w w' := by
 have HR0 := mk_ hr0
 have HC0 := mk_ hc0
 clear hr0 hc0
 have HB := mk_ (Below.refl w.heap.size w)
 have H : ((impl_GoodEntries.f k l0).bind fun t120 => (if t120 = true then ((impl_legs.f ([] : List (S59)) l0 0).bind fun t121 => (if (t121.length : Int) > 120 then (some (([] : List (S59)), false)) else (some (t121, true)))) else (some (([] : List (S59)), false)))) = some (r1, r2) := h
 clear h
 replace H := Option.bind_eq_some_iff.mp H
 obtain ⟨t120, A20, H⟩ := H
 replace H : (if t120 = true then ((impl_legs.f ([] : List (S59)) l0 0).bind fun t121 => (if (t121.length : Int) > 120 then (some (([] : List (S59)), false)) else (some (t121, true)))) else (some (([] : List (S59)), false))) = some (r1, r2) := H
 have A2 := mk_ A20
 clear A20
 by_cases c3 : t120 = true
 ·subst c3
  have H1 : ((impl_legs.f ([] : List (S59)) l0 0).bind fun t121 => (if (t121.length : Int) > 120 then (some (([] : List (S59)), false)) else (some (t121, true)))) = some (r1, r2) := by rw [if_pos rfl] at H; exact H
  clear H
  have H := H1
  clear H1
  replace H := Option.bind_eq_some_iff.mp H
  obtain ⟨t121, A40, H⟩ := H
  replace H : (if (t121.length : Int) > 120 then (some (([] : List (S59)), false)) else (some (t121, true))) = some (r1, r2) := H
  have A4 := mk_ A40
  clear A40
  by_cases c5 : (t121.length : Int) > 120
  ·rw [if_pos c5] at H
   have c5b0 : decide (120 < (t121.length : Int)) = true := decide_eq_true c5
   have c5b1 : decide (120 < t121.length) = true := decide_eq_true (by omega)
   clear c5
   simp only [Option.some.injEq, Prod.mk.injEq] at H
   obtain ⟨rfl, rfl⟩ := H
   go_enter Try.func45, Try.ntmps45
   go_wp2_with (first | ((with_reducible refine gate_callee (f := 35) rfl ?_); refine goesL_ (some 6) rfl rfl Try.func35 (by kernel_rfl) rfl #[.slice A0 l0.length c0] rfl sq_a ?_; (with_reducible refine (impl_GoodEntries.calls k _ _ l0 true _ ?side1 ?side2 A2.out).mono ?_); (case side1 => exact sq_c HR0.out); (case side2 => exact HC0.out); rintro e w6 ⟨rfl, hb⟩; refine ⟨_, rfl, ?_⟩; have n0_ := mk_ (below_step sq_b hb); clear HB; have HB := n0_; clear n0_; (try clear hb)) | ((with_reducible refine gate_callee (f := 85) rfl ?_); refine goesL_ (some 9) rfl rfl Try.func85 (by kernel_rfl) rfl #[.slice none 0 0, .slice A0 l0.length c0, .int .i64 0] rfl sq_a ?_; (refine (impl_legs.calls (fun k_ => some k_ = (.slice none 0 0 : Value).ownBlock) (.slice none 0 0) ([] : List (S59)) _ _ l0 0 t121 w _ ?side1 ?side2 ?side3 ?side4 A4.out).mono ?_); (case side1 => repeat (first | (with_reducible first | exact HB.out | apply below_alloc | apply pw_below_drewN | apply below_drew1) | exact HB.out)); (case side2 => first | exact Kd.R_nil _ _ _ _ _ | exact Kd.S_nil _ _ _ _ _); (case side3 => exact Kd.C_kept_came k48_heap HR0.out sq_b (fun k_ hs_ => (fun e_ => by simp [Value.ownBlock] at e_) hs_)); (case side4 => exact HC0.out); rintro e w7 ⟨v122, rfl, ho0, hb, hkp⟩; refine ⟨_, rfl, ?_⟩; have n0_ := mk_ (Kd.S_mono (ok' := fun k_ => True) ho0 (fun k_ hk_ => trivial)); have n1_ := mk_ (hb); clear HB; have HO123 := n0_; have HB := n1_; clear n0_ n1_; (try clear hb); (try clear hkp); (try clear ho0); obtain ⟨Ao8, co8, eo8⟩ := Kd.S_slice HO123.out; subst eo8))
   go_ret2
   exact ⟨_, sq_w, by first | exact Kd.S_nil _ _ _ _ _ | exact Kd.N_nil _ _ _ _ _ | exact Kd.V_nil _ _ _ _ _ | exact Kd.Q_nil _ _ _ _ _ | exact Kd.R_nil _ _ _ _ _, sq_b⟩
  ·rw [if_neg c5] at H
   have c5b0 : decide (120 < (t121.length : Int)) = false := decide_eq_false c5
   have c5b1 : decide (120 < t121.length) = false := decide_eq_false (by omega)
   clear c5
   simp only [Option.some.injEq, Prod.mk.injEq] at H
   obtain ⟨rfl, rfl⟩ := H
   go_enter Try.func45, Try.ntmps45
   go_wp2_with (first | ((with_reducible refine gate_callee (f := 35) rfl ?_); refine goesL_ (some 6) rfl rfl Try.func35 (by kernel_rfl) rfl #[.slice A0 l0.length c0] rfl sq_a ?_; (with_reducible refine (impl_GoodEntries.calls k _ _ l0 true _ ?side1 ?side2 A2.out).mono ?_); (case side1 => exact sq_c HR0.out); (case side2 => exact HC0.out); rintro e w9 ⟨rfl, hb⟩; refine ⟨_, rfl, ?_⟩; have n0_ := mk_ (below_step sq_b hb); clear HB; have HB := n0_; clear n0_; (try clear hb)) | ((with_reducible refine gate_callee (f := 85) rfl ?_); refine goesL_ (some 9) rfl rfl Try.func85 (by kernel_rfl) rfl #[.slice none 0 0, .slice A0 l0.length c0, .int .i64 0] rfl sq_a ?_; (refine (impl_legs.calls (fun k_ => some k_ = (.slice none 0 0 : Value).ownBlock) (.slice none 0 0) ([] : List (S59)) _ _ l0 0 t121 w _ ?side1 ?side2 ?side3 ?side4 A4.out).mono ?_); (case side1 => repeat (first | (with_reducible first | exact HB.out | apply below_alloc | apply pw_below_drewN | apply below_drew1) | exact HB.out)); (case side2 => first | exact Kd.R_nil _ _ _ _ _ | exact Kd.S_nil _ _ _ _ _); (case side3 => exact Kd.C_kept_came k48_heap HR0.out sq_b (fun k_ hs_ => (fun e_ => by simp [Value.ownBlock] at e_) hs_)); (case side4 => exact HC0.out); rintro e w10 ⟨v122, rfl, ho0, hb, hkp⟩; refine ⟨_, rfl, ?_⟩; have n0_ := mk_ (Kd.S_mono (ok' := fun k_ => True) ho0 (fun k_ hk_ => trivial)); have n1_ := mk_ (hb); clear HB; have HO123 := n0_; have HB := n1_; clear n0_ n1_; (try clear hb); (try clear hkp); (try clear ho0); obtain ⟨Ao11, co11, eo11⟩ := Kd.S_slice HO123.out; subst eo11))
   go_ret2
   exact ⟨_, sq_w, sq_s HO123, sq_b⟩
 ·replace c3 := Bool.eq_false_iff.mpr c3
  subst c3
  have H1 : (some (([] : List (S59)), false)) = some (r1, r2) := by rw [if_neg (show ¬ (false = true) by decide)] at H; exact H
  clear H
  have H := H1
  clear H1
  simp only [Option.some.injEq, Prod.mk.injEq] at H
  obtain ⟨rfl, rfl⟩ := H
  go_enter Try.func45, Try.ntmps45
  go_wp2_with (first | ((with_reducible refine gate_callee (f := 35) rfl ?_); refine goesL_ (some 6) rfl rfl Try.func35 (by kernel_rfl) rfl #[.slice A0 l0.length c0] rfl sq_a ?_; (with_reducible refine (impl_GoodEntries.calls k _ _ l0 false _ ?side1 ?side2 A2.out).mono ?_); (case side1 => exact sq_c HR0.out); (case side2 => exact HC0.out); rintro e w12 ⟨rfl, hb⟩; refine ⟨_, rfl, ?_⟩; have n0_ := mk_ (below_step sq_b hb); clear HB; have HB := n0_; clear n0_; (try clear hb)))
  go_ret2
  exact ⟨_, sq_w, by first | exact Kd.S_nil _ _ _ _ _ | exact Kd.N_nil _ _ _ _ _ | exact Kd.V_nil _ _ _ _ _ | exact Kd.Q_nil _ _ _ _ _ | exact Kd.R_nil _ _ _ _ _, sq_b⟩

/-! ### impl_BuildLegs: function 14 -/
def impl_BuildLegs.f (k : Nat) (l0 : List (S48)) : Option ((List (S59)) × Bool) := (impl_build.f k l0).bind fun bt124 => (some (bt124.1, bt124.2))
theorem impl_BuildLegs.mono : ∀ a0 k, LeO (impl_BuildLegs.f k a0) (impl_BuildLegs.f (k + 1) a0) := by
 intro a0 k
 unfold impl_BuildLegs.f
 repeat' first
   | (with_reducible exact impl_build.mono _ _)
   | (with_reducible exact LeO.refl _)
   | (with_reducible exact LeO.none _)
   | (with_reducible refine LeO.ite ?_ ?_)
   | (with_reducible refine LeO.bind ?_ (fun _ => ?_))
   | exact impl_build.mono _ _
   | exact LeO.none _
   | refine LeO.ite ?_ ?_
   | refine LeO.bind ?_ (fun _ => ?_)
set_option maxHeartbeats 8000000 in
set_option maxRecDepth 100000 in
theorem impl_BuildLegs.calls (k : Nat) (A0 : Option Addr) (c0 : Nat) (l0 : List (S48)) (r1 : List (S59)) (r2 : Bool) (w : World) (hr0 : Kd.C k48 w A0 l0.length l0) (hc0 : l0.length ≤ c0) (h : impl_BuildLegs.f k l0 = some (r1, r2)) :
  Calls Try.prog 14 #[.slice A0 l0.length c0] w fun e w' => ∃ v0_ : Value, e = .returned (.tuple #[v0_, .bool r2]) ∧ Kd.S k59 59 w' w.heap.size (fun _ => True) v0_ r1 ∧ Below w.heap.size w w' := by
 have HR0 := mk_ hr0
 have HC0 := mk_ hc0
 clear hr0 hc0
 have HB := mk_ (Below.refl w.heap.size w)
 have H : ((impl_build.f k l0).bind fun bt124 => (some (bt124.1, bt124.2))) = some (r1, r2) := h
 clear h
 replace H := Option.bind_eq_some_iff.mp H
 obtain ⟨⟨t124, t125⟩, A20, H⟩ := H
 replace H : (some (t124, t125)) = some (r1, r2) := H
 have A2 := mk_ A20
 clear A20
 simp only [Option.some.injEq, Prod.mk.injEq] at H
 obtain ⟨rfl, rfl⟩ := H
 go_enter Try.func14, Try.ntmps14
 go_wp2_with (first | ((with_reducible refine gate_callee (f := 45) rfl ?_); refine goesL_ (some 5) rfl rfl Try.func45 (by kernel_rfl) rfl #[.slice A0 l0.length c0] rfl sq_a ?_; (with_reducible refine (impl_build.calls k _ _ l0 t124 t125 _ ?side1 ?side2 A2.out).mono ?_); (case side1 => exact sq_c HR0.out); (case side2 => exact HC0.out); rintro e w3 ⟨v126, rfl, ho0, hb⟩; refine ⟨_, rfl, ?_⟩; have n0_ := mk_ (Kd.S_lower ho0 (below_size sq_b)); have n1_ := mk_ (below_step sq_b hb); clear HB; have HO127 := n0_; have HB := n1_; clear n0_ n1_; (try clear hb); (try clear ho0)))
 go_ret2
 exact ⟨_, sq_w, sq_s HO127, sq_b⟩

end Go.Proofs.Ytkoackkimdanjaa.QFnLegs
