-- Written by this session's own program (wip/pp_patch.py, wip/pp.sh) out of the given translation. Not trusted: Lean checks it.
import Derived.Test.YtlohhmoaomlieaaQFnExactNearestOfx0
import Derived.Test.YtlohhmoaomlieaaQFnExactNearestOfx4
namespace Go.Proofs.Ytlohhmoaomlieaa.QFnExactNearestOf
open Go.RowKit Go.Proofs.YtlohhmoaomlieaaW.PrintWords Go.Proofs.YtlohhmoaomlieaaW.PrintLast Go.Proofs.YtlohhmoaomlieaaW.PrintMore
attribute [local go_sem] max2_int min2_int max_two min_two max_three min_three max_four min_four   -- for this text's walks alone
open Go.Proofs.Ytlohhmoaomlieaa.Ext
attribute [local go_sem high] ext_gtr ext_leq
set_option linter.unusedVariables false
set_option linter.unusedSimpArgs false

/-! ### spec_l12Kid: function 95 -/
def spec_l12Kid.l0 : Nat → Int → List Int → Int → Int → ByteArray → List Int → List Int → Option (Int)
 | 0, _, _, _, _, _, _, _ => none
 | k + 1, x1, x8, x9, x10, x170000, x170001, x170002 => if x10 < x9 then (if 0 ≤ x10 then (if x10 < (x8.length : Int) then (if (rd x8 x10) = x1 then (if x10 < (x170002.length : Int) then (some (rd x170002 x10)) else (none)) else (spec_l12Kid.l0 k x1 x8 x9 (wrap64 (x10 + 1)) x170000 x170001 x170002)) else (none)) else (none)) else (some (-1))
def spec_l12Kid.f (k : Nat) (a0_0 : ByteArray) (l0_1 : List Int) (l0_2 : List Int) (a1 : Int) : Option (Int) := spec_l12Kid.l0 k a1 l0_1 (l0_1.length : Int) 0 a0_0 l0_1 l0_2
theorem spec_l12Kid.mono_l : ∀ k, (∀ y0 y1 y2 y3 y4 y5 y6, LeO (spec_l12Kid.l0 k y0 y1 y2 y3 y4 y5 y6) (spec_l12Kid.l0 (k + 1) y0 y1 y2 y3 y4 y5 y6))
 | 0 => fun _ _ _ _ _ _ _ r h => by simp [spec_l12Kid.l0] at h
 | k + 1 => by
  have ih0 := spec_l12Kid.mono_l k
  ·intro y0 y1 y2 y3 y4 y5 y6
   unfold spec_l12Kid.l0
   repeat' first
   | (with_reducible exact ih0 _ _ _ _ _ _ _)
   | (with_reducible exact LeO.refl _)
   | (with_reducible exact LeO.none _)
   | (with_reducible refine LeO.ite ?_ ?_)
   | (with_reducible refine LeO.bind ?_ (fun _ => ?_))
   | exact ih0 _ _ _ _ _ _ _
   | exact LeO.none _
   | refine LeO.ite ?_ ?_
   | refine LeO.bind ?_ (fun _ => ?_)
theorem spec_l12Kid.mono : ∀ a0 a1 a2 a3 k, LeO (spec_l12Kid.f k a0 a1 a2 a3) (spec_l12Kid.f (k + 1) a0 a1 a2 a3) := by
 intro a0 a1 a2 a3 k
 have ih0 := spec_l12Kid.mono_l k
 unfold spec_l12Kid.f
 repeat' first
   | (with_reducible exact ih0 _ _ _ _ _ _ _)
   | (with_reducible exact LeO.refl _)
   | (with_reducible exact LeO.none _)
   | (with_reducible refine LeO.ite ?_ ?_)
   | (with_reducible refine LeO.bind ?_ (fun _ => ?_))
   | exact ih0 _ _ _ _ _ _ _
   | exact LeO.none _
   | refine LeO.ite ?_ ?_
   | refine LeO.bind ?_ (fun _ => ?_)
set_option maxHeartbeats 8000000 in
set_option maxRecDepth 100000 in
theorem spec_l12Kid.calls (k : Nat) (a0_0 : ByteArray) (A0_1 : Option Addr) (c0_1 : Nat) (l0_1 : List Int) (A0_2 : Option Addr) (c0_2 : Nat) (l0_2 : List Int) (a1 : Int) (r : Int) (w : World) (hr0_1 : Kd.C (Kd.int .i64) w A0_1 l0_1.length l0_1) (hc0_1 : l0_1.length ≤ c0_1) (hr0_2 : Kd.C (Kd.int .i64) w A0_2 l0_2.length l0_2) (hc0_2 : l0_2.length ≤ c0_2) (h : spec_l12Kid.f k a0_0 l0_1 l0_2 a1 = some r) :
  Calls Try.prog 95 #[.agg #[.string a0_0, .slice A0_1 l0_1.length c0_1, .slice A0_2 l0_2.length c0_2], .int .i64 a1] w fun e w' => e = .returned (.int .i64 r) ∧ Below w.heap.size w w' := by
 have hu62 := Try.underlying62
 have HR0_1 := Aside0.mk hr0_1
 have HC0_1 := Aside0.mk hc0_1
 clear hr0_1 hc0_1
 have HR0_2 := Aside0.mk hr0_2
 have HC0_2 := Aside0.mk hc0_2
 clear hr0_2 hc0_2
 have HB := Aside0.mk (Below.refl w.heap.size w)
 have H : (spec_l12Kid.l0 k a1 l0_1 (l0_1.length : Int) 0 a0_0 l0_1 l0_2) = some r := h
 clear h
 have H' := Aside0.mk H
 clear H
 go_enter Try.func95, Try.ntmps95
 go_wp2_with (first | ((with_reducible refine gate_dst (N := 2) rfl ?_); refine box_event ?hg (N := 2) ?hd (cs := #[.string a0_0, .slice A0_1 l0_1.length c0_1, .slice A0_2 l0_2.length c0_2]) (t := 62) ?hr ?_; (case hd => rfl); (case hg => rfl); (case hr => first | (go_simp; done) | (go_simp; rfl)); intro gb169 hg w3 hbox hb; have n0_ := Aside0.mk (below_step sq_b hb); have n1_ := Aside0.mk (hbox); have n2_ := Aside0.mk ((by rw [hg]; exact (below_size sq_b) : w.heap.size ≤ gb169)); have n3_ := Aside0.mk ((by rw [hg]; exact (below_size sq_b) : w.heap.size ≤ gb169)); clear HB; have HB := n0_; have BK169 := n1_; have GW169 := n2_; have GE169 := n3_; clear n0_ n1_ n2_ n3_; clear hb hbox hg; have hcz4_0 : w3.cell? ⟨gb169, 0, none⟩ = some (.string a0_0) := (blk_cell BK169.out 0).trans rfl; have hcz4_1 : w3.cell? ⟨gb169, 1, none⟩ = some (.slice A0_1 l0_1.length c0_1) := (blk_cell BK169.out 1).trans rfl; have hcz4_2 : w3.cell? ⟨gb169, 2, none⟩ = some (.slice A0_2 l0_2.length c0_2) := (blk_cell BK169.out 2).trans rfl; have hfz4_0 := blk_frozen BK169.out 0; have hfz4_1 := blk_frozen BK169.out 1; have hfz4_2 := blk_frozen BK169.out 2))
 go_loopg [10] k (fun kq v10 w' => ∃ (x10_1 : Int), v10 = .int .i64 x10_1 ∧ Aside0 (spec_l12Kid.l0 kq a1 l0_1 (l0_1.length : Int) x10_1 a0_0 l0_1 l0_2 = some r) ∧ Aside0 (kq ≤ k) ∧ Aside0 (w'.heap[gb169]? = some (.cells #[.string a0_0, (.slice A0_1 l0_1.length c0_1), (.slice A0_2 l0_2.length c0_2)] 62 (0, 0))) ∧ Aside0 (Below w.heap.size w w'))
 case atStart => exact ⟨(0), sq_e, H', ⟨Nat.le_refl _⟩, ⟨by (with_reducible repeat (first | refine blk_drewN ?_ _ | refine blk_drew ?_ | refine blk_alloc ?_ _)); exact BK169.out⟩, ⟨by repeat (first | (with_reducible first | exact HB.out | apply below_alloc | apply pw_below_drewN | apply below_drew1 | refine below_set ?_ GE169.out) | exact HB.out)⟩⟩
 case round =>
  clear H'
  (try clear p2); (try clear hcz4_0); (try clear hcz4_1); (try clear hcz4_2); (try clear hfz4_0); (try clear hfz4_1); (try clear hfz4_2)
  obtain ⟨x10_1, rfl, HA, HK1, BK169, HB⟩ := hrel
  cases gk with
  | zero => exact absurd HA.out (by simp [spec_l12Kid.l0])
  | succ k1 =>
   have H := HA.out
   clear HA
   simp only [spec_l12Kid.l0] at H
   by_cases c5 : x10_1 < (l0_1.length : Int)
   ·rw [if_pos c5] at H
    have c5b0 : decide (x10_1 < (l0_1.length : Int)) = true := decide_eq_true c5
    clear c5
    by_cases c6 : 0 ≤ x10_1
    rotate_left
    ·rw [if_neg c6] at H
     exact absurd H (by simp)
    rw [if_pos c6] at H
    have c6b0 : decide (0 ≤ x10_1) = true := decide_eq_true c6
    clear c6
    by_cases c7 : x10_1 < (l0_1.length : Int)
    rotate_left
    ·rw [if_neg c7] at H
     exact absurd H (by simp)
    rw [if_pos c7] at H
    have c7b0 : decide (x10_1 < (l0_1.length : Int)) = true := decide_eq_true c7
    clear c7
    by_cases c8 : (rd l0_1 x10_1) = a1
    ·rw [if_pos c8] at H
     have c8b0 : ((rd l0_1 x10_1) == a1) = true := beq_iff_eq.mpr c8
     have c8b1 : ((rd l0_1 x10_1) != a1) = false := bne_eq_false_iff_eq.mpr c8
     clear c8
     by_cases c9 : x10_1 < (l0_2.length : Int)
     rotate_left
     ·rw [if_neg c9] at H
      exact absurd H (by simp)
     rw [if_pos c9] at H
     have c9b0 : decide (x10_1 < (l0_2.length : Int)) = true := decide_eq_true c9
     clear c9
     obtain rfl := Option.some.inj H
     have p170 : 0 ≤ (x10_1 : Int) := sq_d
     have q170 : x10_1 < (l0_1.length : Int) := sq_d
     obtain ⟨ad170, e170, hx170_0⟩ := Kd.at_int HR0_1.out x10_1 p170 q170
     cases e170
     try replace hx170_0 := (HB.out.cell (World.block_lt_of_cell? w _ hx170_0)).trans hx170_0
     replace p170 := eq_true p170
     replace q170 := eq_true q170
     have hcz10_0 : wr.cell? ⟨gb169, 0, none⟩ = some (.string a0_0) := (blk_cell BK169.out 0).trans rfl
     have hcz10_1 : wr.cell? ⟨gb169, 1, none⟩ = some (.slice (some ad170) l0_1.length c0_1) := (blk_cell BK169.out 1).trans rfl
     have hcz10_2 : wr.cell? ⟨gb169, 2, none⟩ = some (.slice A0_2 l0_2.length c0_2) := (blk_cell BK169.out 2).trans rfl
     have hfz10_0 := blk_frozen BK169.out 0
     have hfz10_1 := blk_frozen BK169.out 1
     have hfz10_2 := blk_frozen BK169.out 2
     have p171 : 0 ≤ (x10_1 : Int) := sq_d
     have q171 : x10_1 < (l0_2.length : Int) := sq_d
     obtain ⟨ad171, e171, hx171_0⟩ := Kd.at_int HR0_2.out x10_1 p171 q171
     cases e171
     try replace hx171_0 := (HB.out.cell (World.block_lt_of_cell? w _ hx171_0)).trans hx171_0
     replace p171 := eq_true p171
     replace q171 := eq_true q171
     go_wp2
     go_ret
     exact ⟨sq_w, by repeat (first | (with_reducible first | exact HB.out | apply below_alloc | apply pw_below_drewN | apply below_drew1 | refine below_set ?_ GE169.out) | exact HB.out)⟩
    ·rw [if_neg c8] at H
     have c8b0 : ((rd l0_1 x10_1) == a1) = false := beq_eq_false_iff_ne.mpr c8
     have c8b1 : ((rd l0_1 x10_1) != a1) = true := bne_iff_ne.mpr c8
     have H' := Aside0.mk H
     clear H
     have p170 : 0 ≤ (x10_1 : Int) := sq_d
     have q170 : x10_1 < (l0_1.length : Int) := sq_d
     obtain ⟨ad170, e170, hx170_0⟩ := Kd.at_int HR0_1.out x10_1 p170 q170
     cases e170
     try replace hx170_0 := (HB.out.cell (World.block_lt_of_cell? w _ hx170_0)).trans hx170_0
     replace p170 := eq_true p170
     replace q170 := eq_true q170
     go_wp2
     go_roundg k1
     case measure => have := HK1.out; omega
     case rel => exact ⟨(wrap64 (x10_1 + 1)), sq_e, H', ⟨by have := HK1.out; omega⟩, ⟨by (with_reducible repeat (first | refine blk_drewN ?_ _ | refine blk_drew ?_ | refine blk_alloc ?_ _)); exact BK169.out⟩, ⟨by repeat (first | (with_reducible first | exact HB.out | apply below_alloc | apply pw_below_drewN | apply below_drew1 | refine below_set ?_ GE169.out) | exact HB.out)⟩⟩
   ·rw [if_neg c5] at H
    have c5b0 : decide (x10_1 < (l0_1.length : Int)) = false := decide_eq_false c5
    clear c5
    obtain rfl := Option.some.inj H
    go_wp2
    go_ret
    exact ⟨sq_w, by repeat (first | (with_reducible first | exact HB.out | apply below_alloc | apply pw_below_drewN | apply below_drew1 | refine below_set ?_ GE169.out) | exact HB.out)⟩

/-! ### spec_l12Put: function 79 (by hand) -/
def spec_l12Put.go (k : Nat) (l : List S62) (w : ByteArray) : Nat → Nat → Option (Nat × Int)
 | 0, _ => none
 | m + 1, at_ => match l[at_]? with
  | none => none
  | some x => (spec_l12Far.f k x.f0 w).bind fun d => (spec_l12Kid.f k x.f0 x.f1 x.f2 d).bind fun q => if 0 ≤ q then spec_l12Put.go k l w m q.toNat else some (at_, d)
def spec_l12Put.ins (x : S62) (d n : Int) : S62 := ⟨x.f0, x.f1.take (placeL d x.f1) ++ [d] ++ x.f1.drop (placeL d x.f1), x.f2.take (placeL d x.f1) ++ [n] ++ x.f2.drop (placeL d x.f1)⟩
def spec_l12Put.f (k : Nat) (l0 : List S62) (a1 : ByteArray) : Option (List S62) := if l0 = [] then some [⟨a1, [], []⟩] else
 if l0.length < 1000000 then (spec_l12Put.go k l0 a1 k 0).bind fun p => (l0[p.1]?).bind fun x => if x.f1.length < 1000000 ∧ x.f2.length < 1000000 ∧ placeL p.2 x.f1 ≤ x.f2.length then some (l0.set p.1 (spec_l12Put.ins x p.2 l0.length) ++ [⟨a1, [], []⟩]) else none else none
theorem spec_l12Put.go_some {k : Nat} {l : List S62} {w : ByteArray} : ∀ (m at_ : Nat) (p : Nat × Int), spec_l12Put.go k l w m at_ = some p → ∃ x, l[at_]? = some x ∧ ∃ d, spec_l12Far.f k x.f0 w = some d ∧ ∃ q, spec_l12Kid.f k x.f0 x.f1 x.f2 d = some q ∧ ((0 ≤ q ∧ ∃ m', m = m' + 1 ∧ spec_l12Put.go k l w m' q.toNat = some p) ∨ (q < 0 ∧ p = (at_, d)))
 | 0, _, _, h => by simp [spec_l12Put.go] at h
 | m + 1, at_, p, h => by
  unfold spec_l12Put.go at h
  cases hx : l[at_]? with
  | none => rw [hx] at h; cases h
  | some x =>
   rw [hx] at h
   obtain ⟨d, hd, h⟩ := Option.bind_eq_some_iff.mp h
   obtain ⟨q, hq, h⟩ := Option.bind_eq_some_iff.mp h
   refine ⟨x, rfl, d, hd, q, hq, ?_⟩
   split at h
   ·exact .inl ⟨by assumption, m, rfl, h⟩
   ·exact .inr ⟨by omega, (Option.some.inj h).symm⟩
theorem spec_l12Put.go_mono (l : List S62) (w : ByteArray) (k : Nat) : ∀ (m at_ : Nat), LeO (spec_l12Put.go k l w m at_) (spec_l12Put.go (k + 1) l w (m + 1) at_)
 | 0, _ => LeO.none _
 | m + 1, at_ => by
  unfold spec_l12Put.go
  cases l[at_]? with
  | none => exact LeO.none _
  | some x => exact LeO.bind (spec_l12Far.mono _ _ _) (fun _ => LeO.bind (spec_l12Kid.mono _ _ _ _ _) (fun q => LeO.ite (spec_l12Put.go_mono l w k m _) (LeO.refl _)))
theorem spec_l12Put.mono : ∀ a0 a1 k, LeO (spec_l12Put.f k a0 a1) (spec_l12Put.f (k + 1) a0 a1) := by
 intro a0 a1 k
 unfold spec_l12Put.f
 exact LeO.ite (LeO.refl _) (LeO.ite (LeO.bind (spec_l12Put.go_mono a0 a1 k k 0) (fun _ => LeO.refl _)) (LeO.none _))
theorem spec_l12Put.at_ {W : World} {g : Nat} {l : List S62} (h : Kd.C k62 W (some ⟨g, 0, none⟩) l.length l) {i : Nat} {x : S62} (hx : l[i]? = some x) : ∃ A1 c1 A2 c2, W.cell? ⟨g, i * 3, none⟩ = some (.string x.f0) ∧ W.cell? ⟨g, i * 3 + 1, none⟩ = some (.slice A1 x.f1.length c1) ∧ W.cell? ⟨g, i * 3 + 2, none⟩ = some (.slice A2 x.f2.length c2) ∧ x.f1.length ≤ c1 ∧ (Kd.int .i64).C W A1 x.f1.length x.f1 ∧ x.f2.length ≤ c2 ∧ (Kd.int .i64).C W A2 x.f2.length x.f2 := by
 have hi : i < l.length := (List.getElem?_eq_some_iff.1 hx).1
 obtain ⟨ad, c, e, _, hK, hc⟩ := Kd.C_get h z62 (i : Int) (by omega) (by omega)
 injection e with e
 subst e
 rw [Int.toNat_natCast] at hK hc
 have hz : l.getD i z62 = x := by rw [List.getD_eq_getElem?_getD, hx]; rfl
 rw [hz] at hK
 obtain ⟨A1, c1, A2, c2, rfl, l1, g1, l2, g2⟩ := k62_open hK
 have h0 := hc 0 _ rfl
 have h1 := hc 1 _ rfl
 have h2 := hc 2 _ rfl
 rw [add_at, Nat.zero_add] at h0 h1 h2
 exact ⟨A1, c1, A2, c2, h0, h1, h2, l1, g1, l2, g2⟩
set_option maxHeartbeats 8000000 in
set_option maxRecDepth 100000 in
theorem spec_l12Put.calls (k : Nat) (P0_ : Nat → Prop) (u9000_ : Value) (l0 : List S62) (a1 : ByteArray) (r : List S62) (w0 w : World) (hB : Below w0.heap.size w0 w) (ho0 : Kd.S k62 62 w w0.heap.size P0_ u9000_ l0) (h : spec_l12Put.f k l0 a1 = some r) :
  Calls Try.prog 79 #[u9000_, .string a1] w fun e w' => ∃ v0_ : Value, e = .returned (v0_) ∧ Kd.S k62 62 w' w0.heap.size (fun k_ => (P0_ k_ ∨ w.heap.size ≤ k_)) v0_ r ∧ Below w0.heap.size w0 w' ∧ Kept w w' (fun k_ => P0_ k_) := by
 obtain ⟨A, c, rfl⟩ := Kd.S_slice ho0
 have HB := Aside0.mk hB
 have HS := Aside0.mk ho0
 clear hB ho0
 by_cases hl0 : l0 = []
 ·subst hl0
  unfold spec_l12Put.f at h
  rw [if_pos rfl] at h
  have h := Option.some.inj h
  subst h
  go_enter Try.func79, Try.ntmps79
  go_wp2_with (first | ((with_reducible refine gate_dst (N := 17) rfl ?_); refine Kd.S_lit k62 (w0 := w0) w0.heap.size 62 ?hg (N := 17) ?hd (xs := [(⟨a1, [], []⟩ : S62)]) (inner := [.string a1, .slice none 0 0, .slice none 0 0]) (ok := fun k_ => P0_ k_ ∨ w.heap.size ≤ k_) (okp := fun _ => False) ?hr ?hp (fun _ h_ => h_.elim) (Or.inr (Nat.le_refl _)) HB.out HB.out.size (by simp) ?_; (case hd => rfl); (case hg => rfl); (case hr => first | (go_simp; done) | (go_simp; rfl)); (case hp => exact (Reps.c3 (k62_mk0 _ _ _ a1) (Reps.none _ _))); intro v1 w1 ho hb hg hat; have HO1 := Aside0.mk ho; have HB1 := Aside0.mk hb; have HK1 := Aside0.mk (Kept.of_grown hg (Kept.refl w P0_) (fun k_ e_ => by cases e_)); clear ho hb hg hat))
  go_ret
  exact ⟨_, rfl, HO1.out, HB1.out, HK1.out⟩
 ·have hpos : 0 < l0.length := List.length_pos_iff.2 hl0
  obtain ⟨g, cap, e, hgb, _, _⟩ := Kd.S_form HS.out hpos
  injection e with e1 e3 e2
  clear e3
  subst e1; subst e2
  unfold spec_l12Put.f at h
  rw [if_neg hl0] at h
  by_cases hlen : l0.length < 1000000
  rotate_left
  ·rw [if_neg hlen] at h; cases h
  rw [if_pos hlen] at h
  obtain ⟨⟨AT, D⟩, hgo, h⟩ := Option.bind_eq_some_iff.mp h
  obtain ⟨x, hx, h⟩ := Option.bind_eq_some_iff.mp h
  dsimp only at hx h
  by_cases hc : x.f1.length < 1000000 ∧ x.f2.length < 1000000 ∧ placeL D x.f1 ≤ x.f2.length
  rotate_left
  ·rw [if_neg hc] at h; cases h
  rw [if_pos hc] at h
  have h := Option.some.inj h
  subst h
  obtain ⟨x0, hx0, d0, hd0, q0, hq0, hcase⟩ := spec_l12Put.go_some _ _ _ hgo
  have HX := Aside0.mk hx
  have HL := Aside0.mk (And.intro hlen hc)
  have HGB := Aside0.mk hgb
  have HC0 := Aside0.mk (show (0 ≤ q0 ∧ ∃ m', k = m' + 1 ∧ spec_l12Put.go k l0 a1 m' q0.toNat = some (AT, D)) ∨ (q0 < 0 ∧ (AT, D) = (0, d0)) from hcase)
  have hC := (Kd.S_reads' HS.out).2.2
  obtain ⟨A1, c1, A2, c2, r0, r1, r2, l1, C1, l2, C2⟩ := spec_l12Put.at_ hC hx0
  rw [Nat.zero_mul] at r0
  rw [Nat.zero_mul, Nat.zero_add] at r1 r2
  have p0 := eq_true (show (0 : Int) < (l0.length : Int) by omega)
  have p0n := eq_true hpos
  have pz := eq_false (show ¬ l0.length = 0 by omega)
  have pb : ((l0.length : Int) == 0) = false := beq_eq_false_iff_ne.mpr (by omega)
  have C1' := Aside0.mk C1
  have C2' := Aside0.mk C2
  clear hx hlen hc hgb hgo hcase hx0 hC C1 C2 hl0
  go_enter Try.func79, Try.ntmps79
  go_wp2_with fail
  (with_reducible refine (spec_l12Far.calls k x0.f0 a1 d0 _ hd0).mono ?_)
  rintro e wA ⟨rfl, hbA⟩
  have r0 := (hbA.cell (World.block_lt_of_cell? w _ r0)).trans r0
  have r1 := (hbA.cell (World.block_lt_of_cell? w _ r1)).trans r1
  have r2 := (hbA.cell (World.block_lt_of_cell? w _ r2)).trans r2
  go_wp2_with fail
  (with_reducible refine (spec_l12Kid.calls k x0.f0 A1 c1 x0.f1 A2 c2 x0.f2 d0 q0 _ (Kd.C_below C1'.out hbA) l1 (Kd.C_below C2'.out hbA) l2 hq0).mono ?_)
  rintro e wB ⟨rfl, hbB⟩
  have BB := Aside0.mk (below_step hbA hbB)
  clear hbA hbB r0 r1 r2 l1 l2 C1' C2' hd0 hq0 p0 p0n pz pb
  go_wp2_with fail
  go_loopg [5, 6, 7] k (fun kq v5 v6 v7 w' => ∃ (at_ : Nat) (d q : Int), v5 = .int .i64 at_ ∧ v6 = .int .i64 d ∧ v7 = .int .i64 q ∧ Aside0 ((0 ≤ q ∧ ∃ m, m ≤ kq ∧ spec_l12Put.go k l0 a1 m q.toNat = some (AT, D)) ∨ (q < 0 ∧ at_ = AT ∧ d = D)) ∧ Aside0 (Below w.heap.size w w'))
  case atStart =>
   refine ⟨0, d0, q0, rfl, rfl, rfl, ⟨?_⟩, BB⟩
   rcases HC0.out with ⟨h1, m', e_, h2⟩ | ⟨h1, h2⟩
   ·exact .inl ⟨h1, m', by omega, h2⟩
   ·injection h2 with h2 h3
    exact .inr ⟨h1, h2.symm, h3.symm⟩
  case round =>
   clear BB HC0
   obtain ⟨at_, d, q, rfl, rfl, rfl, HG, BR⟩ := hrel
   rcases HG.out with ⟨hq0, m, hm, hgo⟩ | ⟨hqn, rfl, rfl⟩
   ·obtain ⟨n, rfl⟩ : ∃ n : Nat, q = (n : Int) := ⟨q.toNat, by omega⟩
    rw [Int.toNat_natCast] at hgo
    obtain ⟨y, hy, d', hd', q', hq', hcase⟩ := spec_l12Put.go_some _ _ _ hgo
    cases m with
    | zero => simp [spec_l12Put.go] at hgo
    | succ m =>
     have hn : n < l0.length := (List.getElem?_eq_some_iff.1 hy).1
     have hC := (Kd.S_reads' (Kd.S_below HS.out BR.out)).2.2
     obtain ⟨A1, c1, A2, c2, r0, r1, r2, l1, C1, l2, C2⟩ := spec_l12Put.at_ hC hy
     have p0 := eq_true (show (n : Int) < (l0.length : Int) by omega)
     have p0n := eq_true hn
     have pq : decide (0 ≤ (n : Int)) = true := decide_eq_true (by omega)
     have HCS := Aside0.mk (show (0 ≤ q' ∧ ∃ m', m' ≤ m ∧ spec_l12Put.go k l0 a1 m' q'.toNat = some (AT, D)) ∨ (q' < 0 ∧ n = AT ∧ d' = D) from by
      rcases hcase with ⟨h1, m', e_, h2⟩ | ⟨h1, h2⟩
      ·exact .inl ⟨h1, m', by omega, h2⟩
      ·injection h2 with h2 h3
       exact .inr ⟨h1, h2.symm, h3.symm⟩)
     have HM := Aside0.mk hm
     have C1' := Aside0.mk C1
     have C2' := Aside0.mk C2
     clear hm hcase hgo hC hy hn HG hq0 C1 C2
     go_wp2_with fail
     (with_reducible refine (spec_l12Far.calls k y.f0 a1 d' _ hd').mono ?_)
     rintro e wA ⟨rfl, hbA⟩
     have r0 := (hbA.cell (World.block_lt_of_cell? wr _ r0)).trans r0
     have r1 := (hbA.cell (World.block_lt_of_cell? wr _ r1)).trans r1
     have r2 := (hbA.cell (World.block_lt_of_cell? wr _ r2)).trans r2
     go_wp2_with fail
     (with_reducible refine (spec_l12Kid.calls k y.f0 A1 c1 y.f1 A2 c2 y.f2 d' q' _ (Kd.C_below C1'.out hbA) l1 (Kd.C_below C2'.out hbA) l2 hq').mono ?_)
     rintro e wB ⟨rfl, hbB⟩
     have BB := Aside0.mk (below_step (below_step BR.out hbA) hbB)
     clear hbA hbB r0 r1 r2 l1 l2 C1' C2' hd' hq' p0 p0n pq BR
     go_wp2_with fail
     go_roundg m
     case measure => have := HM.out; omega
     case rel => exact ⟨n, d', q', rfl, rfl, rfl, HCS, BB⟩
   ·have hxl : at_ < l0.length := (List.getElem?_eq_some_iff.1 HX.out).1
    have HSr := Aside0.mk (Kd.S_below (Kd.S_mono (Kd.S_bound HS.out) (fun k_ h_ => (⟨h_.1, h_.2.2.1⟩ : P0_ k_ ∧ k_ < w.heap.size))) BR.out)
    have hC := (Kd.S_reads' HSr.out).2.2
    obtain ⟨A1, c1, A2, c2, r0, r1, r2, l1, C1, l2, C2⟩ := spec_l12Put.at_ hC HX.out
    have HXL := Aside0.mk hxl
    have p0 := eq_true (show (at_ : Int) < (l0.length : Int) by omega)
    have p0n := eq_true hxl
    have pq : decide (0 ≤ q) = false := decide_eq_false (by omega)
    have hinfo3 : (Try.prog.info? 3).map (fun i => (i.zero, i.size, i.bytes)) = some (some (.int .i64 0), 1, 8) := by kernel_rfl
    have HL1 := Aside0.mk l1
    have HL2 := Aside0.mk l2
    have HC1 := Aside0.mk C1
    have HC2 := Aside0.mk C2
    clear hxl HG hqn hC C1 C2 l1 l2
    go_wp2_with (first | ((with_reducible refine gate_dst (N := 8) rfl ?_); refine box_event ?hg (N := 8) ?hd (cs := #[.string ⟨#[]⟩, .slice none 0 0, .slice none 0 0]) (t := 62) ?hr ?_; (case hd => rfl); (case hg => rfl); (case hr => first | (go_simp; done) | (go_simp; rfl)); intro g8 hg8 w5 hbox hb5; have B5 := Aside0.mk (show Below wr.heap.size wr w5 from hb5); have G8 := Aside0.mk (show wr.heap.size ≤ g8 from by rw [hg8]; exact Nat.le_refl _); have BK5 := Aside0.mk hbox; have kb0 := (blk_cell BK5.out 0).trans rfl; have kb1 := (blk_cell BK5.out 1).trans rfl; have kb2 := (blk_cell BK5.out 2).trans rfl; have kf0 := blk_frozen BK5.out 0; have kf1 := blk_frozen BK5.out 1; have kf2 := blk_frozen BK5.out 2; clear hg8 hbox hb5))
    obtain ⟨wE, hwE⟩ : ∃ wE, wE = ((w5.setCell ⟨g8, 0, none⟩ (.string x.f0)).setCell ⟨g8, 1, none⟩ (.slice A1 x.f1.length c1)).setCell ⟨g8, 2, none⟩ (.slice A2 x.f2.length c2) := ⟨_, rfl⟩
    have hBE : Below wr.heap.size wr wE := by rw [hwE]; exact below_set (below_set (below_set B5.out G8.out) G8.out) G8.out
    have hK8 : wE.heap[g8]? = some (.cells #[.string x.f0, .slice A1 x.f1.length c1, .slice A2 x.f2.length c2] 62 (0, 0)) := by rw [hwE]; exact blk_put (cs := #[.string x.f0, .slice A1 x.f1.length c1, .slice none 0 0]) (blk_put (cs := #[.string x.f0, .slice none 0 0, .slice none 0 0]) (blk_put (cs := #[.string ⟨#[]⟩, .slice none 0 0, .slice none 0 0]) BK5.out 0 _ rfl) 1 _ rfl) 2 _ rfl
    rw [← hwE]
    have BE := Aside0.mk hBE
    have K8 := Aside0.mk hK8
    have HCE1 := Aside0.mk (Kd.C_below HC1.out hBE)
    have HCE2 := Aside0.mk (Kd.C_below HC2.out hBE)
    have HSE := Aside0.mk (Kd.S_below HSr.out hBE)
    have BW := Aside0.mk (below_step BR.out hBE)
    obtain ⟨wP, hwP⟩ : ∃ wP : World, wP = wr := ⟨_, rfl⟩
    have BPE := Aside0.mk (show Below wP.heap.size wP wE by rw [hwP]; exact hBE)
    have G8P := Aside0.mk (show wP.heap.size ≤ g8 by rw [hwP]; exact G8.out)
    have HSP := Aside0.mk (show Kd.S k62 62 wP w0.heap.size (fun k_ => P0_ k_ ∧ k_ < w.heap.size) (.slice (some ⟨g, 0, none⟩) l0.length c) l0 by rw [hwP]; exact HSr.out)
    have HCP1 := Aside0.mk (show Kd.C (Kd.int .i64) wP A1 x.f1.length x.f1 by rw [hwP]; exact HC1.out)
    have HCP2 := Aside0.mk (show Kd.C (Kd.int .i64) wP A2 x.f2.length x.f2 by rw [hwP]; exact HC2.out)
    have BWP := Aside0.mk (show Below w.heap.size w wP by rw [hwP]; exact BR.out)
    clear hwP
    clear hwE hBE hK8 kb0 kb1 kb2 kf0 kf1 kf2 B5 BK5 r0 r1 r2 HC1 HC2 HSr p0 p0n pq
    obtain ⟨I, hI⟩ : ∃ I, I = placeL d x.f1 := ⟨_, rfl⟩
    have HI := Aside0.mk hI
    have HI1 := Aside0.mk (show I ≤ x.f1.length by rw [hI]; exact placeL_le _ _)
    obtain ⟨n1, hn1⟩ : ∃ n1, n1 = x.f1.length := ⟨_, rfl⟩
    obtain ⟨n2, hn2⟩ : ∃ n2, n2 = x.f2.length := ⟨_, rfl⟩
    rw [← hn1, ← hn2] at K8
    have HN1 := Aside0.mk hn1
    have HN2 := Aside0.mk hn2
    have kc1 := (blk_cell K8.out 1).trans rfl
    clear hI hn1 hn2
    go_loopg [9] I (fun kq v9 w' => ∃ (i : Nat), v9 = .int .i64 i ∧ Aside0 (i + kq = I) ∧ w' = wE)
    case atStart => exact ⟨0, rfl, ⟨by omega⟩, rfl⟩
    case round =>
     obtain ⟨i, rfl, HQ, rfl⟩ := hrel
     have hiI := HQ.out
     have hi1 := HI1.out
     have hn1 := HN1.out
     cases gk with
     | zero =>
      obtain rfl : i = I := by omega
      go_upto_region 12 with fail
      go_cut [63] (fun v63 wx => v63 = .bool false ∧ wx = wr)
      case first =>
       by_cases hin : i < n1
       ·obtain ⟨ad1, rfl, hcy⟩ := Kd.at_int HCE1.out (i : Int) (by omega) (by omega)
        rw [Int.toNat_natCast] at hcy
        have hge := placeL_at d x.f1 (rd x.f1 (i : Int)) (by
         rw [← HI.out]
         unfold rd
         rw [Int.toNat_natCast, List.getD_eq_getElem?_getD, List.getElem?_eq_getElem (show i < x.f1.length by omega)]; rfl)
        have d1 : decide ((i : Int) < (n1 : Int)) = true := decide_eq_true (by omega)
        have d1n : decide (i < n1) = true := decide_eq_true hin
        have e1 := eq_true (show (i : Int) < (n1 : Int) by omega)
        have e1n := eq_true hin
        have d2 : decide (rd x.f1 (i : Int) < d) = false := decide_eq_false hge
        clear hin hge hiI hi1 hn1
        repeat (go_quiet (fail))
        go_wp2_with fail
        go_meet
        exact ⟨rfl, rfl⟩
       ·have d1 : decide ((i : Int) < (n1 : Int)) = false := decide_eq_false (by omega)
        have d1n : decide (i < n1) = false := decide_eq_false hin
        clear hin hiI hi1 hn1
        repeat (go_quiet (fail))
        go_wp2_with fail
        go_meet
        exact ⟨rfl, rfl⟩
      case rest =>
       obtain ⟨rfl, rfl⟩ := hcut
       have hiI := HQ.out
       obtain ⟨i3, hi3, _, hsz3, _⟩ := info_parts hinfo3
       have HNS := Aside0.mk (show i ≤ n1 ∧ i ≤ n2 ∧ n1 = x.f1.length ∧ n2 = x.f2.length from ⟨by omega, by have := HL.out.2.2.2; have := HI.out; have := HN2.out; omega, HN1.out, HN2.out⟩)
       have hns := HNS.out
       have hl1 := HL1.out
       have hl2 := HL2.out
       have hf1 := cut_to 60 3 .i64 (P := Try.prog) Try.underlying60 hi3 A1 n1 c1 (i : Int) (by omega) (by omega) (by omega)
       have hf2 := cut_from 60 3 .i64 (P := Try.prog) Try.underlying60 hi3 1 hsz3 A1 n1 c1 (i : Int) (by omega) (by omega)
       have hg1 := cut_to 60 3 .i64 (P := Try.prog) Try.underlying60 hi3 A2 n2 c2 (i : Int) (by omega) (by omega) (by omega)
       have hg2 := cut_from 60 3 .i64 (P := Try.prog) Try.underlying60 hi3 1 hsz3 A2 n2 c2 (i : Int) (by omega) (by omega)
       have hC1 := Kd.C_drop (m := i) (c := c1) HCP1.out (by omega) hl1
       have hC2 := Kd.C_drop (m := i) (c := c2) HCP2.out (by omega) hl2
       have hD1 := Kd.C_take (m := i) HCP1.out (by omega)
       have hD2 := Kd.C_take (m := i) HCP2.out (by omega)
       simp only [Int.toNat_natCast, show (Kd.int .i64).sz = 1 from rfl] at hf1 hf2 hg1 hg2 hC1 hC2
       rw [List.length_drop, ← hns.2.2.1] at hC1
       rw [List.length_drop, ← hns.2.2.2] at hC2
       rw [List.length_take, Nat.min_eq_left (by omega)] at hD1 hD2
       obtain ⟨F1, hF1⟩ : ∃ F1, F1 = (if c1 = i then A1 else A1.map (·.add (i * 1))) := ⟨_, rfl⟩
       obtain ⟨F2, hF2⟩ : ∃ F2, F2 = (if c2 = i then A2 else A2.map (·.add (i * 1))) := ⟨_, rfl⟩
       have HFE1 := Aside0.mk hF1
       have HFE2 := Aside0.mk hF2
       rw [← hF1] at hf2 hC1
       rw [← hF2] at hg2 hC2
       have HT1 := Aside0.mk hD1
       have HT2 := Aside0.mk hD2
       have HD1 := Aside0.mk hC1
       have HD2 := Aside0.mk hC2
       have hai := HXL.out
       have t0 : (0 : Int) ≤ (at_ : Int) := by omega
       have t1 : (at_ : Int) < (l0.length : Int) := by omega
       obtain ⟨oki, cs, _, hM, hcc, hfr, hoki, hH⟩ := Kd.S_elem HSP.out z62 (at_ : Int) t0 t1
       rw [show l0.getD (at_ : Int).toNat z62 = x by rw [Int.toNat_natCast, List.getD_eq_getElem?_getD, HX.out]; rfl] at hM
       obtain ⟨tt, ve1, ve2, rfl, _, _⟩ := k62_openT hM
       simp only [show (k62 : Kd S62).sz = 3 from rfl, Int.toNat_natCast] at hcc hfr
       have r0 := hcc 0 _ rfl
       have r1 := hcc 1 _ rfl
       have r2 := hcc 2 _ rfl
       rw [Nat.add_zero] at r0
       have HFR := Aside0.mk hfr
       have HH := Aside0.mk hH
       have HOK := Aside0.mk hoki
       have hgP : g < wP.heap.size := World.block_lt_of_cell? wP _ r0
       have nb1 : (g = g8) = False := eq_false (fun e_ => by have := G8P.out; omega)
       have nb2 : (g8 = g) = False := eq_false (fun e_ => by have := G8P.out; omega)
       have s0 := eq_true t0
       have s1 := eq_true t1
       have s1n := eq_true hai
       have hlc : ((l0.length : Nat) : Int) = ((l0.length : Nat) : Int) := rfl
       clear hM hcc hfr hoki hH hi3 hsz3 hF1 hF2 hD1 hD2 hC1 hC2 hlc hns hl1 hl2 hiI hai hi1 hn1 t0 t1
       go_upto_region 21 with (first | ((with_reducible refine gate_dst (N := 66) rfl ?_); refine Kd.R_lit (Kd.int .i64) (w0 := wP) wP.heap.size 3 ?hg (N := 66) ?hd (xs := ([] : List Int)) (inner := []) (ok := fun _ => True) (okp := fun _ => True) ?hr ?hp (fun _ hk => hk) trivial BPE.out BPE.out.size (by simp) ?_; (case hd => rfl); (case hg => rfl); (case hr => first | (go_simp; done) | (go_simp; rfl)); (case hp => exact (Reps.none _ _)); intro v1 w1 ho hb hg_ hnew_; have B1 := Aside0.mk hb; have K81 := Aside0.mk (blk_grown K8.out hg_ (fun e_ => by cases e_)); have HF1 := Aside0.mk ho; have HT1' := Aside0.mk (Kd.C_below HT1.out hb); have kc1 : w1.cell? ⟨g8, 1, none⟩ = some (.slice A1 n1 c1) := (blk_cell K81.out 1).trans rfl; clear ho hb hg_ hnew_) | ((with_reducible refine gate_builtin (b := .append) (xs := #[.tmp 66, .tmp 70]) rfl ?_); at_builtin; refine Kd.R_append_rows (Kd.int .i64) (w0 := wP) wP.heap.size rfl (.tmp 66) (.tmp 70) 60 3 (.int .i64 0) 8 rfl Try.underlying60 hinfo3 rfl (by decide) (by omega) v1 [] (x.f1.take i) _ _ _ (fun _ => True) (fun _ => False) rfl rfl HF1.out ?aR (fun _ _ h => h) (fun _ h => h.elim) (fun _ _ => trivial) B1.out B1.out.size ?aL ?_; (case aR => exact HT1'.out); (case aL => simp only [List.length_nil, List.length_append, List.length_singleton, List.length_take, List.length_drop]; have := HL.out.2; have := HNS.out; omega); intro v2 w2 ho hb hg hat; have K82 := Aside0.mk (blk_grown K81.out hg (Kd.R_ne HF1.out K81.out (by decide))); have B2 := Aside0.mk hb; have HF2 := Aside0.mk ho; have kc2 : w2.cell? ⟨g8, 2, none⟩ = some (.slice A2 n2 c2) := (blk_cell K82.out 2).trans rfl; clear kc1 K81 B1 HF1 HT1' ho hb hg hat) | ((with_reducible refine gate_dst (N := 72) rfl ?_); refine Kd.R_lit (Kd.int .i64) (w0 := wP) wP.heap.size 3 ?hg (N := 72) ?hd (xs := ([] : List Int)) (inner := []) (ok := fun _ => True) (okp := fun _ => True) ?hr ?hp (fun _ hk => hk) trivial B2.out B2.out.size (by simp) ?_; (case hd => rfl); (case hg => rfl); (case hr => first | (go_simp; done) | (go_simp; rfl)); (case hp => exact (Reps.none _ _)); intro v3 w3 ho hb hg_ hnew_; have B3 := Aside0.mk hb; have K83 := Aside0.mk (blk_grown K82.out hg_ (fun e_ => by cases e_)); have HF3 := Aside0.mk (show Kd.R (Kd.int .i64) 3 w3 wP.heap.size (fun k_ => True ∧ some k_ ≠ v3.ownBlock) v2 ([] ++ x.f1.take i) from Kd.R_mono (Kd.R_grown (Kd.R_bound HF2.out) hg_ (fun _ _ e_ => by cases e_)) (fun k_ h_ => ⟨trivial, fun e_ => by obtain ⟨b_, hb1_, hb2_⟩ := hnew_; rw [hb1_] at e_; injection e_ with e_; have := h_.2.2.1; omega⟩)); have HK3 := Aside0.mk (show Kd.R (Kd.int .i64) 3 w3 wP.heap.size (fun k_ => True ∧ some k_ ≠ v2.ownBlock) v3 [] from Kd.R_reok rfl ho (fun k_ e_ => ⟨trivial, fun e2_ => by obtain ⟨b_, hb1_, hb2_⟩ := hnew_; rw [hb1_] at e_; injection e_ with e_; have := Kd.R_lt HF2.out k_ e2_.symm; omega⟩)); have HT2' := Aside0.mk (Kd.C_below HT2.out hb); have kc2 : w3.cell? ⟨g8, 2, none⟩ = some (.slice A2 n2 c2) := (blk_cell K83.out 2).trans rfl; clear ho hb hg_ hnew_ K82 B2 HF2) | ((with_reducible refine gate_builtin (b := .append) (xs := #[.tmp 72, .tmp 76]) rfl ?_); at_builtin; refine Kd.R_append_rows (Kd.int .i64) (w0 := wP) wP.heap.size rfl (.tmp 72) (.tmp 76) 60 3 (.int .i64 0) 8 rfl Try.underlying60 hinfo3 rfl (by decide) (by omega) v3 [] (x.f2.take i) _ _ _ (fun k_ => True ∧ some k_ ≠ v2.ownBlock) (fun _ => False) rfl rfl HK3.out ?aR (fun _ _ h => h) (fun _ h => h.elim) (fun k_ h_ => ⟨trivial, fun e_ => by have := Kd.R_lt HF3.out k_ e_.symm; omega⟩) B3.out B3.out.size ?aL ?_; (case aR => exact HT2'.out); (case aL => simp only [List.length_nil, List.length_append, List.length_singleton, List.length_take, List.length_drop]; have := HL.out.2; have := HNS.out; omega); intro v4 w4 ho hb hg hat; have K84 := Aside0.mk (blk_grown K83.out hg (Kd.R_ne HK3.out K83.out (by decide))); have B4 := Aside0.mk hb; have HK4 := Aside0.mk ho; have HF4 := Aside0.mk (Kd.R_after HF3.out hg hat); clear kc2 K83 B3 HF3 HK3 HT2' ho hb hg hat) | ((with_reducible refine gate_builtin (b := .append) (xs := #[.tmp 78, .tmp 80]) rfl ?_); at_builtin; refine Kd.R_append (Kd.int .i64) (w0 := wP) wP.heap.size rfl (.tmp 78) (.tmp 80) 60 3 (.int .i64 0) 8 rfl Try.underlying60 hinfo3 rfl (by decide) (by omega) v2 ([] ++ x.f1.take i) d [.int .i64 d] (fun k_ => True ∧ some k_ ≠ v4.ownBlock) (fun _ => False) rfl rfl rfl (fun _ hk => hk.elim) (fun k_ h_ => ⟨trivial, fun e_ => by have := Kd.R_lt HK4.out k_ e_.symm; omega⟩) HF4.out B4.out B4.out.size ?aL ?_; (case aL => simp only [List.length_nil, List.length_append, List.length_singleton, List.length_take, List.length_drop]; have := HL.out.2; have := HNS.out; omega); intro v5 w5_ ho hb hg hat; have K85 := Aside0.mk (blk_grown K84.out hg (Kd.R_ne HF4.out K84.out (by decide))); have B5_ := Aside0.mk hb; have HF5 := Aside0.mk ho; have HK5 := Aside0.mk (Kd.R_after HK4.out hg hat); clear K84 B4 HF4 HK4 ho hb hg hat) | ((with_reducible refine gate_builtin (b := .append) (xs := #[.tmp 82, .tmp 85]) rfl ?_); at_builtin; refine Kd.R_append (Kd.int .i64) (w0 := wP) wP.heap.size rfl (.tmp 82) (.tmp 85) 60 3 (.int .i64 0) 8 rfl Try.underlying60 hinfo3 rfl (by decide) (by omega) v4 ([] ++ x.f2.take i) (l0.length : Int) [.int .i64 (l0.length : Int)] (fun k_ => True ∧ some k_ ≠ v5.ownBlock) (fun _ => False) rfl rfl rfl (fun _ hk => hk.elim) (fun k_ h_ => ⟨trivial, fun e_ => by have := Kd.R_lt HF5.out k_ e_.symm; omega⟩) HK5.out B5_.out B5_.out.size ?aL ?_; (case aL => simp only [List.length_nil, List.length_append, List.length_singleton, List.length_take, List.length_drop]; have := HL.out.2; have := HNS.out; omega); intro v6 w6 ho hb hg hat; have K86 := Aside0.mk (blk_grown K85.out hg (Kd.R_ne HK5.out K85.out (by decide))); have B6 := Aside0.mk hb; have HK6 := Aside0.mk ho; have HF6 := Aside0.mk (Kd.R_after HF5.out hg hat); have HD1' := Aside0.mk (Kd.C_below HD1.out hb); have kc1 : w6.cell? ⟨g8, 1, none⟩ = some (.slice A1 n1 c1) := (blk_cell K86.out 1).trans rfl; clear K85 B5_ HF5 HK5 ho hb hg hat) | ((with_reducible refine gate_builtin (b := .append) (xs := #[.tmp 87, .tmp 91]) rfl ?_); at_builtin; refine Kd.R_append_rows (Kd.int .i64) (w0 := wP) wP.heap.size rfl (.tmp 87) (.tmp 91) 60 3 (.int .i64 0) 8 rfl Try.underlying60 hinfo3 rfl (by decide) (by omega) v5 ([] ++ x.f1.take i ++ [d]) (x.f1.drop i) _ _ _ (fun k_ => True ∧ some k_ ≠ v6.ownBlock) (fun _ => False) rfl rfl HF6.out ?aR (fun _ _ h => h) (fun _ h => h.elim) (fun k_ h_ => ⟨trivial, fun e_ => by have := Kd.R_lt HK6.out k_ e_.symm; omega⟩) B6.out B6.out.size ?aL ?_; (case aR => first | exact HD1'.out | (have z_ := HD1'.out; rw [HFE1.out] at z_; simp only [Nat.mul_one] at z_; exact z_)); (case aL => simp only [List.length_nil, List.length_append, List.length_singleton, List.length_take, List.length_drop]; have := HL.out.2; have := HNS.out; omega); intro v7 w7 ho hb hg hat; have K87 := Aside0.mk (blk_grown K86.out hg (Kd.R_ne HF6.out K86.out (by decide))); have B7 := Aside0.mk hb; obtain ⟨yF, hyF⟩ : ∃ yF : List Int, yF = [] ++ x.f1.take i ++ [d] ++ x.f1.drop i := ⟨_, rfl⟩; rw [← hyF] at ho; have HYF := Aside0.mk hyF; have HK7 := Aside0.mk (Kd.R_after HK6.out hg hat); obtain ⟨A7, c7, e7⟩ := Kd.R_slice ho; subst e7; have HF7 := Aside0.mk ho; have kc1 := (blk_cell K87.out 1).trans rfl; have kf1 := blk_frozen K87.out 1; have kc2 : w7.cell? ⟨g8, 2, none⟩ = some (.slice A2 n2 c2) := (blk_cell K87.out 2).trans rfl; clear K86 B6 HF6 HK6 HD1' ho hb hg hat hyF) | ((with_reducible refine gate_builtin (b := .append) (xs := #[.tmp 94, .tmp 98]) rfl ?_); at_builtin; have HF8 := Aside0.mk (Kd.R_mono (Kd.R_far (p := ⟨g8, 1, none⟩) (Kd.R_tight2 rfl HF7.out) (fun k_ h_ e_ => Kd.R_ne HF7.out K87.out (by decide) (by have e9_ : k_ = g8 := e_; rw [← e9_]; exact h_.1)) (.slice A7 yF.length c7)) (fun k_ h_ => h_.2)); have HK8 := Aside0.mk (Kd.R_mono (Kd.R_far (p := ⟨g8, 1, none⟩) (Kd.R_tight2 rfl HK7.out) (fun k_ h_ e_ => Kd.R_ne HK7.out K87.out (by decide) (by have e9_ : k_ = g8 := e_; rw [← e9_]; exact h_.1)) (.slice A7 yF.length c7)) (fun k_ h_ => h_.2)); have B8 := Aside0.mk (show Below wP.heap.size wP (w7.setCell ⟨g8, 1, none⟩ (.slice A7 yF.length c7)) from below_set B7.out G8P.out); have K88 := Aside0.mk (blk_put (cs := #[.string x.f0, .slice A1 n1 c1, .slice A2 n2 c2]) K87.out 1 (.slice A7 yF.length c7) rfl); have HD2' := Aside0.mk (Kd.C_below HD2.out B8.out); refine Kd.R_append_rows (Kd.int .i64) (w0 := wP) wP.heap.size rfl (.tmp 94) (.tmp 98) 60 3 (.int .i64 0) 8 rfl Try.underlying60 hinfo3 rfl (by decide) (by omega) v6 ([] ++ x.f2.take i ++ [(l0.length : Int)]) (x.f2.drop i) _ _ _ (fun k_ => True ∧ some k_ ≠ (Value.slice A7 yF.length c7).ownBlock) (fun _ => False) rfl rfl HK8.out ?aR (fun _ _ h => h) (fun _ h => h.elim) (fun k_ h_ => ⟨trivial, fun e_ => by have := Kd.R_lt HF8.out k_ e_.symm; omega⟩) B8.out B8.out.size ?aL ?_; (case aR => first | exact HD2'.out | (have z_ := HD2'.out; rw [HFE2.out] at z_; simp only [Nat.mul_one] at z_; exact z_)); (case aL => simp only [List.length_nil, List.length_append, List.length_singleton, List.length_take, List.length_drop]; have := HL.out.2; have := HNS.out; omega); intro v9 w9 ho hb hg hat; have K89 := Aside0.mk (blk_grown K88.out hg (Kd.R_ne HK8.out K88.out (by decide))); have B9 := Aside0.mk hb; obtain ⟨yK, hyK⟩ : ∃ yK : List Int, yK = [] ++ x.f2.take i ++ [(l0.length : Int)] ++ x.f2.drop i := ⟨_, rfl⟩; rw [← hyK] at ho; have HYK := Aside0.mk hyK; have HF9 := Aside0.mk (Kd.R_after HF8.out hg hat); obtain ⟨A9, c9, e9⟩ := Kd.R_slice ho; subst e9; have HK9 := Aside0.mk ho; have kd0 : w9.cell? ⟨g8, 0, none⟩ = some (.string x.f0) := (blk_cell K89.out 0).trans rfl; have kd1 : w9.cell? ⟨g8, 1, none⟩ = some (.slice A7 yF.length c7) := (blk_cell K89.out 1).trans rfl; have kd2 : w9.cell? ⟨g8, 2, none⟩ = some (.slice A2 n2 c2) := (blk_cell K89.out 2).trans rfl; have kf2 := blk_frozen K89.out 2; have u0 := (B9.out.cell (World.block_lt_of_cell? wP _ r0)).trans r0; have u1 := (B9.out.cell (World.block_lt_of_cell? wP _ r1)).trans r1; have u2 := (B9.out.cell (World.block_lt_of_cell? wP _ r2)).trans r2; have uf0 := (B9.out.frozen (World.block_lt_of_cell? wP _ r0)).trans (HFR.out 0); have uf1 := (B9.out.frozen (World.block_lt_of_cell? wP _ r1)).trans (HFR.out 1); have uf2 := (B9.out.frozen (World.block_lt_of_cell? wP _ r2)).trans (HFR.out 2); clear kc1 kc2 kf1 K87 K88 B7 B8 HF7 HF8 HK7 HK8 HD2' ho hb hg hat hyK))
       have t0 : (0 : Int) ≤ (at_ : Int) := by omega
       have t1 : (at_ : Int) < (l0.length : Int) := by have := HXL.out; omega
       have B10 : Below wP.heap.size wP (w9.setCell ⟨g8, 2, none⟩ (.slice A9 yK.length c9)) := below_set B9.out G8P.out
       have hF10 := Kd.R_lower (base' := w0.heap.size) (Kd.R_far (p := ⟨g8, 2, none⟩) (Kd.R_tight2 rfl HF9.out) (fun k_ h_ e_ => Kd.R_ne HF9.out K89.out (by decide) (by have e9_ : k_ = g8 := e_; rw [← e9_]; exact h_.1)) (.slice A9 yK.length c9)) (Nat.le_trans HB.out.size BWP.out.size)
       have hK10 := Kd.R_lower (base' := w0.heap.size) (Kd.R_far (p := ⟨g8, 2, none⟩) (Kd.R_tight2 rfl HK9.out) (fun k_ h_ e_ => Kd.R_ne HK9.out K89.out (by decide) (by have e9_ : k_ = g8 := e_; rw [← e9_]; exact h_.1)) (.slice A9 yK.length c9)) (Nat.le_trans HB.out.size BWP.out.size)
       obtain ⟨okg, hokg⟩ : ∃ okg : Nat → Prop, okg = fun k_ => some k_ = (Value.slice A7 yF.length c7).ownBlock ∨ some k_ = (Value.slice A9 yK.length c9).ownBlock := ⟨_, rfl⟩
       have hgb : ∀ k_, okg k_ → wP.heap.size ≤ k_ := fun k_ h_ => by
        rw [hokg] at h_
        exact h_.elim (fun e_ => Kd.R_base HF9.out k_ e_.symm) (fun e_ => Kd.R_base HK9.out k_ e_.symm)
       have hM10 := k62_mkT (fun k_ => decide (some k_ = (Value.slice A9 yK.length c9).ownBlock)) _ _ okg (⟨x.f0, yF, yK⟩ : S62) (Kd.R_mono hF10 (fun k_ h_ => ⟨by rw [hokg]; exact Or.inl h_.1, decide_eq_false h_.2.2⟩)) (Kd.R_mono hK10 (fun k_ h_ => ⟨by rw [hokg]; exact Or.inr h_.1, decide_eq_true h_.1⟩))
       have hH10 := Kd.H_mono (ok' := fun k_ => (P0_ k_ ∨ w.heap.size ≤ k_) ∧ ¬ okg k_) (Kd.H_below HH.out B10) (fun k_ h_ => ⟨Or.inl h_.1, fun e_ => by have := hgb k_ e_; have := BWP.out.size; have := h_.2; omega⟩)
       obtain ⟨hS11, hg11⟩ := Kd.S_seg (okg := okg) hH10 t0 t1 (seg := [.string x.f0, .slice A7 yF.length c7, .slice A9 yK.length c9]) (j := 0) (show 3 ≤ 3 from by decide) hM10 (fun _ h_ => Or.inr h_) (fun k_ h_ => ⟨Or.inr (Nat.le_trans BWP.out.size (hgb k_ h_)), fun e_ => by have := hgb k_ h_; omega⟩)
       have hWW : (w9.setCell ⟨g8, 2, none⟩ (.slice A9 yK.length c9)).setCells g ((at_ : Int).toNat * (k62 : Kd S62).sz + 0) [.string x.f0, .slice A7 yF.length c7, .slice A9 yK.length c9] = (((w9.setCell ⟨g8, 2, none⟩ (.slice A9 yK.length c9)).setCell ⟨g, at_ * 3, none⟩ (.string x.f0)).setCell ⟨g, at_ * 3 + 1, none⟩ (.slice A7 yF.length c7)).setCell ⟨g, at_ * 3 + 2, none⟩ (.slice A9 yK.length c9) := rfl
       rw [hWW] at hS11 hg11
       have hPg : P0_ g := (Kd.S_R HS.out).1 _ rfl
       have hb11 := pw_below_grown (below_step (below_step HB.out BWP.out) B10) (some g) (Nat.le_trans (Nat.le_trans HB.out.size BWP.out.size) B10.size) hg11 (fun k_ e_ => by injection e_ with e_; subst e_; exact HGB.out)
       have hk11 := Kept.of_grown hg11 (Kept.below (Kept.of_below BWP.out (fun k_ => P0_ k_)) B10) (fun k_ e_ => by injection e_ with e_; subst e_; exact Or.inl hPg)
       have hins : (⟨x.f0, yF, yK⟩ : S62) = spec_l12Put.ins x d l0.length := by
        unfold spec_l12Put.ins
        rw [HYF.out, HYK.out, ← HI.out, List.nil_append, List.nil_append]
       rw [hins, Int.toNat_natCast] at hS11
       obtain ⟨W11, hW11⟩ : ∃ W11, W11 = (((w9.setCell ⟨g8, 2, none⟩ (.slice A9 yK.length c9)).setCell ⟨g, at_ * 3, none⟩ (.string x.f0)).setCell ⟨g, at_ * 3 + 1, none⟩ (.slice A7 yF.length c7)).setCell ⟨g, at_ * 3 + 2, none⟩ (.slice A9 yK.length c9) := ⟨_, rfl⟩
       rw [← hW11] at hS11 hb11 hk11 ⊢
       have HS11 := Aside0.mk hS11
       have HB11 := Aside0.mk hb11
       have HK11 := Aside0.mk hk11
       have HWS := Aside0.mk (show w.heap.size ≤ W11.heap.size from hk11.1)
       have HPG := Aside0.mk hPg
       have HLN := Aside0.mk HL.out.1
       have hinfoK : (Try.prog.info? 62).map (fun i => (i.zero, i.size, i.bytes)) = some (some (.agg #[.string ⟨#[]⟩, .slice none 0 0, .slice none 0 0]), 3, 64) := by kernel_rfl
       clear hS11 hb11 hk11 hg11 hW11 hWW hM10 hH10 hF10 hK10 B10 hgb hokg hins hPg kd0 kd1 kd2 kf2 u0 u1 u2 uf0 uf1 uf2 K89 B9 HF9 HK9 nb1 nb2 r0 r1 r2 s0 s1 s1n t0 t1
       go_wp2_with (first | ((with_reducible refine gate_builtin (b := .append) (xs := #[.tmp 105, .tmp 108]) rfl ?_); at_builtin; refine Kd.S_append k62 (w0 := w0) w0.heap.size rfl (.tmp 105) (.tmp 108) 24 62 (.agg #[.string ⟨#[]⟩, .slice none 0 0, .slice none 0 0]) 64 rfl Try.underlying24 hinfoK rfl (by decide) (by omega) (.slice (some ⟨g, 0, none⟩) l0.length c) (l0.set at_ (spec_l12Put.ins x d l0.length)) (⟨a1, [], []⟩ : S62) [.string a1, .slice none 0 0, .slice none 0 0] (fun k_ => P0_ k_ ∨ w.heap.size ≤ k_) (fun _ => False) rfl rfl (k62_mk0 _ _ _ a1) (fun _ h_ => h_.elim) ?aF ?aO HB11.out HB11.out.size ?aL ?_; (case aF => exact fun k_ h_ => Or.inr (Nat.le_trans HWS.out h_)); (case aO => exact Kd.S_mono HS11.out (fun k_ h_ => ⟨h_, fun e_ => e_⟩)); (case aL => rw [List.length_set]; have := HLN.out; omega); intro v1 w1 ho hb hg hat; have HSF := Aside0.mk ho; have HBF := Aside0.mk hb; have HKF := Aside0.mk (Kept.of_grown hg HK11.out (fun k_ e_ => by injection e_ with e_; subst e_; exact Or.inl HPG.out)); clear ho hb hg hat))
       go_ret
       exact ⟨_, rfl, HSF.out, HBF.out, HKF.out⟩
     | succ m =>
      obtain ⟨y, hy, hlt⟩ := placeL_lt d x.f1 i (by rw [← HI.out]; omega)
      obtain ⟨ad1, rfl, hcy⟩ := Kd.at_int HCE1.out (i : Int) (by omega) (by have := (List.getElem?_eq_some_iff.1 hy).1; omega)
      rw [Int.toNat_natCast] at hcy
      have hry : rd x.f1 (i : Int) = y := by
       unfold rd
       rw [Int.toNat_natCast, List.getD_eq_getElem?_getD, hy]; rfl
      rw [hry] at hcy
      have hin : i < n1 := by have := (List.getElem?_eq_some_iff.1 hy).1; omega
      have d1 : decide ((i : Int) < (n1 : Int)) = true := decide_eq_true (by omega)
      have d1n : decide (i < n1) = true := decide_eq_true hin
      have e1 := eq_true (show (i : Int) < (n1 : Int) by omega)
      have e1n := eq_true hin
      have d2 : decide (y < d) = true := decide_eq_true hlt
      have hwx : wrap64 ((i : Int) + 1) = ((i + 1 : Nat) : Int) := by have := HL.out.2.1; unfold wrap64; omega
      clear hry hy hlt hin hi1 hn1
      go_upto_region 12 with fail
      go_cut [63] (fun v63 wx => v63 = .bool true ∧ wx = wr)
      case first =>
       repeat (go_quiet (fail))
       go_wp2_with fail
       go_meet
       exact ⟨rfl, rfl⟩
      case rest =>
       obtain ⟨rfl, rfl⟩ := hcut
       go_wp2_with fail
       go_roundg m
       case measure => omega
       case rel => exact ⟨i + 1, by first | rfl | (rw [hwx]) | (congr 1), ⟨by omega⟩, rfl⟩

/-! ### spec_l12Build: function 44 (by hand) -/
def spec_l12Build.l (k : Nat) : List ByteArray → List S62 → Option (List S62)
 | [], acc => some acc
 | s :: l, acc => (spec_l12Put.f k acc s).bind fun a => spec_l12Build.l k l a
def spec_l12Build.f (k : Nat) (l0 : List ByteArray) : Option (List S62) := if l0.length ≤ 1000000 then spec_l12Build.l k l0 [] else none
theorem spec_l12Build.mono_l (k : Nat) : ∀ (l : List ByteArray) (acc : List S62), LeO (spec_l12Build.l k l acc) (spec_l12Build.l (k + 1) l acc)
 | [], acc => LeO.refl _
 | s :: l, acc => by
  unfold spec_l12Build.l
  exact LeO.bind (spec_l12Put.mono _ _ _) (fun a => spec_l12Build.mono_l k l a)
theorem spec_l12Build.mono : ∀ a0 k, LeO (spec_l12Build.f k a0) (spec_l12Build.f (k + 1) a0) := by
 intro a0 k
 unfold spec_l12Build.f
 exact LeO.ite (spec_l12Build.mono_l k a0 []) (LeO.none _)
set_option maxHeartbeats 8000000 in
set_option maxRecDepth 100000 in
theorem spec_l12Build.calls (k : Nat) (A0 : Option Addr) (c0 : Nat) (l0 : List ByteArray) (r : List S62) (w : World) (hr0 : Kd.C Kd.string w A0 l0.length l0) (hc0 : l0.length ≤ c0) (h : spec_l12Build.f k l0 = some r) :
  Calls Try.prog 44 #[.slice A0 l0.length c0] w fun e w' => ∃ v0_ : Value, e = .returned (v0_) ∧ Kd.S k62 62 w' w.heap.size (fun _ => True) v0_ r ∧ Below w.heap.size w w' := by
 unfold spec_l12Build.f at h
 by_cases hlen : l0.length ≤ 1000000
 rotate_left
 ·rw [if_neg hlen] at h; cases h
 rw [if_pos hlen] at h
 have H := Aside0.mk h
 have HR := Aside0.mk hr0
 have HL := Aside0.mk hlen
 clear h hr0 hc0 hlen
 go_enter Try.func44, Try.ntmps44
 go_wp2_with fail
 go_loopg [3, 8] l0.length (fun kq v3 v8 w' => ∃ (acc : List S62) (rest : List ByteArray) (i : Nat), v8 = .int .i64 i ∧ Aside0 (l0.drop i = rest) ∧ Aside0 (kq = rest.length) ∧ Aside0 (i ≤ l0.length) ∧ Aside0 (spec_l12Build.l k rest acc = some r) ∧ Aside0 (Kd.S k62 62 w' w.heap.size (fun _ => True) v3 acc) ∧ Aside0 (Below w.heap.size w w'))
 case atStart => exact ⟨[], l0, 0, rfl, ⟨rfl⟩, ⟨rfl⟩, ⟨Nat.zero_le _⟩, H, ⟨Kd.S_nil _ _ _ _ _⟩, ⟨Below.refl _ _⟩⟩
 case round =>
  clear H
  obtain ⟨acc, rest, i, rfl, HD, HQ, HI, HA, HS, HB⟩ := hrel
  cases rest with
  | nil =>
   have hd := List.drop_eq_nil_iff.1 HD.out
   have c1 : decide ((i : Int) < (l0.length : Int)) = false := decide_eq_false (by omega)
   have c1n : decide (i < l0.length) = false := decide_eq_false (by omega)
   clear hd
   go_wp2_with fail
   go_ret
   have ha := HA.out
   simp only [spec_l12Build.l, Option.some.injEq] at ha
   subst ha
   exact ⟨_, rfl, HS.out, HB.out⟩
  | cons s rest =>
   have hi : i < l0.length := by
    have := congrArg List.length HD.out
    rw [List.length_drop, List.length_cons] at this
    omega
   have e := List.drop_eq_getElem_cons hi
   rw [HD.out] at e
   injection e with e1 e2
   obtain ⟨ad, e3, hc⟩ := Kd.at_string HR.out (i : Int) (by omega) (by omega)
   subst e3
   have hrd : rdOf ByteArray.empty l0 (i : Int) = s := by
    unfold rdOf
    rw [Int.toNat_natCast, List.getD_eq_getElem?_getD, List.getElem?_eq_getElem hi, e1]; rfl
   rw [hrd, Int.toNat_natCast] at hc
   have hc := (HB.out.cell (World.block_lt_of_cell? w _ hc)).trans hc
   have ha := HA.out
   simp only [spec_l12Build.l] at ha
   obtain ⟨a, ha1, ha2⟩ := Option.bind_eq_some_iff.mp ha
   have HN := Aside0.mk (And.intro e2.symm ha2)
   have HIL := Aside0.mk hi
   have c1 : decide ((i : Int) < (l0.length : Int)) = true := decide_eq_true (by omega)
   have c1n : decide (i < l0.length) = true := decide_eq_true hi
   have d1 := eq_true (show (i : Int) < (l0.length : Int) by omega)
   have d1n := eq_true hi
   have hwx : wrap64 ((i : Int) + 1) = ((i + 1 : Nat) : Int) := by have := HL.out; unfold wrap64; omega
   clear e1 e2 hrd ha hi HD
   go_wp2_with fail
   (with_reducible refine (spec_l12Put.calls k (fun _ => True) _ acc s a w _ HB.out HS.out ha1).mono ?_)
   rintro e w1 ⟨v1, rfl, hs1, hb1, _⟩
   have HS1 := Aside0.mk (Kd.S_mono (ok' := fun _ => True) hs1 (fun _ _ => trivial))
   have HB1 := Aside0.mk hb1
   clear hs1 hb1 hc HS HB ha1 c1 c1n d1 d1n
   go_wp2_with fail
   go_roundg rest.length
   case measure => have := HQ.out; rw [List.length_cons] at this; omega
   case rel => exact ⟨a, rest, i + 1, by first | rfl | (rw [hwx]) | (congr 1), ⟨HN.out.1⟩, ⟨rfl⟩, ⟨HIL.out⟩, ⟨HN.out.2⟩, HS1, HB1⟩

/-! ### spec_l12Of: function 51 -/
def spec_l12Of.l0 : Nat → List ByteArray → List (S62) → Int → Int → Option (List ByteArray)
 | 0, _, _, _, _ => none
 | k + 1, x3, x6, x7, x8 => if x8 < x7 then (if 0 ≤ x8 then (if x8 < (x6.length : Int) then (if x3.length < 8796093022208 then (spec_l12Of.l0 k (x3 ++ [(rd_T62 x6 x8).f0]) x6 x7 (wrap64 (x8 + 1))) else (none)) else (none)) else (none)) else (some x3)
def spec_l12Of.f (k : Nat) (l0 : List (S62)) : Option (List ByteArray) := spec_l12Of.l0 k ([] : List ByteArray) l0 (l0.length : Int) 0
theorem spec_l12Of.mono_l : ∀ k, (∀ y0 y1 y2 y3, LeO (spec_l12Of.l0 k y0 y1 y2 y3) (spec_l12Of.l0 (k + 1) y0 y1 y2 y3))
 | 0 => fun _ _ _ _ r h => by simp [spec_l12Of.l0] at h
 | k + 1 => by
  have ih0 := spec_l12Of.mono_l k
  ·intro y0 y1 y2 y3
   unfold spec_l12Of.l0
   repeat' first
   | (with_reducible exact ih0 _ _ _ _)
   | (with_reducible exact LeO.refl _)
   | (with_reducible exact LeO.none _)
   | (with_reducible refine LeO.ite ?_ ?_)
   | (with_reducible refine LeO.bind ?_ (fun _ => ?_))
   | exact ih0 _ _ _ _
   | exact LeO.none _
   | refine LeO.ite ?_ ?_
   | refine LeO.bind ?_ (fun _ => ?_)
theorem spec_l12Of.mono : ∀ a0 k, LeO (spec_l12Of.f k a0) (spec_l12Of.f (k + 1) a0) := by
 intro a0 k
 have ih0 := spec_l12Of.mono_l k
 unfold spec_l12Of.f
 repeat' first
   | (with_reducible exact ih0 _ _ _ _)
   | (with_reducible exact LeO.refl _)
   | (with_reducible exact LeO.none _)
   | (with_reducible refine LeO.ite ?_ ?_)
   | (with_reducible refine LeO.bind ?_ (fun _ => ?_))
   | exact ih0 _ _ _ _
   | exact LeO.none _
   | refine LeO.ite ?_ ?_
   | refine LeO.bind ?_ (fun _ => ?_)
set_option maxHeartbeats 8000000 in
set_option maxRecDepth 100000 in
theorem spec_l12Of.calls (k : Nat) (A0 : Option Addr) (c0 : Nat) (l0 : List (S62)) (r : List ByteArray) (w : World) (hr0 : Kd.C k62 w A0 l0.length l0) (hc0 : l0.length ≤ c0) (h : spec_l12Of.f k l0 = some r) :
  Calls Try.prog 51 #[.slice A0 l0.length c0] w fun e w' => ∃ v0_ : Value, e = .returned (v0_) ∧ Kd.R Kd.string 9 w' w.heap.size (fun _ => True) v0_ r ∧ Below w.heap.size w w' := by
 have hu62 := Try.underlying62
 have HR0 := Aside0.mk hr0
 have HC0 := Aside0.mk hc0
 clear hr0 hc0
 have HB := Aside0.mk (Below.refl w.heap.size w)
 have H : (spec_l12Of.l0 k ([] : List ByteArray) l0 (l0.length : Int) 0) = some r := h
 clear h
 have H' := Aside0.mk H
 clear H
 go_enter Try.func51, Try.ntmps51
 go_wp2
 go_loopg [3, 8] k (fun kq v3 v8 w' => ∃ (x3_1 : List ByteArray) (x8_1 : Int), v8 = .int .i64 x8_1 ∧ Aside0 (spec_l12Of.l0 kq x3_1 l0 (l0.length : Int) x8_1 = some r) ∧ Aside0 (kq ≤ k) ∧ Aside0 (Kd.R Kd.string 9 w' w.heap.size (fun _ => True) v3 x3_1) ∧ Aside0 (Below w.heap.size w w'))
 case atStart => exact ⟨(([] : List ByteArray)), (0), sq_e, H', ⟨Nat.le_refl _⟩, ⟨by first | exact Kd.R_nil _ _ _ _ _ | exact Kd.N_nil _ _ _ _ _ | exact Kd.V_nil _ _ _ _ _ | exact Kd.Q_nil _ _ _ _ _ | exact Kd.S_nil _ _ _ _ _⟩, ⟨sq_b⟩⟩
 case round =>
  clear H'
  obtain ⟨x3_1, x8_1, rfl, HA, HK1, HO_3, HB⟩ := hrel
  cases gk with
  | zero => exact absurd HA.out (by simp [spec_l12Of.l0])
  | succ k1 =>
   have H := HA.out
   clear HA
   simp only [spec_l12Of.l0] at H
   by_cases c2 : x8_1 < (l0.length : Int)
   ·rw [if_pos c2] at H
    have c2b0 : decide (x8_1 < (l0.length : Int)) = true := decide_eq_true c2
    clear c2
    by_cases c3 : 0 ≤ x8_1
    rotate_left
    ·rw [if_neg c3] at H
     exact absurd H (by simp)
    rw [if_pos c3] at H
    have c3b0 : decide (0 ≤ x8_1) = true := decide_eq_true c3
    clear c3
    by_cases c4 : x8_1 < (l0.length : Int)
    rotate_left
    ·rw [if_neg c4] at H
     exact absurd H (by simp)
    rw [if_pos c4] at H
    have c4b0 : decide (x8_1 < (l0.length : Int)) = true := decide_eq_true c4
    clear c4
    by_cases c5 : x3_1.length < 8796093022208
    rotate_left
    ·rw [if_neg c5] at H
     exact absurd H (by simp)
    rw [if_pos c5] at H
    have LMc5 := Aside0.mk c5
    clear c5
    obtain ⟨y174, hy174⟩ : ∃ y_ : List ByteArray, y_ = (x3_1 ++ [(rd_T62 l0 x8_1).f0]) := ⟨_, rfl⟩
    replace H : (spec_l12Of.l0 k1 y174 l0 (l0.length : Int) (wrap64 (x8_1 + 1))) = some r := by first | (rw [hy174]; with_reducible exact H) | (have H2_ := (Option.bind_some _ _).symm.trans H; rw [hy174]; with_reducible exact H2_) | (have H2_ := (Option.bind_some _ _).symm.trans H; with_reducible exact H2_) | with_reducible exact H | (rw [hy174]; exact H) | exact H
    have Ny174 := Aside0.mk hy174
    clear hy174
    have H' := Aside0.mk H
    clear H
    have p172 : 0 ≤ (x8_1 : Int) := sq_d
    have q172 : x8_1 < (l0.length : Int) := sq_d
    obtain ⟨ad172, A172_1, c172_1, A172_2, c172_2, e172, hx172_0, hx172_1, hx172_2, hl172_1, hi172_1, hl172_2, hi172_2⟩ := at_T62 HR0.out x8_1 p172 q172
    cases e172
    try replace hx172_0 := (HB.out.cell (World.block_lt_of_cell? w _ hx172_0)).trans hx172_0
    try replace hx172_1 := (HB.out.cell (World.block_lt_of_cell? w _ hx172_1)).trans hx172_1
    try replace hx172_2 := (HB.out.cell (World.block_lt_of_cell? w _ hx172_2)).trans hx172_2
    have HR172_1 := Aside0.mk hi172_1
    have HC172_1 := Aside0.mk hl172_1
    clear hi172_1 hl172_1
    have HR172_2 := Aside0.mk hi172_2
    have HC172_2 := Aside0.mk hl172_2
    clear hi172_2 hl172_2
    replace p172 := eq_true p172
    replace q172 := eq_true q172
    go_wp2_with (first | ((with_reducible refine gate_dst (N := 5) rfl ?_); refine box_event ?hg (N := 5) ?hd (cs := #[.string (⟨#[]⟩ : ByteArray), .slice none 0 0, .slice none 0 0]) (t := 62) ?hr ?_; (case hd => rfl); (case hg => rfl); (case hr => first | (go_simp; done) | (go_simp; rfl)); intro gb173 hg w6 hbox hb; have n0_ := Aside0.mk (Kd.R_below (sq_r HO_3) hb); have n1_ := Aside0.mk (below_step sq_b hb); have n2_ := Aside0.mk (hbox); have n3_ := Aside0.mk ((by rw [hg]; exact (below_size sq_b) : w.heap.size ≤ gb173)); have n4_ := Aside0.mk ((by rw [hg]; exact (below_size sq_b) : w.heap.size ≤ gb173)); clear HO_3; clear HB; have HO_3 := n0_; have HB := n1_; have BK173 := n2_; have GW173 := n3_; have GE173 := n4_; clear n0_ n1_ n2_ n3_ n4_; clear hb hbox hg; have hcz7_0 : w6.cell? ⟨gb173, 0, none⟩ = some (.string (⟨#[]⟩ : ByteArray)) := (blk_cell BK173.out 0).trans rfl; have hcz7_1 : w6.cell? ⟨gb173, 1, none⟩ = some (.slice none 0 0) := (blk_cell BK173.out 1).trans rfl; have hcz7_2 : w6.cell? ⟨gb173, 2, none⟩ = some (.slice none 0 0) := (blk_cell BK173.out 2).trans rfl; have hfz7_0 := blk_frozen BK173.out 0; have hfz7_1 := blk_frozen BK173.out 1; have hfz7_2 := blk_frozen BK173.out 2) | ((with_reducible refine gate_builtin (b := .append) (xs := #[.tmp 12, .tmp 15]) rfl ?_); at_builtin; refine Kd.R_append Kd.string (w0 := w) w.heap.size rfl (.tmp 12) (.tmp 15) 22 9 (.string ⟨#[]⟩) 16 rfl Try.underlying22 info9 rfl (by decide) (by omega) u3 x3_1 ((rd_T62 l0 x8_1).f0) [.string ((rd_T62 l0 x8_1).f0)] (fun _ => True) (fun _ => False) rfl (by first | (go_simp; done) | (go_simp; rfl)) ?aP (fun _ hk => hk.elim) ?aF ?aO ?aB ?aS ?aL ?_; (case aP => exact rfl); (case aB => exact (by repeat (first | (with_reducible first | exact HB.out | apply below_alloc | apply pw_below_drewN | apply below_drew1 | refine below_set ?_ GE173.out) | exact HB.out))); (case aF => exact (fun _ _ => trivial)); (case aO => exact (by (with_reducible repeat (first | apply Kd.R_alloc | apply Kd.R_drewN | apply Kd.R_drew)); exact Kd.R_mono (Kd.R_far (p := ⟨gb173, 2, none⟩) (Kd.R_far (p := ⟨gb173, 1, none⟩) (Kd.R_far (p := ⟨gb173, 0, none⟩) (Kd.R_types HO_3.out BK173.out (by decide)) (fun _ hk => hk.2) (.string ((rd_T62 l0 x8_1).f0))) (fun _ hk => hk.2) (.slice A172_1 ((rd_T62 l0 x8_1).f1).length c172_1)) (fun _ hk => hk.2) (.slice A172_2 ((rd_T62 l0 x8_1).f2).length c172_2)) (fun _ hk => trivial))); (case aS => exact (below_size (by repeat (first | (with_reducible first | exact HB.out | apply below_alloc | apply pw_below_drewN | apply below_drew1 | refine below_set ?_ GE173.out) | exact HB.out)))); (case aL => have := LMc5.out; omega); intro v175 w8 ho hb hg hat; rw [← Ny174.out] at ho; have n0_ := Aside0.mk (blk_grown (g := gb173) (o := .cells #[.string ((rd_T62 l0 x8_1).f0), .slice A172_1 ((rd_T62 l0 x8_1).f1).length c172_1, .slice A172_2 ((rd_T62 l0 x8_1).f2).length c172_2] 62 (0, 0)) (by (with_reducible repeat (first | refine blk_drewN ?_ _ | refine blk_drew ?_ | refine blk_alloc ?_ _)); refine blk_put (cs := #[.string ((rd_T62 l0 x8_1).f0), .slice A172_1 ((rd_T62 l0 x8_1).f1).length c172_1, .slice none 0 0]) ?_ 2 _ rfl; (with_reducible repeat (first | refine blk_drewN ?_ _ | refine blk_drew ?_ | refine blk_alloc ?_ _)); refine blk_put (cs := #[.string ((rd_T62 l0 x8_1).f0), .slice none 0 0, .slice none 0 0]) ?_ 1 _ rfl; (with_reducible repeat (first | refine blk_drewN ?_ _ | refine blk_drew ?_ | refine blk_alloc ?_ _)); refine blk_put (cs := #[.string (⟨#[]⟩ : ByteArray), .slice none 0 0, .slice none 0 0]) ?_ 0 _ rfl; (with_reducible repeat (first | refine blk_drewN ?_ _ | refine blk_drew ?_ | refine blk_alloc ?_ _)); exact BK173.out) hg (Kd.R_ne HO_3.out BK173.out (by decide))); have n1_ := Aside0.mk (hb); have n2_ := Aside0.mk (ho); clear BK173; clear HB; clear HO_3; have BK173 := n0_; have HB := n1_; have HO176 := n2_; clear n0_ n1_ n2_; clear ho hb hg hat))
    go_roundg k1
    case measure => have := HK1.out; omega
    case rel => exact ⟨(y174), (wrap64 (x8_1 + 1)), sq_e, H', ⟨by have := HK1.out; omega⟩, ⟨by (with_reducible repeat (first | apply Kd.R_alloc | apply Kd.R_drewN | apply Kd.R_drew)); exact HO176.out⟩, ⟨by repeat (first | (with_reducible first | exact HB.out | apply below_alloc | apply pw_below_drewN | apply below_drew1 | refine below_set ?_ GE173.out) | exact HB.out)⟩⟩
   ·rw [if_neg c2] at H
    have c2b0 : decide (x8_1 < (l0.length : Int)) = false := decide_eq_false c2
    clear c2
    obtain rfl := Option.some.inj H
    go_wp2
    go_ret
    exact ⟨_, sq_w, sq_r HO_3, sq_b⟩

/-! ### spec_l1Same: function 52 -/
def spec_l1Same.l0 : Nat → List Int → List Int → Int → Int → Option (Bool)
 | 0, _, _, _, _ => none
 | k + 1, x0, x1, x12, x13 => if x13 < x12 then (if 0 ≤ x13 then (if x13 < (x0.length : Int) then (if x13 < (x1.length : Int) then (if (rd x0 x13) = (rd x1 x13) then (spec_l1Same.l0 k x0 x1 x12 (wrap64 (x13 + 1))) else (some false)) else (none)) else (none)) else (none)) else (some true)
def spec_l1Same.f (k : Nat) (l0 : List Int) (l1 : List Int) : Option (Bool) := if (l0.length : Int) = (l1.length : Int) then (spec_l1Same.l0 k l0 l1 (l0.length : Int) 0) else (some false)
theorem spec_l1Same.mono_l : ∀ k, (∀ y0 y1 y2 y3, LeO (spec_l1Same.l0 k y0 y1 y2 y3) (spec_l1Same.l0 (k + 1) y0 y1 y2 y3))
 | 0 => fun _ _ _ _ r h => by simp [spec_l1Same.l0] at h
 | k + 1 => by
  have ih0 := spec_l1Same.mono_l k
  ·intro y0 y1 y2 y3
   unfold spec_l1Same.l0
   repeat' first
   | (with_reducible exact ih0 _ _ _ _)
   | (with_reducible exact LeO.refl _)
   | (with_reducible exact LeO.none _)
   | (with_reducible refine LeO.ite ?_ ?_)
   | (with_reducible refine LeO.bind ?_ (fun _ => ?_))
   | exact ih0 _ _ _ _
   | exact LeO.none _
   | refine LeO.ite ?_ ?_
   | refine LeO.bind ?_ (fun _ => ?_)
theorem spec_l1Same.mono : ∀ a0 a1 k, LeO (spec_l1Same.f k a0 a1) (spec_l1Same.f (k + 1) a0 a1) := by
 intro a0 a1 k
 have ih0 := spec_l1Same.mono_l k
 unfold spec_l1Same.f
 repeat' first
   | (with_reducible exact ih0 _ _ _ _)
   | (with_reducible exact LeO.refl _)
   | (with_reducible exact LeO.none _)
   | (with_reducible refine LeO.ite ?_ ?_)
   | (with_reducible refine LeO.bind ?_ (fun _ => ?_))
   | exact ih0 _ _ _ _
   | exact LeO.none _
   | refine LeO.ite ?_ ?_
   | refine LeO.bind ?_ (fun _ => ?_)
set_option maxHeartbeats 8000000 in
set_option maxRecDepth 100000 in
theorem spec_l1Same.calls (k : Nat) (A0 : Option Addr) (c0 : Nat) (l0 : List Int) (A1 : Option Addr) (c1 : Nat) (l1 : List Int) (r : Bool) (w : World) (hr0 : Kd.C (Kd.int .i64) w A0 l0.length l0) (hc0 : l0.length ≤ c0) (hr1 : Kd.C (Kd.int .i64) w A1 l1.length l1) (hc1 : l1.length ≤ c1) (h : spec_l1Same.f k l0 l1 = some r) :
  Calls Try.prog 52 #[.slice A0 l0.length c0, .slice A1 l1.length c1] w fun e w' => e = .returned (.bool r) ∧ Drawn0 w w' := by
 have HR0 := Aside0.mk hr0
 have HC0 := Aside0.mk hc0
 clear hr0 hc0
 have HR1 := Aside0.mk hr1
 have HC1 := Aside0.mk hc1
 clear hr1 hc1
 have H : (if (l0.length : Int) = (l1.length : Int) then (spec_l1Same.l0 k l0 l1 (l0.length : Int) 0) else (some false)) = some r := h
 clear h
 by_cases c3 : (l0.length : Int) = (l1.length : Int)
 ·rw [if_pos c3] at H
  have c3b0 : ((l0.length : Int) == (l1.length : Int)) = true := beq_iff_eq.mpr c3
  have c3b1 : ((l0.length : Int) != (l1.length : Int)) = false := bne_eq_false_iff_eq.mpr c3
  have c3b2 : (l0.length == l1.length) = true := by first | simpa using c3 | (simp at c3 ⊢; omega)
  clear c3
  have H' := Aside0.mk H
  clear H
  go_enter Try.func52, Try.ntmps52
  go_wp2
  repeat (go_quiet (fail); try go_wp2)
  go_loopg [13] k (fun kq v13 w' => ∃ (x13_1 : Int), v13 = .int .i64 x13_1 ∧ Aside0 (spec_l1Same.l0 kq l0 l1 (l0.length : Int) x13_1 = some r) ∧ Aside0 (kq ≤ k) ∧ Drawn0 w w')
  case atStart => exact ⟨(0), sq_e, H', ⟨Nat.le_refl _⟩, by repeat (first | exact Drawn0.refl _ | apply Drawn0.step)⟩
  case round =>
   clear H'
   (try clear c1); (try clear p2); (try clear c3); (try clear c3b0); (try clear c3b1); (try clear c3b2)
   obtain ⟨x13_1, rfl, HA, HK1, ⟨m1, rfl⟩⟩ := hrel
   cases gk with
   | zero => exact absurd HA.out (by simp [spec_l1Same.l0])
   | succ k1 =>
    have H := HA.out
    clear HA
    simp only [spec_l1Same.l0] at H
    by_cases c4 : x13_1 < (l0.length : Int)
    ·rw [if_pos c4] at H
     have c4b0 : decide (x13_1 < (l0.length : Int)) = true := decide_eq_true c4
     clear c4
     by_cases c5 : 0 ≤ x13_1
     rotate_left
     ·rw [if_neg c5] at H
      exact absurd H (by simp)
     rw [if_pos c5] at H
     have c5b0 : decide (0 ≤ x13_1) = true := decide_eq_true c5
     clear c5
     by_cases c6 : x13_1 < (l0.length : Int)
     rotate_left
     ·rw [if_neg c6] at H
      exact absurd H (by simp)
     rw [if_pos c6] at H
     have c6b0 : decide (x13_1 < (l0.length : Int)) = true := decide_eq_true c6
     clear c6
     by_cases c7 : x13_1 < (l1.length : Int)
     rotate_left
     ·rw [if_neg c7] at H
      exact absurd H (by simp)
     rw [if_pos c7] at H
     have c7b0 : decide (x13_1 < (l1.length : Int)) = true := decide_eq_true c7
     clear c7
     by_cases c8 : (rd l0 x13_1) = (rd l1 x13_1)
     ·rw [if_pos c8] at H
      have c8b0 : ((rd l0 x13_1) == (rd l1 x13_1)) = true := beq_iff_eq.mpr c8
      have c8b1 : ((rd l0 x13_1) != (rd l1 x13_1)) = false := bne_eq_false_iff_eq.mpr c8
      clear c8
      have H' := Aside0.mk H
      clear H
      have p177 : 0 ≤ (x13_1 : Int) := sq_d
      have q177 : x13_1 < (l0.length : Int) := sq_d
      obtain ⟨ad177, e177, hx177_0⟩ := Kd.at_int HR0.out x13_1 p177 q177
      cases e177
      replace p177 := eq_true p177
      replace q177 := eq_true q177
      have p178 : 0 ≤ (x13_1 : Int) := sq_d
      have q178 : x13_1 < (l1.length : Int) := sq_d
      obtain ⟨ad178, e178, hx178_0⟩ := Kd.at_int HR1.out x13_1 p178 q178
      cases e178
      replace p178 := eq_true p178
      replace q178 := eq_true q178
      go_wp2
      repeat (go_quiet (fail); try go_wp2)
      go_roundg k1
      case measure => have := HK1.out; omega
      case rel => exact ⟨(wrap64 (x13_1 + 1)), sq_e, H', ⟨by have := HK1.out; omega⟩, by repeat (first | exact Drawn0.refl _ | apply Drawn0.step)⟩
     ·rw [if_neg c8] at H
      have c8b0 : ((rd l0 x13_1) == (rd l1 x13_1)) = false := beq_eq_false_iff_ne.mpr c8
      have c8b1 : ((rd l0 x13_1) != (rd l1 x13_1)) = true := bne_iff_ne.mpr c8
      obtain rfl := Option.some.inj H
      have p177 : 0 ≤ (x13_1 : Int) := sq_d
      have q177 : x13_1 < (l0.length : Int) := sq_d
      obtain ⟨ad177, e177, hx177_0⟩ := Kd.at_int HR0.out x13_1 p177 q177
      cases e177
      replace p177 := eq_true p177
      replace q177 := eq_true q177
      have p178 : 0 ≤ (x13_1 : Int) := sq_d
      have q178 : x13_1 < (l1.length : Int) := sq_d
      obtain ⟨ad178, e178, hx178_0⟩ := Kd.at_int HR1.out x13_1 p178 q178
      cases e178
      replace p178 := eq_true p178
      replace q178 := eq_true q178
      go_wp2
      repeat (go_quiet (fail); try go_wp2)
      go_ret
      exact ⟨by first | rfl | (simp; done) | (simp [ext_bne_nil, ext_beq_nil]; done) | (simp [*]; done), by repeat (first | exact Drawn0.refl _ | apply Drawn0.step)⟩
    ·rw [if_neg c4] at H
     have c4b0 : decide (x13_1 < (l0.length : Int)) = false := decide_eq_false c4
     clear c4
     obtain rfl := Option.some.inj H
     go_wp2
     repeat (go_quiet (fail); try go_wp2)
     go_ret
     exact ⟨by first | rfl | (simp; done) | (simp [ext_bne_nil, ext_beq_nil]; done) | (simp [*]; done), by repeat (first | exact Drawn0.refl _ | apply Drawn0.step)⟩
 ·rw [if_neg c3] at H
  have c3b0 : ((l0.length : Int) == (l1.length : Int)) = false := beq_eq_false_iff_ne.mpr c3
  have c3b1 : ((l0.length : Int) != (l1.length : Int)) = true := bne_iff_ne.mpr c3
  have c3b2 : (l0.length == l1.length) = false := by first | simpa using c3 | (simp at c3 ⊢; omega)
  obtain rfl := Option.some.inj H
  go_enter Try.func52, Try.ntmps52
  go_wp2
  repeat (go_quiet (fail); try go_wp2)
  go_ret
  exact ⟨by first | rfl | (simp; done) | (simp [ext_bne_nil, ext_beq_nil]; done) | (simp [*]; done), by repeat (first | exact Drawn0.refl _ | apply Drawn0.step)⟩

end Go.Proofs.Ytlohhmoaomlieaa.QFnExactNearestOf
