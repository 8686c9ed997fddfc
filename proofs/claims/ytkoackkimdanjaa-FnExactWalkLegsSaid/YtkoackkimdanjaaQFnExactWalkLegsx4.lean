-- Written by this session's own program (wip/pp_patch.py, wip/pp.sh) out of the given translation. Not trusted: Lean checks it.
import Derived.Test.YtkoackkimdanjaaQFnExactWalkLegsx0
import Derived.Test.YtkoackkimdanjaaQFnExactWalkLegsx2
namespace Go.Proofs.Ytkoackkimdanjaa.QFnExactWalkLegs
open Go.RowKit Go.Proofs.YtkoackkimdanjaaW.PrintWords Go.Proofs.YtkoackkimdanjaaW.PrintLast Go.Proofs.YtkoackkimdanjaaW.PrintMore
attribute [local go_sem] max2_int min2_int max_two min_two max_three min_three max_four min_four   -- for this text's walks alone
open Go.Proofs.Ytkoackkimdanjaa.Ext
attribute [local go_sem high] ext_gtr ext_leq
set_option linter.unusedVariables false
set_option linter.unusedSimpArgs false

theorem kids_x4 {w wc wr : World} {S : Nat → Prop} {ad : Addr} {n : Nat} {xs : List S59} (h : ∀ W_, Kept w W_ S → Kd.C k59 W_ (some ad) n xs) (i : Int) (h0 : 0 ≤ i) (h1 : i < n) (hk1 : Kept w wc S) (hk2 : Kept w wr S) {A : Option Addr} {c : Nat}
    (hc : wc.cell? ⟨(ad.add (i.toNat * 4)).block, (ad.add (i.toNat * 4)).off + 3, none⟩ = some (.slice A (rd_T59 xs i).f3.length c)) : (Kd.int .i64).C wr A (rd_T59 xs i).f3.length (rd_T59 xs i).f3 := by
  have hn : 0 < n := by omega
  have hb : ¬ S ad.block := Kd.foot_neS h hn (by decide)
  have hlt : ad.block < w.heap.size := Kd.foot_ltS h hn (by decide)
  have he : wr.heap[ad.block]? = wc.heap[ad.block]? := (hk2.2 _ hlt hb).trans (hk1.2 _ hlt hb).symm
  obtain ⟨ad', A', c', e, _, _, _, h3, _, hC⟩ := at_T59 (h wr hk2) i h0 h1
  injection e with e
  subst e
  have hb2 : ∀ m, (ad.add m).block = ad.block := fun m => by first | exact add_block _ _ | exact Kd.add_block _ _ | (rw [add_block])
  have hcc : wr.cell? ⟨(ad.add (i.toNat * 4)).block, (ad.add (i.toNat * 4)).off + 3, none⟩ = wc.cell? ⟨(ad.add (i.toNat * 4)).block, (ad.add (i.toNat * 4)).off + 3, none⟩ := by
    simp only [hb2]
    unfold World.cell?
    simp only [he]
  rw [hcc, hc] at h3
  injection h3 with h3
  injection h3 with h3 _ _
  rw [h3]
  exact hC
/-! ### spec_l13Many: function 89 -/
def spec_l13Many.l0 : Nat → Int → List (S59) → Int → Int → Option (Int)
 | 0, _, _, _, _ => none
 | k + 1, x3, x6, x7, x8 => if x8 < x7 then (if 0 ≤ x8 then (if x8 < (x6.length : Int) then (spec_l13Many.l0 k (wrap64 (x3 + (((rd_T59 x6 x8).f3).length : Int))) x6 x7 (wrap64 (x8 + 1))) else (none)) else (none)) else (some x3)
def spec_l13Many.f (k : Nat) (l0 : List (S59)) : Option (Int) := spec_l13Many.l0 k 0 l0 (l0.length : Int) 0
theorem spec_l13Many.mono_l : ∀ k, (∀ y0 y1 y2 y3, LeO (spec_l13Many.l0 k y0 y1 y2 y3) (spec_l13Many.l0 (k + 1) y0 y1 y2 y3))
 | 0 => fun _ _ _ _ r h => by simp [spec_l13Many.l0] at h
 | k + 1 => by
  have ih0 := spec_l13Many.mono_l k
  ·intro y0 y1 y2 y3
   unfold spec_l13Many.l0
   repeat' first
   | (with_reducible exact ih0 _ _ _ _)
   | (with_reducible exact LeO.refl _)
   | (with_reducible exact LeO.none _)
   | (with_reducible refine LeO.ite ?_ ?_)
   | (with_reducible refine LeO.bind ?_ (fun _ => ?_))
   | exact ih0 _ _ _ _
   | exact LeO.none _
   | refine LeO.ite ?_ ?_
   | refine LeO.bind ?_ (fun _ => ?_)
theorem spec_l13Many.mono : ∀ a0 k, LeO (spec_l13Many.f k a0) (spec_l13Many.f (k + 1) a0) := by
 intro a0 k
 have ih0 := spec_l13Many.mono_l k
 unfold spec_l13Many.f
 repeat' first
   | (with_reducible exact ih0 _ _ _ _)
   | (with_reducible exact LeO.refl _)
   | (with_reducible exact LeO.none _)
   | (with_reducible refine LeO.ite ?_ ?_)
   | (with_reducible refine LeO.bind ?_ (fun _ => ?_))
   | exact ih0 _ _ _ _
   | exact LeO.none _
   | refine LeO.ite ?_ ?_
   | refine LeO.bind ?_ (fun _ => ?_)
set_option maxHeartbeats 8000000 in
set_option maxRecDepth 100000 in
theorem spec_l13Many.calls (k : Nat) (A0 : Option Addr) (c0 : Nat) (l0 : List (S59)) (r : Int) (w : World) (hr0 : Kd.C k59 w A0 l0.length l0) (hc0 : l0.length ≤ c0) (h : spec_l13Many.f k l0 = some r) :
  Calls Try.prog 89 #[.slice A0 l0.length c0] w fun e w' => e = .returned (.int .i64 r) ∧ Below w.heap.size w w' := by
 have hu59 := Try.underlying59
 have HR0 := Aside0.mk hr0
 have HC0 := Aside0.mk hc0
 clear hr0 hc0
 have HB := Aside0.mk (Below.refl w.heap.size w)
 have H : (spec_l13Many.l0 k 0 l0 (l0.length : Int) 0) = some r := h
 clear h
 have H' := Aside0.mk H
 clear H
 go_enter Try.func89, Try.ntmps89
 go_wp2
 go_loopg [3, 8] k (fun kq v3 v8 w' => ∃ (x3_1 : Int) (x8_1 : Int), v3 = .int .i64 x3_1 ∧ v8 = .int .i64 x8_1 ∧ Aside0 (spec_l13Many.l0 kq x3_1 l0 (l0.length : Int) x8_1 = some r) ∧ Aside0 (kq ≤ k) ∧ Aside0 (Below w.heap.size w w'))
 case atStart => exact ⟨(0), (0), sq_e, sq_e, H', ⟨Nat.le_refl _⟩, ⟨sq_b⟩⟩
 case round =>
  clear H'
  obtain ⟨x3_1, x8_1, rfl, rfl, HA, HK1, HB⟩ := hrel
  cases gk with
  | zero => exact absurd HA.out (by simp [spec_l13Many.l0])
  | succ k1 =>
   have H := HA.out
   clear HA
   simp only [spec_l13Many.l0] at H
   by_cases c2 : x8_1 < (l0.length : Int)
   ·rw [if_pos c2] at H
    have c2b0 : decide (x8_1 < (l0.length : Int)) = true := decide_eq_true c2
    clear c2
    by_cases c3 : 0 ≤ x8_1
    rotate_left
    ·rw [if_neg c3] at H
     exact absurd H (by simp)
    rw [if_pos c3] at H
    have c3b0 : decide (0 ≤ x8_1) = true := decide_eq_true c3
    clear c3
    by_cases c4 : x8_1 < (l0.length : Int)
    rotate_left
    ·rw [if_neg c4] at H
     exact absurd H (by simp)
    rw [if_pos c4] at H
    have c4b0 : decide (x8_1 < (l0.length : Int)) = true := decide_eq_true c4
    clear c4
    have H' := Aside0.mk H
    clear H
    have p144 : 0 ≤ (x8_1 : Int) := sq_d
    have q144 : x8_1 < (l0.length : Int) := sq_d
    obtain ⟨ad144, A144_3, c144_3, e144, hx144_0, hx144_1, hx144_2, hx144_3, hl144_3, hi144_3⟩ := at_T59 HR0.out x8_1 p144 q144
    cases e144
    try replace hx144_0 := (HB.out.cell (World.block_lt_of_cell? w _ hx144_0)).trans hx144_0
    try replace hx144_1 := (HB.out.cell (World.block_lt_of_cell? w _ hx144_1)).trans hx144_1
    try replace hx144_2 := (HB.out.cell (World.block_lt_of_cell? w _ hx144_2)).trans hx144_2
    try replace hx144_3 := (HB.out.cell (World.block_lt_of_cell? w _ hx144_3)).trans hx144_3
    have HR144_3 := Aside0.mk hi144_3
    have HC144_3 := Aside0.mk hl144_3
    clear hi144_3 hl144_3
    replace p144 := eq_true p144
    replace q144 := eq_true q144
    go_wp2_with (first | ((with_reducible refine gate_dst (N := 5) rfl ?_); refine box_event ?hg (N := 5) ?hd (cs := #[.int .i64 0, .int .i64 0, .int .i64 0, .slice none 0 0]) (t := 59) ?hr ?_; (case hd => rfl); (case hg => rfl); (case hr => first | (go_simp; done) | (go_simp; rfl)); intro gb145 hg w5 hbox hb; have n0_ := Aside0.mk (below_step sq_b hb); have n1_ := Aside0.mk (hbox); have n2_ := Aside0.mk ((by rw [hg]; exact (below_size sq_b) : w.heap.size ≤ gb145)); have n3_ := Aside0.mk ((by rw [hg]; exact (below_size sq_b) : w.heap.size ≤ gb145)); clear HB; have HB := n0_; have BK145 := n1_; have GW145 := n2_; have GE145 := n3_; clear n0_ n1_ n2_ n3_; clear hb hbox hg; have hcz6_0 : w5.cell? ⟨gb145, 0, none⟩ = some (.int .i64 0) := (blk_cell BK145.out 0).trans rfl; have hcz6_1 : w5.cell? ⟨gb145, 1, none⟩ = some (.int .i64 0) := (blk_cell BK145.out 1).trans rfl; have hcz6_2 : w5.cell? ⟨gb145, 2, none⟩ = some (.int .i64 0) := (blk_cell BK145.out 2).trans rfl; have hcz6_3 : w5.cell? ⟨gb145, 3, none⟩ = some (.slice none 0 0) := (blk_cell BK145.out 3).trans rfl; have hfz6_0 := blk_frozen BK145.out 0; have hfz6_1 := blk_frozen BK145.out 1; have hfz6_2 := blk_frozen BK145.out 2; have hfz6_3 := blk_frozen BK145.out 3))
    go_roundg k1
    case measure => have := HK1.out; omega
    case rel => exact ⟨(wrap64 (x3_1 + (((rd_T59 l0 x8_1).f3).length : Int))), (wrap64 (x8_1 + 1)), sq_e, sq_e, H', ⟨by have := HK1.out; omega⟩, ⟨by repeat (first | (with_reducible first | exact HB.out | apply below_alloc | apply pw_below_drewN | apply below_drew1 | refine below_set ?_ GE145.out) | exact HB.out)⟩⟩
   ·rw [if_neg c2] at H
    have c2b0 : decide (x8_1 < (l0.length : Int)) = false := decide_eq_false c2
    clear c2
    obtain rfl := Option.some.inj H
    go_wp2
    go_ret
    exact ⟨sq_w, sq_b⟩

/-! ### spec_l13Entries: function 90 -/
mutual
def spec_l13Entries.j0 : Nat → List (S59) → Int → ByteArray → List (S48) → Option ((List (S48)))
 | 0, _, _, _, _ => none
 | k + 1, x0, x1, x2, x3 => if 0 ≤ x1 then (if x1 < (x0.length : Int) then (spec_l13Entries.l0 k x0 x1 x2 x3 ((rd_T59 x0 x1).f3) (((rd_T59 x0 x1).f3).length : Int) 0) else (none)) else (none)
def spec_l13Entries.l0 : Nat → List (S59) → Int → ByteArray → List (S48) → List Int → Int → Int → Option ((List (S48)))
 | 0, _, _, _, _, _, _, _ => none
 | k + 1, x0, x1, x2, x3, x31, x32, x33 => if x33 < x32 then (if 0 ≤ x33 then (if x33 < (x31.length : Int) then (if (rd x31 x33) > x1 then (if (rd x31 x33) < (x0.length : Int) then (if (x3.length : Int) ≤ 20 then (if (x2.size : Int) < 12 then (if 0 ≤ (rd x31 x33) then ((spec_l1In.f ((rd_T59 x0 (rd x31 x33)).f0) 0 25).bind fun t154 => (if t154 = true then ((some (([(wrap64 (97 + ((rd_T59 x0 (rd x31 x33)).f0))) % 256] : List Int) : List Int)).bind fun y156 => (if x2.size + (strOfNums y156).size ≤ 9223372036854775807 then ((spec_l13Entries.f k x0 (rd x31 x33) (x2 ++ (strOfNums y156)) x3).bind fun t159 => (spec_l13Entries.l0 k x0 x1 x2 t159 x31 x32 (wrap64 (x33 + 1)))) else (none))) else (spec_l13Entries.l0 k x0 x1 x2 x3 x31 x32 (wrap64 (x33 + 1))))) else (none)) else (spec_l13Entries.l0 k x0 x1 x2 x3 x31 x32 (wrap64 (x33 + 1)))) else (spec_l13Entries.l0 k x0 x1 x2 x3 x31 x32 (wrap64 (x33 + 1)))) else (spec_l13Entries.l0 k x0 x1 x2 x3 x31 x32 (wrap64 (x33 + 1)))) else (spec_l13Entries.l0 k x0 x1 x2 x3 x31 x32 (wrap64 (x33 + 1)))) else (none)) else (none)) else (some x3)
def spec_l13Entries.f : Nat → List (S59) → Int → ByteArray → List (S48) → Option ((List (S48)))
 | 0, _, _, _, _ => none
 | k + 1, l0, a1, a2, l3 => if 0 ≤ a1 then (if a1 < (l0.length : Int) then (if ((rd_T59 l0 a1).f1) > 0 then (if l3.length < 5864062014805 then (spec_l13Entries.j0 k l0 a1 a2 (l3 ++ [(⟨a2, (rd_T59 l0 a1).f1⟩ : S48)])) else (none)) else (spec_l13Entries.j0 k l0 a1 a2 l3)) else (none)) else (none)
end
theorem spec_l13Entries.mono_l : ∀ k, (∀ y0 y1 y2 y3, LeO (spec_l13Entries.f k y0 y1 y2 y3) (spec_l13Entries.f (k + 1) y0 y1 y2 y3)) ∧ (∀ y0 y1 y2 y3, LeO (spec_l13Entries.j0 k y0 y1 y2 y3) (spec_l13Entries.j0 (k + 1) y0 y1 y2 y3)) ∧ (∀ y0 y1 y2 y3 y4 y5 y6, LeO (spec_l13Entries.l0 k y0 y1 y2 y3 y4 y5 y6) (spec_l13Entries.l0 (k + 1) y0 y1 y2 y3 y4 y5 y6))
 | 0 => ⟨fun _ _ _ _ r h => by simp [spec_l13Entries.f] at h, fun _ _ _ _ r h => by simp [spec_l13Entries.j0] at h, fun _ _ _ _ _ _ _ r h => by simp [spec_l13Entries.l0] at h⟩
 | k + 1 => by
  obtain ⟨ih0, ih1, ih2⟩ := spec_l13Entries.mono_l k
  refine ⟨?_, ?_, ?_⟩
  ·intro y0 y1 y2 y3
   unfold spec_l13Entries.f
   repeat' first
   | (with_reducible exact ih0 _ _ _ _)
   | (with_reducible exact ih1 _ _ _ _)
   | (with_reducible exact ih2 _ _ _ _ _ _ _)
   | (with_reducible exact LeO.refl _)
   | (with_reducible exact LeO.none _)
   | (with_reducible refine LeO.ite ?_ ?_)
   | (with_reducible refine LeO.bind ?_ (fun _ => ?_))
   | exact ih0 _ _ _ _
   | exact ih1 _ _ _ _
   | exact ih2 _ _ _ _ _ _ _
   | exact LeO.none _
   | refine LeO.ite ?_ ?_
   | refine LeO.bind ?_ (fun _ => ?_)
  ·intro y0 y1 y2 y3
   unfold spec_l13Entries.j0
   repeat' first
   | (with_reducible exact ih0 _ _ _ _)
   | (with_reducible exact ih1 _ _ _ _)
   | (with_reducible exact ih2 _ _ _ _ _ _ _)
   | (with_reducible exact LeO.refl _)
   | (with_reducible exact LeO.none _)
   | (with_reducible refine LeO.ite ?_ ?_)
   | (with_reducible refine LeO.bind ?_ (fun _ => ?_))
   | exact ih0 _ _ _ _
   | exact ih1 _ _ _ _
   | exact ih2 _ _ _ _ _ _ _
   | exact LeO.none _
   | refine LeO.ite ?_ ?_
   | refine LeO.bind ?_ (fun _ => ?_)
  ·intro y0 y1 y2 y3 y4 y5 y6
   unfold spec_l13Entries.l0
   repeat' first
   | (with_reducible exact ih0 _ _ _ _)
   | (with_reducible exact ih1 _ _ _ _)
   | (with_reducible exact ih2 _ _ _ _ _ _ _)
   | (with_reducible exact LeO.refl _)
   | (with_reducible exact LeO.none _)
   | (with_reducible refine LeO.ite ?_ ?_)
   | (with_reducible refine LeO.bind ?_ (fun _ => ?_))
   | exact ih0 _ _ _ _
   | exact ih1 _ _ _ _
   | exact ih2 _ _ _ _ _ _ _
   | exact LeO.none _
   | refine LeO.ite ?_ ?_
   | refine LeO.bind ?_ (fun _ => ?_)
theorem spec_l13Entries.mono : ∀ a0 a1 a2 a3 k, LeO (spec_l13Entries.f k a0 a1 a2 a3) (spec_l13Entries.f (k + 1) a0 a1 a2 a3) := by
 intro a0 a1 a2 a3 k
 obtain ⟨ih0, ih1, ih2⟩ := spec_l13Entries.mono_l k
 exact ih0 a0 a1 a2 a3
set_option maxHeartbeats 8000000 in
set_option maxRecDepth 100000 in
theorem spec_l13Entries.calls (k : Nat) : ∀ (A0 : Option Addr) (c0 : Nat) (l0 : List (S59)) (a1 : Int) (a2 : ByteArray) (P3_ : Nat → Prop) (u9000_ : Value) (l3 : List (S48)) (r : List (S48)) (w0 w : World) (hB : Below w0.heap.size w0 w) (hr0 : ∀ W_, Kept w W_ (fun k_ => P3_ k_) → Kd.C k59 W_ A0 l0.length l0) (hc0 : l0.length ≤ c0) (ho3 : Kd.R k48 48 w w0.heap.size P3_ u9000_ l3) (h : spec_l13Entries.f k l0 a1 a2 l3 = some r),
  Calls Try.prog 90 #[.slice A0 l0.length c0, .int .i64 a1, .string a2, u9000_] w fun e w' => ∃ v0_ : Value, e = .returned (v0_) ∧ Kd.R k48 48 w' w0.heap.size (fun k_ => (P3_ k_ ∨ w.heap.size ≤ k_)) v0_ r ∧ Below w0.heap.size w0 w' ∧ Kept w w' (fun k_ => P3_ k_) := by
 induction k using Nat.strongRecOn with
 | _ k ih =>
 intro A0 c0 l0 a1 a2 P3_ u9000_ l3 r w0 w hB hr0 hc0 ho3 h
 cases k with
 | zero => exact absurd h (by simp [spec_l13Entries.f])
 | succ k =>
 simp only [spec_l13Entries.f] at h
 have hu48 := Try.underlying48
 have HR0 := Aside0.mk hr0
 have HC0 := Aside0.mk hc0
 clear hr0 hc0
 have HO3 := Aside0.mk (show Kd.R k48 48 w w0.heap.size (fun k_ => (P3_ k_ ∨ w.heap.size ≤ k_)) u9000_ l3 from Kd.R_mono ho3 (fun k_ hk => (.inl hk)))
 have HK := Aside0.mk (Kept.refl w (fun k_ => P3_ k_))
 have HW0 := Aside0.mk hB.size
 have HB := Aside0.mk hB
 clear hB
 have H : (if 0 ≤ a1 then (if a1 < (l0.length : Int) then (if ((rd_T59 l0 a1).f1) > 0 then (if l3.length < 5864062014805 then (spec_l13Entries.j0 k l0 a1 a2 (l3 ++ [(⟨a2, (rd_T59 l0 a1).f1⟩ : S48)])) else (none)) else (spec_l13Entries.j0 k l0 a1 a2 l3)) else (none)) else (none)) = some r := h
 clear h
 by_cases c5 : 0 ≤ a1
 ·rw [if_pos c5] at H
  have c5b0 : decide (0 ≤ a1) = true := decide_eq_true c5
  clear c5
  by_cases c6 : a1 < (l0.length : Int)
  rotate_left
  ·rw [if_neg c6] at H
   exact absurd H (by simp)
  rw [if_pos c6] at H
  have c6b0 : decide (a1 < (l0.length : Int)) = true := decide_eq_true c6
  clear c6
  have HC7 := Aside0.mk H
  clear H
  have p146 : 0 ≤ (a1 : Int) := sq_d
  have q146 : a1 < (l0.length : Int) := sq_d
  obtain ⟨ad146, A146_3, c146_3, e146, hx146_0, hx146_1, hx146_2, hx146_3, hl146_3, hi146_3⟩ := at_T59 (Kd.C_kept_now HR0.out HK.out) a1 p146 q146
  cases e146
  have HR146_3 := Aside0.mk hi146_3
  have HC146_3 := Aside0.mk hl146_3
  clear hi146_3 hl146_3
  replace p146 := eq_true p146
  replace q146 := eq_true q146
  go_enter Try.func90, Try.ntmps90
  go_upto_if 16 with (fail)
  go_cut [3] (fun v3 wc => ∃ (kq : Nat) (x3_6 : List (S48)), Aside0 (spec_l13Entries.j0 kq l0 a1 a2 x3_6 = some r) ∧ Aside0 (kq ≤ k) ∧ Aside0 (Kd.R k48 48 wc w0.heap.size (fun k_ => (P3_ k_ ∨ w.heap.size ≤ k_)) v3 x3_6) ∧ Aside0 (Kept w wc (fun k_ => P3_ k_)) ∧ Aside0 (Below w0.heap.size w0 wc))
  case first =>
   have H := HC7.out
   clear HC7
   by_cases c8 : ((rd_T59 l0 a1).f1) > 0
   ·rw [if_pos c8] at H
    have c8b0 : decide (0 < ((rd_T59 l0 a1).f1)) = true := decide_eq_true c8
    clear c8
    (first | rw [c8b0] | (simp only [i64_w, i32_w]; rw [c8b0]) | skip)
    by_cases c9 : l3.length < 5864062014805
    rotate_left
    ·rw [if_neg c9] at H
     exact absurd H (by simp)
    rw [if_pos c9] at H
    have LMc9 := Aside0.mk c9
    clear c9
    obtain ⟨y148, hy148⟩ : ∃ y_ : List (S48), y_ = (l3 ++ [(⟨a2, (rd_T59 l0 a1).f1⟩ : S48)]) := ⟨_, rfl⟩
    replace H : (spec_l13Entries.j0 k l0 a1 a2 y148) = some r := by first | (rw [hy148]; with_reducible exact H) | (have H2_ := (Option.bind_some _ _).symm.trans H; rw [hy148]; with_reducible exact H2_) | (have H2_ := (Option.bind_some _ _).symm.trans H; with_reducible exact H2_) | with_reducible exact H | (rw [hy148]; exact H) | exact H
    have Ny148 := Aside0.mk hy148
    clear hy148
    have H' := Aside0.mk H
    clear H
    have p147 : 0 ≤ (a1 : Int) := sq_d
    have q147 : a1 < (l0.length : Int) := sq_d
    obtain ⟨ad147, A147_3, c147_3, e147, hx147_0, hx147_1, hx147_2, hx147_3, hl147_3, hi147_3⟩ := at_T59 (Kd.C_kept_now HR0.out HK.out) a1 p147 q147
    obtain rfl : ad146 = ad147 := (by injection e147)
    have HR147_3 := Aside0.mk hi147_3
    have HC147_3 := Aside0.mk hl147_3
    clear hi147_3 hl147_3
    replace p147 := eq_true p147
    replace q147 := eq_true q147
    go_wp2_with (first | ((with_reducible refine gate_builtin (b := .append) (xs := #[.tmp 17, .tmp 25]) rfl ?_); (try (refine gate_guard (by rfl) ?_; dsimp only)); at_builtin; refine Kd.R_append k48 (w0 := w0) w0.heap.size rfl (.tmp 17) (.tmp 25) 27 48 (.agg #[(.string ⟨#[]⟩), (.int .i64 0)]) 24 rfl Try.underlying27 info48 rfl (by decide) (by omega) u9000_ l3 (⟨a2, (rd_T59 l0 a1).f1⟩ : S48) [.string a2, .int .i64 ((rd_T59 l0 a1).f1)] (fun k_ => (P3_ k_ ∨ w.heap.size ≤ k_)) (fun _ => False) rfl rfl ?aP (fun _ hk => hk.elim) ?aF ?aO ?aB ?aS ?aL ?_; (case aP => exact k48_mkM _ _ _ (⟨a2, (rd_T59 l0 a1).f1⟩ : S48)); (case aB => exact sq_b); (case aF => exact (fun k_ hk => (.inr (Nat.le_trans (by first | exact HK.out.1 | exact (show Kept w _ (fun k_ => P3_ k_) from by repeat (first | (with_reducible first | exact HK.out | apply Kept.alloc | apply Kept.drewN | apply Kept.drew) | exact HK.out)).1) hk)))); (case aO => exact (sq_r HO3)); (case aS => exact (below_size sq_b)); (case aL => have := LMc9.out; omega); intro v149 w10 ho hb hg hat; rw [← Ny148.out] at ho; have n0_ := Aside0.mk (hb); have n1_ := Aside0.mk (Kept.of_grown (S := (fun k_ => P3_ k_)) hg sq_k (fun k_ e_ => (HO3.out.1 k_ e_))); have n2_ := Aside0.mk (ho); clear HB; clear HK; clear HO3; have HB := n0_; have HK := n1_; have HO150 := n2_; clear n0_ n1_ n2_; clear ho hb hg hat))
    go_meet
    case rel => exact ⟨_, (y148), H', ⟨by first | omega | exact Nat.le_refl _⟩, ⟨by (with_reducible repeat (first | apply Kd.R_alloc | apply Kd.R_drewN | apply Kd.R_drew)); exact HO150.out⟩, ⟨sq_k⟩, ⟨sq_b⟩⟩
   ·rw [if_neg c8] at H
    have c8b0 : decide (0 < ((rd_T59 l0 a1).f1)) = false := decide_eq_false c8
    clear c8
    (first | rw [c8b0] | (simp only [i64_w, i32_w]; rw [c8b0]) | skip)
    have H' := Aside0.mk H
    clear H
    go_wp2
    go_meet
    case rel => exact ⟨_, (l3), H', ⟨by first | omega | exact Nat.le_refl _⟩, ⟨by (with_reducible repeat (first | apply Kd.R_alloc | apply Kd.R_drewN | apply Kd.R_drew)); exact HO3.out⟩, ⟨sq_k⟩, ⟨sq_b⟩⟩
  case rest =>
   clear HC7
   (try clear c1); (try clear p1); (try clear q1); (try clear hx1); (try clear p2); (try clear c5); (try clear c5b0); (try clear c6); (try clear c6b0); (try clear c8); (try clear c8b0); (try clear c9); (try clear hx146_0); (try clear hx146_1); (try clear hx146_2); (try clear hx146_3); (try clear hx147_0); (try clear hx147_1); (try clear hx147_2); (try clear hx147_3); (try clear p146); (try clear p147)
   (try clear q146); (try clear q147)
   obtain ⟨kq, x3_6, HA, HJ6, HO_3, HK, HB⟩ := hcut
   cases kq with
   | zero => exact absurd HA.out (by simp [spec_l13Entries.j0])
   | succ kj6 =>
    have H := HA.out
    clear HA
    simp only [spec_l13Entries.j0] at H
    by_cases c11 : 0 ≤ a1
    rotate_left
    ·rw [if_neg c11] at H
     exact absurd H (by simp)
    rw [if_pos c11] at H
    have c11b0 : decide (0 ≤ a1) = true := decide_eq_true c11
    clear c11
    by_cases c12 : a1 < (l0.length : Int)
    rotate_left
    ·rw [if_neg c12] at H
     exact absurd H (by simp)
    rw [if_pos c12] at H
    have c12b0 : decide (a1 < (l0.length : Int)) = true := decide_eq_true c12
    clear c12
    have H' := Aside0.mk H
    clear H
    have p151 : 0 ≤ (a1 : Int) := sq_d
    have q151 : a1 < (l0.length : Int) := sq_d
    obtain ⟨ad151, A151_3, c151_3, e151, hx151_0, hx151_1, hx151_2, hx151_3, hl151_3, hi151_3⟩ := at_T59 (Kd.C_kept_now HR0.out HK.out) a1 p151 q151
    have HHX151 := Aside0.mk hx151_3
    have HHK151 := Aside0.mk HK.out
    have HHP151 := Aside0.mk (And.intro p151 q151)
    obtain rfl : ad146 = ad151 := (by injection e151)
    have HR151_3 := Aside0.mk hi151_3
    have HC151_3 := Aside0.mk hl151_3
    clear hi151_3 hl151_3
    replace p151 := eq_true p151
    replace q151 := eq_true q151
    go_wp2
    go_loopg [3, 33] kj6 (fun kq v3 v33 w' => ∃ (x3_2 : List (S48)) (x33_2 : Int), v33 = .int .i64 x33_2 ∧ Aside0 (spec_l13Entries.l0 kq l0 a1 a2 x3_2 ((rd_T59 l0 a1).f3) (((rd_T59 l0 a1).f3).length : Int) x33_2 = some r) ∧ Aside0 (kq ≤ kj6) ∧ Aside0 (Kd.R k48 48 w' w0.heap.size (fun k_ => (P3_ k_ ∨ w.heap.size ≤ k_)) v3 x3_2) ∧ Aside0 (Kept w w' (fun k_ => P3_ k_)) ∧ Aside0 (Below w0.heap.size w0 w'))
    case atStart => exact ⟨(x3_6), (0), sq_e, H', ⟨Nat.le_refl _⟩, ⟨by (with_reducible repeat (first | apply Kd.R_alloc | apply Kd.R_drewN | apply Kd.R_drew)); exact HO_3.out⟩, ⟨sq_k⟩, ⟨sq_b⟩⟩
    case round =>
     clear H'
     (try clear c1); (try clear p1); (try clear q1); (try clear hx1); (try clear p2); (try clear c5); (try clear c5b0); (try clear c6); (try clear c6b0); (try clear c8); (try clear c8b0); (try clear c9); (try clear c11); (try clear c11b0); (try clear c12); (try clear c12b0); (try clear hx146_0); (try clear hx146_1); (try clear hx146_2); (try clear hx146_3); (try clear hx147_0); (try clear hx147_1)
     (try clear hx147_2); (try clear hx147_3); (try clear hx151_0); (try clear hx151_1); (try clear hx151_2); (try clear hx151_3); (try clear p1); (try clear p146); (try clear p147); (try clear p151); (try clear p2); (try clear q1); (try clear q146); (try clear q147); (try clear q151)
     obtain ⟨x3_2, x33_2, rfl, HA, HK2, HO_3, HK, HB⟩ := hrel
     cases gk with
     | zero => exact absurd HA.out (by simp [spec_l13Entries.l0])
     | succ k2 =>
      have H := HA.out
      clear HA
      simp only [spec_l13Entries.l0] at H
      by_cases c13 : x33_2 < (((rd_T59 l0 a1).f3).length : Int)
      ·rw [if_pos c13] at H
       have c13b0 : decide (x33_2 < (((rd_T59 l0 a1).f3).length : Int)) = true := decide_eq_true c13
       clear c13
       by_cases c14 : 0 ≤ x33_2
       rotate_left
       ·rw [if_neg c14] at H
        exact absurd H (by simp)
       rw [if_pos c14] at H
       have c14b0 : decide (0 ≤ x33_2) = true := decide_eq_true c14
       clear c14
       by_cases c15 : x33_2 < (((rd_T59 l0 a1).f3).length : Int)
       rotate_left
       ·rw [if_neg c15] at H
        exact absurd H (by simp)
       rw [if_pos c15] at H
       have c15b0 : decide (x33_2 < (((rd_T59 l0 a1).f3).length : Int)) = true := decide_eq_true c15
       clear c15
       by_cases c16 : (rd ((rd_T59 l0 a1).f3) x33_2) > a1
       ·rw [if_pos c16] at H
        have c16b0 : decide (a1 < (rd ((rd_T59 l0 a1).f3) x33_2)) = true := decide_eq_true c16
        clear c16
        by_cases c17 : (rd ((rd_T59 l0 a1).f3) x33_2) < (l0.length : Int)
        ·rw [if_pos c17] at H
         have c17b0 : decide ((rd ((rd_T59 l0 a1).f3) x33_2) < (l0.length : Int)) = true := decide_eq_true c17
         clear c17
         by_cases c18 : (x3_2.length : Int) ≤ 20
         ·rw [if_pos c18] at H
          have c18b0 : decide ((x3_2.length : Int) ≤ 20) = true := decide_eq_true c18
          have c18b1 : decide (x3_2.length ≤ 20) = true := decide_eq_true (by omega)
          clear c18
          by_cases c19 : (a2.size : Int) < 12
          ·rw [if_pos c19] at H
           have c19b0 : decide ((a2.size : Int) < 12) = true := decide_eq_true c19
           have c19b1 : decide (a2.size < 12) = true := decide_eq_true (by omega)
           clear c19
           by_cases c20 : 0 ≤ (rd ((rd_T59 l0 a1).f3) x33_2)
           rotate_left
           ·rw [if_neg c20] at H
            exact absurd H (by simp)
           rw [if_pos c20] at H
           have c20b0 : decide (0 ≤ (rd ((rd_T59 l0 a1).f3) x33_2)) = true := decide_eq_true c20
           clear c20
           replace H := Option.bind_eq_some_iff.mp H
           obtain ⟨t154, A210, H⟩ := H
           replace H : (if t154 = true then ((some (([(wrap64 (97 + ((rd_T59 l0 (rd ((rd_T59 l0 a1).f3) x33_2)).f0))) % 256] : List Int) : List Int)).bind fun y156 => (if a2.size + (strOfNums y156).size ≤ 9223372036854775807 then ((spec_l13Entries.f k2 l0 (rd ((rd_T59 l0 a1).f3) x33_2) (a2 ++ (strOfNums y156)) x3_2).bind fun t159 => (spec_l13Entries.l0 k2 l0 a1 a2 t159 ((rd_T59 l0 a1).f3) (((rd_T59 l0 a1).f3).length : Int) (wrap64 (x33_2 + 1)))) else (none))) else (spec_l13Entries.l0 k2 l0 a1 a2 x3_2 ((rd_T59 l0 a1).f3) (((rd_T59 l0 a1).f3).length : Int) (wrap64 (x33_2 + 1)))) = some r := H
           have A21 := Aside0.mk A210
           clear A210
           by_cases c22 : t154 = true
           ·subst c22
            have H1 : ((some (([(wrap64 (97 + ((rd_T59 l0 (rd ((rd_T59 l0 a1).f3) x33_2)).f0))) % 256] : List Int) : List Int)).bind fun y156 => (if a2.size + (strOfNums y156).size ≤ 9223372036854775807 then ((spec_l13Entries.f k2 l0 (rd ((rd_T59 l0 a1).f3) x33_2) (a2 ++ (strOfNums y156)) x3_2).bind fun t159 => (spec_l13Entries.l0 k2 l0 a1 a2 t159 ((rd_T59 l0 a1).f3) (((rd_T59 l0 a1).f3).length : Int) (wrap64 (x33_2 + 1)))) else (none))) = some r := by rw [if_pos rfl] at H; exact H
            clear H
            have H := H1
            clear H1
            obtain ⟨y156, hy156⟩ : ∃ y_ : List Int, y_ = (([(wrap64 (97 + ((rd_T59 l0 (rd ((rd_T59 l0 a1).f3) x33_2)).f0))) % 256] : List Int)) := ⟨_, rfl⟩
            replace H : (if a2.size + (strOfNums y156).size ≤ 9223372036854775807 then ((spec_l13Entries.f k2 l0 (rd ((rd_T59 l0 a1).f3) x33_2) (a2 ++ (strOfNums y156)) x3_2).bind fun t159 => (spec_l13Entries.l0 k2 l0 a1 a2 t159 ((rd_T59 l0 a1).f3) (((rd_T59 l0 a1).f3).length : Int) (wrap64 (x33_2 + 1)))) else (none)) = some r := by first | (rw [hy156]; with_reducible exact H) | (have H2_ := (Option.bind_some _ _).symm.trans H; rw [hy156]; with_reducible exact H2_) | (have H2_ := (Option.bind_some _ _).symm.trans H; with_reducible exact H2_) | with_reducible exact H | (rw [hy156]; exact H) | exact H
            have Ny156 := Aside0.mk hy156
            clear hy156
            by_cases c23 : a2.size + (strOfNums y156).size ≤ 9223372036854775807
            rotate_left
            ·rw [if_neg c23] at H
             exact absurd H (by simp)
            rw [if_pos c23] at H
            have c23b0 := eq_true c23
            have c23b1 : decide (a2.size + (strOfNums y156).size ≤ 9223372036854775807) = true := decide_eq_true c23
            try have c23b2 : (9223372036854775807 < a2.size + (strOfNums y156).size) = False := eq_false (Nat.not_lt.2 c23)
            replace H := Option.bind_eq_some_iff.mp H
            obtain ⟨t159, A240, H⟩ := H
            replace H : (spec_l13Entries.l0 k2 l0 a1 a2 t159 ((rd_T59 l0 a1).f3) (((rd_T59 l0 a1).f3).length : Int) (wrap64 (x33_2 + 1))) = some r := H
            have A24 := Aside0.mk A240
            clear A240
            have H' := Aside0.mk H
            clear H
            have p152 : 0 ≤ (x33_2 : Int) := sq_d
            have q152 : x33_2 < (((rd_T59 l0 a1).f3).length : Int) := sq_d
            obtain ⟨ad152, e152, hx152_0⟩ := Kd.at_int (kids_x4 HR0.out a1 HHP151.out.1 HHP151.out.2 HHK151.out HK.out HHX151.out) x33_2 p152 q152
            cases e152
            try replace hx152_0 := (HB.out.cell (World.block_lt_of_cell? w _ hx152_0)).trans hx152_0
            replace p152 := eq_true p152
            replace q152 := eq_true q152
            obtain ⟨Ao25, co25, eo25⟩ := Kd.R_slice HO_3.out
            subst eo25
            have p153 : 0 ≤ ((rd ((rd_T59 l0 a1).f3) x33_2) : Int) := sq_d
            have q153 : (rd ((rd_T59 l0 a1).f3) x33_2) < (l0.length : Int) := sq_d
            obtain ⟨ad153, A153_3, c153_3, e153, hx153_0, hx153_1, hx153_2, hx153_3, hl153_3, hi153_3⟩ := at_T59 (Kd.C_kept_now HR0.out HK.out) (rd ((rd_T59 l0 a1).f3) x33_2) p153 q153
            obtain rfl : ad146 = ad153 := (by injection e153)
            have HR153_3 := Aside0.mk hi153_3
            have HC153_3 := Aside0.mk hl153_3
            clear hi153_3 hl153_3
            replace p153 := eq_true p153
            replace q153 := eq_true q153
            go_wp2_with (first | (go_at_call 67; (with_reducible refine (spec_l1In.calls ((rd_T59 l0 (rd ((rd_T59 l0 a1).f3) x33_2)).f0) 0 25 true _ A21.out).mono ?_); rintro e w' ⟨rfl, ⟨nd, rfl⟩⟩; have p155 : 0 ≤ ((rd ((rd_T59 l0 a1).f3) x33_2) : Int) := sq_d; have q155 : (rd ((rd_T59 l0 a1).f3) x33_2) < (l0.length : Int) := sq_d; obtain ⟨ad155, A155_3, c155_3, e155, hx155_0, hx155_1, hx155_2, hx155_3, hl155_3, hi155_3⟩ := at_T59 (Kd.C_kept_now HR0.out HK.out) (rd ((rd_T59 l0 a1).f3) x33_2) p155 q155; obtain rfl : ad146 = ad155 := (by injection e155); have HR155_3 := Aside0.mk hi155_3; have HC155_3 := Aside0.mk hl155_3; clear hi155_3 hl155_3; replace p155 := eq_true p155; replace q155 := eq_true q155; have ea_ := Option.some.inj (hx153_3.symm.trans hx155_3); injection ea_ with ea_ en_ ec_; subst ea_; subst ec_; clear en_) | ((with_reducible refine gate_dst (N := 74) rfl ?_); (try (refine gate_guard (by rfl) ?_; dsimp only)); refine Kd.R_lit (Kd.int .u8) _ 5 ?hg (N := 74) ?hd (xs := ([(wrap64 (97 + ((rd_T59 l0 (rd ((rd_T59 l0 a1).f3) x33_2)).f0))) % 256] : List Int)) (inner := [.int .u8 ((wrap64 (97 + ((rd_T59 l0 (rd ((rd_T59 l0 a1).f3) x33_2)).f0))) % 256)]) (ok := fun _ => True) (okp := fun _ => True) ?hr ?hp (fun _ hk => hk) trivial (Below.refl _ _) (Nat.le_refl _) (by simp) ?_; (case hd => rfl); (case hg => rfl); (case hr => first | (go_simp; done) | (go_simp; rfl)); (case hp => exact (Reps.one (show Kd.M (Kd.int .u8) _ _ _ ((wrap64 (97 + ((rd_T59 l0 (rd ((rd_T59 l0 a1).f3) x33_2)).f0))) % 256) [.int .u8 ((wrap64 (97 + ((rd_T59 l0 (rd ((rd_T59 l0 a1).f3) x33_2)).f0))) % 256)] from rfl) (Reps.none _ _))); intro v157 w26 ho27 hb hg_ hnew_; clear hg_ hnew_; (first | rw [← Ny156.out] at ho27 | (simp only [Int.reduceToNat] at ho27; rw [← Ny156.out] at ho27)); have n0_ := Aside0.mk (Kd.R_below (sq_r HO_3) hb); have n1_ := Aside0.mk (Kd.R_lower (Kd.R_newM (M := fun k_ => (P3_ k_ ∨ w.heap.size ≤ k_)) ho27 (by first | exact HK.out.1 | exact (show Kept w _ (fun k_ => P3_ k_) from by repeat (first | (with_reducible first | exact HK.out | apply Kept.alloc | apply Kept.drewN | apply Kept.drew) | exact HK.out)).1) (fun k_ h_ => .inr h_)) (below_size sq_b)); have n2_ := Aside0.mk (Kd.C_below (by repeat (first | (with_reducible exact HR153_3.out) | (with_reducible refine Kd.C_alloc ?_ _) | (with_reducible refine Kd.C_drewN ?_ _) | (with_reducible refine Kd.C_drew ?_) | exact HR153_3.out)) hb); have n3_ := Aside0.mk (Kd.C_below (by repeat (first | (with_reducible exact HR155_3.out) | (with_reducible refine Kd.C_alloc ?_ _) | (with_reducible refine Kd.C_drewN ?_ _) | (with_reducible refine Kd.C_drew ?_) | exact HR155_3.out)) hb); have n4_ := Aside0.mk (Kept.below (S := (fun k_ => P3_ k_)) sq_k hb); have n5_ := Aside0.mk (below_step sq_b hb); clear HO_3; clear HR153_3; clear HR155_3; clear HK; clear HB; have HO_3 := n0_; have HO158 := n1_; have HR153_3 := n2_; have HR155_3 := n3_; have HK := n4_; have HB := n5_; clear n0_ n1_ n2_ n3_ n4_ n5_; clear hb ho27; have hcv28 := own_string (P := Try.prog) Try.underlying51 Try.underlying5 Try.underlying9 (Kd.own_of_R HO158.out)) | ((with_reducible refine gate_callee (f := 90) rfl ?_); refine goesL_ (some 78) rfl rfl Try.func90 (by kernel_rfl) rfl #[.slice (some ad146) l0.length c0, .int .i64 (rd ((rd_T59 l0 a1).f3) x33_2), .string (a2 ++ (strOfNums y156)), .slice Ao25 x3_2.length co25] rfl (by (try simp only [List.map_toArray, List.map_cons, List.map_nil]); first | done | rfl | (simp only [List.length_drop, List.length_take]; rfl)) ?_; (with_reducible refine (ih k2 (by have := HJ6.out; have := HK2.out; omega) _ _ l0 (rd ((rd_T59 l0 a1).f3) x33_2) (a2 ++ (strOfNums y156)) (fun k_ => some k_ = (.slice Ao25 x3_2.length co25 : Value).ownBlock) (.slice Ao25 x3_2.length co25) x3_2 t159 w0 _ ?side1 ?side2 ?side3 ?side4 A24.out).mono ?_); (case side1 => repeat (first | (with_reducible first | exact HB.out | apply below_alloc | apply pw_below_drewN | apply below_drew1) | exact HB.out)); (case side2 => exact Kd.C_kept_call HR0.out sq_k (fun k_ hs_ => (fun e_ => (HO_3.out.1 k_ e_.symm)) hs_)); (case side3 => exact HC0.out); (case side4 => exact Kd.R_tight rfl HO_3.out); rintro e w29 ⟨v160, rfl, ho0, hb, hkp⟩; refine ⟨_, rfl, ?_⟩; have n0_ := Aside0.mk (Kd.R_mono (ok' := fun k_ => (P3_ k_ ∨ w.heap.size ≤ k_)) (Kd.R_keptB ((Kd.R_apart' HO158.out (Kd.R_typed HO_3.out) (by decide))) hkp (fun k_ hk_ hs_ => (hk_.2) hs_)) (fun k_ hk_ => hk_.1.1.1)); have n1_ := Aside0.mk (Kd.R_mono (ok' := fun k_ => (P3_ k_ ∨ w.heap.size ≤ k_)) ho0 (fun k_ hk_ => Or.elim hk_ (fun hs_ => (HO_3.out.1 k_ (hs_).symm)) (fun hn_ => (.inr (Nat.le_trans (by first | exact HK.out.1 | exact (show Kept w _ (fun k_ => P3_ k_) from by repeat (first | (with_reducible first | exact HK.out | apply Kept.alloc | apply Kept.drewN | apply Kept.drew) | exact HK.out)).1) hn_))))); have n2_ := Aside0.mk (Kept.then_ (S := (fun k_ => P3_ k_)) sq_k hkp (fun k_ hs_ => (fun e_ => (HO_3.out.1 k_ e_.symm)) hs_)); have n3_ := Aside0.mk (hb); clear HO158; clear HK; clear HB; clear HO_3; have HO158 := n0_; have HO161 := n1_; have HK := n2_; have HB := n3_; clear n0_ n1_ n2_ n3_; (try clear hb); (try clear hkp); (try clear ho0)))
            go_roundg k2
            case measure => have := HJ6.out; have := HK2.out; omega
            case rel => exact ⟨(t159), (wrap64 (x33_2 + 1)), sq_e, H', ⟨by have := HJ6.out; have := HK2.out; omega⟩, ⟨by (with_reducible repeat (first | apply Kd.R_alloc | apply Kd.R_drewN | apply Kd.R_drew)); exact HO161.out⟩, ⟨sq_k⟩, ⟨sq_b⟩⟩
           ·replace c22 := Bool.eq_false_iff.mpr c22
            subst c22
            have H1 : (spec_l13Entries.l0 k2 l0 a1 a2 x3_2 ((rd_T59 l0 a1).f3) (((rd_T59 l0 a1).f3).length : Int) (wrap64 (x33_2 + 1))) = some r := by rw [if_neg (show ¬ (false = true) by decide)] at H; exact H
            clear H
            have H := H1
            clear H1
            have H' := Aside0.mk H
            clear H
            have p152 : 0 ≤ (x33_2 : Int) := sq_d
            have q152 : x33_2 < (((rd_T59 l0 a1).f3).length : Int) := sq_d
            obtain ⟨ad152, e152, hx152_0⟩ := Kd.at_int (kids_x4 HR0.out a1 HHP151.out.1 HHP151.out.2 HHK151.out HK.out HHX151.out) x33_2 p152 q152
            cases e152
            try replace hx152_0 := (HB.out.cell (World.block_lt_of_cell? w _ hx152_0)).trans hx152_0
            replace p152 := eq_true p152
            replace q152 := eq_true q152
            obtain ⟨Ao30, co30, eo30⟩ := Kd.R_slice HO_3.out
            subst eo30
            have p153 : 0 ≤ ((rd ((rd_T59 l0 a1).f3) x33_2) : Int) := sq_d
            have q153 : (rd ((rd_T59 l0 a1).f3) x33_2) < (l0.length : Int) := sq_d
            obtain ⟨ad153, A153_3, c153_3, e153, hx153_0, hx153_1, hx153_2, hx153_3, hl153_3, hi153_3⟩ := at_T59 (Kd.C_kept_now HR0.out HK.out) (rd ((rd_T59 l0 a1).f3) x33_2) p153 q153
            obtain rfl : ad146 = ad153 := (by injection e153)
            have HR153_3 := Aside0.mk hi153_3
            have HC153_3 := Aside0.mk hl153_3
            clear hi153_3 hl153_3
            replace p153 := eq_true p153
            replace q153 := eq_true q153
            go_wp2_with (first | (go_at_call 67; (with_reducible refine (spec_l1In.calls ((rd_T59 l0 (rd ((rd_T59 l0 a1).f3) x33_2)).f0) 0 25 false _ A21.out).mono ?_); rintro e w' ⟨rfl, ⟨nd, rfl⟩⟩))
            go_roundg k2
            case measure => have := HJ6.out; have := HK2.out; omega
            case rel => exact ⟨(x3_2), (wrap64 (x33_2 + 1)), sq_e, H', ⟨by have := HJ6.out; have := HK2.out; omega⟩, ⟨by (with_reducible repeat (first | apply Kd.R_alloc | apply Kd.R_drewN | apply Kd.R_drew)); exact HO_3.out⟩, ⟨sq_k⟩, ⟨sq_b⟩⟩
          ·rw [if_neg c19] at H
           have c19b0 : decide ((a2.size : Int) < 12) = false := decide_eq_false c19
           have c19b1 : decide (a2.size < 12) = false := decide_eq_false (by omega)
           clear c19
           have H' := Aside0.mk H
           clear H
           have p152 : 0 ≤ (x33_2 : Int) := sq_d
           have q152 : x33_2 < (((rd_T59 l0 a1).f3).length : Int) := sq_d
           obtain ⟨ad152, e152, hx152_0⟩ := Kd.at_int (kids_x4 HR0.out a1 HHP151.out.1 HHP151.out.2 HHK151.out HK.out HHX151.out) x33_2 p152 q152
           cases e152
           try replace hx152_0 := (HB.out.cell (World.block_lt_of_cell? w _ hx152_0)).trans hx152_0
           replace p152 := eq_true p152
           replace q152 := eq_true q152
           obtain ⟨Ao31, co31, eo31⟩ := Kd.R_slice HO_3.out
           subst eo31
           go_wp2
           go_roundg k2
           case measure => have := HJ6.out; have := HK2.out; omega
           case rel => exact ⟨(x3_2), (wrap64 (x33_2 + 1)), sq_e, H', ⟨by have := HJ6.out; have := HK2.out; omega⟩, ⟨by (with_reducible repeat (first | apply Kd.R_alloc | apply Kd.R_drewN | apply Kd.R_drew)); exact HO_3.out⟩, ⟨sq_k⟩, ⟨sq_b⟩⟩
         ·rw [if_neg c18] at H
          have c18b0 : decide ((x3_2.length : Int) ≤ 20) = false := decide_eq_false c18
          have c18b1 : decide (x3_2.length ≤ 20) = false := decide_eq_false (by omega)
          clear c18
          have H' := Aside0.mk H
          clear H
          have p152 : 0 ≤ (x33_2 : Int) := sq_d
          have q152 : x33_2 < (((rd_T59 l0 a1).f3).length : Int) := sq_d
          obtain ⟨ad152, e152, hx152_0⟩ := Kd.at_int (kids_x4 HR0.out a1 HHP151.out.1 HHP151.out.2 HHK151.out HK.out HHX151.out) x33_2 p152 q152
          cases e152
          try replace hx152_0 := (HB.out.cell (World.block_lt_of_cell? w _ hx152_0)).trans hx152_0
          replace p152 := eq_true p152
          replace q152 := eq_true q152
          obtain ⟨Ao32, co32, eo32⟩ := Kd.R_slice HO_3.out
          subst eo32
          go_wp2
          go_roundg k2
          case measure => have := HJ6.out; have := HK2.out; omega
          case rel => exact ⟨(x3_2), (wrap64 (x33_2 + 1)), sq_e, H', ⟨by have := HJ6.out; have := HK2.out; omega⟩, ⟨by (with_reducible repeat (first | apply Kd.R_alloc | apply Kd.R_drewN | apply Kd.R_drew)); exact HO_3.out⟩, ⟨sq_k⟩, ⟨sq_b⟩⟩
        ·rw [if_neg c17] at H
         have c17b0 : decide ((rd ((rd_T59 l0 a1).f3) x33_2) < (l0.length : Int)) = false := decide_eq_false c17
         clear c17
         have H' := Aside0.mk H
         clear H
         have p152 : 0 ≤ (x33_2 : Int) := sq_d
         have q152 : x33_2 < (((rd_T59 l0 a1).f3).length : Int) := sq_d
         obtain ⟨ad152, e152, hx152_0⟩ := Kd.at_int (kids_x4 HR0.out a1 HHP151.out.1 HHP151.out.2 HHK151.out HK.out HHX151.out) x33_2 p152 q152
         cases e152
         try replace hx152_0 := (HB.out.cell (World.block_lt_of_cell? w _ hx152_0)).trans hx152_0
         replace p152 := eq_true p152
         replace q152 := eq_true q152
         go_wp2
         go_roundg k2
         case measure => have := HJ6.out; have := HK2.out; omega
         case rel => exact ⟨(x3_2), (wrap64 (x33_2 + 1)), sq_e, H', ⟨by have := HJ6.out; have := HK2.out; omega⟩, ⟨by (with_reducible repeat (first | apply Kd.R_alloc | apply Kd.R_drewN | apply Kd.R_drew)); exact HO_3.out⟩, ⟨sq_k⟩, ⟨sq_b⟩⟩
       ·rw [if_neg c16] at H
        have c16b0 : decide (a1 < (rd ((rd_T59 l0 a1).f3) x33_2)) = false := decide_eq_false c16
        clear c16
        have H' := Aside0.mk H
        clear H
        have p152 : 0 ≤ (x33_2 : Int) := sq_d
        have q152 : x33_2 < (((rd_T59 l0 a1).f3).length : Int) := sq_d
        obtain ⟨ad152, e152, hx152_0⟩ := Kd.at_int (kids_x4 HR0.out a1 HHP151.out.1 HHP151.out.2 HHK151.out HK.out HHX151.out) x33_2 p152 q152
        cases e152
        try replace hx152_0 := (HB.out.cell (World.block_lt_of_cell? w _ hx152_0)).trans hx152_0
        replace p152 := eq_true p152
        replace q152 := eq_true q152
        go_wp2
        go_roundg k2
        case measure => have := HJ6.out; have := HK2.out; omega
        case rel => exact ⟨(x3_2), (wrap64 (x33_2 + 1)), sq_e, H', ⟨by have := HJ6.out; have := HK2.out; omega⟩, ⟨by (with_reducible repeat (first | apply Kd.R_alloc | apply Kd.R_drewN | apply Kd.R_drew)); exact HO_3.out⟩, ⟨sq_k⟩, ⟨sq_b⟩⟩
      ·rw [if_neg c13] at H
       have c13b0 : decide (x33_2 < (((rd_T59 l0 a1).f3).length : Int)) = false := decide_eq_false c13
       clear c13
       obtain rfl := Option.some.inj H
       go_wp2
       go_ret
       exact ⟨_, sq_w, sq_r HO_3, sq_b, sq_k⟩
 ·rw [if_neg c5] at H
  exact absurd H (by simp)

/-! ### spec_l1Same: function 111 -/
def spec_l1Same.l0 : Nat → List Int → List Int → Int → Int → Option (Bool)
 | 0, _, _, _, _ => none
 | k + 1, x0, x1, x12, x13 => if x13 < x12 then (if 0 ≤ x13 then (if x13 < (x0.length : Int) then (if x13 < (x1.length : Int) then (if (rd x0 x13) = (rd x1 x13) then (spec_l1Same.l0 k x0 x1 x12 (wrap64 (x13 + 1))) else (some false)) else (none)) else (none)) else (none)) else (some true)
def spec_l1Same.f (k : Nat) (l0 : List Int) (l1 : List Int) : Option (Bool) := if (l0.length : Int) = (l1.length : Int) then (spec_l1Same.l0 k l0 l1 (l0.length : Int) 0) else (some false)
theorem spec_l1Same.mono_l : ∀ k, (∀ y0 y1 y2 y3, LeO (spec_l1Same.l0 k y0 y1 y2 y3) (spec_l1Same.l0 (k + 1) y0 y1 y2 y3))
 | 0 => fun _ _ _ _ r h => by simp [spec_l1Same.l0] at h
 | k + 1 => by
  have ih0 := spec_l1Same.mono_l k
  ·intro y0 y1 y2 y3
   unfold spec_l1Same.l0
   repeat' first
   | (with_reducible exact ih0 _ _ _ _)
   | (with_reducible exact LeO.refl _)
   | (with_reducible exact LeO.none _)
   | (with_reducible refine LeO.ite ?_ ?_)
   | (with_reducible refine LeO.bind ?_ (fun _ => ?_))
   | exact ih0 _ _ _ _
   | exact LeO.none _
   | refine LeO.ite ?_ ?_
   | refine LeO.bind ?_ (fun _ => ?_)
theorem spec_l1Same.mono : ∀ a0 a1 k, LeO (spec_l1Same.f k a0 a1) (spec_l1Same.f (k + 1) a0 a1) := by
 intro a0 a1 k
 have ih0 := spec_l1Same.mono_l k
 unfold spec_l1Same.f
 repeat' first
   | (with_reducible exact ih0 _ _ _ _)
   | (with_reducible exact LeO.refl _)
   | (with_reducible exact LeO.none _)
   | (with_reducible refine LeO.ite ?_ ?_)
   | (with_reducible refine LeO.bind ?_ (fun _ => ?_))
   | exact ih0 _ _ _ _
   | exact LeO.none _
   | refine LeO.ite ?_ ?_
   | refine LeO.bind ?_ (fun _ => ?_)
set_option maxHeartbeats 8000000 in
set_option maxRecDepth 100000 in
theorem spec_l1Same.calls (k : Nat) (A0 : Option Addr) (c0 : Nat) (l0 : List Int) (A1 : Option Addr) (c1 : Nat) (l1 : List Int) (r : Bool) (w : World) (hr0 : Kd.C (Kd.int .i64) w A0 l0.length l0) (hc0 : l0.length ≤ c0) (hr1 : Kd.C (Kd.int .i64) w A1 l1.length l1) (hc1 : l1.length ≤ c1) (h : spec_l1Same.f k l0 l1 = some r) :
  Calls Try.prog 111 #[.slice A0 l0.length c0, .slice A1 l1.length c1] w fun e w' => e = .returned (.bool r) ∧ Drawn0 w w' := by
 have HR0 := Aside0.mk hr0
 have HC0 := Aside0.mk hc0
 clear hr0 hc0
 have HR1 := Aside0.mk hr1
 have HC1 := Aside0.mk hc1
 clear hr1 hc1
 have H : (if (l0.length : Int) = (l1.length : Int) then (spec_l1Same.l0 k l0 l1 (l0.length : Int) 0) else (some false)) = some r := h
 clear h
 by_cases c3 : (l0.length : Int) = (l1.length : Int)
 ·rw [if_pos c3] at H
  have c3b0 : ((l0.length : Int) == (l1.length : Int)) = true := beq_iff_eq.mpr c3
  have c3b1 : ((l0.length : Int) != (l1.length : Int)) = false := bne_eq_false_iff_eq.mpr c3
  have c3b2 : (l0.length == l1.length) = true := by first | simpa using c3 | (simp at c3 ⊢; omega)
  clear c3
  have H' := Aside0.mk H
  clear H
  go_enter Try.func111, Try.ntmps111
  go_wp2
  repeat (go_quiet (fail); try go_wp2)
  go_loopg [13] k (fun kq v13 w' => ∃ (x13_1 : Int), v13 = .int .i64 x13_1 ∧ Aside0 (spec_l1Same.l0 kq l0 l1 (l0.length : Int) x13_1 = some r) ∧ Aside0 (kq ≤ k) ∧ Drawn0 w w')
  case atStart => exact ⟨(0), sq_e, H', ⟨Nat.le_refl _⟩, by repeat (first | exact Drawn0.refl _ | apply Drawn0.step)⟩
  case round =>
   clear H'
   (try clear c1); (try clear p2); (try clear c3); (try clear c3b0); (try clear c3b1); (try clear c3b2)
   obtain ⟨x13_1, rfl, HA, HK1, ⟨m1, rfl⟩⟩ := hrel
   cases gk with
   | zero => exact absurd HA.out (by simp [spec_l1Same.l0])
   | succ k1 =>
    have H := HA.out
    clear HA
    simp only [spec_l1Same.l0] at H
    by_cases c4 : x13_1 < (l0.length : Int)
    ·rw [if_pos c4] at H
     have c4b0 : decide (x13_1 < (l0.length : Int)) = true := decide_eq_true c4
     clear c4
     by_cases c5 : 0 ≤ x13_1
     rotate_left
     ·rw [if_neg c5] at H
      exact absurd H (by simp)
     rw [if_pos c5] at H
     have c5b0 : decide (0 ≤ x13_1) = true := decide_eq_true c5
     clear c5
     by_cases c6 : x13_1 < (l0.length : Int)
     rotate_left
     ·rw [if_neg c6] at H
      exact absurd H (by simp)
     rw [if_pos c6] at H
     have c6b0 : decide (x13_1 < (l0.length : Int)) = true := decide_eq_true c6
     clear c6
     by_cases c7 : x13_1 < (l1.length : Int)
     rotate_left
     ·rw [if_neg c7] at H
      exact absurd H (by simp)
     rw [if_pos c7] at H
     have c7b0 : decide (x13_1 < (l1.length : Int)) = true := decide_eq_true c7
     clear c7
     by_cases c8 : (rd l0 x13_1) = (rd l1 x13_1)
     ·rw [if_pos c8] at H
      have c8b0 : ((rd l0 x13_1) == (rd l1 x13_1)) = true := beq_iff_eq.mpr c8
      have c8b1 : ((rd l0 x13_1) != (rd l1 x13_1)) = false := bne_eq_false_iff_eq.mpr c8
      clear c8
      have H' := Aside0.mk H
      clear H
      have p162 : 0 ≤ (x13_1 : Int) := sq_d
      have q162 : x13_1 < (l0.length : Int) := sq_d
      obtain ⟨ad162, e162, hx162_0⟩ := Kd.at_int HR0.out x13_1 p162 q162
      cases e162
      replace p162 := eq_true p162
      replace q162 := eq_true q162
      have p163 : 0 ≤ (x13_1 : Int) := sq_d
      have q163 : x13_1 < (l1.length : Int) := sq_d
      obtain ⟨ad163, e163, hx163_0⟩ := Kd.at_int HR1.out x13_1 p163 q163
      cases e163
      replace p163 := eq_true p163
      replace q163 := eq_true q163
      go_wp2
      repeat (go_quiet (fail); try go_wp2)
      go_roundg k1
      case measure => have := HK1.out; omega
      case rel => exact ⟨(wrap64 (x13_1 + 1)), sq_e, H', ⟨by have := HK1.out; omega⟩, by repeat (first | exact Drawn0.refl _ | apply Drawn0.step)⟩
     ·rw [if_neg c8] at H
      have c8b0 : ((rd l0 x13_1) == (rd l1 x13_1)) = false := beq_eq_false_iff_ne.mpr c8
      have c8b1 : ((rd l0 x13_1) != (rd l1 x13_1)) = true := bne_iff_ne.mpr c8
      obtain rfl := Option.some.inj H
      have p162 : 0 ≤ (x13_1 : Int) := sq_d
      have q162 : x13_1 < (l0.length : Int) := sq_d
      obtain ⟨ad162, e162, hx162_0⟩ := Kd.at_int HR0.out x13_1 p162 q162
      cases e162
      replace p162 := eq_true p162
      replace q162 := eq_true q162
      have p163 : 0 ≤ (x13_1 : Int) := sq_d
      have q163 : x13_1 < (l1.length : Int) := sq_d
      obtain ⟨ad163, e163, hx163_0⟩ := Kd.at_int HR1.out x13_1 p163 q163
      cases e163
      replace p163 := eq_true p163
      replace q163 := eq_true q163
      go_wp2
      repeat (go_quiet (fail); try go_wp2)
      go_ret
      exact ⟨by first | rfl | (simp; done) | (simp [ext_bne_nil, ext_beq_nil]; done) | (simp [*]; done), by repeat (first | exact Drawn0.refl _ | apply Drawn0.step)⟩
    ·rw [if_neg c4] at H
     have c4b0 : decide (x13_1 < (l0.length : Int)) = false := decide_eq_false c4
     clear c4
     obtain rfl := Option.some.inj H
     go_wp2
     repeat (go_quiet (fail); try go_wp2)
     go_ret
     exact ⟨by first | rfl | (simp; done) | (simp [ext_bne_nil, ext_beq_nil]; done) | (simp [*]; done), by repeat (first | exact Drawn0.refl _ | apply Drawn0.step)⟩
 ·rw [if_neg c3] at H
  have c3b0 : ((l0.length : Int) == (l1.length : Int)) = false := beq_eq_false_iff_ne.mpr c3
  have c3b1 : ((l0.length : Int) != (l1.length : Int)) = true := bne_iff_ne.mpr c3
  have c3b2 : (l0.length == l1.length) = false := by first | simpa using c3 | (simp at c3 ⊢; omega)
  obtain rfl := Option.some.inj H
  go_enter Try.func111, Try.ntmps111
  go_wp2
  repeat (go_quiet (fail); try go_wp2)
  go_ret
  exact ⟨by first | rfl | (simp; done) | (simp [ext_bne_nil, ext_beq_nil]; done) | (simp [*]; done), by repeat (first | exact Drawn0.refl _ | apply Drawn0.step)⟩

end Go.Proofs.Ytkoackkimdanjaa.QFnExactWalkLegs
