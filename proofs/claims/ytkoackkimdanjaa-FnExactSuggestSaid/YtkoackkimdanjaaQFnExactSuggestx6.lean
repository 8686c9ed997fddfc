-- Written by this session's own program (wip/pp_patch.py, wip/pp.sh) out of the given translation. Not trusted: Lean checks it.
import Derived.Test.YtkoackkimdanjaaQFnExactSuggestx0
import Derived.Test.YtkoackkimdanjaaQFnExactSuggestx4
namespace Go.Proofs.Ytkoackkimdanjaa.QFnExactSuggest
open Go.RowKit Go.Proofs.YtkoackkimdanjaaW.PrintWords Go.Proofs.YtkoackkimdanjaaW.PrintLast Go.Proofs.YtkoackkimdanjaaW.PrintMore
attribute [local go_sem] max2_int min2_int max_two min_two max_three min_three max_four min_four   -- for this text's walks alone
open Go.Proofs.Ytkoackkimdanjaa.Ext
attribute [local go_sem high] ext_gtr ext_leq
set_option linter.unusedVariables false
set_option linter.unusedSimpArgs false

theorem kids_x6 {w wc wr : World} {S : Nat → Prop} {ad : Addr} {n : Nat} {xs : List S59} (h : ∀ W_, Kept w W_ S → Kd.C k59 W_ (some ad) n xs) (i : Int) (h0 : 0 ≤ i) (h1 : i < n) (hk1 : Kept w wc S) (hk2 : Kept w wr S) {A : Option Addr} {c : Nat}
    (hc : wc.cell? ⟨(ad.add (i.toNat * 4)).block, (ad.add (i.toNat * 4)).off + 3, none⟩ = some (.slice A (rd_T59 xs i).f3.length c)) : (Kd.int .i64).C wr A (rd_T59 xs i).f3.length (rd_T59 xs i).f3 := by
  have hn : 0 < n := by omega
  have hb : ¬ S ad.block := Kd.foot_neS h hn (by decide)
  have hlt : ad.block < w.heap.size := Kd.foot_ltS h hn (by decide)
  have he : wr.heap[ad.block]? = wc.heap[ad.block]? := (hk2.2 _ hlt hb).trans (hk1.2 _ hlt hb).symm
  obtain ⟨ad', A', c', e, _, _, _, h3, _, hC⟩ := at_T59 (h wr hk2) i h0 h1
  injection e with e
  subst e
  have hb2 : ∀ m, (ad.add m).block = ad.block := fun m => by first | exact add_block _ _ | exact Kd.add_block _ _ | (rw [add_block])
  have hcc : wr.cell? ⟨(ad.add (i.toNat * 4)).block, (ad.add (i.toNat * 4)).off + 3, none⟩ = wc.cell? ⟨(ad.add (i.toNat * 4)).block, (ad.add (i.toNat * 4)).off + 3, none⟩ := by
    simp only [hb2]
    unfold World.cell?
    simp only [he]
  rw [hcc, hc] at h3
  injection h3 with h3
  injection h3 with h3 _ _
  rw [h3]
  exact hC
/-! ### spec_l13Many: function 89 -/
def spec_l13Many.l0 : Nat → Int → List (S59) → Int → Int → Option (Int)
 | 0, _, _, _, _ => none
 | k + 1, x3, x6, x7, x8 => if x8 < x7 then (if 0 ≤ x8 then (if x8 < (x6.length : Int) then (spec_l13Many.l0 k (wrap64 (x3 + (((rd_T59 x6 x8).f3).length : Int))) x6 x7 (wrap64 (x8 + 1))) else (none)) else (none)) else (some x3)
def spec_l13Many.f (k : Nat) (l0 : List (S59)) : Option (Int) := spec_l13Many.l0 k 0 l0 (l0.length : Int) 0
theorem spec_l13Many.mono_l : ∀ k, (∀ y0 y1 y2 y3, LeO (spec_l13Many.l0 k y0 y1 y2 y3) (spec_l13Many.l0 (k + 1) y0 y1 y2 y3))
 | 0 => fun _ _ _ _ r h => by simp [spec_l13Many.l0] at h
 | k + 1 => by
  have ih0 := spec_l13Many.mono_l k
  ·intro y0 y1 y2 y3
   unfold spec_l13Many.l0
   repeat' first
   | (with_reducible exact ih0 _ _ _ _)
   | (with_reducible exact LeO.refl _)
   | (with_reducible exact LeO.none _)
   | (with_reducible refine LeO.ite ?_ ?_)
   | (with_reducible refine LeO.bind ?_ (fun _ => ?_))
   | exact ih0 _ _ _ _
   | exact LeO.none _
   | refine LeO.ite ?_ ?_
   | refine LeO.bind ?_ (fun _ => ?_)
theorem spec_l13Many.mono : ∀ a0 k, LeO (spec_l13Many.f k a0) (spec_l13Many.f (k + 1) a0) := by
 intro a0 k
 have ih0 := spec_l13Many.mono_l k
 unfold spec_l13Many.f
 repeat' first
   | (with_reducible exact ih0 _ _ _ _)
   | (with_reducible exact LeO.refl _)
   | (with_reducible exact LeO.none _)
   | (with_reducible refine LeO.ite ?_ ?_)
   | (with_reducible refine LeO.bind ?_ (fun _ => ?_))
   | exact ih0 _ _ _ _
   | exact LeO.none _
   | refine LeO.ite ?_ ?_
   | refine LeO.bind ?_ (fun _ => ?_)
set_option maxHeartbeats 8000000 in
set_option maxRecDepth 100000 in
theorem spec_l13Many.calls (k : Nat) (A0 : Option Addr) (c0 : Nat) (l0 : List (S59)) (r : Int) (w : World) (hr0 : Kd.C k59 w A0 l0.length l0) (hc0 : l0.length ≤ c0) (h : spec_l13Many.f k l0 = some r) :
  Calls Try.prog 89 #[.slice A0 l0.length c0] w fun e w' => e = .returned (.int .i64 r) ∧ Below w.heap.size w w' := by
 have hu59 := Try.underlying59
 have HR0 := Aside0.mk hr0
 have HC0 := Aside0.mk hc0
 clear hr0 hc0
 have HB := Aside0.mk (Below.refl w.heap.size w)
 have H : (spec_l13Many.l0 k 0 l0 (l0.length : Int) 0) = some r := h
 clear h
 have H' := Aside0.mk H
 clear H
 go_enter Try.func89, Try.ntmps89
 go_wp2
 go_loopg [3, 8] k (fun kq v3 v8 w' => ∃ (x3_1 : Int) (x8_1 : Int), v3 = .int .i64 x3_1 ∧ v8 = .int .i64 x8_1 ∧ Aside0 (spec_l13Many.l0 kq x3_1 l0 (l0.length : Int) x8_1 = some r) ∧ Aside0 (kq ≤ k) ∧ Aside0 (Below w.heap.size w w'))
 case atStart => exact ⟨(0), (0), sq_e, sq_e, H', ⟨Nat.le_refl _⟩, ⟨sq_b⟩⟩
 case round =>
  clear H'
  obtain ⟨x3_1, x8_1, rfl, rfl, HA, HK1, HB⟩ := hrel
  cases gk with
  | zero => exact absurd HA.out (by simp [spec_l13Many.l0])
  | succ k1 =>
   have H := HA.out
   clear HA
   simp only [spec_l13Many.l0] at H
   by_cases c2 : x8_1 < (l0.length : Int)
   ·rw [if_pos c2] at H
    have c2b0 : decide (x8_1 < (l0.length : Int)) = true := decide_eq_true c2
    clear c2
    by_cases c3 : 0 ≤ x8_1
    rotate_left
    ·rw [if_neg c3] at H
     exact absurd H (by simp)
    rw [if_pos c3] at H
    have c3b0 : decide (0 ≤ x8_1) = true := decide_eq_true c3
    clear c3
    by_cases c4 : x8_1 < (l0.length : Int)
    rotate_left
    ·rw [if_neg c4] at H
     exact absurd H (by simp)
    rw [if_pos c4] at H
    have c4b0 : decide (x8_1 < (l0.length : Int)) = true := decide_eq_true c4
    clear c4
    have H' := Aside0.mk H
    clear H
    have p159 : 0 ≤ (x8_1 : Int) := sq_d
    have q159 : x8_1 < (l0.length : Int) := sq_d
    obtain ⟨ad159, A159_3, c159_3, e159, hx159_0, hx159_1, hx159_2, hx159_3, hl159_3, hi159_3⟩ := at_T59 HR0.out x8_1 p159 q159
    cases e159
    try replace hx159_0 := (HB.out.cell (World.block_lt_of_cell? w _ hx159_0)).trans hx159_0
    try replace hx159_1 := (HB.out.cell (World.block_lt_of_cell? w _ hx159_1)).trans hx159_1
    try replace hx159_2 := (HB.out.cell (World.block_lt_of_cell? w _ hx159_2)).trans hx159_2
    try replace hx159_3 := (HB.out.cell (World.block_lt_of_cell? w _ hx159_3)).trans hx159_3
    have HR159_3 := Aside0.mk hi159_3
    have HC159_3 := Aside0.mk hl159_3
    clear hi159_3 hl159_3
    replace p159 := eq_true p159
    replace q159 := eq_true q159
    go_wp2_with (first | ((with_reducible refine gate_dst (N := 5) rfl ?_); refine box_event ?hg (N := 5) ?hd (cs := #[.int .i64 0, .int .i64 0, .int .i64 0, .slice none 0 0]) (t := 59) ?hr ?_; (case hd => rfl); (case hg => rfl); (case hr => first | (go_simp; done) | (go_simp; rfl)); intro gb160 hg w5 hbox hb; have n0_ := Aside0.mk (below_step sq_b hb); have n1_ := Aside0.mk (hbox); have n2_ := Aside0.mk ((by rw [hg]; exact (below_size sq_b) : w.heap.size ≤ gb160)); have n3_ := Aside0.mk ((by rw [hg]; exact (below_size sq_b) : w.heap.size ≤ gb160)); clear HB; have HB := n0_; have BK160 := n1_; have GW160 := n2_; have GE160 := n3_; clear n0_ n1_ n2_ n3_; clear hb hbox hg; have hcz6_0 : w5.cell? ⟨gb160, 0, none⟩ = some (.int .i64 0) := (blk_cell BK160.out 0).trans rfl; have hcz6_1 : w5.cell? ⟨gb160, 1, none⟩ = some (.int .i64 0) := (blk_cell BK160.out 1).trans rfl; have hcz6_2 : w5.cell? ⟨gb160, 2, none⟩ = some (.int .i64 0) := (blk_cell BK160.out 2).trans rfl; have hcz6_3 : w5.cell? ⟨gb160, 3, none⟩ = some (.slice none 0 0) := (blk_cell BK160.out 3).trans rfl; have hfz6_0 := blk_frozen BK160.out 0; have hfz6_1 := blk_frozen BK160.out 1; have hfz6_2 := blk_frozen BK160.out 2; have hfz6_3 := blk_frozen BK160.out 3))
    go_roundg k1
    case measure => have := HK1.out; omega
    case rel => exact ⟨(wrap64 (x3_1 + (((rd_T59 l0 x8_1).f3).length : Int))), (wrap64 (x8_1 + 1)), sq_e, sq_e, H', ⟨by have := HK1.out; omega⟩, ⟨by repeat (first | (with_reducible first | exact HB.out | apply below_alloc | apply pw_below_drewN | apply below_drew1 | refine below_set ?_ GE160.out) | exact HB.out)⟩⟩
   ·rw [if_neg c2] at H
    have c2b0 : decide (x8_1 < (l0.length : Int)) = false := decide_eq_false c2
    clear c2
    obtain rfl := Option.some.inj H
    go_wp2
    go_ret
    exact ⟨sq_w, sq_b⟩

/-! ### spec_l13Entries: function 90 -/
mutual
def spec_l13Entries.j0 : Nat → List (S59) → Int → ByteArray → List (S48) → Option ((List (S48)))
 | 0, _, _, _, _ => none
 | k + 1, x0, x1, x2, x3 => if 0 ≤ x1 then (if x1 < (x0.length : Int) then (spec_l13Entries.l0 k x0 x1 x2 x3 ((rd_T59 x0 x1).f3) (((rd_T59 x0 x1).f3).length : Int) 0) else (none)) else (none)
def spec_l13Entries.l0 : Nat → List (S59) → Int → ByteArray → List (S48) → List Int → Int → Int → Option ((List (S48)))
 | 0, _, _, _, _, _, _, _ => none
 | k + 1, x0, x1, x2, x3, x31, x32, x33 => if x33 < x32 then (if 0 ≤ x33 then (if x33 < (x31.length : Int) then (if (rd x31 x33) > x1 then (if (rd x31 x33) < (x0.length : Int) then (if (x3.length : Int) ≤ 20 then (if (x2.size : Int) < 12 then (if 0 ≤ (rd x31 x33) then ((spec_l1In.f ((rd_T59 x0 (rd x31 x33)).f0) 0 25).bind fun t169 => (if t169 = true then ((some (([(wrap64 (97 + ((rd_T59 x0 (rd x31 x33)).f0))) % 256] : List Int) : List Int)).bind fun y171 => (if x2.size + (strOfNums y171).size ≤ 9223372036854775807 then ((spec_l13Entries.f k x0 (rd x31 x33) (x2 ++ (strOfNums y171)) x3).bind fun t174 => (spec_l13Entries.l0 k x0 x1 x2 t174 x31 x32 (wrap64 (x33 + 1)))) else (none))) else (spec_l13Entries.l0 k x0 x1 x2 x3 x31 x32 (wrap64 (x33 + 1))))) else (none)) else (spec_l13Entries.l0 k x0 x1 x2 x3 x31 x32 (wrap64 (x33 + 1)))) else (spec_l13Entries.l0 k x0 x1 x2 x3 x31 x32 (wrap64 (x33 + 1)))) else (spec_l13Entries.l0 k x0 x1 x2 x3 x31 x32 (wrap64 (x33 + 1)))) else (spec_l13Entries.l0 k x0 x1 x2 x3 x31 x32 (wrap64 (x33 + 1)))) else (none)) else (none)) else (some x3)
def spec_l13Entries.f : Nat → List (S59) → Int → ByteArray → List (S48) → Option ((List (S48)))
 | 0, _, _, _, _ => none
 | k + 1, l0, a1, a2, l3 => if 0 ≤ a1 then (if a1 < (l0.length : Int) then (if ((rd_T59 l0 a1).f1) > 0 then (if l3.length < 5864062014805 then (spec_l13Entries.j0 k l0 a1 a2 (l3 ++ [(⟨a2, (rd_T59 l0 a1).f1⟩ : S48)])) else (none)) else (spec_l13Entries.j0 k l0 a1 a2 l3)) else (none)) else (none)
end
theorem spec_l13Entries.mono_l : ∀ k, (∀ y0 y1 y2 y3, LeO (spec_l13Entries.f k y0 y1 y2 y3) (spec_l13Entries.f (k + 1) y0 y1 y2 y3)) ∧ (∀ y0 y1 y2 y3, LeO (spec_l13Entries.j0 k y0 y1 y2 y3) (spec_l13Entries.j0 (k + 1) y0 y1 y2 y3)) ∧ (∀ y0 y1 y2 y3 y4 y5 y6, LeO (spec_l13Entries.l0 k y0 y1 y2 y3 y4 y5 y6) (spec_l13Entries.l0 (k + 1) y0 y1 y2 y3 y4 y5 y6))
 | 0 => ⟨fun _ _ _ _ r h => by simp [spec_l13Entries.f] at h, fun _ _ _ _ r h => by simp [spec_l13Entries.j0] at h, fun _ _ _ _ _ _ _ r h => by simp [spec_l13Entries.l0] at h⟩
 | k + 1 => by
  obtain ⟨ih0, ih1, ih2⟩ := spec_l13Entries.mono_l k
  refine ⟨?_, ?_, ?_⟩
  ·intro y0 y1 y2 y3
   unfold spec_l13Entries.f
   repeat' first
   | (with_reducible exact ih0 _ _ _ _)
   | (with_reducible exact ih1 _ _ _ _)
   | (with_reducible exact ih2 _ _ _ _ _ _ _)
   | (with_reducible exact LeO.refl _)
   | (with_reducible exact LeO.none _)
   | (with_reducible refine LeO.ite ?_ ?_)
   | (with_reducible refine LeO.bind ?_ (fun _ => ?_))
   | exact ih0 _ _ _ _
   | exact ih1 _ _ _ _
   | exact ih2 _ _ _ _ _ _ _
   | exact LeO.none _
   | refine LeO.ite ?_ ?_
   | refine LeO.bind ?_ (fun _ => ?_)
  ·intro y0 y1 y2 y3
   unfold spec_l13Entries.j0
   repeat' first
   | (with_reducible exact ih0 _ _ _ _)
   | (with_reducible exact ih1 _ _ _ _)
   | (with_reducible exact ih2 _ _ _ _ _ _ _)
   | (with_reducible exact LeO.refl _)
   | (with_reducible exact LeO.none _)
   | (with_reducible refine LeO.ite ?_ ?_)
   | (with_reducible refine LeO.bind ?_ (fun _ => ?_))
   | exact ih0 _ _ _ _
   | exact ih1 _ _ _ _
   | exact ih2 _ _ _ _ _ _ _
   | exact LeO.none _
   | refine LeO.ite ?_ ?_
   | refine LeO.bind ?_ (fun _ => ?_)
  ·intro y0 y1 y2 y3 y4 y5 y6
   unfold spec_l13Entries.l0
   repeat' first
   | (with_reducible exact ih0 _ _ _ _)
   | (with_reducible exact ih1 _ _ _ _)
   | (with_reducible exact ih2 _ _ _ _ _ _ _)
   | (with_reducible exact LeO.refl _)
   | (with_reducible exact LeO.none _)
   | (with_reducible refine LeO.ite ?_ ?_)
   | (with_reducible refine LeO.bind ?_ (fun _ => ?_))
   | exact ih0 _ _ _ _
   | exact ih1 _ _ _ _
   | exact ih2 _ _ _ _ _ _ _
   | exact LeO.none _
   | refine LeO.ite ?_ ?_
   | refine LeO.bind ?_ (fun _ => ?_)
theorem spec_l13Entries.mono : ∀ a0 a1 a2 a3 k, LeO (spec_l13Entries.f k a0 a1 a2 a3) (spec_l13Entries.f (k + 1) a0 a1 a2 a3) := by
 intro a0 a1 a2 a3 k
 obtain ⟨ih0, ih1, ih2⟩ := spec_l13Entries.mono_l k
 exact ih0 a0 a1 a2 a3
set_option maxHeartbeats 8000000 in
set_option maxRecDepth 100000 in
theorem spec_l13Entries.calls (k : Nat) : ∀ (A0 : Option Addr) (c0 : Nat) (l0 : List (S59)) (a1 : Int) (a2 : ByteArray) (P3_ : Nat → Prop) (u9000_ : Value) (l3 : List (S48)) (r : List (S48)) (w0 w : World) (hB : Below w0.heap.size w0 w) (hr0 : ∀ W_, Kept w W_ (fun k_ => P3_ k_) → Kd.C k59 W_ A0 l0.length l0) (hc0 : l0.length ≤ c0) (ho3 : Kd.R k48 48 w w0.heap.size P3_ u9000_ l3) (h : spec_l13Entries.f k l0 a1 a2 l3 = some r),
  Calls Try.prog 90 #[.slice A0 l0.length c0, .int .i64 a1, .string a2, u9000_] w fun e w' => ∃ v0_ : Value, e = .returned (v0_) ∧ Kd.R k48 48 w' w0.heap.size (fun k_ => (P3_ k_ ∨ w.heap.size ≤ k_)) v0_ r ∧ Below w0.heap.size w0 w' ∧ Kept w w' (fun k_ => P3_ k_) := by
 induction k using Nat.strongRecOn with
 | _ k ih =>
 intro A0 c0 l0 a1 a2 P3_ u9000_ l3 r w0 w hB hr0 hc0 ho3 h
 cases k with
 | zero => exact absurd h (by simp [spec_l13Entries.f])
 | succ k =>
 simp only [spec_l13Entries.f] at h
 have hu48 := Try.underlying48
 have HR0 := Aside0.mk hr0
 have HC0 := Aside0.mk hc0
 clear hr0 hc0
 have HO3 := Aside0.mk (show Kd.R k48 48 w w0.heap.size (fun k_ => (P3_ k_ ∨ w.heap.size ≤ k_)) u9000_ l3 from Kd.R_mono ho3 (fun k_ hk => (.inl hk)))
 have HK := Aside0.mk (Kept.refl w (fun k_ => P3_ k_))
 have HW0 := Aside0.mk hB.size
 have HB := Aside0.mk hB
 clear hB
 have H : (if 0 ≤ a1 then (if a1 < (l0.length : Int) then (if ((rd_T59 l0 a1).f1) > 0 then (if l3.length < 5864062014805 then (spec_l13Entries.j0 k l0 a1 a2 (l3 ++ [(⟨a2, (rd_T59 l0 a1).f1⟩ : S48)])) else (none)) else (spec_l13Entries.j0 k l0 a1 a2 l3)) else (none)) else (none)) = some r := h
 clear h
 by_cases c5 : 0 ≤ a1
 ·rw [if_pos c5] at H
  have c5b0 : decide (0 ≤ a1) = true := decide_eq_true c5
  clear c5
  by_cases c6 : a1 < (l0.length : Int)
  rotate_left
  ·rw [if_neg c6] at H
   exact absurd H (by simp)
  rw [if_pos c6] at H
  have c6b0 : decide (a1 < (l0.length : Int)) = true := decide_eq_true c6
  clear c6
  have HC7 := Aside0.mk H
  clear H
  have p161 : 0 ≤ (a1 : Int) := sq_d
  have q161 : a1 < (l0.length : Int) := sq_d
  obtain ⟨ad161, A161_3, c161_3, e161, hx161_0, hx161_1, hx161_2, hx161_3, hl161_3, hi161_3⟩ := at_T59 (Kd.C_kept_now HR0.out HK.out) a1 p161 q161
  cases e161
  have HR161_3 := Aside0.mk hi161_3
  have HC161_3 := Aside0.mk hl161_3
  clear hi161_3 hl161_3
  replace p161 := eq_true p161
  replace q161 := eq_true q161
  go_enter Try.func90, Try.ntmps90
  go_upto_if 16 with (fail)
  go_cut [3] (fun v3 wc => ∃ (kq : Nat) (x3_6 : List (S48)), Aside0 (spec_l13Entries.j0 kq l0 a1 a2 x3_6 = some r) ∧ Aside0 (kq ≤ k) ∧ Aside0 (Kd.R k48 48 wc w0.heap.size (fun k_ => (P3_ k_ ∨ w.heap.size ≤ k_)) v3 x3_6) ∧ Aside0 (Kept w wc (fun k_ => P3_ k_)) ∧ Aside0 (Below w0.heap.size w0 wc))
  case first =>
   have H := HC7.out
   clear HC7
   by_cases c8 : ((rd_T59 l0 a1).f1) > 0
   ·rw [if_pos c8] at H
    have c8b0 : decide (0 < ((rd_T59 l0 a1).f1)) = true := decide_eq_true c8
    clear c8
    (first | rw [c8b0] | (simp only [i64_w, i32_w]; rw [c8b0]) | skip)
    by_cases c9 : l3.length < 5864062014805
    rotate_left
    ·rw [if_neg c9] at H
     exact absurd H (by simp)
    rw [if_pos c9] at H
    have LMc9 := Aside0.mk c9
    clear c9
    obtain ⟨y163, hy163⟩ : ∃ y_ : List (S48), y_ = (l3 ++ [(⟨a2, (rd_T59 l0 a1).f1⟩ : S48)]) := ⟨_, rfl⟩
    replace H : (spec_l13Entries.j0 k l0 a1 a2 y163) = some r := by first | (rw [hy163]; with_reducible exact H) | (have H2_ := (Option.bind_some _ _).symm.trans H; rw [hy163]; with_reducible exact H2_) | (have H2_ := (Option.bind_some _ _).symm.trans H; with_reducible exact H2_) | with_reducible exact H | (rw [hy163]; exact H) | exact H
    have Ny163 := Aside0.mk hy163
    clear hy163
    have H' := Aside0.mk H
    clear H
    have p162 : 0 ≤ (a1 : Int) := sq_d
    have q162 : a1 < (l0.length : Int) := sq_d
    obtain ⟨ad162, A162_3, c162_3, e162, hx162_0, hx162_1, hx162_2, hx162_3, hl162_3, hi162_3⟩ := at_T59 (Kd.C_kept_now HR0.out HK.out) a1 p162 q162
    obtain rfl : ad161 = ad162 := (by injection e162)
    have HR162_3 := Aside0.mk hi162_3
    have HC162_3 := Aside0.mk hl162_3
    clear hi162_3 hl162_3
    replace p162 := eq_true p162
    replace q162 := eq_true q162
    go_wp2_with (first | ((with_reducible refine gate_builtin (b := .append) (xs := #[.tmp 17, .tmp 25]) rfl ?_); (try (refine gate_guard (by rfl) ?_; dsimp only)); at_builtin; refine Kd.R_append k48 (w0 := w0) w0.heap.size rfl (.tmp 17) (.tmp 25) 27 48 (.agg #[(.string ⟨#[]⟩), (.int .i64 0)]) 24 rfl Try.underlying27 info48 rfl (by decide) (by omega) u9000_ l3 (⟨a2, (rd_T59 l0 a1).f1⟩ : S48) [.string a2, .int .i64 ((rd_T59 l0 a1).f1)] (fun k_ => (P3_ k_ ∨ w.heap.size ≤ k_)) (fun _ => False) rfl rfl ?aP (fun _ hk => hk.elim) ?aF ?aO ?aB ?aS ?aL ?_; (case aP => exact k48_mkM _ _ _ (⟨a2, (rd_T59 l0 a1).f1⟩ : S48)); (case aB => exact sq_b); (case aF => exact (fun k_ hk => (.inr (Nat.le_trans (by first | exact HK.out.1 | exact (show Kept w _ (fun k_ => P3_ k_) from by repeat (first | (with_reducible first | exact HK.out | apply Kept.alloc | apply Kept.drewN | apply Kept.drew) | exact HK.out)).1) hk)))); (case aO => exact (sq_r HO3)); (case aS => exact (below_size sq_b)); (case aL => have := LMc9.out; omega); intro v164 w10 ho hb hg hat; rw [← Ny163.out] at ho; have n0_ := Aside0.mk (hb); have n1_ := Aside0.mk (Kept.of_grown (S := (fun k_ => P3_ k_)) hg sq_k (fun k_ e_ => (HO3.out.1 k_ e_))); have n2_ := Aside0.mk (ho); clear HB; clear HK; clear HO3; have HB := n0_; have HK := n1_; have HO165 := n2_; clear n0_ n1_ n2_; clear ho hb hg hat))
    go_meet
    case rel => exact ⟨_, (y163), H', ⟨by first | omega | exact Nat.le_refl _⟩, ⟨by (with_reducible repeat (first | apply Kd.R_alloc | apply Kd.R_drewN | apply Kd.R_drew)); exact HO165.out⟩, ⟨sq_k⟩, ⟨sq_b⟩⟩
   ·rw [if_neg c8] at H
    have c8b0 : decide (0 < ((rd_T59 l0 a1).f1)) = false := decide_eq_false c8
    clear c8
    (first | rw [c8b0] | (simp only [i64_w, i32_w]; rw [c8b0]) | skip)
    have H' := Aside0.mk H
    clear H
    go_wp2
    go_meet
    case rel => exact ⟨_, (l3), H', ⟨by first | omega | exact Nat.le_refl _⟩, ⟨by (with_reducible repeat (first | apply Kd.R_alloc | apply Kd.R_drewN | apply Kd.R_drew)); exact HO3.out⟩, ⟨sq_k⟩, ⟨sq_b⟩⟩
  case rest =>
   clear HC7
   (try clear c1); (try clear p1); (try clear q1); (try clear hx1); (try clear p2); (try clear c5); (try clear c5b0); (try clear c6); (try clear c6b0); (try clear c8); (try clear c8b0); (try clear c9); (try clear hx161_0); (try clear hx161_1); (try clear hx161_2); (try clear hx161_3); (try clear hx162_0); (try clear hx162_1); (try clear hx162_2); (try clear hx162_3); (try clear p161); (try clear p162)
   (try clear q161); (try clear q162)
   obtain ⟨kq, x3_6, HA, HJ6, HO_3, HK, HB⟩ := hcut
   cases kq with
   | zero => exact absurd HA.out (by simp [spec_l13Entries.j0])
   | succ kj6 =>
    have H := HA.out
    clear HA
    simp only [spec_l13Entries.j0] at H
    by_cases c11 : 0 ≤ a1
    rotate_left
    ·rw [if_neg c11] at H
     exact absurd H (by simp)
    rw [if_pos c11] at H
    have c11b0 : decide (0 ≤ a1) = true := decide_eq_true c11
    clear c11
    by_cases c12 : a1 < (l0.length : Int)
    rotate_left
    ·rw [if_neg c12] at H
     exact absurd H (by simp)
    rw [if_pos c12] at H
    have c12b0 : decide (a1 < (l0.length : Int)) = true := decide_eq_true c12
    clear c12
    have H' := Aside0.mk H
    clear H
    have p166 : 0 ≤ (a1 : Int) := sq_d
    have q166 : a1 < (l0.length : Int) := sq_d
    obtain ⟨ad166, A166_3, c166_3, e166, hx166_0, hx166_1, hx166_2, hx166_3, hl166_3, hi166_3⟩ := at_T59 (Kd.C_kept_now HR0.out HK.out) a1 p166 q166
    have HHX166 := Aside0.mk hx166_3
    have HHK166 := Aside0.mk HK.out
    have HHP166 := Aside0.mk (And.intro p166 q166)
    obtain rfl : ad161 = ad166 := (by injection e166)
    have HR166_3 := Aside0.mk hi166_3
    have HC166_3 := Aside0.mk hl166_3
    clear hi166_3 hl166_3
    replace p166 := eq_true p166
    replace q166 := eq_true q166
    go_wp2
    go_loopg [3, 33] kj6 (fun kq v3 v33 w' => ∃ (x3_2 : List (S48)) (x33_2 : Int), v33 = .int .i64 x33_2 ∧ Aside0 (spec_l13Entries.l0 kq l0 a1 a2 x3_2 ((rd_T59 l0 a1).f3) (((rd_T59 l0 a1).f3).length : Int) x33_2 = some r) ∧ Aside0 (kq ≤ kj6) ∧ Aside0 (Kd.R k48 48 w' w0.heap.size (fun k_ => (P3_ k_ ∨ w.heap.size ≤ k_)) v3 x3_2) ∧ Aside0 (Kept w w' (fun k_ => P3_ k_)) ∧ Aside0 (Below w0.heap.size w0 w'))
    case atStart => exact ⟨(x3_6), (0), sq_e, H', ⟨Nat.le_refl _⟩, ⟨by (with_reducible repeat (first | apply Kd.R_alloc | apply Kd.R_drewN | apply Kd.R_drew)); exact HO_3.out⟩, ⟨sq_k⟩, ⟨sq_b⟩⟩
    case round =>
     clear H'
     (try clear c1); (try clear p1); (try clear q1); (try clear hx1); (try clear p2); (try clear c5); (try clear c5b0); (try clear c6); (try clear c6b0); (try clear c8); (try clear c8b0); (try clear c9); (try clear c11); (try clear c11b0); (try clear c12); (try clear c12b0); (try clear hx161_0); (try clear hx161_1); (try clear hx161_2); (try clear hx161_3); (try clear hx162_0); (try clear hx162_1)
     (try clear hx162_2); (try clear hx162_3); (try clear hx166_0); (try clear hx166_1); (try clear hx166_2); (try clear hx166_3); (try clear p1); (try clear p161); (try clear p162); (try clear p166); (try clear p2); (try clear q1); (try clear q161); (try clear q162); (try clear q166)
     obtain ⟨x3_2, x33_2, rfl, HA, HK2, HO_3, HK, HB⟩ := hrel
     cases gk with
     | zero => exact absurd HA.out (by simp [spec_l13Entries.l0])
     | succ k2 =>
      have H := HA.out
      clear HA
      simp only [spec_l13Entries.l0] at H
      by_cases c13 : x33_2 < (((rd_T59 l0 a1).f3).length : Int)
      ·rw [if_pos c13] at H
       have c13b0 : decide (x33_2 < (((rd_T59 l0 a1).f3).length : Int)) = true := decide_eq_true c13
       clear c13
       by_cases c14 : 0 ≤ x33_2
       rotate_left
       ·rw [if_neg c14] at H
        exact absurd H (by simp)
       rw [if_pos c14] at H
       have c14b0 : decide (0 ≤ x33_2) = true := decide_eq_true c14
       clear c14
       by_cases c15 : x33_2 < (((rd_T59 l0 a1).f3).length : Int)
       rotate_left
       ·rw [if_neg c15] at H
        exact absurd H (by simp)
       rw [if_pos c15] at H
       have c15b0 : decide (x33_2 < (((rd_T59 l0 a1).f3).length : Int)) = true := decide_eq_true c15
       clear c15
       by_cases c16 : (rd ((rd_T59 l0 a1).f3) x33_2) > a1
       ·rw [if_pos c16] at H
        have c16b0 : decide (a1 < (rd ((rd_T59 l0 a1).f3) x33_2)) = true := decide_eq_true c16
        clear c16
        by_cases c17 : (rd ((rd_T59 l0 a1).f3) x33_2) < (l0.length : Int)
        ·rw [if_pos c17] at H
         have c17b0 : decide ((rd ((rd_T59 l0 a1).f3) x33_2) < (l0.length : Int)) = true := decide_eq_true c17
         clear c17
         by_cases c18 : (x3_2.length : Int) ≤ 20
         ·rw [if_pos c18] at H
          have c18b0 : decide ((x3_2.length : Int) ≤ 20) = true := decide_eq_true c18
          have c18b1 : decide (x3_2.length ≤ 20) = true := decide_eq_true (by omega)
          clear c18
          by_cases c19 : (a2.size : Int) < 12
          ·rw [if_pos c19] at H
           have c19b0 : decide ((a2.size : Int) < 12) = true := decide_eq_true c19
           have c19b1 : decide (a2.size < 12) = true := decide_eq_true (by omega)
           clear c19
           by_cases c20 : 0 ≤ (rd ((rd_T59 l0 a1).f3) x33_2)
           rotate_left
           ·rw [if_neg c20] at H
            exact absurd H (by simp)
           rw [if_pos c20] at H
           have c20b0 : decide (0 ≤ (rd ((rd_T59 l0 a1).f3) x33_2)) = true := decide_eq_true c20
           clear c20
           replace H := Option.bind_eq_some_iff.mp H
           obtain ⟨t169, A210, H⟩ := H
           replace H : (if t169 = true then ((some (([(wrap64 (97 + ((rd_T59 l0 (rd ((rd_T59 l0 a1).f3) x33_2)).f0))) % 256] : List Int) : List Int)).bind fun y171 => (if a2.size + (strOfNums y171).size ≤ 9223372036854775807 then ((spec_l13Entries.f k2 l0 (rd ((rd_T59 l0 a1).f3) x33_2) (a2 ++ (strOfNums y171)) x3_2).bind fun t174 => (spec_l13Entries.l0 k2 l0 a1 a2 t174 ((rd_T59 l0 a1).f3) (((rd_T59 l0 a1).f3).length : Int) (wrap64 (x33_2 + 1)))) else (none))) else (spec_l13Entries.l0 k2 l0 a1 a2 x3_2 ((rd_T59 l0 a1).f3) (((rd_T59 l0 a1).f3).length : Int) (wrap64 (x33_2 + 1)))) = some r := H
           have A21 := Aside0.mk A210
           clear A210
           by_cases c22 : t169 = true
           ·subst c22
            have H1 : ((some (([(wrap64 (97 + ((rd_T59 l0 (rd ((rd_T59 l0 a1).f3) x33_2)).f0))) % 256] : List Int) : List Int)).bind fun y171 => (if a2.size + (strOfNums y171).size ≤ 9223372036854775807 then ((spec_l13Entries.f k2 l0 (rd ((rd_T59 l0 a1).f3) x33_2) (a2 ++ (strOfNums y171)) x3_2).bind fun t174 => (spec_l13Entries.l0 k2 l0 a1 a2 t174 ((rd_T59 l0 a1).f3) (((rd_T59 l0 a1).f3).length : Int) (wrap64 (x33_2 + 1)))) else (none))) = some r := by rw [if_pos rfl] at H; exact H
            clear H
            have H := H1
            clear H1
            obtain ⟨y171, hy171⟩ : ∃ y_ : List Int, y_ = (([(wrap64 (97 + ((rd_T59 l0 (rd ((rd_T59 l0 a1).f3) x33_2)).f0))) % 256] : List Int)) := ⟨_, rfl⟩
            replace H : (if a2.size + (strOfNums y171).size ≤ 9223372036854775807 then ((spec_l13Entries.f k2 l0 (rd ((rd_T59 l0 a1).f3) x33_2) (a2 ++ (strOfNums y171)) x3_2).bind fun t174 => (spec_l13Entries.l0 k2 l0 a1 a2 t174 ((rd_T59 l0 a1).f3) (((rd_T59 l0 a1).f3).length : Int) (wrap64 (x33_2 + 1)))) else (none)) = some r := by first | (rw [hy171]; with_reducible exact H) | (have H2_ := (Option.bind_some _ _).symm.trans H; rw [hy171]; with_reducible exact H2_) | (have H2_ := (Option.bind_some _ _).symm.trans H; with_reducible exact H2_) | with_reducible exact H | (rw [hy171]; exact H) | exact H
            have Ny171 := Aside0.mk hy171
            clear hy171
            by_cases c23 : a2.size + (strOfNums y171).size ≤ 9223372036854775807
            rotate_left
            ·rw [if_neg c23] at H
             exact absurd H (by simp)
            rw [if_pos c23] at H
            have c23b0 := eq_true c23
            have c23b1 : decide (a2.size + (strOfNums y171).size ≤ 9223372036854775807) = true := decide_eq_true c23
            try have c23b2 : (9223372036854775807 < a2.size + (strOfNums y171).size) = False := eq_false (Nat.not_lt.2 c23)
            replace H := Option.bind_eq_some_iff.mp H
            obtain ⟨t174, A240, H⟩ := H
            replace H : (spec_l13Entries.l0 k2 l0 a1 a2 t174 ((rd_T59 l0 a1).f3) (((rd_T59 l0 a1).f3).length : Int) (wrap64 (x33_2 + 1))) = some r := H
            have A24 := Aside0.mk A240
            clear A240
            have H' := Aside0.mk H
            clear H
            have p167 : 0 ≤ (x33_2 : Int) := sq_d
            have q167 : x33_2 < (((rd_T59 l0 a1).f3).length : Int) := sq_d
            obtain ⟨ad167, e167, hx167_0⟩ := Kd.at_int (kids_x6 HR0.out a1 HHP166.out.1 HHP166.out.2 HHK166.out HK.out HHX166.out) x33_2 p167 q167
            cases e167
            try replace hx167_0 := (HB.out.cell (World.block_lt_of_cell? w _ hx167_0)).trans hx167_0
            replace p167 := eq_true p167
            replace q167 := eq_true q167
            obtain ⟨Ao25, co25, eo25⟩ := Kd.R_slice HO_3.out
            subst eo25
            have p168 : 0 ≤ ((rd ((rd_T59 l0 a1).f3) x33_2) : Int) := sq_d
            have q168 : (rd ((rd_T59 l0 a1).f3) x33_2) < (l0.length : Int) := sq_d
            obtain ⟨ad168, A168_3, c168_3, e168, hx168_0, hx168_1, hx168_2, hx168_3, hl168_3, hi168_3⟩ := at_T59 (Kd.C_kept_now HR0.out HK.out) (rd ((rd_T59 l0 a1).f3) x33_2) p168 q168
            obtain rfl : ad161 = ad168 := (by injection e168)
            have HR168_3 := Aside0.mk hi168_3
            have HC168_3 := Aside0.mk hl168_3
            clear hi168_3 hl168_3
            replace p168 := eq_true p168
            replace q168 := eq_true q168
            go_wp2_with (first | (go_at_call 67; (with_reducible refine (spec_l1In.calls ((rd_T59 l0 (rd ((rd_T59 l0 a1).f3) x33_2)).f0) 0 25 true _ A21.out).mono ?_); rintro e w' ⟨rfl, ⟨nd, rfl⟩⟩; have p170 : 0 ≤ ((rd ((rd_T59 l0 a1).f3) x33_2) : Int) := sq_d; have q170 : (rd ((rd_T59 l0 a1).f3) x33_2) < (l0.length : Int) := sq_d; obtain ⟨ad170, A170_3, c170_3, e170, hx170_0, hx170_1, hx170_2, hx170_3, hl170_3, hi170_3⟩ := at_T59 (Kd.C_kept_now HR0.out HK.out) (rd ((rd_T59 l0 a1).f3) x33_2) p170 q170; obtain rfl : ad161 = ad170 := (by injection e170); have HR170_3 := Aside0.mk hi170_3; have HC170_3 := Aside0.mk hl170_3; clear hi170_3 hl170_3; replace p170 := eq_true p170; replace q170 := eq_true q170; have ea_ := Option.some.inj (hx168_3.symm.trans hx170_3); injection ea_ with ea_ en_ ec_; subst ea_; subst ec_; clear en_) | ((with_reducible refine gate_dst (N := 74) rfl ?_); (try (refine gate_guard (by rfl) ?_; dsimp only)); refine Kd.R_lit (Kd.int .u8) _ 5 ?hg (N := 74) ?hd (xs := ([(wrap64 (97 + ((rd_T59 l0 (rd ((rd_T59 l0 a1).f3) x33_2)).f0))) % 256] : List Int)) (inner := [.int .u8 ((wrap64 (97 + ((rd_T59 l0 (rd ((rd_T59 l0 a1).f3) x33_2)).f0))) % 256)]) (ok := fun _ => True) (okp := fun _ => True) ?hr ?hp (fun _ hk => hk) trivial (Below.refl _ _) (Nat.le_refl _) (by simp) ?_; (case hd => rfl); (case hg => rfl); (case hr => first | (go_simp; done) | (go_simp; rfl)); (case hp => exact (Reps.one (show Kd.M (Kd.int .u8) _ _ _ ((wrap64 (97 + ((rd_T59 l0 (rd ((rd_T59 l0 a1).f3) x33_2)).f0))) % 256) [.int .u8 ((wrap64 (97 + ((rd_T59 l0 (rd ((rd_T59 l0 a1).f3) x33_2)).f0))) % 256)] from rfl) (Reps.none _ _))); intro v172 w26 ho27 hb hg_ hnew_; clear hg_ hnew_; (first | rw [← Ny171.out] at ho27 | (simp only [Int.reduceToNat] at ho27; rw [← Ny171.out] at ho27)); have n0_ := Aside0.mk (Kd.R_below (sq_r HO_3) hb); have n1_ := Aside0.mk (Kd.R_lower (Kd.R_newM (M := fun k_ => (P3_ k_ ∨ w.heap.size ≤ k_)) ho27 (by first | exact HK.out.1 | exact (show Kept w _ (fun k_ => P3_ k_) from by repeat (first | (with_reducible first | exact HK.out | apply Kept.alloc | apply Kept.drewN | apply Kept.drew) | exact HK.out)).1) (fun k_ h_ => .inr h_)) (below_size sq_b)); have n2_ := Aside0.mk (Kd.C_below (by repeat (first | (with_reducible exact HR168_3.out) | (with_reducible refine Kd.C_alloc ?_ _) | (with_reducible refine Kd.C_drewN ?_ _) | (with_reducible refine Kd.C_drew ?_) | exact HR168_3.out)) hb); have n3_ := Aside0.mk (Kd.C_below (by repeat (first | (with_reducible exact HR170_3.out) | (with_reducible refine Kd.C_alloc ?_ _) | (with_reducible refine Kd.C_drewN ?_ _) | (with_reducible refine Kd.C_drew ?_) | exact HR170_3.out)) hb); have n4_ := Aside0.mk (Kept.below (S := (fun k_ => P3_ k_)) sq_k hb); have n5_ := Aside0.mk (below_step sq_b hb); clear HO_3; clear HR168_3; clear HR170_3; clear HK; clear HB; have HO_3 := n0_; have HO173 := n1_; have HR168_3 := n2_; have HR170_3 := n3_; have HK := n4_; have HB := n5_; clear n0_ n1_ n2_ n3_ n4_ n5_; clear hb ho27; have hcv28 := own_string (P := Try.prog) Try.underlying51 Try.underlying5 Try.underlying9 (Kd.own_of_R HO173.out)) | ((with_reducible refine gate_callee (f := 90) rfl ?_); refine goesL_ (some 78) rfl rfl Try.func90 (by kernel_rfl) rfl #[.slice (some ad161) l0.length c0, .int .i64 (rd ((rd_T59 l0 a1).f3) x33_2), .string (a2 ++ (strOfNums y171)), .slice Ao25 x3_2.length co25] rfl (by (try simp only [List.map_toArray, List.map_cons, List.map_nil]); first | done | rfl | (simp only [List.length_drop, List.length_take]; rfl)) ?_; (with_reducible refine (ih k2 (by have := HJ6.out; have := HK2.out; omega) _ _ l0 (rd ((rd_T59 l0 a1).f3) x33_2) (a2 ++ (strOfNums y171)) (fun k_ => some k_ = (.slice Ao25 x3_2.length co25 : Value).ownBlock) (.slice Ao25 x3_2.length co25) x3_2 t174 w0 _ ?side1 ?side2 ?side3 ?side4 A24.out).mono ?_); (case side1 => repeat (first | (with_reducible first | exact HB.out | apply below_alloc | apply pw_below_drewN | apply below_drew1) | exact HB.out)); (case side2 => exact Kd.C_kept_call HR0.out sq_k (fun k_ hs_ => (fun e_ => (HO_3.out.1 k_ e_.symm)) hs_)); (case side3 => exact HC0.out); (case side4 => exact Kd.R_tight rfl HO_3.out); rintro e w29 ⟨v175, rfl, ho0, hb, hkp⟩; refine ⟨_, rfl, ?_⟩; have n0_ := Aside0.mk (Kd.R_mono (ok' := fun k_ => (P3_ k_ ∨ w.heap.size ≤ k_)) (Kd.R_keptB ((Kd.R_apart' HO173.out (Kd.R_typed HO_3.out) (by decide))) hkp (fun k_ hk_ hs_ => (hk_.2) hs_)) (fun k_ hk_ => hk_.1.1.1)); have n1_ := Aside0.mk (Kd.R_mono (ok' := fun k_ => (P3_ k_ ∨ w.heap.size ≤ k_)) ho0 (fun k_ hk_ => Or.elim hk_ (fun hs_ => (HO_3.out.1 k_ (hs_).symm)) (fun hn_ => (.inr (Nat.le_trans (by first | exact HK.out.1 | exact (show Kept w _ (fun k_ => P3_ k_) from by repeat (first | (with_reducible first | exact HK.out | apply Kept.alloc | apply Kept.drewN | apply Kept.drew) | exact HK.out)).1) hn_))))); have n2_ := Aside0.mk (Kept.then_ (S := (fun k_ => P3_ k_)) sq_k hkp (fun k_ hs_ => (fun e_ => (HO_3.out.1 k_ e_.symm)) hs_)); have n3_ := Aside0.mk (hb); clear HO173; clear HK; clear HB; clear HO_3; have HO173 := n0_; have HO176 := n1_; have HK := n2_; have HB := n3_; clear n0_ n1_ n2_ n3_; (try clear hb); (try clear hkp); (try clear ho0)))
            go_roundg k2
            case measure => have := HJ6.out; have := HK2.out; omega
            case rel => exact ⟨(t174), (wrap64 (x33_2 + 1)), sq_e, H', ⟨by have := HJ6.out; have := HK2.out; omega⟩, ⟨by (with_reducible repeat (first | apply Kd.R_alloc | apply Kd.R_drewN | apply Kd.R_drew)); exact HO176.out⟩, ⟨sq_k⟩, ⟨sq_b⟩⟩
           ·replace c22 := Bool.eq_false_iff.mpr c22
            subst c22
            have H1 : (spec_l13Entries.l0 k2 l0 a1 a2 x3_2 ((rd_T59 l0 a1).f3) (((rd_T59 l0 a1).f3).length : Int) (wrap64 (x33_2 + 1))) = some r := by rw [if_neg (show ¬ (false = true) by decide)] at H; exact H
            clear H
            have H := H1
            clear H1
            have H' := Aside0.mk H
            clear H
            have p167 : 0 ≤ (x33_2 : Int) := sq_d
            have q167 : x33_2 < (((rd_T59 l0 a1).f3).length : Int) := sq_d
            obtain ⟨ad167, e167, hx167_0⟩ := Kd.at_int (kids_x6 HR0.out a1 HHP166.out.1 HHP166.out.2 HHK166.out HK.out HHX166.out) x33_2 p167 q167
            cases e167
            try replace hx167_0 := (HB.out.cell (World.block_lt_of_cell? w _ hx167_0)).trans hx167_0
            replace p167 := eq_true p167
            replace q167 := eq_true q167
            obtain ⟨Ao30, co30, eo30⟩ := Kd.R_slice HO_3.out
            subst eo30
            have p168 : 0 ≤ ((rd ((rd_T59 l0 a1).f3) x33_2) : Int) := sq_d
            have q168 : (rd ((rd_T59 l0 a1).f3) x33_2) < (l0.length : Int) := sq_d
            obtain ⟨ad168, A168_3, c168_3, e168, hx168_0, hx168_1, hx168_2, hx168_3, hl168_3, hi168_3⟩ := at_T59 (Kd.C_kept_now HR0.out HK.out) (rd ((rd_T59 l0 a1).f3) x33_2) p168 q168
            obtain rfl : ad161 = ad168 := (by injection e168)
            have HR168_3 := Aside0.mk hi168_3
            have HC168_3 := Aside0.mk hl168_3
            clear hi168_3 hl168_3
            replace p168 := eq_true p168
            replace q168 := eq_true q168
            go_wp2_with (first | (go_at_call 67; (with_reducible refine (spec_l1In.calls ((rd_T59 l0 (rd ((rd_T59 l0 a1).f3) x33_2)).f0) 0 25 false _ A21.out).mono ?_); rintro e w' ⟨rfl, ⟨nd, rfl⟩⟩))
            go_roundg k2
            case measure => have := HJ6.out; have := HK2.out; omega
            case rel => exact ⟨(x3_2), (wrap64 (x33_2 + 1)), sq_e, H', ⟨by have := HJ6.out; have := HK2.out; omega⟩, ⟨by (with_reducible repeat (first | apply Kd.R_alloc | apply Kd.R_drewN | apply Kd.R_drew)); exact HO_3.out⟩, ⟨sq_k⟩, ⟨sq_b⟩⟩
          ·rw [if_neg c19] at H
           have c19b0 : decide ((a2.size : Int) < 12) = false := decide_eq_false c19
           have c19b1 : decide (a2.size < 12) = false := decide_eq_false (by omega)
           clear c19
           have H' := Aside0.mk H
           clear H
           have p167 : 0 ≤ (x33_2 : Int) := sq_d
           have q167 : x33_2 < (((rd_T59 l0 a1).f3).length : Int) := sq_d
           obtain ⟨ad167, e167, hx167_0⟩ := Kd.at_int (kids_x6 HR0.out a1 HHP166.out.1 HHP166.out.2 HHK166.out HK.out HHX166.out) x33_2 p167 q167
           cases e167
           try replace hx167_0 := (HB.out.cell (World.block_lt_of_cell? w _ hx167_0)).trans hx167_0
           replace p167 := eq_true p167
           replace q167 := eq_true q167
           obtain ⟨Ao31, co31, eo31⟩ := Kd.R_slice HO_3.out
           subst eo31
           go_wp2
           go_roundg k2
           case measure => have := HJ6.out; have := HK2.out; omega
           case rel => exact ⟨(x3_2), (wrap64 (x33_2 + 1)), sq_e, H', ⟨by have := HJ6.out; have := HK2.out; omega⟩, ⟨by (with_reducible repeat (first | apply Kd.R_alloc | apply Kd.R_drewN | apply Kd.R_drew)); exact HO_3.out⟩, ⟨sq_k⟩, ⟨sq_b⟩⟩
         ·rw [if_neg c18] at H
          have c18b0 : decide ((x3_2.length : Int) ≤ 20) = false := decide_eq_false c18
          have c18b1 : decide (x3_2.length ≤ 20) = false := decide_eq_false (by omega)
          clear c18
          have H' := Aside0.mk H
          clear H
          have p167 : 0 ≤ (x33_2 : Int) := sq_d
          have q167 : x33_2 < (((rd_T59 l0 a1).f3).length : Int) := sq_d
          obtain ⟨ad167, e167, hx167_0⟩ := Kd.at_int (kids_x6 HR0.out a1 HHP166.out.1 HHP166.out.2 HHK166.out HK.out HHX166.out) x33_2 p167 q167
          cases e167
          try replace hx167_0 := (HB.out.cell (World.block_lt_of_cell? w _ hx167_0)).trans hx167_0
          replace p167 := eq_true p167
          replace q167 := eq_true q167
          obtain ⟨Ao32, co32, eo32⟩ := Kd.R_slice HO_3.out
          subst eo32
          go_wp2
          go_roundg k2
          case measure => have := HJ6.out; have := HK2.out; omega
          case rel => exact ⟨(x3_2), (wrap64 (x33_2 + 1)), sq_e, H', ⟨by have := HJ6.out; have := HK2.out; omega⟩, ⟨by (with_reducible repeat (first | apply Kd.R_alloc | apply Kd.R_drewN | apply Kd.R_drew)); exact HO_3.out⟩, ⟨sq_k⟩, ⟨sq_b⟩⟩
        ·rw [if_neg c17] at H
         have c17b0 : decide ((rd ((rd_T59 l0 a1).f3) x33_2) < (l0.length : Int)) = false := decide_eq_false c17
         clear c17
         have H' := Aside0.mk H
         clear H
         have p167 : 0 ≤ (x33_2 : Int) := sq_d
         have q167 : x33_2 < (((rd_T59 l0 a1).f3).length : Int) := sq_d
         obtain ⟨ad167, e167, hx167_0⟩ := Kd.at_int (kids_x6 HR0.out a1 HHP166.out.1 HHP166.out.2 HHK166.out HK.out HHX166.out) x33_2 p167 q167
         cases e167
         try replace hx167_0 := (HB.out.cell (World.block_lt_of_cell? w _ hx167_0)).trans hx167_0
         replace p167 := eq_true p167
         replace q167 := eq_true q167
         go_wp2
         go_roundg k2
         case measure => have := HJ6.out; have := HK2.out; omega
         case rel => exact ⟨(x3_2), (wrap64 (x33_2 + 1)), sq_e, H', ⟨by have := HJ6.out; have := HK2.out; omega⟩, ⟨by (with_reducible repeat (first | apply Kd.R_alloc | apply Kd.R_drewN | apply Kd.R_drew)); exact HO_3.out⟩, ⟨sq_k⟩, ⟨sq_b⟩⟩
       ·rw [if_neg c16] at H
        have c16b0 : decide (a1 < (rd ((rd_T59 l0 a1).f3) x33_2)) = false := decide_eq_false c16
        clear c16
        have H' := Aside0.mk H
        clear H
        have p167 : 0 ≤ (x33_2 : Int) := sq_d
        have q167 : x33_2 < (((rd_T59 l0 a1).f3).length : Int) := sq_d
        obtain ⟨ad167, e167, hx167_0⟩ := Kd.at_int (kids_x6 HR0.out a1 HHP166.out.1 HHP166.out.2 HHK166.out HK.out HHX166.out) x33_2 p167 q167
        cases e167
        try replace hx167_0 := (HB.out.cell (World.block_lt_of_cell? w _ hx167_0)).trans hx167_0
        replace p167 := eq_true p167
        replace q167 := eq_true q167
        go_wp2
        go_roundg k2
        case measure => have := HJ6.out; have := HK2.out; omega
        case rel => exact ⟨(x3_2), (wrap64 (x33_2 + 1)), sq_e, H', ⟨by have := HJ6.out; have := HK2.out; omega⟩, ⟨by (with_reducible repeat (first | apply Kd.R_alloc | apply Kd.R_drewN | apply Kd.R_drew)); exact HO_3.out⟩, ⟨sq_k⟩, ⟨sq_b⟩⟩
      ·rw [if_neg c13] at H
       have c13b0 : decide (x33_2 < (((rd_T59 l0 a1).f3).length : Int)) = false := decide_eq_false c13
       clear c13
       obtain rfl := Option.some.inj H
       go_wp2
       go_ret
       exact ⟨_, sq_w, sq_r HO_3, sq_b, sq_k⟩
 ·rw [if_neg c5] at H
  exact absurd H (by simp)

/-! ### spec_l1Same: function 111 -/
def spec_l1Same.l0 : Nat → List Int → List Int → Int → Int → Option (Bool)
 | 0, _, _, _, _ => none
 | k + 1, x0, x1, x12, x13 => if x13 < x12 then (if 0 ≤ x13 then (if x13 < (x0.length : Int) then (if x13 < (x1.length : Int) then (if (rd x0 x13) = (rd x1 x13) then (spec_l1Same.l0 k x0 x1 x12 (wrap64 (x13 + 1))) else (some false)) else (none)) else (none)) else (none)) else (some true)
def spec_l1Same.f (k : Nat) (l0 : List Int) (l1 : List Int) : Option (Bool) := if (l0.length : Int) = (l1.length : Int) then (spec_l1Same.l0 k l0 l1 (l0.length : Int) 0) else (some false)
theorem spec_l1Same.mono_l : ∀ k, (∀ y0 y1 y2 y3, LeO (spec_l1Same.l0 k y0 y1 y2 y3) (spec_l1Same.l0 (k + 1) y0 y1 y2 y3))
 | 0 => fun _ _ _ _ r h => by simp [spec_l1Same.l0] at h
 | k + 1 => by
  have ih0 := spec_l1Same.mono_l k
  ·intro y0 y1 y2 y3
   unfold spec_l1Same.l0
   repeat' first
   | (with_reducible exact ih0 _ _ _ _)
   | (with_reducible exact LeO.refl _)
   | (with_reducible exact LeO.none _)
   | (with_reducible refine LeO.ite ?_ ?_)
   | (with_reducible refine LeO.bind ?_ (fun _ => ?_))
   | exact ih0 _ _ _ _
   | exact LeO.none _
   | refine LeO.ite ?_ ?_
   | refine LeO.bind ?_ (fun _ => ?_)
theorem spec_l1Same.mono : ∀ a0 a1 k, LeO (spec_l1Same.f k a0 a1) (spec_l1Same.f (k + 1) a0 a1) := by
 intro a0 a1 k
 have ih0 := spec_l1Same.mono_l k
 unfold spec_l1Same.f
 repeat' first
   | (with_reducible exact ih0 _ _ _ _)
   | (with_reducible exact LeO.refl _)
   | (with_reducible exact LeO.none _)
   | (with_reducible refine LeO.ite ?_ ?_)
   | (with_reducible refine LeO.bind ?_ (fun _ => ?_))
   | exact ih0 _ _ _ _
   | exact LeO.none _
   | refine LeO.ite ?_ ?_
   | refine LeO.bind ?_ (fun _ => ?_)
set_option maxHeartbeats 8000000 in
set_option maxRecDepth 100000 in
theorem spec_l1Same.calls (k : Nat) (A0 : Option Addr) (c0 : Nat) (l0 : List Int) (A1 : Option Addr) (c1 : Nat) (l1 : List Int) (r : Bool) (w : World) (hr0 : Kd.C (Kd.int .i64) w A0 l0.length l0) (hc0 : l0.length ≤ c0) (hr1 : Kd.C (Kd.int .i64) w A1 l1.length l1) (hc1 : l1.length ≤ c1) (h : spec_l1Same.f k l0 l1 = some r) :
  Calls Try.prog 111 #[.slice A0 l0.length c0, .slice A1 l1.length c1] w fun e w' => e = .returned (.bool r) ∧ Drawn0 w w' := by
 have HR0 := Aside0.mk hr0
 have HC0 := Aside0.mk hc0
 clear hr0 hc0
 have HR1 := Aside0.mk hr1
 have HC1 := Aside0.mk hc1
 clear hr1 hc1
 have H : (if (l0.length : Int) = (l1.length : Int) then (spec_l1Same.l0 k l0 l1 (l0.length : Int) 0) else (some false)) = some r := h
 clear h
 by_cases c3 : (l0.length : Int) = (l1.length : Int)
 ·rw [if_pos c3] at H
  have c3b0 : ((l0.length : Int) == (l1.length : Int)) = true := beq_iff_eq.mpr c3
  have c3b1 : ((l0.length : Int) != (l1.length : Int)) = false := bne_eq_false_iff_eq.mpr c3
  have c3b2 : (l0.length == l1.length) = true := by first | simpa using c3 | (simp at c3 ⊢; omega)
  clear c3
  have H' := Aside0.mk H
  clear H
  go_enter Try.func111, Try.ntmps111
  go_wp2
  repeat (go_quiet (fail); try go_wp2)
  go_loopg [13] k (fun kq v13 w' => ∃ (x13_1 : Int), v13 = .int .i64 x13_1 ∧ Aside0 (spec_l1Same.l0 kq l0 l1 (l0.length : Int) x13_1 = some r) ∧ Aside0 (kq ≤ k) ∧ Drawn0 w w')
  case atStart => exact ⟨(0), sq_e, H', ⟨Nat.le_refl _⟩, by repeat (first | exact Drawn0.refl _ | apply Drawn0.step)⟩
  case round =>
   clear H'
   (try clear c1); (try clear p2); (try clear c3); (try clear c3b0); (try clear c3b1); (try clear c3b2)
   obtain ⟨x13_1, rfl, HA, HK1, ⟨m1, rfl⟩⟩ := hrel
   cases gk with
   | zero => exact absurd HA.out (by simp [spec_l1Same.l0])
   | succ k1 =>
    have H := HA.out
    clear HA
    simp only [spec_l1Same.l0] at H
    by_cases c4 : x13_1 < (l0.length : Int)
    ·rw [if_pos c4] at H
     have c4b0 : decide (x13_1 < (l0.length : Int)) = true := decide_eq_true c4
     clear c4
     by_cases c5 : 0 ≤ x13_1
     rotate_left
     ·rw [if_neg c5] at H
      exact absurd H (by simp)
     rw [if_pos c5] at H
     have c5b0 : decide (0 ≤ x13_1) = true := decide_eq_true c5
     clear c5
     by_cases c6 : x13_1 < (l0.length : Int)
     rotate_left
     ·rw [if_neg c6] at H
      exact absurd H (by simp)
     rw [if_pos c6] at H
     have c6b0 : decide (x13_1 < (l0.length : Int)) = true := decide_eq_true c6
     clear c6
     by_cases c7 : x13_1 < (l1.length : Int)
     rotate_left
     ·rw [if_neg c7] at H
      exact absurd H (by simp)
     rw [if_pos c7] at H
     have c7b0 : decide (x13_1 < (l1.length : Int)) = true := decide_eq_true c7
     clear c7
     by_cases c8 : (rd l0 x13_1) = (rd l1 x13_1)
     ·rw [if_pos c8] at H
      have c8b0 : ((rd l0 x13_1) == (rd l1 x13_1)) = true := beq_iff_eq.mpr c8
      have c8b1 : ((rd l0 x13_1) != (rd l1 x13_1)) = false := bne_eq_false_iff_eq.mpr c8
      clear c8
      have H' := Aside0.mk H
      clear H
      have p177 : 0 ≤ (x13_1 : Int) := sq_d
      have q177 : x13_1 < (l0.length : Int) := sq_d
      obtain ⟨ad177, e177, hx177_0⟩ := Kd.at_int HR0.out x13_1 p177 q177
      cases e177
      replace p177 := eq_true p177
      replace q177 := eq_true q177
      have p178 : 0 ≤ (x13_1 : Int) := sq_d
      have q178 : x13_1 < (l1.length : Int) := sq_d
      obtain ⟨ad178, e178, hx178_0⟩ := Kd.at_int HR1.out x13_1 p178 q178
      cases e178
      replace p178 := eq_true p178
      replace q178 := eq_true q178
      go_wp2
      repeat (go_quiet (fail); try go_wp2)
      go_roundg k1
      case measure => have := HK1.out; omega
      case rel => exact ⟨(wrap64 (x13_1 + 1)), sq_e, H', ⟨by have := HK1.out; omega⟩, by repeat (first | exact Drawn0.refl _ | apply Drawn0.step)⟩
     ·rw [if_neg c8] at H
      have c8b0 : ((rd l0 x13_1) == (rd l1 x13_1)) = false := beq_eq_false_iff_ne.mpr c8
      have c8b1 : ((rd l0 x13_1) != (rd l1 x13_1)) = true := bne_iff_ne.mpr c8
      obtain rfl := Option.some.inj H
      have p177 : 0 ≤ (x13_1 : Int) := sq_d
      have q177 : x13_1 < (l0.length : Int) := sq_d
      obtain ⟨ad177, e177, hx177_0⟩ := Kd.at_int HR0.out x13_1 p177 q177
      cases e177
      replace p177 := eq_true p177
      replace q177 := eq_true q177
      have p178 : 0 ≤ (x13_1 : Int) := sq_d
      have q178 : x13_1 < (l1.length : Int) := sq_d
      obtain ⟨ad178, e178, hx178_0⟩ := Kd.at_int HR1.out x13_1 p178 q178
      cases e178
      replace p178 := eq_true p178
      replace q178 := eq_true q178
      go_wp2
      repeat (go_quiet (fail); try go_wp2)
      go_ret
      exact ⟨by first | rfl | (simp; done) | (simp [ext_bne_nil, ext_beq_nil]; done) | (simp [*]; done), by repeat (first | exact Drawn0.refl _ | apply Drawn0.step)⟩
    ·rw [if_neg c4] at H
     have c4b0 : decide (x13_1 < (l0.length : Int)) = false := decide_eq_false c4
     clear c4
     obtain rfl := Option.some.inj H
     go_wp2
     repeat (go_quiet (fail); try go_wp2)
     go_ret
     exact ⟨by first | rfl | (simp; done) | (simp [ext_bne_nil, ext_beq_nil]; done) | (simp [*]; done), by repeat (first | exact Drawn0.refl _ | apply Drawn0.step)⟩
 ·rw [if_neg c3] at H
  have c3b0 : ((l0.length : Int) == (l1.length : Int)) = false := beq_eq_false_iff_ne.mpr c3
  have c3b1 : ((l0.length : Int) != (l1.length : Int)) = true := bne_iff_ne.mpr c3
  have c3b2 : (l0.length == l1.length) = false := by first | simpa using c3 | (simp at c3 ⊢; omega)
  obtain rfl := Option.some.inj H
  go_enter Try.func111, Try.ntmps111
  go_wp2
  repeat (go_quiet (fail); try go_wp2)
  go_ret
  exact ⟨by first | rfl | (simp; done) | (simp [ext_bne_nil, ext_beq_nil]; done) | (simp [*]; done), by repeat (first | exact Drawn0.refl _ | apply Drawn0.step)⟩

end Go.Proofs.Ytkoackkimdanjaa.QFnExactSuggest
