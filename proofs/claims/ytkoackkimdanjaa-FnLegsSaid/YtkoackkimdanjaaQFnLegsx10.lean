-- Written by this session's own program (wip/pp_patch.py, wip/pp.sh) out of the given translation. Not trusted: Lean checks it.
import Derived.Test.YtkoackkimdanjaaQFnLegsx0
import Derived.Test.YtkoackkimdanjaaQFnLegsx2
import Derived.Test.YtkoackkimdanjaaQFnLegsx3
import Derived.Test.YtkoackkimdanjaaQFnLegsx7
import Derived.Test.YtkoackkimdanjaaQFnLegsx8
import Derived.Test.YtkoackkimdanjaaQFnLegsx9
namespace Go.Proofs.Ytkoackkimdanjaa.QFnLegs
open Go.RowKit Go.Proofs.YtkoackkimdanjaaW.PrintWords Go.Proofs.YtkoackkimdanjaaW.PrintLast Go.Proofs.YtkoackkimdanjaaW.PrintMore
attribute [local go_sem] max2_int min2_int max_two min_two max_three min_three max_four min_four   -- for this text's walks alone
open Go.Proofs.Ytkoackkimdanjaa.Ext
attribute [local go_sem high] ext_gtr ext_leq
set_option linter.unusedVariables false
set_option linter.unusedSimpArgs false

/-! ### spec_l13Of: function 52 -/
def spec_l13Of.l0 : Nat → List (S59) → List (S59) → Int → Int → Option ((List (S48)) × Bool)
 | 0, _, _, _, _ => none
 | k + 1, x0, x11, x12, x13 => if x13 < x12 then (if 0 ≤ x13 then (if x13 < (x11.length : Int) then ((spec_l1Rising.f k ((rd_T59 x11 x13).f3) (wrap64 (x13 + 1)) (wrap64 ((x0.length : Int) - 1))).bind fun t168 => (if t168 = true then (spec_l13Of.l0 k x0 x11 x12 (wrap64 (x13 + 1))) else (some (([] : List (S48)), false)))) else (none)) else (none)) else ((spec_l13Many.f k x0).bind fun t169 => (if t169 = (wrap64 ((x0.length : Int) - 1)) then ((spec_l13Entries.f k x0 0 (⟨#[]⟩ : ByteArray) ([] : List (S48))).bind fun t170 => ((spec_GoodEntries.f k t170).bind fun t173 => (if t173 = true then ((spec_l13Build.f t170 0 ([] : List (S59))).bind fun t174 => ((spec_l13Same.f k x0 t174).bind fun t177 => (some (t170, t177)))) else (some (t170, false))))) else (some (([] : List (S48)), false))))
def spec_l13Of.f (k : Nat) (l0 : List (S59)) : Option ((List (S48)) × Bool) := (spec_l1In.f (l0.length : Int) 1 120).bind fun t165 => (if t165 = true then (spec_l13Of.l0 k l0 l0 (l0.length : Int) 0) else (some (([] : List (S48)), false)))
theorem spec_l13Of.mono_l : ∀ k, (∀ y0 y1 y2 y3, LeO (spec_l13Of.l0 k y0 y1 y2 y3) (spec_l13Of.l0 (k + 1) y0 y1 y2 y3))
 | 0 => fun _ _ _ _ r h => by simp [spec_l13Of.l0] at h
 | k + 1 => by
  have ih0 := spec_l13Of.mono_l k
  ·intro y0 y1 y2 y3
   unfold spec_l13Of.l0
   repeat' first
   | (with_reducible exact ih0 _ _ _ _)
   | (with_reducible exact spec_GoodEntries.mono _ _)
   | (with_reducible exact spec_l13Entries.mono _ _ _ _ _)
   | (with_reducible exact spec_l13Many.mono _ _)
   | (with_reducible exact spec_l13Same.mono _ _ _)
   | (with_reducible exact spec_l1Rising.mono _ _ _ _)
   | (with_reducible exact LeO.refl _)
   | (with_reducible exact LeO.none _)
   | (with_reducible refine LeO.ite ?_ ?_)
   | (with_reducible refine LeO.bind ?_ (fun _ => ?_))
   | exact ih0 _ _ _ _
   | exact spec_GoodEntries.mono _ _
   | exact spec_l13Entries.mono _ _ _ _ _
   | exact spec_l13Many.mono _ _
   | exact spec_l13Same.mono _ _ _
   | exact spec_l1Rising.mono _ _ _ _
   | exact LeO.none _
   | refine LeO.ite ?_ ?_
   | refine LeO.bind ?_ (fun _ => ?_)
theorem spec_l13Of.mono : ∀ a0 k, LeO (spec_l13Of.f k a0) (spec_l13Of.f (k + 1) a0) := by
 intro a0 k
 have ih0 := spec_l13Of.mono_l k
 unfold spec_l13Of.f
 repeat' first
   | (with_reducible exact ih0 _ _ _ _)
   | (with_reducible exact spec_GoodEntries.mono _ _)
   | (with_reducible exact spec_l13Entries.mono _ _ _ _ _)
   | (with_reducible exact spec_l13Many.mono _ _)
   | (with_reducible exact spec_l13Same.mono _ _ _)
   | (with_reducible exact spec_l1Rising.mono _ _ _ _)
   | (with_reducible exact LeO.refl _)
   | (with_reducible exact LeO.none _)
   | (with_reducible refine LeO.ite ?_ ?_)
   | (with_reducible refine LeO.bind ?_ (fun _ => ?_))
   | exact ih0 _ _ _ _
   | exact spec_GoodEntries.mono _ _
   | exact spec_l13Entries.mono _ _ _ _ _
   | exact spec_l13Many.mono _ _
   | exact spec_l13Same.mono _ _ _
   | exact spec_l1Rising.mono _ _ _ _
   | exact LeO.none _
   | refine LeO.ite ?_ ?_
   | refine LeO.bind ?_ (fun _ => ?_)
set_option maxHeartbeats 8000000 in
set_option maxRecDepth 100000 in
theorem spec_l13Of.calls (k : Nat) (A0 : Option Addr) (c0 : Nat) (l0 : List (S59)) (r1 : List (S48)) (r2 : Bool) (w : World) (hr0 : Kd.C k59 w A0 l0.length l0) (hc0 : l0.length ≤ c0) (h : spec_l13Of.f k l0 = some (r1, r2)) :
  Calls Try.prog 52 #[.slice A0 l0.length c0] w fun e w' => ∃ v0_ : Value, e = .returned (.tuple #[v0_, .bool r2]) ∧ Kd.R k48 48 w' w.heap.size (fun _ => True) v0_ r1 ∧ Below w.heap.size w w' := by
 have hu59 := Try.underlying59
 have HR0 := mk_ hr0
 have HC0 := mk_ hc0
 clear hr0 hc0
 have HB := mk_ (Below.refl w.heap.size w)
 have H : ((spec_l1In.f (l0.length : Int) 1 120).bind fun t165 => (if t165 = true then (spec_l13Of.l0 k l0 l0 (l0.length : Int) 0) else (some (([] : List (S48)), false)))) = some (r1, r2) := h
 clear h
 replace H := Option.bind_eq_some_iff.mp H
 obtain ⟨t165, A20, H⟩ := H
 replace H : (if t165 = true then (spec_l13Of.l0 k l0 l0 (l0.length : Int) 0) else (some (([] : List (S48)), false))) = some (r1, r2) := H
 have A2 := mk_ A20
 clear A20
 by_cases c3 : t165 = true
 ·subst c3
  have H1 : (spec_l13Of.l0 k l0 l0 (l0.length : Int) 0) = some (r1, r2) := by rw [if_pos rfl] at H; exact H
  clear H
  have H := H1
  clear H1
  have H' := mk_ H
  clear H
  go_enter Try.func52, Try.ntmps52
  go_wp2_with (first | ((with_reducible refine gate_callee (f := 67) rfl ?_); refine goesL_ (some 9) rfl rfl Try.func67 (by kernel_rfl) rfl #[.int .i64 (l0.length : Int), .int .i64 1, .int .i64 120] rfl sq_a ?_; (with_reducible refine (spec_l1In.calls (l0.length : Int) 1 120 true _ A2.out).mono ?_); rintro e w' ⟨rfl, ⟨nd, rfl⟩⟩; refine ⟨_, rfl, ?_⟩))
  (try simp only [Act.put, List.setIfInBounds_toArray, List.set_cons_zero, List.set_cons_succ])
  go_loopg [13] k (fun kq v13 w' => ∃ (x13_1 : Int), v13 = .int .i64 x13_1 ∧ Aside0 (spec_l13Of.l0 kq l0 l0 (l0.length : Int) x13_1 = some (r1, r2)) ∧ Aside0 (kq ≤ k) ∧ Aside0 (Below w.heap.size w w'))
  case atStart => exact ⟨(0), sq_e, H', ⟨Nat.le_refl _⟩, ⟨sq_b⟩⟩
  case round =>
   clear H'
   (try clear p2); (try clear c3)
   obtain ⟨x13_1, rfl, HA, HK1, HB⟩ := hrel
   cases gk with
   | zero => exact absurd HA.out (by simp [spec_l13Of.l0])
   | succ k1 =>
    have H := HA.out
    clear HA
    simp only [spec_l13Of.l0] at H
    by_cases c4 : x13_1 < (l0.length : Int)
    ·rw [if_pos c4] at H
     have c4b0 : decide (x13_1 < (l0.length : Int)) = true := decide_eq_true c4
     clear c4
     by_cases c5 : 0 ≤ x13_1
     rotate_left
     ·rw [if_neg c5] at H
      exact absurd H (by simp)
     rw [if_pos c5] at H
     have c5b0 : decide (0 ≤ x13_1) = true := decide_eq_true c5
     clear c5
     by_cases c6 : x13_1 < (l0.length : Int)
     rotate_left
     ·rw [if_neg c6] at H
      exact absurd H (by simp)
     rw [if_pos c6] at H
     have c6b0 : decide (x13_1 < (l0.length : Int)) = true := decide_eq_true c6
     clear c6
     replace H := Option.bind_eq_some_iff.mp H
     obtain ⟨t168, A70, H⟩ := H
     replace H : (if t168 = true then (spec_l13Of.l0 k1 l0 l0 (l0.length : Int) (wrap64 (x13_1 + 1))) else (some (([] : List (S48)), false))) = some (r1, r2) := H
     have A7 := mk_ A70
     clear A70
     by_cases c8 : t168 = true
     ·subst c8
      have H1 : (spec_l13Of.l0 k1 l0 l0 (l0.length : Int) (wrap64 (x13_1 + 1))) = some (r1, r2) := by rw [if_pos rfl] at H; exact H
      clear H
      have H := H1
      clear H1
      have H' := mk_ H
      clear H
      have p166 : 0 ≤ (x13_1 : Int) := sq_d
      have q166 : x13_1 < (l0.length : Int) := sq_d
      obtain ⟨ad166, A166_3, c166_3, e166, hx166_0, hx166_1, hx166_2, hx166_3, hl166_3, hi166_3⟩ := at_T59 HR0.out x13_1 p166 q166
      cases e166
      try replace hx166_0 := (HB.out.cell (World.block_lt_of_cell? w _ hx166_0)).trans hx166_0
      try replace hx166_1 := (HB.out.cell (World.block_lt_of_cell? w _ hx166_1)).trans hx166_1
      try replace hx166_2 := (HB.out.cell (World.block_lt_of_cell? w _ hx166_2)).trans hx166_2
      try replace hx166_3 := (HB.out.cell (World.block_lt_of_cell? w _ hx166_3)).trans hx166_3
      have HR166_3 := mk_ hi166_3
      have HC166_3 := mk_ hl166_3
      clear hi166_3 hl166_3
      replace p166 := eq_true p166
      replace q166 := eq_true q166
      go_wp2_with (first | ((with_reducible refine gate_dst (N := 5) rfl ?_); refine box_event sq_0 (N := 5) sq_0 (cs := #[.int .i64 0, .int .i64 0, .int .i64 0, .slice none 0 0]) (t := 59) sq_h ?_; intro gb167 hg w9 hbox hb; have n0_ := mk_ (below_step sq_b hb); have n1_ := mk_ (hbox); have n2_ := mk_ ((by rw [hg]; exact (below_size sq_b) : w.heap.size ≤ gb167)); have n3_ := mk_ ((by rw [hg]; exact (below_size sq_b) : w.heap.size ≤ gb167)); clear HB; have HB := n0_; have BK167 := n1_; have GW167 := n2_; have GE167 := n3_; clear n0_ n1_ n2_ n3_; clear hb hbox hg; have hcz10_0 : w9.cell? ⟨gb167, 0, none⟩ = some (.int .i64 0) := (blk_cell BK167.out 0).trans rfl; have hcz10_1 : w9.cell? ⟨gb167, 1, none⟩ = some (.int .i64 0) := (blk_cell BK167.out 1).trans rfl; have hcz10_2 : w9.cell? ⟨gb167, 2, none⟩ = some (.int .i64 0) := (blk_cell BK167.out 2).trans rfl; have hcz10_3 : w9.cell? ⟨gb167, 3, none⟩ = some (.slice none 0 0) := (blk_cell BK167.out 3).trans rfl; have hfz10_0 := blk_frozen BK167.out 0; have hfz10_1 := blk_frozen BK167.out 1; have hfz10_2 := blk_frozen BK167.out 2; have hfz10_3 := blk_frozen BK167.out 3) | ((with_reducible refine gate_callee (f := 88) rfl ?_); refine goesL_ (some 25) rfl rfl Try.func88 (by kernel_rfl) rfl #[.slice A166_3 ((rd_T59 l0 x13_1).f3).length c166_3, .int .i64 (wrap64 (x13_1 + 1)), .int .i64 (wrap64 ((l0.length : Int) - 1))] rfl sq_a ?_; (with_reducible refine (spec_l1Rising.calls k1 _ _ ((rd_T59 l0 x13_1).f3) (wrap64 (x13_1 + 1)) (wrap64 ((l0.length : Int) - 1)) true _ ?side1 ?side2 A7.out).mono ?_); (case side1 => exact Kd.C_below HR166_3.out (sq_g GE167.out)); (case side2 => exact HC166_3.out); rintro e w' ⟨rfl, ⟨nd, rfl⟩⟩; refine ⟨_, rfl, ?_⟩))
      go_roundg k1
      case measure => have := HK1.out; omega
      case rel => exact ⟨(wrap64 (x13_1 + 1)), sq_e, H', ⟨by have := HK1.out; omega⟩, ⟨sq_g GE167.out⟩⟩
     ·replace c8 := Bool.eq_false_iff.mpr c8
      subst c8
      have H1 : (some (([] : List (S48)), false)) = some (r1, r2) := by rw [if_neg (show ¬ (false = true) by decide)] at H; exact H
      clear H
      have H := H1
      clear H1
      simp only [Option.some.injEq, Prod.mk.injEq] at H
      obtain ⟨rfl, rfl⟩ := H
      have p166 : 0 ≤ (x13_1 : Int) := sq_d
      have q166 : x13_1 < (l0.length : Int) := sq_d
      obtain ⟨ad166, A166_3, c166_3, e166, hx166_0, hx166_1, hx166_2, hx166_3, hl166_3, hi166_3⟩ := at_T59 HR0.out x13_1 p166 q166
      cases e166
      try replace hx166_0 := (HB.out.cell (World.block_lt_of_cell? w _ hx166_0)).trans hx166_0
      try replace hx166_1 := (HB.out.cell (World.block_lt_of_cell? w _ hx166_1)).trans hx166_1
      try replace hx166_2 := (HB.out.cell (World.block_lt_of_cell? w _ hx166_2)).trans hx166_2
      try replace hx166_3 := (HB.out.cell (World.block_lt_of_cell? w _ hx166_3)).trans hx166_3
      have HR166_3 := mk_ hi166_3
      have HC166_3 := mk_ hl166_3
      clear hi166_3 hl166_3
      replace p166 := eq_true p166
      replace q166 := eq_true q166
      go_wp2_with (first | ((with_reducible refine gate_dst (N := 5) rfl ?_); refine box_event sq_0 (N := 5) sq_0 (cs := #[.int .i64 0, .int .i64 0, .int .i64 0, .slice none 0 0]) (t := 59) sq_h ?_; intro gb167 hg w11 hbox hb; have n0_ := mk_ (below_step sq_b hb); have n1_ := mk_ (hbox); have n2_ := mk_ ((by rw [hg]; exact (below_size sq_b) : w.heap.size ≤ gb167)); have n3_ := mk_ ((by rw [hg]; exact (below_size sq_b) : w.heap.size ≤ gb167)); clear HB; have HB := n0_; have BK167 := n1_; have GW167 := n2_; have GE167 := n3_; clear n0_ n1_ n2_ n3_; clear hb hbox hg; have hcz12_0 : w11.cell? ⟨gb167, 0, none⟩ = some (.int .i64 0) := (blk_cell BK167.out 0).trans rfl; have hcz12_1 : w11.cell? ⟨gb167, 1, none⟩ = some (.int .i64 0) := (blk_cell BK167.out 1).trans rfl; have hcz12_2 : w11.cell? ⟨gb167, 2, none⟩ = some (.int .i64 0) := (blk_cell BK167.out 2).trans rfl; have hcz12_3 : w11.cell? ⟨gb167, 3, none⟩ = some (.slice none 0 0) := (blk_cell BK167.out 3).trans rfl; have hfz12_0 := blk_frozen BK167.out 0; have hfz12_1 := blk_frozen BK167.out 1; have hfz12_2 := blk_frozen BK167.out 2; have hfz12_3 := blk_frozen BK167.out 3) | ((with_reducible refine gate_callee (f := 88) rfl ?_); refine goesL_ (some 25) rfl rfl Try.func88 (by kernel_rfl) rfl #[.slice A166_3 ((rd_T59 l0 x13_1).f3).length c166_3, .int .i64 (wrap64 (x13_1 + 1)), .int .i64 (wrap64 ((l0.length : Int) - 1))] rfl sq_a ?_; (with_reducible refine (spec_l1Rising.calls k1 _ _ ((rd_T59 l0 x13_1).f3) (wrap64 (x13_1 + 1)) (wrap64 ((l0.length : Int) - 1)) false _ ?side1 ?side2 A7.out).mono ?_); (case side1 => exact Kd.C_below HR166_3.out (sq_g GE167.out)); (case side2 => exact HC166_3.out); rintro e w' ⟨rfl, ⟨nd, rfl⟩⟩; refine ⟨_, rfl, ?_⟩))
      go_ret2
      exact ⟨_, sq_w, by first | exact Kd.R_nil _ _ _ _ _ | exact Kd.N_nil _ _ _ _ _ | exact Kd.V_nil _ _ _ _ _ | exact Kd.Q_nil _ _ _ _ _ | exact Kd.S_nil _ _ _ _ _, sq_g GE167.out⟩
    ·rw [if_neg c4] at H
     have c4b0 : decide (x13_1 < (l0.length : Int)) = false := decide_eq_false c4
     clear c4
     replace H := Option.bind_eq_some_iff.mp H
     obtain ⟨t169, A130, H⟩ := H
     replace H : (if t169 = (wrap64 ((l0.length : Int) - 1)) then ((spec_l13Entries.f k1 l0 0 (⟨#[]⟩ : ByteArray) ([] : List (S48))).bind fun t170 => ((spec_GoodEntries.f k1 t170).bind fun t173 => (if t173 = true then ((spec_l13Build.f t170 0 ([] : List (S59))).bind fun t174 => ((spec_l13Same.f k1 l0 t174).bind fun t177 => (some (t170, t177)))) else (some (t170, false))))) else (some (([] : List (S48)), false))) = some (r1, r2) := H
     have A13 := mk_ A130
     clear A130
     by_cases c14 : t169 = (wrap64 ((l0.length : Int) - 1))
     ·rw [if_pos c14] at H
      have c14b0 : (t169 == (wrap64 ((l0.length : Int) - 1))) = true := beq_iff_eq.mpr c14
      have c14b1 : (t169 != (wrap64 ((l0.length : Int) - 1))) = false := bne_eq_false_iff_eq.mpr c14
      clear c14
      replace H := Option.bind_eq_some_iff.mp H
      obtain ⟨t170, A150, H⟩ := H
      replace H : ((spec_GoodEntries.f k1 t170).bind fun t173 => (if t173 = true then ((spec_l13Build.f t170 0 ([] : List (S59))).bind fun t174 => ((spec_l13Same.f k1 l0 t174).bind fun t177 => (some (t170, t177)))) else (some (t170, false)))) = some (r1, r2) := H
      have A15 := mk_ A150
      clear A150
      replace H := Option.bind_eq_some_iff.mp H
      obtain ⟨t173, A160, H⟩ := H
      replace H : (if t173 = true then ((spec_l13Build.f t170 0 ([] : List (S59))).bind fun t174 => ((spec_l13Same.f k1 l0 t174).bind fun t177 => (some (t170, t177)))) else (some (t170, false))) = some (r1, r2) := H
      have A16 := mk_ A160
      clear A160
      by_cases c17 : t173 = true
      ·subst c17
       have H1 : ((spec_l13Build.f t170 0 ([] : List (S59))).bind fun t174 => ((spec_l13Same.f k1 l0 t174).bind fun t177 => (some (t170, t177)))) = some (r1, r2) := by rw [if_pos rfl] at H; exact H
       clear H
       have H := H1
       clear H1
       replace H := Option.bind_eq_some_iff.mp H
       obtain ⟨t174, A180, H⟩ := H
       replace H : ((spec_l13Same.f k1 l0 t174).bind fun t177 => (some (t170, t177))) = some (r1, r2) := H
       have A18 := mk_ A180
       clear A180
       replace H := Option.bind_eq_some_iff.mp H
       obtain ⟨t177, A190, H⟩ := H
       replace H : (some (t170, t177)) = some (r1, r2) := H
       have A19 := mk_ A190
       clear A190
       simp only [Option.some.injEq, Prod.mk.injEq] at H
       obtain ⟨rfl, rfl⟩ := H
       go_wp2_with (first | ((with_reducible refine gate_callee (f := 89) rfl ?_); refine goesL_ (some 29) rfl rfl Try.func89 (by kernel_rfl) rfl #[.slice A0 l0.length c0] rfl sq_a ?_; (with_reducible refine (spec_l13Many.calls k1 _ _ l0 t169 _ ?side1 ?side2 A13.out).mono ?_); (case side1 => exact sq_c (Kd.C_below HR0.out HB.out)); (case side2 => exact HC0.out); rintro e w20 ⟨rfl, hb⟩; refine ⟨_, rfl, ?_⟩; have n0_ := mk_ (below_step sq_b hb); clear HB; have HB := n0_; clear n0_; (try clear hb)) | ((with_reducible refine gate_callee (f := 90) rfl ?_); refine goesL_ (some 35) rfl rfl Try.func90 (by kernel_rfl) rfl #[.slice A0 l0.length c0, .int .i64 0, .string (⟨#[]⟩ : ByteArray), .slice none 0 0] rfl sq_a ?_; (refine (spec_l13Entries.calls k1 _ _ l0 0 (⟨#[]⟩ : ByteArray) (fun k_ => some k_ = (.slice none 0 0 : Value).ownBlock) (.slice none 0 0) ([] : List (S48)) t170 w _ ?side1 ?side2 ?side3 ?side4 A15.out).mono ?_); (case side1 => repeat (first | (with_reducible first | exact HB.out | apply below_alloc | apply pw_below_drewN | apply below_drew1) | exact HB.out)); (case side2 => exact Kd.C_kept_came k59_heap HR0.out sq_b (fun k_ hs_ => (fun e_ => by simp [Value.ownBlock] at e_) hs_)); (case side3 => exact HC0.out); (case side4 => first | exact Kd.R_nil _ _ _ _ _ | exact Kd.S_nil _ _ _ _ _); rintro e w21 ⟨v171, rfl, ho0, hb, hkp⟩; refine ⟨_, rfl, ?_⟩; have n0_ := mk_ (Kd.R_mono (ok' := fun k_ => True) ho0 (fun k_ hk_ => trivial)); have n1_ := mk_ (hb); clear HB; have HO172 := n0_; have HB := n1_; clear n0_ n1_; (try clear hb); (try clear hkp); (try clear ho0); obtain ⟨Ao22, co22, eo22⟩ := Kd.R_slice HO172.out; subst eo22) | ((with_reducible refine gate_callee (f := 36) rfl ?_); refine goesL_ (some 38) rfl rfl Try.func36 (by kernel_rfl) rfl #[.slice Ao22 t170.length co22] rfl sq_a ?_; (with_reducible refine (spec_GoodEntries.calls k1 _ _ t170 true _ ?side1 ?side2 A16.out).mono ?_); (case side1 => exact sq_c (Kd.R_reads' HO172.out).2.2); (case side2 => exact (Kd.R_reads' HO172.out).2.1); rintro e w23 ⟨rfl, hb⟩; refine ⟨_, rfl, ?_⟩; have n0_ := mk_ (Kd.R_below (sq_r HO172) hb); have n1_ := mk_ (below_step sq_b hb); clear HO172 HB; have HO172 := n0_; have HB := n1_; clear n0_ n1_; (try clear hb)) | (go_at_call 44; (refine (spec_l13Build.calls _ _ t170 0 (fun k_ => some k_ = (.slice none 0 0 : Value).ownBlock) (.slice none 0 0) ([] : List (S59)) t174 w _ ?side1 ?side2 ?side3 ?side4 A18.out).mono ?_); (case side1 => repeat (first | (with_reducible first | exact HB.out | apply below_alloc | apply pw_below_drewN | apply below_drew1) | exact HB.out)); (case side2 => exact Kd.C_kept_own (HO172.out) (fun k_ hk_ hs_ => (fun e_ => by simp [Value.ownBlock] at e_) hs_)); (case side3 => exact (Kd.R_reads' HO172.out).2.1); (case side4 => first | exact Kd.R_nil _ _ _ _ _ | exact Kd.S_nil _ _ _ _ _); rintro e w24 ⟨v175, rfl, ho0, hb, hkp⟩; have n0_ := mk_ (Kd.R_mono (ok' := fun k_ => True) (Kd.R_keptB (HO172.out) hkp (fun k_ hk_ hs_ => (fun e_ => by simp [Value.ownBlock] at e_) hs_)) (fun k_ hk_ => trivial)); have n1_ := mk_ (Kd.S_mono (ok' := fun k_ => True) ho0 (fun k_ hk_ => trivial)); have n2_ := mk_ (hb); clear HO172 HB; have HO172 := n0_; have HO176 := n1_; have HB := n2_; clear n0_ n1_ n2_; (try clear hb); (try clear hkp); (try clear ho0); obtain ⟨Ao25, co25, eo25⟩ := Kd.S_slice HO176.out; subst eo25) | (go_at_call 91; (with_reducible refine (spec_l13Same.calls k1 _ _ l0 _ _ t174 t177 _ ?side1 ?side2 ?side3 ?side4 A19.out).mono ?_); (case side1 => exact sq_c (Kd.C_below HR0.out HB.out)); (case side2 => exact HC0.out); (case side3 => exact sq_c (Kd.S_reads' HO176.out).2.2); (case side4 => exact (Kd.S_reads' HO176.out).2.1); rintro e w26 ⟨rfl, hb⟩; have n0_ := mk_ (Kd.R_below (sq_r HO172) hb); have n1_ := mk_ (Kd.S_below (sq_s HO176) hb); have n2_ := mk_ (below_step sq_b hb); clear HO172 HO176 HB; have HO172 := n0_; have HO176 := n1_; have HB := n2_; clear n0_ n1_ n2_; (try clear hb)))
       go_ret2
       exact ⟨_, sq_w, sq_r HO172, sq_b⟩
      ·replace c17 := Bool.eq_false_iff.mpr c17
       subst c17
       have H1 : (some (t170, false)) = some (r1, r2) := by rw [if_neg (show ¬ (false = true) by decide)] at H; exact H
       clear H
       have H := H1
       clear H1
       simp only [Option.some.injEq, Prod.mk.injEq] at H
       obtain ⟨rfl, rfl⟩ := H
       go_wp2_with (first | ((with_reducible refine gate_callee (f := 89) rfl ?_); refine goesL_ (some 29) rfl rfl Try.func89 (by kernel_rfl) rfl #[.slice A0 l0.length c0] rfl sq_a ?_; (with_reducible refine (spec_l13Many.calls k1 _ _ l0 t169 _ ?side1 ?side2 A13.out).mono ?_); (case side1 => exact sq_c (Kd.C_below HR0.out HB.out)); (case side2 => exact HC0.out); rintro e w27 ⟨rfl, hb⟩; refine ⟨_, rfl, ?_⟩; have n0_ := mk_ (below_step sq_b hb); clear HB; have HB := n0_; clear n0_; (try clear hb)) | ((with_reducible refine gate_callee (f := 90) rfl ?_); refine goesL_ (some 35) rfl rfl Try.func90 (by kernel_rfl) rfl #[.slice A0 l0.length c0, .int .i64 0, .string (⟨#[]⟩ : ByteArray), .slice none 0 0] rfl sq_a ?_; (refine (spec_l13Entries.calls k1 _ _ l0 0 (⟨#[]⟩ : ByteArray) (fun k_ => some k_ = (.slice none 0 0 : Value).ownBlock) (.slice none 0 0) ([] : List (S48)) t170 w _ ?side1 ?side2 ?side3 ?side4 A15.out).mono ?_); (case side1 => repeat (first | (with_reducible first | exact HB.out | apply below_alloc | apply pw_below_drewN | apply below_drew1) | exact HB.out)); (case side2 => exact Kd.C_kept_came k59_heap HR0.out sq_b (fun k_ hs_ => (fun e_ => by simp [Value.ownBlock] at e_) hs_)); (case side3 => exact HC0.out); (case side4 => first | exact Kd.R_nil _ _ _ _ _ | exact Kd.S_nil _ _ _ _ _); rintro e w28 ⟨v171, rfl, ho0, hb, hkp⟩; refine ⟨_, rfl, ?_⟩; have n0_ := mk_ (Kd.R_mono (ok' := fun k_ => True) ho0 (fun k_ hk_ => trivial)); have n1_ := mk_ (hb); clear HB; have HO172 := n0_; have HB := n1_; clear n0_ n1_; (try clear hb); (try clear hkp); (try clear ho0); obtain ⟨Ao29, co29, eo29⟩ := Kd.R_slice HO172.out; subst eo29) | ((with_reducible refine gate_callee (f := 36) rfl ?_); refine goesL_ (some 38) rfl rfl Try.func36 (by kernel_rfl) rfl #[.slice Ao29 t170.length co29] rfl sq_a ?_; (with_reducible refine (spec_GoodEntries.calls k1 _ _ t170 false _ ?side1 ?side2 A16.out).mono ?_); (case side1 => exact sq_c (Kd.R_reads' HO172.out).2.2); (case side2 => exact (Kd.R_reads' HO172.out).2.1); rintro e w30 ⟨rfl, hb⟩; refine ⟨_, rfl, ?_⟩; have n0_ := mk_ (Kd.R_below (sq_r HO172) hb); have n1_ := mk_ (below_step sq_b hb); clear HO172 HB; have HO172 := n0_; have HB := n1_; clear n0_ n1_; (try clear hb)))
       go_ret2
       exact ⟨_, sq_w, sq_r HO172, sq_b⟩
     ·rw [if_neg c14] at H
      have c14b0 : (t169 == (wrap64 ((l0.length : Int) - 1))) = false := beq_eq_false_iff_ne.mpr c14
      have c14b1 : (t169 != (wrap64 ((l0.length : Int) - 1))) = true := bne_iff_ne.mpr c14
      simp only [Option.some.injEq, Prod.mk.injEq] at H
      obtain ⟨rfl, rfl⟩ := H
      go_wp2_with (first | ((with_reducible refine gate_callee (f := 89) rfl ?_); refine goesL_ (some 29) rfl rfl Try.func89 (by kernel_rfl) rfl #[.slice A0 l0.length c0] rfl sq_a ?_; (with_reducible refine (spec_l13Many.calls k1 _ _ l0 t169 _ ?side1 ?side2 A13.out).mono ?_); (case side1 => exact sq_c (Kd.C_below HR0.out HB.out)); (case side2 => exact HC0.out); rintro e w31 ⟨rfl, hb⟩; refine ⟨_, rfl, ?_⟩; have n0_ := mk_ (below_step sq_b hb); clear HB; have HB := n0_; clear n0_; (try clear hb)))
      go_ret2
      exact ⟨_, sq_w, by first | exact Kd.R_nil _ _ _ _ _ | exact Kd.N_nil _ _ _ _ _ | exact Kd.V_nil _ _ _ _ _ | exact Kd.Q_nil _ _ _ _ _ | exact Kd.S_nil _ _ _ _ _, sq_b⟩
 ·replace c3 := Bool.eq_false_iff.mpr c3
  subst c3
  have H1 : (some (([] : List (S48)), false)) = some (r1, r2) := by rw [if_neg (show ¬ (false = true) by decide)] at H; exact H
  clear H
  have H := H1
  clear H1
  simp only [Option.some.injEq, Prod.mk.injEq] at H
  obtain ⟨rfl, rfl⟩ := H
  go_enter Try.func52, Try.ntmps52
  go_wp2_with (first | ((with_reducible refine gate_callee (f := 67) rfl ?_); refine goesL_ (some 9) rfl rfl Try.func67 (by kernel_rfl) rfl #[.int .i64 (l0.length : Int), .int .i64 1, .int .i64 120] rfl sq_a ?_; (with_reducible refine (spec_l1In.calls (l0.length : Int) 1 120 false _ A2.out).mono ?_); rintro e w' ⟨rfl, ⟨nd, rfl⟩⟩; refine ⟨_, rfl, ?_⟩))
  go_ret2
  exact ⟨_, sq_w, by first | exact Kd.R_nil _ _ _ _ _ | exact Kd.N_nil _ _ _ _ _ | exact Kd.V_nil _ _ _ _ _ | exact Kd.Q_nil _ _ _ _ _ | exact Kd.S_nil _ _ _ _ _, sq_b⟩

/-! ### spec_EntriesIn: function 26 -/
def spec_EntriesIn.f (k : Nat) (l0 : List (S59)) : Option ((List (S48)) × Bool) := (spec_l13Of.f k l0).bind fun bt178 => (if bt178.2 = true then (some (bt178.1, true)) else (some (([] : List (S48)), false)))
theorem spec_EntriesIn.mono : ∀ a0 k, LeO (spec_EntriesIn.f k a0) (spec_EntriesIn.f (k + 1) a0) := by
 intro a0 k
 unfold spec_EntriesIn.f
 repeat' first
   | (with_reducible exact spec_l13Of.mono _ _)
   | (with_reducible exact LeO.refl _)
   | (with_reducible exact LeO.none _)
   | (with_reducible refine LeO.ite ?_ ?_)
   | (with_reducible refine LeO.bind ?_ (fun _ => ?_))
   | exact spec_l13Of.mono _ _
   | exact LeO.none _
   | refine LeO.ite ?_ ?_
   | refine LeO.bind ?_ (fun _ => ?_)
set_option maxHeartbeats 8000000 in
set_option maxRecDepth 100000 in
theorem spec_EntriesIn.calls (k : Nat) (A0 : Option Addr) (c0 : Nat) (l0 : List (S59)) (r1 : List (S48)) (r2 : Bool) (w : World) (hr0 : Kd.C k59 w A0 l0.length l0) (hc0 : l0.length ≤ c0) (h : spec_EntriesIn.f k l0 = some (r1, r2)) :
  Calls Try.prog 26 #[.slice A0 l0.length c0] w fun e w' => ∃ v0_ : Value, e = .returned (.tuple #[v0_, .bool r2]) ∧ Kd.R k48 48 w' w.heap.size (fun _ => True) v0_ r1 ∧ Below w.heap.size w w' := by
 have HR0 := mk_ hr0
 have HC0 := mk_ hc0
 clear hr0 hc0
 have HB := mk_ (Below.refl w.heap.size w)
 have H : ((spec_l13Of.f k l0).bind fun bt178 => (if bt178.2 = true then (some (bt178.1, true)) else (some (([] : List (S48)), false)))) = some (r1, r2) := h
 clear h
 replace H := Option.bind_eq_some_iff.mp H
 obtain ⟨⟨t178, t179⟩, A20, H⟩ := H
 replace H : (if t179 = true then (some (t178, true)) else (some (([] : List (S48)), false))) = some (r1, r2) := H
 have A2 := mk_ A20
 clear A20
 by_cases c3 : t179 = true
 ·subst c3
  have H1 : (some (t178, true)) = some (r1, r2) := by rw [if_pos rfl] at H; exact H
  clear H
  have H := H1
  clear H1
  simp only [Option.some.injEq, Prod.mk.injEq] at H
  obtain ⟨rfl, rfl⟩ := H
  go_enter Try.func26, Try.ntmps26
  go_wp2_with (first | ((with_reducible refine gate_callee (f := 52) rfl ?_); refine goesL_ (some 8) rfl rfl Try.func52 (by kernel_rfl) rfl #[.slice A0 l0.length c0] rfl sq_a ?_; (with_reducible refine (spec_l13Of.calls k _ _ l0 t178 true _ ?side1 ?side2 A2.out).mono ?_); (case side1 => exact sq_c HR0.out); (case side2 => exact HC0.out); rintro e w4 ⟨v180, rfl, ho0, hb⟩; refine ⟨_, rfl, ?_⟩; have n0_ := mk_ (Kd.R_lower ho0 (below_size sq_b)); have n1_ := mk_ (below_step sq_b hb); clear HB; have HO181 := n0_; have HB := n1_; clear n0_ n1_; (try clear hb); (try clear ho0)))
  go_ret2
  exact ⟨_, sq_w, sq_r HO181, sq_b⟩
 ·replace c3 := Bool.eq_false_iff.mpr c3
  subst c3
  have H1 : (some (([] : List (S48)), false)) = some (r1, r2) := by rw [if_neg (show ¬ (false = true) by decide)] at H; exact H
  clear H
  have H := H1
  clear H1
  simp only [Option.some.injEq, Prod.mk.injEq] at H
  obtain ⟨rfl, rfl⟩ := H
  go_enter Try.func26, Try.ntmps26
  go_wp2_with (first | ((with_reducible refine gate_callee (f := 52) rfl ?_); refine goesL_ (some 8) rfl rfl Try.func52 (by kernel_rfl) rfl #[.slice A0 l0.length c0] rfl sq_a ?_; (with_reducible refine (spec_l13Of.calls k _ _ l0 t178 false _ ?side1 ?side2 A2.out).mono ?_); (case side1 => exact sq_c HR0.out); (case side2 => exact HC0.out); rintro e w5 ⟨v180, rfl, ho0, hb⟩; refine ⟨_, rfl, ?_⟩; have n0_ := mk_ (Kd.R_lower ho0 (below_size sq_b)); have n1_ := mk_ (below_step sq_b hb); clear HB; have HO181 := n0_; have HB := n1_; clear n0_ n1_; (try clear hb); (try clear ho0)))
  go_ret2
  exact ⟨_, sq_w, by first | exact Kd.R_nil _ _ _ _ _ | exact Kd.N_nil _ _ _ _ _ | exact Kd.V_nil _ _ _ _ _ | exact Kd.Q_nil _ _ _ _ _ | exact Kd.S_nil _ _ _ _ _, sq_b⟩

/-! ### impl_EntriesIn: function 27 -/
def impl_EntriesIn.f (k : Nat) (l0 : List (S59)) : Option ((List (S48)) × Bool) := (impl_entries.f k l0).bind fun bt182 => (some (bt182.1, bt182.2))
theorem impl_EntriesIn.mono : ∀ a0 k, LeO (impl_EntriesIn.f k a0) (impl_EntriesIn.f (k + 1) a0) := by
 intro a0 k
 unfold impl_EntriesIn.f
 repeat' first
   | (with_reducible exact impl_entries.mono _ _)
   | (with_reducible exact LeO.refl _)
   | (with_reducible exact LeO.none _)
   | (with_reducible refine LeO.ite ?_ ?_)
   | (with_reducible refine LeO.bind ?_ (fun _ => ?_))
   | exact impl_entries.mono _ _
   | exact LeO.none _
   | refine LeO.ite ?_ ?_
   | refine LeO.bind ?_ (fun _ => ?_)
set_option maxHeartbeats 8000000 in
set_option maxRecDepth 100000 in
theorem impl_EntriesIn.calls (k : Nat) (A0 : Option Addr) (c0 : Nat) (l0 : List (S59)) (r1 : List (S48)) (r2 : Bool) (w : World) (hr0 : Kd.C k59 w A0 l0.length l0) (hc0 : l0.length ≤ c0) (h : impl_EntriesIn.f k l0 = some (r1, r2)) :
  Calls Try.prog 27 #[.slice A0 l0.length c0] w fun e w' => ∃ v0_ : Value, e = .returned (.tuple #[v0_, .bool r2]) ∧ Kd.R k48 48 w' w.heap.size (fun _ => True) v0_ r1 ∧ Below w.heap.size w w' := by
 have HR0 := mk_ hr0
 have HC0 := mk_ hc0
 clear hr0 hc0
 have HB := mk_ (Below.refl w.heap.size w)
 have H : ((impl_entries.f k l0).bind fun bt182 => (some (bt182.1, bt182.2))) = some (r1, r2) := h
 clear h
 replace H := Option.bind_eq_some_iff.mp H
 obtain ⟨⟨t182, t183⟩, A20, H⟩ := H
 replace H : (some (t182, t183)) = some (r1, r2) := H
 have A2 := mk_ A20
 clear A20
 simp only [Option.some.injEq, Prod.mk.injEq] at H
 obtain ⟨rfl, rfl⟩ := H
 go_enter Try.func27, Try.ntmps27
 go_wp2_with (first | ((with_reducible refine gate_callee (f := 54) rfl ?_); refine goesL_ (some 5) rfl rfl Try.func54 (by kernel_rfl) rfl #[.slice A0 l0.length c0] rfl sq_a ?_; (with_reducible refine (impl_entries.calls k _ _ l0 t182 t183 _ ?side1 ?side2 A2.out).mono ?_); (case side1 => exact sq_c HR0.out); (case side2 => exact HC0.out); rintro e w3 ⟨v184, rfl, ho0, hb⟩; refine ⟨_, rfl, ?_⟩; have n0_ := mk_ (Kd.R_lower ho0 (below_size sq_b)); have n1_ := mk_ (below_step sq_b hb); clear HB; have HO185 := n0_; have HB := n1_; clear n0_ n1_; (try clear hb); (try clear ho0)))
 go_ret2
 exact ⟨_, sq_w, sq_r HO185, sq_b⟩

/-! ### spec_PutEntry: function 30 -/
mutual
def spec_PutEntry.l0 : Nat → List (S48) → Bool → List (S48) → Int → Int → ByteArray → Int → Option ((List (S59)) × Bool)
 | 0, _, _, _, _, _, _, _ => none
 | k + 1, x8, x9, x19, x20, x21, x187000, x187001 => if x21 < x20 then (if 0 ≤ x21 then (if x21 < (x19.length : Int) then (if x9 = true then (spec_PutEntry.j1 k x8 x9 x19 x20 x21 false x187000 x187001 ((rd_T48 x19 x21).f0) ((rd_T48 x19 x21).f1)) else (spec_PutEntry.j1 k x8 x9 x19 x20 x21 (!(Op.bytesLess (((rd_T48 x19 x21).f0).toList) x187000.toList)) x187000 x187001 ((rd_T48 x19 x21).f0) ((rd_T48 x19 x21).f1))) else (none)) else (none)) else (if x9 = true then ((spec_BuildLegs.f k x8).bind fun bt191 => (some (bt191.1, bt191.2))) else (if x8.length < 5864062014805 then ((spec_BuildLegs.f k (x8 ++ [(⟨x187000, x187001⟩ : S48)])).bind fun bt198 => (some (bt198.1, bt198.2))) else (none)))
def spec_PutEntry.j1 : Nat → List (S48) → Bool → List (S48) → Int → Int → Bool → ByteArray → Int → ByteArray → Int → Option ((List (S59)) × Bool)
 | 0, _, _, _, _, _, _, _, _, _, _ => none
 | k + 1, x8, x9, x19, x20, x21, x33, x187000, x187001, x204000, x204001 => if x33 = true then (if x8.length < 5864062014805 then ((some (x8 ++ [(⟨x187000, x187001⟩ : S48)] : List (S48))).bind fun y204 => (if x204000.toList = x187000.toList then (spec_PutEntry.l0 k y204 true x19 x20 (wrap64 (x21 + 1)) x187000 x187001) else (if y204.length < 5864062014805 then (spec_PutEntry.l0 k (y204 ++ [(⟨x204000, x204001⟩ : S48)]) true x19 x20 (wrap64 (x21 + 1)) x187000 x187001) else (none)))) else (none)) else (if x204000.toList = x187000.toList then (spec_PutEntry.l0 k x8 x9 x19 x20 (wrap64 (x21 + 1)) x187000 x187001) else (if x8.length < 5864062014805 then (spec_PutEntry.l0 k (x8 ++ [(⟨x204000, x204001⟩ : S48)]) x9 x19 x20 (wrap64 (x21 + 1)) x187000 x187001) else (none)))
end
def spec_PutEntry.f (k : Nat) (l0 : List (S59)) (a1_0 : ByteArray) (a1_1 : Int) : Option ((List (S59)) × Bool) := (spec_l13Of.f k l0).bind fun bt187 => (if bt187.2 = true then (spec_PutEntry.l0 k ([] : List (S48)) false bt187.1 (bt187.1.length : Int) 0 a1_0 a1_1) else (some (([] : List (S59)), false)))
theorem spec_PutEntry.mono_l : ∀ k, (∀ y0 y1 y2 y3 y4 y5 y6, LeO (spec_PutEntry.l0 k y0 y1 y2 y3 y4 y5 y6) (spec_PutEntry.l0 (k + 1) y0 y1 y2 y3 y4 y5 y6)) ∧ (∀ y0 y1 y2 y3 y4 y5 y6 y7 y8 y9, LeO (spec_PutEntry.j1 k y0 y1 y2 y3 y4 y5 y6 y7 y8 y9) (spec_PutEntry.j1 (k + 1) y0 y1 y2 y3 y4 y5 y6 y7 y8 y9))
 | 0 => ⟨fun _ _ _ _ _ _ _ r h => by simp [spec_PutEntry.l0] at h, fun _ _ _ _ _ _ _ _ _ _ r h => by simp [spec_PutEntry.j1] at h⟩
 | k + 1 => by
  obtain ⟨ih0, ih1⟩ := spec_PutEntry.mono_l k
  refine ⟨?_, ?_⟩
  ·intro y0 y1 y2 y3 y4 y5 y6
   unfold spec_PutEntry.l0
   repeat' first
   | (with_reducible exact ih0 _ _ _ _ _ _ _)
   | (with_reducible exact ih1 _ _ _ _ _ _ _ _ _ _)
   | (with_reducible exact spec_BuildLegs.mono _ _)
   | (with_reducible exact spec_l13Of.mono _ _)
   | (with_reducible exact LeO.refl _)
   | (with_reducible exact LeO.none _)
   | (with_reducible refine LeO.ite ?_ ?_)
   | (with_reducible refine LeO.bind ?_ (fun _ => ?_))
   | exact ih0 _ _ _ _ _ _ _
   | exact ih1 _ _ _ _ _ _ _ _ _ _
   | exact spec_BuildLegs.mono _ _
   | exact spec_l13Of.mono _ _
   | exact LeO.none _
   | refine LeO.ite ?_ ?_
   | refine LeO.bind ?_ (fun _ => ?_)
  ·intro y0 y1 y2 y3 y4 y5 y6 y7 y8 y9
   unfold spec_PutEntry.j1
   repeat' first
   | (with_reducible exact ih0 _ _ _ _ _ _ _)
   | (with_reducible exact ih1 _ _ _ _ _ _ _ _ _ _)
   | (with_reducible exact spec_BuildLegs.mono _ _)
   | (with_reducible exact spec_l13Of.mono _ _)
   | (with_reducible exact LeO.refl _)
   | (with_reducible exact LeO.none _)
   | (with_reducible refine LeO.ite ?_ ?_)
   | (with_reducible refine LeO.bind ?_ (fun _ => ?_))
   | exact ih0 _ _ _ _ _ _ _
   | exact ih1 _ _ _ _ _ _ _ _ _ _
   | exact spec_BuildLegs.mono _ _
   | exact spec_l13Of.mono _ _
   | exact LeO.none _
   | refine LeO.ite ?_ ?_
   | refine LeO.bind ?_ (fun _ => ?_)
theorem spec_PutEntry.mono : ∀ a0 a1 a2 k, LeO (spec_PutEntry.f k a0 a1 a2) (spec_PutEntry.f (k + 1) a0 a1 a2) := by
 intro a0 a1 a2 k
 obtain ⟨ih0, ih1⟩ := spec_PutEntry.mono_l k
 unfold spec_PutEntry.f
 repeat' first
   | (with_reducible exact ih0 _ _ _ _ _ _ _)
   | (with_reducible exact ih1 _ _ _ _ _ _ _ _ _ _)
   | (with_reducible exact spec_BuildLegs.mono _ _)
   | (with_reducible exact spec_l13Of.mono _ _)
   | (with_reducible exact LeO.refl _)
   | (with_reducible exact LeO.none _)
   | (with_reducible refine LeO.ite ?_ ?_)
   | (with_reducible refine LeO.bind ?_ (fun _ => ?_))
   | exact ih0 _ _ _ _ _ _ _
   | exact ih1 _ _ _ _ _ _ _ _ _ _
   | exact spec_BuildLegs.mono _ _
   | exact spec_l13Of.mono _ _
   | exact LeO.none _
   | refine LeO.ite ?_ ?_
   | refine LeO.bind ?_ (fun _ => ?_)
set_option maxHeartbeats 8000000 in
set_option maxRecDepth 100000 in
theorem spec_PutEntry.calls (k : Nat) (A0 : Option Addr) (c0 : Nat) (l0 : List (S59)) (a1_0 : ByteArray) (a1_1 : Int) (r1 : List (S59)) (r2 : Bool) (w : World) (hr0 : Kd.C k59 w A0 l0.length l0) (hc0 : l0.length ≤ c0) (h : spec_PutEntry.f k l0 a1_0 a1_1 = some (r1, r2)) :
  Calls Try.prog 30 #[.slice A0 l0.length c0, .agg #[.string a1_0, .int .i64 a1_1]] w fun e w' => ∃ v0_ : Value, e = .returned (.tuple #[v0_, .bool r2]) ∧ Kd.S k59 59 w' w.heap.size (fun _ => True) v0_ r1 ∧ Below w.heap.size w w' := by
 have hu48 := Try.underlying48
 have HR0 := mk_ hr0
 have HC0 := mk_ hc0
 clear hr0 hc0
 have HB := mk_ (Below.refl w.heap.size w)
 have H : ((spec_l13Of.f k l0).bind fun bt187 => (if bt187.2 = true then (spec_PutEntry.l0 k ([] : List (S48)) false bt187.1 (bt187.1.length : Int) 0 a1_0 a1_1) else (some (([] : List (S59)), false)))) = some (r1, r2) := h
 clear h
 replace H := Option.bind_eq_some_iff.mp H
 obtain ⟨⟨t187, t188⟩, A30, H⟩ := H
 replace H : (if t188 = true then (spec_PutEntry.l0 k ([] : List (S48)) false t187 (t187.length : Int) 0 a1_0 a1_1) else (some (([] : List (S59)), false))) = some (r1, r2) := H
 have A3 := mk_ A30
 clear A30
 by_cases c4 : t188 = true
 ·subst c4
  have H1 : (spec_PutEntry.l0 k ([] : List (S48)) false t187 (t187.length : Int) 0 a1_0 a1_1) = some (r1, r2) := by rw [if_pos rfl] at H; exact H
  clear H
  have H := H1
  clear H1
  have H' := mk_ H
  clear H
  go_enter Try.func30, Try.ntmps30
  go_wp2_with (first | ((with_reducible refine gate_dst (N := 3) rfl ?_); refine box_event sq_0 (N := 3) sq_0 (cs := #[.string a1_0, .int .i64 a1_1]) (t := 48) sq_h ?_; intro gb186 hg w5 hbox hb; have n0_ := mk_ (below_step sq_b hb); have n1_ := mk_ (hbox); have n2_ := mk_ ((by rw [hg]; exact (below_size sq_b) : w.heap.size ≤ gb186)); have n3_ := mk_ ((by rw [hg]; exact (below_size sq_b) : w.heap.size ≤ gb186)); clear HB; have HB := n0_; have BK186 := n1_; have GW186 := n2_; have GE186 := n3_; clear n0_ n1_ n2_ n3_; clear hb hbox hg) | ((with_reducible refine gate_callee (f := 52) rfl ?_); refine goesL_ (some 14) rfl rfl Try.func52 (by kernel_rfl) rfl #[.slice A0 l0.length c0] rfl sq_a ?_; (with_reducible refine (spec_l13Of.calls k _ _ l0 t187 true _ ?side1 ?side2 A3.out).mono ?_); (case side1 => exact sq_c (Kd.C_below HR0.out HB.out)); (case side2 => exact HC0.out); rintro e w6 ⟨v189, rfl, ho0, hb⟩; refine ⟨_, rfl, ?_⟩; have n0_ := mk_ (Kd.R_lower (Kd.R_newB ho0 (g := gb186) (o := .cells #[.string a1_0, .int .i64 a1_1] 48 (0, 0)) (sq_l BK186)) (below_size (sq_g GE186.out))); have n1_ := mk_ (blk_below (g := gb186) (o := .cells #[.string a1_0, .int .i64 a1_1] 48 (0, 0)) (sq_l BK186) hb); have n2_ := mk_ (below_step (sq_g GE186.out) hb); clear BK186 HB; have HO190 := n0_; have BK186 := n1_; have HB := n2_; clear n0_ n1_ n2_; (try clear hb); (try clear ho0); obtain ⟨Ao7, co7, eo7⟩ := Kd.R_slice HO190.out; subst eo7))
  (try simp only [Act.put, List.setIfInBounds_toArray, List.set_cons_zero, List.set_cons_succ])
  go_loopg [8, 9, 21] k (fun kq v8 v9 v21 w' => ∃ (x8_1 : List (S48)) (x9_1 : Bool) (x21_1 : Int), v9 = .bool x9_1 ∧ v21 = .int .i64 x21_1 ∧ Aside0 (spec_PutEntry.l0 kq x8_1 x9_1 t187 (t187.length : Int) x21_1 a1_0 a1_1 = some (r1, r2)) ∧ Aside0 (kq ≤ k) ∧ Aside0 (Kd.R k48 48 w' w.heap.size (fun k_ => some k_ ≠ ((.slice Ao7 t187.length co7) : Value).ownBlock ∧ k_ ≠ gb186) v8 x8_1) ∧ Aside0 (Kd.R k48 48 w' w.heap.size (fun k_ => some k_ ≠ (v8 : Value).ownBlock ∧ k_ ≠ gb186) (.slice Ao7 t187.length co7) t187) ∧ Aside0 (w'.heap[gb186]? = some (.cells #[.string a1_0, .int .i64 a1_1] 48 (0, 0))) ∧ Aside0 (Below w.heap.size w w'))
  case atStart => exact ⟨(([] : List (S48))), (false), (0), sq_e, sq_e, H', ⟨Nat.le_refl _⟩, ⟨by first | exact Kd.R_nil _ _ _ _ _ | exact Kd.N_nil _ _ _ _ _ | exact Kd.V_nil _ _ _ _ _ | exact Kd.Q_nil _ _ _ _ _ | exact Kd.S_nil _ _ _ _ _⟩, ⟨by (with_reducible repeat (first | apply Kd.R_alloc | apply Kd.R_drewN | apply Kd.R_drew)); exact Kd.R_mono HO190.out (fun _ hk => ⟨(by simp [Value.ownBlock]), hk.2⟩)⟩, ⟨by (with_reducible repeat (first | refine blk_drewN ?_ _ | refine blk_drew ?_ | refine blk_alloc ?_ _)); exact BK186.out⟩, ⟨sq_g GE186.out⟩⟩
  case round =>
   clear H'
   (try clear p2); (try clear c3); (try clear c4); (try clear c5)
   obtain ⟨x8_1, x9_1, x21_1, rfl, rfl, HA, HK1, HO_8, HO_19, BK186, HB⟩ := hrel
   cases gk with
   | zero => exact absurd HA.out (by simp [spec_PutEntry.l0])
   | succ k1 =>
    have H := HA.out
    clear HA
    simp only [spec_PutEntry.l0] at H
    by_cases c8 : x21_1 < (t187.length : Int)
    ·rw [if_pos c8] at H
     have c8b0 : decide (x21_1 < (t187.length : Int)) = true := decide_eq_true c8
     clear c8
     by_cases c9 : 0 ≤ x21_1
     rotate_left
     ·rw [if_neg c9] at H
      exact absurd H (by simp)
     rw [if_pos c9] at H
     have c9b0 : decide (0 ≤ x21_1) = true := decide_eq_true c9
     clear c9
     by_cases c10 : x21_1 < (t187.length : Int)
     rotate_left
     ·rw [if_neg c10] at H
      exact absurd H (by simp)
     rw [if_pos c10] at H
     have c10b0 : decide (x21_1 < (t187.length : Int)) = true := decide_eq_true c10
     clear c10
     have HC11 := mk_ H
     clear H
     have p202 : 0 ≤ (x21_1 : Int) := sq_d
     have q202 : x21_1 < (t187.length : Int) := sq_d
     obtain ⟨ad202, e202, hx202_0, hx202_1⟩ := at_T48 (Kd.R_reads' HO_19.out).2.2 x21_1 p202 q202
     cases e202
     replace p202 := eq_true p202
     replace q202 := eq_true q202
     go_upto_region 9 with (first | ((with_reducible refine gate_dst (N := 11) rfl ?_); refine box_event sq_0 (N := 11) sq_0 (cs := #[.string (⟨#[]⟩ : ByteArray), .int .i64 0]) (t := 48) sq_h ?_; intro gb203 hg w12 hbox hb; have n0_ := mk_ (Kd.R_below (Kd.R_elderB (sq_r HO_8) gb203 (Nat.le_of_eq hg.symm)) hb); have n1_ := mk_ (Kd.R_below (Kd.R_elderB (sq_r HO_19) gb203 (Nat.le_of_eq hg.symm)) hb); have n2_ := mk_ (blk_below (g := gb186) (o := .cells #[.string a1_0, .int .i64 a1_1] 48 (0, 0)) (sq_l BK186) hb); have n3_ := mk_ (below_step (sq_g GE186.out) hb); have n4_ := mk_ (hbox); have n5_ := mk_ ((by rw [hg]; exact (below_size (sq_g GE186.out)) : w.heap.size ≤ gb203)); have n6_ := mk_ ((by rw [hg]; exact (below_size (sq_g GE186.out)) : w.heap.size ≤ gb203)); have n7_ := mk_ ((by rw [hg]; exact Nat.ne_of_lt (blk_lt (g := gb186) (o := .cells #[.string a1_0, .int .i64 a1_1] 48 (0, 0)) (sq_l BK186)) : gb186 ≠ gb203)); have n8_ := mk_ ((by rw [hg]; exact Nat.ne_of_gt (blk_lt (g := gb186) (o := .cells #[.string a1_0, .int .i64 a1_1] 48 (0, 0)) (sq_l BK186)) : gb203 ≠ gb186)); clear HO_8 HO_19 BK186 HB; have HO_8 := n0_; have HO_19 := n1_; have BK186 := n2_; have HB := n3_; have BK203 := n4_; have GW203 := n5_; have GE203 := n6_; have NB186_203 := n7_; have NB203_186 := n8_; clear n0_ n1_ n2_ n3_ n4_ n5_ n6_ n7_ n8_; clear hb hbox hg; have hnb13 := NB203_186.out; have hnc13 := NB186_203.out; have hcz14_0 : w12.cell? ⟨gb203, 0, none⟩ = some (.string (⟨#[]⟩ : ByteArray)) := (blk_cell BK203.out 0).trans rfl; have hcz14_1 : w12.cell? ⟨gb203, 1, none⟩ = some (.int .i64 0) := (blk_cell BK203.out 1).trans rfl; have hfz14_0 := blk_frozen BK203.out 0; have hfz14_1 := blk_frozen BK203.out 1))
     (try simp only [Act.put, List.setIfInBounds_toArray, List.set_cons_zero, List.set_cons_succ])
     go_cut [33] (fun v33 wc => ∃ (kq : Nat) (x33_10 : Bool), v33 = .bool x33_10 ∧ Aside0 (spec_PutEntry.j1 kq x8_1 x9_1 t187 (t187.length : Int) x21_1 x33_10 a1_0 a1_1 ((rd_T48 t187 x21_1).f0) ((rd_T48 t187 x21_1).f1) = some (r1, r2)) ∧ Aside0 (kq ≤ k1) ∧ Aside0 (Kd.R k48 48 wc w.heap.size (fun k_ => some k_ ≠ ((.slice (some ad202) t187.length co7) : Value).ownBlock ∧ k_ ≠ gb186 ∧ k_ ≠ gb203) u8 x8_1) ∧ Aside0 (Kd.R k48 48 wc w.heap.size (fun k_ => some k_ ≠ (u8 : Value).ownBlock ∧ k_ ≠ gb186 ∧ k_ ≠ gb203) (.slice (some ad202) t187.length co7) t187) ∧ Aside0 (wc.heap[gb186]? = some (.cells #[.string a1_0, .int .i64 a1_1] 48 (0, 0))) ∧ Aside0 (wc.heap[gb203]? = some (.cells #[.string ((rd_T48 t187 x21_1).f0), .int .i64 ((rd_T48 t187 x21_1).f1)] 48 (0, 0))) ∧ Aside0 (Below w.heap.size w wc))
     case first =>
      have H := HC11.out
      clear HC11
      by_cases c15 : x9_1 = true
      ·subst c15
       have H1 : (spec_PutEntry.j1 k1 x8_1 true t187 (t187.length : Int) x21_1 false a1_0 a1_1 ((rd_T48 t187 x21_1).f0) ((rd_T48 t187 x21_1).f1)) = some (r1, r2) := by rw [if_pos rfl] at H; exact H
       clear H
       have H := H1
       clear H1
       have H' := mk_ H
       clear H
       go_wp2
       go_meet
       case rel => exact ⟨_, (false), sq_e, H', ⟨by have := HK1.out; first | omega | exact Nat.le_refl _⟩, ⟨by (with_reducible repeat (first | apply Kd.R_alloc | apply Kd.R_drewN | apply Kd.R_drew)); exact Kd.R_mono (Kd.R_far (p := ⟨gb203, 1, none⟩) (Kd.R_far (p := ⟨gb203, 0, none⟩) (Kd.R_mono HO_8.out (fun k_ hk => (⟨hk, hk.2⟩ : _ ∧ k_ ≠ gb203))) (fun _ hk => hk.2) (.string ((rd_T48 t187 x21_1).f0))) (fun _ hk => hk.2) (.int .i64 ((rd_T48 t187 x21_1).f1))) (fun _ hk => ⟨hk.1.1.1, ⟨hk.1.1.2, hk.1.2⟩⟩)⟩, ⟨by (with_reducible repeat (first | apply Kd.R_alloc | apply Kd.R_drewN | apply Kd.R_drew)); exact Kd.R_mono (Kd.R_far (p := ⟨gb203, 1, none⟩) (Kd.R_far (p := ⟨gb203, 0, none⟩) (Kd.R_mono HO_19.out (fun k_ hk => (⟨hk, hk.2⟩ : _ ∧ k_ ≠ gb203))) (fun _ hk => hk.2) (.string ((rd_T48 t187 x21_1).f0))) (fun _ hk => hk.2) (.int .i64 ((rd_T48 t187 x21_1).f1))) (fun _ hk => ⟨hk.1.1.1, ⟨hk.1.1.2, hk.1.2⟩⟩)⟩, ⟨by (with_reducible repeat (first | refine blk_drewN ?_ _ | refine blk_drew ?_ | refine blk_alloc ?_ _)); refine blk_far ?_ NB186_203.out _; (with_reducible repeat (first | refine blk_drewN ?_ _ | refine blk_drew ?_ | refine blk_alloc ?_ _)); refine blk_far ?_ NB186_203.out _; (with_reducible repeat (first | refine blk_drewN ?_ _ | refine blk_drew ?_ | refine blk_alloc ?_ _)); exact BK186.out⟩, ⟨by (with_reducible repeat (first | refine blk_drewN ?_ _ | refine blk_drew ?_ | refine blk_alloc ?_ _)); refine blk_put (cs := #[.string ((rd_T48 t187 x21_1).f0), .int .i64 0]) ?_ 1 _ rfl; (with_reducible repeat (first | refine blk_drewN ?_ _ | refine blk_drew ?_ | refine blk_alloc ?_ _)); refine blk_put (cs := #[.string (⟨#[]⟩ : ByteArray), .int .i64 0]) ?_ 0 _ rfl; (with_reducible repeat (first | refine blk_drewN ?_ _ | refine blk_drew ?_ | refine blk_alloc ?_ _)); exact BK203.out⟩, ⟨sq_g2 GE186.out GE203.out⟩⟩
      ·replace c15 := Bool.eq_false_iff.mpr c15
       subst c15
       have H1 : (spec_PutEntry.j1 k1 x8_1 false t187 (t187.length : Int) x21_1 (!(Op.bytesLess (((rd_T48 t187 x21_1).f0).toList) a1_0.toList)) a1_0 a1_1 ((rd_T48 t187 x21_1).f0) ((rd_T48 t187 x21_1).f1)) = some (r1, r2) := by rw [if_neg (show ¬ (false = true) by decide)] at H; exact H
       clear H
       have H := H1
       clear H1
       have H' := mk_ H
       clear H
       have hnb16 := NB203_186.out
       have hnc16 := NB186_203.out
       have hcz17_0 : w12.cell? ⟨gb203, 0, none⟩ = some (.string (⟨#[]⟩ : ByteArray)) := (blk_cell BK203.out 0).trans rfl
       have hcz17_1 : w12.cell? ⟨gb203, 1, none⟩ = some (.int .i64 0) := (blk_cell BK203.out 1).trans rfl
       have hfz17_0 := blk_frozen BK203.out 0
       have hfz17_1 := blk_frozen BK203.out 1
       have hcz18_0 : w12.cell? ⟨gb186, 0, none⟩ = some (.string a1_0) := (blk_cell BK186.out 0).trans rfl
       have hcz18_1 : w12.cell? ⟨gb186, 1, none⟩ = some (.int .i64 a1_1) := (blk_cell BK186.out 1).trans rfl
       have hfz18_0 := blk_frozen BK186.out 0
       have hfz18_1 := blk_frozen BK186.out 1
       go_wp2
       go_meet
       case rel => exact ⟨_, (!(Op.bytesLess (((rd_T48 t187 x21_1).f0).toList) a1_0.toList)), sq_e, H', ⟨by have := HK1.out; first | omega | exact Nat.le_refl _⟩, ⟨by (with_reducible repeat (first | apply Kd.R_alloc | apply Kd.R_drewN | apply Kd.R_drew)); exact Kd.R_mono (Kd.R_far (p := ⟨gb203, 1, none⟩) (Kd.R_far (p := ⟨gb203, 0, none⟩) (Kd.R_mono HO_8.out (fun k_ hk => (⟨hk, hk.2⟩ : _ ∧ k_ ≠ gb203))) (fun _ hk => hk.2) (.string ((rd_T48 t187 x21_1).f0))) (fun _ hk => hk.2) (.int .i64 ((rd_T48 t187 x21_1).f1))) (fun _ hk => ⟨hk.1.1.1, ⟨hk.1.1.2, hk.1.2⟩⟩)⟩, ⟨by (with_reducible repeat (first | apply Kd.R_alloc | apply Kd.R_drewN | apply Kd.R_drew)); exact Kd.R_mono (Kd.R_far (p := ⟨gb203, 1, none⟩) (Kd.R_far (p := ⟨gb203, 0, none⟩) (Kd.R_mono HO_19.out (fun k_ hk => (⟨hk, hk.2⟩ : _ ∧ k_ ≠ gb203))) (fun _ hk => hk.2) (.string ((rd_T48 t187 x21_1).f0))) (fun _ hk => hk.2) (.int .i64 ((rd_T48 t187 x21_1).f1))) (fun _ hk => ⟨hk.1.1.1, ⟨hk.1.1.2, hk.1.2⟩⟩)⟩, ⟨by (with_reducible repeat (first | refine blk_drewN ?_ _ | refine blk_drew ?_ | refine blk_alloc ?_ _)); refine blk_far ?_ NB186_203.out _; (with_reducible repeat (first | refine blk_drewN ?_ _ | refine blk_drew ?_ | refine blk_alloc ?_ _)); refine blk_far ?_ NB186_203.out _; (with_reducible repeat (first | refine blk_drewN ?_ _ | refine blk_drew ?_ | refine blk_alloc ?_ _)); exact BK186.out⟩, ⟨by (with_reducible repeat (first | refine blk_drewN ?_ _ | refine blk_drew ?_ | refine blk_alloc ?_ _)); refine blk_put (cs := #[.string ((rd_T48 t187 x21_1).f0), .int .i64 0]) ?_ 1 _ rfl; (with_reducible repeat (first | refine blk_drewN ?_ _ | refine blk_drew ?_ | refine blk_alloc ?_ _)); refine blk_put (cs := #[.string (⟨#[]⟩ : ByteArray), .int .i64 0]) ?_ 0 _ rfl; (with_reducible repeat (first | refine blk_drewN ?_ _ | refine blk_drew ?_ | refine blk_alloc ?_ _)); exact BK203.out⟩, ⟨sq_g2 GE186.out GE203.out⟩⟩
     case rest =>
      clear HC11
      (try clear c1); (try clear p2); (try clear q2); (try clear hx2); (try clear c3); (try clear c4); (try clear c5); (try clear c8); (try clear c8b0); (try clear c9); (try clear c9b0); (try clear c10); (try clear c10b0); (try clear c13); (try clear c15); (try clear c16); (try clear hcz14_0); (try clear hcz14_1); (try clear hcz17_0); (try clear hcz17_1); (try clear hcz18_0); (try clear hcz18_1); (try clear hfz14_0)
      (try clear hfz14_1); (try clear hfz17_0); (try clear hfz17_1); (try clear hfz18_0); (try clear hfz18_1); (try clear hx202_0); (try clear hx202_1); (try clear p2); (try clear p202); (try clear q202)
      obtain ⟨kq, x33_10, rfl, HA, HJ10, HO_8, HO_19, BK186, BK203, HB⟩ := hcut
      cases kq with
      | zero => exact absurd HA.out (by simp [spec_PutEntry.j1])
      | succ kj10 =>
       have H := HA.out
       clear HA
       simp only [spec_PutEntry.j1] at H
       by_cases c19 : x33_10 = true
       ·subst c19
        have H1 : (if x8_1.length < 5864062014805 then ((some (x8_1 ++ [(⟨a1_0, a1_1⟩ : S48)] : List (S48))).bind fun y204 => (if ((rd_T48 t187 x21_1).f0).toList = a1_0.toList then (spec_PutEntry.l0 kj10 y204 true t187 (t187.length : Int) (wrap64 (x21_1 + 1)) a1_0 a1_1) else (if y204.length < 5864062014805 then (spec_PutEntry.l0 kj10 (y204 ++ [(⟨((rd_T48 t187 x21_1).f0), ((rd_T48 t187 x21_1).f1)⟩ : S48)]) true t187 (t187.length : Int) (wrap64 (x21_1 + 1)) a1_0 a1_1) else (none)))) else (none)) = some (r1, r2) := by rw [if_pos rfl] at H; exact H
        clear H
        have H := H1
        clear H1
        by_cases c20 : x8_1.length < 5864062014805
        rotate_left
        ·rw [if_neg c20] at H
         exact absurd H (by simp)
        rw [if_pos c20] at H
        have LMc20 := mk_ c20
        clear c20
        obtain ⟨y204, hy204⟩ : ∃ y_ : List (S48), y_ = (x8_1 ++ [(⟨a1_0, a1_1⟩ : S48)]) := ⟨_, rfl⟩
        replace H : (if ((rd_T48 t187 x21_1).f0).toList = a1_0.toList then (spec_PutEntry.l0 kj10 y204 true t187 (t187.length : Int) (wrap64 (x21_1 + 1)) a1_0 a1_1) else (if y204.length < 5864062014805 then (spec_PutEntry.l0 kj10 (y204 ++ [(⟨((rd_T48 t187 x21_1).f0), ((rd_T48 t187 x21_1).f1)⟩ : S48)]) true t187 (t187.length : Int) (wrap64 (x21_1 + 1)) a1_0 a1_1) else (none))) = some (r1, r2) := by first | (rw [hy204]; with_reducible exact H) | (have H2_ := (Option.bind_some _ _).symm.trans H; rw [hy204]; with_reducible exact H2_) | (have H2_ := (Option.bind_some _ _).symm.trans H; with_reducible exact H2_) | with_reducible exact H | (rw [hy204]; exact H) | exact H
        have Ny204 := mk_ hy204
        clear hy204
        by_cases c21 : ((rd_T48 t187 x21_1).f0).toList = a1_0.toList
        ·rw [if_pos c21] at H
         have c21b0 : (((rd_T48 t187 x21_1).f0).toList == a1_0.toList) = true := beq_iff_eq.mpr c21
         have c21b1 : (((rd_T48 t187 x21_1).f0).toList != a1_0.toList) = false := bne_eq_false_iff_eq.mpr c21
         clear c21
         have H' := mk_ H
         clear H
         have hnb22 := NB186_203.out
         have hnc22 := NB203_186.out
         have hcz23_0 : wc.cell? ⟨gb186, 0, none⟩ = some (.string a1_0) := (blk_cell BK186.out 0).trans rfl
         have hcz23_1 : wc.cell? ⟨gb186, 1, none⟩ = some (.int .i64 a1_1) := (blk_cell BK186.out 1).trans rfl
         have hfz23_0 := blk_frozen BK186.out 0
         have hfz23_1 := blk_frozen BK186.out 1
         go_wp2_with (first | ((with_reducible refine gate_builtin (b := .append) (xs := #[.tmp 34, .tmp 36]) rfl ?_); at_builtin; refine Kd.R_append k48 (w0 := w) w.heap.size rfl (.tmp 34) (.tmp 36) 27 48 (.agg #[(.string ⟨#[]⟩), (.int .i64 0)]) 24 rfl Try.underlying27 info48 rfl (by decide) (by omega) u8 x8_1 (⟨a1_0, a1_1⟩ : S48) [.string a1_0, .int .i64 a1_1] (fun k_ => some k_ ≠ (.slice (some ad202) t187.length co7 : Value).ownBlock ∧ k_ ≠ gb186 ∧ k_ ≠ gb203) (fun _ => False) rfl rfl ?aP (fun _ hk => hk.elim) ?aF ?aO ?aB ?aS ?aL ?_; (case aP => exact k48_mkM _ _ _ (⟨a1_0, a1_1⟩ : S48)); (case aB => exact (sq_g2 GE186.out GE203.out)); (case aF => exact (fun k_ hk => ⟨Kd.fresh' (Kd.R_lt (sq_r HO_19)) k_ hk, Kd.freshB (g := gb186) (o := .cells #[.string a1_0, .int .i64 a1_1] 48 (0, 0)) (sq_l BK186) k_ hk, Kd.freshB (g := gb203) (o := .cells #[.string ((rd_T48 t187 x21_1).f0), .int .i64 ((rd_T48 t187 x21_1).f1)] 48 (0, 0)) (sq_l BK203) k_ hk⟩)); (case aO => exact (sq_r HO_8)); (case aS => exact (below_size (sq_g2 GE186.out GE203.out))); (case aL => have := LMc20.out; omega); intro v205 w24 ho hb hg hat; rw [← Ny204.out] at ho; have n0_ := mk_ (Kd.R_after (ok := (fun k_ => k_ ≠ gb186 ∧ k_ ≠ gb203)) (by (with_reducible repeat (first | apply Kd.R_alloc | apply Kd.R_drewN | apply Kd.R_drew)); exact Kd.R_mono HO_19.out (fun _ hk => ⟨⟨hk.2.1, hk.2.2⟩, hk.1⟩)) hg hat); have n1_ := mk_ (blk_grown (g := gb186) (o := .cells #[.string a1_0, .int .i64 a1_1] 48 (0, 0)) (sq_l BK186) hg (Kd.R_away HO_8.out (fun _ hk => hk.2.1))); have n2_ := mk_ (blk_grown (g := gb203) (o := .cells #[.string ((rd_T48 t187 x21_1).f0), .int .i64 ((rd_T48 t187 x21_1).f1)] 48 (0, 0)) (sq_l BK203) hg (Kd.R_away HO_8.out (fun _ hk => hk.2.2))); have n3_ := mk_ (hb); have n4_ := mk_ (ho); clear HO_19 BK186 BK203 HB HO_8; have HO_19 := n0_; have BK186 := n1_; have BK203 := n2_; have HB := n3_; have HO206 := n4_; clear n0_ n1_ n2_ n3_ n4_; clear ho hb hg hat; have hcz25_0 : w24.cell? ⟨gb203, 0, none⟩ = some (.string ((rd_T48 t187 x21_1).f0)) := (blk_cell BK203.out 0).trans rfl; have hcz25_1 : w24.cell? ⟨gb203, 1, none⟩ = some (.int .i64 ((rd_T48 t187 x21_1).f1)) := (blk_cell BK203.out 1).trans rfl; have hfz25_0 := blk_frozen BK203.out 0; have hfz25_1 := blk_frozen BK203.out 1; have hcz26_0 : w24.cell? ⟨gb186, 0, none⟩ = some (.string a1_0) := (blk_cell BK186.out 0).trans rfl; have hcz26_1 : w24.cell? ⟨gb186, 1, none⟩ = some (.int .i64 a1_1) := (blk_cell BK186.out 1).trans rfl; have hfz26_0 := blk_frozen BK186.out 0; have hfz26_1 := blk_frozen BK186.out 1))
         go_roundg kj10
         case measure => have := HK1.out; have := HJ10.out; omega
         case rel => exact ⟨(y204), (true), (wrap64 (x21_1 + 1)), sq_e, sq_e, H', ⟨by have := HK1.out; have := HJ10.out; omega⟩, ⟨by (with_reducible repeat (first | apply Kd.R_alloc | apply Kd.R_drewN | apply Kd.R_drew)); exact Kd.R_mono HO206.out (fun _ hk => ⟨hk.1, hk.2.1⟩)⟩, ⟨by (with_reducible repeat (first | apply Kd.R_alloc | apply Kd.R_drewN | apply Kd.R_drew)); exact Kd.R_mono HO_19.out (fun _ hk => ⟨hk.2, hk.1.1⟩)⟩, ⟨by (with_reducible repeat (first | refine blk_drewN ?_ _ | refine blk_drew ?_ | refine blk_alloc ?_ _)); exact BK186.out⟩, ⟨sq_g2 GE186.out GE203.out⟩⟩
        ·rw [if_neg c21] at H
         have c21b0 : (((rd_T48 t187 x21_1).f0).toList == a1_0.toList) = false := beq_eq_false_iff_ne.mpr c21
         have c21b1 : (((rd_T48 t187 x21_1).f0).toList != a1_0.toList) = true := bne_iff_ne.mpr c21
         by_cases c27 : y204.length < 5864062014805
         rotate_left
         ·rw [if_neg c27] at H
          exact absurd H (by simp)
         rw [if_pos c27] at H
         have LMc27 := mk_ c27
         clear c27
         obtain ⟨y207, hy207⟩ : ∃ y_ : List (S48), y_ = (y204 ++ [(⟨((rd_T48 t187 x21_1).f0), ((rd_T48 t187 x21_1).f1)⟩ : S48)]) := ⟨_, rfl⟩
         replace H : (spec_PutEntry.l0 kj10 y207 true t187 (t187.length : Int) (wrap64 (x21_1 + 1)) a1_0 a1_1) = some (r1, r2) := by first | (rw [hy207]; with_reducible exact H) | (have H2_ := (Option.bind_some _ _).symm.trans H; rw [hy207]; with_reducible exact H2_) | (have H2_ := (Option.bind_some _ _).symm.trans H; with_reducible exact H2_) | with_reducible exact H | (rw [hy207]; exact H) | exact H
         have Ny207 := mk_ hy207
         clear hy207
         have H' := mk_ H
         clear H
         have hnb28 := NB186_203.out
         have hnc28 := NB203_186.out
         have hcz29_0 : wc.cell? ⟨gb186, 0, none⟩ = some (.string a1_0) := (blk_cell BK186.out 0).trans rfl
         have hcz29_1 : wc.cell? ⟨gb186, 1, none⟩ = some (.int .i64 a1_1) := (blk_cell BK186.out 1).trans rfl
         have hfz29_0 := blk_frozen BK186.out 0
         have hfz29_1 := blk_frozen BK186.out 1
         go_wp2_with (first | ((with_reducible refine gate_builtin (b := .append) (xs := #[.tmp 34, .tmp 36]) rfl ?_); at_builtin; refine Kd.R_append k48 (w0 := w) w.heap.size rfl (.tmp 34) (.tmp 36) 27 48 (.agg #[(.string ⟨#[]⟩), (.int .i64 0)]) 24 rfl Try.underlying27 info48 rfl (by decide) (by omega) u8 x8_1 (⟨a1_0, a1_1⟩ : S48) [.string a1_0, .int .i64 a1_1] (fun k_ => some k_ ≠ (.slice (some ad202) t187.length co7 : Value).ownBlock ∧ k_ ≠ gb186 ∧ k_ ≠ gb203) (fun _ => False) rfl rfl ?aP (fun _ hk => hk.elim) ?aF ?aO ?aB ?aS ?aL ?_; (case aP => exact k48_mkM _ _ _ (⟨a1_0, a1_1⟩ : S48)); (case aB => exact (sq_g2 GE186.out GE203.out)); (case aF => exact (fun k_ hk => ⟨Kd.fresh' (Kd.R_lt (sq_r HO_19)) k_ hk, Kd.freshB (g := gb186) (o := .cells #[.string a1_0, .int .i64 a1_1] 48 (0, 0)) (sq_l BK186) k_ hk, Kd.freshB (g := gb203) (o := .cells #[.string ((rd_T48 t187 x21_1).f0), .int .i64 ((rd_T48 t187 x21_1).f1)] 48 (0, 0)) (sq_l BK203) k_ hk⟩)); (case aO => exact (sq_r HO_8)); (case aS => exact (below_size (sq_g2 GE186.out GE203.out))); (case aL => have := LMc20.out; omega); intro v205 w30 ho hb hg hat; rw [← Ny204.out] at ho; have n0_ := mk_ (Kd.R_after (ok := (fun k_ => k_ ≠ gb186 ∧ k_ ≠ gb203)) (by (with_reducible repeat (first | apply Kd.R_alloc | apply Kd.R_drewN | apply Kd.R_drew)); exact Kd.R_mono HO_19.out (fun _ hk => ⟨⟨hk.2.1, hk.2.2⟩, hk.1⟩)) hg hat); have n1_ := mk_ (blk_grown (g := gb186) (o := .cells #[.string a1_0, .int .i64 a1_1] 48 (0, 0)) (sq_l BK186) hg (Kd.R_away HO_8.out (fun _ hk => hk.2.1))); have n2_ := mk_ (blk_grown (g := gb203) (o := .cells #[.string ((rd_T48 t187 x21_1).f0), .int .i64 ((rd_T48 t187 x21_1).f1)] 48 (0, 0)) (sq_l BK203) hg (Kd.R_away HO_8.out (fun _ hk => hk.2.2))); have n3_ := mk_ (hb); have n4_ := mk_ (ho); clear HO_19 BK186 BK203 HB HO_8; have HO_19 := n0_; have BK186 := n1_; have BK203 := n2_; have HB := n3_; have HO206 := n4_; clear n0_ n1_ n2_ n3_ n4_; clear ho hb hg hat; have hcz31_0 : w30.cell? ⟨gb203, 0, none⟩ = some (.string ((rd_T48 t187 x21_1).f0)) := (blk_cell BK203.out 0).trans rfl; have hcz31_1 : w30.cell? ⟨gb203, 1, none⟩ = some (.int .i64 ((rd_T48 t187 x21_1).f1)) := (blk_cell BK203.out 1).trans rfl; have hfz31_0 := blk_frozen BK203.out 0; have hfz31_1 := blk_frozen BK203.out 1; have hcz32_0 : w30.cell? ⟨gb186, 0, none⟩ = some (.string a1_0) := (blk_cell BK186.out 0).trans rfl; have hcz32_1 : w30.cell? ⟨gb186, 1, none⟩ = some (.int .i64 a1_1) := (blk_cell BK186.out 1).trans rfl; have hfz32_0 := blk_frozen BK186.out 0; have hfz32_1 := blk_frozen BK186.out 1) | ((with_reducible refine gate_builtin (b := .append) (xs := #[.tmp 43, .tmp 45]) rfl ?_); at_builtin; refine Kd.R_append k48 (w0 := w) w.heap.size rfl (.tmp 43) (.tmp 45) 27 48 (.agg #[(.string ⟨#[]⟩), (.int .i64 0)]) 24 rfl Try.underlying27 info48 rfl (by decide) (by omega) v205 y204 (⟨((rd_T48 t187 x21_1).f0), ((rd_T48 t187 x21_1).f1)⟩ : S48) [.string ((rd_T48 t187 x21_1).f0), .int .i64 ((rd_T48 t187 x21_1).f1)] (fun k_ => some k_ ≠ (.slice (some ad202) t187.length co7 : Value).ownBlock ∧ k_ ≠ gb186 ∧ k_ ≠ gb203) (fun _ => False) rfl rfl ?aP (fun _ hk => hk.elim) ?aF ?aO ?aB ?aS ?aL ?_; (case aP => exact k48_mkM _ _ _ (⟨((rd_T48 t187 x21_1).f0), ((rd_T48 t187 x21_1).f1)⟩ : S48)); (case aB => exact (sq_g2 GE186.out GE203.out)); (case aF => exact (fun k_ hk => ⟨Kd.fresh' (Kd.R_lt (sq_r HO_19)) k_ hk, Kd.freshB (g := gb186) (o := .cells #[.string a1_0, .int .i64 a1_1] 48 (0, 0)) (sq_l BK186) k_ hk, Kd.freshB (g := gb203) (o := .cells #[.string ((rd_T48 t187 x21_1).f0), .int .i64 ((rd_T48 t187 x21_1).f1)] 48 (0, 0)) (sq_l BK203) k_ hk⟩)); (case aO => exact (sq_r HO206)); (case aS => exact (below_size (sq_g2 GE186.out GE203.out))); (case aL => have := LMc27.out; omega); intro v208 w33 ho hb hg hat; rw [← Ny207.out] at ho; have n0_ := mk_ (Kd.R_after (ok := (fun k_ => k_ ≠ gb186 ∧ k_ ≠ gb203)) (sq_r HO_19) hg hat); have n1_ := mk_ (blk_grown (g := gb186) (o := .cells #[.string a1_0, .int .i64 a1_1] 48 (0, 0)) (sq_l BK186) hg (Kd.R_away HO206.out (fun _ hk => hk.2.1))); have n2_ := mk_ (blk_grown (g := gb203) (o := .cells #[.string ((rd_T48 t187 x21_1).f0), .int .i64 ((rd_T48 t187 x21_1).f1)] 48 (0, 0)) (sq_l BK203) hg (Kd.R_away HO206.out (fun _ hk => hk.2.2))); have n3_ := mk_ (hb); have n4_ := mk_ (ho); clear HO_19 BK186 BK203 HB HO206; have HO_19 := n0_; have BK186 := n1_; have BK203 := n2_; have HB := n3_; have HO209 := n4_; clear n0_ n1_ n2_ n3_ n4_; clear ho hb hg hat))
         go_roundg kj10
         case measure => have := HK1.out; have := HJ10.out; omega
         case rel => exact ⟨(y207), (true), (wrap64 (x21_1 + 1)), sq_e, sq_e, H', ⟨by have := HK1.out; have := HJ10.out; omega⟩, ⟨by (with_reducible repeat (first | apply Kd.R_alloc | apply Kd.R_drewN | apply Kd.R_drew)); exact Kd.R_mono HO209.out (fun _ hk => ⟨hk.1, hk.2.1⟩)⟩, ⟨by (with_reducible repeat (first | apply Kd.R_alloc | apply Kd.R_drewN | apply Kd.R_drew)); exact Kd.R_mono HO_19.out (fun _ hk => ⟨hk.2, hk.1.1⟩)⟩, ⟨by (with_reducible repeat (first | refine blk_drewN ?_ _ | refine blk_drew ?_ | refine blk_alloc ?_ _)); exact BK186.out⟩, ⟨sq_g2 GE186.out GE203.out⟩⟩
       ·replace c19 := Bool.eq_false_iff.mpr c19
        subst c19
        have H1 : (if ((rd_T48 t187 x21_1).f0).toList = a1_0.toList then (spec_PutEntry.l0 kj10 x8_1 x9_1 t187 (t187.length : Int) (wrap64 (x21_1 + 1)) a1_0 a1_1) else (if x8_1.length < 5864062014805 then (spec_PutEntry.l0 kj10 (x8_1 ++ [(⟨((rd_T48 t187 x21_1).f0), ((rd_T48 t187 x21_1).f1)⟩ : S48)]) x9_1 t187 (t187.length : Int) (wrap64 (x21_1 + 1)) a1_0 a1_1) else (none))) = some (r1, r2) := by rw [if_neg (show ¬ (false = true) by decide)] at H; exact H
        clear H
        have H := H1
        clear H1
        by_cases c34 : ((rd_T48 t187 x21_1).f0).toList = a1_0.toList
        ·rw [if_pos c34] at H
         have c34b0 : (((rd_T48 t187 x21_1).f0).toList == a1_0.toList) = true := beq_iff_eq.mpr c34
         have c34b1 : (((rd_T48 t187 x21_1).f0).toList != a1_0.toList) = false := bne_eq_false_iff_eq.mpr c34
         clear c34
         have H' := mk_ H
         clear H
         have hnb35 := NB203_186.out
         have hnc35 := NB186_203.out
         have hcz36_0 : wc.cell? ⟨gb203, 0, none⟩ = some (.string ((rd_T48 t187 x21_1).f0)) := (blk_cell BK203.out 0).trans rfl
         have hcz36_1 : wc.cell? ⟨gb203, 1, none⟩ = some (.int .i64 ((rd_T48 t187 x21_1).f1)) := (blk_cell BK203.out 1).trans rfl
         have hfz36_0 := blk_frozen BK203.out 0
         have hfz36_1 := blk_frozen BK203.out 1
         have hcz37_0 : wc.cell? ⟨gb186, 0, none⟩ = some (.string a1_0) := (blk_cell BK186.out 0).trans rfl
         have hcz37_1 : wc.cell? ⟨gb186, 1, none⟩ = some (.int .i64 a1_1) := (blk_cell BK186.out 1).trans rfl
         have hfz37_0 := blk_frozen BK186.out 0
         have hfz37_1 := blk_frozen BK186.out 1
         go_wp2
         go_roundg kj10
         case measure => have := HK1.out; have := HJ10.out; omega
         case rel => exact ⟨(x8_1), (x9_1), (wrap64 (x21_1 + 1)), sq_e, sq_e, H', ⟨by have := HK1.out; have := HJ10.out; omega⟩, ⟨by (with_reducible repeat (first | apply Kd.R_alloc | apply Kd.R_drewN | apply Kd.R_drew)); exact Kd.R_mono HO_8.out (fun _ hk => ⟨hk.1, hk.2.1⟩)⟩, ⟨by (with_reducible repeat (first | apply Kd.R_alloc | apply Kd.R_drewN | apply Kd.R_drew)); exact Kd.R_mono HO_19.out (fun _ hk => ⟨hk.1, hk.2.1⟩)⟩, ⟨by (with_reducible repeat (first | refine blk_drewN ?_ _ | refine blk_drew ?_ | refine blk_alloc ?_ _)); exact BK186.out⟩, ⟨sq_g2 GE186.out GE203.out⟩⟩
        ·rw [if_neg c34] at H
         have c34b0 : (((rd_T48 t187 x21_1).f0).toList == a1_0.toList) = false := beq_eq_false_iff_ne.mpr c34
         have c34b1 : (((rd_T48 t187 x21_1).f0).toList != a1_0.toList) = true := bne_iff_ne.mpr c34
         by_cases c38 : x8_1.length < 5864062014805
         rotate_left
         ·rw [if_neg c38] at H
          exact absurd H (by simp)
         rw [if_pos c38] at H
         have LMc38 := mk_ c38
         clear c38
         obtain ⟨y210, hy210⟩ : ∃ y_ : List (S48), y_ = (x8_1 ++ [(⟨((rd_T48 t187 x21_1).f0), ((rd_T48 t187 x21_1).f1)⟩ : S48)]) := ⟨_, rfl⟩
         replace H : (spec_PutEntry.l0 kj10 y210 x9_1 t187 (t187.length : Int) (wrap64 (x21_1 + 1)) a1_0 a1_1) = some (r1, r2) := by first | (rw [hy210]; with_reducible exact H) | (have H2_ := (Option.bind_some _ _).symm.trans H; rw [hy210]; with_reducible exact H2_) | (have H2_ := (Option.bind_some _ _).symm.trans H; with_reducible exact H2_) | with_reducible exact H | (rw [hy210]; exact H) | exact H
         have Ny210 := mk_ hy210
         clear hy210
         have H' := mk_ H
         clear H
         have hnb39 := NB203_186.out
         have hnc39 := NB186_203.out
         have hcz40_0 : wc.cell? ⟨gb203, 0, none⟩ = some (.string ((rd_T48 t187 x21_1).f0)) := (blk_cell BK203.out 0).trans rfl
         have hcz40_1 : wc.cell? ⟨gb203, 1, none⟩ = some (.int .i64 ((rd_T48 t187 x21_1).f1)) := (blk_cell BK203.out 1).trans rfl
         have hfz40_0 := blk_frozen BK203.out 0
         have hfz40_1 := blk_frozen BK203.out 1
         have hcz41_0 : wc.cell? ⟨gb186, 0, none⟩ = some (.string a1_0) := (blk_cell BK186.out 0).trans rfl
         have hcz41_1 : wc.cell? ⟨gb186, 1, none⟩ = some (.int .i64 a1_1) := (blk_cell BK186.out 1).trans rfl
         have hfz41_0 := blk_frozen BK186.out 0
         have hfz41_1 := blk_frozen BK186.out 1
         go_wp2_with (first | ((with_reducible refine gate_builtin (b := .append) (xs := #[.tmp 43, .tmp 45]) rfl ?_); at_builtin; refine Kd.R_append k48 (w0 := w) w.heap.size rfl (.tmp 43) (.tmp 45) 27 48 (.agg #[(.string ⟨#[]⟩), (.int .i64 0)]) 24 rfl Try.underlying27 info48 rfl (by decide) (by omega) u8 x8_1 (⟨((rd_T48 t187 x21_1).f0), ((rd_T48 t187 x21_1).f1)⟩ : S48) [.string ((rd_T48 t187 x21_1).f0), .int .i64 ((rd_T48 t187 x21_1).f1)] (fun k_ => some k_ ≠ (.slice (some ad202) t187.length co7 : Value).ownBlock ∧ k_ ≠ gb186 ∧ k_ ≠ gb203) (fun _ => False) rfl rfl ?aP (fun _ hk => hk.elim) ?aF ?aO ?aB ?aS ?aL ?_; (case aP => exact k48_mkM _ _ _ (⟨((rd_T48 t187 x21_1).f0), ((rd_T48 t187 x21_1).f1)⟩ : S48)); (case aB => exact (sq_g2 GE186.out GE203.out)); (case aF => exact (fun k_ hk => ⟨Kd.fresh' (Kd.R_lt (sq_r HO_19)) k_ hk, Kd.freshB (g := gb186) (o := .cells #[.string a1_0, .int .i64 a1_1] 48 (0, 0)) (sq_l BK186) k_ hk, Kd.freshB (g := gb203) (o := .cells #[.string ((rd_T48 t187 x21_1).f0), .int .i64 ((rd_T48 t187 x21_1).f1)] 48 (0, 0)) (sq_l BK203) k_ hk⟩)); (case aO => exact (sq_r HO_8)); (case aS => exact (below_size (sq_g2 GE186.out GE203.out))); (case aL => have := LMc38.out; omega); intro v211 w42 ho hb hg hat; rw [← Ny210.out] at ho; have n0_ := mk_ (Kd.R_after (ok := (fun k_ => k_ ≠ gb186 ∧ k_ ≠ gb203)) (by (with_reducible repeat (first | apply Kd.R_alloc | apply Kd.R_drewN | apply Kd.R_drew)); exact Kd.R_mono HO_19.out (fun _ hk => ⟨⟨hk.2.1, hk.2.2⟩, hk.1⟩)) hg hat); have n1_ := mk_ (blk_grown (g := gb186) (o := .cells #[.string a1_0, .int .i64 a1_1] 48 (0, 0)) (sq_l BK186) hg (Kd.R_away HO_8.out (fun _ hk => hk.2.1))); have n2_ := mk_ (blk_grown (g := gb203) (o := .cells #[.string ((rd_T48 t187 x21_1).f0), .int .i64 ((rd_T48 t187 x21_1).f1)] 48 (0, 0)) (sq_l BK203) hg (Kd.R_away HO_8.out (fun _ hk => hk.2.2))); have n3_ := mk_ (hb); have n4_ := mk_ (ho); clear HO_19 BK186 BK203 HB HO_8; have HO_19 := n0_; have BK186 := n1_; have BK203 := n2_; have HB := n3_; have HO212 := n4_; clear n0_ n1_ n2_ n3_ n4_; clear ho hb hg hat))
         go_roundg kj10
         case measure => have := HK1.out; have := HJ10.out; omega
         case rel => exact ⟨(y210), (x9_1), (wrap64 (x21_1 + 1)), sq_e, sq_e, H', ⟨by have := HK1.out; have := HJ10.out; omega⟩, ⟨by (with_reducible repeat (first | apply Kd.R_alloc | apply Kd.R_drewN | apply Kd.R_drew)); exact Kd.R_mono HO212.out (fun _ hk => ⟨hk.1, hk.2.1⟩)⟩, ⟨by (with_reducible repeat (first | apply Kd.R_alloc | apply Kd.R_drewN | apply Kd.R_drew)); exact Kd.R_mono HO_19.out (fun _ hk => ⟨hk.2, hk.1.1⟩)⟩, ⟨by (with_reducible repeat (first | refine blk_drewN ?_ _ | refine blk_drew ?_ | refine blk_alloc ?_ _)); exact BK186.out⟩, ⟨sq_g2 GE186.out GE203.out⟩⟩
    ·rw [if_neg c8] at H
     have c8b0 : decide (x21_1 < (t187.length : Int)) = false := decide_eq_false c8
     clear c8
     by_cases c43 : x9_1 = true
     ·subst c43
      have H1 : ((spec_BuildLegs.f k1 x8_1).bind fun bt191 => (some (bt191.1, bt191.2))) = some (r1, r2) := by rw [if_pos rfl] at H; exact H
      clear H
      have H := H1
      clear H1
      replace H := Option.bind_eq_some_iff.mp H
      obtain ⟨⟨t191, t192⟩, A440, H⟩ := H
      replace H : (some (t191, t192)) = some (r1, r2) := H
      have A44 := mk_ A440
      clear A440
      simp only [Option.some.injEq, Prod.mk.injEq] at H
      obtain ⟨rfl, rfl⟩ := H
      obtain ⟨Ao45, co45, eo45⟩ := Kd.R_slice HO_8.out
      subst eo45
      go_wp2_with (first | ((with_reducible refine gate_callee (f := 12) rfl ?_); refine goesL_ (some 55) rfl rfl Try.func12 (by kernel_rfl) rfl #[.slice Ao45 x8_1.length co45] rfl sq_a ?_; (with_reducible refine (spec_BuildLegs.calls k1 _ _ x8_1 t191 t192 _ ?side1 ?side2 A44.out).mono ?_); (case side1 => exact sq_c (Kd.R_reads' HO_8.out).2.2); (case side2 => exact (Kd.R_reads' HO_8.out).2.1); rintro e w46 ⟨v193, rfl, ho0, hb⟩; refine ⟨_, rfl, ?_⟩; have n0_ := mk_ (Kd.R_below (sq_r HO_8) hb); have n1_ := mk_ (Kd.R_below (sq_r HO_19) hb); have n2_ := mk_ (Kd.S_lower ho0 (below_size (sq_g GE186.out))); have n3_ := mk_ (blk_below (g := gb186) (o := .cells #[.string a1_0, .int .i64 a1_1] 48 (0, 0)) (sq_l BK186) hb); have n4_ := mk_ (below_step (sq_g GE186.out) hb); clear HO_8 HO_19 BK186 HB; have HO_8 := n0_; have HO_19 := n1_; have HO194 := n2_; have BK186 := n3_; have HB := n4_; clear n0_ n1_ n2_ n3_ n4_; (try clear hb); (try clear ho0)))
      go_ret2
      exact ⟨_, sq_w, sq_s HO194, sq_g GE186.out⟩
     ·replace c43 := Bool.eq_false_iff.mpr c43
      subst c43
      have H1 : (if x8_1.length < 5864062014805 then ((spec_BuildLegs.f k1 (x8_1 ++ [(⟨a1_0, a1_1⟩ : S48)])).bind fun bt198 => (some (bt198.1, bt198.2))) else (none)) = some (r1, r2) := by rw [if_neg (show ¬ (false = true) by decide)] at H; exact H
      clear H
      have H := H1
      clear H1
      by_cases c47 : x8_1.length < 5864062014805
      rotate_left
      ·rw [if_neg c47] at H
       exact absurd H (by simp)
      rw [if_pos c47] at H
      have LMc47 := mk_ c47
      clear c47
      obtain ⟨y195, hy195⟩ : ∃ y_ : List (S48), y_ = (x8_1 ++ [(⟨a1_0, a1_1⟩ : S48)]) := ⟨_, rfl⟩
      replace H : ((spec_BuildLegs.f k1 y195).bind fun bt198 => (some (bt198.1, bt198.2))) = some (r1, r2) := by first | (rw [hy195]; with_reducible exact H) | (have H2_ := (Option.bind_some _ _).symm.trans H; rw [hy195]; with_reducible exact H2_) | (have H2_ := (Option.bind_some _ _).symm.trans H; with_reducible exact H2_) | with_reducible exact H | (rw [hy195]; exact H) | exact H
      have Ny195 := mk_ hy195
      clear hy195
      replace H := Option.bind_eq_some_iff.mp H
      obtain ⟨⟨t198, t199⟩, A480, H⟩ := H
      replace H : (some (t198, t199)) = some (r1, r2) := H
      have A48 := mk_ A480
      clear A480
      simp only [Option.some.injEq, Prod.mk.injEq] at H
      obtain ⟨rfl, rfl⟩ := H
      have hcz49_0 : wr.cell? ⟨gb186, 0, none⟩ = some (.string a1_0) := (blk_cell BK186.out 0).trans rfl
      have hcz49_1 : wr.cell? ⟨gb186, 1, none⟩ = some (.int .i64 a1_1) := (blk_cell BK186.out 1).trans rfl
      have hfz49_0 := blk_frozen BK186.out 0
      have hfz49_1 := blk_frozen BK186.out 1
      go_wp2_with (first | ((with_reducible refine gate_builtin (b := .append) (xs := #[.tmp 50, .tmp 52]) rfl ?_); at_builtin; refine Kd.R_append k48 (w0 := w) w.heap.size rfl (.tmp 50) (.tmp 52) 27 48 (.agg #[(.string ⟨#[]⟩), (.int .i64 0)]) 24 rfl Try.underlying27 info48 rfl (by decide) (by omega) u8 x8_1 (⟨a1_0, a1_1⟩ : S48) [.string a1_0, .int .i64 a1_1] (fun k_ => some k_ ≠ (.slice Ao7 t187.length co7 : Value).ownBlock ∧ k_ ≠ gb186) (fun _ => False) rfl rfl ?aP (fun _ hk => hk.elim) ?aF ?aO ?aB ?aS ?aL ?_; (case aP => exact k48_mkM _ _ _ (⟨a1_0, a1_1⟩ : S48)); (case aB => exact (sq_g GE186.out)); (case aF => exact (fun k_ hk => ⟨Kd.fresh' (Kd.R_lt (sq_r HO_19)) k_ hk, Kd.freshB (g := gb186) (o := .cells #[.string a1_0, .int .i64 a1_1] 48 (0, 0)) (sq_l BK186) k_ hk⟩)); (case aO => exact (sq_r HO_8)); (case aS => exact (below_size (sq_g GE186.out))); (case aL => have := LMc47.out; omega); intro v196 w50 ho hb hg hat; rw [← Ny195.out] at ho; have n0_ := mk_ (Kd.R_after (ok := (fun k_ => k_ ≠ gb186)) (by (with_reducible repeat (first | apply Kd.R_alloc | apply Kd.R_drewN | apply Kd.R_drew)); exact Kd.R_mono HO_19.out (fun _ hk => ⟨hk.2, hk.1⟩)) hg hat); have n1_ := mk_ (blk_grown (g := gb186) (o := .cells #[.string a1_0, .int .i64 a1_1] 48 (0, 0)) (sq_l BK186) hg (Kd.R_away HO_8.out (fun _ hk => hk.2))); have n2_ := mk_ (hb); have n3_ := mk_ (ho); clear HO_19 BK186 HB HO_8; have HO_19 := n0_; have BK186 := n1_; have HB := n2_; have HO197 := n3_; clear n0_ n1_ n2_ n3_; clear ho hb hg hat; obtain ⟨Ao51, co51, eo51⟩ := Kd.R_slice HO197.out; subst eo51) | ((with_reducible refine gate_callee (f := 12) rfl ?_); refine goesL_ (some 55) rfl rfl Try.func12 (by kernel_rfl) rfl #[.slice Ao51 y195.length co51] rfl sq_a ?_; (with_reducible refine (spec_BuildLegs.calls k1 _ _ y195 t198 t199 _ ?side1 ?side2 A48.out).mono ?_); (case side1 => exact sq_c (Kd.R_reads' HO197.out).2.2); (case side2 => exact (Kd.R_reads' HO197.out).2.1); rintro e w52 ⟨v200, rfl, ho0, hb⟩; refine ⟨_, rfl, ?_⟩; have n0_ := mk_ (Kd.R_below (sq_r HO_19) hb); have n1_ := mk_ (Kd.R_below (sq_r HO197) hb); have n2_ := mk_ (Kd.S_lower ho0 (below_size (sq_g GE186.out))); have n3_ := mk_ (blk_below (g := gb186) (o := .cells #[.string a1_0, .int .i64 a1_1] 48 (0, 0)) (sq_l BK186) hb); have n4_ := mk_ (below_step (sq_g GE186.out) hb); clear HO_19 HO197 BK186 HB; have HO_19 := n0_; have HO197 := n1_; have HO201 := n2_; have BK186 := n3_; have HB := n4_; clear n0_ n1_ n2_ n3_ n4_; (try clear hb); (try clear ho0)))
      go_ret2
      exact ⟨_, sq_w, sq_s HO201, sq_g GE186.out⟩
 ·replace c4 := Bool.eq_false_iff.mpr c4
  subst c4
  have H1 : (some (([] : List (S59)), false)) = some (r1, r2) := by rw [if_neg (show ¬ (false = true) by decide)] at H; exact H
  clear H
  have H := H1
  clear H1
  simp only [Option.some.injEq, Prod.mk.injEq] at H
  obtain ⟨rfl, rfl⟩ := H
  go_enter Try.func30, Try.ntmps30
  go_wp2_with (first | ((with_reducible refine gate_dst (N := 3) rfl ?_); refine box_event sq_0 (N := 3) sq_0 (cs := #[.string a1_0, .int .i64 a1_1]) (t := 48) sq_h ?_; intro gb186 hg w53 hbox hb; have n0_ := mk_ (below_step sq_b hb); have n1_ := mk_ (hbox); have n2_ := mk_ ((by rw [hg]; exact (below_size sq_b) : w.heap.size ≤ gb186)); have n3_ := mk_ ((by rw [hg]; exact (below_size sq_b) : w.heap.size ≤ gb186)); clear HB; have HB := n0_; have BK186 := n1_; have GW186 := n2_; have GE186 := n3_; clear n0_ n1_ n2_ n3_; clear hb hbox hg) | ((with_reducible refine gate_callee (f := 52) rfl ?_); refine goesL_ (some 14) rfl rfl Try.func52 (by kernel_rfl) rfl #[.slice A0 l0.length c0] rfl sq_a ?_; (with_reducible refine (spec_l13Of.calls k _ _ l0 t187 false _ ?side1 ?side2 A3.out).mono ?_); (case side1 => exact sq_c (Kd.C_below HR0.out HB.out)); (case side2 => exact HC0.out); rintro e w54 ⟨v189, rfl, ho0, hb⟩; refine ⟨_, rfl, ?_⟩; have n0_ := mk_ (Kd.R_lower (Kd.R_newB ho0 (g := gb186) (o := .cells #[.string a1_0, .int .i64 a1_1] 48 (0, 0)) (sq_l BK186)) (below_size (sq_g GE186.out))); have n1_ := mk_ (blk_below (g := gb186) (o := .cells #[.string a1_0, .int .i64 a1_1] 48 (0, 0)) (sq_l BK186) hb); have n2_ := mk_ (below_step (sq_g GE186.out) hb); clear BK186 HB; have HO190 := n0_; have BK186 := n1_; have HB := n2_; clear n0_ n1_ n2_; (try clear hb); (try clear ho0)))
  go_ret2
  exact ⟨_, sq_w, by first | exact Kd.S_nil _ _ _ _ _ | exact Kd.N_nil _ _ _ _ _ | exact Kd.V_nil _ _ _ _ _ | exact Kd.Q_nil _ _ _ _ _ | exact Kd.R_nil _ _ _ _ _, sq_g GE186.out⟩

/-! ### bytealg_CompareString: function 97 -/
def bytealg_CompareString.f (a0 : ByteArray) (a1 : ByteArray) : Option (Int) := some (cmpB a0 a1)
set_option maxHeartbeats 8000000 in
set_option maxRecDepth 100000 in
theorem bytealg_CompareString.calls (a0 : ByteArray) (a1 : ByteArray) (r : Int) (w : World) (h : bytealg_CompareString.f a0 a1 = some r) :
  Calls Try.prog 97 #[.string a0, .string a1] w fun e w' => e = .returned (.int .i64 r) ∧ Drawn0 w w' := by
 obtain rfl := Option.some.inj h
 go_enter Try.func97, Try.ntmps97
 go_wp2
 rw [run_callFunc_extern Try.func112 (by kernel_rfl) (by kernel_rfl) (by kernel_rfl) (e := Extern.BytealgCompare.compare) (by kernel_rfl), Lib.run_compareString]
 simp only [Result.andThen]
 rw [Oper.upon_value]
 go_wp2
 go_ret
 exact ⟨rfl, Drawn0.refl _⟩

/-! ### strings_Compare: function 61 -/
def strings_Compare.f (a0 : ByteArray) (a1 : ByteArray) : Option (Int) := (bytealg_CompareString.f a0 a1).bind fun t213 => (some t213)
set_option maxHeartbeats 8000000 in
set_option maxRecDepth 100000 in
theorem strings_Compare.calls (a0 : ByteArray) (a1 : ByteArray) (r : Int) (w : World) (h : strings_Compare.f a0 a1 = some r) :
  Calls Try.prog 61 #[.string a0, .string a1] w fun e w' => e = .returned (.int .i64 r) ∧ Drawn0 w w' := by
 have H : ((bytealg_CompareString.f a0 a1).bind fun t213 => (some t213)) = some r := h
 clear h
 replace H := Option.bind_eq_some_iff.mp H
 obtain ⟨t213, A30, H⟩ := H
 replace H : (some t213) = some r := H
 have A3 := mk_ A30
 clear A30
 obtain rfl := Option.some.inj H
 go_enter Try.func61, Try.ntmps61
 go_wp2_with (first | ((with_reducible refine gate_callee (f := 97) rfl ?_); refine goesL_ (some 7) rfl rfl Try.func97 (by kernel_rfl) rfl #[.string a0, .string a1] rfl sq_a ?_; (with_reducible refine (bytealg_CompareString.calls a0 a1 t213 _ A3.out).mono ?_); rintro e w' ⟨rfl, ⟨nd, rfl⟩⟩; refine ⟨_, rfl, ?_⟩))
 go_ret
 exact ⟨sq_e, by repeat (first | exact Drawn0.refl _ | apply Drawn0.step)⟩

/-! ### impl_PutEntry_1: function 60 -/
def impl_PutEntry_1.f (a0_0 : ByteArray) (a0_1 : Int) (a1 : ByteArray) : Option (Int) := (strings_Compare.f a0_0 a1).bind fun t215 => (some t215)
set_option maxHeartbeats 8000000 in
set_option maxRecDepth 100000 in
theorem impl_PutEntry_1.calls (a0_0 : ByteArray) (a0_1 : Int) (a1 : ByteArray) (r : Int) (w : World) (h : impl_PutEntry_1.f a0_0 a0_1 a1 = some r) :
  Calls Try.prog 60 #[.agg #[.string a0_0, .int .i64 a0_1], .string a1] w fun e w' => e = .returned (.int .i64 r) ∧ Below w.heap.size w w' := by
 have hu48 := Try.underlying48
 have HB := mk_ (Below.refl w.heap.size w)
 have H : ((strings_Compare.f a0_0 a1).bind fun t215 => (some t215)) = some r := h
 clear h
 replace H := Option.bind_eq_some_iff.mp H
 obtain ⟨t215, A30, H⟩ := H
 replace H : (some t215) = some r := H
 have A3 := mk_ A30
 clear A30
 obtain rfl := Option.some.inj H
 go_enter Try.func60, Try.ntmps60
 go_wp2_with (first | ((with_reducible refine gate_dst (N := 2) rfl ?_); refine box_event sq_0 (N := 2) sq_0 (cs := #[.string a0_0, .int .i64 a0_1]) (t := 48) sq_h ?_; intro gb214 hg w4 hbox hb; have n0_ := mk_ (below_step sq_b hb); have n1_ := mk_ (hbox); have n2_ := mk_ ((by rw [hg]; exact (below_size sq_b) : w.heap.size ≤ gb214)); have n3_ := mk_ ((by rw [hg]; exact (below_size sq_b) : w.heap.size ≤ gb214)); clear HB; have HB := n0_; have BK214 := n1_; have GW214 := n2_; have GE214 := n3_; clear n0_ n1_ n2_ n3_; clear hb hbox hg; have hcz5_0 : w4.cell? ⟨gb214, 0, none⟩ = some (.string a0_0) := (blk_cell BK214.out 0).trans rfl; have hcz5_1 : w4.cell? ⟨gb214, 1, none⟩ = some (.int .i64 a0_1) := (blk_cell BK214.out 1).trans rfl; have hfz5_0 := blk_frozen BK214.out 0; have hfz5_1 := blk_frozen BK214.out 1) | ((with_reducible refine gate_callee (f := 61) rfl ?_); refine goesL_ (some 8) rfl rfl Try.func61 (by kernel_rfl) rfl #[.string a0_0, .string a1] rfl sq_a ?_; (with_reducible refine (strings_Compare.calls a0_0 a1 t215 _ A3.out).mono ?_); rintro e w' ⟨rfl, ⟨nd, rfl⟩⟩; refine ⟨_, rfl, ?_⟩))
 go_ret
 exact ⟨sq_w, sq_g GE214.out⟩

-- NOT PRINTED: function 98 (slices_overlaps_impl_Entry)

end Go.Proofs.Ytkoackkimdanjaa.QFnLegs
