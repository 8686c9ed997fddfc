/- This session's own words for printed walks: often used proof terms under short names. No conditions. -/
import Derived.Test.YtlohhmoaomlieaaExtB
import Derived.Test.YtlohhmoaomlieaaWKept
import Derived.Test.YtlohhmoaomlieaaWMore
import Derived.Test.YtlohhmoaomlieaaWTab
import Derived.Test.YtlohhmoaomlieaaWShare
namespace Go.Proofs.Ytlohhmoaomlieaa.Ext
open Go.RowKit Go.Proofs.YtlohhmoaomlieaaW.PrintWords Go.Proofs.YtlohhmoaomlieaaW.PrintLast
set_option linter.unusedSimpArgs false
set_option linter.unusedVariables false
theorem sq_d {p : Prop} [Decidable p] (h : decide p = true := by first | (with_reducible assumption) | assumption) : p := of_decide_eq_true h
theorem sq_b {p : Prop} (h : p := by repeat (first | (with_reducible first | exact HB.out | apply below_alloc | apply pw_below_drewN | apply below_drew1) | exact HB.out)) : p := h
theorem sq_k {p : Prop} (h : p := by repeat (first | (with_reducible first | exact HK.out | apply Kept.alloc | apply Kept.drewN | apply Kept.drew) | exact HK.out)) : p := h
theorem sq_r {p q : Prop} (h0 : Aside0 p) (h : p → q := by intro h_; (with_reducible repeat (first | apply Kd.R_alloc | apply Kd.R_drewN | apply Kd.R_drew)); exact h_) : q := h h0.out
theorem sq_v {p q : Prop} (h0 : Aside0 p) (h : p → q := by intro h_; (with_reducible repeat (first | apply Kd.V_alloc | apply Kd.V_drewN | apply Kd.V_drew)); exact h_) : q := h h0.out
theorem sq_l {p q : Prop} (h0 : Aside0 p) (h : p → q := by intro h_; (with_reducible repeat (first | refine blk_drewN ?_ _ | refine blk_drew ?_ | refine blk_alloc ?_ _)); exact h_) : q := h h0.out
theorem sq_S {p q : Prop} (h0 : Aside0 p) (h : p → q := by intro h_; (with_reducible repeat (first | apply Kd.S_alloc | apply Kd.S_drewN | apply Kd.S_drew)); exact h_) : q := h h0.out
theorem sq_g {p q : Prop} (h0 : p) (h : p → q := by intro h_; repeat (first | (with_reducible first | exact HB.out | apply below_alloc | apply pw_below_drewN | apply below_drew1 | refine below_set ?_ h_) | exact HB.out)) : q := h h0
theorem sq_g2 {p p2 q : Prop} (h0 : p) (h2 : p2) (h : p → p2 → q := by intro h_ h2_; repeat (first | (with_reducible first | exact HB.out | apply below_alloc | apply pw_below_drewN | apply below_drew1 | refine below_set ?_ h_ | refine below_set ?_ h2_) | exact HB.out)) : q := h h0 h2
theorem sq_g3 {p p2 p3 q : Prop} (h0 : p) (h2 : p2) (h3 : p3) (h : p → p2 → p3 → q := by intro h_ h2_ h3_; repeat (first | (with_reducible first | exact HB.out | apply below_alloc | apply pw_below_drewN | apply below_drew1 | refine below_set ?_ h_ | refine below_set ?_ h2_ | refine below_set ?_ h3_) | exact HB.out)) : q := h h0 h2 h3
theorem sq_g4 {p p2 p3 p4 q : Prop} (h0 : p) (h2 : p2) (h3 : p3) (h4 : p4) (h : p → p2 → p3 → p4 → q := by intro h_ h2_ h3_ h4_; repeat (first | (with_reducible first | exact HB.out | apply below_alloc | apply pw_below_drewN | apply below_drew1 | refine below_set ?_ h_ | refine below_set ?_ h2_ | refine below_set ?_ h3_ | refine below_set ?_ h4_) | exact HB.out)) : q := h h0 h2 h3 h4
theorem sq_C {p q : Prop} (h0 : p) (h : p → q := by intro h_; repeat (first | exact h_ | (with_reducible refine Kd.C_alloc ?_ _) | (with_reducible refine Kd.C_drewN ?_ _) | (with_reducible refine Kd.C_drew ?_))) : q := h h0
theorem sq_a {p : Prop} (h : p := by (try simp only [List.map_toArray, List.map_cons, List.map_nil]); first | done | rfl | (simp only [List.length_drop, List.length_take]; rfl)) : p := h
theorem sq_0 {p : Prop} (h : p := by rfl) : p := h
theorem sq_h {p : Prop} (h : p := by first | (go_simp; done) | (go_simp; rfl)) : p := h
theorem mk_ {p : Prop} (h : p) : Aside0 p := ⟨h⟩
theorem sq_e {p : Prop} (h : p := by first | rfl | (simp; done) | (simp [ext_bne_nil, ext_beq_nil]; done) | (simp [*]; done)) : p := h
theorem sq_w {p : Prop} (h : p := by first | rfl | (simp [errW_none, errW_some] <;> rfl) | (simp [errW_none, errW_some, ext_bne_nil, ext_beq_nil]; done) | (simp [*, errW_none, errW_some] <;> rfl)) : p := h
section
variable {P : Program} {ops : Array Oper} {Q : Exit → Act → World → Prop} {md : Region.Mode} {S : World → Prop} {ds : List Nat}
theorem pu_ (i : Nat) (N : Option Tmp) (l' : Array Bool) {T : Bool × List (List Nat × List Nat)} (hT : Aside0 (rtab md ops = T)) {oi : Oper} {v : Value} {fuel : Nat} {l : Array Bool} {a a' : Act} {w : World} (h : wpAnyLast P md ops Q S ds fuel l' a' w)
    (hi : ops[i]? = some oi := by rfl) (hN : oi.dst = N := by rfl) (hc : anyT T l.toList l'.toList i = true := by kernel_rfl) (hQ : ∀ c a w, Q (.panic c) (a.put oi.dst v) w → Q (.panic c) a w := by exact fun _ _ _ h => h)
    (hy : Yields P ops oi v a := by refine Or.inl ⟨by rfl, ?_⟩; intro w'; go_simp; with_reducible rfl) (ha : a.put N v = a' := by simp only [Act.put, List.setIfInBounds_toArray, List.set_cons_zero, List.set_cons_succ, i64_w, i32_w]; rfl) : wpAnyLast P md ops Q S ds (fuel + 1) l a w :=
  pure_ l' hi hN (any_of hT.out hc) hQ hy ha h
end
end Go.Proofs.Ytlohhmoaomlieaa.Ext
