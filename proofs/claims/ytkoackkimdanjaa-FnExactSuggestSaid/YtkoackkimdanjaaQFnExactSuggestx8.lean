-- Written by this session's own program (wip/pp_patch.py, wip/pp.sh) out of the given translation. Not trusted: Lean checks it.
import Derived.Test.YtkoackkimdanjaaQFnExactSuggestx0
import Derived.Test.YtkoackkimdanjaaQFnExactSuggestx4
import Derived.Test.YtkoackkimdanjaaQFnExactSuggestx7
namespace Go.Proofs.Ytkoackkimdanjaa.QFnExactSuggest
open Go.RowKit Go.Proofs.YtkoackkimdanjaaW.PrintWords Go.Proofs.YtkoackkimdanjaaW.PrintLast Go.Proofs.YtkoackkimdanjaaW.PrintMore
attribute [local go_sem] max2_int min2_int max_two min_two max_three min_three max_four min_four   -- for this text's walks alone
open Go.Proofs.Ytkoackkimdanjaa.Ext
attribute [local go_sem high] ext_gtr ext_leq
set_option linter.unusedVariables false
set_option linter.unusedSimpArgs false

/-! ### spec_Suggest: function 40 -/
mutual
def spec_Suggest.j0 : Nat → ByteArray → Int → List (S48) → Bool → Option ((List (S48)) × Bool)
 | 0, _, _, _, _ => none
 | k + 1, x1, x2, x8, x31 => if x31 = true then (some (([] : List (S48)), false)) else (spec_Suggest.l0 k x1 x2 ([] : List (S48)) x8 (x8.length : Int) 0)
def spec_Suggest.l0 : Nat → ByteArray → Int → List (S48) → List (S48) → Int → Int → Option ((List (S48)) × Bool)
 | 0, _, _, _, _, _, _ => none
 | k + 1, x1, x2, x10, x32, x33, x34 => if x34 < x33 then (if 0 ≤ x34 then (if x34 < (x32.length : Int) then (if (((rd_T48 x32 x34).f0).size : Int) < (x1.size : Int) then (spec_Suggest.j2 k x1 x2 x10 x32 x33 x34 true ((rd_T48 x32 x34).f0) ((rd_T48 x32 x34).f1)) else (if 0 ≤ (x1.size : Int) then (if (x1.size : Int) ≤ (((rd_T48 x32 x34).f0).size : Int) then (spec_Suggest.j2 k x1 x2 x10 x32 x33 x34 ((((rd_T48 x32 x34).f0).extract 0 ((x1.size : Int) : Int).toNat).toList != x1.toList) ((rd_T48 x32 x34).f0) ((rd_T48 x32 x34).f1)) else (none)) else (none))) else (none)) else (none)) else ((some (([] : List (S48)) : List (S48))).bind fun y199 => ((spec_l1Least.f x2 (x10.length : Int)).bind fun t202 => (if 0 ≤ t202 then (if t202 ≤ (x10.length : Int) then ((some (x10.take (t202 : Int).toNat : List (S48))).bind fun y203 => (if y199.length + y203.length < 5864062014805 then (some ((y199 ++ y203), true)) else (none))) else (none)) else (none))))
def spec_Suggest.j2 : Nat → ByteArray → Int → List (S48) → List (S48) → Int → Int → Bool → ByteArray → Int → Option ((List (S48)) × Bool)
 | 0, _, _, _, _, _, _, _, _, _ => none
 | k + 1, x1, x2, x10, x32, x33, x34, x52, x212000, x212001 => if x52 = true then (spec_Suggest.l0 k x1 x2 x10 x32 x33 (wrap64 (x34 + 1))) else (spec_Suggest.l1 k x1 x2 x10 0 x32 x33 x34 x212000 x212001)
def spec_Suggest.l1 : Nat → ByteArray → Int → List (S48) → Int → List (S48) → Int → Int → ByteArray → Int → Option ((List (S48)) × Bool)
 | 0, _, _, _, _, _, _, _, _, _ => none
 | k + 1, x1, x2, x10, x13, x32, x33, x34, x212000, x212001 => if x13 < (x10.length : Int) then (if 0 ≤ x13 then (if ((rd_T48 x10 x13).f1) ≥ x212001 then (spec_Suggest.l1 k x1 x2 x10 (wrap64 (x13 + 1)) x32 x33 x34 x212000 x212001) else ((some (([] : List (S48)) : List (S48))).bind fun y213 => (if x13 ≤ (x10.length : Int) then ((some (x10.take (x13 : Int).toNat : List (S48))).bind fun y216 => (if y213.length + y216.length < 5864062014805 then ((some (y213 ++ y216 : List (S48))).bind fun y220 => (if y220.length < 5864062014805 then ((some (y220 ++ [(⟨x212000, x212001⟩ : S48)] : List (S48))).bind fun y223 => ((some (x10.drop (x13 : Int).toNat : List (S48))).bind fun y226 => (if y223.length + y226.length < 5864062014805 then (spec_Suggest.l0 k x1 x2 (y223 ++ y226) x32 x33 (wrap64 (x34 + 1))) else (none)))) else (none))) else (none))) else (none)))) else (none)) else ((some (([] : List (S48)) : List (S48))).bind fun y233 => (if 0 ≤ x13 then (if x13 ≤ (x10.length : Int) then ((some (x10.take (x13 : Int).toNat : List (S48))).bind fun y236 => (if y233.length + y236.length < 5864062014805 then ((some (y233 ++ y236 : List (S48))).bind fun y240 => (if y240.length < 5864062014805 then ((some (y240 ++ [(⟨x212000, x212001⟩ : S48)] : List (S48))).bind fun y243 => ((some (x10.drop (x13 : Int).toNat : List (S48))).bind fun y246 => (if y243.length + y246.length < 5864062014805 then (spec_Suggest.l0 k x1 x2 (y243 ++ y246) x32 x33 (wrap64 (x34 + 1))) else (none)))) else (none))) else (none))) else (none)) else (none)))
end
def spec_Suggest.f (k : Nat) (l0 : List (S59)) (a1 : ByteArray) (a2 : Int) : Option ((List (S48)) × Bool) := (spec_l13Of.f k l0).bind fun bt193 => (if bt193.2 = true then ((spec_l13Begin.f k a1).bind fun t197 => (if t197 = true then ((spec_l1In.f a2 1 10).bind fun t198 => (spec_Suggest.j0 k a1 a2 bt193.1 (!t198))) else (spec_Suggest.j0 k a1 a2 bt193.1 true))) else (spec_Suggest.j0 k a1 a2 bt193.1 true))
theorem spec_Suggest.mono_l : ∀ k, (∀ y0 y1 y2 y3, LeO (spec_Suggest.j0 k y0 y1 y2 y3) (spec_Suggest.j0 (k + 1) y0 y1 y2 y3)) ∧ (∀ y0 y1 y2 y3 y4 y5, LeO (spec_Suggest.l0 k y0 y1 y2 y3 y4 y5) (spec_Suggest.l0 (k + 1) y0 y1 y2 y3 y4 y5)) ∧ (∀ y0 y1 y2 y3 y4 y5 y6 y7 y8, LeO (spec_Suggest.j2 k y0 y1 y2 y3 y4 y5 y6 y7 y8) (spec_Suggest.j2 (k + 1) y0 y1 y2 y3 y4 y5 y6 y7 y8)) ∧ (∀ y0 y1 y2 y3 y4 y5 y6 y7 y8, LeO (spec_Suggest.l1 k y0 y1 y2 y3 y4 y5 y6 y7 y8) (spec_Suggest.l1 (k + 1) y0 y1 y2 y3 y4 y5 y6 y7 y8))
 | 0 => ⟨fun _ _ _ _ r h => by simp [spec_Suggest.j0] at h, fun _ _ _ _ _ _ r h => by simp [spec_Suggest.l0] at h, fun _ _ _ _ _ _ _ _ _ r h => by simp [spec_Suggest.j2] at h, fun _ _ _ _ _ _ _ _ _ r h => by simp [spec_Suggest.l1] at h⟩
 | k + 1 => by
  obtain ⟨ih0, ih1, ih2, ih3⟩ := spec_Suggest.mono_l k
  refine ⟨?_, ?_, ?_, ?_⟩
  ·intro y0 y1 y2 y3
   unfold spec_Suggest.j0
   repeat' first
   | (with_reducible exact ih0 _ _ _ _)
   | (with_reducible exact ih1 _ _ _ _ _ _)
   | (with_reducible exact ih2 _ _ _ _ _ _ _ _ _)
   | (with_reducible exact ih3 _ _ _ _ _ _ _ _ _)
   | (with_reducible exact spec_l13Begin.mono _ _)
   | (with_reducible exact spec_l13Of.mono _ _)
   | (with_reducible exact LeO.refl _)
   | (with_reducible exact LeO.none _)
   | (with_reducible refine LeO.ite ?_ ?_)
   | (with_reducible refine LeO.bind ?_ (fun _ => ?_))
   | exact ih0 _ _ _ _
   | exact ih1 _ _ _ _ _ _
   | exact ih2 _ _ _ _ _ _ _ _ _
   | exact ih3 _ _ _ _ _ _ _ _ _
   | exact spec_l13Begin.mono _ _
   | exact spec_l13Of.mono _ _
   | exact LeO.none _
   | refine LeO.ite ?_ ?_
   | refine LeO.bind ?_ (fun _ => ?_)
  ·intro y0 y1 y2 y3 y4 y5
   unfold spec_Suggest.l0
   repeat' first
   | (with_reducible exact ih0 _ _ _ _)
   | (with_reducible exact ih1 _ _ _ _ _ _)
   | (with_reducible exact ih2 _ _ _ _ _ _ _ _ _)
   | (with_reducible exact ih3 _ _ _ _ _ _ _ _ _)
   | (with_reducible exact spec_l13Begin.mono _ _)
   | (with_reducible exact spec_l13Of.mono _ _)
   | (with_reducible exact LeO.refl _)
   | (with_reducible exact LeO.none _)
   | (with_reducible refine LeO.ite ?_ ?_)
   | (with_reducible refine LeO.bind ?_ (fun _ => ?_))
   | exact ih0 _ _ _ _
   | exact ih1 _ _ _ _ _ _
   | exact ih2 _ _ _ _ _ _ _ _ _
   | exact ih3 _ _ _ _ _ _ _ _ _
   | exact spec_l13Begin.mono _ _
   | exact spec_l13Of.mono _ _
   | exact LeO.none _
   | refine LeO.ite ?_ ?_
   | refine LeO.bind ?_ (fun _ => ?_)
  ·intro y0 y1 y2 y3 y4 y5 y6 y7 y8
   unfold spec_Suggest.j2
   repeat' first
   | (with_reducible exact ih0 _ _ _ _)
   | (with_reducible exact ih1 _ _ _ _ _ _)
   | (with_reducible exact ih2 _ _ _ _ _ _ _ _ _)
   | (with_reducible exact ih3 _ _ _ _ _ _ _ _ _)
   | (with_reducible exact spec_l13Begin.mono _ _)
   | (with_reducible exact spec_l13Of.mono _ _)
   | (with_reducible exact LeO.refl _)
   | (with_reducible exact LeO.none _)
   | (with_reducible refine LeO.ite ?_ ?_)
   | (with_reducible refine LeO.bind ?_ (fun _ => ?_))
   | exact ih0 _ _ _ _
   | exact ih1 _ _ _ _ _ _
   | exact ih2 _ _ _ _ _ _ _ _ _
   | exact ih3 _ _ _ _ _ _ _ _ _
   | exact spec_l13Begin.mono _ _
   | exact spec_l13Of.mono _ _
   | exact LeO.none _
   | refine LeO.ite ?_ ?_
   | refine LeO.bind ?_ (fun _ => ?_)
  ·intro y0 y1 y2 y3 y4 y5 y6 y7 y8
   unfold spec_Suggest.l1
   repeat' first
   | (with_reducible exact ih0 _ _ _ _)
   | (with_reducible exact ih1 _ _ _ _ _ _)
   | (with_reducible exact ih2 _ _ _ _ _ _ _ _ _)
   | (with_reducible exact ih3 _ _ _ _ _ _ _ _ _)
   | (with_reducible exact spec_l13Begin.mono _ _)
   | (with_reducible exact spec_l13Of.mono _ _)
   | (with_reducible exact LeO.refl _)
   | (with_reducible exact LeO.none _)
   | (with_reducible refine LeO.ite ?_ ?_)
   | (with_reducible refine LeO.bind ?_ (fun _ => ?_))
   | exact ih0 _ _ _ _
   | exact ih1 _ _ _ _ _ _
   | exact ih2 _ _ _ _ _ _ _ _ _
   | exact ih3 _ _ _ _ _ _ _ _ _
   | exact spec_l13Begin.mono _ _
   | exact spec_l13Of.mono _ _
   | exact LeO.none _
   | refine LeO.ite ?_ ?_
   | refine LeO.bind ?_ (fun _ => ?_)
theorem spec_Suggest.mono : ∀ a0 a1 a2 k, LeO (spec_Suggest.f k a0 a1 a2) (spec_Suggest.f (k + 1) a0 a1 a2) := by
 intro a0 a1 a2 k
 obtain ⟨ih0, ih1, ih2, ih3⟩ := spec_Suggest.mono_l k
 unfold spec_Suggest.f
 repeat' first
   | (with_reducible exact ih0 _ _ _ _)
   | (with_reducible exact ih1 _ _ _ _ _ _)
   | (with_reducible exact ih2 _ _ _ _ _ _ _ _ _)
   | (with_reducible exact ih3 _ _ _ _ _ _ _ _ _)
   | (with_reducible exact spec_l13Begin.mono _ _)
   | (with_reducible exact spec_l13Of.mono _ _)
   | (with_reducible exact LeO.refl _)
   | (with_reducible exact LeO.none _)
   | (with_reducible refine LeO.ite ?_ ?_)
   | (with_reducible refine LeO.bind ?_ (fun _ => ?_))
   | exact ih0 _ _ _ _
   | exact ih1 _ _ _ _ _ _
   | exact ih2 _ _ _ _ _ _ _ _ _
   | exact ih3 _ _ _ _ _ _ _ _ _
   | exact spec_l13Begin.mono _ _
   | exact spec_l13Of.mono _ _
   | exact LeO.none _
   | refine LeO.ite ?_ ?_
   | refine LeO.bind ?_ (fun _ => ?_)
set_option maxHeartbeats 8000000 in
set_option maxRecDepth 100000 in
theorem spec_Suggest.calls (k : Nat) (A0 : Option Addr) (c0 : Nat) (l0 : List (S59)) (a1 : ByteArray) (a2 : Int) (r1 : List (S48)) (r2 : Bool) (w : World) (hr0 : Kd.C k59 w A0 l0.length l0) (hc0 : l0.length ≤ c0) (h : spec_Suggest.f k l0 a1 a2 = some (r1, r2)) :
  Calls Try.prog 40 #[.slice A0 l0.length c0, .string a1, .int .i64 a2] w fun e w' => ∃ v0_ : Value, e = .returned (.tuple #[v0_, .bool r2]) ∧ Kd.R k48 48 w' w.heap.size (fun _ => True) v0_ r1 ∧ Below w.heap.size w w' := by
 have hu48 := Try.underlying48
 have HR0 := Aside0.mk hr0
 have HC0 := Aside0.mk hc0
 clear hr0 hc0
 have HB := Aside0.mk (Below.refl w.heap.size w)
 have H : ((spec_l13Of.f k l0).bind fun bt193 => (if bt193.2 = true then ((spec_l13Begin.f k a1).bind fun t197 => (if t197 = true then ((spec_l1In.f a2 1 10).bind fun t198 => (spec_Suggest.j0 k a1 a2 bt193.1 (!t198))) else (spec_Suggest.j0 k a1 a2 bt193.1 true))) else (spec_Suggest.j0 k a1 a2 bt193.1 true))) = some (r1, r2) := h
 clear h
 replace H := Option.bind_eq_some_iff.mp H
 obtain ⟨⟨t193, t194⟩, A40, H⟩ := H
 replace H : (if t194 = true then ((spec_l13Begin.f k a1).bind fun t197 => (if t197 = true then ((spec_l1In.f a2 1 10).bind fun t198 => (spec_Suggest.j0 k a1 a2 t193 (!t198))) else (spec_Suggest.j0 k a1 a2 t193 true))) else (spec_Suggest.j0 k a1 a2 t193 true)) = some (r1, r2) := H
 have A4 := Aside0.mk A40
 clear A40
 have HC5 := Aside0.mk H
 clear H
 go_enter Try.func40, Try.ntmps40
 go_upto_region 2 with (first | (go_at_call 52; (with_reducible refine (spec_l13Of.calls k _ _ l0 t193 t194 _ ?side1 ?side2 A4.out).mono ?_); (case side1 => repeat (first | exact HR0.out | (with_reducible refine Kd.C_alloc ?_ _) | (with_reducible refine Kd.C_drewN ?_ _) | (with_reducible refine Kd.C_drew ?_))); (case side2 => exact HC0.out); rintro e w6 ⟨v195, rfl, ho0, hb⟩; have n0_ := Aside0.mk (Kd.R_lower ho0 (below_size sq_b)); have n1_ := Aside0.mk (below_step sq_b hb); clear HB; have HO196 := n0_; have HB := n1_; clear n0_ n1_; (try clear hb); (try clear hb2); (try clear hk); (try clear hi); (try clear ho0)))
 repeat (go_quiet (first | (go_at_call 52; (with_reducible refine (spec_l13Of.calls k _ _ l0 t193 t194 _ ?side1 ?side2 A4.out).mono ?_); (case side1 => repeat (first | exact HR0.out | (with_reducible refine Kd.C_alloc ?_ _) | (with_reducible refine Kd.C_drewN ?_ _) | (with_reducible refine Kd.C_drew ?_))); (case side2 => exact HC0.out); rintro e w6 ⟨v195, rfl, ho0, hb⟩; have n0_ := Aside0.mk (Kd.R_lower ho0 (below_size sq_b)); have n1_ := Aside0.mk (below_step sq_b hb); clear HB; have HO196 := n0_; have HB := n1_; clear n0_ n1_; (try clear hb); (try clear hb2); (try clear hk); (try clear hi); (try clear ho0))); go_upto_region 2 with (first | (go_at_call 52; (with_reducible refine (spec_l13Of.calls k _ _ l0 t193 t194 _ ?side1 ?side2 A4.out).mono ?_); (case side1 => repeat (first | exact HR0.out | (with_reducible refine Kd.C_alloc ?_ _) | (with_reducible refine Kd.C_drewN ?_ _) | (with_reducible refine Kd.C_drew ?_))); (case side2 => exact HC0.out); rintro e w6 ⟨v195, rfl, ho0, hb⟩; have n0_ := Aside0.mk (Kd.R_lower ho0 (below_size sq_b)); have n1_ := Aside0.mk (below_step sq_b hb); clear HB; have HO196 := n0_; have HB := n1_; clear n0_ n1_; (try clear hb); (try clear hb2); (try clear hk); (try clear hi); (try clear ho0))))
 (try simp only [Act.put, List.setIfInBounds_toArray, List.set_cons_zero, List.set_cons_succ])
 go_cut [31] (fun v31 wc => ∃ (kq : Nat) (x31_4 : Bool), v31 = .bool x31_4 ∧ Aside0 (spec_Suggest.j0 kq a1 a2 t193 x31_4 = some (r1, r2)) ∧ Aside0 (kq ≤ k) ∧ Aside0 (Kd.R k48 48 wc w.heap.size (fun _ => True) v195 t193) ∧ Aside0 (Below w.heap.size w wc))
 case first =>
  have H := HC5.out
  clear HC5
  by_cases c7 : t194 = true
  ·subst c7
   have H1 : ((spec_l13Begin.f k a1).bind fun t197 => (if t197 = true then ((spec_l1In.f a2 1 10).bind fun t198 => (spec_Suggest.j0 k a1 a2 t193 (!t198))) else (spec_Suggest.j0 k a1 a2 t193 true))) = some (r1, r2) := by rw [if_pos rfl] at H; exact H
   clear H
   have H := H1
   clear H1
   replace H := Option.bind_eq_some_iff.mp H
   obtain ⟨t197, A80, H⟩ := H
   replace H : (if t197 = true then ((spec_l1In.f a2 1 10).bind fun t198 => (spec_Suggest.j0 k a1 a2 t193 (!t198))) else (spec_Suggest.j0 k a1 a2 t193 true)) = some (r1, r2) := H
   have A8 := Aside0.mk A80
   clear A80
   by_cases c9 : t197 = true
   ·subst c9
    have H1 : ((spec_l1In.f a2 1 10).bind fun t198 => (spec_Suggest.j0 k a1 a2 t193 (!t198))) = some (r1, r2) := by rw [if_pos rfl] at H; exact H
    clear H
    have H := H1
    clear H1
    replace H := Option.bind_eq_some_iff.mp H
    obtain ⟨t198, A100, H⟩ := H
    replace H : (spec_Suggest.j0 k a1 a2 t193 (!t198)) = some (r1, r2) := H
    have A10 := Aside0.mk A100
    clear A100
    have H' := Aside0.mk H
    clear H
    go_wp2_with (first | (go_at_call 55; (with_reducible refine (spec_l13Begin.calls k a1 true _ A8.out).mono ?_); rintro e w' ⟨rfl, ⟨nd, rfl⟩⟩; (try first | exact ⟨rfl, _, World.drewN_drewN _ _ _⟩ | exact ⟨rfl, _, Eq.trans (World.drewN_drewN _ _ _) (congrArg (World.drewN _) (Nat.add_assoc _ _ _))⟩)) | (go_at_call 67; (with_reducible refine (spec_l1In.calls a2 1 10 t198 _ A10.out).mono ?_); rintro e w' ⟨rfl, ⟨nd, rfl⟩⟩; (try first | exact ⟨rfl, _, World.drewN_drewN _ _ _⟩ | exact ⟨rfl, _, Eq.trans (World.drewN_drewN _ _ _) (congrArg (World.drewN _) (Nat.add_assoc _ _ _))⟩)))
    repeat (go_quiet (first | (go_at_call 55; (with_reducible refine (spec_l13Begin.calls k a1 true _ A8.out).mono ?_); rintro e w' ⟨rfl, ⟨nd, rfl⟩⟩; (try first | exact ⟨rfl, _, World.drewN_drewN _ _ _⟩ | exact ⟨rfl, _, Eq.trans (World.drewN_drewN _ _ _) (congrArg (World.drewN _) (Nat.add_assoc _ _ _))⟩)) | (go_at_call 67; (with_reducible refine (spec_l1In.calls a2 1 10 t198 _ A10.out).mono ?_); rintro e w' ⟨rfl, ⟨nd, rfl⟩⟩; (try first | exact ⟨rfl, _, World.drewN_drewN _ _ _⟩ | exact ⟨rfl, _, Eq.trans (World.drewN_drewN _ _ _) (congrArg (World.drewN _) (Nat.add_assoc _ _ _))⟩))); try go_wp2_with (first | (go_at_call 55; (with_reducible refine (spec_l13Begin.calls k a1 true _ A8.out).mono ?_); rintro e w' ⟨rfl, ⟨nd, rfl⟩⟩; (try first | exact ⟨rfl, _, World.drewN_drewN _ _ _⟩ | exact ⟨rfl, _, Eq.trans (World.drewN_drewN _ _ _) (congrArg (World.drewN _) (Nat.add_assoc _ _ _))⟩)) | (go_at_call 67; (with_reducible refine (spec_l1In.calls a2 1 10 t198 _ A10.out).mono ?_); rintro e w' ⟨rfl, ⟨nd, rfl⟩⟩; (try first | exact ⟨rfl, _, World.drewN_drewN _ _ _⟩ | exact ⟨rfl, _, Eq.trans (World.drewN_drewN _ _ _) (congrArg (World.drewN _) (Nat.add_assoc _ _ _))⟩))))
    go_meet
    case rel => exact ⟨_, (!t198), sq_e, H', ⟨by first | omega | exact Nat.le_refl _⟩, ⟨by (with_reducible repeat (first | apply Kd.R_alloc | apply Kd.R_drewN | apply Kd.R_drew)); exact HO196.out⟩, ⟨sq_b⟩⟩
   ·replace c9 := Bool.eq_false_iff.mpr c9
    subst c9
    have H1 : (spec_Suggest.j0 k a1 a2 t193 true) = some (r1, r2) := by rw [if_neg (show ¬ (false = true) by decide)] at H; exact H
    clear H
    have H := H1
    clear H1
    have H' := Aside0.mk H
    clear H
    go_wp2_with (first | (go_at_call 55; (with_reducible refine (spec_l13Begin.calls k a1 false _ A8.out).mono ?_); rintro e w' ⟨rfl, ⟨nd, rfl⟩⟩; (try first | exact ⟨rfl, _, World.drewN_drewN _ _ _⟩ | exact ⟨rfl, _, Eq.trans (World.drewN_drewN _ _ _) (congrArg (World.drewN _) (Nat.add_assoc _ _ _))⟩)))
    repeat (go_quiet (first | (go_at_call 55; (with_reducible refine (spec_l13Begin.calls k a1 false _ A8.out).mono ?_); rintro e w' ⟨rfl, ⟨nd, rfl⟩⟩; (try first | exact ⟨rfl, _, World.drewN_drewN _ _ _⟩ | exact ⟨rfl, _, Eq.trans (World.drewN_drewN _ _ _) (congrArg (World.drewN _) (Nat.add_assoc _ _ _))⟩))); try go_wp2_with (first | (go_at_call 55; (with_reducible refine (spec_l13Begin.calls k a1 false _ A8.out).mono ?_); rintro e w' ⟨rfl, ⟨nd, rfl⟩⟩; (try first | exact ⟨rfl, _, World.drewN_drewN _ _ _⟩ | exact ⟨rfl, _, Eq.trans (World.drewN_drewN _ _ _) (congrArg (World.drewN _) (Nat.add_assoc _ _ _))⟩))))
    go_meet
    case rel => exact ⟨_, (true), sq_e, H', ⟨by first | omega | exact Nat.le_refl _⟩, ⟨by (with_reducible repeat (first | apply Kd.R_alloc | apply Kd.R_drewN | apply Kd.R_drew)); exact HO196.out⟩, ⟨sq_b⟩⟩
  ·replace c7 := Bool.eq_false_iff.mpr c7
   subst c7
   have H1 : (spec_Suggest.j0 k a1 a2 t193 true) = some (r1, r2) := by rw [if_neg (show ¬ (false = true) by decide)] at H; exact H
   clear H
   have H := H1
   clear H1
   have H' := Aside0.mk H
   clear H
   go_wp2
   repeat (go_quiet (fail); try go_wp2)
   go_meet
   case rel => exact ⟨_, (true), sq_e, H', ⟨by first | omega | exact Nat.le_refl _⟩, ⟨by (with_reducible repeat (first | apply Kd.R_alloc | apply Kd.R_drewN | apply Kd.R_drew)); exact HO196.out⟩, ⟨sq_b⟩⟩
 case rest =>
  clear HC5
  (try clear p2); (try clear c4); (try clear c7); (try clear c9)
  obtain ⟨kq, x31_4, rfl, HA, HJ4, HO_8, HB⟩ := hcut
  cases kq with
  | zero => exact absurd HA.out (by simp [spec_Suggest.j0])
  | succ kj4 =>
   have H := HA.out
   clear HA
   simp only [spec_Suggest.j0] at H
   by_cases c11 : x31_4 = true
   ·subst c11
    have H1 : (some (([] : List (S48)), false)) = some (r1, r2) := by rw [if_pos rfl] at H; exact H
    clear H
    have H := H1
    clear H1
    simp only [Option.some.injEq, Prod.mk.injEq] at H
    obtain ⟨rfl, rfl⟩ := H
    go_wp2
    repeat (go_quiet (fail); try go_wp2)
    go_ret2
    exact ⟨_, sq_w, by first | exact Kd.R_nil _ _ _ _ _ | exact Kd.N_nil _ _ _ _ _ | exact Kd.V_nil _ _ _ _ _ | exact Kd.Q_nil _ _ _ _ _ | exact Kd.S_nil _ _ _ _ _, sq_b⟩
   ·replace c11 := Bool.eq_false_iff.mpr c11
    subst c11
    have H1 : (spec_Suggest.l0 kj4 a1 a2 ([] : List (S48)) t193 (t193.length : Int) 0) = some (r1, r2) := by rw [if_neg (show ¬ (false = true) by decide)] at H; exact H
    clear H
    have H := H1
    clear H1
    have H' := Aside0.mk H
    clear H
    obtain ⟨Ao12, co12, eo12⟩ := Kd.R_slice HO_8.out
    subst eo12
    go_wp2
    repeat (go_quiet (fail); try go_wp2)
    go_loopg [10, 34] kj4 (fun kq v10 v34 w' => ∃ (x10_2 : List (S48)) (x34_2 : Int), v34 = .int .i64 x34_2 ∧ Aside0 (spec_Suggest.l0 kq a1 a2 x10_2 t193 (t193.length : Int) x34_2 = some (r1, r2)) ∧ Aside0 (kq ≤ kj4) ∧ Aside0 (Kd.R k48 48 w' w.heap.size (fun k_ => some k_ ≠ ((.slice Ao12 t193.length co12) : Value).ownBlock) v10 x10_2) ∧ Aside0 (Kd.R k48 48 w' w.heap.size (fun k_ => some k_ ≠ (v10 : Value).ownBlock) (.slice Ao12 t193.length co12) t193) ∧ Aside0 (Below w.heap.size w w'))
    case atStart => exact ⟨(([] : List (S48))), (0), sq_e, H', ⟨Nat.le_refl _⟩, ⟨by first | exact Kd.R_nil _ _ _ _ _ | exact Kd.N_nil _ _ _ _ _ | exact Kd.V_nil _ _ _ _ _ | exact Kd.Q_nil _ _ _ _ _ | exact Kd.S_nil _ _ _ _ _⟩, ⟨by (with_reducible repeat (first | apply Kd.R_alloc | apply Kd.R_drewN | apply Kd.R_drew)); exact Kd.R_mono HO_8.out (fun _ hk => (by simp [Value.ownBlock]))⟩, ⟨sq_b⟩⟩
    case round =>
     clear H'
     (try clear c1); (try clear p2); (try clear c4); (try clear c7); (try clear c9); (try clear c11); (try clear p2)
     obtain ⟨x10_2, x34_2, rfl, HA, HK2, HO_10, HO_32, HB⟩ := hrel
     cases gk with
     | zero => exact absurd HA.out (by simp [spec_Suggest.l0])
     | succ k2 =>
      have H := HA.out
      clear HA
      simp only [spec_Suggest.l0] at H
      by_cases c13 : x34_2 < (t193.length : Int)
      ·rw [if_pos c13] at H
       have c13b0 : decide (x34_2 < (t193.length : Int)) = true := decide_eq_true c13
       clear c13
       by_cases c14 : 0 ≤ x34_2
       rotate_left
       ·rw [if_neg c14] at H
        exact absurd H (by simp)
       rw [if_pos c14] at H
       have c14b0 : decide (0 ≤ x34_2) = true := decide_eq_true c14
       clear c14
       by_cases c15 : x34_2 < (t193.length : Int)
       rotate_left
       ·rw [if_neg c15] at H
        exact absurd H (by simp)
       rw [if_pos c15] at H
       have c15b0 : decide (x34_2 < (t193.length : Int)) = true := decide_eq_true c15
       clear c15
       have HC16 := Aside0.mk H
       clear H
       have p210 : 0 ≤ (x34_2 : Int) := sq_d
       have q210 : x34_2 < (t193.length : Int) := sq_d
       obtain ⟨ad210, e210, hx210_0, hx210_1⟩ := at_T48 (Kd.R_reads' HO_32.out).2.2 x34_2 p210 q210
       cases e210
       replace p210 := eq_true p210
       replace q210 := eq_true q210
       go_upto_region 8 with (first | ((with_reducible refine gate_dst (N := 12) rfl ?_); (try (refine gate_guard (by rfl) ?_; dsimp only)); refine box_event ?hg (N := 12) ?hd (cs := #[.string (⟨#[]⟩ : ByteArray), .int .i64 0]) (t := 48) ?hr ?_; (case hd => rfl); (case hg => rfl); (case hr => first | (go_simp; done) | (go_simp; rfl)); intro gb211 hg w17 hbox hb; have n0_ := Aside0.mk (Kd.R_below (Kd.R_elderB (sq_r HO_10) gb211 (Nat.le_of_eq hg.symm)) hb); have n1_ := Aside0.mk (Kd.R_below (Kd.R_elderB (sq_r HO_32) gb211 (Nat.le_of_eq hg.symm)) hb); have n2_ := Aside0.mk (below_step sq_b hb); have n3_ := Aside0.mk (hbox); have n4_ := Aside0.mk ((by rw [hg]; exact (below_size sq_b) : w.heap.size ≤ gb211)); have n5_ := Aside0.mk ((by rw [hg]; exact (below_size sq_b) : w.heap.size ≤ gb211)); clear HO_10; clear HO_32; clear HB; have HO_10 := n0_; have HO_32 := n1_; have HB := n2_; have BK211 := n3_; have GW211 := n4_; have GE211 := n5_; clear n0_ n1_ n2_ n3_ n4_ n5_; clear hb hbox hg; have hcz18_0 : w17.cell? ⟨gb211, 0, none⟩ = some (.string (⟨#[]⟩ : ByteArray)) := (blk_cell BK211.out 0).trans rfl; have hcz18_1 : w17.cell? ⟨gb211, 1, none⟩ = some (.int .i64 0) := (blk_cell BK211.out 1).trans rfl; have hfz18_0 := blk_frozen BK211.out 0; have hfz18_1 := blk_frozen BK211.out 1))
       repeat (go_quiet (first | ((with_reducible refine gate_dst (N := 12) rfl ?_); (try (refine gate_guard (by rfl) ?_; dsimp only)); refine box_event ?hg (N := 12) ?hd (cs := #[.string (⟨#[]⟩ : ByteArray), .int .i64 0]) (t := 48) ?hr ?_; (case hd => rfl); (case hg => rfl); (case hr => first | (go_simp; done) | (go_simp; rfl)); intro gb211 hg w17 hbox hb; have n0_ := Aside0.mk (Kd.R_below (Kd.R_elderB (sq_r HO_10) gb211 (Nat.le_of_eq hg.symm)) hb); have n1_ := Aside0.mk (Kd.R_below (Kd.R_elderB (sq_r HO_32) gb211 (Nat.le_of_eq hg.symm)) hb); have n2_ := Aside0.mk (below_step sq_b hb); have n3_ := Aside0.mk (hbox); have n4_ := Aside0.mk ((by rw [hg]; exact (below_size sq_b) : w.heap.size ≤ gb211)); have n5_ := Aside0.mk ((by rw [hg]; exact (below_size sq_b) : w.heap.size ≤ gb211)); clear HO_10; clear HO_32; clear HB; have HO_10 := n0_; have HO_32 := n1_; have HB := n2_; have BK211 := n3_; have GW211 := n4_; have GE211 := n5_; clear n0_ n1_ n2_ n3_ n4_ n5_; clear hb hbox hg; have hcz18_0 : w17.cell? ⟨gb211, 0, none⟩ = some (.string (⟨#[]⟩ : ByteArray)) := (blk_cell BK211.out 0).trans rfl; have hcz18_1 : w17.cell? ⟨gb211, 1, none⟩ = some (.int .i64 0) := (blk_cell BK211.out 1).trans rfl; have hfz18_0 := blk_frozen BK211.out 0; have hfz18_1 := blk_frozen BK211.out 1)); go_upto_region 8 with (first | ((with_reducible refine gate_dst (N := 12) rfl ?_); (try (refine gate_guard (by rfl) ?_; dsimp only)); refine box_event ?hg (N := 12) ?hd (cs := #[.string (⟨#[]⟩ : ByteArray), .int .i64 0]) (t := 48) ?hr ?_; (case hd => rfl); (case hg => rfl); (case hr => first | (go_simp; done) | (go_simp; rfl)); intro gb211 hg w17 hbox hb; have n0_ := Aside0.mk (Kd.R_below (Kd.R_elderB (sq_r HO_10) gb211 (Nat.le_of_eq hg.symm)) hb); have n1_ := Aside0.mk (Kd.R_below (Kd.R_elderB (sq_r HO_32) gb211 (Nat.le_of_eq hg.symm)) hb); have n2_ := Aside0.mk (below_step sq_b hb); have n3_ := Aside0.mk (hbox); have n4_ := Aside0.mk ((by rw [hg]; exact (below_size sq_b) : w.heap.size ≤ gb211)); have n5_ := Aside0.mk ((by rw [hg]; exact (below_size sq_b) : w.heap.size ≤ gb211)); clear HO_10; clear HO_32; clear HB; have HO_10 := n0_; have HO_32 := n1_; have HB := n2_; have BK211 := n3_; have GW211 := n4_; have GE211 := n5_; clear n0_ n1_ n2_ n3_ n4_ n5_; clear hb hbox hg; have hcz18_0 : w17.cell? ⟨gb211, 0, none⟩ = some (.string (⟨#[]⟩ : ByteArray)) := (blk_cell BK211.out 0).trans rfl; have hcz18_1 : w17.cell? ⟨gb211, 1, none⟩ = some (.int .i64 0) := (blk_cell BK211.out 1).trans rfl; have hfz18_0 := blk_frozen BK211.out 0; have hfz18_1 := blk_frozen BK211.out 1)))
       (try simp only [Act.put, List.setIfInBounds_toArray, List.set_cons_zero, List.set_cons_succ])
       go_cut [52] (fun v52 wc => ∃ (kq : Nat) (x52_15 : Bool), v52 = .bool x52_15 ∧ Aside0 (spec_Suggest.j2 kq a1 a2 x10_2 t193 (t193.length : Int) x34_2 x52_15 ((rd_T48 t193 x34_2).f0) ((rd_T48 t193 x34_2).f1) = some (r1, r2)) ∧ Aside0 (kq ≤ k2) ∧ Aside0 (Kd.R k48 48 wc w.heap.size (fun k_ => some k_ ≠ ((.slice (some ad210) t193.length co12) : Value).ownBlock ∧ k_ ≠ gb211) u10 x10_2) ∧ Aside0 (Kd.R k48 48 wc w.heap.size (fun k_ => some k_ ≠ (u10 : Value).ownBlock ∧ k_ ≠ gb211) (.slice (some ad210) t193.length co12) t193) ∧ Aside0 (wc.heap[gb211]? = some (.cells #[.string ((rd_T48 t193 x34_2).f0), .int .i64 ((rd_T48 t193 x34_2).f1)] 48 (0, 0))) ∧ Aside0 (Below w.heap.size w wc))
       case first =>
        have H := HC16.out
        clear HC16
        by_cases c19 : (((rd_T48 t193 x34_2).f0).size : Int) < (a1.size : Int)
        ·rw [if_pos c19] at H
         have c19b0 : decide ((((rd_T48 t193 x34_2).f0).size : Int) < (a1.size : Int)) = true := decide_eq_true c19
         have c19b1 : decide (((rd_T48 t193 x34_2).f0).size < a1.size) = true := decide_eq_true (Int.ofNat_lt.mp c19)
         clear c19
         (first | rw [c19b0] | (simp only [i64_w, i32_w]; rw [c19b0]) | skip)
         have H' := Aside0.mk H
         clear H
         have hcz20_0 : w17.cell? ⟨gb211, 0, none⟩ = some (.string (⟨#[]⟩ : ByteArray)) := (blk_cell BK211.out 0).trans rfl
         have hcz20_1 : w17.cell? ⟨gb211, 1, none⟩ = some (.int .i64 0) := (blk_cell BK211.out 1).trans rfl
         have hfz20_0 := blk_frozen BK211.out 0
         have hfz20_1 := blk_frozen BK211.out 1
         go_wp2
         repeat (go_quiet (fail); try go_wp2)
         go_meet
         case rel => exact ⟨_, (true), sq_e, H', ⟨by have := HJ4.out; have := HK2.out; first | omega | exact Nat.le_refl _⟩, ⟨by (with_reducible repeat (first | apply Kd.R_alloc | apply Kd.R_drewN | apply Kd.R_drew)); exact Kd.R_mono (Kd.R_far (p := ⟨gb211, 1, none⟩) (Kd.R_far (p := ⟨gb211, 0, none⟩) (Kd.R_mono HO_10.out (fun k_ hk => (⟨hk, hk.2⟩ : _ ∧ k_ ≠ gb211))) (fun _ hk => hk.2) (.string ((rd_T48 t193 x34_2).f0))) (fun _ hk => hk.2) (.int .i64 ((rd_T48 t193 x34_2).f1))) (fun _ hk => ⟨hk.1.1, hk.1.2⟩)⟩, ⟨by (with_reducible repeat (first | apply Kd.R_alloc | apply Kd.R_drewN | apply Kd.R_drew)); exact Kd.R_mono (Kd.R_far (p := ⟨gb211, 1, none⟩) (Kd.R_far (p := ⟨gb211, 0, none⟩) (Kd.R_mono HO_32.out (fun k_ hk => (⟨hk, hk.2⟩ : _ ∧ k_ ≠ gb211))) (fun _ hk => hk.2) (.string ((rd_T48 t193 x34_2).f0))) (fun _ hk => hk.2) (.int .i64 ((rd_T48 t193 x34_2).f1))) (fun _ hk => ⟨hk.1.1, hk.1.2⟩)⟩, ⟨by (with_reducible repeat (first | refine blk_drewN ?_ _ | refine blk_drew ?_ | refine blk_alloc ?_ _)); refine blk_put (cs := #[.string ((rd_T48 t193 x34_2).f0), .int .i64 0]) ?_ 1 _ rfl; (with_reducible repeat (first | refine blk_drewN ?_ _ | refine blk_drew ?_ | refine blk_alloc ?_ _)); refine blk_put (cs := #[.string (⟨#[]⟩ : ByteArray), .int .i64 0]) ?_ 0 _ rfl; (with_reducible repeat (first | refine blk_drewN ?_ _ | refine blk_drew ?_ | refine blk_alloc ?_ _)); exact BK211.out⟩, ⟨by repeat (first | (with_reducible first | exact HB.out | apply below_alloc | apply pw_below_drewN | apply below_drew1 | refine below_set ?_ GE211.out) | exact HB.out)⟩⟩
        ·rw [if_neg c19] at H
         have c19b0 : decide ((((rd_T48 t193 x34_2).f0).size : Int) < (a1.size : Int)) = false := decide_eq_false c19
         have c19b1 : decide (((rd_T48 t193 x34_2).f0).size < a1.size) = false := decide_eq_false (fun h => c19 (Int.ofNat_lt.mpr h))
         clear c19
         (first | rw [c19b0] | (simp only [i64_w, i32_w]; rw [c19b0]) | skip)
         by_cases c21 : 0 ≤ (a1.size : Int)
         rotate_left
         ·rw [if_neg c21] at H
          exact absurd H (by simp)
         rw [if_pos c21] at H
         have c21b0 := eq_true c21
         have c21b1 : decide (0 ≤ (a1.size : Int)) = true := decide_eq_true c21
         clear c21
         by_cases c22 : (a1.size : Int) ≤ (((rd_T48 t193 x34_2).f0).size : Int)
         rotate_left
         ·rw [if_neg c22] at H
          exact absurd H (by simp)
         rw [if_pos c22] at H
         have c22b0 := eq_true c22
         have c22b1 : decide ((a1.size : Int) ≤ (((rd_T48 t193 x34_2).f0).size : Int)) = true := decide_eq_true c22
         clear c22
         have H' := Aside0.mk H
         clear H
         have hcz23_0 : w17.cell? ⟨gb211, 0, none⟩ = some (.string (⟨#[]⟩ : ByteArray)) := (blk_cell BK211.out 0).trans rfl
         have hcz23_1 : w17.cell? ⟨gb211, 1, none⟩ = some (.int .i64 0) := (blk_cell BK211.out 1).trans rfl
         have hfz23_0 := blk_frozen BK211.out 0
         have hfz23_1 := blk_frozen BK211.out 1
         go_wp2
         repeat (go_quiet (fail); try go_wp2)
         go_meet
         case rel => exact ⟨_, (((((rd_T48 t193 x34_2).f0).extract 0 ((a1.size : Int) : Int).toNat).toList != a1.toList)), sq_e, H', ⟨by have := HJ4.out; have := HK2.out; first | omega | exact Nat.le_refl _⟩, ⟨by (with_reducible repeat (first | apply Kd.R_alloc | apply Kd.R_drewN | apply Kd.R_drew)); exact Kd.R_mono (Kd.R_far (p := ⟨gb211, 1, none⟩) (Kd.R_far (p := ⟨gb211, 0, none⟩) (Kd.R_mono HO_10.out (fun k_ hk => (⟨hk, hk.2⟩ : _ ∧ k_ ≠ gb211))) (fun _ hk => hk.2) (.string ((rd_T48 t193 x34_2).f0))) (fun _ hk => hk.2) (.int .i64 ((rd_T48 t193 x34_2).f1))) (fun _ hk => ⟨hk.1.1, hk.1.2⟩)⟩, ⟨by (with_reducible repeat (first | apply Kd.R_alloc | apply Kd.R_drewN | apply Kd.R_drew)); exact Kd.R_mono (Kd.R_far (p := ⟨gb211, 1, none⟩) (Kd.R_far (p := ⟨gb211, 0, none⟩) (Kd.R_mono HO_32.out (fun k_ hk => (⟨hk, hk.2⟩ : _ ∧ k_ ≠ gb211))) (fun _ hk => hk.2) (.string ((rd_T48 t193 x34_2).f0))) (fun _ hk => hk.2) (.int .i64 ((rd_T48 t193 x34_2).f1))) (fun _ hk => ⟨hk.1.1, hk.1.2⟩)⟩, ⟨by (with_reducible repeat (first | refine blk_drewN ?_ _ | refine blk_drew ?_ | refine blk_alloc ?_ _)); refine blk_put (cs := #[.string ((rd_T48 t193 x34_2).f0), .int .i64 0]) ?_ 1 _ rfl; (with_reducible repeat (first | refine blk_drewN ?_ _ | refine blk_drew ?_ | refine blk_alloc ?_ _)); refine blk_put (cs := #[.string (⟨#[]⟩ : ByteArray), .int .i64 0]) ?_ 0 _ rfl; (with_reducible repeat (first | refine blk_drewN ?_ _ | refine blk_drew ?_ | refine blk_alloc ?_ _)); exact BK211.out⟩, ⟨by repeat (first | (with_reducible first | exact HB.out | apply below_alloc | apply pw_below_drewN | apply below_drew1 | refine below_set ?_ GE211.out) | exact HB.out)⟩⟩
       case rest =>
        clear HC16
        (try clear c1); (try clear c2); (try clear p2); (try clear q2); (try clear hx2); (try clear c4); (try clear c7); (try clear c9); (try clear c11); (try clear c13); (try clear c13b0); (try clear c14); (try clear c14b0); (try clear c15); (try clear c15b0); (try clear c19); (try clear c19b0); (try clear c19b1); (try clear c21); (try clear c21b0); (try clear c21b1); (try clear p21); (try clear q21)
        (try clear hx21); (try clear c22); (try clear c22b0); (try clear c22b1); (try clear hcz18_0); (try clear hcz18_1); (try clear hcz20_0); (try clear hcz20_1); (try clear hcz23_0); (try clear hcz23_1); (try clear hfz18_0); (try clear hfz18_1); (try clear hfz20_0); (try clear hfz20_1); (try clear hfz23_0); (try clear hfz23_1); (try clear hx210_0); (try clear hx210_1); (try clear p2); (try clear p210)
        try clear q210
        obtain ⟨kq, x52_15, rfl, HA, HJ15, HO_10, HO_32, BK211, HB⟩ := hcut
        cases kq with
        | zero => exact absurd HA.out (by simp [spec_Suggest.j2])
        | succ kj15 =>
         have H := HA.out
         clear HA
         simp only [spec_Suggest.j2] at H
         by_cases c24 : x52_15 = true
         ·subst c24
          have H1 : (spec_Suggest.l0 kj15 a1 a2 x10_2 t193 (t193.length : Int) (wrap64 (x34_2 + 1))) = some (r1, r2) := by rw [if_pos rfl] at H; exact H
          clear H
          have H := H1
          clear H1
          have H' := Aside0.mk H
          clear H
          go_wp2
          repeat (go_quiet (fail); try go_wp2)
          go_roundg kj15
          case measure => have := HJ4.out; have := HK2.out; have := HJ15.out; omega
          case rel => exact ⟨(x10_2), (wrap64 (x34_2 + 1)), sq_e, H', ⟨by have := HJ4.out; have := HK2.out; have := HJ15.out; omega⟩, ⟨by (with_reducible repeat (first | apply Kd.R_alloc | apply Kd.R_drewN | apply Kd.R_drew)); exact Kd.R_mono HO_10.out (fun _ hk => hk.1)⟩, ⟨by (with_reducible repeat (first | apply Kd.R_alloc | apply Kd.R_drewN | apply Kd.R_drew)); exact Kd.R_mono HO_32.out (fun _ hk => hk.1)⟩, ⟨by repeat (first | (with_reducible first | exact HB.out | apply below_alloc | apply pw_below_drewN | apply below_drew1 | refine below_set ?_ GE211.out) | exact HB.out)⟩⟩
         ·replace c24 := Bool.eq_false_iff.mpr c24
          subst c24
          have H1 : (spec_Suggest.l1 kj15 a1 a2 x10_2 0 t193 (t193.length : Int) x34_2 ((rd_T48 t193 x34_2).f0) ((rd_T48 t193 x34_2).f1)) = some (r1, r2) := by rw [if_neg (show ¬ (false = true) by decide)] at H; exact H
          clear H
          have H := H1
          clear H1
          have H' := Aside0.mk H
          clear H
          go_wp2
          repeat (go_quiet (fail); try go_wp2)
          go_loopg [13] kj15 (fun kq v13 w' => ∃ (x13_4 : Int), v13 = .int .i64 x13_4 ∧ Aside0 (spec_Suggest.l1 kq a1 a2 x10_2 x13_4 t193 (t193.length : Int) x34_2 ((rd_T48 t193 x34_2).f0) ((rd_T48 t193 x34_2).f1) = some (r1, r2)) ∧ Aside0 (kq ≤ kj15) ∧ Aside0 (Kd.R k48 48 w' w.heap.size (fun k_ => some k_ ≠ ((.slice (some ad210) t193.length co12) : Value).ownBlock ∧ k_ ≠ gb211) u10 x10_2) ∧ Aside0 (Kd.R k48 48 w' w.heap.size (fun k_ => some k_ ≠ (u10 : Value).ownBlock ∧ k_ ≠ gb211) (.slice (some ad210) t193.length co12) t193) ∧ Aside0 (w'.heap[gb211]? = some (.cells #[.string ((rd_T48 t193 x34_2).f0), .int .i64 ((rd_T48 t193 x34_2).f1)] 48 (0, 0))) ∧ Aside0 (Below w.heap.size w w'))
          case atStart => exact ⟨(0), sq_e, H', ⟨Nat.le_refl _⟩, ⟨by (with_reducible repeat (first | apply Kd.R_alloc | apply Kd.R_drewN | apply Kd.R_drew)); exact HO_10.out⟩, ⟨by (with_reducible repeat (first | apply Kd.R_alloc | apply Kd.R_drewN | apply Kd.R_drew)); exact HO_32.out⟩, ⟨by (with_reducible repeat (first | refine blk_drewN ?_ _ | refine blk_drew ?_ | refine blk_alloc ?_ _)); exact BK211.out⟩, ⟨by repeat (first | (with_reducible first | exact HB.out | apply below_alloc | apply pw_below_drewN | apply below_drew1 | refine below_set ?_ GE211.out) | exact HB.out)⟩⟩
          case round =>
           clear H'
           (try clear c1); (try clear c2); (try clear p2); (try clear q2); (try clear hx2); (try clear c4); (try clear p6); (try clear c7); (try clear c9); (try clear c11); (try clear c13); (try clear c13b0); (try clear c14); (try clear c14b0); (try clear c15); (try clear c15b0); (try clear c19); (try clear c19b0); (try clear c19b1); (try clear c21); (try clear c21b0); (try clear c21b1); (try clear p21)
           (try clear q21); (try clear hx21); (try clear c22); (try clear c22b0); (try clear c22b1); (try clear c24); (try clear hcz18_0); (try clear hcz18_1); (try clear hcz20_0); (try clear hcz20_1); (try clear hcz23_0); (try clear hcz23_1); (try clear hfz18_0); (try clear hfz18_1); (try clear hfz20_0); (try clear hfz20_1); (try clear hfz23_0); (try clear hfz23_1); (try clear hx210_0); (try clear hx210_1)
           (try clear p2); (try clear p21); (try clear p210); (try clear q2); (try clear q21); (try clear q210)
           obtain ⟨x13_4, rfl, HA, HK4, HO_10, HO_32, BK211, HB⟩ := hrel
           cases gk with
           | zero => exact absurd HA.out (by simp [spec_Suggest.l1])
           | succ k4 =>
            have H := HA.out
            clear HA
            simp only [spec_Suggest.l1] at H
            by_cases c25 : x13_4 < (x10_2.length : Int)
            ·rw [if_pos c25] at H
             have c25b0 : decide (x13_4 < (x10_2.length : Int)) = true := decide_eq_true c25
             clear c25
             by_cases c26 : 0 ≤ x13_4
             rotate_left
             ·rw [if_neg c26] at H
              exact absurd H (by simp)
             rw [if_pos c26] at H
             have c26b0 : decide (0 ≤ x13_4) = true := decide_eq_true c26
             clear c26
             by_cases c27 : ((rd_T48 x10_2 x13_4).f1) ≥ ((rd_T48 t193 x34_2).f1)
             ·rw [if_pos c27] at H
              have c27b0 : decide (((rd_T48 t193 x34_2).f1) ≤ ((rd_T48 x10_2 x13_4).f1)) = true := decide_eq_true c27
              clear c27
              have H' := Aside0.mk H
              clear H
              obtain ⟨Ao28, co28, eo28⟩ := Kd.R_slice HO_10.out
              subst eo28
              have p212 : 0 ≤ (x13_4 : Int) := sq_d
              have q212 : x13_4 < (x10_2.length : Int) := sq_d
              (try (obtain ⟨Aq212, cq212, eq212⟩ := Kd.R_slice HO_10.out; subst eq212))
              obtain ⟨ad212, e212, hx212_0, hx212_1⟩ := at_T48 (Kd.R_reads' HO_10.out).2.2 x13_4 p212 q212
              cases e212
              replace p212 := eq_true p212
              replace q212 := eq_true q212
              have hcz29_0 : wr.cell? ⟨gb211, 0, none⟩ = some (.string ((rd_T48 t193 x34_2).f0)) := (blk_cell BK211.out 0).trans rfl
              have hcz29_1 : wr.cell? ⟨gb211, 1, none⟩ = some (.int .i64 ((rd_T48 t193 x34_2).f1)) := (blk_cell BK211.out 1).trans rfl
              have hfz29_0 := blk_frozen BK211.out 0
              have hfz29_1 := blk_frozen BK211.out 1
              go_wp2
              repeat (go_quiet (fail); try go_wp2)
              go_roundg k4
              case measure => have := HJ4.out; have := HK2.out; have := HJ15.out; have := HK4.out; omega
              case rel => exact ⟨(wrap64 (x13_4 + 1)), sq_e, H', ⟨by have := HJ4.out; have := HK2.out; have := HJ15.out; have := HK4.out; omega⟩, ⟨by (with_reducible repeat (first | apply Kd.R_alloc | apply Kd.R_drewN | apply Kd.R_drew)); exact HO_10.out⟩, ⟨by (with_reducible repeat (first | apply Kd.R_alloc | apply Kd.R_drewN | apply Kd.R_drew)); exact HO_32.out⟩, ⟨by (with_reducible repeat (first | refine blk_drewN ?_ _ | refine blk_drew ?_ | refine blk_alloc ?_ _)); exact BK211.out⟩, ⟨by repeat (first | (with_reducible first | exact HB.out | apply below_alloc | apply pw_below_drewN | apply below_drew1 | refine below_set ?_ GE211.out) | exact HB.out)⟩⟩
             ·rw [if_neg c27] at H
              have c27b0 : decide (((rd_T48 t193 x34_2).f1) ≤ ((rd_T48 x10_2 x13_4).f1)) = false := decide_eq_false c27
              clear c27
              obtain ⟨y213, hy213⟩ : ∃ y_ : List (S48), y_ = (([] : List (S48))) := ⟨_, rfl⟩
              replace H : (if x13_4 ≤ (x10_2.length : Int) then ((some (x10_2.take (x13_4 : Int).toNat : List (S48))).bind fun y216 => (if y213.length + y216.length < 5864062014805 then ((some (y213 ++ y216 : List (S48))).bind fun y220 => (if y220.length < 5864062014805 then ((some (y220 ++ [(⟨((rd_T48 t193 x34_2).f0), ((rd_T48 t193 x34_2).f1)⟩ : S48)] : List (S48))).bind fun y223 => ((some (x10_2.drop (x13_4 : Int).toNat : List (S48))).bind fun y226 => (if y223.length + y226.length < 5864062014805 then (spec_Suggest.l0 k4 a1 a2 (y223 ++ y226) t193 (t193.length : Int) (wrap64 (x34_2 + 1))) else (none)))) else (none))) else (none))) else (none)) = some (r1, r2) := by first | (rw [hy213]; with_reducible exact H) | (have H2_ := (Option.bind_some _ _).symm.trans H; rw [hy213]; with_reducible exact H2_) | (have H2_ := (Option.bind_some _ _).symm.trans H; with_reducible exact H2_) | with_reducible exact H | (rw [hy213]; exact H) | exact H
              have Ny213 := Aside0.mk hy213
              clear hy213
              have c30b0 := eq_true (sq_d : 0 ≤ x13_4)
              by_cases c31 : x13_4 ≤ (x10_2.length : Int)
              rotate_left
              ·rw [if_neg c31] at H
               exact absurd H (by simp)
              rw [if_pos c31] at H
              have c31b0 := eq_true c31
              have c31b1 : decide (x13_4 ≤ (x10_2.length : Int)) = true := decide_eq_true c31
              clear c31
              obtain ⟨y216, hy216⟩ : ∃ y_ : List (S48), y_ = (x10_2.take (x13_4 : Int).toNat) := ⟨_, rfl⟩
              replace H : (if y213.length + y216.length < 5864062014805 then ((some (y213 ++ y216 : List (S48))).bind fun y220 => (if y220.length < 5864062014805 then ((some (y220 ++ [(⟨((rd_T48 t193 x34_2).f0), ((rd_T48 t193 x34_2).f1)⟩ : S48)] : List (S48))).bind fun y223 => ((some (x10_2.drop (x13_4 : Int).toNat : List (S48))).bind fun y226 => (if y223.length + y226.length < 5864062014805 then (spec_Suggest.l0 k4 a1 a2 (y223 ++ y226) t193 (t193.length : Int) (wrap64 (x34_2 + 1))) else (none)))) else (none))) else (none)) = some (r1, r2) := by first | (rw [hy216]; with_reducible exact H) | (have H2_ := (Option.bind_some _ _).symm.trans H; rw [hy216]; with_reducible exact H2_) | (have H2_ := (Option.bind_some _ _).symm.trans H; with_reducible exact H2_) | with_reducible exact H | (rw [hy216]; exact H) | exact H
              have Ny216 := Aside0.mk hy216
              clear hy216
              by_cases c32 : y213.length + y216.length < 5864062014805
              rotate_left
              ·rw [if_neg c32] at H
               exact absurd H (by simp)
              rw [if_pos c32] at H
              have LMc32 := Aside0.mk c32
              clear c32
              obtain ⟨y220, hy220⟩ : ∃ y_ : List (S48), y_ = (y213 ++ y216) := ⟨_, rfl⟩
              replace H : (if y220.length < 5864062014805 then ((some (y220 ++ [(⟨((rd_T48 t193 x34_2).f0), ((rd_T48 t193 x34_2).f1)⟩ : S48)] : List (S48))).bind fun y223 => ((some (x10_2.drop (x13_4 : Int).toNat : List (S48))).bind fun y226 => (if y223.length + y226.length < 5864062014805 then (spec_Suggest.l0 k4 a1 a2 (y223 ++ y226) t193 (t193.length : Int) (wrap64 (x34_2 + 1))) else (none)))) else (none)) = some (r1, r2) := by first | (rw [hy220]; with_reducible exact H) | (have H2_ := (Option.bind_some _ _).symm.trans H; rw [hy220]; with_reducible exact H2_) | (have H2_ := (Option.bind_some _ _).symm.trans H; with_reducible exact H2_) | with_reducible exact H | (rw [hy220]; exact H) | exact H
              have Ny220 := Aside0.mk hy220
              clear hy220
              by_cases c33 : y220.length < 5864062014805
              rotate_left
              ·rw [if_neg c33] at H
               exact absurd H (by simp)
              rw [if_pos c33] at H
              have LMc33 := Aside0.mk c33
              clear c33
              obtain ⟨y223, hy223⟩ : ∃ y_ : List (S48), y_ = (y220 ++ [(⟨((rd_T48 t193 x34_2).f0), ((rd_T48 t193 x34_2).f1)⟩ : S48)]) := ⟨_, rfl⟩
              replace H : ((some (x10_2.drop (x13_4 : Int).toNat : List (S48))).bind fun y226 => (if y223.length + y226.length < 5864062014805 then (spec_Suggest.l0 k4 a1 a2 (y223 ++ y226) t193 (t193.length : Int) (wrap64 (x34_2 + 1))) else (none))) = some (r1, r2) := by first | (rw [hy223]; with_reducible exact H) | (have H2_ := (Option.bind_some _ _).symm.trans H; rw [hy223]; with_reducible exact H2_) | (have H2_ := (Option.bind_some _ _).symm.trans H; with_reducible exact H2_) | with_reducible exact H | (rw [hy223]; exact H) | exact H
              have Ny223 := Aside0.mk hy223
              clear hy223
              have c34b0 := eq_true (sq_d : 0 ≤ x13_4)
              have c35b0 := eq_true (sq_d : x13_4 ≤ (x10_2.length : Int))
              obtain ⟨y226, hy226⟩ : ∃ y_ : List (S48), y_ = (x10_2.drop (x13_4 : Int).toNat) := ⟨_, rfl⟩
              replace H : (if y223.length + y226.length < 5864062014805 then (spec_Suggest.l0 k4 a1 a2 (y223 ++ y226) t193 (t193.length : Int) (wrap64 (x34_2 + 1))) else (none)) = some (r1, r2) := by first | (rw [hy226]; with_reducible exact H) | (have H2_ := (Option.bind_some _ _).symm.trans H; rw [hy226]; with_reducible exact H2_) | (have H2_ := (Option.bind_some _ _).symm.trans H; with_reducible exact H2_) | with_reducible exact H | (rw [hy226]; exact H) | exact H
              have Ny226 := Aside0.mk hy226
              clear hy226
              by_cases c36 : y223.length + y226.length < 5864062014805
              rotate_left
              ·rw [if_neg c36] at H
               exact absurd H (by simp)
              rw [if_pos c36] at H
              have LMc36 := Aside0.mk c36
              clear c36
              obtain ⟨y230, hy230⟩ : ∃ y_ : List (S48), y_ = (y223 ++ y226) := ⟨_, rfl⟩
              replace H : (spec_Suggest.l0 k4 a1 a2 y230 t193 (t193.length : Int) (wrap64 (x34_2 + 1))) = some (r1, r2) := by first | (rw [hy230]; with_reducible exact H) | (have H2_ := (Option.bind_some _ _).symm.trans H; rw [hy230]; with_reducible exact H2_) | (have H2_ := (Option.bind_some _ _).symm.trans H; with_reducible exact H2_) | with_reducible exact H | (rw [hy230]; exact H) | exact H
              have Ny230 := Aside0.mk hy230
              clear hy230
              have H' := Aside0.mk H
              clear H
              obtain ⟨Ao37, co37, eo37⟩ := Kd.R_slice HO_10.out
              subst eo37
              have p212 : 0 ≤ (x13_4 : Int) := sq_d
              have q212 : x13_4 < (x10_2.length : Int) := sq_d
              (try (obtain ⟨Aq212, cq212, eq212⟩ := Kd.R_slice HO_10.out; subst eq212))
              obtain ⟨ad212, e212, hx212_0, hx212_1⟩ := at_T48 (Kd.R_reads' HO_10.out).2.2 x13_4 p212 q212
              cases e212
              replace p212 := eq_true p212
              replace q212 := eq_true q212
              have hcz38_0 : wr.cell? ⟨gb211, 0, none⟩ = some (.string ((rd_T48 t193 x34_2).f0)) := (blk_cell BK211.out 0).trans rfl
              have hcz38_1 : wr.cell? ⟨gb211, 1, none⟩ = some (.int .i64 ((rd_T48 t193 x34_2).f1)) := (blk_cell BK211.out 1).trans rfl
              have hfz38_0 := blk_frozen BK211.out 0
              have hfz38_1 := blk_frozen BK211.out 1
              go_wp2_with (first | ((with_reducible refine gate_dst (N := 69) rfl ?_); (try (refine gate_guard (by rfl) ?_; dsimp only)); refine Kd.R_lit k48 _ 48 ?hg (N := 69) ?hd (xs := ([] : List (S48))) (inner := []) (ok := fun _ => True) (okp := fun _ => True) ?hr ?hp (fun _ hk => hk) trivial (Below.refl _ _) (Nat.le_refl _) (by simp) ?_; (case hd => rfl); (case hg => rfl); (case hr => first | (go_simp; done) | (go_simp; rfl)); (case hp => exact (Reps.none _ _)); intro v214 w39 ho40 hb hg_ hnew_; clear hg_ hnew_; (first | rw [← Ny213.out] at ho40 | (simp only [Int.reduceToNat] at ho40; rw [← Ny213.out] at ho40)); have n0_ := Aside0.mk (Kd.R_elder' (sq_r HO_10) (Kd.R_base ho40) hb); have n1_ := Aside0.mk (Kd.R_elder' (sq_r HO_32) (Kd.R_base ho40) hb); have n2_ := Aside0.mk (Kd.R_lower (Kd.R_newB (Kd.R_new' (Kd.R_new' ho40 (Kd.R_lt (sq_r HO_10))) (Kd.R_lt (sq_r HO_32))) (g := gb211) (o := .cells #[.string ((rd_T48 t193 x34_2).f0), .int .i64 ((rd_T48 t193 x34_2).f1)] 48 (0, 0)) (sq_l BK211)) (below_size (by repeat (first | (with_reducible first | exact HB.out | apply below_alloc | apply pw_below_drewN | apply below_drew1 | refine below_set ?_ GE211.out) | exact HB.out)))); have n3_ := Aside0.mk (blk_below (g := gb211) (o := .cells #[.string ((rd_T48 t193 x34_2).f0), .int .i64 ((rd_T48 t193 x34_2).f1)] 48 (0, 0)) (sq_l BK211) hb); have n4_ := Aside0.mk (below_step (by repeat (first | (with_reducible first | exact HB.out | apply below_alloc | apply pw_below_drewN | apply below_drew1 | refine below_set ?_ GE211.out) | exact HB.out)) hb); clear HO_10; clear HO_32; clear BK211; clear HB; have HO_10 := n0_; have HO_32 := n1_; have HO215 := n2_; have BK211 := n3_; have HB := n4_; clear n0_ n1_ n2_ n3_ n4_; clear hb ho40; have q41 : (x13_4 : Int) ≤ ((x10_2.length : Int) : Int) := sq_d; obtain ⟨i041, hi041, _, hsz41, _⟩ := info_parts info48; have hroom41 : x10_2.length ≤ co37 := (Kd.R_reads' HO_10.out).2.1; have hC41 : Kd.C k48 _ (some ad212) x10_2.length x10_2 := (Kd.R_reads' HO_10.out).2.2; have hcut41 := cut_to (P := Try.prog) 27 48 .i64 Try.underlying27 hi041 (some ad212) x10_2.length co37 x13_4 (sq_d) q41 hroom41; have hr41 := Kd.C_take (m := (x13_4 : Int).toNat) hC41 (by omega); have hy41 : y216.length = (x13_4 : Int).toNat := (by rw [Ny216.out, List.length_take]; omega); rw [← Ny216.out] at hr41; rw [← hy41] at hcut41; have HR219 := Aside0.mk hr41; have HC219 := Aside0.mk (show y216.length ≤ co37 from by omega); clear hr41 hC41 hroom41 hi041 hsz41; have KY41 := Aside0.mk hy41; clear hy41; have KL41 := Aside0.mk (show (x13_4 : Int).toNat ≤ x10_2.length from by omega); replace q41 := eq_true q41) | ((with_reducible refine gate_builtin (b := .append) (xs := #[.tmp 69, .tmp 72]) rfl ?_); (try (refine gate_guard (by rfl) ?_; dsimp only)); at_builtin; refine Kd.R_append_rows k48 (w0 := w) w.heap.size rfl (.tmp 69) (.tmp 72) 27 48 (.agg #[(.string ⟨#[]⟩), (.int .i64 0)]) 24 rfl Try.underlying27 info48 rfl (by decide) (by omega) v214 y213 y216 _ _ _ (fun k_ => some k_ ≠ (.slice (some ad212) x10_2.length co37 : Value).ownBlock ∧ some k_ ≠ (.slice (some ad210) t193.length co12 : Value).ownBlock ∧ k_ ≠ gb211) (fun _ => False) rfl rfl ?aO ?aR (fun _ _ h => h) (fun _ h => h.elim) ?aF ?aB ?aS ?aL ?_; (case aR => repeat (first | exact (by repeat (first | (with_reducible exact HR219.out) | (with_reducible refine Kd.C_alloc ?_ _) | (with_reducible refine Kd.C_drewN ?_ _) | (with_reducible refine Kd.C_drew ?_) | exact HR219.out)) | (with_reducible refine Kd.C_alloc ?_ _) | (with_reducible refine Kd.C_drewN ?_ _) | (with_reducible refine Kd.C_drew ?_))); (case aB => exact (by repeat (first | (with_reducible first | exact HB.out | apply below_alloc | apply pw_below_drewN | apply below_drew1 | refine below_set ?_ GE211.out) | exact HB.out))); (case aF => exact (fun k_ hk => ⟨Kd.fresh' (Kd.R_lt (sq_r HO_10)) k_ hk, Kd.fresh' (Kd.R_lt (sq_r HO_32)) k_ hk, Kd.freshB (g := gb211) (o := .cells #[.string ((rd_T48 t193 x34_2).f0), .int .i64 ((rd_T48 t193 x34_2).f1)] 48 (0, 0)) (sq_l BK211) k_ hk⟩)); (case aO => exact (by (with_reducible repeat (first | apply Kd.R_alloc | apply Kd.R_drewN | apply Kd.R_drew)); exact Kd.R_mono HO215.out (fun _ hk => ⟨hk.1.1.2, ⟨hk.1.2, hk.2⟩⟩))); (case aS => exact (below_size (by repeat (first | (with_reducible first | exact HB.out | apply below_alloc | apply pw_below_drewN | apply below_drew1 | refine below_set ?_ GE211.out) | exact HB.out)))); (case aL => have := LMc32.out; omega); intro v221 w42 ho hb hg hat; rw [← Ny220.out] at ho; have n0_ := Aside0.mk (Kd.R_after (ok := (fun k_ => some k_ ≠ (.slice (some ad210) t193.length co12 : Value).ownBlock ∧ k_ ≠ gb211)) (sq_r HO_10) hg hat); have n1_ := Aside0.mk (Kd.R_after (ok := (fun k_ => some k_ ≠ (.slice (some ad212) x10_2.length co37 : Value).ownBlock ∧ k_ ≠ gb211)) (sq_r HO_32) hg hat); have n2_ := Aside0.mk (blk_grown (g := gb211) (o := .cells #[.string ((rd_T48 t193 x34_2).f0), .int .i64 ((rd_T48 t193 x34_2).f1)] 48 (0, 0)) (sq_l BK211) hg (Kd.R_away HO215.out (fun _ hk => hk.2))); have n3_ := Aside0.mk (hb); have n4_ := Aside0.mk ((show Kd.C k48 w42 (some ad212) y216.length y216 from by rw [Ny216.out]; exact Kd.C_take (m := (x13_4 : Int).toNat) ((Kd.R_reads' (Kd.R_after (ok := (fun k_ => some k_ ≠ (.slice (some ad210) t193.length co12 : Value).ownBlock ∧ k_ ≠ gb211)) (sq_r HO_10) hg hat)).2.2) KL41.out)); have n5_ := Aside0.mk (ho); clear HO_10; clear HO_32; clear BK211; clear HB; clear HR219; clear HO215; have HO_10 := n0_; have HO_32 := n1_; have BK211 := n2_; have HB := n3_; have HR219 := n4_; have HO222 := n5_; clear n0_ n1_ n2_ n3_ n4_ n5_; clear ho hb hg hat; have hcz43_0 : w42.cell? ⟨gb211, 0, none⟩ = some (.string ((rd_T48 t193 x34_2).f0)) := (blk_cell BK211.out 0).trans rfl; have hcz43_1 : w42.cell? ⟨gb211, 1, none⟩ = some (.int .i64 ((rd_T48 t193 x34_2).f1)) := (blk_cell BK211.out 1).trans rfl; have hfz43_0 := blk_frozen BK211.out 0; have hfz43_1 := blk_frozen BK211.out 1) | ((with_reducible refine gate_builtin (b := .append) (xs := #[.tmp 74, .tmp 76]) rfl ?_); (try (refine gate_guard (by rfl) ?_; dsimp only)); at_builtin; refine Kd.R_append k48 (w0 := w) w.heap.size rfl (.tmp 74) (.tmp 76) 27 48 (.agg #[(.string ⟨#[]⟩), (.int .i64 0)]) 24 rfl Try.underlying27 info48 rfl (by decide) (by omega) v221 y220 (⟨((rd_T48 t193 x34_2).f0), ((rd_T48 t193 x34_2).f1)⟩ : S48) [.string ((rd_T48 t193 x34_2).f0), .int .i64 ((rd_T48 t193 x34_2).f1)] (fun k_ => some k_ ≠ (.slice (some ad212) x10_2.length co37 : Value).ownBlock ∧ some k_ ≠ (.slice (some ad210) t193.length co12 : Value).ownBlock ∧ k_ ≠ gb211) (fun _ => False) rfl rfl ?aP (fun _ hk => hk.elim) ?aF ?aO ?aB ?aS ?aL ?_; (case aP => exact k48_mkM _ _ _ (⟨((rd_T48 t193 x34_2).f0), ((rd_T48 t193 x34_2).f1)⟩ : S48)); (case aB => exact (by repeat (first | (with_reducible first | exact HB.out | apply below_alloc | apply pw_below_drewN | apply below_drew1 | refine below_set ?_ GE211.out) | exact HB.out))); (case aF => exact (fun k_ hk => ⟨Kd.fresh' (Kd.R_lt (sq_r HO_10)) k_ hk, Kd.fresh' (Kd.R_lt (sq_r HO_32)) k_ hk, Kd.freshB (g := gb211) (o := .cells #[.string ((rd_T48 t193 x34_2).f0), .int .i64 ((rd_T48 t193 x34_2).f1)] 48 (0, 0)) (sq_l BK211) k_ hk⟩)); (case aO => exact (sq_r HO222)); (case aS => exact (below_size (by repeat (first | (with_reducible first | exact HB.out | apply below_alloc | apply pw_below_drewN | apply below_drew1 | refine below_set ?_ GE211.out) | exact HB.out)))); (case aL => have := LMc33.out; omega); intro v224 w44 ho hb hg hat; rw [← Ny223.out] at ho; have n0_ := Aside0.mk (Kd.R_after (ok := (fun k_ => some k_ ≠ (.slice (some ad210) t193.length co12 : Value).ownBlock ∧ k_ ≠ gb211)) (sq_r HO_10) hg hat); have n1_ := Aside0.mk (Kd.R_after (ok := (fun k_ => some k_ ≠ (.slice (some ad212) x10_2.length co37 : Value).ownBlock ∧ k_ ≠ gb211)) (sq_r HO_32) hg hat); have n2_ := Aside0.mk (blk_grown (g := gb211) (o := .cells #[.string ((rd_T48 t193 x34_2).f0), .int .i64 ((rd_T48 t193 x34_2).f1)] 48 (0, 0)) (sq_l BK211) hg (Kd.R_away HO222.out (fun _ hk => hk.2.2))); have n3_ := Aside0.mk (hb); have n4_ := Aside0.mk ((show Kd.C k48 w44 (some ad212) y216.length y216 from by rw [Ny216.out]; exact Kd.C_take (m := (x13_4 : Int).toNat) ((Kd.R_reads' (Kd.R_after (ok := (fun k_ => some k_ ≠ (.slice (some ad210) t193.length co12 : Value).ownBlock ∧ k_ ≠ gb211)) (sq_r HO_10) hg hat)).2.2) KL41.out)); have n5_ := Aside0.mk (ho); clear HO_10; clear HO_32; clear BK211; clear HB; clear HR219; clear HO222; have HO_10 := n0_; have HO_32 := n1_; have BK211 := n2_; have HB := n3_; have HR219 := n4_; have HO225 := n5_; clear n0_ n1_ n2_ n3_ n4_ n5_; clear ho hb hg hat; have q45 : (x13_4 : Int) ≤ ((x10_2.length : Int) : Int) := sq_d; obtain ⟨i045, hi045, _, hsz45, _⟩ := info_parts info48; have hroom45 : x10_2.length ≤ co37 := (Kd.R_reads' HO_10.out).2.1; have hC45 : Kd.C k48 _ (some ad212) x10_2.length x10_2 := (Kd.R_reads' HO_10.out).2.2; have q045 : (0 : Int) ≤ (x13_4 : Int) := sq_d; have hcut45 := cut_from (P := Try.prog) 27 48 .i64 Try.underlying27 hi045 2 hsz45 (some ad212) x10_2.length co37 x13_4 q045 q45; have hr45 := Kd.C_drop (m := (x13_4 : Int).toNat) (c := co37) hC45 (by omega) hroom45; obtain ⟨A45, hA45⟩ : ∃ A1, A1 = (if co37 = (x13_4 : Int).toNat then (some ad212) else ((some ad212) : Option Addr).map (·.add ((x13_4 : Int).toNat * 2))) := ⟨_, rfl⟩; obtain ⟨c45, hc45⟩ : ∃ c1, c1 = co37 - (x13_4 : Int).toNat := ⟨_, rfl⟩; have hy45 : y226.length = x10_2.length - (x13_4 : Int).toNat := (by rw [Ny226.out, List.length_drop] <;> omega); rw [show (x10_2).drop (x13_4 : Int).toNat = y226 from Ny226.out.symm] at hr45; replace hr45 : Kd.C k48 _ A45 y226.length y226 := (by rw [hA45]; exact hr45); rw [← hy45, ← hA45, ← hc45] at hcut45; have HR229 := Aside0.mk hr45; have HC229 := Aside0.mk (show y226.length ≤ c45 from by rw [hy45, hc45]; exact Nat.sub_le_sub_right hroom45 _); clear hr45 hC45 hroom45 hi045 hsz45 hc45; have KY45 := Aside0.mk hy45; have KA45 := Aside0.mk hA45; clear hy45 hA45; have KL45 := Aside0.mk (show (x13_4 : Int).toNat ≤ x10_2.length from by omega); replace q45 := eq_true q45) | ((with_reducible refine gate_builtin (b := .append) (xs := #[.tmp 78, .tmp 81]) rfl ?_); (try (refine gate_guard (by rfl) ?_; dsimp only)); at_builtin; refine Kd.R_append_rows k48 (w0 := w) w.heap.size rfl (.tmp 78) (.tmp 81) 27 48 (.agg #[(.string ⟨#[]⟩), (.int .i64 0)]) 24 rfl Try.underlying27 info48 rfl (by decide) (by omega) v224 y223 y226 _ _ _ (fun k_ => some k_ ≠ (.slice (some ad212) x10_2.length co37 : Value).ownBlock ∧ some k_ ≠ (.slice (some ad210) t193.length co12 : Value).ownBlock ∧ k_ ≠ gb211) (fun _ => False) rfl rfl ?aO ?aR (fun _ _ h => h) (fun _ h => h.elim) ?aF ?aB ?aS ?aL ?_; (case aR => repeat (first | exact (by repeat (first | (with_reducible exact HR229.out) | (with_reducible refine Kd.C_alloc ?_ _) | (with_reducible refine Kd.C_drewN ?_ _) | (with_reducible refine Kd.C_drew ?_) | exact HR229.out)) | (with_reducible refine Kd.C_alloc ?_ _) | (with_reducible refine Kd.C_drewN ?_ _) | (with_reducible refine Kd.C_drew ?_))); (case aB => exact (by repeat (first | (with_reducible first | exact HB.out | apply below_alloc | apply pw_below_drewN | apply below_drew1 | refine below_set ?_ GE211.out) | exact HB.out))); (case aF => exact (fun k_ hk => ⟨Kd.fresh' (Kd.R_lt (sq_r HO_10)) k_ hk, Kd.fresh' (Kd.R_lt (sq_r HO_32)) k_ hk, Kd.freshB (g := gb211) (o := .cells #[.string ((rd_T48 t193 x34_2).f0), .int .i64 ((rd_T48 t193 x34_2).f1)] 48 (0, 0)) (sq_l BK211) k_ hk⟩)); (case aO => exact (sq_r HO225)); (case aS => exact (below_size (by repeat (first | (with_reducible first | exact HB.out | apply below_alloc | apply pw_below_drewN | apply below_drew1 | refine below_set ?_ GE211.out) | exact HB.out)))); (case aL => have := LMc36.out; omega); intro v231 w46 ho hb hg hat; rw [← Ny230.out] at ho; have n0_ := Aside0.mk (Kd.R_after (ok := (fun k_ => some k_ ≠ (.slice (some ad210) t193.length co12 : Value).ownBlock ∧ k_ ≠ gb211)) (sq_r HO_10) hg hat); have n1_ := Aside0.mk (Kd.R_after (ok := (fun k_ => some k_ ≠ (.slice (some ad212) x10_2.length co37 : Value).ownBlock ∧ k_ ≠ gb211)) (sq_r HO_32) hg hat); have n2_ := Aside0.mk (blk_grown (g := gb211) (o := .cells #[.string ((rd_T48 t193 x34_2).f0), .int .i64 ((rd_T48 t193 x34_2).f1)] 48 (0, 0)) (sq_l BK211) hg (Kd.R_away HO225.out (fun _ hk => hk.2.2))); have n3_ := Aside0.mk (hb); have n4_ := Aside0.mk ((show Kd.C k48 w46 (some ad212) y216.length y216 from by rw [Ny216.out]; exact Kd.C_take (m := (x13_4 : Int).toNat) ((Kd.R_reads' (Kd.R_after (ok := (fun k_ => some k_ ≠ (.slice (some ad210) t193.length co12 : Value).ownBlock ∧ k_ ≠ gb211)) (sq_r HO_10) hg hat)).2.2) KL41.out)); have n5_ := Aside0.mk ((show Kd.C k48 w46 A45 y226.length y226 from by rw [Ny226.out, KA45.out]; exact Kd.C_drop (m := (x13_4 : Int).toNat) (c := co37) ((Kd.R_reads' (Kd.R_after (ok := (fun k_ => some k_ ≠ (.slice (some ad210) t193.length co12 : Value).ownBlock ∧ k_ ≠ gb211)) (sq_r HO_10) hg hat)).2.2) KL45.out ((Kd.R_reads' (Kd.R_after (ok := (fun k_ => some k_ ≠ (.slice (some ad210) t193.length co12 : Value).ownBlock ∧ k_ ≠ gb211)) (sq_r HO_10) hg hat)).2.1))); have n6_ := Aside0.mk (ho); clear HO_10; clear HO_32; clear BK211; clear HB; clear HR219; clear HR229; clear HO225; have HO_10 := n0_; have HO_32 := n1_; have BK211 := n2_; have HB := n3_; have HR219 := n4_; have HR229 := n5_; have HO232 := n6_; clear n0_ n1_ n2_ n3_ n4_ n5_ n6_; clear ho hb hg hat))
              repeat (go_quiet (first | ((with_reducible refine gate_dst (N := 69) rfl ?_); (try (refine gate_guard (by rfl) ?_; dsimp only)); refine Kd.R_lit k48 _ 48 ?hg (N := 69) ?hd (xs := ([] : List (S48))) (inner := []) (ok := fun _ => True) (okp := fun _ => True) ?hr ?hp (fun _ hk => hk) trivial (Below.refl _ _) (Nat.le_refl _) (by simp) ?_; (case hd => rfl); (case hg => rfl); (case hr => first | (go_simp; done) | (go_simp; rfl)); (case hp => exact (Reps.none _ _)); intro v214 w39 ho40 hb hg_ hnew_; clear hg_ hnew_; (first | rw [← Ny213.out] at ho40 | (simp only [Int.reduceToNat] at ho40; rw [← Ny213.out] at ho40)); have n0_ := Aside0.mk (Kd.R_elder' (sq_r HO_10) (Kd.R_base ho40) hb); have n1_ := Aside0.mk (Kd.R_elder' (sq_r HO_32) (Kd.R_base ho40) hb); have n2_ := Aside0.mk (Kd.R_lower (Kd.R_newB (Kd.R_new' (Kd.R_new' ho40 (Kd.R_lt (sq_r HO_10))) (Kd.R_lt (sq_r HO_32))) (g := gb211) (o := .cells #[.string ((rd_T48 t193 x34_2).f0), .int .i64 ((rd_T48 t193 x34_2).f1)] 48 (0, 0)) (sq_l BK211)) (below_size (by repeat (first | (with_reducible first | exact HB.out | apply below_alloc | apply pw_below_drewN | apply below_drew1 | refine below_set ?_ GE211.out) | exact HB.out)))); have n3_ := Aside0.mk (blk_below (g := gb211) (o := .cells #[.string ((rd_T48 t193 x34_2).f0), .int .i64 ((rd_T48 t193 x34_2).f1)] 48 (0, 0)) (sq_l BK211) hb); have n4_ := Aside0.mk (below_step (by repeat (first | (with_reducible first | exact HB.out | apply below_alloc | apply pw_below_drewN | apply below_drew1 | refine below_set ?_ GE211.out) | exact HB.out)) hb); clear HO_10; clear HO_32; clear BK211; clear HB; have HO_10 := n0_; have HO_32 := n1_; have HO215 := n2_; have BK211 := n3_; have HB := n4_; clear n0_ n1_ n2_ n3_ n4_; clear hb ho40; have q41 : (x13_4 : Int) ≤ ((x10_2.length : Int) : Int) := sq_d; obtain ⟨i041, hi041, _, hsz41, _⟩ := info_parts info48; have hroom41 : x10_2.length ≤ co37 := (Kd.R_reads' HO_10.out).2.1; have hC41 : Kd.C k48 _ (some ad212) x10_2.length x10_2 := (Kd.R_reads' HO_10.out).2.2; have hcut41 := cut_to (P := Try.prog) 27 48 .i64 Try.underlying27 hi041 (some ad212) x10_2.length co37 x13_4 (sq_d) q41 hroom41; have hr41 := Kd.C_take (m := (x13_4 : Int).toNat) hC41 (by omega); have hy41 : y216.length = (x13_4 : Int).toNat := (by rw [Ny216.out, List.length_take]; omega); rw [← Ny216.out] at hr41; rw [← hy41] at hcut41; have HR219 := Aside0.mk hr41; have HC219 := Aside0.mk (show y216.length ≤ co37 from by omega); clear hr41 hC41 hroom41 hi041 hsz41; have KY41 := Aside0.mk hy41; clear hy41; have KL41 := Aside0.mk (show (x13_4 : Int).toNat ≤ x10_2.length from by omega); replace q41 := eq_true q41) | ((with_reducible refine gate_builtin (b := .append) (xs := #[.tmp 69, .tmp 72]) rfl ?_); (try (refine gate_guard (by rfl) ?_; dsimp only)); at_builtin; refine Kd.R_append_rows k48 (w0 := w) w.heap.size rfl (.tmp 69) (.tmp 72) 27 48 (.agg #[(.string ⟨#[]⟩), (.int .i64 0)]) 24 rfl Try.underlying27 info48 rfl (by decide) (by omega) v214 y213 y216 _ _ _ (fun k_ => some k_ ≠ (.slice (some ad212) x10_2.length co37 : Value).ownBlock ∧ some k_ ≠ (.slice (some ad210) t193.length co12 : Value).ownBlock ∧ k_ ≠ gb211) (fun _ => False) rfl rfl ?aO ?aR (fun _ _ h => h) (fun _ h => h.elim) ?aF ?aB ?aS ?aL ?_; (case aR => repeat (first | exact (by repeat (first | (with_reducible exact HR219.out) | (with_reducible refine Kd.C_alloc ?_ _) | (with_reducible refine Kd.C_drewN ?_ _) | (with_reducible refine Kd.C_drew ?_) | exact HR219.out)) | (with_reducible refine Kd.C_alloc ?_ _) | (with_reducible refine Kd.C_drewN ?_ _) | (with_reducible refine Kd.C_drew ?_))); (case aB => exact (by repeat (first | (with_reducible first | exact HB.out | apply below_alloc | apply pw_below_drewN | apply below_drew1 | refine below_set ?_ GE211.out) | exact HB.out))); (case aF => exact (fun k_ hk => ⟨Kd.fresh' (Kd.R_lt (sq_r HO_10)) k_ hk, Kd.fresh' (Kd.R_lt (sq_r HO_32)) k_ hk, Kd.freshB (g := gb211) (o := .cells #[.string ((rd_T48 t193 x34_2).f0), .int .i64 ((rd_T48 t193 x34_2).f1)] 48 (0, 0)) (sq_l BK211) k_ hk⟩)); (case aO => exact (by (with_reducible repeat (first | apply Kd.R_alloc | apply Kd.R_drewN | apply Kd.R_drew)); exact Kd.R_mono HO215.out (fun _ hk => ⟨hk.1.1.2, ⟨hk.1.2, hk.2⟩⟩))); (case aS => exact (below_size (by repeat (first | (with_reducible first | exact HB.out | apply below_alloc | apply pw_below_drewN | apply below_drew1 | refine below_set ?_ GE211.out) | exact HB.out)))); (case aL => have := LMc32.out; omega); intro v221 w42 ho hb hg hat; rw [← Ny220.out] at ho; have n0_ := Aside0.mk (Kd.R_after (ok := (fun k_ => some k_ ≠ (.slice (some ad210) t193.length co12 : Value).ownBlock ∧ k_ ≠ gb211)) (sq_r HO_10) hg hat); have n1_ := Aside0.mk (Kd.R_after (ok := (fun k_ => some k_ ≠ (.slice (some ad212) x10_2.length co37 : Value).ownBlock ∧ k_ ≠ gb211)) (sq_r HO_32) hg hat); have n2_ := Aside0.mk (blk_grown (g := gb211) (o := .cells #[.string ((rd_T48 t193 x34_2).f0), .int .i64 ((rd_T48 t193 x34_2).f1)] 48 (0, 0)) (sq_l BK211) hg (Kd.R_away HO215.out (fun _ hk => hk.2))); have n3_ := Aside0.mk (hb); have n4_ := Aside0.mk ((show Kd.C k48 w42 (some ad212) y216.length y216 from by rw [Ny216.out]; exact Kd.C_take (m := (x13_4 : Int).toNat) ((Kd.R_reads' (Kd.R_after (ok := (fun k_ => some k_ ≠ (.slice (some ad210) t193.length co12 : Value).ownBlock ∧ k_ ≠ gb211)) (sq_r HO_10) hg hat)).2.2) KL41.out)); have n5_ := Aside0.mk (ho); clear HO_10; clear HO_32; clear BK211; clear HB; clear HR219; clear HO215; have HO_10 := n0_; have HO_32 := n1_; have BK211 := n2_; have HB := n3_; have HR219 := n4_; have HO222 := n5_; clear n0_ n1_ n2_ n3_ n4_ n5_; clear ho hb hg hat; have hcz43_0 : w42.cell? ⟨gb211, 0, none⟩ = some (.string ((rd_T48 t193 x34_2).f0)) := (blk_cell BK211.out 0).trans rfl; have hcz43_1 : w42.cell? ⟨gb211, 1, none⟩ = some (.int .i64 ((rd_T48 t193 x34_2).f1)) := (blk_cell BK211.out 1).trans rfl; have hfz43_0 := blk_frozen BK211.out 0; have hfz43_1 := blk_frozen BK211.out 1) | ((with_reducible refine gate_builtin (b := .append) (xs := #[.tmp 74, .tmp 76]) rfl ?_); (try (refine gate_guard (by rfl) ?_; dsimp only)); at_builtin; refine Kd.R_append k48 (w0 := w) w.heap.size rfl (.tmp 74) (.tmp 76) 27 48 (.agg #[(.string ⟨#[]⟩), (.int .i64 0)]) 24 rfl Try.underlying27 info48 rfl (by decide) (by omega) v221 y220 (⟨((rd_T48 t193 x34_2).f0), ((rd_T48 t193 x34_2).f1)⟩ : S48) [.string ((rd_T48 t193 x34_2).f0), .int .i64 ((rd_T48 t193 x34_2).f1)] (fun k_ => some k_ ≠ (.slice (some ad212) x10_2.length co37 : Value).ownBlock ∧ some k_ ≠ (.slice (some ad210) t193.length co12 : Value).ownBlock ∧ k_ ≠ gb211) (fun _ => False) rfl rfl ?aP (fun _ hk => hk.elim) ?aF ?aO ?aB ?aS ?aL ?_; (case aP => exact k48_mkM _ _ _ (⟨((rd_T48 t193 x34_2).f0), ((rd_T48 t193 x34_2).f1)⟩ : S48)); (case aB => exact (by repeat (first | (with_reducible first | exact HB.out | apply below_alloc | apply pw_below_drewN | apply below_drew1 | refine below_set ?_ GE211.out) | exact HB.out))); (case aF => exact (fun k_ hk => ⟨Kd.fresh' (Kd.R_lt (sq_r HO_10)) k_ hk, Kd.fresh' (Kd.R_lt (sq_r HO_32)) k_ hk, Kd.freshB (g := gb211) (o := .cells #[.string ((rd_T48 t193 x34_2).f0), .int .i64 ((rd_T48 t193 x34_2).f1)] 48 (0, 0)) (sq_l BK211) k_ hk⟩)); (case aO => exact (sq_r HO222)); (case aS => exact (below_size (by repeat (first | (with_reducible first | exact HB.out | apply below_alloc | apply pw_below_drewN | apply below_drew1 | refine below_set ?_ GE211.out) | exact HB.out)))); (case aL => have := LMc33.out; omega); intro v224 w44 ho hb hg hat; rw [← Ny223.out] at ho; have n0_ := Aside0.mk (Kd.R_after (ok := (fun k_ => some k_ ≠ (.slice (some ad210) t193.length co12 : Value).ownBlock ∧ k_ ≠ gb211)) (sq_r HO_10) hg hat); have n1_ := Aside0.mk (Kd.R_after (ok := (fun k_ => some k_ ≠ (.slice (some ad212) x10_2.length co37 : Value).ownBlock ∧ k_ ≠ gb211)) (sq_r HO_32) hg hat); have n2_ := Aside0.mk (blk_grown (g := gb211) (o := .cells #[.string ((rd_T48 t193 x34_2).f0), .int .i64 ((rd_T48 t193 x34_2).f1)] 48 (0, 0)) (sq_l BK211) hg (Kd.R_away HO222.out (fun _ hk => hk.2.2))); have n3_ := Aside0.mk (hb); have n4_ := Aside0.mk ((show Kd.C k48 w44 (some ad212) y216.length y216 from by rw [Ny216.out]; exact Kd.C_take (m := (x13_4 : Int).toNat) ((Kd.R_reads' (Kd.R_after (ok := (fun k_ => some k_ ≠ (.slice (some ad210) t193.length co12 : Value).ownBlock ∧ k_ ≠ gb211)) (sq_r HO_10) hg hat)).2.2) KL41.out)); have n5_ := Aside0.mk (ho); clear HO_10; clear HO_32; clear BK211; clear HB; clear HR219; clear HO222; have HO_10 := n0_; have HO_32 := n1_; have BK211 := n2_; have HB := n3_; have HR219 := n4_; have HO225 := n5_; clear n0_ n1_ n2_ n3_ n4_ n5_; clear ho hb hg hat; have q45 : (x13_4 : Int) ≤ ((x10_2.length : Int) : Int) := sq_d; obtain ⟨i045, hi045, _, hsz45, _⟩ := info_parts info48; have hroom45 : x10_2.length ≤ co37 := (Kd.R_reads' HO_10.out).2.1; have hC45 : Kd.C k48 _ (some ad212) x10_2.length x10_2 := (Kd.R_reads' HO_10.out).2.2; have q045 : (0 : Int) ≤ (x13_4 : Int) := sq_d; have hcut45 := cut_from (P := Try.prog) 27 48 .i64 Try.underlying27 hi045 2 hsz45 (some ad212) x10_2.length co37 x13_4 q045 q45; have hr45 := Kd.C_drop (m := (x13_4 : Int).toNat) (c := co37) hC45 (by omega) hroom45; obtain ⟨A45, hA45⟩ : ∃ A1, A1 = (if co37 = (x13_4 : Int).toNat then (some ad212) else ((some ad212) : Option Addr).map (·.add ((x13_4 : Int).toNat * 2))) := ⟨_, rfl⟩; obtain ⟨c45, hc45⟩ : ∃ c1, c1 = co37 - (x13_4 : Int).toNat := ⟨_, rfl⟩; have hy45 : y226.length = x10_2.length - (x13_4 : Int).toNat := (by rw [Ny226.out, List.length_drop] <;> omega); rw [show (x10_2).drop (x13_4 : Int).toNat = y226 from Ny226.out.symm] at hr45; replace hr45 : Kd.C k48 _ A45 y226.length y226 := (by rw [hA45]; exact hr45); rw [← hy45, ← hA45, ← hc45] at hcut45; have HR229 := Aside0.mk hr45; have HC229 := Aside0.mk (show y226.length ≤ c45 from by rw [hy45, hc45]; exact Nat.sub_le_sub_right hroom45 _); clear hr45 hC45 hroom45 hi045 hsz45 hc45; have KY45 := Aside0.mk hy45; have KA45 := Aside0.mk hA45; clear hy45 hA45; have KL45 := Aside0.mk (show (x13_4 : Int).toNat ≤ x10_2.length from by omega); replace q45 := eq_true q45) | ((with_reducible refine gate_builtin (b := .append) (xs := #[.tmp 78, .tmp 81]) rfl ?_); (try (refine gate_guard (by rfl) ?_; dsimp only)); at_builtin; refine Kd.R_append_rows k48 (w0 := w) w.heap.size rfl (.tmp 78) (.tmp 81) 27 48 (.agg #[(.string ⟨#[]⟩), (.int .i64 0)]) 24 rfl Try.underlying27 info48 rfl (by decide) (by omega) v224 y223 y226 _ _ _ (fun k_ => some k_ ≠ (.slice (some ad212) x10_2.length co37 : Value).ownBlock ∧ some k_ ≠ (.slice (some ad210) t193.length co12 : Value).ownBlock ∧ k_ ≠ gb211) (fun _ => False) rfl rfl ?aO ?aR (fun _ _ h => h) (fun _ h => h.elim) ?aF ?aB ?aS ?aL ?_; (case aR => repeat (first | exact (by repeat (first | (with_reducible exact HR229.out) | (with_reducible refine Kd.C_alloc ?_ _) | (with_reducible refine Kd.C_drewN ?_ _) | (with_reducible refine Kd.C_drew ?_) | exact HR229.out)) | (with_reducible refine Kd.C_alloc ?_ _) | (with_reducible refine Kd.C_drewN ?_ _) | (with_reducible refine Kd.C_drew ?_))); (case aB => exact (by repeat (first | (with_reducible first | exact HB.out | apply below_alloc | apply pw_below_drewN | apply below_drew1 | refine below_set ?_ GE211.out) | exact HB.out))); (case aF => exact (fun k_ hk => ⟨Kd.fresh' (Kd.R_lt (sq_r HO_10)) k_ hk, Kd.fresh' (Kd.R_lt (sq_r HO_32)) k_ hk, Kd.freshB (g := gb211) (o := .cells #[.string ((rd_T48 t193 x34_2).f0), .int .i64 ((rd_T48 t193 x34_2).f1)] 48 (0, 0)) (sq_l BK211) k_ hk⟩)); (case aO => exact (sq_r HO225)); (case aS => exact (below_size (by repeat (first | (with_reducible first | exact HB.out | apply below_alloc | apply pw_below_drewN | apply below_drew1 | refine below_set ?_ GE211.out) | exact HB.out)))); (case aL => have := LMc36.out; omega); intro v231 w46 ho hb hg hat; rw [← Ny230.out] at ho; have n0_ := Aside0.mk (Kd.R_after (ok := (fun k_ => some k_ ≠ (.slice (some ad210) t193.length co12 : Value).ownBlock ∧ k_ ≠ gb211)) (sq_r HO_10) hg hat); have n1_ := Aside0.mk (Kd.R_after (ok := (fun k_ => some k_ ≠ (.slice (some ad212) x10_2.length co37 : Value).ownBlock ∧ k_ ≠ gb211)) (sq_r HO_32) hg hat); have n2_ := Aside0.mk (blk_grown (g := gb211) (o := .cells #[.string ((rd_T48 t193 x34_2).f0), .int .i64 ((rd_T48 t193 x34_2).f1)] 48 (0, 0)) (sq_l BK211) hg (Kd.R_away HO225.out (fun _ hk => hk.2.2))); have n3_ := Aside0.mk (hb); have n4_ := Aside0.mk ((show Kd.C k48 w46 (some ad212) y216.length y216 from by rw [Ny216.out]; exact Kd.C_take (m := (x13_4 : Int).toNat) ((Kd.R_reads' (Kd.R_after (ok := (fun k_ => some k_ ≠ (.slice (some ad210) t193.length co12 : Value).ownBlock ∧ k_ ≠ gb211)) (sq_r HO_10) hg hat)).2.2) KL41.out)); have n5_ := Aside0.mk ((show Kd.C k48 w46 A45 y226.length y226 from by rw [Ny226.out, KA45.out]; exact Kd.C_drop (m := (x13_4 : Int).toNat) (c := co37) ((Kd.R_reads' (Kd.R_after (ok := (fun k_ => some k_ ≠ (.slice (some ad210) t193.length co12 : Value).ownBlock ∧ k_ ≠ gb211)) (sq_r HO_10) hg hat)).2.2) KL45.out ((Kd.R_reads' (Kd.R_after (ok := (fun k_ => some k_ ≠ (.slice (some ad210) t193.length co12 : Value).ownBlock ∧ k_ ≠ gb211)) (sq_r HO_10) hg hat)).2.1))); have n6_ := Aside0.mk (ho); clear HO_10; clear HO_32; clear BK211; clear HB; clear HR219; clear HR229; clear HO225; have HO_10 := n0_; have HO_32 := n1_; have BK211 := n2_; have HB := n3_; have HR219 := n4_; have HR229 := n5_; have HO232 := n6_; clear n0_ n1_ n2_ n3_ n4_ n5_ n6_; clear ho hb hg hat)); try go_wp2_with (first | ((with_reducible refine gate_dst (N := 69) rfl ?_); (try (refine gate_guard (by rfl) ?_; dsimp only)); refine Kd.R_lit k48 _ 48 ?hg (N := 69) ?hd (xs := ([] : List (S48))) (inner := []) (ok := fun _ => True) (okp := fun _ => True) ?hr ?hp (fun _ hk => hk) trivial (Below.refl _ _) (Nat.le_refl _) (by simp) ?_; (case hd => rfl); (case hg => rfl); (case hr => first | (go_simp; done) | (go_simp; rfl)); (case hp => exact (Reps.none _ _)); intro v214 w39 ho40 hb hg_ hnew_; clear hg_ hnew_; (first | rw [← Ny213.out] at ho40 | (simp only [Int.reduceToNat] at ho40; rw [← Ny213.out] at ho40)); have n0_ := Aside0.mk (Kd.R_elder' (sq_r HO_10) (Kd.R_base ho40) hb); have n1_ := Aside0.mk (Kd.R_elder' (sq_r HO_32) (Kd.R_base ho40) hb); have n2_ := Aside0.mk (Kd.R_lower (Kd.R_newB (Kd.R_new' (Kd.R_new' ho40 (Kd.R_lt (sq_r HO_10))) (Kd.R_lt (sq_r HO_32))) (g := gb211) (o := .cells #[.string ((rd_T48 t193 x34_2).f0), .int .i64 ((rd_T48 t193 x34_2).f1)] 48 (0, 0)) (sq_l BK211)) (below_size (by repeat (first | (with_reducible first | exact HB.out | apply below_alloc | apply pw_below_drewN | apply below_drew1 | refine below_set ?_ GE211.out) | exact HB.out)))); have n3_ := Aside0.mk (blk_below (g := gb211) (o := .cells #[.string ((rd_T48 t193 x34_2).f0), .int .i64 ((rd_T48 t193 x34_2).f1)] 48 (0, 0)) (sq_l BK211) hb); have n4_ := Aside0.mk (below_step (by repeat (first | (with_reducible first | exact HB.out | apply below_alloc | apply pw_below_drewN | apply below_drew1 | refine below_set ?_ GE211.out) | exact HB.out)) hb); clear HO_10; clear HO_32; clear BK211; clear HB; have HO_10 := n0_; have HO_32 := n1_; have HO215 := n2_; have BK211 := n3_; have HB := n4_; clear n0_ n1_ n2_ n3_ n4_; clear hb ho40; have q41 : (x13_4 : Int) ≤ ((x10_2.length : Int) : Int) := sq_d; obtain ⟨i041, hi041, _, hsz41, _⟩ := info_parts info48; have hroom41 : x10_2.length ≤ co37 := (Kd.R_reads' HO_10.out).2.1; have hC41 : Kd.C k48 _ (some ad212) x10_2.length x10_2 := (Kd.R_reads' HO_10.out).2.2; have hcut41 := cut_to (P := Try.prog) 27 48 .i64 Try.underlying27 hi041 (some ad212) x10_2.length co37 x13_4 (sq_d) q41 hroom41; have hr41 := Kd.C_take (m := (x13_4 : Int).toNat) hC41 (by omega); have hy41 : y216.length = (x13_4 : Int).toNat := (by rw [Ny216.out, List.length_take]; omega); rw [← Ny216.out] at hr41; rw [← hy41] at hcut41; have HR219 := Aside0.mk hr41; have HC219 := Aside0.mk (show y216.length ≤ co37 from by omega); clear hr41 hC41 hroom41 hi041 hsz41; have KY41 := Aside0.mk hy41; clear hy41; have KL41 := Aside0.mk (show (x13_4 : Int).toNat ≤ x10_2.length from by omega); replace q41 := eq_true q41) | ((with_reducible refine gate_builtin (b := .append) (xs := #[.tmp 69, .tmp 72]) rfl ?_); (try (refine gate_guard (by rfl) ?_; dsimp only)); at_builtin; refine Kd.R_append_rows k48 (w0 := w) w.heap.size rfl (.tmp 69) (.tmp 72) 27 48 (.agg #[(.string ⟨#[]⟩), (.int .i64 0)]) 24 rfl Try.underlying27 info48 rfl (by decide) (by omega) v214 y213 y216 _ _ _ (fun k_ => some k_ ≠ (.slice (some ad212) x10_2.length co37 : Value).ownBlock ∧ some k_ ≠ (.slice (some ad210) t193.length co12 : Value).ownBlock ∧ k_ ≠ gb211) (fun _ => False) rfl rfl ?aO ?aR (fun _ _ h => h) (fun _ h => h.elim) ?aF ?aB ?aS ?aL ?_; (case aR => repeat (first | exact (by repeat (first | (with_reducible exact HR219.out) | (with_reducible refine Kd.C_alloc ?_ _) | (with_reducible refine Kd.C_drewN ?_ _) | (with_reducible refine Kd.C_drew ?_) | exact HR219.out)) | (with_reducible refine Kd.C_alloc ?_ _) | (with_reducible refine Kd.C_drewN ?_ _) | (with_reducible refine Kd.C_drew ?_))); (case aB => exact (by repeat (first | (with_reducible first | exact HB.out | apply below_alloc | apply pw_below_drewN | apply below_drew1 | refine below_set ?_ GE211.out) | exact HB.out))); (case aF => exact (fun k_ hk => ⟨Kd.fresh' (Kd.R_lt (sq_r HO_10)) k_ hk, Kd.fresh' (Kd.R_lt (sq_r HO_32)) k_ hk, Kd.freshB (g := gb211) (o := .cells #[.string ((rd_T48 t193 x34_2).f0), .int .i64 ((rd_T48 t193 x34_2).f1)] 48 (0, 0)) (sq_l BK211) k_ hk⟩)); (case aO => exact (by (with_reducible repeat (first | apply Kd.R_alloc | apply Kd.R_drewN | apply Kd.R_drew)); exact Kd.R_mono HO215.out (fun _ hk => ⟨hk.1.1.2, ⟨hk.1.2, hk.2⟩⟩))); (case aS => exact (below_size (by repeat (first | (with_reducible first | exact HB.out | apply below_alloc | apply pw_below_drewN | apply below_drew1 | refine below_set ?_ GE211.out) | exact HB.out)))); (case aL => have := LMc32.out; omega); intro v221 w42 ho hb hg hat; rw [← Ny220.out] at ho; have n0_ := Aside0.mk (Kd.R_after (ok := (fun k_ => some k_ ≠ (.slice (some ad210) t193.length co12 : Value).ownBlock ∧ k_ ≠ gb211)) (sq_r HO_10) hg hat); have n1_ := Aside0.mk (Kd.R_after (ok := (fun k_ => some k_ ≠ (.slice (some ad212) x10_2.length co37 : Value).ownBlock ∧ k_ ≠ gb211)) (sq_r HO_32) hg hat); have n2_ := Aside0.mk (blk_grown (g := gb211) (o := .cells #[.string ((rd_T48 t193 x34_2).f0), .int .i64 ((rd_T48 t193 x34_2).f1)] 48 (0, 0)) (sq_l BK211) hg (Kd.R_away HO215.out (fun _ hk => hk.2))); have n3_ := Aside0.mk (hb); have n4_ := Aside0.mk ((show Kd.C k48 w42 (some ad212) y216.length y216 from by rw [Ny216.out]; exact Kd.C_take (m := (x13_4 : Int).toNat) ((Kd.R_reads' (Kd.R_after (ok := (fun k_ => some k_ ≠ (.slice (some ad210) t193.length co12 : Value).ownBlock ∧ k_ ≠ gb211)) (sq_r HO_10) hg hat)).2.2) KL41.out)); have n5_ := Aside0.mk (ho); clear HO_10; clear HO_32; clear BK211; clear HB; clear HR219; clear HO215; have HO_10 := n0_; have HO_32 := n1_; have BK211 := n2_; have HB := n3_; have HR219 := n4_; have HO222 := n5_; clear n0_ n1_ n2_ n3_ n4_ n5_; clear ho hb hg hat; have hcz43_0 : w42.cell? ⟨gb211, 0, none⟩ = some (.string ((rd_T48 t193 x34_2).f0)) := (blk_cell BK211.out 0).trans rfl; have hcz43_1 : w42.cell? ⟨gb211, 1, none⟩ = some (.int .i64 ((rd_T48 t193 x34_2).f1)) := (blk_cell BK211.out 1).trans rfl; have hfz43_0 := blk_frozen BK211.out 0; have hfz43_1 := blk_frozen BK211.out 1) | ((with_reducible refine gate_builtin (b := .append) (xs := #[.tmp 74, .tmp 76]) rfl ?_); (try (refine gate_guard (by rfl) ?_; dsimp only)); at_builtin; refine Kd.R_append k48 (w0 := w) w.heap.size rfl (.tmp 74) (.tmp 76) 27 48 (.agg #[(.string ⟨#[]⟩), (.int .i64 0)]) 24 rfl Try.underlying27 info48 rfl (by decide) (by omega) v221 y220 (⟨((rd_T48 t193 x34_2).f0), ((rd_T48 t193 x34_2).f1)⟩ : S48) [.string ((rd_T48 t193 x34_2).f0), .int .i64 ((rd_T48 t193 x34_2).f1)] (fun k_ => some k_ ≠ (.slice (some ad212) x10_2.length co37 : Value).ownBlock ∧ some k_ ≠ (.slice (some ad210) t193.length co12 : Value).ownBlock ∧ k_ ≠ gb211) (fun _ => False) rfl rfl ?aP (fun _ hk => hk.elim) ?aF ?aO ?aB ?aS ?aL ?_; (case aP => exact k48_mkM _ _ _ (⟨((rd_T48 t193 x34_2).f0), ((rd_T48 t193 x34_2).f1)⟩ : S48)); (case aB => exact (by repeat (first | (with_reducible first | exact HB.out | apply below_alloc | apply pw_below_drewN | apply below_drew1 | refine below_set ?_ GE211.out) | exact HB.out))); (case aF => exact (fun k_ hk => ⟨Kd.fresh' (Kd.R_lt (sq_r HO_10)) k_ hk, Kd.fresh' (Kd.R_lt (sq_r HO_32)) k_ hk, Kd.freshB (g := gb211) (o := .cells #[.string ((rd_T48 t193 x34_2).f0), .int .i64 ((rd_T48 t193 x34_2).f1)] 48 (0, 0)) (sq_l BK211) k_ hk⟩)); (case aO => exact (sq_r HO222)); (case aS => exact (below_size (by repeat (first | (with_reducible first | exact HB.out | apply below_alloc | apply pw_below_drewN | apply below_drew1 | refine below_set ?_ GE211.out) | exact HB.out)))); (case aL => have := LMc33.out; omega); intro v224 w44 ho hb hg hat; rw [← Ny223.out] at ho; have n0_ := Aside0.mk (Kd.R_after (ok := (fun k_ => some k_ ≠ (.slice (some ad210) t193.length co12 : Value).ownBlock ∧ k_ ≠ gb211)) (sq_r HO_10) hg hat); have n1_ := Aside0.mk (Kd.R_after (ok := (fun k_ => some k_ ≠ (.slice (some ad212) x10_2.length co37 : Value).ownBlock ∧ k_ ≠ gb211)) (sq_r HO_32) hg hat); have n2_ := Aside0.mk (blk_grown (g := gb211) (o := .cells #[.string ((rd_T48 t193 x34_2).f0), .int .i64 ((rd_T48 t193 x34_2).f1)] 48 (0, 0)) (sq_l BK211) hg (Kd.R_away HO222.out (fun _ hk => hk.2.2))); have n3_ := Aside0.mk (hb); have n4_ := Aside0.mk ((show Kd.C k48 w44 (some ad212) y216.length y216 from by rw [Ny216.out]; exact Kd.C_take (m := (x13_4 : Int).toNat) ((Kd.R_reads' (Kd.R_after (ok := (fun k_ => some k_ ≠ (.slice (some ad210) t193.length co12 : Value).ownBlock ∧ k_ ≠ gb211)) (sq_r HO_10) hg hat)).2.2) KL41.out)); have n5_ := Aside0.mk (ho); clear HO_10; clear HO_32; clear BK211; clear HB; clear HR219; clear HO222; have HO_10 := n0_; have HO_32 := n1_; have BK211 := n2_; have HB := n3_; have HR219 := n4_; have HO225 := n5_; clear n0_ n1_ n2_ n3_ n4_ n5_; clear ho hb hg hat; have q45 : (x13_4 : Int) ≤ ((x10_2.length : Int) : Int) := sq_d; obtain ⟨i045, hi045, _, hsz45, _⟩ := info_parts info48; have hroom45 : x10_2.length ≤ co37 := (Kd.R_reads' HO_10.out).2.1; have hC45 : Kd.C k48 _ (some ad212) x10_2.length x10_2 := (Kd.R_reads' HO_10.out).2.2; have q045 : (0 : Int) ≤ (x13_4 : Int) := sq_d; have hcut45 := cut_from (P := Try.prog) 27 48 .i64 Try.underlying27 hi045 2 hsz45 (some ad212) x10_2.length co37 x13_4 q045 q45; have hr45 := Kd.C_drop (m := (x13_4 : Int).toNat) (c := co37) hC45 (by omega) hroom45; obtain ⟨A45, hA45⟩ : ∃ A1, A1 = (if co37 = (x13_4 : Int).toNat then (some ad212) else ((some ad212) : Option Addr).map (·.add ((x13_4 : Int).toNat * 2))) := ⟨_, rfl⟩; obtain ⟨c45, hc45⟩ : ∃ c1, c1 = co37 - (x13_4 : Int).toNat := ⟨_, rfl⟩; have hy45 : y226.length = x10_2.length - (x13_4 : Int).toNat := (by rw [Ny226.out, List.length_drop] <;> omega); rw [show (x10_2).drop (x13_4 : Int).toNat = y226 from Ny226.out.symm] at hr45; replace hr45 : Kd.C k48 _ A45 y226.length y226 := (by rw [hA45]; exact hr45); rw [← hy45, ← hA45, ← hc45] at hcut45; have HR229 := Aside0.mk hr45; have HC229 := Aside0.mk (show y226.length ≤ c45 from by rw [hy45, hc45]; exact Nat.sub_le_sub_right hroom45 _); clear hr45 hC45 hroom45 hi045 hsz45 hc45; have KY45 := Aside0.mk hy45; have KA45 := Aside0.mk hA45; clear hy45 hA45; have KL45 := Aside0.mk (show (x13_4 : Int).toNat ≤ x10_2.length from by omega); replace q45 := eq_true q45) | ((with_reducible refine gate_builtin (b := .append) (xs := #[.tmp 78, .tmp 81]) rfl ?_); (try (refine gate_guard (by rfl) ?_; dsimp only)); at_builtin; refine Kd.R_append_rows k48 (w0 := w) w.heap.size rfl (.tmp 78) (.tmp 81) 27 48 (.agg #[(.string ⟨#[]⟩), (.int .i64 0)]) 24 rfl Try.underlying27 info48 rfl (by decide) (by omega) v224 y223 y226 _ _ _ (fun k_ => some k_ ≠ (.slice (some ad212) x10_2.length co37 : Value).ownBlock ∧ some k_ ≠ (.slice (some ad210) t193.length co12 : Value).ownBlock ∧ k_ ≠ gb211) (fun _ => False) rfl rfl ?aO ?aR (fun _ _ h => h) (fun _ h => h.elim) ?aF ?aB ?aS ?aL ?_; (case aR => repeat (first | exact (by repeat (first | (with_reducible exact HR229.out) | (with_reducible refine Kd.C_alloc ?_ _) | (with_reducible refine Kd.C_drewN ?_ _) | (with_reducible refine Kd.C_drew ?_) | exact HR229.out)) | (with_reducible refine Kd.C_alloc ?_ _) | (with_reducible refine Kd.C_drewN ?_ _) | (with_reducible refine Kd.C_drew ?_))); (case aB => exact (by repeat (first | (with_reducible first | exact HB.out | apply below_alloc | apply pw_below_drewN | apply below_drew1 | refine below_set ?_ GE211.out) | exact HB.out))); (case aF => exact (fun k_ hk => ⟨Kd.fresh' (Kd.R_lt (sq_r HO_10)) k_ hk, Kd.fresh' (Kd.R_lt (sq_r HO_32)) k_ hk, Kd.freshB (g := gb211) (o := .cells #[.string ((rd_T48 t193 x34_2).f0), .int .i64 ((rd_T48 t193 x34_2).f1)] 48 (0, 0)) (sq_l BK211) k_ hk⟩)); (case aO => exact (sq_r HO225)); (case aS => exact (below_size (by repeat (first | (with_reducible first | exact HB.out | apply below_alloc | apply pw_below_drewN | apply below_drew1 | refine below_set ?_ GE211.out) | exact HB.out)))); (case aL => have := LMc36.out; omega); intro v231 w46 ho hb hg hat; rw [← Ny230.out] at ho; have n0_ := Aside0.mk (Kd.R_after (ok := (fun k_ => some k_ ≠ (.slice (some ad210) t193.length co12 : Value).ownBlock ∧ k_ ≠ gb211)) (sq_r HO_10) hg hat); have n1_ := Aside0.mk (Kd.R_after (ok := (fun k_ => some k_ ≠ (.slice (some ad212) x10_2.length co37 : Value).ownBlock ∧ k_ ≠ gb211)) (sq_r HO_32) hg hat); have n2_ := Aside0.mk (blk_grown (g := gb211) (o := .cells #[.string ((rd_T48 t193 x34_2).f0), .int .i64 ((rd_T48 t193 x34_2).f1)] 48 (0, 0)) (sq_l BK211) hg (Kd.R_away HO225.out (fun _ hk => hk.2.2))); have n3_ := Aside0.mk (hb); have n4_ := Aside0.mk ((show Kd.C k48 w46 (some ad212) y216.length y216 from by rw [Ny216.out]; exact Kd.C_take (m := (x13_4 : Int).toNat) ((Kd.R_reads' (Kd.R_after (ok := (fun k_ => some k_ ≠ (.slice (some ad210) t193.length co12 : Value).ownBlock ∧ k_ ≠ gb211)) (sq_r HO_10) hg hat)).2.2) KL41.out)); have n5_ := Aside0.mk ((show Kd.C k48 w46 A45 y226.length y226 from by rw [Ny226.out, KA45.out]; exact Kd.C_drop (m := (x13_4 : Int).toNat) (c := co37) ((Kd.R_reads' (Kd.R_after (ok := (fun k_ => some k_ ≠ (.slice (some ad210) t193.length co12 : Value).ownBlock ∧ k_ ≠ gb211)) (sq_r HO_10) hg hat)).2.2) KL45.out ((Kd.R_reads' (Kd.R_after (ok := (fun k_ => some k_ ≠ (.slice (some ad210) t193.length co12 : Value).ownBlock ∧ k_ ≠ gb211)) (sq_r HO_10) hg hat)).2.1))); have n6_ := Aside0.mk (ho); clear HO_10; clear HO_32; clear BK211; clear HB; clear HR219; clear HR229; clear HO225; have HO_10 := n0_; have HO_32 := n1_; have BK211 := n2_; have HB := n3_; have HR219 := n4_; have HR229 := n5_; have HO232 := n6_; clear n0_ n1_ n2_ n3_ n4_ n5_ n6_; clear ho hb hg hat)))
              go_roundg k4
              case measure => have := HJ4.out; have := HK2.out; have := HJ15.out; have := HK4.out; omega
              case rel => exact ⟨(y230), (wrap64 (x34_2 + 1)), sq_e, H', ⟨by have := HJ4.out; have := HK2.out; have := HJ15.out; have := HK4.out; omega⟩, ⟨by (with_reducible repeat (first | apply Kd.R_alloc | apply Kd.R_drewN | apply Kd.R_drew)); exact Kd.R_mono HO232.out (fun _ hk => hk.2.1)⟩, ⟨by (with_reducible repeat (first | apply Kd.R_alloc | apply Kd.R_drewN | apply Kd.R_drew)); exact Kd.R_mono HO_32.out (fun _ hk => hk.2)⟩, ⟨by repeat (first | (with_reducible first | exact HB.out | apply below_alloc | apply pw_below_drewN | apply below_drew1 | refine below_set ?_ GE211.out) | exact HB.out)⟩⟩
            ·rw [if_neg c25] at H
             have c25b0 : decide (x13_4 < (x10_2.length : Int)) = false := decide_eq_false c25
             clear c25
             obtain ⟨y233, hy233⟩ : ∃ y_ : List (S48), y_ = (([] : List (S48))) := ⟨_, rfl⟩
             replace H : (if 0 ≤ x13_4 then (if x13_4 ≤ (x10_2.length : Int) then ((some (x10_2.take (x13_4 : Int).toNat : List (S48))).bind fun y236 => (if y233.length + y236.length < 5864062014805 then ((some (y233 ++ y236 : List (S48))).bind fun y240 => (if y240.length < 5864062014805 then ((some (y240 ++ [(⟨((rd_T48 t193 x34_2).f0), ((rd_T48 t193 x34_2).f1)⟩ : S48)] : List (S48))).bind fun y243 => ((some (x10_2.drop (x13_4 : Int).toNat : List (S48))).bind fun y246 => (if y243.length + y246.length < 5864062014805 then (spec_Suggest.l0 k4 a1 a2 (y243 ++ y246) t193 (t193.length : Int) (wrap64 (x34_2 + 1))) else (none)))) else (none))) else (none))) else (none)) else (none)) = some (r1, r2) := by first | (rw [hy233]; with_reducible exact H) | (have H2_ := (Option.bind_some _ _).symm.trans H; rw [hy233]; with_reducible exact H2_) | (have H2_ := (Option.bind_some _ _).symm.trans H; with_reducible exact H2_) | with_reducible exact H | (rw [hy233]; exact H) | exact H
             have Ny233 := Aside0.mk hy233
             clear hy233
             by_cases c47 : 0 ≤ x13_4
             rotate_left
             ·rw [if_neg c47] at H
              exact absurd H (by simp)
             rw [if_pos c47] at H
             have c47b0 := eq_true c47
             have c47b1 : decide (0 ≤ x13_4) = true := decide_eq_true c47
             clear c47
             by_cases c48 : x13_4 ≤ (x10_2.length : Int)
             rotate_left
             ·rw [if_neg c48] at H
              exact absurd H (by simp)
             rw [if_pos c48] at H
             have c48b0 := eq_true c48
             have c48b1 : decide (x13_4 ≤ (x10_2.length : Int)) = true := decide_eq_true c48
             clear c48
             obtain ⟨y236, hy236⟩ : ∃ y_ : List (S48), y_ = (x10_2.take (x13_4 : Int).toNat) := ⟨_, rfl⟩
             replace H : (if y233.length + y236.length < 5864062014805 then ((some (y233 ++ y236 : List (S48))).bind fun y240 => (if y240.length < 5864062014805 then ((some (y240 ++ [(⟨((rd_T48 t193 x34_2).f0), ((rd_T48 t193 x34_2).f1)⟩ : S48)] : List (S48))).bind fun y243 => ((some (x10_2.drop (x13_4 : Int).toNat : List (S48))).bind fun y246 => (if y243.length + y246.length < 5864062014805 then (spec_Suggest.l0 k4 a1 a2 (y243 ++ y246) t193 (t193.length : Int) (wrap64 (x34_2 + 1))) else (none)))) else (none))) else (none)) = some (r1, r2) := by first | (rw [hy236]; with_reducible exact H) | (have H2_ := (Option.bind_some _ _).symm.trans H; rw [hy236]; with_reducible exact H2_) | (have H2_ := (Option.bind_some _ _).symm.trans H; with_reducible exact H2_) | with_reducible exact H | (rw [hy236]; exact H) | exact H
             have Ny236 := Aside0.mk hy236
             clear hy236
             by_cases c49 : y233.length + y236.length < 5864062014805
             rotate_left
             ·rw [if_neg c49] at H
              exact absurd H (by simp)
             rw [if_pos c49] at H
             have LMc49 := Aside0.mk c49
             clear c49
             obtain ⟨y240, hy240⟩ : ∃ y_ : List (S48), y_ = (y233 ++ y236) := ⟨_, rfl⟩
             replace H : (if y240.length < 5864062014805 then ((some (y240 ++ [(⟨((rd_T48 t193 x34_2).f0), ((rd_T48 t193 x34_2).f1)⟩ : S48)] : List (S48))).bind fun y243 => ((some (x10_2.drop (x13_4 : Int).toNat : List (S48))).bind fun y246 => (if y243.length + y246.length < 5864062014805 then (spec_Suggest.l0 k4 a1 a2 (y243 ++ y246) t193 (t193.length : Int) (wrap64 (x34_2 + 1))) else (none)))) else (none)) = some (r1, r2) := by first | (rw [hy240]; with_reducible exact H) | (have H2_ := (Option.bind_some _ _).symm.trans H; rw [hy240]; with_reducible exact H2_) | (have H2_ := (Option.bind_some _ _).symm.trans H; with_reducible exact H2_) | with_reducible exact H | (rw [hy240]; exact H) | exact H
             have Ny240 := Aside0.mk hy240
             clear hy240
             by_cases c50 : y240.length < 5864062014805
             rotate_left
             ·rw [if_neg c50] at H
              exact absurd H (by simp)
             rw [if_pos c50] at H
             have LMc50 := Aside0.mk c50
             clear c50
             obtain ⟨y243, hy243⟩ : ∃ y_ : List (S48), y_ = (y240 ++ [(⟨((rd_T48 t193 x34_2).f0), ((rd_T48 t193 x34_2).f1)⟩ : S48)]) := ⟨_, rfl⟩
             replace H : ((some (x10_2.drop (x13_4 : Int).toNat : List (S48))).bind fun y246 => (if y243.length + y246.length < 5864062014805 then (spec_Suggest.l0 k4 a1 a2 (y243 ++ y246) t193 (t193.length : Int) (wrap64 (x34_2 + 1))) else (none))) = some (r1, r2) := by first | (rw [hy243]; with_reducible exact H) | (have H2_ := (Option.bind_some _ _).symm.trans H; rw [hy243]; with_reducible exact H2_) | (have H2_ := (Option.bind_some _ _).symm.trans H; with_reducible exact H2_) | with_reducible exact H | (rw [hy243]; exact H) | exact H
             have Ny243 := Aside0.mk hy243
             clear hy243
             have c51b0 := eq_true (sq_d : 0 ≤ x13_4)
             have c52b0 := eq_true (sq_d : x13_4 ≤ (x10_2.length : Int))
             obtain ⟨y246, hy246⟩ : ∃ y_ : List (S48), y_ = (x10_2.drop (x13_4 : Int).toNat) := ⟨_, rfl⟩
             replace H : (if y243.length + y246.length < 5864062014805 then (spec_Suggest.l0 k4 a1 a2 (y243 ++ y246) t193 (t193.length : Int) (wrap64 (x34_2 + 1))) else (none)) = some (r1, r2) := by first | (rw [hy246]; with_reducible exact H) | (have H2_ := (Option.bind_some _ _).symm.trans H; rw [hy246]; with_reducible exact H2_) | (have H2_ := (Option.bind_some _ _).symm.trans H; with_reducible exact H2_) | with_reducible exact H | (rw [hy246]; exact H) | exact H
             have Ny246 := Aside0.mk hy246
             clear hy246
             by_cases c53 : y243.length + y246.length < 5864062014805
             rotate_left
             ·rw [if_neg c53] at H
              exact absurd H (by simp)
             rw [if_pos c53] at H
             have LMc53 := Aside0.mk c53
             clear c53
             obtain ⟨y250, hy250⟩ : ∃ y_ : List (S48), y_ = (y243 ++ y246) := ⟨_, rfl⟩
             replace H : (spec_Suggest.l0 k4 a1 a2 y250 t193 (t193.length : Int) (wrap64 (x34_2 + 1))) = some (r1, r2) := by first | (rw [hy250]; with_reducible exact H) | (have H2_ := (Option.bind_some _ _).symm.trans H; rw [hy250]; with_reducible exact H2_) | (have H2_ := (Option.bind_some _ _).symm.trans H; with_reducible exact H2_) | with_reducible exact H | (rw [hy250]; exact H) | exact H
             have Ny250 := Aside0.mk hy250
             clear hy250
             have H' := Aside0.mk H
             clear H
             obtain ⟨Ao54, co54, eo54⟩ := Kd.R_slice HO_10.out
             subst eo54
             go_wp2_with (first | ((with_reducible refine gate_dst (N := 69) rfl ?_); (try (refine gate_guard (by rfl) ?_; dsimp only)); refine Kd.R_lit k48 _ 48 ?hg (N := 69) ?hd (xs := ([] : List (S48))) (inner := []) (ok := fun _ => True) (okp := fun _ => True) ?hr ?hp (fun _ hk => hk) trivial (Below.refl _ _) (Nat.le_refl _) (by simp) ?_; (case hd => rfl); (case hg => rfl); (case hr => first | (go_simp; done) | (go_simp; rfl)); (case hp => exact (Reps.none _ _)); intro v234 w55 ho56 hb hg_ hnew_; clear hg_ hnew_; (first | rw [← Ny233.out] at ho56 | (simp only [Int.reduceToNat] at ho56; rw [← Ny233.out] at ho56)); have n0_ := Aside0.mk (Kd.R_elder' (sq_r HO_10) (Kd.R_base ho56) hb); have n1_ := Aside0.mk (Kd.R_elder' (sq_r HO_32) (Kd.R_base ho56) hb); have n2_ := Aside0.mk (Kd.R_lower (Kd.R_newB (Kd.R_new' (Kd.R_new' ho56 (Kd.R_lt (sq_r HO_10))) (Kd.R_lt (sq_r HO_32))) (g := gb211) (o := .cells #[.string ((rd_T48 t193 x34_2).f0), .int .i64 ((rd_T48 t193 x34_2).f1)] 48 (0, 0)) (sq_l BK211)) (below_size (by repeat (first | (with_reducible first | exact HB.out | apply below_alloc | apply pw_below_drewN | apply below_drew1 | refine below_set ?_ GE211.out) | exact HB.out)))); have n3_ := Aside0.mk (blk_below (g := gb211) (o := .cells #[.string ((rd_T48 t193 x34_2).f0), .int .i64 ((rd_T48 t193 x34_2).f1)] 48 (0, 0)) (sq_l BK211) hb); have n4_ := Aside0.mk (below_step (by repeat (first | (with_reducible first | exact HB.out | apply below_alloc | apply pw_below_drewN | apply below_drew1 | refine below_set ?_ GE211.out) | exact HB.out)) hb); clear HO_10; clear HO_32; clear BK211; clear HB; have HO_10 := n0_; have HO_32 := n1_; have HO235 := n2_; have BK211 := n3_; have HB := n4_; clear n0_ n1_ n2_ n3_ n4_; clear hb ho56; have q57 : (x13_4 : Int) ≤ ((x10_2.length : Int) : Int) := sq_d; obtain ⟨i057, hi057, _, hsz57, _⟩ := info_parts info48; have hroom57 : x10_2.length ≤ co54 := (Kd.R_reads' HO_10.out).2.1; have hC57 : Kd.C k48 _ Ao54 x10_2.length x10_2 := (Kd.R_reads' HO_10.out).2.2; have hcut57 := cut_to (P := Try.prog) 27 48 .i64 Try.underlying27 hi057 Ao54 x10_2.length co54 x13_4 (sq_d) q57 hroom57; have hr57 := Kd.C_take (m := (x13_4 : Int).toNat) hC57 (by omega); have hy57 : y236.length = (x13_4 : Int).toNat := (by rw [Ny236.out, List.length_take]; omega); rw [← Ny236.out] at hr57; rw [← hy57] at hcut57; have HR239 := Aside0.mk hr57; have HC239 := Aside0.mk (show y236.length ≤ co54 from by omega); clear hr57 hC57 hroom57 hi057 hsz57; have KY57 := Aside0.mk hy57; clear hy57; have KL57 := Aside0.mk (show (x13_4 : Int).toNat ≤ x10_2.length from by omega); replace q57 := eq_true q57) | ((with_reducible refine gate_builtin (b := .append) (xs := #[.tmp 69, .tmp 72]) rfl ?_); (try (refine gate_guard (by rfl) ?_; dsimp only)); at_builtin; refine Kd.R_append_rows k48 (w0 := w) w.heap.size rfl (.tmp 69) (.tmp 72) 27 48 (.agg #[(.string ⟨#[]⟩), (.int .i64 0)]) 24 rfl Try.underlying27 info48 rfl (by decide) (by omega) v234 y233 y236 _ _ _ (fun k_ => some k_ ≠ (.slice Ao54 x10_2.length co54 : Value).ownBlock ∧ some k_ ≠ (.slice (some ad210) t193.length co12 : Value).ownBlock ∧ k_ ≠ gb211) (fun _ => False) rfl rfl ?aO ?aR (fun _ _ h => h) (fun _ h => h.elim) ?aF ?aB ?aS ?aL ?_; (case aR => repeat (first | exact (by repeat (first | (with_reducible exact HR239.out) | (with_reducible refine Kd.C_alloc ?_ _) | (with_reducible refine Kd.C_drewN ?_ _) | (with_reducible refine Kd.C_drew ?_) | exact HR239.out)) | (with_reducible refine Kd.C_alloc ?_ _) | (with_reducible refine Kd.C_drewN ?_ _) | (with_reducible refine Kd.C_drew ?_))); (case aB => exact (by repeat (first | (with_reducible first | exact HB.out | apply below_alloc | apply pw_below_drewN | apply below_drew1 | refine below_set ?_ GE211.out) | exact HB.out))); (case aF => exact (fun k_ hk => ⟨Kd.fresh' (Kd.R_lt (sq_r HO_10)) k_ hk, Kd.fresh' (Kd.R_lt (sq_r HO_32)) k_ hk, Kd.freshB (g := gb211) (o := .cells #[.string ((rd_T48 t193 x34_2).f0), .int .i64 ((rd_T48 t193 x34_2).f1)] 48 (0, 0)) (sq_l BK211) k_ hk⟩)); (case aO => exact (by (with_reducible repeat (first | apply Kd.R_alloc | apply Kd.R_drewN | apply Kd.R_drew)); exact Kd.R_mono HO235.out (fun _ hk => ⟨hk.1.1.2, ⟨hk.1.2, hk.2⟩⟩))); (case aS => exact (below_size (by repeat (first | (with_reducible first | exact HB.out | apply below_alloc | apply pw_below_drewN | apply below_drew1 | refine below_set ?_ GE211.out) | exact HB.out)))); (case aL => have := LMc49.out; omega); intro v241 w58 ho hb hg hat; rw [← Ny240.out] at ho; have n0_ := Aside0.mk (Kd.R_after (ok := (fun k_ => some k_ ≠ (.slice (some ad210) t193.length co12 : Value).ownBlock ∧ k_ ≠ gb211)) (sq_r HO_10) hg hat); have n1_ := Aside0.mk (Kd.R_after (ok := (fun k_ => some k_ ≠ (.slice Ao54 x10_2.length co54 : Value).ownBlock ∧ k_ ≠ gb211)) (sq_r HO_32) hg hat); have n2_ := Aside0.mk (blk_grown (g := gb211) (o := .cells #[.string ((rd_T48 t193 x34_2).f0), .int .i64 ((rd_T48 t193 x34_2).f1)] 48 (0, 0)) (sq_l BK211) hg (Kd.R_away HO235.out (fun _ hk => hk.2))); have n3_ := Aside0.mk (hb); have n4_ := Aside0.mk ((show Kd.C k48 w58 Ao54 y236.length y236 from by rw [Ny236.out]; exact Kd.C_take (m := (x13_4 : Int).toNat) ((Kd.R_reads' (Kd.R_after (ok := (fun k_ => some k_ ≠ (.slice (some ad210) t193.length co12 : Value).ownBlock ∧ k_ ≠ gb211)) (sq_r HO_10) hg hat)).2.2) KL57.out)); have n5_ := Aside0.mk (ho); clear HO_10; clear HO_32; clear BK211; clear HB; clear HR239; clear HO235; have HO_10 := n0_; have HO_32 := n1_; have BK211 := n2_; have HB := n3_; have HR239 := n4_; have HO242 := n5_; clear n0_ n1_ n2_ n3_ n4_ n5_; clear ho hb hg hat; have hcz59_0 : w58.cell? ⟨gb211, 0, none⟩ = some (.string ((rd_T48 t193 x34_2).f0)) := (blk_cell BK211.out 0).trans rfl; have hcz59_1 : w58.cell? ⟨gb211, 1, none⟩ = some (.int .i64 ((rd_T48 t193 x34_2).f1)) := (blk_cell BK211.out 1).trans rfl; have hfz59_0 := blk_frozen BK211.out 0; have hfz59_1 := blk_frozen BK211.out 1) | ((with_reducible refine gate_builtin (b := .append) (xs := #[.tmp 74, .tmp 76]) rfl ?_); (try (refine gate_guard (by rfl) ?_; dsimp only)); at_builtin; refine Kd.R_append k48 (w0 := w) w.heap.size rfl (.tmp 74) (.tmp 76) 27 48 (.agg #[(.string ⟨#[]⟩), (.int .i64 0)]) 24 rfl Try.underlying27 info48 rfl (by decide) (by omega) v241 y240 (⟨((rd_T48 t193 x34_2).f0), ((rd_T48 t193 x34_2).f1)⟩ : S48) [.string ((rd_T48 t193 x34_2).f0), .int .i64 ((rd_T48 t193 x34_2).f1)] (fun k_ => some k_ ≠ (.slice Ao54 x10_2.length co54 : Value).ownBlock ∧ some k_ ≠ (.slice (some ad210) t193.length co12 : Value).ownBlock ∧ k_ ≠ gb211) (fun _ => False) rfl rfl ?aP (fun _ hk => hk.elim) ?aF ?aO ?aB ?aS ?aL ?_; (case aP => exact k48_mkM _ _ _ (⟨((rd_T48 t193 x34_2).f0), ((rd_T48 t193 x34_2).f1)⟩ : S48)); (case aB => exact (by repeat (first | (with_reducible first | exact HB.out | apply below_alloc | apply pw_below_drewN | apply below_drew1 | refine below_set ?_ GE211.out) | exact HB.out))); (case aF => exact (fun k_ hk => ⟨Kd.fresh' (Kd.R_lt (sq_r HO_10)) k_ hk, Kd.fresh' (Kd.R_lt (sq_r HO_32)) k_ hk, Kd.freshB (g := gb211) (o := .cells #[.string ((rd_T48 t193 x34_2).f0), .int .i64 ((rd_T48 t193 x34_2).f1)] 48 (0, 0)) (sq_l BK211) k_ hk⟩)); (case aO => exact (sq_r HO242)); (case aS => exact (below_size (by repeat (first | (with_reducible first | exact HB.out | apply below_alloc | apply pw_below_drewN | apply below_drew1 | refine below_set ?_ GE211.out) | exact HB.out)))); (case aL => have := LMc50.out; omega); intro v244 w60 ho hb hg hat; rw [← Ny243.out] at ho; have n0_ := Aside0.mk (Kd.R_after (ok := (fun k_ => some k_ ≠ (.slice (some ad210) t193.length co12 : Value).ownBlock ∧ k_ ≠ gb211)) (sq_r HO_10) hg hat); have n1_ := Aside0.mk (Kd.R_after (ok := (fun k_ => some k_ ≠ (.slice Ao54 x10_2.length co54 : Value).ownBlock ∧ k_ ≠ gb211)) (sq_r HO_32) hg hat); have n2_ := Aside0.mk (blk_grown (g := gb211) (o := .cells #[.string ((rd_T48 t193 x34_2).f0), .int .i64 ((rd_T48 t193 x34_2).f1)] 48 (0, 0)) (sq_l BK211) hg (Kd.R_away HO242.out (fun _ hk => hk.2.2))); have n3_ := Aside0.mk (hb); have n4_ := Aside0.mk ((show Kd.C k48 w60 Ao54 y236.length y236 from by rw [Ny236.out]; exact Kd.C_take (m := (x13_4 : Int).toNat) ((Kd.R_reads' (Kd.R_after (ok := (fun k_ => some k_ ≠ (.slice (some ad210) t193.length co12 : Value).ownBlock ∧ k_ ≠ gb211)) (sq_r HO_10) hg hat)).2.2) KL57.out)); have n5_ := Aside0.mk (ho); clear HO_10; clear HO_32; clear BK211; clear HB; clear HR239; clear HO242; have HO_10 := n0_; have HO_32 := n1_; have BK211 := n2_; have HB := n3_; have HR239 := n4_; have HO245 := n5_; clear n0_ n1_ n2_ n3_ n4_ n5_; clear ho hb hg hat; have q61 : (x13_4 : Int) ≤ ((x10_2.length : Int) : Int) := sq_d; obtain ⟨i061, hi061, _, hsz61, _⟩ := info_parts info48; have hroom61 : x10_2.length ≤ co54 := (Kd.R_reads' HO_10.out).2.1; have hC61 : Kd.C k48 _ Ao54 x10_2.length x10_2 := (Kd.R_reads' HO_10.out).2.2; have q061 : (0 : Int) ≤ (x13_4 : Int) := sq_d; have hcut61 := cut_from (P := Try.prog) 27 48 .i64 Try.underlying27 hi061 2 hsz61 Ao54 x10_2.length co54 x13_4 q061 q61; have hr61 := Kd.C_drop (m := (x13_4 : Int).toNat) (c := co54) hC61 (by omega) hroom61; obtain ⟨A61, hA61⟩ : ∃ A1, A1 = (if co54 = (x13_4 : Int).toNat then Ao54 else (Ao54 : Option Addr).map (·.add ((x13_4 : Int).toNat * 2))) := ⟨_, rfl⟩; obtain ⟨c61, hc61⟩ : ∃ c1, c1 = co54 - (x13_4 : Int).toNat := ⟨_, rfl⟩; have hy61 : y246.length = x10_2.length - (x13_4 : Int).toNat := (by rw [Ny246.out, List.length_drop] <;> omega); rw [show (x10_2).drop (x13_4 : Int).toNat = y246 from Ny246.out.symm] at hr61; replace hr61 : Kd.C k48 _ A61 y246.length y246 := (by rw [hA61]; exact hr61); rw [← hy61, ← hA61, ← hc61] at hcut61; have HR249 := Aside0.mk hr61; have HC249 := Aside0.mk (show y246.length ≤ c61 from by rw [hy61, hc61]; exact Nat.sub_le_sub_right hroom61 _); clear hr61 hC61 hroom61 hi061 hsz61 hc61; have KY61 := Aside0.mk hy61; have KA61 := Aside0.mk hA61; clear hy61 hA61; have KL61 := Aside0.mk (show (x13_4 : Int).toNat ≤ x10_2.length from by omega); replace q61 := eq_true q61) | ((with_reducible refine gate_builtin (b := .append) (xs := #[.tmp 78, .tmp 81]) rfl ?_); (try (refine gate_guard (by rfl) ?_; dsimp only)); at_builtin; refine Kd.R_append_rows k48 (w0 := w) w.heap.size rfl (.tmp 78) (.tmp 81) 27 48 (.agg #[(.string ⟨#[]⟩), (.int .i64 0)]) 24 rfl Try.underlying27 info48 rfl (by decide) (by omega) v244 y243 y246 _ _ _ (fun k_ => some k_ ≠ (.slice Ao54 x10_2.length co54 : Value).ownBlock ∧ some k_ ≠ (.slice (some ad210) t193.length co12 : Value).ownBlock ∧ k_ ≠ gb211) (fun _ => False) rfl rfl ?aO ?aR (fun _ _ h => h) (fun _ h => h.elim) ?aF ?aB ?aS ?aL ?_; (case aR => repeat (first | exact (by repeat (first | (with_reducible exact HR249.out) | (with_reducible refine Kd.C_alloc ?_ _) | (with_reducible refine Kd.C_drewN ?_ _) | (with_reducible refine Kd.C_drew ?_) | exact HR249.out)) | (with_reducible refine Kd.C_alloc ?_ _) | (with_reducible refine Kd.C_drewN ?_ _) | (with_reducible refine Kd.C_drew ?_))); (case aB => exact (by repeat (first | (with_reducible first | exact HB.out | apply below_alloc | apply pw_below_drewN | apply below_drew1 | refine below_set ?_ GE211.out) | exact HB.out))); (case aF => exact (fun k_ hk => ⟨Kd.fresh' (Kd.R_lt (sq_r HO_10)) k_ hk, Kd.fresh' (Kd.R_lt (sq_r HO_32)) k_ hk, Kd.freshB (g := gb211) (o := .cells #[.string ((rd_T48 t193 x34_2).f0), .int .i64 ((rd_T48 t193 x34_2).f1)] 48 (0, 0)) (sq_l BK211) k_ hk⟩)); (case aO => exact (sq_r HO245)); (case aS => exact (below_size (by repeat (first | (with_reducible first | exact HB.out | apply below_alloc | apply pw_below_drewN | apply below_drew1 | refine below_set ?_ GE211.out) | exact HB.out)))); (case aL => have := LMc53.out; omega); intro v251 w62 ho hb hg hat; rw [← Ny250.out] at ho; have n0_ := Aside0.mk (Kd.R_after (ok := (fun k_ => some k_ ≠ (.slice (some ad210) t193.length co12 : Value).ownBlock ∧ k_ ≠ gb211)) (sq_r HO_10) hg hat); have n1_ := Aside0.mk (Kd.R_after (ok := (fun k_ => some k_ ≠ (.slice Ao54 x10_2.length co54 : Value).ownBlock ∧ k_ ≠ gb211)) (sq_r HO_32) hg hat); have n2_ := Aside0.mk (blk_grown (g := gb211) (o := .cells #[.string ((rd_T48 t193 x34_2).f0), .int .i64 ((rd_T48 t193 x34_2).f1)] 48 (0, 0)) (sq_l BK211) hg (Kd.R_away HO245.out (fun _ hk => hk.2.2))); have n3_ := Aside0.mk (hb); have n4_ := Aside0.mk ((show Kd.C k48 w62 Ao54 y236.length y236 from by rw [Ny236.out]; exact Kd.C_take (m := (x13_4 : Int).toNat) ((Kd.R_reads' (Kd.R_after (ok := (fun k_ => some k_ ≠ (.slice (some ad210) t193.length co12 : Value).ownBlock ∧ k_ ≠ gb211)) (sq_r HO_10) hg hat)).2.2) KL57.out)); have n5_ := Aside0.mk ((show Kd.C k48 w62 A61 y246.length y246 from by rw [Ny246.out, KA61.out]; exact Kd.C_drop (m := (x13_4 : Int).toNat) (c := co54) ((Kd.R_reads' (Kd.R_after (ok := (fun k_ => some k_ ≠ (.slice (some ad210) t193.length co12 : Value).ownBlock ∧ k_ ≠ gb211)) (sq_r HO_10) hg hat)).2.2) KL61.out ((Kd.R_reads' (Kd.R_after (ok := (fun k_ => some k_ ≠ (.slice (some ad210) t193.length co12 : Value).ownBlock ∧ k_ ≠ gb211)) (sq_r HO_10) hg hat)).2.1))); have n6_ := Aside0.mk (ho); clear HO_10; clear HO_32; clear BK211; clear HB; clear HR239; clear HR249; clear HO245; have HO_10 := n0_; have HO_32 := n1_; have BK211 := n2_; have HB := n3_; have HR239 := n4_; have HR249 := n5_; have HO252 := n6_; clear n0_ n1_ n2_ n3_ n4_ n5_ n6_; clear ho hb hg hat))
             repeat (go_quiet (first | ((with_reducible refine gate_dst (N := 69) rfl ?_); (try (refine gate_guard (by rfl) ?_; dsimp only)); refine Kd.R_lit k48 _ 48 ?hg (N := 69) ?hd (xs := ([] : List (S48))) (inner := []) (ok := fun _ => True) (okp := fun _ => True) ?hr ?hp (fun _ hk => hk) trivial (Below.refl _ _) (Nat.le_refl _) (by simp) ?_; (case hd => rfl); (case hg => rfl); (case hr => first | (go_simp; done) | (go_simp; rfl)); (case hp => exact (Reps.none _ _)); intro v234 w55 ho56 hb hg_ hnew_; clear hg_ hnew_; (first | rw [← Ny233.out] at ho56 | (simp only [Int.reduceToNat] at ho56; rw [← Ny233.out] at ho56)); have n0_ := Aside0.mk (Kd.R_elder' (sq_r HO_10) (Kd.R_base ho56) hb); have n1_ := Aside0.mk (Kd.R_elder' (sq_r HO_32) (Kd.R_base ho56) hb); have n2_ := Aside0.mk (Kd.R_lower (Kd.R_newB (Kd.R_new' (Kd.R_new' ho56 (Kd.R_lt (sq_r HO_10))) (Kd.R_lt (sq_r HO_32))) (g := gb211) (o := .cells #[.string ((rd_T48 t193 x34_2).f0), .int .i64 ((rd_T48 t193 x34_2).f1)] 48 (0, 0)) (sq_l BK211)) (below_size (by repeat (first | (with_reducible first | exact HB.out | apply below_alloc | apply pw_below_drewN | apply below_drew1 | refine below_set ?_ GE211.out) | exact HB.out)))); have n3_ := Aside0.mk (blk_below (g := gb211) (o := .cells #[.string ((rd_T48 t193 x34_2).f0), .int .i64 ((rd_T48 t193 x34_2).f1)] 48 (0, 0)) (sq_l BK211) hb); have n4_ := Aside0.mk (below_step (by repeat (first | (with_reducible first | exact HB.out | apply below_alloc | apply pw_below_drewN | apply below_drew1 | refine below_set ?_ GE211.out) | exact HB.out)) hb); clear HO_10; clear HO_32; clear BK211; clear HB; have HO_10 := n0_; have HO_32 := n1_; have HO235 := n2_; have BK211 := n3_; have HB := n4_; clear n0_ n1_ n2_ n3_ n4_; clear hb ho56; have q57 : (x13_4 : Int) ≤ ((x10_2.length : Int) : Int) := sq_d; obtain ⟨i057, hi057, _, hsz57, _⟩ := info_parts info48; have hroom57 : x10_2.length ≤ co54 := (Kd.R_reads' HO_10.out).2.1; have hC57 : Kd.C k48 _ Ao54 x10_2.length x10_2 := (Kd.R_reads' HO_10.out).2.2; have hcut57 := cut_to (P := Try.prog) 27 48 .i64 Try.underlying27 hi057 Ao54 x10_2.length co54 x13_4 (sq_d) q57 hroom57; have hr57 := Kd.C_take (m := (x13_4 : Int).toNat) hC57 (by omega); have hy57 : y236.length = (x13_4 : Int).toNat := (by rw [Ny236.out, List.length_take]; omega); rw [← Ny236.out] at hr57; rw [← hy57] at hcut57; have HR239 := Aside0.mk hr57; have HC239 := Aside0.mk (show y236.length ≤ co54 from by omega); clear hr57 hC57 hroom57 hi057 hsz57; have KY57 := Aside0.mk hy57; clear hy57; have KL57 := Aside0.mk (show (x13_4 : Int).toNat ≤ x10_2.length from by omega); replace q57 := eq_true q57) | ((with_reducible refine gate_builtin (b := .append) (xs := #[.tmp 69, .tmp 72]) rfl ?_); (try (refine gate_guard (by rfl) ?_; dsimp only)); at_builtin; refine Kd.R_append_rows k48 (w0 := w) w.heap.size rfl (.tmp 69) (.tmp 72) 27 48 (.agg #[(.string ⟨#[]⟩), (.int .i64 0)]) 24 rfl Try.underlying27 info48 rfl (by decide) (by omega) v234 y233 y236 _ _ _ (fun k_ => some k_ ≠ (.slice Ao54 x10_2.length co54 : Value).ownBlock ∧ some k_ ≠ (.slice (some ad210) t193.length co12 : Value).ownBlock ∧ k_ ≠ gb211) (fun _ => False) rfl rfl ?aO ?aR (fun _ _ h => h) (fun _ h => h.elim) ?aF ?aB ?aS ?aL ?_; (case aR => repeat (first | exact (by repeat (first | (with_reducible exact HR239.out) | (with_reducible refine Kd.C_alloc ?_ _) | (with_reducible refine Kd.C_drewN ?_ _) | (with_reducible refine Kd.C_drew ?_) | exact HR239.out)) | (with_reducible refine Kd.C_alloc ?_ _) | (with_reducible refine Kd.C_drewN ?_ _) | (with_reducible refine Kd.C_drew ?_))); (case aB => exact (by repeat (first | (with_reducible first | exact HB.out | apply below_alloc | apply pw_below_drewN | apply below_drew1 | refine below_set ?_ GE211.out) | exact HB.out))); (case aF => exact (fun k_ hk => ⟨Kd.fresh' (Kd.R_lt (sq_r HO_10)) k_ hk, Kd.fresh' (Kd.R_lt (sq_r HO_32)) k_ hk, Kd.freshB (g := gb211) (o := .cells #[.string ((rd_T48 t193 x34_2).f0), .int .i64 ((rd_T48 t193 x34_2).f1)] 48 (0, 0)) (sq_l BK211) k_ hk⟩)); (case aO => exact (by (with_reducible repeat (first | apply Kd.R_alloc | apply Kd.R_drewN | apply Kd.R_drew)); exact Kd.R_mono HO235.out (fun _ hk => ⟨hk.1.1.2, ⟨hk.1.2, hk.2⟩⟩))); (case aS => exact (below_size (by repeat (first | (with_reducible first | exact HB.out | apply below_alloc | apply pw_below_drewN | apply below_drew1 | refine below_set ?_ GE211.out) | exact HB.out)))); (case aL => have := LMc49.out; omega); intro v241 w58 ho hb hg hat; rw [← Ny240.out] at ho; have n0_ := Aside0.mk (Kd.R_after (ok := (fun k_ => some k_ ≠ (.slice (some ad210) t193.length co12 : Value).ownBlock ∧ k_ ≠ gb211)) (sq_r HO_10) hg hat); have n1_ := Aside0.mk (Kd.R_after (ok := (fun k_ => some k_ ≠ (.slice Ao54 x10_2.length co54 : Value).ownBlock ∧ k_ ≠ gb211)) (sq_r HO_32) hg hat); have n2_ := Aside0.mk (blk_grown (g := gb211) (o := .cells #[.string ((rd_T48 t193 x34_2).f0), .int .i64 ((rd_T48 t193 x34_2).f1)] 48 (0, 0)) (sq_l BK211) hg (Kd.R_away HO235.out (fun _ hk => hk.2))); have n3_ := Aside0.mk (hb); have n4_ := Aside0.mk ((show Kd.C k48 w58 Ao54 y236.length y236 from by rw [Ny236.out]; exact Kd.C_take (m := (x13_4 : Int).toNat) ((Kd.R_reads' (Kd.R_after (ok := (fun k_ => some k_ ≠ (.slice (some ad210) t193.length co12 : Value).ownBlock ∧ k_ ≠ gb211)) (sq_r HO_10) hg hat)).2.2) KL57.out)); have n5_ := Aside0.mk (ho); clear HO_10; clear HO_32; clear BK211; clear HB; clear HR239; clear HO235; have HO_10 := n0_; have HO_32 := n1_; have BK211 := n2_; have HB := n3_; have HR239 := n4_; have HO242 := n5_; clear n0_ n1_ n2_ n3_ n4_ n5_; clear ho hb hg hat; have hcz59_0 : w58.cell? ⟨gb211, 0, none⟩ = some (.string ((rd_T48 t193 x34_2).f0)) := (blk_cell BK211.out 0).trans rfl; have hcz59_1 : w58.cell? ⟨gb211, 1, none⟩ = some (.int .i64 ((rd_T48 t193 x34_2).f1)) := (blk_cell BK211.out 1).trans rfl; have hfz59_0 := blk_frozen BK211.out 0; have hfz59_1 := blk_frozen BK211.out 1) | ((with_reducible refine gate_builtin (b := .append) (xs := #[.tmp 74, .tmp 76]) rfl ?_); (try (refine gate_guard (by rfl) ?_; dsimp only)); at_builtin; refine Kd.R_append k48 (w0 := w) w.heap.size rfl (.tmp 74) (.tmp 76) 27 48 (.agg #[(.string ⟨#[]⟩), (.int .i64 0)]) 24 rfl Try.underlying27 info48 rfl (by decide) (by omega) v241 y240 (⟨((rd_T48 t193 x34_2).f0), ((rd_T48 t193 x34_2).f1)⟩ : S48) [.string ((rd_T48 t193 x34_2).f0), .int .i64 ((rd_T48 t193 x34_2).f1)] (fun k_ => some k_ ≠ (.slice Ao54 x10_2.length co54 : Value).ownBlock ∧ some k_ ≠ (.slice (some ad210) t193.length co12 : Value).ownBlock ∧ k_ ≠ gb211) (fun _ => False) rfl rfl ?aP (fun _ hk => hk.elim) ?aF ?aO ?aB ?aS ?aL ?_; (case aP => exact k48_mkM _ _ _ (⟨((rd_T48 t193 x34_2).f0), ((rd_T48 t193 x34_2).f1)⟩ : S48)); (case aB => exact (by repeat (first | (with_reducible first | exact HB.out | apply below_alloc | apply pw_below_drewN | apply below_drew1 | refine below_set ?_ GE211.out) | exact HB.out))); (case aF => exact (fun k_ hk => ⟨Kd.fresh' (Kd.R_lt (sq_r HO_10)) k_ hk, Kd.fresh' (Kd.R_lt (sq_r HO_32)) k_ hk, Kd.freshB (g := gb211) (o := .cells #[.string ((rd_T48 t193 x34_2).f0), .int .i64 ((rd_T48 t193 x34_2).f1)] 48 (0, 0)) (sq_l BK211) k_ hk⟩)); (case aO => exact (sq_r HO242)); (case aS => exact (below_size (by repeat (first | (with_reducible first | exact HB.out | apply below_alloc | apply pw_below_drewN | apply below_drew1 | refine below_set ?_ GE211.out) | exact HB.out)))); (case aL => have := LMc50.out; omega); intro v244 w60 ho hb hg hat; rw [← Ny243.out] at ho; have n0_ := Aside0.mk (Kd.R_after (ok := (fun k_ => some k_ ≠ (.slice (some ad210) t193.length co12 : Value).ownBlock ∧ k_ ≠ gb211)) (sq_r HO_10) hg hat); have n1_ := Aside0.mk (Kd.R_after (ok := (fun k_ => some k_ ≠ (.slice Ao54 x10_2.length co54 : Value).ownBlock ∧ k_ ≠ gb211)) (sq_r HO_32) hg hat); have n2_ := Aside0.mk (blk_grown (g := gb211) (o := .cells #[.string ((rd_T48 t193 x34_2).f0), .int .i64 ((rd_T48 t193 x34_2).f1)] 48 (0, 0)) (sq_l BK211) hg (Kd.R_away HO242.out (fun _ hk => hk.2.2))); have n3_ := Aside0.mk (hb); have n4_ := Aside0.mk ((show Kd.C k48 w60 Ao54 y236.length y236 from by rw [Ny236.out]; exact Kd.C_take (m := (x13_4 : Int).toNat) ((Kd.R_reads' (Kd.R_after (ok := (fun k_ => some k_ ≠ (.slice (some ad210) t193.length co12 : Value).ownBlock ∧ k_ ≠ gb211)) (sq_r HO_10) hg hat)).2.2) KL57.out)); have n5_ := Aside0.mk (ho); clear HO_10; clear HO_32; clear BK211; clear HB; clear HR239; clear HO242; have HO_10 := n0_; have HO_32 := n1_; have BK211 := n2_; have HB := n3_; have HR239 := n4_; have HO245 := n5_; clear n0_ n1_ n2_ n3_ n4_ n5_; clear ho hb hg hat; have q61 : (x13_4 : Int) ≤ ((x10_2.length : Int) : Int) := sq_d; obtain ⟨i061, hi061, _, hsz61, _⟩ := info_parts info48; have hroom61 : x10_2.length ≤ co54 := (Kd.R_reads' HO_10.out).2.1; have hC61 : Kd.C k48 _ Ao54 x10_2.length x10_2 := (Kd.R_reads' HO_10.out).2.2; have q061 : (0 : Int) ≤ (x13_4 : Int) := sq_d; have hcut61 := cut_from (P := Try.prog) 27 48 .i64 Try.underlying27 hi061 2 hsz61 Ao54 x10_2.length co54 x13_4 q061 q61; have hr61 := Kd.C_drop (m := (x13_4 : Int).toNat) (c := co54) hC61 (by omega) hroom61; obtain ⟨A61, hA61⟩ : ∃ A1, A1 = (if co54 = (x13_4 : Int).toNat then Ao54 else (Ao54 : Option Addr).map (·.add ((x13_4 : Int).toNat * 2))) := ⟨_, rfl⟩; obtain ⟨c61, hc61⟩ : ∃ c1, c1 = co54 - (x13_4 : Int).toNat := ⟨_, rfl⟩; have hy61 : y246.length = x10_2.length - (x13_4 : Int).toNat := (by rw [Ny246.out, List.length_drop] <;> omega); rw [show (x10_2).drop (x13_4 : Int).toNat = y246 from Ny246.out.symm] at hr61; replace hr61 : Kd.C k48 _ A61 y246.length y246 := (by rw [hA61]; exact hr61); rw [← hy61, ← hA61, ← hc61] at hcut61; have HR249 := Aside0.mk hr61; have HC249 := Aside0.mk (show y246.length ≤ c61 from by rw [hy61, hc61]; exact Nat.sub_le_sub_right hroom61 _); clear hr61 hC61 hroom61 hi061 hsz61 hc61; have KY61 := Aside0.mk hy61; have KA61 := Aside0.mk hA61; clear hy61 hA61; have KL61 := Aside0.mk (show (x13_4 : Int).toNat ≤ x10_2.length from by omega); replace q61 := eq_true q61) | ((with_reducible refine gate_builtin (b := .append) (xs := #[.tmp 78, .tmp 81]) rfl ?_); (try (refine gate_guard (by rfl) ?_; dsimp only)); at_builtin; refine Kd.R_append_rows k48 (w0 := w) w.heap.size rfl (.tmp 78) (.tmp 81) 27 48 (.agg #[(.string ⟨#[]⟩), (.int .i64 0)]) 24 rfl Try.underlying27 info48 rfl (by decide) (by omega) v244 y243 y246 _ _ _ (fun k_ => some k_ ≠ (.slice Ao54 x10_2.length co54 : Value).ownBlock ∧ some k_ ≠ (.slice (some ad210) t193.length co12 : Value).ownBlock ∧ k_ ≠ gb211) (fun _ => False) rfl rfl ?aO ?aR (fun _ _ h => h) (fun _ h => h.elim) ?aF ?aB ?aS ?aL ?_; (case aR => repeat (first | exact (by repeat (first | (with_reducible exact HR249.out) | (with_reducible refine Kd.C_alloc ?_ _) | (with_reducible refine Kd.C_drewN ?_ _) | (with_reducible refine Kd.C_drew ?_) | exact HR249.out)) | (with_reducible refine Kd.C_alloc ?_ _) | (with_reducible refine Kd.C_drewN ?_ _) | (with_reducible refine Kd.C_drew ?_))); (case aB => exact (by repeat (first | (with_reducible first | exact HB.out | apply below_alloc | apply pw_below_drewN | apply below_drew1 | refine below_set ?_ GE211.out) | exact HB.out))); (case aF => exact (fun k_ hk => ⟨Kd.fresh' (Kd.R_lt (sq_r HO_10)) k_ hk, Kd.fresh' (Kd.R_lt (sq_r HO_32)) k_ hk, Kd.freshB (g := gb211) (o := .cells #[.string ((rd_T48 t193 x34_2).f0), .int .i64 ((rd_T48 t193 x34_2).f1)] 48 (0, 0)) (sq_l BK211) k_ hk⟩)); (case aO => exact (sq_r HO245)); (case aS => exact (below_size (by repeat (first | (with_reducible first | exact HB.out | apply below_alloc | apply pw_below_drewN | apply below_drew1 | refine below_set ?_ GE211.out) | exact HB.out)))); (case aL => have := LMc53.out; omega); intro v251 w62 ho hb hg hat; rw [← Ny250.out] at ho; have n0_ := Aside0.mk (Kd.R_after (ok := (fun k_ => some k_ ≠ (.slice (some ad210) t193.length co12 : Value).ownBlock ∧ k_ ≠ gb211)) (sq_r HO_10) hg hat); have n1_ := Aside0.mk (Kd.R_after (ok := (fun k_ => some k_ ≠ (.slice Ao54 x10_2.length co54 : Value).ownBlock ∧ k_ ≠ gb211)) (sq_r HO_32) hg hat); have n2_ := Aside0.mk (blk_grown (g := gb211) (o := .cells #[.string ((rd_T48 t193 x34_2).f0), .int .i64 ((rd_T48 t193 x34_2).f1)] 48 (0, 0)) (sq_l BK211) hg (Kd.R_away HO245.out (fun _ hk => hk.2.2))); have n3_ := Aside0.mk (hb); have n4_ := Aside0.mk ((show Kd.C k48 w62 Ao54 y236.length y236 from by rw [Ny236.out]; exact Kd.C_take (m := (x13_4 : Int).toNat) ((Kd.R_reads' (Kd.R_after (ok := (fun k_ => some k_ ≠ (.slice (some ad210) t193.length co12 : Value).ownBlock ∧ k_ ≠ gb211)) (sq_r HO_10) hg hat)).2.2) KL57.out)); have n5_ := Aside0.mk ((show Kd.C k48 w62 A61 y246.length y246 from by rw [Ny246.out, KA61.out]; exact Kd.C_drop (m := (x13_4 : Int).toNat) (c := co54) ((Kd.R_reads' (Kd.R_after (ok := (fun k_ => some k_ ≠ (.slice (some ad210) t193.length co12 : Value).ownBlock ∧ k_ ≠ gb211)) (sq_r HO_10) hg hat)).2.2) KL61.out ((Kd.R_reads' (Kd.R_after (ok := (fun k_ => some k_ ≠ (.slice (some ad210) t193.length co12 : Value).ownBlock ∧ k_ ≠ gb211)) (sq_r HO_10) hg hat)).2.1))); have n6_ := Aside0.mk (ho); clear HO_10; clear HO_32; clear BK211; clear HB; clear HR239; clear HR249; clear HO245; have HO_10 := n0_; have HO_32 := n1_; have BK211 := n2_; have HB := n3_; have HR239 := n4_; have HR249 := n5_; have HO252 := n6_; clear n0_ n1_ n2_ n3_ n4_ n5_ n6_; clear ho hb hg hat)); try go_wp2_with (first | ((with_reducible refine gate_dst (N := 69) rfl ?_); (try (refine gate_guard (by rfl) ?_; dsimp only)); refine Kd.R_lit k48 _ 48 ?hg (N := 69) ?hd (xs := ([] : List (S48))) (inner := []) (ok := fun _ => True) (okp := fun _ => True) ?hr ?hp (fun _ hk => hk) trivial (Below.refl _ _) (Nat.le_refl _) (by simp) ?_; (case hd => rfl); (case hg => rfl); (case hr => first | (go_simp; done) | (go_simp; rfl)); (case hp => exact (Reps.none _ _)); intro v234 w55 ho56 hb hg_ hnew_; clear hg_ hnew_; (first | rw [← Ny233.out] at ho56 | (simp only [Int.reduceToNat] at ho56; rw [← Ny233.out] at ho56)); have n0_ := Aside0.mk (Kd.R_elder' (sq_r HO_10) (Kd.R_base ho56) hb); have n1_ := Aside0.mk (Kd.R_elder' (sq_r HO_32) (Kd.R_base ho56) hb); have n2_ := Aside0.mk (Kd.R_lower (Kd.R_newB (Kd.R_new' (Kd.R_new' ho56 (Kd.R_lt (sq_r HO_10))) (Kd.R_lt (sq_r HO_32))) (g := gb211) (o := .cells #[.string ((rd_T48 t193 x34_2).f0), .int .i64 ((rd_T48 t193 x34_2).f1)] 48 (0, 0)) (sq_l BK211)) (below_size (by repeat (first | (with_reducible first | exact HB.out | apply below_alloc | apply pw_below_drewN | apply below_drew1 | refine below_set ?_ GE211.out) | exact HB.out)))); have n3_ := Aside0.mk (blk_below (g := gb211) (o := .cells #[.string ((rd_T48 t193 x34_2).f0), .int .i64 ((rd_T48 t193 x34_2).f1)] 48 (0, 0)) (sq_l BK211) hb); have n4_ := Aside0.mk (below_step (by repeat (first | (with_reducible first | exact HB.out | apply below_alloc | apply pw_below_drewN | apply below_drew1 | refine below_set ?_ GE211.out) | exact HB.out)) hb); clear HO_10; clear HO_32; clear BK211; clear HB; have HO_10 := n0_; have HO_32 := n1_; have HO235 := n2_; have BK211 := n3_; have HB := n4_; clear n0_ n1_ n2_ n3_ n4_; clear hb ho56; have q57 : (x13_4 : Int) ≤ ((x10_2.length : Int) : Int) := sq_d; obtain ⟨i057, hi057, _, hsz57, _⟩ := info_parts info48; have hroom57 : x10_2.length ≤ co54 := (Kd.R_reads' HO_10.out).2.1; have hC57 : Kd.C k48 _ Ao54 x10_2.length x10_2 := (Kd.R_reads' HO_10.out).2.2; have hcut57 := cut_to (P := Try.prog) 27 48 .i64 Try.underlying27 hi057 Ao54 x10_2.length co54 x13_4 (sq_d) q57 hroom57; have hr57 := Kd.C_take (m := (x13_4 : Int).toNat) hC57 (by omega); have hy57 : y236.length = (x13_4 : Int).toNat := (by rw [Ny236.out, List.length_take]; omega); rw [← Ny236.out] at hr57; rw [← hy57] at hcut57; have HR239 := Aside0.mk hr57; have HC239 := Aside0.mk (show y236.length ≤ co54 from by omega); clear hr57 hC57 hroom57 hi057 hsz57; have KY57 := Aside0.mk hy57; clear hy57; have KL57 := Aside0.mk (show (x13_4 : Int).toNat ≤ x10_2.length from by omega); replace q57 := eq_true q57) | ((with_reducible refine gate_builtin (b := .append) (xs := #[.tmp 69, .tmp 72]) rfl ?_); (try (refine gate_guard (by rfl) ?_; dsimp only)); at_builtin; refine Kd.R_append_rows k48 (w0 := w) w.heap.size rfl (.tmp 69) (.tmp 72) 27 48 (.agg #[(.string ⟨#[]⟩), (.int .i64 0)]) 24 rfl Try.underlying27 info48 rfl (by decide) (by omega) v234 y233 y236 _ _ _ (fun k_ => some k_ ≠ (.slice Ao54 x10_2.length co54 : Value).ownBlock ∧ some k_ ≠ (.slice (some ad210) t193.length co12 : Value).ownBlock ∧ k_ ≠ gb211) (fun _ => False) rfl rfl ?aO ?aR (fun _ _ h => h) (fun _ h => h.elim) ?aF ?aB ?aS ?aL ?_; (case aR => repeat (first | exact (by repeat (first | (with_reducible exact HR239.out) | (with_reducible refine Kd.C_alloc ?_ _) | (with_reducible refine Kd.C_drewN ?_ _) | (with_reducible refine Kd.C_drew ?_) | exact HR239.out)) | (with_reducible refine Kd.C_alloc ?_ _) | (with_reducible refine Kd.C_drewN ?_ _) | (with_reducible refine Kd.C_drew ?_))); (case aB => exact (by repeat (first | (with_reducible first | exact HB.out | apply below_alloc | apply pw_below_drewN | apply below_drew1 | refine below_set ?_ GE211.out) | exact HB.out))); (case aF => exact (fun k_ hk => ⟨Kd.fresh' (Kd.R_lt (sq_r HO_10)) k_ hk, Kd.fresh' (Kd.R_lt (sq_r HO_32)) k_ hk, Kd.freshB (g := gb211) (o := .cells #[.string ((rd_T48 t193 x34_2).f0), .int .i64 ((rd_T48 t193 x34_2).f1)] 48 (0, 0)) (sq_l BK211) k_ hk⟩)); (case aO => exact (by (with_reducible repeat (first | apply Kd.R_alloc | apply Kd.R_drewN | apply Kd.R_drew)); exact Kd.R_mono HO235.out (fun _ hk => ⟨hk.1.1.2, ⟨hk.1.2, hk.2⟩⟩))); (case aS => exact (below_size (by repeat (first | (with_reducible first | exact HB.out | apply below_alloc | apply pw_below_drewN | apply below_drew1 | refine below_set ?_ GE211.out) | exact HB.out)))); (case aL => have := LMc49.out; omega); intro v241 w58 ho hb hg hat; rw [← Ny240.out] at ho; have n0_ := Aside0.mk (Kd.R_after (ok := (fun k_ => some k_ ≠ (.slice (some ad210) t193.length co12 : Value).ownBlock ∧ k_ ≠ gb211)) (sq_r HO_10) hg hat); have n1_ := Aside0.mk (Kd.R_after (ok := (fun k_ => some k_ ≠ (.slice Ao54 x10_2.length co54 : Value).ownBlock ∧ k_ ≠ gb211)) (sq_r HO_32) hg hat); have n2_ := Aside0.mk (blk_grown (g := gb211) (o := .cells #[.string ((rd_T48 t193 x34_2).f0), .int .i64 ((rd_T48 t193 x34_2).f1)] 48 (0, 0)) (sq_l BK211) hg (Kd.R_away HO235.out (fun _ hk => hk.2))); have n3_ := Aside0.mk (hb); have n4_ := Aside0.mk ((show Kd.C k48 w58 Ao54 y236.length y236 from by rw [Ny236.out]; exact Kd.C_take (m := (x13_4 : Int).toNat) ((Kd.R_reads' (Kd.R_after (ok := (fun k_ => some k_ ≠ (.slice (some ad210) t193.length co12 : Value).ownBlock ∧ k_ ≠ gb211)) (sq_r HO_10) hg hat)).2.2) KL57.out)); have n5_ := Aside0.mk (ho); clear HO_10; clear HO_32; clear BK211; clear HB; clear HR239; clear HO235; have HO_10 := n0_; have HO_32 := n1_; have BK211 := n2_; have HB := n3_; have HR239 := n4_; have HO242 := n5_; clear n0_ n1_ n2_ n3_ n4_ n5_; clear ho hb hg hat; have hcz59_0 : w58.cell? ⟨gb211, 0, none⟩ = some (.string ((rd_T48 t193 x34_2).f0)) := (blk_cell BK211.out 0).trans rfl; have hcz59_1 : w58.cell? ⟨gb211, 1, none⟩ = some (.int .i64 ((rd_T48 t193 x34_2).f1)) := (blk_cell BK211.out 1).trans rfl; have hfz59_0 := blk_frozen BK211.out 0; have hfz59_1 := blk_frozen BK211.out 1) | ((with_reducible refine gate_builtin (b := .append) (xs := #[.tmp 74, .tmp 76]) rfl ?_); (try (refine gate_guard (by rfl) ?_; dsimp only)); at_builtin; refine Kd.R_append k48 (w0 := w) w.heap.size rfl (.tmp 74) (.tmp 76) 27 48 (.agg #[(.string ⟨#[]⟩), (.int .i64 0)]) 24 rfl Try.underlying27 info48 rfl (by decide) (by omega) v241 y240 (⟨((rd_T48 t193 x34_2).f0), ((rd_T48 t193 x34_2).f1)⟩ : S48) [.string ((rd_T48 t193 x34_2).f0), .int .i64 ((rd_T48 t193 x34_2).f1)] (fun k_ => some k_ ≠ (.slice Ao54 x10_2.length co54 : Value).ownBlock ∧ some k_ ≠ (.slice (some ad210) t193.length co12 : Value).ownBlock ∧ k_ ≠ gb211) (fun _ => False) rfl rfl ?aP (fun _ hk => hk.elim) ?aF ?aO ?aB ?aS ?aL ?_; (case aP => exact k48_mkM _ _ _ (⟨((rd_T48 t193 x34_2).f0), ((rd_T48 t193 x34_2).f1)⟩ : S48)); (case aB => exact (by repeat (first | (with_reducible first | exact HB.out | apply below_alloc | apply pw_below_drewN | apply below_drew1 | refine below_set ?_ GE211.out) | exact HB.out))); (case aF => exact (fun k_ hk => ⟨Kd.fresh' (Kd.R_lt (sq_r HO_10)) k_ hk, Kd.fresh' (Kd.R_lt (sq_r HO_32)) k_ hk, Kd.freshB (g := gb211) (o := .cells #[.string ((rd_T48 t193 x34_2).f0), .int .i64 ((rd_T48 t193 x34_2).f1)] 48 (0, 0)) (sq_l BK211) k_ hk⟩)); (case aO => exact (sq_r HO242)); (case aS => exact (below_size (by repeat (first | (with_reducible first | exact HB.out | apply below_alloc | apply pw_below_drewN | apply below_drew1 | refine below_set ?_ GE211.out) | exact HB.out)))); (case aL => have := LMc50.out; omega); intro v244 w60 ho hb hg hat; rw [← Ny243.out] at ho; have n0_ := Aside0.mk (Kd.R_after (ok := (fun k_ => some k_ ≠ (.slice (some ad210) t193.length co12 : Value).ownBlock ∧ k_ ≠ gb211)) (sq_r HO_10) hg hat); have n1_ := Aside0.mk (Kd.R_after (ok := (fun k_ => some k_ ≠ (.slice Ao54 x10_2.length co54 : Value).ownBlock ∧ k_ ≠ gb211)) (sq_r HO_32) hg hat); have n2_ := Aside0.mk (blk_grown (g := gb211) (o := .cells #[.string ((rd_T48 t193 x34_2).f0), .int .i64 ((rd_T48 t193 x34_2).f1)] 48 (0, 0)) (sq_l BK211) hg (Kd.R_away HO242.out (fun _ hk => hk.2.2))); have n3_ := Aside0.mk (hb); have n4_ := Aside0.mk ((show Kd.C k48 w60 Ao54 y236.length y236 from by rw [Ny236.out]; exact Kd.C_take (m := (x13_4 : Int).toNat) ((Kd.R_reads' (Kd.R_after (ok := (fun k_ => some k_ ≠ (.slice (some ad210) t193.length co12 : Value).ownBlock ∧ k_ ≠ gb211)) (sq_r HO_10) hg hat)).2.2) KL57.out)); have n5_ := Aside0.mk (ho); clear HO_10; clear HO_32; clear BK211; clear HB; clear HR239; clear HO242; have HO_10 := n0_; have HO_32 := n1_; have BK211 := n2_; have HB := n3_; have HR239 := n4_; have HO245 := n5_; clear n0_ n1_ n2_ n3_ n4_ n5_; clear ho hb hg hat; have q61 : (x13_4 : Int) ≤ ((x10_2.length : Int) : Int) := sq_d; obtain ⟨i061, hi061, _, hsz61, _⟩ := info_parts info48; have hroom61 : x10_2.length ≤ co54 := (Kd.R_reads' HO_10.out).2.1; have hC61 : Kd.C k48 _ Ao54 x10_2.length x10_2 := (Kd.R_reads' HO_10.out).2.2; have q061 : (0 : Int) ≤ (x13_4 : Int) := sq_d; have hcut61 := cut_from (P := Try.prog) 27 48 .i64 Try.underlying27 hi061 2 hsz61 Ao54 x10_2.length co54 x13_4 q061 q61; have hr61 := Kd.C_drop (m := (x13_4 : Int).toNat) (c := co54) hC61 (by omega) hroom61; obtain ⟨A61, hA61⟩ : ∃ A1, A1 = (if co54 = (x13_4 : Int).toNat then Ao54 else (Ao54 : Option Addr).map (·.add ((x13_4 : Int).toNat * 2))) := ⟨_, rfl⟩; obtain ⟨c61, hc61⟩ : ∃ c1, c1 = co54 - (x13_4 : Int).toNat := ⟨_, rfl⟩; have hy61 : y246.length = x10_2.length - (x13_4 : Int).toNat := (by rw [Ny246.out, List.length_drop] <;> omega); rw [show (x10_2).drop (x13_4 : Int).toNat = y246 from Ny246.out.symm] at hr61; replace hr61 : Kd.C k48 _ A61 y246.length y246 := (by rw [hA61]; exact hr61); rw [← hy61, ← hA61, ← hc61] at hcut61; have HR249 := Aside0.mk hr61; have HC249 := Aside0.mk (show y246.length ≤ c61 from by rw [hy61, hc61]; exact Nat.sub_le_sub_right hroom61 _); clear hr61 hC61 hroom61 hi061 hsz61 hc61; have KY61 := Aside0.mk hy61; have KA61 := Aside0.mk hA61; clear hy61 hA61; have KL61 := Aside0.mk (show (x13_4 : Int).toNat ≤ x10_2.length from by omega); replace q61 := eq_true q61) | ((with_reducible refine gate_builtin (b := .append) (xs := #[.tmp 78, .tmp 81]) rfl ?_); (try (refine gate_guard (by rfl) ?_; dsimp only)); at_builtin; refine Kd.R_append_rows k48 (w0 := w) w.heap.size rfl (.tmp 78) (.tmp 81) 27 48 (.agg #[(.string ⟨#[]⟩), (.int .i64 0)]) 24 rfl Try.underlying27 info48 rfl (by decide) (by omega) v244 y243 y246 _ _ _ (fun k_ => some k_ ≠ (.slice Ao54 x10_2.length co54 : Value).ownBlock ∧ some k_ ≠ (.slice (some ad210) t193.length co12 : Value).ownBlock ∧ k_ ≠ gb211) (fun _ => False) rfl rfl ?aO ?aR (fun _ _ h => h) (fun _ h => h.elim) ?aF ?aB ?aS ?aL ?_; (case aR => repeat (first | exact (by repeat (first | (with_reducible exact HR249.out) | (with_reducible refine Kd.C_alloc ?_ _) | (with_reducible refine Kd.C_drewN ?_ _) | (with_reducible refine Kd.C_drew ?_) | exact HR249.out)) | (with_reducible refine Kd.C_alloc ?_ _) | (with_reducible refine Kd.C_drewN ?_ _) | (with_reducible refine Kd.C_drew ?_))); (case aB => exact (by repeat (first | (with_reducible first | exact HB.out | apply below_alloc | apply pw_below_drewN | apply below_drew1 | refine below_set ?_ GE211.out) | exact HB.out))); (case aF => exact (fun k_ hk => ⟨Kd.fresh' (Kd.R_lt (sq_r HO_10)) k_ hk, Kd.fresh' (Kd.R_lt (sq_r HO_32)) k_ hk, Kd.freshB (g := gb211) (o := .cells #[.string ((rd_T48 t193 x34_2).f0), .int .i64 ((rd_T48 t193 x34_2).f1)] 48 (0, 0)) (sq_l BK211) k_ hk⟩)); (case aO => exact (sq_r HO245)); (case aS => exact (below_size (by repeat (first | (with_reducible first | exact HB.out | apply below_alloc | apply pw_below_drewN | apply below_drew1 | refine below_set ?_ GE211.out) | exact HB.out)))); (case aL => have := LMc53.out; omega); intro v251 w62 ho hb hg hat; rw [← Ny250.out] at ho; have n0_ := Aside0.mk (Kd.R_after (ok := (fun k_ => some k_ ≠ (.slice (some ad210) t193.length co12 : Value).ownBlock ∧ k_ ≠ gb211)) (sq_r HO_10) hg hat); have n1_ := Aside0.mk (Kd.R_after (ok := (fun k_ => some k_ ≠ (.slice Ao54 x10_2.length co54 : Value).ownBlock ∧ k_ ≠ gb211)) (sq_r HO_32) hg hat); have n2_ := Aside0.mk (blk_grown (g := gb211) (o := .cells #[.string ((rd_T48 t193 x34_2).f0), .int .i64 ((rd_T48 t193 x34_2).f1)] 48 (0, 0)) (sq_l BK211) hg (Kd.R_away HO245.out (fun _ hk => hk.2.2))); have n3_ := Aside0.mk (hb); have n4_ := Aside0.mk ((show Kd.C k48 w62 Ao54 y236.length y236 from by rw [Ny236.out]; exact Kd.C_take (m := (x13_4 : Int).toNat) ((Kd.R_reads' (Kd.R_after (ok := (fun k_ => some k_ ≠ (.slice (some ad210) t193.length co12 : Value).ownBlock ∧ k_ ≠ gb211)) (sq_r HO_10) hg hat)).2.2) KL57.out)); have n5_ := Aside0.mk ((show Kd.C k48 w62 A61 y246.length y246 from by rw [Ny246.out, KA61.out]; exact Kd.C_drop (m := (x13_4 : Int).toNat) (c := co54) ((Kd.R_reads' (Kd.R_after (ok := (fun k_ => some k_ ≠ (.slice (some ad210) t193.length co12 : Value).ownBlock ∧ k_ ≠ gb211)) (sq_r HO_10) hg hat)).2.2) KL61.out ((Kd.R_reads' (Kd.R_after (ok := (fun k_ => some k_ ≠ (.slice (some ad210) t193.length co12 : Value).ownBlock ∧ k_ ≠ gb211)) (sq_r HO_10) hg hat)).2.1))); have n6_ := Aside0.mk (ho); clear HO_10; clear HO_32; clear BK211; clear HB; clear HR239; clear HR249; clear HO245; have HO_10 := n0_; have HO_32 := n1_; have BK211 := n2_; have HB := n3_; have HR239 := n4_; have HR249 := n5_; have HO252 := n6_; clear n0_ n1_ n2_ n3_ n4_ n5_ n6_; clear ho hb hg hat)))
             go_roundg k4
             case measure => have := HJ4.out; have := HK2.out; have := HJ15.out; have := HK4.out; omega
             case rel => exact ⟨(y250), (wrap64 (x34_2 + 1)), sq_e, H', ⟨by have := HJ4.out; have := HK2.out; have := HJ15.out; have := HK4.out; omega⟩, ⟨by (with_reducible repeat (first | apply Kd.R_alloc | apply Kd.R_drewN | apply Kd.R_drew)); exact Kd.R_mono HO252.out (fun _ hk => hk.2.1)⟩, ⟨by (with_reducible repeat (first | apply Kd.R_alloc | apply Kd.R_drewN | apply Kd.R_drew)); exact Kd.R_mono HO_32.out (fun _ hk => hk.2)⟩, ⟨by repeat (first | (with_reducible first | exact HB.out | apply below_alloc | apply pw_below_drewN | apply below_drew1 | refine below_set ?_ GE211.out) | exact HB.out)⟩⟩
      ·rw [if_neg c13] at H
       have c13b0 : decide (x34_2 < (t193.length : Int)) = false := decide_eq_false c13
       clear c13
       obtain ⟨y199, hy199⟩ : ∃ y_ : List (S48), y_ = (([] : List (S48))) := ⟨_, rfl⟩
       replace H : ((spec_l1Least.f a2 (x10_2.length : Int)).bind fun t202 => (if 0 ≤ t202 then (if t202 ≤ (x10_2.length : Int) then ((some (x10_2.take (t202 : Int).toNat : List (S48))).bind fun y203 => (if y199.length + y203.length < 5864062014805 then (some ((y199 ++ y203), true)) else (none))) else (none)) else (none))) = some (r1, r2) := by first | (rw [hy199]; with_reducible exact H) | (have H2_ := (Option.bind_some _ _).symm.trans H; rw [hy199]; with_reducible exact H2_) | (have H2_ := (Option.bind_some _ _).symm.trans H; with_reducible exact H2_) | with_reducible exact H | (rw [hy199]; exact H) | exact H
       have Ny199 := Aside0.mk hy199
       clear hy199
       replace H := Option.bind_eq_some_iff.mp H
       obtain ⟨t202, A630, H⟩ := H
       replace H : (if 0 ≤ t202 then (if t202 ≤ (x10_2.length : Int) then ((some (x10_2.take (t202 : Int).toNat : List (S48))).bind fun y203 => (if y199.length + y203.length < 5864062014805 then (some ((y199 ++ y203), true)) else (none))) else (none)) else (none)) = some (r1, r2) := H
       have A63 := Aside0.mk A630
       clear A630
       by_cases c64 : 0 ≤ t202
       ·rw [if_pos c64] at H
        have c64b0 := eq_true c64
        have c64b1 : decide (0 ≤ t202) = true := decide_eq_true c64
        clear c64
        by_cases c65 : t202 ≤ (x10_2.length : Int)
        rotate_left
        ·rw [if_neg c65] at H
         exact absurd H (by simp)
        rw [if_pos c65] at H
        have c65b0 := eq_true c65
        have c65b1 : decide (t202 ≤ (x10_2.length : Int)) = true := decide_eq_true c65
        clear c65
        obtain ⟨y203, hy203⟩ : ∃ y_ : List (S48), y_ = (x10_2.take (t202 : Int).toNat) := ⟨_, rfl⟩
        replace H : (if y199.length + y203.length < 5864062014805 then (some ((y199 ++ y203), true)) else (none)) = some (r1, r2) := by first | (rw [hy203]; with_reducible exact H) | (have H2_ := (Option.bind_some _ _).symm.trans H; rw [hy203]; with_reducible exact H2_) | (have H2_ := (Option.bind_some _ _).symm.trans H; with_reducible exact H2_) | with_reducible exact H | (rw [hy203]; exact H) | exact H
        have Ny203 := Aside0.mk hy203
        clear hy203
        by_cases c66 : y199.length + y203.length < 5864062014805
        rotate_left
        ·rw [if_neg c66] at H
         exact absurd H (by simp)
        rw [if_pos c66] at H
        have LMc66 := Aside0.mk c66
        clear c66
        obtain ⟨y207, hy207⟩ : ∃ y_ : List (S48), y_ = (y199 ++ y203) := ⟨_, rfl⟩
        replace H : (some (y207, true)) = some (r1, r2) := by first | (rw [hy207]; with_reducible exact H) | (have H2_ := (Option.bind_some _ _).symm.trans H; rw [hy207]; with_reducible exact H2_) | (have H2_ := (Option.bind_some _ _).symm.trans H; with_reducible exact H2_) | with_reducible exact H | (rw [hy207]; exact H) | exact H
        have Ny207 := Aside0.mk hy207
        clear hy207
        simp only [Option.some.injEq, Prod.mk.injEq] at H
        obtain ⟨rfl, rfl⟩ := H
        go_wp2_with (first | ((with_reducible refine gate_dst (N := 84) rfl ?_); (try (refine gate_guard (by rfl) ?_; dsimp only)); refine Kd.R_lit k48 _ 48 ?hg (N := 84) ?hd (xs := ([] : List (S48))) (inner := []) (ok := fun _ => True) (okp := fun _ => True) ?hr ?hp (fun _ hk => hk) trivial (Below.refl _ _) (Nat.le_refl _) (by simp) ?_; (case hd => rfl); (case hg => rfl); (case hr => first | (go_simp; done) | (go_simp; rfl)); (case hp => exact (Reps.none _ _)); intro v200 w67 ho68 hb hg_ hnew_; clear hg_ hnew_; (first | rw [← Ny199.out] at ho68 | (simp only [Int.reduceToNat] at ho68; rw [← Ny199.out] at ho68)); have n0_ := Aside0.mk (Kd.R_elder' (sq_r HO_10) (Kd.R_base ho68) hb); have n1_ := Aside0.mk (Kd.R_elder' (sq_r HO_32) (Kd.R_base ho68) hb); have n2_ := Aside0.mk (Kd.R_lower (Kd.R_new' (Kd.R_new' ho68 (Kd.R_lt (sq_r HO_10))) (Kd.R_lt (sq_r HO_32))) (below_size sq_b)); have n3_ := Aside0.mk (below_step sq_b hb); clear HO_10; clear HO_32; clear HB; have HO_10 := n0_; have HO_32 := n1_; have HO201 := n2_; have HB := n3_; clear n0_ n1_ n2_ n3_; clear hb ho68; obtain ⟨Ao69, co69, eo69⟩ := Kd.R_slice HO_10.out; subst eo69; have q70 : (t202 : Int) ≤ ((x10_2.length : Int) : Int) := sq_d; obtain ⟨i070, hi070, _, hsz70, _⟩ := info_parts info48; have hroom70 : x10_2.length ≤ co69 := (Kd.R_reads' HO_10.out).2.1; have hC70 : Kd.C k48 _ Ao69 x10_2.length x10_2 := (Kd.R_reads' HO_10.out).2.2; have hcut70 := cut_to (P := Try.prog) 27 48 .i64 Try.underlying27 hi070 Ao69 x10_2.length co69 t202 (sq_d) q70 hroom70; have hr70 := Kd.C_take (m := (t202 : Int).toNat) hC70 (by omega); have hy70 : y203.length = (t202 : Int).toNat := (by rw [Ny203.out, List.length_take]; omega); rw [← Ny203.out] at hr70; rw [← hy70] at hcut70; have HR206 := Aside0.mk hr70; have HC206 := Aside0.mk (show y203.length ≤ co69 from by omega); clear hr70 hC70 hroom70 hi070 hsz70; have KY70 := Aside0.mk hy70; clear hy70; have KL70 := Aside0.mk (show (t202 : Int).toNat ≤ x10_2.length from by omega); replace q70 := eq_true q70) | (go_at_call 73; (with_reducible refine (spec_l1Least.calls a2 (x10_2.length : Int) t202 _ A63.out).mono ?_); rintro e w' ⟨rfl, ⟨nd, rfl⟩⟩; (try first | exact ⟨rfl, _, World.drewN_drewN _ _ _⟩ | exact ⟨rfl, _, Eq.trans (World.drewN_drewN _ _ _) (congrArg (World.drewN _) (Nat.add_assoc _ _ _))⟩)) | ((with_reducible refine gate_builtin (b := .append) (xs := #[.tmp 84, .tmp 90]) rfl ?_); (try (refine gate_guard (by rfl) ?_; dsimp only)); at_builtin; refine Kd.R_append_rows k48 (w0 := w) w.heap.size rfl (.tmp 84) (.tmp 90) 27 48 (.agg #[(.string ⟨#[]⟩), (.int .i64 0)]) 24 rfl Try.underlying27 info48 rfl (by decide) (by omega) v200 y199 y203 _ _ _ (fun k_ => some k_ ≠ (.slice Ao69 x10_2.length co69 : Value).ownBlock ∧ some k_ ≠ (.slice Ao12 t193.length co12 : Value).ownBlock) (fun _ => False) rfl rfl ?aO ?aR (fun _ _ h => h) (fun _ h => h.elim) ?aF ?aB ?aS ?aL ?_; (case aR => repeat (first | exact (by repeat (first | (with_reducible exact HR206.out) | (with_reducible refine Kd.C_alloc ?_ _) | (with_reducible refine Kd.C_drewN ?_ _) | (with_reducible refine Kd.C_drew ?_) | exact HR206.out)) | (with_reducible refine Kd.C_alloc ?_ _) | (with_reducible refine Kd.C_drewN ?_ _) | (with_reducible refine Kd.C_drew ?_))); (case aB => exact sq_b); (case aF => exact (fun k_ hk => ⟨Kd.fresh' (Kd.R_lt (sq_r HO_10)) k_ hk, Kd.fresh' (Kd.R_lt (sq_r HO_32)) k_ hk⟩)); (case aO => exact (by (with_reducible repeat (first | apply Kd.R_alloc | apply Kd.R_drewN | apply Kd.R_drew)); exact Kd.R_mono HO201.out (fun _ hk => ⟨hk.1.2, hk.2⟩))); (case aS => exact (below_size sq_b)); (case aL => have := LMc66.out; omega); intro v208 w71 ho hb hg hat; rw [← Ny207.out] at ho; have n0_ := Aside0.mk (Kd.R_after (ok := (fun k_ => some k_ ≠ (.slice Ao12 t193.length co12 : Value).ownBlock)) (sq_r HO_10) hg hat); have n1_ := Aside0.mk (Kd.R_after (ok := (fun k_ => some k_ ≠ (.slice Ao69 x10_2.length co69 : Value).ownBlock)) (sq_r HO_32) hg hat); have n2_ := Aside0.mk (hb); have n3_ := Aside0.mk ((show Kd.C k48 w71 Ao69 y203.length y203 from by rw [Ny203.out]; exact Kd.C_take (m := (t202 : Int).toNat) ((Kd.R_reads' (Kd.R_after (ok := (fun k_ => some k_ ≠ (.slice Ao12 t193.length co12 : Value).ownBlock)) (sq_r HO_10) hg hat)).2.2) KL70.out)); have n4_ := Aside0.mk (ho); clear HO_10; clear HO_32; clear HB; clear HR206; clear HO201; have HO_10 := n0_; have HO_32 := n1_; have HB := n2_; have HR206 := n3_; have HO209 := n4_; clear n0_ n1_ n2_ n3_ n4_; clear ho hb hg hat))
        repeat (go_quiet (first | ((with_reducible refine gate_dst (N := 84) rfl ?_); (try (refine gate_guard (by rfl) ?_; dsimp only)); refine Kd.R_lit k48 _ 48 ?hg (N := 84) ?hd (xs := ([] : List (S48))) (inner := []) (ok := fun _ => True) (okp := fun _ => True) ?hr ?hp (fun _ hk => hk) trivial (Below.refl _ _) (Nat.le_refl _) (by simp) ?_; (case hd => rfl); (case hg => rfl); (case hr => first | (go_simp; done) | (go_simp; rfl)); (case hp => exact (Reps.none _ _)); intro v200 w67 ho68 hb hg_ hnew_; clear hg_ hnew_; (first | rw [← Ny199.out] at ho68 | (simp only [Int.reduceToNat] at ho68; rw [← Ny199.out] at ho68)); have n0_ := Aside0.mk (Kd.R_elder' (sq_r HO_10) (Kd.R_base ho68) hb); have n1_ := Aside0.mk (Kd.R_elder' (sq_r HO_32) (Kd.R_base ho68) hb); have n2_ := Aside0.mk (Kd.R_lower (Kd.R_new' (Kd.R_new' ho68 (Kd.R_lt (sq_r HO_10))) (Kd.R_lt (sq_r HO_32))) (below_size sq_b)); have n3_ := Aside0.mk (below_step sq_b hb); clear HO_10; clear HO_32; clear HB; have HO_10 := n0_; have HO_32 := n1_; have HO201 := n2_; have HB := n3_; clear n0_ n1_ n2_ n3_; clear hb ho68; obtain ⟨Ao69, co69, eo69⟩ := Kd.R_slice HO_10.out; subst eo69; have q70 : (t202 : Int) ≤ ((x10_2.length : Int) : Int) := sq_d; obtain ⟨i070, hi070, _, hsz70, _⟩ := info_parts info48; have hroom70 : x10_2.length ≤ co69 := (Kd.R_reads' HO_10.out).2.1; have hC70 : Kd.C k48 _ Ao69 x10_2.length x10_2 := (Kd.R_reads' HO_10.out).2.2; have hcut70 := cut_to (P := Try.prog) 27 48 .i64 Try.underlying27 hi070 Ao69 x10_2.length co69 t202 (sq_d) q70 hroom70; have hr70 := Kd.C_take (m := (t202 : Int).toNat) hC70 (by omega); have hy70 : y203.length = (t202 : Int).toNat := (by rw [Ny203.out, List.length_take]; omega); rw [← Ny203.out] at hr70; rw [← hy70] at hcut70; have HR206 := Aside0.mk hr70; have HC206 := Aside0.mk (show y203.length ≤ co69 from by omega); clear hr70 hC70 hroom70 hi070 hsz70; have KY70 := Aside0.mk hy70; clear hy70; have KL70 := Aside0.mk (show (t202 : Int).toNat ≤ x10_2.length from by omega); replace q70 := eq_true q70) | (go_at_call 73; (with_reducible refine (spec_l1Least.calls a2 (x10_2.length : Int) t202 _ A63.out).mono ?_); rintro e w' ⟨rfl, ⟨nd, rfl⟩⟩; (try first | exact ⟨rfl, _, World.drewN_drewN _ _ _⟩ | exact ⟨rfl, _, Eq.trans (World.drewN_drewN _ _ _) (congrArg (World.drewN _) (Nat.add_assoc _ _ _))⟩)) | ((with_reducible refine gate_builtin (b := .append) (xs := #[.tmp 84, .tmp 90]) rfl ?_); (try (refine gate_guard (by rfl) ?_; dsimp only)); at_builtin; refine Kd.R_append_rows k48 (w0 := w) w.heap.size rfl (.tmp 84) (.tmp 90) 27 48 (.agg #[(.string ⟨#[]⟩), (.int .i64 0)]) 24 rfl Try.underlying27 info48 rfl (by decide) (by omega) v200 y199 y203 _ _ _ (fun k_ => some k_ ≠ (.slice Ao69 x10_2.length co69 : Value).ownBlock ∧ some k_ ≠ (.slice Ao12 t193.length co12 : Value).ownBlock) (fun _ => False) rfl rfl ?aO ?aR (fun _ _ h => h) (fun _ h => h.elim) ?aF ?aB ?aS ?aL ?_; (case aR => repeat (first | exact (by repeat (first | (with_reducible exact HR206.out) | (with_reducible refine Kd.C_alloc ?_ _) | (with_reducible refine Kd.C_drewN ?_ _) | (with_reducible refine Kd.C_drew ?_) | exact HR206.out)) | (with_reducible refine Kd.C_alloc ?_ _) | (with_reducible refine Kd.C_drewN ?_ _) | (with_reducible refine Kd.C_drew ?_))); (case aB => exact sq_b); (case aF => exact (fun k_ hk => ⟨Kd.fresh' (Kd.R_lt (sq_r HO_10)) k_ hk, Kd.fresh' (Kd.R_lt (sq_r HO_32)) k_ hk⟩)); (case aO => exact (by (with_reducible repeat (first | apply Kd.R_alloc | apply Kd.R_drewN | apply Kd.R_drew)); exact Kd.R_mono HO201.out (fun _ hk => ⟨hk.1.2, hk.2⟩))); (case aS => exact (below_size sq_b)); (case aL => have := LMc66.out; omega); intro v208 w71 ho hb hg hat; rw [← Ny207.out] at ho; have n0_ := Aside0.mk (Kd.R_after (ok := (fun k_ => some k_ ≠ (.slice Ao12 t193.length co12 : Value).ownBlock)) (sq_r HO_10) hg hat); have n1_ := Aside0.mk (Kd.R_after (ok := (fun k_ => some k_ ≠ (.slice Ao69 x10_2.length co69 : Value).ownBlock)) (sq_r HO_32) hg hat); have n2_ := Aside0.mk (hb); have n3_ := Aside0.mk ((show Kd.C k48 w71 Ao69 y203.length y203 from by rw [Ny203.out]; exact Kd.C_take (m := (t202 : Int).toNat) ((Kd.R_reads' (Kd.R_after (ok := (fun k_ => some k_ ≠ (.slice Ao12 t193.length co12 : Value).ownBlock)) (sq_r HO_10) hg hat)).2.2) KL70.out)); have n4_ := Aside0.mk (ho); clear HO_10; clear HO_32; clear HB; clear HR206; clear HO201; have HO_10 := n0_; have HO_32 := n1_; have HB := n2_; have HR206 := n3_; have HO209 := n4_; clear n0_ n1_ n2_ n3_ n4_; clear ho hb hg hat)); try go_wp2_with (first | ((with_reducible refine gate_dst (N := 84) rfl ?_); (try (refine gate_guard (by rfl) ?_; dsimp only)); refine Kd.R_lit k48 _ 48 ?hg (N := 84) ?hd (xs := ([] : List (S48))) (inner := []) (ok := fun _ => True) (okp := fun _ => True) ?hr ?hp (fun _ hk => hk) trivial (Below.refl _ _) (Nat.le_refl _) (by simp) ?_; (case hd => rfl); (case hg => rfl); (case hr => first | (go_simp; done) | (go_simp; rfl)); (case hp => exact (Reps.none _ _)); intro v200 w67 ho68 hb hg_ hnew_; clear hg_ hnew_; (first | rw [← Ny199.out] at ho68 | (simp only [Int.reduceToNat] at ho68; rw [← Ny199.out] at ho68)); have n0_ := Aside0.mk (Kd.R_elder' (sq_r HO_10) (Kd.R_base ho68) hb); have n1_ := Aside0.mk (Kd.R_elder' (sq_r HO_32) (Kd.R_base ho68) hb); have n2_ := Aside0.mk (Kd.R_lower (Kd.R_new' (Kd.R_new' ho68 (Kd.R_lt (sq_r HO_10))) (Kd.R_lt (sq_r HO_32))) (below_size sq_b)); have n3_ := Aside0.mk (below_step sq_b hb); clear HO_10; clear HO_32; clear HB; have HO_10 := n0_; have HO_32 := n1_; have HO201 := n2_; have HB := n3_; clear n0_ n1_ n2_ n3_; clear hb ho68; obtain ⟨Ao69, co69, eo69⟩ := Kd.R_slice HO_10.out; subst eo69; have q70 : (t202 : Int) ≤ ((x10_2.length : Int) : Int) := sq_d; obtain ⟨i070, hi070, _, hsz70, _⟩ := info_parts info48; have hroom70 : x10_2.length ≤ co69 := (Kd.R_reads' HO_10.out).2.1; have hC70 : Kd.C k48 _ Ao69 x10_2.length x10_2 := (Kd.R_reads' HO_10.out).2.2; have hcut70 := cut_to (P := Try.prog) 27 48 .i64 Try.underlying27 hi070 Ao69 x10_2.length co69 t202 (sq_d) q70 hroom70; have hr70 := Kd.C_take (m := (t202 : Int).toNat) hC70 (by omega); have hy70 : y203.length = (t202 : Int).toNat := (by rw [Ny203.out, List.length_take]; omega); rw [← Ny203.out] at hr70; rw [← hy70] at hcut70; have HR206 := Aside0.mk hr70; have HC206 := Aside0.mk (show y203.length ≤ co69 from by omega); clear hr70 hC70 hroom70 hi070 hsz70; have KY70 := Aside0.mk hy70; clear hy70; have KL70 := Aside0.mk (show (t202 : Int).toNat ≤ x10_2.length from by omega); replace q70 := eq_true q70) | (go_at_call 73; (with_reducible refine (spec_l1Least.calls a2 (x10_2.length : Int) t202 _ A63.out).mono ?_); rintro e w' ⟨rfl, ⟨nd, rfl⟩⟩; (try first | exact ⟨rfl, _, World.drewN_drewN _ _ _⟩ | exact ⟨rfl, _, Eq.trans (World.drewN_drewN _ _ _) (congrArg (World.drewN _) (Nat.add_assoc _ _ _))⟩)) | ((with_reducible refine gate_builtin (b := .append) (xs := #[.tmp 84, .tmp 90]) rfl ?_); (try (refine gate_guard (by rfl) ?_; dsimp only)); at_builtin; refine Kd.R_append_rows k48 (w0 := w) w.heap.size rfl (.tmp 84) (.tmp 90) 27 48 (.agg #[(.string ⟨#[]⟩), (.int .i64 0)]) 24 rfl Try.underlying27 info48 rfl (by decide) (by omega) v200 y199 y203 _ _ _ (fun k_ => some k_ ≠ (.slice Ao69 x10_2.length co69 : Value).ownBlock ∧ some k_ ≠ (.slice Ao12 t193.length co12 : Value).ownBlock) (fun _ => False) rfl rfl ?aO ?aR (fun _ _ h => h) (fun _ h => h.elim) ?aF ?aB ?aS ?aL ?_; (case aR => repeat (first | exact (by repeat (first | (with_reducible exact HR206.out) | (with_reducible refine Kd.C_alloc ?_ _) | (with_reducible refine Kd.C_drewN ?_ _) | (with_reducible refine Kd.C_drew ?_) | exact HR206.out)) | (with_reducible refine Kd.C_alloc ?_ _) | (with_reducible refine Kd.C_drewN ?_ _) | (with_reducible refine Kd.C_drew ?_))); (case aB => exact sq_b); (case aF => exact (fun k_ hk => ⟨Kd.fresh' (Kd.R_lt (sq_r HO_10)) k_ hk, Kd.fresh' (Kd.R_lt (sq_r HO_32)) k_ hk⟩)); (case aO => exact (by (with_reducible repeat (first | apply Kd.R_alloc | apply Kd.R_drewN | apply Kd.R_drew)); exact Kd.R_mono HO201.out (fun _ hk => ⟨hk.1.2, hk.2⟩))); (case aS => exact (below_size sq_b)); (case aL => have := LMc66.out; omega); intro v208 w71 ho hb hg hat; rw [← Ny207.out] at ho; have n0_ := Aside0.mk (Kd.R_after (ok := (fun k_ => some k_ ≠ (.slice Ao12 t193.length co12 : Value).ownBlock)) (sq_r HO_10) hg hat); have n1_ := Aside0.mk (Kd.R_after (ok := (fun k_ => some k_ ≠ (.slice Ao69 x10_2.length co69 : Value).ownBlock)) (sq_r HO_32) hg hat); have n2_ := Aside0.mk (hb); have n3_ := Aside0.mk ((show Kd.C k48 w71 Ao69 y203.length y203 from by rw [Ny203.out]; exact Kd.C_take (m := (t202 : Int).toNat) ((Kd.R_reads' (Kd.R_after (ok := (fun k_ => some k_ ≠ (.slice Ao12 t193.length co12 : Value).ownBlock)) (sq_r HO_10) hg hat)).2.2) KL70.out)); have n4_ := Aside0.mk (ho); clear HO_10; clear HO_32; clear HB; clear HR206; clear HO201; have HO_10 := n0_; have HO_32 := n1_; have HB := n2_; have HR206 := n3_; have HO209 := n4_; clear n0_ n1_ n2_ n3_ n4_; clear ho hb hg hat)))
        go_ret2
        exact ⟨_, sq_w, by (with_reducible repeat (first | apply Kd.R_alloc | apply Kd.R_drewN | apply Kd.R_drew)); exact Kd.R_mono HO209.out (fun _ hk => trivial), sq_b⟩
       ·rw [if_neg c64] at H
        exact absurd H (by simp)

/-! ### impl_within: function 74 -/
def impl_within.f (a0 : Int) (a1 : Int) (a2 : Int) : Option (Bool) := if a0 ≥ a1 then (some (decide (a0 ≤ a2))) else (some false)
set_option maxHeartbeats 8000000 in
set_option maxRecDepth 100000 in
theorem impl_within.calls (a0 : Int) (a1 : Int) (a2 : Int) (r : Bool) (w : World) (h : impl_within.f a0 a1 a2 = some r) :
  Calls Try.prog 74 #[.int .i64 a0, .int .i64 a1, .int .i64 a2] w fun e w' => e = .returned (.bool r) ∧ Drawn0 w w' := by
 have H : (if a0 ≥ a1 then (some (decide (a0 ≤ a2))) else (some false)) = some r := h
 clear h
 by_cases c4 : a0 ≥ a1
 ·rw [if_pos c4] at H
  have c4b0 : decide (a1 ≤ a0) = true := decide_eq_true c4
  clear c4
  obtain rfl := Option.some.inj H
  go_enter Try.func74, Try.ntmps74
  go_wp2
  go_ret
  exact ⟨by first | rfl | (simp; done) | (simp [ext_bne_nil, ext_beq_nil]; done) | (simp [*]; done), by repeat (first | exact Drawn0.refl _ | apply Drawn0.step)⟩
 ·rw [if_neg c4] at H
  have c4b0 : decide (a1 ≤ a0) = false := decide_eq_false c4
  clear c4
  obtain rfl := Option.some.inj H
  go_enter Try.func74, Try.ntmps74
  go_wp2
  go_ret
  exact ⟨by first | rfl | (simp; done) | (simp [ext_bne_nil, ext_beq_nil]; done) | (simp [*]; done), by repeat (first | exact Drawn0.refl _ | apply Drawn0.step)⟩

/-! ### impl_isLetter: function 96 -/
def impl_isLetter.f (a0 : Int) : Option (Bool) := if a0 ≥ 97 then (some (decide (a0 ≤ 122))) else (some false)
set_option maxHeartbeats 8000000 in
set_option maxRecDepth 100000 in
theorem impl_isLetter.calls (a0 : Int) (r : Bool) (w : World) (h : impl_isLetter.f a0 = some r) :
  Calls Try.prog 96 #[.int .u8 a0] w fun e w' => e = .returned (.bool r) ∧ Drawn0 w w' := by
 have H : (if a0 ≥ 97 then (some (decide (a0 ≤ 122))) else (some false)) = some r := h
 clear h
 by_cases c2 : a0 ≥ 97
 ·rw [if_pos c2] at H
  have c2b0 : decide (97 ≤ a0) = true := decide_eq_true c2
  clear c2
  obtain rfl := Option.some.inj H
  go_enter Try.func96, Try.ntmps96
  go_wp2
  go_ret
  exact ⟨by first | rfl | (simp; done) | (simp [ext_bne_nil, ext_beq_nil]; done) | (simp [*]; done), by repeat (first | exact Drawn0.refl _ | apply Drawn0.step)⟩
 ·rw [if_neg c2] at H
  have c2b0 : decide (97 ≤ a0) = false := decide_eq_false c2
  clear c2
  obtain rfl := Option.some.inj H
  go_enter Try.func96, Try.ntmps96
  go_wp2
  go_ret
  exact ⟨by first | rfl | (simp; done) | (simp [ext_bne_nil, ext_beq_nil]; done) | (simp [*]; done), by repeat (first | exact Drawn0.refl _ | apply Drawn0.step)⟩

/-! ### impl_areLetters: function 56 -/
def impl_areLetters.l0 : Nat → ByteArray → Int → Int → Option (Bool)
 | 0, _, _, _ => none
 | k + 1, x0, x5, x6 => if x6 < x5 then (if 0 ≤ x6 then (if x6 < (x0.size : Int) then ((impl_isLetter.f (bt x0 x6)).bind fun t253 => (if t253 = true then (impl_areLetters.l0 k x0 x5 (wrap64 (x6 + 1))) else (some false))) else (none)) else (none)) else (some (decide ((x0.size : Int) ≤ 12)))
def impl_areLetters.f (k : Nat) (a0 : ByteArray) : Option (Bool) := impl_areLetters.l0 k a0 (a0.size : Int) 0
theorem impl_areLetters.mono_l : ∀ k, (∀ y0 y1 y2, LeO (impl_areLetters.l0 k y0 y1 y2) (impl_areLetters.l0 (k + 1) y0 y1 y2))
 | 0 => fun _ _ _ r h => by simp [impl_areLetters.l0] at h
 | k + 1 => by
  have ih0 := impl_areLetters.mono_l k
  ·intro y0 y1 y2
   unfold impl_areLetters.l0
   repeat' first
   | (with_reducible exact ih0 _ _ _)
   | (with_reducible exact LeO.refl _)
   | (with_reducible exact LeO.none _)
   | (with_reducible refine LeO.ite ?_ ?_)
   | (with_reducible refine LeO.bind ?_ (fun _ => ?_))
   | exact ih0 _ _ _
   | exact LeO.none _
   | refine LeO.ite ?_ ?_
   | refine LeO.bind ?_ (fun _ => ?_)
theorem impl_areLetters.mono : ∀ a0 k, LeO (impl_areLetters.f k a0) (impl_areLetters.f (k + 1) a0) := by
 intro a0 k
 have ih0 := impl_areLetters.mono_l k
 unfold impl_areLetters.f
 repeat' first
   | (with_reducible exact ih0 _ _ _)
   | (with_reducible exact LeO.refl _)
   | (with_reducible exact LeO.none _)
   | (with_reducible refine LeO.ite ?_ ?_)
   | (with_reducible refine LeO.bind ?_ (fun _ => ?_))
   | exact ih0 _ _ _
   | exact LeO.none _
   | refine LeO.ite ?_ ?_
   | refine LeO.bind ?_ (fun _ => ?_)
set_option maxHeartbeats 8000000 in
set_option maxRecDepth 100000 in
theorem impl_areLetters.calls (k : Nat) (a0 : ByteArray) (r : Bool) (w : World) (h : impl_areLetters.f k a0 = some r) :
  Calls Try.prog 56 #[.string a0] w fun e w' => e = .returned (.bool r) ∧ Drawn0 w w' := by
 have H : (impl_areLetters.l0 k a0 (a0.size : Int) 0) = some r := h
 clear h
 have H' := Aside0.mk H
 clear H
 go_enter Try.func56, Try.ntmps56
 go_wp2
 go_loopg [6] k (fun kq v6 w' => ∃ (x6_1 : Int), v6 = .int .i64 x6_1 ∧ Aside0 (impl_areLetters.l0 kq a0 (a0.size : Int) x6_1 = some r) ∧ Aside0 (kq ≤ k) ∧ Drawn0 w w')
 case atStart => exact ⟨(0), sq_e, H', ⟨Nat.le_refl _⟩, by repeat (first | exact Drawn0.refl _ | apply Drawn0.step)⟩
 case round =>
  clear H'
  obtain ⟨x6_1, rfl, HA, HK1, ⟨m1, rfl⟩⟩ := hrel
  cases gk with
  | zero => exact absurd HA.out (by simp [impl_areLetters.l0])
  | succ k1 =>
   have H := HA.out
   clear HA
   simp only [impl_areLetters.l0] at H
   by_cases c2 : x6_1 < (a0.size : Int)
   ·rw [if_pos c2] at H
    have c2b0 : decide (x6_1 < (a0.size : Int)) = true := decide_eq_true c2
    clear c2
    by_cases c3 : 0 ≤ x6_1
    rotate_left
    ·rw [if_neg c3] at H
     exact absurd H (by simp)
    rw [if_pos c3] at H
    have c3b0 : decide (0 ≤ x6_1) = true := decide_eq_true c3
    clear c3
    by_cases c4 : x6_1 < (a0.size : Int)
    rotate_left
    ·rw [if_neg c4] at H
     exact absurd H (by simp)
    rw [if_pos c4] at H
    have c4b0 : decide (x6_1 < (a0.size : Int)) = true := decide_eq_true c4
    clear c4
    replace H := Option.bind_eq_some_iff.mp H
    obtain ⟨t253, A60, H⟩ := H
    replace H : (if t253 = true then (impl_areLetters.l0 k1 a0 (a0.size : Int) (wrap64 (x6_1 + 1))) else (some false)) = some r := H
    have A6 := Aside0.mk A60
    clear A60
    by_cases c7 : t253 = true
    ·subst c7
     have H1 : (impl_areLetters.l0 k1 a0 (a0.size : Int) (wrap64 (x6_1 + 1))) = some r := by rw [if_pos rfl] at H; exact H
     clear H
     have H := H1
     clear H1
     have H' := Aside0.mk H
     clear H
     have p5 : 0 ≤ (x6_1 : Int) := sq_d
     have q5 : x6_1 < (a0.size : Int) := sq_d
     have hx5 := bt_at a0 x6_1
     replace p5 := eq_true p5
     replace q5 := eq_true q5
     go_wp2_with (first | ((with_reducible refine gate_callee (f := 96) rfl ?_); refine goesL_ (some 12) rfl rfl Try.func96 (by kernel_rfl) rfl #[.int .u8 (bt a0 x6_1)] rfl (by (try simp only [List.map_toArray, List.map_cons, List.map_nil]); first | done | rfl | (simp only [List.length_drop, List.length_take]; rfl)) ?_; (with_reducible refine (impl_isLetter.calls (bt a0 x6_1) true _ A6.out).mono ?_); rintro e w' ⟨rfl, ⟨nd, rfl⟩⟩; refine ⟨_, rfl, ?_⟩))
     go_roundg k1
     case measure => have := HK1.out; omega
     case rel => exact ⟨(wrap64 (x6_1 + 1)), sq_e, H', ⟨by have := HK1.out; omega⟩, by repeat (first | exact Drawn0.refl _ | apply Drawn0.step)⟩
    ·replace c7 := Bool.eq_false_iff.mpr c7
     subst c7
     have H1 : (some false) = some r := by rw [if_neg (show ¬ (false = true) by decide)] at H; exact H
     clear H
     have H := H1
     clear H1
     obtain rfl := Option.some.inj H
     have p5 : 0 ≤ (x6_1 : Int) := sq_d
     have q5 : x6_1 < (a0.size : Int) := sq_d
     have hx5 := bt_at a0 x6_1
     replace p5 := eq_true p5
     replace q5 := eq_true q5
     go_wp2_with (first | ((with_reducible refine gate_callee (f := 96) rfl ?_); refine goesL_ (some 12) rfl rfl Try.func96 (by kernel_rfl) rfl #[.int .u8 (bt a0 x6_1)] rfl (by (try simp only [List.map_toArray, List.map_cons, List.map_nil]); first | done | rfl | (simp only [List.length_drop, List.length_take]; rfl)) ?_; (with_reducible refine (impl_isLetter.calls (bt a0 x6_1) false _ A6.out).mono ?_); rintro e w' ⟨rfl, ⟨nd, rfl⟩⟩; refine ⟨_, rfl, ?_⟩))
     go_ret
     exact ⟨by first | rfl | (simp; done) | (simp [ext_bne_nil, ext_beq_nil]; done) | (simp [*]; done), by repeat (first | exact Drawn0.refl _ | apply Drawn0.step)⟩
   ·rw [if_neg c2] at H
    have c2b0 : decide (x6_1 < (a0.size : Int)) = false := decide_eq_false c2
    clear c2
    obtain rfl := Option.some.inj H
    go_wp2
    go_ret
    exact ⟨by first | rfl | (simp; done) | (simp [ext_bne_nil, ext_beq_nil]; done) | (simp [*]; done), by repeat (first | exact Drawn0.refl _ | apply Drawn0.step)⟩

end Go.Proofs.Ytkoackkimdanjaa.QFnExactSuggest
