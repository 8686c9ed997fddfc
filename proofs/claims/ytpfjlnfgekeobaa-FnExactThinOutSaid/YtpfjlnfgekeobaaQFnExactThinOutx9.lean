-- Written by this session's own program (wip/pp_patch.py, wip/pp.sh) out of the given translation. Not trusted: Lean checks it.
import Derived.Test.YtpfjlnfgekeobaaQFnExactThinOutx0
import Derived.Test.YtpfjlnfgekeobaaQFnExactThinOutx8
namespace Go.Proofs.Ytpfjlnfgekeobaa.QFnExactThinOut
open Go.RowKit Go.Proofs.YtpfjlnfgekeobaaW.PrintWords Go.Proofs.YtpfjlnfgekeobaaW.PrintLast Go.Proofs.YtpfjlnfgekeobaaW.PrintMore
attribute [local go_sem] max2_int min2_int max_two min_two max_three min_three max_four min_four   -- for this text's walks alone
open Go.Proofs.Ytpfjlnfgekeobaa.Ext
attribute [local go_sem high] ext_gtr ext_leq
set_option linter.unusedVariables false
set_option linter.unusedSimpArgs false

/-! ### impl_ThinOut: function 17 -/
mutual
def impl_ThinOut.j0 : Nat → List (S42) → Int → Bool → Option ((List (S42)) × Bool)
  | 0, _, _, _ => none
  | k + 1, x0, x1, x17 => if x17 = true then (some (([] : List (S42)), false)) else (impl_ThinOut.l0 k x0 x1 ([] : List (S42)) x0 (x0.length : Int) 0)
def impl_ThinOut.l0 : Nat → List (S42) → Int → List (S42) → List (S42) → Int → Int → Option ((List (S42)) × Bool)
  | 0, _, _, _, _, _, _ => none
  | k + 1, x0, x1, x6, x18, x19, x20 => if x20 < x19 then (if 0 ≤ x20 then (if x20 < (x18.length : Int) then (if (wrap64 (x20 + 1)) < (x0.length : Int) then (if 0 ≤ (wrap64 (x20 + 1)) then (if ((rd_T42 x0 (wrap64 (x20 + 1))).f0).toList = ((rd_T42 x18 x20).f0).toList then (impl_ThinOut.j2 k x0 x1 x6 (decide (((rd_T42 x0 (wrap64 (x20 + 1))).f1) ≤ x1)) x18 x19 x20 ((rd_T42 x18 x20).f0) ((rd_T42 x18 x20).f1) ((rd_T42 x18 x20).f2) ((rd_T42 x18 x20).f3)) else (impl_ThinOut.j2 k x0 x1 x6 false x18 x19 x20 ((rd_T42 x18 x20).f0) ((rd_T42 x18 x20).f1) ((rd_T42 x18 x20).f2) ((rd_T42 x18 x20).f3))) else (none)) else (impl_ThinOut.j2 k x0 x1 x6 false x18 x19 x20 ((rd_T42 x18 x20).f0) ((rd_T42 x18 x20).f1) ((rd_T42 x18 x20).f2) ((rd_T42 x18 x20).f3))) else (none)) else (none)) else (some (x6, true))
def impl_ThinOut.j2 : Nat → List (S42) → Int → List (S42) → Bool → List (S42) → Int → Int → ByteArray → Int → Bool → ByteArray → Option ((List (S42)) × Bool)
  | 0, _, _, _, _, _, _, _, _, _, _, _ => none
  | k + 1, x0, x1, x6, x9, x18, x19, x20, x185000, x185001, x185002, x185003 => if x9 = true then (impl_ThinOut.j3 k x0 x1 x6 x18 x19 x20 false x185000 x185001 x185002 x185003) else (if x185002 = true then (impl_ThinOut.j3 k x0 x1 x6 x18 x19 x20 (!(decide (x185001 ≤ x1))) x185000 x185001 x185002 x185003) else (impl_ThinOut.j3 k x0 x1 x6 x18 x19 x20 (!false) x185000 x185001 x185002 x185003))
def impl_ThinOut.j3 : Nat → List (S42) → Int → List (S42) → List (S42) → Int → Int → Bool → ByteArray → Int → Bool → ByteArray → Option ((List (S42)) × Bool)
  | 0, _, _, _, _, _, _, _, _, _, _, _ => none
  | k + 1, x0, x1, x6, x18, x19, x20, x63, x185000, x185001, x185002, x185003 => if x63 = true then (if x6.length < 2932031007402 then (impl_ThinOut.l0 k x0 x1 (x6 ++ [(⟨x185000, x185001, x185002, x185003⟩ : S42)]) x18 x19 (wrap64 (x20 + 1))) else (none)) else (impl_ThinOut.l0 k x0 x1 x6 x18 x19 (wrap64 (x20 + 1)))
end
def impl_ThinOut.f (k : Nat) (l0 : List (S42)) (a1 : Int) : Option ((List (S42)) × Bool) := (impl_GoodVersions.f k l0).bind fun t181 => (if t181 = true then ((impl_isTime.f a1).bind fun t182 => (impl_ThinOut.j0 k l0 a1 (!t182))) else (impl_ThinOut.j0 k l0 a1 true))
theorem impl_ThinOut.mono_l : ∀ k, (∀ y0 y1 y2, LeO (impl_ThinOut.j0 k y0 y1 y2) (impl_ThinOut.j0 (k + 1) y0 y1 y2)) ∧ (∀ y0 y1 y2 y3 y4 y5, LeO (impl_ThinOut.l0 k y0 y1 y2 y3 y4 y5) (impl_ThinOut.l0 (k + 1) y0 y1 y2 y3 y4 y5)) ∧ (∀ y0 y1 y2 y3 y4 y5 y6 y7 y8 y9 y10, LeO (impl_ThinOut.j2 k y0 y1 y2 y3 y4 y5 y6 y7 y8 y9 y10) (impl_ThinOut.j2 (k + 1) y0 y1 y2 y3 y4 y5 y6 y7 y8 y9 y10)) ∧ (∀ y0 y1 y2 y3 y4 y5 y6 y7 y8 y9 y10, LeO (impl_ThinOut.j3 k y0 y1 y2 y3 y4 y5 y6 y7 y8 y9 y10) (impl_ThinOut.j3 (k + 1) y0 y1 y2 y3 y4 y5 y6 y7 y8 y9 y10))
  | 0 => ⟨fun _ _ _ r h => by simp [impl_ThinOut.j0] at h, fun _ _ _ _ _ _ r h => by simp [impl_ThinOut.l0] at h, fun _ _ _ _ _ _ _ _ _ _ _ r h => by simp [impl_ThinOut.j2] at h, fun _ _ _ _ _ _ _ _ _ _ _ r h => by simp [impl_ThinOut.j3] at h⟩
  | k + 1 => by
    obtain ⟨ih0, ih1, ih2, ih3⟩ := impl_ThinOut.mono_l k
    refine ⟨?_, ?_, ?_, ?_⟩
    · intro y0 y1 y2
      unfold impl_ThinOut.j0
      repeat' first
      | (with_reducible exact ih0 _ _ _)
      | (with_reducible exact ih1 _ _ _ _ _ _)
      | (with_reducible exact ih2 _ _ _ _ _ _ _ _ _ _ _)
      | (with_reducible exact ih3 _ _ _ _ _ _ _ _ _ _ _)
      | (with_reducible exact impl_GoodVersions.mono _ _)
      | (with_reducible exact LeO.refl _)
      | (with_reducible exact LeO.none _)
      | (with_reducible refine LeO.ite ?_ ?_)
      | (with_reducible refine LeO.bind ?_ (fun _ => ?_))
      | exact ih0 _ _ _
      | exact ih1 _ _ _ _ _ _
      | exact ih2 _ _ _ _ _ _ _ _ _ _ _
      | exact ih3 _ _ _ _ _ _ _ _ _ _ _
      | exact impl_GoodVersions.mono _ _
      | exact LeO.none _
      | refine LeO.ite ?_ ?_
      | refine LeO.bind ?_ (fun _ => ?_)
    · intro y0 y1 y2 y3 y4 y5
      unfold impl_ThinOut.l0
      repeat' first
      | (with_reducible exact ih0 _ _ _)
      | (with_reducible exact ih1 _ _ _ _ _ _)
      | (with_reducible exact ih2 _ _ _ _ _ _ _ _ _ _ _)
      | (with_reducible exact ih3 _ _ _ _ _ _ _ _ _ _ _)
      | (with_reducible exact impl_GoodVersions.mono _ _)
      | (with_reducible exact LeO.refl _)
      | (with_reducible exact LeO.none _)
      | (with_reducible refine LeO.ite ?_ ?_)
      | (with_reducible refine LeO.bind ?_ (fun _ => ?_))
      | exact ih0 _ _ _
      | exact ih1 _ _ _ _ _ _
      | exact ih2 _ _ _ _ _ _ _ _ _ _ _
      | exact ih3 _ _ _ _ _ _ _ _ _ _ _
      | exact impl_GoodVersions.mono _ _
      | exact LeO.none _
      | refine LeO.ite ?_ ?_
      | refine LeO.bind ?_ (fun _ => ?_)
    · intro y0 y1 y2 y3 y4 y5 y6 y7 y8 y9 y10
      unfold impl_ThinOut.j2
      repeat' first
      | (with_reducible exact ih0 _ _ _)
      | (with_reducible exact ih1 _ _ _ _ _ _)
      | (with_reducible exact ih2 _ _ _ _ _ _ _ _ _ _ _)
      | (with_reducible exact ih3 _ _ _ _ _ _ _ _ _ _ _)
      | (with_reducible exact impl_GoodVersions.mono _ _)
      | (with_reducible exact LeO.refl _)
      | (with_reducible exact LeO.none _)
      | (with_reducible refine LeO.ite ?_ ?_)
      | (with_reducible refine LeO.bind ?_ (fun _ => ?_))
      | exact ih0 _ _ _
      | exact ih1 _ _ _ _ _ _
      | exact ih2 _ _ _ _ _ _ _ _ _ _ _
      | exact ih3 _ _ _ _ _ _ _ _ _ _ _
      | exact impl_GoodVersions.mono _ _
      | exact LeO.none _
      | refine LeO.ite ?_ ?_
      | refine LeO.bind ?_ (fun _ => ?_)
    · intro y0 y1 y2 y3 y4 y5 y6 y7 y8 y9 y10
      unfold impl_ThinOut.j3
      repeat' first
      | (with_reducible exact ih0 _ _ _)
      | (with_reducible exact ih1 _ _ _ _ _ _)
      | (with_reducible exact ih2 _ _ _ _ _ _ _ _ _ _ _)
      | (with_reducible exact ih3 _ _ _ _ _ _ _ _ _ _ _)
      | (with_reducible exact impl_GoodVersions.mono _ _)
      | (with_reducible exact LeO.refl _)
      | (with_reducible exact LeO.none _)
      | (with_reducible refine LeO.ite ?_ ?_)
      | (with_reducible refine LeO.bind ?_ (fun _ => ?_))
      | exact ih0 _ _ _
      | exact ih1 _ _ _ _ _ _
      | exact ih2 _ _ _ _ _ _ _ _ _ _ _
      | exact ih3 _ _ _ _ _ _ _ _ _ _ _
      | exact impl_GoodVersions.mono _ _
      | exact LeO.none _
      | refine LeO.ite ?_ ?_
      | refine LeO.bind ?_ (fun _ => ?_)
theorem impl_ThinOut.mono : ∀ a0 a1 k, LeO (impl_ThinOut.f k a0 a1) (impl_ThinOut.f (k + 1) a0 a1) := by
  intro a0 a1 k
  obtain ⟨ih0, ih1, ih2, ih3⟩ := impl_ThinOut.mono_l k
  unfold impl_ThinOut.f
  repeat' first
      | (with_reducible exact ih0 _ _ _)
      | (with_reducible exact ih1 _ _ _ _ _ _)
      | (with_reducible exact ih2 _ _ _ _ _ _ _ _ _ _ _)
      | (with_reducible exact ih3 _ _ _ _ _ _ _ _ _ _ _)
      | (with_reducible exact impl_GoodVersions.mono _ _)
      | (with_reducible exact LeO.refl _)
      | (with_reducible exact LeO.none _)
      | (with_reducible refine LeO.ite ?_ ?_)
      | (with_reducible refine LeO.bind ?_ (fun _ => ?_))
      | exact ih0 _ _ _
      | exact ih1 _ _ _ _ _ _
      | exact ih2 _ _ _ _ _ _ _ _ _ _ _
      | exact ih3 _ _ _ _ _ _ _ _ _ _ _
      | exact impl_GoodVersions.mono _ _
      | exact LeO.none _
      | refine LeO.ite ?_ ?_
      | refine LeO.bind ?_ (fun _ => ?_)
set_option maxHeartbeats 8000000 in
set_option maxRecDepth 100000 in
theorem impl_ThinOut.calls (k : Nat) (A0 : Option Addr) (c0 : Nat) (l0 : List (S42)) (a1 : Int) (r1 : List (S42)) (r2 : Bool) (w : World) (hr0 : Kd.C k42 w A0 l0.length l0) (hc0 : l0.length ≤ c0) (h : impl_ThinOut.f k l0 a1 = some (r1, r2)) :
    Calls Try.prog 17 #[.slice A0 l0.length c0, .int .i64 a1] w fun e w' => ∃ v0_ : Value, e = .returned (.tuple #[v0_, .bool r2]) ∧ Kd.R k42 42 w' w.heap.size (fun _ => True) v0_ r1 ∧ Below w.heap.size w w' := by
  have hu42 := Try.underlying42
  have HR0 := Aside0.mk hr0
  have HC0 := Aside0.mk hc0
  clear hr0 hc0
  have HB := Aside0.mk (Below.refl w.heap.size w)
  have H : ((impl_GoodVersions.f k l0).bind fun t181 => (if t181 = true then ((impl_isTime.f a1).bind fun t182 => (impl_ThinOut.j0 k l0 a1 (!t182))) else (impl_ThinOut.j0 k l0 a1 true))) = some (r1, r2) := h
  clear h
  have HC3 := Aside0.mk H
  clear H
  go_enter Try.func17, Try.ntmps17
  go_upto_region 1 with (fail)
  repeat (go_quiet (fail); go_upto_region 1 with (fail))
  go_cut [17] (fun v17 wc => ∃ (kq : Nat) (x17_2 : Bool), v17 = .bool x17_2 ∧ Aside0 (impl_ThinOut.j0 kq l0 a1 x17_2 = some (r1, r2)) ∧ Aside0 (kq ≤ k) ∧ Aside0 (Below w.heap.size w wc))
  case first =>
    have H := HC3.out
    clear HC3
    replace H := Option.bind_eq_some_iff.mp H
    obtain ⟨t181, A40, H⟩ := H
    replace H : (if t181 = true then ((impl_isTime.f a1).bind fun t182 => (impl_ThinOut.j0 k l0 a1 (!t182))) else (impl_ThinOut.j0 k l0 a1 true)) = some (r1, r2) := H
    have A4 := Aside0.mk A40
    clear A40
    by_cases c5 : t181 = true
    · subst c5
      have H1 : ((impl_isTime.f a1).bind fun t182 => (impl_ThinOut.j0 k l0 a1 (!t182))) = some (r1, r2) := by rw [if_pos rfl] at H; exact H
      clear H
      have H := H1
      clear H1
      replace H := Option.bind_eq_some_iff.mp H
      obtain ⟨t182, A60, H⟩ := H
      replace H : (impl_ThinOut.j0 k l0 a1 (!t182)) = some (r1, r2) := H
      have A6 := Aside0.mk A60
      clear A60
      have H' := Aside0.mk H
      clear H
      go_wp2_with (first | (go_at_call 33; (with_reducible refine (impl_GoodVersions.calls k _ _ l0 true _ ?side1 ?side2 A4.out).mono ?_); (case side1 => repeat (first | exact (Kd.C_below HR0.out HB.out) | (with_reducible refine Kd.C_alloc ?_ _) | (with_reducible refine Kd.C_drewN ?_ _) | (with_reducible refine Kd.C_drew ?_))); (case side2 => exact HC0.out); rintro e w7 ⟨rfl, hb⟩; have n0_ := Aside0.mk (below_step (by repeat (first | (with_reducible first | exact HB.out | apply below_alloc | apply pw_below_drewN | apply below_drew1) | exact HB.out)) hb); clear HB; have HB := n0_; clear n0_; (try clear hb); (try clear hb2); (try clear hk); (try clear hi)) | (go_at_call 40; (with_reducible refine (impl_isTime.calls a1 t182 _ A6.out).mono ?_); rintro e w' ⟨rfl, ⟨nd, rfl⟩⟩; (try first | exact ⟨rfl, _, World.drewN_drewN _ _ _⟩ | exact ⟨rfl, _, Eq.trans (World.drewN_drewN _ _ _) (congrArg (World.drewN _) (Nat.add_assoc _ _ _))⟩)))
      repeat (go_quiet (first | (go_at_call 33; (with_reducible refine (impl_GoodVersions.calls k _ _ l0 true _ ?side1 ?side2 A4.out).mono ?_); (case side1 => repeat (first | exact (Kd.C_below HR0.out HB.out) | (with_reducible refine Kd.C_alloc ?_ _) | (with_reducible refine Kd.C_drewN ?_ _) | (with_reducible refine Kd.C_drew ?_))); (case side2 => exact HC0.out); rintro e w7 ⟨rfl, hb⟩; have n0_ := Aside0.mk (below_step (by repeat (first | (with_reducible first | exact HB.out | apply below_alloc | apply pw_below_drewN | apply below_drew1) | exact HB.out)) hb); clear HB; have HB := n0_; clear n0_; (try clear hb); (try clear hb2); (try clear hk); (try clear hi)) | (go_at_call 40; (with_reducible refine (impl_isTime.calls a1 t182 _ A6.out).mono ?_); rintro e w' ⟨rfl, ⟨nd, rfl⟩⟩; (try first | exact ⟨rfl, _, World.drewN_drewN _ _ _⟩ | exact ⟨rfl, _, Eq.trans (World.drewN_drewN _ _ _) (congrArg (World.drewN _) (Nat.add_assoc _ _ _))⟩))); try go_wp2_with (first | (go_at_call 33; (with_reducible refine (impl_GoodVersions.calls k _ _ l0 true _ ?side1 ?side2 A4.out).mono ?_); (case side1 => repeat (first | exact (Kd.C_below HR0.out HB.out) | (with_reducible refine Kd.C_alloc ?_ _) | (with_reducible refine Kd.C_drewN ?_ _) | (with_reducible refine Kd.C_drew ?_))); (case side2 => exact HC0.out); rintro e w7 ⟨rfl, hb⟩; have n0_ := Aside0.mk (below_step (by repeat (first | (with_reducible first | exact HB.out | apply below_alloc | apply pw_below_drewN | apply below_drew1) | exact HB.out)) hb); clear HB; have HB := n0_; clear n0_; (try clear hb); (try clear hb2); (try clear hk); (try clear hi)) | (go_at_call 40; (with_reducible refine (impl_isTime.calls a1 t182 _ A6.out).mono ?_); rintro e w' ⟨rfl, ⟨nd, rfl⟩⟩; (try first | exact ⟨rfl, _, World.drewN_drewN _ _ _⟩ | exact ⟨rfl, _, Eq.trans (World.drewN_drewN _ _ _) (congrArg (World.drewN _) (Nat.add_assoc _ _ _))⟩))))
      go_meet
      case rel => exact ⟨_, (!t182), (by first | rfl | (simp; done) | (simp [ext_bne_nil, ext_beq_nil]; done) | (simp [*]; done)), H', ⟨by first | omega | exact Nat.le_refl _⟩, ⟨by repeat (first | (with_reducible first | exact HB.out | apply below_alloc | apply pw_below_drewN | apply below_drew1) | exact HB.out)⟩⟩
    · replace c5 := Bool.eq_false_iff.mpr c5
      subst c5
      have H1 : (impl_ThinOut.j0 k l0 a1 true) = some (r1, r2) := by rw [if_neg (show ¬ (false = true) by decide)] at H; exact H
      clear H
      have H := H1
      clear H1
      have H' := Aside0.mk H
      clear H
      go_wp2_with (first | (go_at_call 33; (with_reducible refine (impl_GoodVersions.calls k _ _ l0 false _ ?side1 ?side2 A4.out).mono ?_); (case side1 => repeat (first | exact (Kd.C_below HR0.out HB.out) | (with_reducible refine Kd.C_alloc ?_ _) | (with_reducible refine Kd.C_drewN ?_ _) | (with_reducible refine Kd.C_drew ?_))); (case side2 => exact HC0.out); rintro e w8 ⟨rfl, hb⟩; have n0_ := Aside0.mk (below_step (by repeat (first | (with_reducible first | exact HB.out | apply below_alloc | apply pw_below_drewN | apply below_drew1) | exact HB.out)) hb); clear HB; have HB := n0_; clear n0_; (try clear hb); (try clear hb2); (try clear hk); (try clear hi)))
      repeat (go_quiet (first | (go_at_call 33; (with_reducible refine (impl_GoodVersions.calls k _ _ l0 false _ ?side1 ?side2 A4.out).mono ?_); (case side1 => repeat (first | exact (Kd.C_below HR0.out HB.out) | (with_reducible refine Kd.C_alloc ?_ _) | (with_reducible refine Kd.C_drewN ?_ _) | (with_reducible refine Kd.C_drew ?_))); (case side2 => exact HC0.out); rintro e w8 ⟨rfl, hb⟩; have n0_ := Aside0.mk (below_step (by repeat (first | (with_reducible first | exact HB.out | apply below_alloc | apply pw_below_drewN | apply below_drew1) | exact HB.out)) hb); clear HB; have HB := n0_; clear n0_; (try clear hb); (try clear hb2); (try clear hk); (try clear hi))); try go_wp2_with (first | (go_at_call 33; (with_reducible refine (impl_GoodVersions.calls k _ _ l0 false _ ?side1 ?side2 A4.out).mono ?_); (case side1 => repeat (first | exact (Kd.C_below HR0.out HB.out) | (with_reducible refine Kd.C_alloc ?_ _) | (with_reducible refine Kd.C_drewN ?_ _) | (with_reducible refine Kd.C_drew ?_))); (case side2 => exact HC0.out); rintro e w8 ⟨rfl, hb⟩; have n0_ := Aside0.mk (below_step (by repeat (first | (with_reducible first | exact HB.out | apply below_alloc | apply pw_below_drewN | apply below_drew1) | exact HB.out)) hb); clear HB; have HB := n0_; clear n0_; (try clear hb); (try clear hb2); (try clear hk); (try clear hi))))
      go_meet
      case rel => exact ⟨_, (true), (by first | rfl | (simp; done) | (simp [ext_bne_nil, ext_beq_nil]; done) | (simp [*]; done)), H', ⟨by first | omega | exact Nat.le_refl _⟩, ⟨by repeat (first | (with_reducible first | exact HB.out | apply below_alloc | apply pw_below_drewN | apply below_drew1) | exact HB.out)⟩⟩
  case rest =>
    clear HC3
    try clear c1
    try clear p2
    try clear c5
    obtain ⟨kq, x17_2, rfl, HA, HJ2, HB⟩ := hcut
    cases kq with
    | zero => exact absurd HA.out (by simp [impl_ThinOut.j0])
    | succ kj2 =>
      have H := HA.out
      clear HA
      simp only [impl_ThinOut.j0] at H
      by_cases c9 : x17_2 = true
      · subst c9
        have H1 : (some (([] : List (S42)), false)) = some (r1, r2) := by rw [if_pos rfl] at H; exact H
        clear H
        have H := H1
        clear H1
        simp only [Option.some.injEq, Prod.mk.injEq] at H
        obtain ⟨rfl, rfl⟩ := H
        go_wp2
        repeat (go_quiet (fail); try go_wp2)
        go_ret2
        exact ⟨_, by first | rfl | (simp [errW_none, errW_some] <;> rfl) | (simp [errW_none, errW_some, ext_bne_nil, ext_beq_nil]; done) | (simp [*, errW_none, errW_some] <;> rfl), by first | exact Kd.R_nil _ _ _ _ _ | exact Kd.N_nil _ _ _ _ _ | exact Kd.V_nil _ _ _ _ _ | exact Kd.Q_nil _ _ _ _ _ | exact Kd.S_nil _ _ _ _ _, by repeat (first | (with_reducible first | exact HB.out | apply below_alloc | apply pw_below_drewN | apply below_drew1) | exact HB.out)⟩
      · replace c9 := Bool.eq_false_iff.mpr c9
        subst c9
        have H1 : (impl_ThinOut.l0 kj2 l0 a1 ([] : List (S42)) l0 (l0.length : Int) 0) = some (r1, r2) := by rw [if_neg (show ¬ (false = true) by decide)] at H; exact H
        clear H
        have H := H1
        clear H1
        have H' := Aside0.mk H
        clear H
        go_wp2
        repeat (go_quiet (fail); try go_wp2)
        go_loopg [6, 20] kj2 (fun kq v6 v20 w' => ∃ (x6_2 : List (S42)) (x20_2 : Int), v20 = .int .i64 x20_2 ∧ Aside0 (impl_ThinOut.l0 kq l0 a1 x6_2 l0 (l0.length : Int) x20_2 = some (r1, r2)) ∧ Aside0 (kq ≤ kj2) ∧ Aside0 (Kd.R k42 42 w' w.heap.size (fun _ => True) v6 x6_2) ∧ Aside0 (Below w.heap.size w w'))
        case atStart => exact ⟨(([] : List (S42))), (0), (by first | rfl | (simp; done) | (simp [ext_bne_nil, ext_beq_nil]; done) | (simp [*]; done)), H', ⟨Nat.le_refl _⟩, ⟨by first | exact Kd.R_nil _ _ _ _ _ | exact Kd.N_nil _ _ _ _ _ | exact Kd.V_nil _ _ _ _ _ | exact Kd.Q_nil _ _ _ _ _ | exact Kd.S_nil _ _ _ _ _⟩, ⟨by repeat (first | (with_reducible first | exact HB.out | apply below_alloc | apply pw_below_drewN | apply below_drew1) | exact HB.out)⟩⟩
        case round =>
          clear H'
          try clear c1
          try clear p2
          try clear c5
          try clear c9
          try clear p2
          obtain ⟨x6_2, x20_2, rfl, HA, HK2, HO_6, HB⟩ := hrel
          cases gk with
          | zero => exact absurd HA.out (by simp [impl_ThinOut.l0])
          | succ k2 =>
            have H := HA.out
            clear HA
            simp only [impl_ThinOut.l0] at H
            by_cases c10 : x20_2 < (l0.length : Int)
            · rw [if_pos c10] at H
              have c10b0 : decide (x20_2 < (l0.length : Int)) = true := decide_eq_true c10
              clear c10
              by_cases c11 : 0 ≤ x20_2
              · rw [if_pos c11] at H
                have c11b0 : decide (0 ≤ x20_2) = true := decide_eq_true c11
                clear c11
                by_cases c12 : x20_2 < (l0.length : Int)
                · rw [if_pos c12] at H
                  have c12b0 : decide (x20_2 < (l0.length : Int)) = true := decide_eq_true c12
                  clear c12
                  have HC13 := Aside0.mk H
                  clear H
                  have p183 : 0 ≤ (x20_2 : Int) := of_decide_eq_true (by first | (with_reducible assumption) | assumption)
                  have q183 : x20_2 < (l0.length : Int) := of_decide_eq_true (by first | (with_reducible assumption) | assumption)
                  obtain ⟨ad183, e183, hx183_0, hx183_1, hx183_2, hx183_3⟩ := at_T42 HR0.out x20_2 p183 q183
                  cases e183
                  replace hx183_0 := (HB.out.cell (World.block_lt_of_cell? w _ hx183_0)).trans hx183_0
                  replace hx183_1 := (HB.out.cell (World.block_lt_of_cell? w _ hx183_1)).trans hx183_1
                  replace hx183_2 := (HB.out.cell (World.block_lt_of_cell? w _ hx183_2)).trans hx183_2
                  replace hx183_3 := (HB.out.cell (World.block_lt_of_cell? w _ hx183_3)).trans hx183_3
                  replace p183 := eq_true p183
                  replace q183 := eq_true q183
                  go_upto_region 7 with (first | ((with_reducible refine gate_dst (N := 8) rfl ?_); refine box_event ?hg (N := 8) ?hd (cs := #[.string (⟨#[]⟩ : ByteArray), .int .i64 0, .bool false, .string (⟨#[]⟩ : ByteArray)]) (t := 42) ?hr ?_; (case hd => rfl); (case hg => rfl); (case hr => first | (go_simp; done) | (go_simp; rfl)); intro gb184 hg w14 hbox hb; have n0_ := Aside0.mk (Kd.R_below (Kd.R_elderB (by (with_reducible repeat (first | apply Kd.R_alloc | apply Kd.R_drewN | apply Kd.R_drew)); exact HO_6.out) gb184 (Nat.le_of_eq hg.symm)) hb); have n1_ := Aside0.mk (below_step (by repeat (first | (with_reducible first | exact HB.out | apply below_alloc | apply pw_below_drewN | apply below_drew1) | exact HB.out)) hb); have n2_ := Aside0.mk (hbox); have n3_ := Aside0.mk ((by rw [hg]; exact (below_size (by repeat (first | (with_reducible first | exact HB.out | apply below_alloc | apply pw_below_drewN | apply below_drew1) | exact HB.out))) : w.heap.size ≤ gb184)); have n4_ := Aside0.mk ((by rw [hg]; exact (below_size (by repeat (first | (with_reducible first | exact HB.out | apply below_alloc | apply pw_below_drewN | apply below_drew1) | exact HB.out))) : w.heap.size ≤ gb184)); clear HO_6; clear HB; have HO_6 := n0_; have HB := n1_; have BK184 := n2_; have GW184 := n3_; have GE184 := n4_; clear n0_ n1_ n2_ n3_ n4_; clear hb hbox hg; have hcz15_0 : w14.cell? ⟨gb184, 0, none⟩ = some (.string (⟨#[]⟩ : ByteArray)) := (blk_cell BK184.out 0).trans rfl; have hcz15_1 : w14.cell? ⟨gb184, 1, none⟩ = some (.int .i64 0) := (blk_cell BK184.out 1).trans rfl; have hcz15_2 : w14.cell? ⟨gb184, 2, none⟩ = some (.bool false) := (blk_cell BK184.out 2).trans rfl; have hcz15_3 : w14.cell? ⟨gb184, 3, none⟩ = some (.string (⟨#[]⟩ : ByteArray)) := (blk_cell BK184.out 3).trans rfl; have hfz15_0 := blk_frozen BK184.out 0; have hfz15_1 := blk_frozen BK184.out 1; have hfz15_2 := blk_frozen BK184.out 2; have hfz15_3 := blk_frozen BK184.out 3))
                  repeat (go_quiet (first | ((with_reducible refine gate_dst (N := 8) rfl ?_); refine box_event ?hg (N := 8) ?hd (cs := #[.string (⟨#[]⟩ : ByteArray), .int .i64 0, .bool false, .string (⟨#[]⟩ : ByteArray)]) (t := 42) ?hr ?_; (case hd => rfl); (case hg => rfl); (case hr => first | (go_simp; done) | (go_simp; rfl)); intro gb184 hg w14 hbox hb; have n0_ := Aside0.mk (Kd.R_below (Kd.R_elderB (by (with_reducible repeat (first | apply Kd.R_alloc | apply Kd.R_drewN | apply Kd.R_drew)); exact HO_6.out) gb184 (Nat.le_of_eq hg.symm)) hb); have n1_ := Aside0.mk (below_step (by repeat (first | (with_reducible first | exact HB.out | apply below_alloc | apply pw_below_drewN | apply below_drew1) | exact HB.out)) hb); have n2_ := Aside0.mk (hbox); have n3_ := Aside0.mk ((by rw [hg]; exact (below_size (by repeat (first | (with_reducible first | exact HB.out | apply below_alloc | apply pw_below_drewN | apply below_drew1) | exact HB.out))) : w.heap.size ≤ gb184)); have n4_ := Aside0.mk ((by rw [hg]; exact (below_size (by repeat (first | (with_reducible first | exact HB.out | apply below_alloc | apply pw_below_drewN | apply below_drew1) | exact HB.out))) : w.heap.size ≤ gb184)); clear HO_6; clear HB; have HO_6 := n0_; have HB := n1_; have BK184 := n2_; have GW184 := n3_; have GE184 := n4_; clear n0_ n1_ n2_ n3_ n4_; clear hb hbox hg; have hcz15_0 : w14.cell? ⟨gb184, 0, none⟩ = some (.string (⟨#[]⟩ : ByteArray)) := (blk_cell BK184.out 0).trans rfl; have hcz15_1 : w14.cell? ⟨gb184, 1, none⟩ = some (.int .i64 0) := (blk_cell BK184.out 1).trans rfl; have hcz15_2 : w14.cell? ⟨gb184, 2, none⟩ = some (.bool false) := (blk_cell BK184.out 2).trans rfl; have hcz15_3 : w14.cell? ⟨gb184, 3, none⟩ = some (.string (⟨#[]⟩ : ByteArray)) := (blk_cell BK184.out 3).trans rfl; have hfz15_0 := blk_frozen BK184.out 0; have hfz15_1 := blk_frozen BK184.out 1; have hfz15_2 := blk_frozen BK184.out 2; have hfz15_3 := blk_frozen BK184.out 3)); go_upto_region 7 with (first | ((with_reducible refine gate_dst (N := 8) rfl ?_); refine box_event ?hg (N := 8) ?hd (cs := #[.string (⟨#[]⟩ : ByteArray), .int .i64 0, .bool false, .string (⟨#[]⟩ : ByteArray)]) (t := 42) ?hr ?_; (case hd => rfl); (case hg => rfl); (case hr => first | (go_simp; done) | (go_simp; rfl)); intro gb184 hg w14 hbox hb; have n0_ := Aside0.mk (Kd.R_below (Kd.R_elderB (by (with_reducible repeat (first | apply Kd.R_alloc | apply Kd.R_drewN | apply Kd.R_drew)); exact HO_6.out) gb184 (Nat.le_of_eq hg.symm)) hb); have n1_ := Aside0.mk (below_step (by repeat (first | (with_reducible first | exact HB.out | apply below_alloc | apply pw_below_drewN | apply below_drew1) | exact HB.out)) hb); have n2_ := Aside0.mk (hbox); have n3_ := Aside0.mk ((by rw [hg]; exact (below_size (by repeat (first | (with_reducible first | exact HB.out | apply below_alloc | apply pw_below_drewN | apply below_drew1) | exact HB.out))) : w.heap.size ≤ gb184)); have n4_ := Aside0.mk ((by rw [hg]; exact (below_size (by repeat (first | (with_reducible first | exact HB.out | apply below_alloc | apply pw_below_drewN | apply below_drew1) | exact HB.out))) : w.heap.size ≤ gb184)); clear HO_6; clear HB; have HO_6 := n0_; have HB := n1_; have BK184 := n2_; have GW184 := n3_; have GE184 := n4_; clear n0_ n1_ n2_ n3_ n4_; clear hb hbox hg; have hcz15_0 : w14.cell? ⟨gb184, 0, none⟩ = some (.string (⟨#[]⟩ : ByteArray)) := (blk_cell BK184.out 0).trans rfl; have hcz15_1 : w14.cell? ⟨gb184, 1, none⟩ = some (.int .i64 0) := (blk_cell BK184.out 1).trans rfl; have hcz15_2 : w14.cell? ⟨gb184, 2, none⟩ = some (.bool false) := (blk_cell BK184.out 2).trans rfl; have hcz15_3 : w14.cell? ⟨gb184, 3, none⟩ = some (.string (⟨#[]⟩ : ByteArray)) := (blk_cell BK184.out 3).trans rfl; have hfz15_0 := blk_frozen BK184.out 0; have hfz15_1 := blk_frozen BK184.out 1; have hfz15_2 := blk_frozen BK184.out 2; have hfz15_3 := blk_frozen BK184.out 3)))
                  (try simp only [Act.put, List.setIfInBounds_toArray, List.set_cons_zero, List.set_cons_succ])
                  go_cut [9] (fun v9 wc => ∃ (kq : Nat) (x9_12 : Bool), v9 = .bool x9_12 ∧ Aside0 (impl_ThinOut.j2 kq l0 a1 x6_2 x9_12 l0 (l0.length : Int) x20_2 ((rd_T42 l0 x20_2).f0) ((rd_T42 l0 x20_2).f1) ((rd_T42 l0 x20_2).f2) ((rd_T42 l0 x20_2).f3) = some (r1, r2)) ∧ Aside0 (kq ≤ k2) ∧ Aside0 (Kd.R k42 42 wc w.heap.size (fun k_ => k_ ≠ gb184) u6 x6_2) ∧ Aside0 (wc.heap[gb184]? = some (.cells #[.string ((rd_T42 l0 x20_2).f0), .int .i64 ((rd_T42 l0 x20_2).f1), .bool ((rd_T42 l0 x20_2).f2), .string ((rd_T42 l0 x20_2).f3)] 42 (0, 0))) ∧ Aside0 (Below w.heap.size w wc))
                  case first =>
                    have H := HC13.out
                    clear HC13
                    by_cases c16 : (wrap64 (x20_2 + 1)) < (l0.length : Int)
                    · rw [if_pos c16] at H
                      have c16b0 : decide ((wrap64 (x20_2 + 1)) < (l0.length : Int)) = true := decide_eq_true c16
                      clear c16
                      (first | rw [c16b0] | (simp only [i64_w, i32_w]; rw [c16b0]) | skip)
                      obtain ⟨ji17, hji17⟩ : ∃ j_ : Int, (wrap64 (x20_2 + 1)) = j_ := ⟨_, rfl⟩
                      replace H : (if 0 ≤ (ji17) then (if ((rd_T42 l0 (ji17)).f0).toList = ((rd_T42 l0 x20_2).f0).toList then (impl_ThinOut.j2 k2 l0 a1 x6_2 (decide (((rd_T42 l0 (ji17)).f1) ≤ a1)) l0 (l0.length : Int) x20_2 ((rd_T42 l0 x20_2).f0) ((rd_T42 l0 x20_2).f1) ((rd_T42 l0 x20_2).f2) ((rd_T42 l0 x20_2).f3)) else (impl_ThinOut.j2 k2 l0 a1 x6_2 false l0 (l0.length : Int) x20_2 ((rd_T42 l0 x20_2).f0) ((rd_T42 l0 x20_2).f1) ((rd_T42 l0 x20_2).f2) ((rd_T42 l0 x20_2).f3))) else (none)) = some (r1, r2) := by first | (rw [hji17] at H; exact H) | (simp only [hji17] at H ⊢; exact H)
                      (try rw [hji17] at c16b0)
                      have hji17w : (IntKind.i64.wrap (x20_2 + 1)) = ji17 := (i64_w _).trans hji17
                      by_cases c18 : 0 ≤ (ji17)
                      · rw [if_pos c18] at H
                        have c18b0 : decide (0 ≤ (ji17)) = true := decide_eq_true c18
                        clear c18
                        by_cases c19 : ((rd_T42 l0 (ji17)).f0).toList = ((rd_T42 l0 x20_2).f0).toList
                        · rw [if_pos c19] at H
                          have c19b0 : (((rd_T42 l0 (ji17)).f0).toList == ((rd_T42 l0 x20_2).f0).toList) = true := beq_iff_eq.mpr c19
                          have c19b1 : (((rd_T42 l0 (ji17)).f0).toList != ((rd_T42 l0 x20_2).f0).toList) = false := bne_eq_false_iff_eq.mpr c19
                          clear c19
                          have H' := Aside0.mk H
                          clear H
                          have p185 : 0 ≤ ((ji17) : Int) := of_decide_eq_true (by first | (with_reducible assumption) | assumption)
                          have q185 : (ji17) < (l0.length : Int) := of_decide_eq_true (by first | (with_reducible assumption) | assumption)
                          obtain ⟨ad185, e185, hx185_0, hx185_1, hx185_2, hx185_3⟩ := at_T42 HR0.out (ji17) p185 q185
                          obtain rfl : ad183 = ad185 := (by injection e185)
                          have hn185_0 : ad183.block ≠ gb184 := Nat.ne_of_lt (Nat.lt_of_lt_of_le (by have := World.block_lt_of_cell? _ _ hx185_0; first | rwa [add_block] at this | exact this) GW184.out)
                          have hn185_1 : ad183.block ≠ gb184 := Nat.ne_of_lt (Nat.lt_of_lt_of_le (by have := World.block_lt_of_cell? _ _ hx185_0; first | rwa [add_block] at this | exact this) GW184.out)
                          have hn185_2 : ad183.block ≠ gb184 := Nat.ne_of_lt (Nat.lt_of_lt_of_le (by have := World.block_lt_of_cell? _ _ hx185_0; first | rwa [add_block] at this | exact this) GW184.out)
                          have hn185_3 : ad183.block ≠ gb184 := Nat.ne_of_lt (Nat.lt_of_lt_of_le (by have := World.block_lt_of_cell? _ _ hx185_0; first | rwa [add_block] at this | exact this) GW184.out)
                          replace hx185_0 := (HB.out.cell (World.block_lt_of_cell? w _ hx185_0)).trans hx185_0
                          replace hx185_1 := (HB.out.cell (World.block_lt_of_cell? w _ hx185_1)).trans hx185_1
                          replace hx185_2 := (HB.out.cell (World.block_lt_of_cell? w _ hx185_2)).trans hx185_2
                          replace hx185_3 := (HB.out.cell (World.block_lt_of_cell? w _ hx185_3)).trans hx185_3
                          replace hx185_0 := (cell_far (p := ⟨gb184, 0, none⟩) (by first | (rw [add_block]; exact hn185_0) | (show (Addr.add _ _).block ≠ _; rw [add_block]; exact hn185_0) | exact hn185_0) (.string ((rd_T42 l0 x20_2).f0))).trans hx185_0
                          replace hx185_1 := (cell_far (p := ⟨gb184, 0, none⟩) (by first | (rw [add_block]; exact hn185_0) | (show (Addr.add _ _).block ≠ _; rw [add_block]; exact hn185_0) | exact hn185_0) (.string ((rd_T42 l0 x20_2).f0))).trans hx185_1
                          replace hx185_2 := (cell_far (p := ⟨gb184, 0, none⟩) (by first | (rw [add_block]; exact hn185_0) | (show (Addr.add _ _).block ≠ _; rw [add_block]; exact hn185_0) | exact hn185_0) (.string ((rd_T42 l0 x20_2).f0))).trans hx185_2
                          replace hx185_3 := (cell_far (p := ⟨gb184, 0, none⟩) (by first | (rw [add_block]; exact hn185_0) | (show (Addr.add _ _).block ≠ _; rw [add_block]; exact hn185_0) | exact hn185_0) (.string ((rd_T42 l0 x20_2).f0))).trans hx185_3
                          replace hx185_0 := (cell_far (p := ⟨gb184, 1, none⟩) (by first | (rw [add_block]; exact hn185_1) | (show (Addr.add _ _).block ≠ _; rw [add_block]; exact hn185_1) | exact hn185_1) (.int .i64 ((rd_T42 l0 x20_2).f1))).trans hx185_0
                          replace hx185_1 := (cell_far (p := ⟨gb184, 1, none⟩) (by first | (rw [add_block]; exact hn185_1) | (show (Addr.add _ _).block ≠ _; rw [add_block]; exact hn185_1) | exact hn185_1) (.int .i64 ((rd_T42 l0 x20_2).f1))).trans hx185_1
                          replace hx185_2 := (cell_far (p := ⟨gb184, 1, none⟩) (by first | (rw [add_block]; exact hn185_1) | (show (Addr.add _ _).block ≠ _; rw [add_block]; exact hn185_1) | exact hn185_1) (.int .i64 ((rd_T42 l0 x20_2).f1))).trans hx185_2
                          replace hx185_3 := (cell_far (p := ⟨gb184, 1, none⟩) (by first | (rw [add_block]; exact hn185_1) | (show (Addr.add _ _).block ≠ _; rw [add_block]; exact hn185_1) | exact hn185_1) (.int .i64 ((rd_T42 l0 x20_2).f1))).trans hx185_3
                          replace hx185_0 := (cell_far (p := ⟨gb184, 2, none⟩) (by first | (rw [add_block]; exact hn185_2) | (show (Addr.add _ _).block ≠ _; rw [add_block]; exact hn185_2) | exact hn185_2) (.bool ((rd_T42 l0 x20_2).f2))).trans hx185_0
                          replace hx185_1 := (cell_far (p := ⟨gb184, 2, none⟩) (by first | (rw [add_block]; exact hn185_2) | (show (Addr.add _ _).block ≠ _; rw [add_block]; exact hn185_2) | exact hn185_2) (.bool ((rd_T42 l0 x20_2).f2))).trans hx185_1
                          replace hx185_2 := (cell_far (p := ⟨gb184, 2, none⟩) (by first | (rw [add_block]; exact hn185_2) | (show (Addr.add _ _).block ≠ _; rw [add_block]; exact hn185_2) | exact hn185_2) (.bool ((rd_T42 l0 x20_2).f2))).trans hx185_2
                          replace hx185_3 := (cell_far (p := ⟨gb184, 2, none⟩) (by first | (rw [add_block]; exact hn185_2) | (show (Addr.add _ _).block ≠ _; rw [add_block]; exact hn185_2) | exact hn185_2) (.bool ((rd_T42 l0 x20_2).f2))).trans hx185_3
                          replace hx185_0 := (cell_far (p := ⟨gb184, 3, none⟩) (by first | (rw [add_block]; exact hn185_3) | (show (Addr.add _ _).block ≠ _; rw [add_block]; exact hn185_3) | exact hn185_3) (.string ((rd_T42 l0 x20_2).f3))).trans hx185_0
                          replace hx185_1 := (cell_far (p := ⟨gb184, 3, none⟩) (by first | (rw [add_block]; exact hn185_3) | (show (Addr.add _ _).block ≠ _; rw [add_block]; exact hn185_3) | exact hn185_3) (.string ((rd_T42 l0 x20_2).f3))).trans hx185_1
                          replace hx185_2 := (cell_far (p := ⟨gb184, 3, none⟩) (by first | (rw [add_block]; exact hn185_3) | (show (Addr.add _ _).block ≠ _; rw [add_block]; exact hn185_3) | exact hn185_3) (.string ((rd_T42 l0 x20_2).f3))).trans hx185_2
                          replace hx185_3 := (cell_far (p := ⟨gb184, 3, none⟩) (by first | (rw [add_block]; exact hn185_3) | (show (Addr.add _ _).block ≠ _; rw [add_block]; exact hn185_3) | exact hn185_3) (.string ((rd_T42 l0 x20_2).f3))).trans hx185_3
                          (try have hy185_0 := fun (n_ : Nat) => (show ((((((w14.drewN n_).setCell ⟨gb184, 0, none⟩ (.string ((rd_T42 l0 x20_2).f0))).setCell ⟨gb184, 1, none⟩ (.int .i64 ((rd_T42 l0 x20_2).f1))).setCell ⟨gb184, 2, none⟩ (.bool ((rd_T42 l0 x20_2).f2))).setCell ⟨gb184, 3, none⟩ (.string ((rd_T42 l0 x20_2).f3)))).cell? _ = some _ from hx185_0))
                          (try have hy185_1 := fun (n_ : Nat) => (show ((((((w14.drewN n_).setCell ⟨gb184, 0, none⟩ (.string ((rd_T42 l0 x20_2).f0))).setCell ⟨gb184, 1, none⟩ (.int .i64 ((rd_T42 l0 x20_2).f1))).setCell ⟨gb184, 2, none⟩ (.bool ((rd_T42 l0 x20_2).f2))).setCell ⟨gb184, 3, none⟩ (.string ((rd_T42 l0 x20_2).f3)))).cell? _ = some _ from hx185_1))
                          (try have hy185_2 := fun (n_ : Nat) => (show ((((((w14.drewN n_).setCell ⟨gb184, 0, none⟩ (.string ((rd_T42 l0 x20_2).f0))).setCell ⟨gb184, 1, none⟩ (.int .i64 ((rd_T42 l0 x20_2).f1))).setCell ⟨gb184, 2, none⟩ (.bool ((rd_T42 l0 x20_2).f2))).setCell ⟨gb184, 3, none⟩ (.string ((rd_T42 l0 x20_2).f3)))).cell? _ = some _ from hx185_2))
                          (try have hy185_3 := fun (n_ : Nat) => (show ((((((w14.drewN n_).setCell ⟨gb184, 0, none⟩ (.string ((rd_T42 l0 x20_2).f0))).setCell ⟨gb184, 1, none⟩ (.int .i64 ((rd_T42 l0 x20_2).f1))).setCell ⟨gb184, 2, none⟩ (.bool ((rd_T42 l0 x20_2).f2))).setCell ⟨gb184, 3, none⟩ (.string ((rd_T42 l0 x20_2).f3)))).cell? _ = some _ from hx185_3))
                          clear hn185_0
                          clear hn185_1
                          clear hn185_2
                          clear hn185_3
                          replace p185 := eq_true p185
                          replace q185 := eq_true q185
                          have hcz20_0 : w14.cell? ⟨gb184, 0, none⟩ = some (.string (⟨#[]⟩ : ByteArray)) := (blk_cell BK184.out 0).trans rfl
                          have hcz20_1 : w14.cell? ⟨gb184, 1, none⟩ = some (.int .i64 0) := (blk_cell BK184.out 1).trans rfl
                          have hcz20_2 : w14.cell? ⟨gb184, 2, none⟩ = some (.bool false) := (blk_cell BK184.out 2).trans rfl
                          have hcz20_3 : w14.cell? ⟨gb184, 3, none⟩ = some (.string (⟨#[]⟩ : ByteArray)) := (blk_cell BK184.out 3).trans rfl
                          have hfz20_0 := blk_frozen BK184.out 0
                          have hfz20_1 := blk_frozen BK184.out 1
                          have hfz20_2 := blk_frozen BK184.out 2
                          have hfz20_3 := blk_frozen BK184.out 3
                          have p186 : 0 ≤ ((ji17) : Int) := of_decide_eq_true (by first | (with_reducible assumption) | assumption)
                          have q186 : (ji17) < (l0.length : Int) := of_decide_eq_true (by first | (with_reducible assumption) | assumption)
                          obtain ⟨ad186, e186, hx186_0, hx186_1, hx186_2, hx186_3⟩ := at_T42 HR0.out (ji17) p186 q186
                          obtain rfl : ad183 = ad186 := (by injection e186)
                          have hn186_0 : ad183.block ≠ gb184 := Nat.ne_of_lt (Nat.lt_of_lt_of_le (by have := World.block_lt_of_cell? _ _ hx186_0; first | rwa [add_block] at this | exact this) GW184.out)
                          have hn186_1 : ad183.block ≠ gb184 := Nat.ne_of_lt (Nat.lt_of_lt_of_le (by have := World.block_lt_of_cell? _ _ hx186_0; first | rwa [add_block] at this | exact this) GW184.out)
                          have hn186_2 : ad183.block ≠ gb184 := Nat.ne_of_lt (Nat.lt_of_lt_of_le (by have := World.block_lt_of_cell? _ _ hx186_0; first | rwa [add_block] at this | exact this) GW184.out)
                          have hn186_3 : ad183.block ≠ gb184 := Nat.ne_of_lt (Nat.lt_of_lt_of_le (by have := World.block_lt_of_cell? _ _ hx186_0; first | rwa [add_block] at this | exact this) GW184.out)
                          replace hx186_0 := (HB.out.cell (World.block_lt_of_cell? w _ hx186_0)).trans hx186_0
                          replace hx186_1 := (HB.out.cell (World.block_lt_of_cell? w _ hx186_1)).trans hx186_1
                          replace hx186_2 := (HB.out.cell (World.block_lt_of_cell? w _ hx186_2)).trans hx186_2
                          replace hx186_3 := (HB.out.cell (World.block_lt_of_cell? w _ hx186_3)).trans hx186_3
                          replace hx186_0 := (cell_far (p := ⟨gb184, 0, none⟩) (by first | (rw [add_block]; exact hn186_0) | (show (Addr.add _ _).block ≠ _; rw [add_block]; exact hn186_0) | exact hn186_0) (.string ((rd_T42 l0 x20_2).f0))).trans hx186_0
                          replace hx186_1 := (cell_far (p := ⟨gb184, 0, none⟩) (by first | (rw [add_block]; exact hn186_0) | (show (Addr.add _ _).block ≠ _; rw [add_block]; exact hn186_0) | exact hn186_0) (.string ((rd_T42 l0 x20_2).f0))).trans hx186_1
                          replace hx186_2 := (cell_far (p := ⟨gb184, 0, none⟩) (by first | (rw [add_block]; exact hn186_0) | (show (Addr.add _ _).block ≠ _; rw [add_block]; exact hn186_0) | exact hn186_0) (.string ((rd_T42 l0 x20_2).f0))).trans hx186_2
                          replace hx186_3 := (cell_far (p := ⟨gb184, 0, none⟩) (by first | (rw [add_block]; exact hn186_0) | (show (Addr.add _ _).block ≠ _; rw [add_block]; exact hn186_0) | exact hn186_0) (.string ((rd_T42 l0 x20_2).f0))).trans hx186_3
                          replace hx186_0 := (cell_far (p := ⟨gb184, 1, none⟩) (by first | (rw [add_block]; exact hn186_1) | (show (Addr.add _ _).block ≠ _; rw [add_block]; exact hn186_1) | exact hn186_1) (.int .i64 ((rd_T42 l0 x20_2).f1))).trans hx186_0
                          replace hx186_1 := (cell_far (p := ⟨gb184, 1, none⟩) (by first | (rw [add_block]; exact hn186_1) | (show (Addr.add _ _).block ≠ _; rw [add_block]; exact hn186_1) | exact hn186_1) (.int .i64 ((rd_T42 l0 x20_2).f1))).trans hx186_1
                          replace hx186_2 := (cell_far (p := ⟨gb184, 1, none⟩) (by first | (rw [add_block]; exact hn186_1) | (show (Addr.add _ _).block ≠ _; rw [add_block]; exact hn186_1) | exact hn186_1) (.int .i64 ((rd_T42 l0 x20_2).f1))).trans hx186_2
                          replace hx186_3 := (cell_far (p := ⟨gb184, 1, none⟩) (by first | (rw [add_block]; exact hn186_1) | (show (Addr.add _ _).block ≠ _; rw [add_block]; exact hn186_1) | exact hn186_1) (.int .i64 ((rd_T42 l0 x20_2).f1))).trans hx186_3
                          replace hx186_0 := (cell_far (p := ⟨gb184, 2, none⟩) (by first | (rw [add_block]; exact hn186_2) | (show (Addr.add _ _).block ≠ _; rw [add_block]; exact hn186_2) | exact hn186_2) (.bool ((rd_T42 l0 x20_2).f2))).trans hx186_0
                          replace hx186_1 := (cell_far (p := ⟨gb184, 2, none⟩) (by first | (rw [add_block]; exact hn186_2) | (show (Addr.add _ _).block ≠ _; rw [add_block]; exact hn186_2) | exact hn186_2) (.bool ((rd_T42 l0 x20_2).f2))).trans hx186_1
                          replace hx186_2 := (cell_far (p := ⟨gb184, 2, none⟩) (by first | (rw [add_block]; exact hn186_2) | (show (Addr.add _ _).block ≠ _; rw [add_block]; exact hn186_2) | exact hn186_2) (.bool ((rd_T42 l0 x20_2).f2))).trans hx186_2
                          replace hx186_3 := (cell_far (p := ⟨gb184, 2, none⟩) (by first | (rw [add_block]; exact hn186_2) | (show (Addr.add _ _).block ≠ _; rw [add_block]; exact hn186_2) | exact hn186_2) (.bool ((rd_T42 l0 x20_2).f2))).trans hx186_3
                          replace hx186_0 := (cell_far (p := ⟨gb184, 3, none⟩) (by first | (rw [add_block]; exact hn186_3) | (show (Addr.add _ _).block ≠ _; rw [add_block]; exact hn186_3) | exact hn186_3) (.string ((rd_T42 l0 x20_2).f3))).trans hx186_0
                          replace hx186_1 := (cell_far (p := ⟨gb184, 3, none⟩) (by first | (rw [add_block]; exact hn186_3) | (show (Addr.add _ _).block ≠ _; rw [add_block]; exact hn186_3) | exact hn186_3) (.string ((rd_T42 l0 x20_2).f3))).trans hx186_1
                          replace hx186_2 := (cell_far (p := ⟨gb184, 3, none⟩) (by first | (rw [add_block]; exact hn186_3) | (show (Addr.add _ _).block ≠ _; rw [add_block]; exact hn186_3) | exact hn186_3) (.string ((rd_T42 l0 x20_2).f3))).trans hx186_2
                          replace hx186_3 := (cell_far (p := ⟨gb184, 3, none⟩) (by first | (rw [add_block]; exact hn186_3) | (show (Addr.add _ _).block ≠ _; rw [add_block]; exact hn186_3) | exact hn186_3) (.string ((rd_T42 l0 x20_2).f3))).trans hx186_3
                          (try have hy186_0 := fun (n_ : Nat) => (show ((((((w14.drewN n_).setCell ⟨gb184, 0, none⟩ (.string ((rd_T42 l0 x20_2).f0))).setCell ⟨gb184, 1, none⟩ (.int .i64 ((rd_T42 l0 x20_2).f1))).setCell ⟨gb184, 2, none⟩ (.bool ((rd_T42 l0 x20_2).f2))).setCell ⟨gb184, 3, none⟩ (.string ((rd_T42 l0 x20_2).f3)))).cell? _ = some _ from hx186_0))
                          (try have hy186_1 := fun (n_ : Nat) => (show ((((((w14.drewN n_).setCell ⟨gb184, 0, none⟩ (.string ((rd_T42 l0 x20_2).f0))).setCell ⟨gb184, 1, none⟩ (.int .i64 ((rd_T42 l0 x20_2).f1))).setCell ⟨gb184, 2, none⟩ (.bool ((rd_T42 l0 x20_2).f2))).setCell ⟨gb184, 3, none⟩ (.string ((rd_T42 l0 x20_2).f3)))).cell? _ = some _ from hx186_1))
                          (try have hy186_2 := fun (n_ : Nat) => (show ((((((w14.drewN n_).setCell ⟨gb184, 0, none⟩ (.string ((rd_T42 l0 x20_2).f0))).setCell ⟨gb184, 1, none⟩ (.int .i64 ((rd_T42 l0 x20_2).f1))).setCell ⟨gb184, 2, none⟩ (.bool ((rd_T42 l0 x20_2).f2))).setCell ⟨gb184, 3, none⟩ (.string ((rd_T42 l0 x20_2).f3)))).cell? _ = some _ from hx186_2))
                          (try have hy186_3 := fun (n_ : Nat) => (show ((((((w14.drewN n_).setCell ⟨gb184, 0, none⟩ (.string ((rd_T42 l0 x20_2).f0))).setCell ⟨gb184, 1, none⟩ (.int .i64 ((rd_T42 l0 x20_2).f1))).setCell ⟨gb184, 2, none⟩ (.bool ((rd_T42 l0 x20_2).f2))).setCell ⟨gb184, 3, none⟩ (.string ((rd_T42 l0 x20_2).f3)))).cell? _ = some _ from hx186_3))
                          clear hn186_0
                          clear hn186_1
                          clear hn186_2
                          clear hn186_3
                          replace p186 := eq_true p186
                          replace q186 := eq_true q186
                          go_wp2
                          repeat (go_quiet (fail); try go_wp2)
                          go_meet
                          case rel => exact ⟨_, (decide (((rd_T42 l0 (ji17)).f1) ≤ a1)), (by first | rfl | (simp; done) | (simp [ext_bne_nil, ext_beq_nil]; done) | (simp only [← hji17] <;> (first | rfl | simp)) | (simp [*]; done)), H', ⟨by have := HJ2.out; have := HK2.out; first | omega | exact Nat.le_refl _⟩, ⟨by (with_reducible repeat (first | apply Kd.R_alloc | apply Kd.R_drewN | apply Kd.R_drew)); exact Kd.R_mono (Kd.R_far (p := ⟨gb184, 3, none⟩) (Kd.R_far (p := ⟨gb184, 2, none⟩) (Kd.R_far (p := ⟨gb184, 1, none⟩) (Kd.R_far (p := ⟨gb184, 0, none⟩) (Kd.R_mono HO_6.out (fun k_ hk => (⟨hk, hk.2⟩ : _ ∧ k_ ≠ gb184))) (fun _ hk => hk.2) (.string ((rd_T42 l0 x20_2).f0))) (fun _ hk => hk.2) (.int .i64 ((rd_T42 l0 x20_2).f1))) (fun _ hk => hk.2) (.bool ((rd_T42 l0 x20_2).f2))) (fun _ hk => hk.2) (.string ((rd_T42 l0 x20_2).f3))) (fun _ hk => hk.1.2)⟩, ⟨by (with_reducible repeat (first | refine blk_drewN ?_ _ | refine blk_drew ?_ | refine blk_alloc ?_ _)); refine blk_put (cs := #[.string ((rd_T42 l0 x20_2).f0), .int .i64 ((rd_T42 l0 x20_2).f1), .bool ((rd_T42 l0 x20_2).f2), .string (⟨#[]⟩ : ByteArray)]) ?_ 3 _ rfl; (with_reducible repeat (first | refine blk_drewN ?_ _ | refine blk_drew ?_ | refine blk_alloc ?_ _)); refine blk_put (cs := #[.string ((rd_T42 l0 x20_2).f0), .int .i64 ((rd_T42 l0 x20_2).f1), .bool false, .string (⟨#[]⟩ : ByteArray)]) ?_ 2 _ rfl; (with_reducible repeat (first | refine blk_drewN ?_ _ | refine blk_drew ?_ | refine blk_alloc ?_ _)); refine blk_put (cs := #[.string ((rd_T42 l0 x20_2).f0), .int .i64 0, .bool false, .string (⟨#[]⟩ : ByteArray)]) ?_ 1 _ rfl; (with_reducible repeat (first | refine blk_drewN ?_ _ | refine blk_drew ?_ | refine blk_alloc ?_ _)); refine blk_put (cs := #[.string (⟨#[]⟩ : ByteArray), .int .i64 0, .bool false, .string (⟨#[]⟩ : ByteArray)]) ?_ 0 _ rfl; (with_reducible repeat (first | refine blk_drewN ?_ _ | refine blk_drew ?_ | refine blk_alloc ?_ _)); exact BK184.out⟩, ⟨by repeat (first | (with_reducible first | exact HB.out | apply below_alloc | apply pw_below_drewN | apply below_drew1 | refine below_set ?_ GE184.out) | exact HB.out)⟩⟩
                        · rw [if_neg c19] at H
                          have c19b0 : (((rd_T42 l0 (ji17)).f0).toList == ((rd_T42 l0 x20_2).f0).toList) = false := beq_eq_false_iff_ne.mpr c19
                          have c19b1 : (((rd_T42 l0 (ji17)).f0).toList != ((rd_T42 l0 x20_2).f0).toList) = true := bne_iff_ne.mpr c19
                          have H' := Aside0.mk H
                          clear H
                          have p185 : 0 ≤ ((ji17) : Int) := of_decide_eq_true (by first | (with_reducible assumption) | assumption)
                          have q185 : (ji17) < (l0.length : Int) := of_decide_eq_true (by first | (with_reducible assumption) | assumption)
                          obtain ⟨ad185, e185, hx185_0, hx185_1, hx185_2, hx185_3⟩ := at_T42 HR0.out (ji17) p185 q185
                          obtain rfl : ad183 = ad185 := (by injection e185)
                          have hn185_0 : ad183.block ≠ gb184 := Nat.ne_of_lt (Nat.lt_of_lt_of_le (by have := World.block_lt_of_cell? _ _ hx185_0; first | rwa [add_block] at this | exact this) GW184.out)
                          have hn185_1 : ad183.block ≠ gb184 := Nat.ne_of_lt (Nat.lt_of_lt_of_le (by have := World.block_lt_of_cell? _ _ hx185_0; first | rwa [add_block] at this | exact this) GW184.out)
                          have hn185_2 : ad183.block ≠ gb184 := Nat.ne_of_lt (Nat.lt_of_lt_of_le (by have := World.block_lt_of_cell? _ _ hx185_0; first | rwa [add_block] at this | exact this) GW184.out)
                          have hn185_3 : ad183.block ≠ gb184 := Nat.ne_of_lt (Nat.lt_of_lt_of_le (by have := World.block_lt_of_cell? _ _ hx185_0; first | rwa [add_block] at this | exact this) GW184.out)
                          replace hx185_0 := (HB.out.cell (World.block_lt_of_cell? w _ hx185_0)).trans hx185_0
                          replace hx185_1 := (HB.out.cell (World.block_lt_of_cell? w _ hx185_1)).trans hx185_1
                          replace hx185_2 := (HB.out.cell (World.block_lt_of_cell? w _ hx185_2)).trans hx185_2
                          replace hx185_3 := (HB.out.cell (World.block_lt_of_cell? w _ hx185_3)).trans hx185_3
                          replace hx185_0 := (cell_far (p := ⟨gb184, 0, none⟩) (by first | (rw [add_block]; exact hn185_0) | (show (Addr.add _ _).block ≠ _; rw [add_block]; exact hn185_0) | exact hn185_0) (.string ((rd_T42 l0 x20_2).f0))).trans hx185_0
                          replace hx185_1 := (cell_far (p := ⟨gb184, 0, none⟩) (by first | (rw [add_block]; exact hn185_0) | (show (Addr.add _ _).block ≠ _; rw [add_block]; exact hn185_0) | exact hn185_0) (.string ((rd_T42 l0 x20_2).f0))).trans hx185_1
                          replace hx185_2 := (cell_far (p := ⟨gb184, 0, none⟩) (by first | (rw [add_block]; exact hn185_0) | (show (Addr.add _ _).block ≠ _; rw [add_block]; exact hn185_0) | exact hn185_0) (.string ((rd_T42 l0 x20_2).f0))).trans hx185_2
                          replace hx185_3 := (cell_far (p := ⟨gb184, 0, none⟩) (by first | (rw [add_block]; exact hn185_0) | (show (Addr.add _ _).block ≠ _; rw [add_block]; exact hn185_0) | exact hn185_0) (.string ((rd_T42 l0 x20_2).f0))).trans hx185_3
                          replace hx185_0 := (cell_far (p := ⟨gb184, 1, none⟩) (by first | (rw [add_block]; exact hn185_1) | (show (Addr.add _ _).block ≠ _; rw [add_block]; exact hn185_1) | exact hn185_1) (.int .i64 ((rd_T42 l0 x20_2).f1))).trans hx185_0
                          replace hx185_1 := (cell_far (p := ⟨gb184, 1, none⟩) (by first | (rw [add_block]; exact hn185_1) | (show (Addr.add _ _).block ≠ _; rw [add_block]; exact hn185_1) | exact hn185_1) (.int .i64 ((rd_T42 l0 x20_2).f1))).trans hx185_1
                          replace hx185_2 := (cell_far (p := ⟨gb184, 1, none⟩) (by first | (rw [add_block]; exact hn185_1) | (show (Addr.add _ _).block ≠ _; rw [add_block]; exact hn185_1) | exact hn185_1) (.int .i64 ((rd_T42 l0 x20_2).f1))).trans hx185_2
                          replace hx185_3 := (cell_far (p := ⟨gb184, 1, none⟩) (by first | (rw [add_block]; exact hn185_1) | (show (Addr.add _ _).block ≠ _; rw [add_block]; exact hn185_1) | exact hn185_1) (.int .i64 ((rd_T42 l0 x20_2).f1))).trans hx185_3
                          replace hx185_0 := (cell_far (p := ⟨gb184, 2, none⟩) (by first | (rw [add_block]; exact hn185_2) | (show (Addr.add _ _).block ≠ _; rw [add_block]; exact hn185_2) | exact hn185_2) (.bool ((rd_T42 l0 x20_2).f2))).trans hx185_0
                          replace hx185_1 := (cell_far (p := ⟨gb184, 2, none⟩) (by first | (rw [add_block]; exact hn185_2) | (show (Addr.add _ _).block ≠ _; rw [add_block]; exact hn185_2) | exact hn185_2) (.bool ((rd_T42 l0 x20_2).f2))).trans hx185_1
                          replace hx185_2 := (cell_far (p := ⟨gb184, 2, none⟩) (by first | (rw [add_block]; exact hn185_2) | (show (Addr.add _ _).block ≠ _; rw [add_block]; exact hn185_2) | exact hn185_2) (.bool ((rd_T42 l0 x20_2).f2))).trans hx185_2
                          replace hx185_3 := (cell_far (p := ⟨gb184, 2, none⟩) (by first | (rw [add_block]; exact hn185_2) | (show (Addr.add _ _).block ≠ _; rw [add_block]; exact hn185_2) | exact hn185_2) (.bool ((rd_T42 l0 x20_2).f2))).trans hx185_3
                          replace hx185_0 := (cell_far (p := ⟨gb184, 3, none⟩) (by first | (rw [add_block]; exact hn185_3) | (show (Addr.add _ _).block ≠ _; rw [add_block]; exact hn185_3) | exact hn185_3) (.string ((rd_T42 l0 x20_2).f3))).trans hx185_0
                          replace hx185_1 := (cell_far (p := ⟨gb184, 3, none⟩) (by first | (rw [add_block]; exact hn185_3) | (show (Addr.add _ _).block ≠ _; rw [add_block]; exact hn185_3) | exact hn185_3) (.string ((rd_T42 l0 x20_2).f3))).trans hx185_1
                          replace hx185_2 := (cell_far (p := ⟨gb184, 3, none⟩) (by first | (rw [add_block]; exact hn185_3) | (show (Addr.add _ _).block ≠ _; rw [add_block]; exact hn185_3) | exact hn185_3) (.string ((rd_T42 l0 x20_2).f3))).trans hx185_2
                          replace hx185_3 := (cell_far (p := ⟨gb184, 3, none⟩) (by first | (rw [add_block]; exact hn185_3) | (show (Addr.add _ _).block ≠ _; rw [add_block]; exact hn185_3) | exact hn185_3) (.string ((rd_T42 l0 x20_2).f3))).trans hx185_3
                          (try have hy185_0 := fun (n_ : Nat) => (show ((((((w14.drewN n_).setCell ⟨gb184, 0, none⟩ (.string ((rd_T42 l0 x20_2).f0))).setCell ⟨gb184, 1, none⟩ (.int .i64 ((rd_T42 l0 x20_2).f1))).setCell ⟨gb184, 2, none⟩ (.bool ((rd_T42 l0 x20_2).f2))).setCell ⟨gb184, 3, none⟩ (.string ((rd_T42 l0 x20_2).f3)))).cell? _ = some _ from hx185_0))
                          (try have hy185_1 := fun (n_ : Nat) => (show ((((((w14.drewN n_).setCell ⟨gb184, 0, none⟩ (.string ((rd_T42 l0 x20_2).f0))).setCell ⟨gb184, 1, none⟩ (.int .i64 ((rd_T42 l0 x20_2).f1))).setCell ⟨gb184, 2, none⟩ (.bool ((rd_T42 l0 x20_2).f2))).setCell ⟨gb184, 3, none⟩ (.string ((rd_T42 l0 x20_2).f3)))).cell? _ = some _ from hx185_1))
                          (try have hy185_2 := fun (n_ : Nat) => (show ((((((w14.drewN n_).setCell ⟨gb184, 0, none⟩ (.string ((rd_T42 l0 x20_2).f0))).setCell ⟨gb184, 1, none⟩ (.int .i64 ((rd_T42 l0 x20_2).f1))).setCell ⟨gb184, 2, none⟩ (.bool ((rd_T42 l0 x20_2).f2))).setCell ⟨gb184, 3, none⟩ (.string ((rd_T42 l0 x20_2).f3)))).cell? _ = some _ from hx185_2))
                          (try have hy185_3 := fun (n_ : Nat) => (show ((((((w14.drewN n_).setCell ⟨gb184, 0, none⟩ (.string ((rd_T42 l0 x20_2).f0))).setCell ⟨gb184, 1, none⟩ (.int .i64 ((rd_T42 l0 x20_2).f1))).setCell ⟨gb184, 2, none⟩ (.bool ((rd_T42 l0 x20_2).f2))).setCell ⟨gb184, 3, none⟩ (.string ((rd_T42 l0 x20_2).f3)))).cell? _ = some _ from hx185_3))
                          clear hn185_0
                          clear hn185_1
                          clear hn185_2
                          clear hn185_3
                          replace p185 := eq_true p185
                          replace q185 := eq_true q185
                          have hcz21_0 : w14.cell? ⟨gb184, 0, none⟩ = some (.string (⟨#[]⟩ : ByteArray)) := (blk_cell BK184.out 0).trans rfl
                          have hcz21_1 : w14.cell? ⟨gb184, 1, none⟩ = some (.int .i64 0) := (blk_cell BK184.out 1).trans rfl
                          have hcz21_2 : w14.cell? ⟨gb184, 2, none⟩ = some (.bool false) := (blk_cell BK184.out 2).trans rfl
                          have hcz21_3 : w14.cell? ⟨gb184, 3, none⟩ = some (.string (⟨#[]⟩ : ByteArray)) := (blk_cell BK184.out 3).trans rfl
                          have hfz21_0 := blk_frozen BK184.out 0
                          have hfz21_1 := blk_frozen BK184.out 1
                          have hfz21_2 := blk_frozen BK184.out 2
                          have hfz21_3 := blk_frozen BK184.out 3
                          go_wp2
                          repeat (go_quiet (fail); try go_wp2)
                          go_meet
                          case rel => exact ⟨_, (false), (by first | rfl | (simp; done) | (simp [ext_bne_nil, ext_beq_nil]; done) | (simp [*]; done)), H', ⟨by have := HJ2.out; have := HK2.out; first | omega | exact Nat.le_refl _⟩, ⟨by (with_reducible repeat (first | apply Kd.R_alloc | apply Kd.R_drewN | apply Kd.R_drew)); exact Kd.R_mono (Kd.R_far (p := ⟨gb184, 3, none⟩) (Kd.R_far (p := ⟨gb184, 2, none⟩) (Kd.R_far (p := ⟨gb184, 1, none⟩) (Kd.R_far (p := ⟨gb184, 0, none⟩) (Kd.R_mono HO_6.out (fun k_ hk => (⟨hk, hk.2⟩ : _ ∧ k_ ≠ gb184))) (fun _ hk => hk.2) (.string ((rd_T42 l0 x20_2).f0))) (fun _ hk => hk.2) (.int .i64 ((rd_T42 l0 x20_2).f1))) (fun _ hk => hk.2) (.bool ((rd_T42 l0 x20_2).f2))) (fun _ hk => hk.2) (.string ((rd_T42 l0 x20_2).f3))) (fun _ hk => hk.1.2)⟩, ⟨by (with_reducible repeat (first | refine blk_drewN ?_ _ | refine blk_drew ?_ | refine blk_alloc ?_ _)); refine blk_put (cs := #[.string ((rd_T42 l0 x20_2).f0), .int .i64 ((rd_T42 l0 x20_2).f1), .bool ((rd_T42 l0 x20_2).f2), .string (⟨#[]⟩ : ByteArray)]) ?_ 3 _ rfl; (with_reducible repeat (first | refine blk_drewN ?_ _ | refine blk_drew ?_ | refine blk_alloc ?_ _)); refine blk_put (cs := #[.string ((rd_T42 l0 x20_2).f0), .int .i64 ((rd_T42 l0 x20_2).f1), .bool false, .string (⟨#[]⟩ : ByteArray)]) ?_ 2 _ rfl; (with_reducible repeat (first | refine blk_drewN ?_ _ | refine blk_drew ?_ | refine blk_alloc ?_ _)); refine blk_put (cs := #[.string ((rd_T42 l0 x20_2).f0), .int .i64 0, .bool false, .string (⟨#[]⟩ : ByteArray)]) ?_ 1 _ rfl; (with_reducible repeat (first | refine blk_drewN ?_ _ | refine blk_drew ?_ | refine blk_alloc ?_ _)); refine blk_put (cs := #[.string (⟨#[]⟩ : ByteArray), .int .i64 0, .bool false, .string (⟨#[]⟩ : ByteArray)]) ?_ 0 _ rfl; (with_reducible repeat (first | refine blk_drewN ?_ _ | refine blk_drew ?_ | refine blk_alloc ?_ _)); exact BK184.out⟩, ⟨by repeat (first | (with_reducible first | exact HB.out | apply below_alloc | apply pw_below_drewN | apply below_drew1 | refine below_set ?_ GE184.out) | exact HB.out)⟩⟩
                      · rw [if_neg c18] at H
                        exact absurd H (by simp)
                    · rw [if_neg c16] at H
                      have c16b0 : decide ((wrap64 (x20_2 + 1)) < (l0.length : Int)) = false := decide_eq_false c16
                      clear c16
                      (first | rw [c16b0] | (simp only [i64_w, i32_w]; rw [c16b0]) | skip)
                      have H' := Aside0.mk H
                      clear H
                      go_wp2
                      repeat (go_quiet (fail); try go_wp2)
                      go_meet
                      case rel => exact ⟨_, (false), (by first | rfl | (simp; done) | (simp [ext_bne_nil, ext_beq_nil]; done) | (simp [*]; done)), H', ⟨by have := HJ2.out; have := HK2.out; first | omega | exact Nat.le_refl _⟩, ⟨by (with_reducible repeat (first | apply Kd.R_alloc | apply Kd.R_drewN | apply Kd.R_drew)); exact Kd.R_mono (Kd.R_far (p := ⟨gb184, 3, none⟩) (Kd.R_far (p := ⟨gb184, 2, none⟩) (Kd.R_far (p := ⟨gb184, 1, none⟩) (Kd.R_far (p := ⟨gb184, 0, none⟩) (Kd.R_mono HO_6.out (fun k_ hk => (⟨hk, hk.2⟩ : _ ∧ k_ ≠ gb184))) (fun _ hk => hk.2) (.string ((rd_T42 l0 x20_2).f0))) (fun _ hk => hk.2) (.int .i64 ((rd_T42 l0 x20_2).f1))) (fun _ hk => hk.2) (.bool ((rd_T42 l0 x20_2).f2))) (fun _ hk => hk.2) (.string ((rd_T42 l0 x20_2).f3))) (fun _ hk => hk.1.2)⟩, ⟨by (with_reducible repeat (first | refine blk_drewN ?_ _ | refine blk_drew ?_ | refine blk_alloc ?_ _)); refine blk_put (cs := #[.string ((rd_T42 l0 x20_2).f0), .int .i64 ((rd_T42 l0 x20_2).f1), .bool ((rd_T42 l0 x20_2).f2), .string (⟨#[]⟩ : ByteArray)]) ?_ 3 _ rfl; (with_reducible repeat (first | refine blk_drewN ?_ _ | refine blk_drew ?_ | refine blk_alloc ?_ _)); refine blk_put (cs := #[.string ((rd_T42 l0 x20_2).f0), .int .i64 ((rd_T42 l0 x20_2).f1), .bool false, .string (⟨#[]⟩ : ByteArray)]) ?_ 2 _ rfl; (with_reducible repeat (first | refine blk_drewN ?_ _ | refine blk_drew ?_ | refine blk_alloc ?_ _)); refine blk_put (cs := #[.string ((rd_T42 l0 x20_2).f0), .int .i64 0, .bool false, .string (⟨#[]⟩ : ByteArray)]) ?_ 1 _ rfl; (with_reducible repeat (first | refine blk_drewN ?_ _ | refine blk_drew ?_ | refine blk_alloc ?_ _)); refine blk_put (cs := #[.string (⟨#[]⟩ : ByteArray), .int .i64 0, .bool false, .string (⟨#[]⟩ : ByteArray)]) ?_ 0 _ rfl; (with_reducible repeat (first | refine blk_drewN ?_ _ | refine blk_drew ?_ | refine blk_alloc ?_ _)); exact BK184.out⟩, ⟨by repeat (first | (with_reducible first | exact HB.out | apply below_alloc | apply pw_below_drewN | apply below_drew1 | refine below_set ?_ GE184.out) | exact HB.out)⟩⟩
                  case rest =>
                    clear HC13
                    try clear c1
                    try clear p1
                    try clear q1
                    try clear hx1
                    try clear p2
                    try clear c5
                    try clear p6
                    try clear c9
                    try clear c10
                    try clear c10b0
                    try clear c11
                    try clear c11b0
                    try clear c12
                    try clear c12b0
                    try clear c16
                    try clear c16b0
                    try clear c17
                    try clear c18
                    try clear c18b0
                    try clear p18
                    try clear q18
                    try clear hx18
                    try clear c19
                    try clear c19b0
                    try clear c19b1
                    try clear hcz15_0
                    try clear hcz15_1
                    try clear hcz15_2
                    try clear hcz15_3
                    try clear hcz20_0
                    try clear hcz20_1
                    try clear hcz20_2
                    try clear hcz20_3
                    try clear hcz21_0
                    try clear hcz21_1
                    try clear hcz21_2
                    try clear hcz21_3
                    try clear hfz15_0
                    try clear hfz15_1
                    try clear hfz15_2
                    try clear hfz15_3
                    try clear hfz20_0
                    try clear hfz20_1
                    try clear hfz20_2
                    try clear hfz20_3
                    try clear hfz21_0
                    try clear hfz21_1
                    try clear hfz21_2
                    try clear hfz21_3
                    try clear hx183_0
                    try clear hx183_1
                    try clear hx183_2
                    try clear hx183_3
                    try clear hx185_0
                    try clear hx185_1
                    try clear hx185_2
                    try clear hx185_3
                    try clear hx186_0
                    try clear hx186_1
                    try clear hx186_2
                    try clear hx186_3
                    try clear p183
                    try clear p185
                    try clear p186
                    try clear p2
                    try clear q183
                    try clear q185
                    try clear q186
                    obtain ⟨kq, x9_12, rfl, HA, HJ12, HO_6, BK184, HB⟩ := hcut
                    cases kq with
                    | zero => exact absurd HA.out (by simp [impl_ThinOut.j2])
                    | succ kj12 =>
                      have H := HA.out
                      clear HA
                      simp only [impl_ThinOut.j2] at H
                      have HC22 := Aside0.mk H
                      clear H
                      go_upto_region 8 with (fail)
                      repeat (go_quiet (fail); go_upto_region 8 with (fail))
                      go_cut [63] (fun v63 wc => ∃ (kq : Nat) (x63_21 : Bool), v63 = .bool x63_21 ∧ Aside0 (impl_ThinOut.j3 kq l0 a1 x6_2 l0 (l0.length : Int) x20_2 x63_21 ((rd_T42 l0 x20_2).f0) ((rd_T42 l0 x20_2).f1) ((rd_T42 l0 x20_2).f2) ((rd_T42 l0 x20_2).f3) = some (r1, r2)) ∧ Aside0 (kq ≤ kj12) ∧ Aside0 (Kd.R k42 42 wc w.heap.size (fun k_ => k_ ≠ gb184) u6 x6_2) ∧ Aside0 (wc.heap[gb184]? = some (.cells #[.string ((rd_T42 l0 x20_2).f0), .int .i64 ((rd_T42 l0 x20_2).f1), .bool ((rd_T42 l0 x20_2).f2), .string ((rd_T42 l0 x20_2).f3)] 42 (0, 0))) ∧ Aside0 (Below w.heap.size w wc))
                      case first =>
                        have H := HC22.out
                        clear HC22
                        by_cases c23 : x9_12 = true
                        · subst c23
                          have H1 : (impl_ThinOut.j3 kj12 l0 a1 x6_2 l0 (l0.length : Int) x20_2 false ((rd_T42 l0 x20_2).f0) ((rd_T42 l0 x20_2).f1) ((rd_T42 l0 x20_2).f2) ((rd_T42 l0 x20_2).f3)) = some (r1, r2) := by rw [if_pos rfl] at H; exact H
                          clear H
                          have H := H1
                          clear H1
                          have H' := Aside0.mk H
                          clear H
                          go_wp2
                          repeat (go_quiet (fail); try go_wp2)
                          go_meet
                          case rel => exact ⟨_, (false), (by first | rfl | (simp; done) | (simp [ext_bne_nil, ext_beq_nil]; done) | (simp [*]; done)), H', ⟨by have := HJ2.out; have := HK2.out; have := HJ12.out; first | omega | exact Nat.le_refl _⟩, ⟨by (with_reducible repeat (first | apply Kd.R_alloc | apply Kd.R_drewN | apply Kd.R_drew)); exact HO_6.out⟩, ⟨by (with_reducible repeat (first | refine blk_drewN ?_ _ | refine blk_drew ?_ | refine blk_alloc ?_ _)); exact BK184.out⟩, ⟨by repeat (first | (with_reducible first | exact HB.out | apply below_alloc | apply pw_below_drewN | apply below_drew1 | refine below_set ?_ GE184.out) | exact HB.out)⟩⟩
                        · replace c23 := Bool.eq_false_iff.mpr c23
                          subst c23
                          have H1 : (if ((rd_T42 l0 x20_2).f2) = true then (impl_ThinOut.j3 kj12 l0 a1 x6_2 l0 (l0.length : Int) x20_2 (!(decide (((rd_T42 l0 x20_2).f1) ≤ a1))) ((rd_T42 l0 x20_2).f0) ((rd_T42 l0 x20_2).f1) ((rd_T42 l0 x20_2).f2) ((rd_T42 l0 x20_2).f3)) else (impl_ThinOut.j3 kj12 l0 a1 x6_2 l0 (l0.length : Int) x20_2 (!false) ((rd_T42 l0 x20_2).f0) ((rd_T42 l0 x20_2).f1) ((rd_T42 l0 x20_2).f2) ((rd_T42 l0 x20_2).f3))) = some (r1, r2) := by rw [if_neg (show ¬ (false = true) by decide)] at H; exact H
                          clear H
                          have H := H1
                          clear H1
                          by_cases c24 : ((rd_T42 l0 x20_2).f2) = true
                          · rw [if_pos c24] at H
                            have c24b0 : ((rd_T42 l0 x20_2).f2) = true := c24
                            clear c24
                            (first | rw [c24b0] | (simp only [i64_w, i32_w]; rw [c24b0]) | skip)
                            have H' := Aside0.mk H
                            clear H
                            have hcz25_0 : wc.cell? ⟨gb184, 0, none⟩ = some (.string ((rd_T42 l0 x20_2).f0)) := (blk_cell BK184.out 0).trans rfl
                            have hcz25_1 : wc.cell? ⟨gb184, 1, none⟩ = some (.int .i64 ((rd_T42 l0 x20_2).f1)) := (blk_cell BK184.out 1).trans rfl
                            have hcz25_2 : wc.cell? ⟨gb184, 2, none⟩ = some (.bool ((rd_T42 l0 x20_2).f2)) := (blk_cell BK184.out 2).trans rfl
                            have hcz25_3 : wc.cell? ⟨gb184, 3, none⟩ = some (.string ((rd_T42 l0 x20_2).f3)) := (blk_cell BK184.out 3).trans rfl
                            have hfz25_0 := blk_frozen BK184.out 0
                            have hfz25_1 := blk_frozen BK184.out 1
                            have hfz25_2 := blk_frozen BK184.out 2
                            have hfz25_3 := blk_frozen BK184.out 3
                            go_wp2
                            repeat (go_quiet (fail); try go_wp2)
                            go_meet
                            case rel => exact ⟨_, (!(decide (((rd_T42 l0 x20_2).f1) ≤ a1))), (by first | rfl | (simp; done) | (simp [ext_bne_nil, ext_beq_nil]; done) | (simp [*]; done)), H', ⟨by have := HJ2.out; have := HK2.out; have := HJ12.out; first | omega | exact Nat.le_refl _⟩, ⟨by (with_reducible repeat (first | apply Kd.R_alloc | apply Kd.R_drewN | apply Kd.R_drew)); exact HO_6.out⟩, ⟨by (with_reducible repeat (first | refine blk_drewN ?_ _ | refine blk_drew ?_ | refine blk_alloc ?_ _)); exact BK184.out⟩, ⟨by repeat (first | (with_reducible first | exact HB.out | apply below_alloc | apply pw_below_drewN | apply below_drew1 | refine below_set ?_ GE184.out) | exact HB.out)⟩⟩
                          · rw [if_neg c24] at H
                            have c24b0 : ((rd_T42 l0 x20_2).f2) = false := by simpa using c24
                            clear c24
                            (first | rw [c24b0] | (simp only [i64_w, i32_w]; rw [c24b0]) | skip)
                            have H' := Aside0.mk H
                            clear H
                            have hcz26_0 : wc.cell? ⟨gb184, 0, none⟩ = some (.string ((rd_T42 l0 x20_2).f0)) := (blk_cell BK184.out 0).trans rfl
                            have hcz26_1 : wc.cell? ⟨gb184, 1, none⟩ = some (.int .i64 ((rd_T42 l0 x20_2).f1)) := (blk_cell BK184.out 1).trans rfl
                            have hcz26_2 : wc.cell? ⟨gb184, 2, none⟩ = some (.bool ((rd_T42 l0 x20_2).f2)) := (blk_cell BK184.out 2).trans rfl
                            have hcz26_3 : wc.cell? ⟨gb184, 3, none⟩ = some (.string ((rd_T42 l0 x20_2).f3)) := (blk_cell BK184.out 3).trans rfl
                            have hfz26_0 := blk_frozen BK184.out 0
                            have hfz26_1 := blk_frozen BK184.out 1
                            have hfz26_2 := blk_frozen BK184.out 2
                            have hfz26_3 := blk_frozen BK184.out 3
                            go_wp2
                            repeat (go_quiet (fail); try go_wp2)
                            go_meet
                            case rel => exact ⟨_, (!false), (by first | rfl | (simp; done) | (simp [ext_bne_nil, ext_beq_nil]; done) | (simp [*]; done)), H', ⟨by have := HJ2.out; have := HK2.out; have := HJ12.out; first | omega | exact Nat.le_refl _⟩, ⟨by (with_reducible repeat (first | apply Kd.R_alloc | apply Kd.R_drewN | apply Kd.R_drew)); exact HO_6.out⟩, ⟨by (with_reducible repeat (first | refine blk_drewN ?_ _ | refine blk_drew ?_ | refine blk_alloc ?_ _)); exact BK184.out⟩, ⟨by repeat (first | (with_reducible first | exact HB.out | apply below_alloc | apply pw_below_drewN | apply below_drew1 | refine below_set ?_ GE184.out) | exact HB.out)⟩⟩
                      case rest =>
                        clear HC22
                        try clear c1
                        try clear p1
                        try clear q1
                        try clear hx1
                        try clear c2
                        try clear p2
                        try clear c5
                        try clear p6
                        try clear c9
                        try clear c10
                        try clear c10b0
                        try clear c11
                        try clear c11b0
                        try clear c12
                        try clear c12b0
                        try clear c16
                        try clear c16b0
                        try clear c17
                        try clear c18
                        try clear c18b0
                        try clear p18
                        try clear q18
                        try clear hx18
                        try clear c19
                        try clear c19b0
                        try clear c19b1
                        try clear c23
                        try clear c24
                        try clear c24b0
                        try clear hcz15_0
                        try clear hcz15_1
                        try clear hcz15_2
                        try clear hcz15_3
                        try clear hcz20_0
                        try clear hcz20_1
                        try clear hcz20_2
                        try clear hcz20_3
                        try clear hcz21_0
                        try clear hcz21_1
                        try clear hcz21_2
                        try clear hcz21_3
                        try clear hcz25_0
                        try clear hcz25_1
                        try clear hcz25_2
                        try clear hcz25_3
                        try clear hcz26_0
                        try clear hcz26_1
                        try clear hcz26_2
                        try clear hcz26_3
                        try clear hfz15_0
                        try clear hfz15_1
                        try clear hfz15_2
                        try clear hfz15_3
                        try clear hfz20_0
                        try clear hfz20_1
                        try clear hfz20_2
                        try clear hfz20_3
                        try clear hfz21_0
                        try clear hfz21_1
                        try clear hfz21_2
                        try clear hfz21_3
                        try clear hfz25_0
                        try clear hfz25_1
                        try clear hfz25_2
                        try clear hfz25_3
                        try clear hfz26_0
                        try clear hfz26_1
                        try clear hfz26_2
                        try clear hfz26_3
                        try clear hx183_0
                        try clear hx183_1
                        try clear hx183_2
                        try clear hx183_3
                        try clear hx185_0
                        try clear hx185_1
                        try clear hx185_2
                        try clear hx185_3
                        try clear hx186_0
                        try clear hx186_1
                        try clear hx186_2
                        try clear hx186_3
                        try clear p1
                        try clear p18
                        try clear p183
                        try clear p185
                        try clear p186
                        try clear p2
                        try clear p6
                        try clear q1
                        try clear q18
                        try clear q183
                        try clear q185
                        try clear q186
                        obtain ⟨kq, x63_21, rfl, HA, HJ21, HO_6, BK184, HB⟩ := hcut
                        cases kq with
                        | zero => exact absurd HA.out (by simp [impl_ThinOut.j3])
                        | succ kj21 =>
                          have H := HA.out
                          clear HA
                          simp only [impl_ThinOut.j3] at H
                          by_cases c27 : x63_21 = true
                          · subst c27
                            have H1 : (if x6_2.length < 2932031007402 then (impl_ThinOut.l0 kj21 l0 a1 (x6_2 ++ [(⟨((rd_T42 l0 x20_2).f0), ((rd_T42 l0 x20_2).f1), ((rd_T42 l0 x20_2).f2), ((rd_T42 l0 x20_2).f3)⟩ : S42)]) l0 (l0.length : Int) (wrap64 (x20_2 + 1))) else (none)) = some (r1, r2) := by rw [if_pos rfl] at H; exact H
                            clear H
                            have H := H1
                            clear H1
                            by_cases c28 : x6_2.length < 2932031007402
                            · rw [if_pos c28] at H
                              have LMc28 := Aside0.mk c28
                              clear c28
                              obtain ⟨y187, hy187⟩ : ∃ y_ : List (S42), y_ = (x6_2 ++ [(⟨((rd_T42 l0 x20_2).f0), ((rd_T42 l0 x20_2).f1), ((rd_T42 l0 x20_2).f2), ((rd_T42 l0 x20_2).f3)⟩ : S42)]) := ⟨_, rfl⟩
                              replace H : (impl_ThinOut.l0 kj21 l0 a1 y187 l0 (l0.length : Int) (wrap64 (x20_2 + 1))) = some (r1, r2) := by first | (rw [hy187]; with_reducible exact H) | (have H2_ := (Option.bind_some _ _).symm.trans H; rw [hy187]; with_reducible exact H2_) | (have H2_ := (Option.bind_some _ _).symm.trans H; with_reducible exact H2_) | with_reducible exact H | (rw [hy187]; exact H) | exact H
                              have Ny187 := Aside0.mk hy187
                              clear hy187
                              have H' := Aside0.mk H
                              clear H
                              have hcz29_0 : wc.cell? ⟨gb184, 0, none⟩ = some (.string ((rd_T42 l0 x20_2).f0)) := (blk_cell BK184.out 0).trans rfl
                              have hcz29_1 : wc.cell? ⟨gb184, 1, none⟩ = some (.int .i64 ((rd_T42 l0 x20_2).f1)) := (blk_cell BK184.out 1).trans rfl
                              have hcz29_2 : wc.cell? ⟨gb184, 2, none⟩ = some (.bool ((rd_T42 l0 x20_2).f2)) := (blk_cell BK184.out 2).trans rfl
                              have hcz29_3 : wc.cell? ⟨gb184, 3, none⟩ = some (.string ((rd_T42 l0 x20_2).f3)) := (blk_cell BK184.out 3).trans rfl
                              have hfz29_0 := blk_frozen BK184.out 0
                              have hfz29_1 := blk_frozen BK184.out 1
                              have hfz29_2 := blk_frozen BK184.out 2
                              have hfz29_3 := blk_frozen BK184.out 3
                              go_wp2_with (first | ((with_reducible refine gate_builtin (b := .append) (xs := #[.tmp 64, .tmp 66]) rfl ?_); at_builtin; refine Kd.R_append k42 (w0 := w) w.heap.size rfl (.tmp 64) (.tmp 66) 24 42 (.agg #[(.string ⟨#[]⟩), (.int .i64 0), (.bool false), (.string ⟨#[]⟩)]) 48 rfl Try.underlying24 info42 rfl (by decide) (by omega) u6 x6_2 (⟨((rd_T42 l0 x20_2).f0), ((rd_T42 l0 x20_2).f1), ((rd_T42 l0 x20_2).f2), ((rd_T42 l0 x20_2).f3)⟩ : S42) [.string ((rd_T42 l0 x20_2).f0), .int .i64 ((rd_T42 l0 x20_2).f1), .bool ((rd_T42 l0 x20_2).f2), .string ((rd_T42 l0 x20_2).f3)] (fun k_ => k_ ≠ gb184) (fun _ => False) rfl rfl ?aP (fun _ hk => hk.elim) ?aF ?aO ?aB ?aS ?aL ?_; (case aP => exact k42_mkM _ _ _ (⟨((rd_T42 l0 x20_2).f0), ((rd_T42 l0 x20_2).f1), ((rd_T42 l0 x20_2).f2), ((rd_T42 l0 x20_2).f3)⟩ : S42)); (case aB => exact (by repeat (first | (with_reducible first | exact HB.out | apply below_alloc | apply pw_below_drewN | apply below_drew1 | refine below_set ?_ GE184.out) | exact HB.out))); (case aF => exact (fun k_ hk => Kd.freshB (g := gb184) (o := .cells #[.string ((rd_T42 l0 x20_2).f0), .int .i64 ((rd_T42 l0 x20_2).f1), .bool ((rd_T42 l0 x20_2).f2), .string ((rd_T42 l0 x20_2).f3)] 42 (0, 0)) (by (with_reducible repeat (first | refine blk_drewN ?_ _ | refine blk_drew ?_ | refine blk_alloc ?_ _)); exact BK184.out) k_ hk)); (case aO => exact (by (with_reducible repeat (first | apply Kd.R_alloc | apply Kd.R_drewN | apply Kd.R_drew)); exact HO_6.out)); (case aS => exact (below_size (by repeat (first | (with_reducible first | exact HB.out | apply below_alloc | apply pw_below_drewN | apply below_drew1 | refine below_set ?_ GE184.out) | exact HB.out)))); (case aL => have := LMc28.out; omega); intro v188 w30 ho hb hg hat; rw [← Ny187.out] at ho; have n0_ := Aside0.mk (blk_grown (g := gb184) (o := .cells #[.string ((rd_T42 l0 x20_2).f0), .int .i64 ((rd_T42 l0 x20_2).f1), .bool ((rd_T42 l0 x20_2).f2), .string ((rd_T42 l0 x20_2).f3)] 42 (0, 0)) (by (with_reducible repeat (first | refine blk_drewN ?_ _ | refine blk_drew ?_ | refine blk_alloc ?_ _)); exact BK184.out) hg (Kd.R_away HO_6.out (fun _ hk => hk))); have n1_ := Aside0.mk (hb); have n2_ := Aside0.mk (ho); clear BK184; clear HB; clear HO_6; have BK184 := n0_; have HB := n1_; have HO189 := n2_; clear n0_ n1_ n2_; clear ho hb hg hat))
                              repeat (go_quiet (first | ((with_reducible refine gate_builtin (b := .append) (xs := #[.tmp 64, .tmp 66]) rfl ?_); at_builtin; refine Kd.R_append k42 (w0 := w) w.heap.size rfl (.tmp 64) (.tmp 66) 24 42 (.agg #[(.string ⟨#[]⟩), (.int .i64 0), (.bool false), (.string ⟨#[]⟩)]) 48 rfl Try.underlying24 info42 rfl (by decide) (by omega) u6 x6_2 (⟨((rd_T42 l0 x20_2).f0), ((rd_T42 l0 x20_2).f1), ((rd_T42 l0 x20_2).f2), ((rd_T42 l0 x20_2).f3)⟩ : S42) [.string ((rd_T42 l0 x20_2).f0), .int .i64 ((rd_T42 l0 x20_2).f1), .bool ((rd_T42 l0 x20_2).f2), .string ((rd_T42 l0 x20_2).f3)] (fun k_ => k_ ≠ gb184) (fun _ => False) rfl rfl ?aP (fun _ hk => hk.elim) ?aF ?aO ?aB ?aS ?aL ?_; (case aP => exact k42_mkM _ _ _ (⟨((rd_T42 l0 x20_2).f0), ((rd_T42 l0 x20_2).f1), ((rd_T42 l0 x20_2).f2), ((rd_T42 l0 x20_2).f3)⟩ : S42)); (case aB => exact (by repeat (first | (with_reducible first | exact HB.out | apply below_alloc | apply pw_below_drewN | apply below_drew1 | refine below_set ?_ GE184.out) | exact HB.out))); (case aF => exact (fun k_ hk => Kd.freshB (g := gb184) (o := .cells #[.string ((rd_T42 l0 x20_2).f0), .int .i64 ((rd_T42 l0 x20_2).f1), .bool ((rd_T42 l0 x20_2).f2), .string ((rd_T42 l0 x20_2).f3)] 42 (0, 0)) (by (with_reducible repeat (first | refine blk_drewN ?_ _ | refine blk_drew ?_ | refine blk_alloc ?_ _)); exact BK184.out) k_ hk)); (case aO => exact (by (with_reducible repeat (first | apply Kd.R_alloc | apply Kd.R_drewN | apply Kd.R_drew)); exact HO_6.out)); (case aS => exact (below_size (by repeat (first | (with_reducible first | exact HB.out | apply below_alloc | apply pw_below_drewN | apply below_drew1 | refine below_set ?_ GE184.out) | exact HB.out)))); (case aL => have := LMc28.out; omega); intro v188 w30 ho hb hg hat; rw [← Ny187.out] at ho; have n0_ := Aside0.mk (blk_grown (g := gb184) (o := .cells #[.string ((rd_T42 l0 x20_2).f0), .int .i64 ((rd_T42 l0 x20_2).f1), .bool ((rd_T42 l0 x20_2).f2), .string ((rd_T42 l0 x20_2).f3)] 42 (0, 0)) (by (with_reducible repeat (first | refine blk_drewN ?_ _ | refine blk_drew ?_ | refine blk_alloc ?_ _)); exact BK184.out) hg (Kd.R_away HO_6.out (fun _ hk => hk))); have n1_ := Aside0.mk (hb); have n2_ := Aside0.mk (ho); clear BK184; clear HB; clear HO_6; have BK184 := n0_; have HB := n1_; have HO189 := n2_; clear n0_ n1_ n2_; clear ho hb hg hat)); try go_wp2_with (first | ((with_reducible refine gate_builtin (b := .append) (xs := #[.tmp 64, .tmp 66]) rfl ?_); at_builtin; refine Kd.R_append k42 (w0 := w) w.heap.size rfl (.tmp 64) (.tmp 66) 24 42 (.agg #[(.string ⟨#[]⟩), (.int .i64 0), (.bool false), (.string ⟨#[]⟩)]) 48 rfl Try.underlying24 info42 rfl (by decide) (by omega) u6 x6_2 (⟨((rd_T42 l0 x20_2).f0), ((rd_T42 l0 x20_2).f1), ((rd_T42 l0 x20_2).f2), ((rd_T42 l0 x20_2).f3)⟩ : S42) [.string ((rd_T42 l0 x20_2).f0), .int .i64 ((rd_T42 l0 x20_2).f1), .bool ((rd_T42 l0 x20_2).f2), .string ((rd_T42 l0 x20_2).f3)] (fun k_ => k_ ≠ gb184) (fun _ => False) rfl rfl ?aP (fun _ hk => hk.elim) ?aF ?aO ?aB ?aS ?aL ?_; (case aP => exact k42_mkM _ _ _ (⟨((rd_T42 l0 x20_2).f0), ((rd_T42 l0 x20_2).f1), ((rd_T42 l0 x20_2).f2), ((rd_T42 l0 x20_2).f3)⟩ : S42)); (case aB => exact (by repeat (first | (with_reducible first | exact HB.out | apply below_alloc | apply pw_below_drewN | apply below_drew1 | refine below_set ?_ GE184.out) | exact HB.out))); (case aF => exact (fun k_ hk => Kd.freshB (g := gb184) (o := .cells #[.string ((rd_T42 l0 x20_2).f0), .int .i64 ((rd_T42 l0 x20_2).f1), .bool ((rd_T42 l0 x20_2).f2), .string ((rd_T42 l0 x20_2).f3)] 42 (0, 0)) (by (with_reducible repeat (first | refine blk_drewN ?_ _ | refine blk_drew ?_ | refine blk_alloc ?_ _)); exact BK184.out) k_ hk)); (case aO => exact (by (with_reducible repeat (first | apply Kd.R_alloc | apply Kd.R_drewN | apply Kd.R_drew)); exact HO_6.out)); (case aS => exact (below_size (by repeat (first | (with_reducible first | exact HB.out | apply below_alloc | apply pw_below_drewN | apply below_drew1 | refine below_set ?_ GE184.out) | exact HB.out)))); (case aL => have := LMc28.out; omega); intro v188 w30 ho hb hg hat; rw [← Ny187.out] at ho; have n0_ := Aside0.mk (blk_grown (g := gb184) (o := .cells #[.string ((rd_T42 l0 x20_2).f0), .int .i64 ((rd_T42 l0 x20_2).f1), .bool ((rd_T42 l0 x20_2).f2), .string ((rd_T42 l0 x20_2).f3)] 42 (0, 0)) (by (with_reducible repeat (first | refine blk_drewN ?_ _ | refine blk_drew ?_ | refine blk_alloc ?_ _)); exact BK184.out) hg (Kd.R_away HO_6.out (fun _ hk => hk))); have n1_ := Aside0.mk (hb); have n2_ := Aside0.mk (ho); clear BK184; clear HB; clear HO_6; have BK184 := n0_; have HB := n1_; have HO189 := n2_; clear n0_ n1_ n2_; clear ho hb hg hat)))
                              go_roundg kj21
                              case measure => have := HJ2.out; have := HK2.out; have := HJ12.out; have := HJ21.out; omega
                              case rel => exact ⟨(y187), (wrap64 (x20_2 + 1)), (by first | rfl | (simp; done) | (simp [ext_bne_nil, ext_beq_nil]; done) | (simp [*]; done)), H', ⟨by have := HJ2.out; have := HK2.out; have := HJ12.out; have := HJ21.out; omega⟩, ⟨by (with_reducible repeat (first | apply Kd.R_alloc | apply Kd.R_drewN | apply Kd.R_drew)); exact Kd.R_mono HO189.out (fun _ hk => trivial)⟩, ⟨by repeat (first | (with_reducible first | exact HB.out | apply below_alloc | apply pw_below_drewN | apply below_drew1 | refine below_set ?_ GE184.out) | exact HB.out)⟩⟩
                            · rw [if_neg c28] at H
                              exact absurd H (by simp)
                          · replace c27 := Bool.eq_false_iff.mpr c27
                            subst c27
                            have H1 : (impl_ThinOut.l0 kj21 l0 a1 x6_2 l0 (l0.length : Int) (wrap64 (x20_2 + 1))) = some (r1, r2) := by rw [if_neg (show ¬ (false = true) by decide)] at H; exact H
                            clear H
                            have H := H1
                            clear H1
                            have H' := Aside0.mk H
                            clear H
                            go_wp2
                            repeat (go_quiet (fail); try go_wp2)
                            go_roundg kj21
                            case measure => have := HJ2.out; have := HK2.out; have := HJ12.out; have := HJ21.out; omega
                            case rel => exact ⟨(x6_2), (wrap64 (x20_2 + 1)), (by first | rfl | (simp; done) | (simp [ext_bne_nil, ext_beq_nil]; done) | (simp [*]; done)), H', ⟨by have := HJ2.out; have := HK2.out; have := HJ12.out; have := HJ21.out; omega⟩, ⟨by (with_reducible repeat (first | apply Kd.R_alloc | apply Kd.R_drewN | apply Kd.R_drew)); exact Kd.R_mono HO_6.out (fun _ hk => trivial)⟩, ⟨by repeat (first | (with_reducible first | exact HB.out | apply below_alloc | apply pw_below_drewN | apply below_drew1 | refine below_set ?_ GE184.out) | exact HB.out)⟩⟩
                · rw [if_neg c12] at H
                  exact absurd H (by simp)
              · rw [if_neg c11] at H
                exact absurd H (by simp)
            · rw [if_neg c10] at H
              have c10b0 : decide (x20_2 < (l0.length : Int)) = false := decide_eq_false c10
              clear c10
              simp only [Option.some.injEq, Prod.mk.injEq] at H
              obtain ⟨rfl, rfl⟩ := H
              go_wp2
              repeat (go_quiet (fail); try go_wp2)
              go_ret2
              exact ⟨_, by first | rfl | (simp [errW_none, errW_some] <;> rfl) | (simp [errW_none, errW_some, ext_bne_nil, ext_beq_nil]; done) | (simp [*, errW_none, errW_some] <;> rfl), by (with_reducible repeat (first | apply Kd.R_alloc | apply Kd.R_drewN | apply Kd.R_drew)); exact HO_6.out, by repeat (first | (with_reducible first | exact HB.out | apply below_alloc | apply pw_below_drewN | apply below_drew1) | exact HB.out)⟩

end Go.Proofs.Ytpfjlnfgekeobaa.QFnExactThinOut
