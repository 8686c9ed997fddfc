-- Written by this session's own program (wip/pp_patch.py, wip/pp.sh) out of the given translation. Not trusted: Lean checks it.
import Derived.Test.YtpfjlnfgekeobaaQFnExactMergeVersionsx0
import Derived.Test.YtpfjlnfgekeobaaQFnExactMergeVersionsx2
import Derived.Test.YtpfjlnfgekeobaaQFnExactMergeVersionsx3
import Derived.Test.YtpfjlnfgekeobaaQFnExactMergeVersionsx4
import Derived.Test.YtpfjlnfgekeobaaQFnExactMergeVersionsx8
import Derived.Test.YtpfjlnfgekeobaaQFnExactMergeVersionsx14
namespace Go.Proofs.Ytpfjlnfgekeobaa.QFnExactMergeVersions
open Go.RowKit Go.Proofs.YtpfjlnfgekeobaaW.PrintWords Go.Proofs.YtpfjlnfgekeobaaW.PrintLast Go.Proofs.YtpfjlnfgekeobaaW.PrintMore
attribute [local go_sem] max2_int min2_int max_two min_two max_three min_three max_four min_four   -- for this text's walks alone
open Go.Proofs.Ytpfjlnfgekeobaa.Ext
attribute [local go_sem high] ext_gtr ext_leq
set_option linter.unusedVariables false
set_option linter.unusedSimpArgs false

/-! ### laws_FnExactMergeVersions: function 8 -/
mutual
def laws_FnExactMergeVersions.j0 : Nat → List (S39) → List (S39) → List (S42) → Bool → List (S42) → List (S42) → List (S42) → Bool → Bool → Option (Bool)
 | 0, _, _, _, _, _, _, _, _, _ => none
 | k + 1, x0, x1, x6, x7, x8, x9, x10, x11, x53 => if x53 = true then (some false) else ((laws_toVersionS.f k x0).bind fun t332 => ((laws_eqVersionS.f k x8 t332).bind fun t335 => (if t335 = true then ((laws_toVersionS.f k x1).bind fun t336 => ((laws_eqVersionS.f k x9 t336).bind fun t339 => (if t339 = true then ((laws_markVersionS.f k x8 1).bind fun bt340 => ((laws_markVersionS.f k x9 bt340.1).bind fun bt342 => (if bt342.1 < 0 then (laws_FnExactMergeVersions.j1 k x0 x1 x6 x7 x10 true) else ((laws_eqVersionS.f k x10 x6).bind fun t344 => (if t344 = true then (laws_FnExactMergeVersions.j1 k x0 x1 x6 x7 x10 (x11 != x7)) else (laws_FnExactMergeVersions.j1 k x0 x1 x6 x7 x10 true)))))) else (some false)))) else (some false))))
def laws_FnExactMergeVersions.j1 : Nat → List (S39) → List (S39) → List (S42) → Bool → List (S42) → Bool → Option (Bool)
 | 0, _, _, _, _, _, _ => none
 | k + 1, x0, x1, x6, x7, x10, x82 => if x82 = true then (some false) else ((laws_markVersionS.f k x10 1).bind fun bt345 => ((laws_heldVersionS.f k bt345.2 1).bind fun t347 => (if t347 < 0 then (some false) else (if t347 = bt345.1 then ((laws_toVersionS.f k x0).bind fun t348 => ((laws_toVersionS.f k x1).bind fun t351 => ((impl_MergeVersions.f k t348 t351).bind fun bt354 => ((laws_eqVersionS.f k bt354.1 x6).bind fun t358 => (if t358 = true then (laws_FnExactMergeVersions.j2 k bt345.2 bt345.1 (bt354.2 != x7)) else (laws_FnExactMergeVersions.j2 k bt345.2 bt345.1 true)))))) else (some false)))))
def laws_FnExactMergeVersions.j2 : Nat → List (S42) → Int → Bool → Option (Bool)
 | 0, _, _, _ => none
 | k + 1, x10, x13, x110 => if x110 = true then (some false) else ((laws_heldVersionS.f k x10 1).bind fun t359 => (if t359 < 0 then (some false) else (if t359 = x13 then (some true) else (some false))))
end
def laws_FnExactMergeVersions.f (k : Nat) (l0 : List (S39)) (l1 : List (S39)) : Option (Bool) := (laws_szVersionS.f k l0 1048576).bind fun t309 => (if t309 < 0 then (some true) else ((laws_szVersionS.f k l1 t309).bind fun t310 => (if t310 < 0 then (some true) else ((laws_toVersionS.f k l0).bind fun t311 => ((laws_toVersionS.f k l1).bind fun t314 => ((spec_MergeVersions.f k t311 t314).bind fun bt317 => ((laws_toVersionS.f k l0).bind fun t321 => ((laws_toVersionS.f k l1).bind fun t324 => ((impl_MergeVersions.f k t321 t324).bind fun bt327 => ((laws_eqVersionS.f k bt327.1 bt317.1).bind fun t331 => (if t331 = true then (laws_FnExactMergeVersions.j0 k l0 l1 bt317.1 bt317.2 t321 t324 bt327.1 bt327.2 (bt327.2 != bt317.2)) else (laws_FnExactMergeVersions.j0 k l0 l1 bt317.1 bt317.2 t321 t324 bt327.1 bt327.2 true))))))))))))
theorem laws_FnExactMergeVersions.mono_l : ∀ k, (∀ y0 y1 y2 y3 y4 y5 y6 y7 y8, LeO (laws_FnExactMergeVersions.j0 k y0 y1 y2 y3 y4 y5 y6 y7 y8) (laws_FnExactMergeVersions.j0 (k + 1) y0 y1 y2 y3 y4 y5 y6 y7 y8)) ∧ (∀ y0 y1 y2 y3 y4 y5, LeO (laws_FnExactMergeVersions.j1 k y0 y1 y2 y3 y4 y5) (laws_FnExactMergeVersions.j1 (k + 1) y0 y1 y2 y3 y4 y5)) ∧ (∀ y0 y1 y2, LeO (laws_FnExactMergeVersions.j2 k y0 y1 y2) (laws_FnExactMergeVersions.j2 (k + 1) y0 y1 y2))
 | 0 => ⟨fun _ _ _ _ _ _ _ _ _ r h => by simp [laws_FnExactMergeVersions.j0] at h, fun _ _ _ _ _ _ r h => by simp [laws_FnExactMergeVersions.j1] at h, fun _ _ _ r h => by simp [laws_FnExactMergeVersions.j2] at h⟩
 | k + 1 => by
  obtain ⟨ih0, ih1, ih2⟩ := laws_FnExactMergeVersions.mono_l k
  refine ⟨?_, ?_, ?_⟩
  ·intro y0 y1 y2 y3 y4 y5 y6 y7 y8
   unfold laws_FnExactMergeVersions.j0
   repeat' first
   | (with_reducible exact ih0 _ _ _ _ _ _ _ _ _)
   | (with_reducible exact ih1 _ _ _ _ _ _)
   | (with_reducible exact ih2 _ _ _)
   | (with_reducible exact impl_MergeVersions.mono _ _ _)
   | (with_reducible exact laws_eqVersionS.mono _ _ _)
   | (with_reducible exact laws_heldVersionS.mono _ _ _)
   | (with_reducible exact laws_markVersionS.mono _ _ _)
   | (with_reducible exact laws_szVersionS.mono _ _ _)
   | (with_reducible exact laws_toVersionS.mono _ _)
   | (with_reducible exact spec_MergeVersions.mono _ _ _)
   | (with_reducible exact LeO.refl _)
   | (with_reducible exact LeO.none _)
   | (with_reducible refine LeO.ite ?_ ?_)
   | (with_reducible refine LeO.bind ?_ (fun _ => ?_))
   | exact ih0 _ _ _ _ _ _ _ _ _
   | exact ih1 _ _ _ _ _ _
   | exact ih2 _ _ _
   | exact impl_MergeVersions.mono _ _ _
   | exact laws_eqVersionS.mono _ _ _
   | exact laws_heldVersionS.mono _ _ _
   | exact laws_markVersionS.mono _ _ _
   | exact laws_szVersionS.mono _ _ _
   | exact laws_toVersionS.mono _ _
   | exact spec_MergeVersions.mono _ _ _
   | exact LeO.none _
   | refine LeO.ite ?_ ?_
   | refine LeO.bind ?_ (fun _ => ?_)
  ·intro y0 y1 y2 y3 y4 y5
   unfold laws_FnExactMergeVersions.j1
   repeat' first
   | (with_reducible exact ih0 _ _ _ _ _ _ _ _ _)
   | (with_reducible exact ih1 _ _ _ _ _ _)
   | (with_reducible exact ih2 _ _ _)
   | (with_reducible exact impl_MergeVersions.mono _ _ _)
   | (with_reducible exact laws_eqVersionS.mono _ _ _)
   | (with_reducible exact laws_heldVersionS.mono _ _ _)
   | (with_reducible exact laws_markVersionS.mono _ _ _)
   | (with_reducible exact laws_szVersionS.mono _ _ _)
   | (with_reducible exact laws_toVersionS.mono _ _)
   | (with_reducible exact spec_MergeVersions.mono _ _ _)
   | (with_reducible exact LeO.refl _)
   | (with_reducible exact LeO.none _)
   | (with_reducible refine LeO.ite ?_ ?_)
   | (with_reducible refine LeO.bind ?_ (fun _ => ?_))
   | exact ih0 _ _ _ _ _ _ _ _ _
   | exact ih1 _ _ _ _ _ _
   | exact ih2 _ _ _
   | exact impl_MergeVersions.mono _ _ _
   | exact laws_eqVersionS.mono _ _ _
   | exact laws_heldVersionS.mono _ _ _
   | exact laws_markVersionS.mono _ _ _
   | exact laws_szVersionS.mono _ _ _
   | exact laws_toVersionS.mono _ _
   | exact spec_MergeVersions.mono _ _ _
   | exact LeO.none _
   | refine LeO.ite ?_ ?_
   | refine LeO.bind ?_ (fun _ => ?_)
  ·intro y0 y1 y2
   unfold laws_FnExactMergeVersions.j2
   repeat' first
   | (with_reducible exact ih0 _ _ _ _ _ _ _ _ _)
   | (with_reducible exact ih1 _ _ _ _ _ _)
   | (with_reducible exact ih2 _ _ _)
   | (with_reducible exact impl_MergeVersions.mono _ _ _)
   | (with_reducible exact laws_eqVersionS.mono _ _ _)
   | (with_reducible exact laws_heldVersionS.mono _ _ _)
   | (with_reducible exact laws_markVersionS.mono _ _ _)
   | (with_reducible exact laws_szVersionS.mono _ _ _)
   | (with_reducible exact laws_toVersionS.mono _ _)
   | (with_reducible exact spec_MergeVersions.mono _ _ _)
   | (with_reducible exact LeO.refl _)
   | (with_reducible exact LeO.none _)
   | (with_reducible refine LeO.ite ?_ ?_)
   | (with_reducible refine LeO.bind ?_ (fun _ => ?_))
   | exact ih0 _ _ _ _ _ _ _ _ _
   | exact ih1 _ _ _ _ _ _
   | exact ih2 _ _ _
   | exact impl_MergeVersions.mono _ _ _
   | exact laws_eqVersionS.mono _ _ _
   | exact laws_heldVersionS.mono _ _ _
   | exact laws_markVersionS.mono _ _ _
   | exact laws_szVersionS.mono _ _ _
   | exact laws_toVersionS.mono _ _
   | exact spec_MergeVersions.mono _ _ _
   | exact LeO.none _
   | refine LeO.ite ?_ ?_
   | refine LeO.bind ?_ (fun _ => ?_)
theorem laws_FnExactMergeVersions.mono : ∀ a0 a1 k, LeO (laws_FnExactMergeVersions.f k a0 a1) (laws_FnExactMergeVersions.f (k + 1) a0 a1) := by
 intro a0 a1 k
 obtain ⟨ih0, ih1, ih2⟩ := laws_FnExactMergeVersions.mono_l k
 unfold laws_FnExactMergeVersions.f
 repeat' first
   | (with_reducible exact ih0 _ _ _ _ _ _ _ _ _)
   | (with_reducible exact ih1 _ _ _ _ _ _)
   | (with_reducible exact ih2 _ _ _)
   | (with_reducible exact impl_MergeVersions.mono _ _ _)
   | (with_reducible exact laws_eqVersionS.mono _ _ _)
   | (with_reducible exact laws_heldVersionS.mono _ _ _)
   | (with_reducible exact laws_markVersionS.mono _ _ _)
   | (with_reducible exact laws_szVersionS.mono _ _ _)
   | (with_reducible exact laws_toVersionS.mono _ _)
   | (with_reducible exact spec_MergeVersions.mono _ _ _)
   | (with_reducible exact LeO.refl _)
   | (with_reducible exact LeO.none _)
   | (with_reducible refine LeO.ite ?_ ?_)
   | (with_reducible refine LeO.bind ?_ (fun _ => ?_))
   | exact ih0 _ _ _ _ _ _ _ _ _
   | exact ih1 _ _ _ _ _ _
   | exact ih2 _ _ _
   | exact impl_MergeVersions.mono _ _ _
   | exact laws_eqVersionS.mono _ _ _
   | exact laws_heldVersionS.mono _ _ _
   | exact laws_markVersionS.mono _ _ _
   | exact laws_szVersionS.mono _ _ _
   | exact laws_toVersionS.mono _ _
   | exact spec_MergeVersions.mono _ _ _
   | exact LeO.none _
   | refine LeO.ite ?_ ?_
   | refine LeO.bind ?_ (fun _ => ?_)
set_option maxHeartbeats 8000000 in
set_option maxRecDepth 100000 in
theorem laws_FnExactMergeVersions.calls (k : Nat) (A0 : Option Addr) (c0 : Nat) (l0 : List (S39)) (A1 : Option Addr) (c1 : Nat) (l1 : List (S39)) (r : Bool) (w : World) (hr0 : Kd.C k39 w A0 l0.length l0) (hc0 : l0.length ≤ c0) (hr1 : Kd.C k39 w A1 l1.length l1) (hc1 : l1.length ≤ c1) (h : laws_FnExactMergeVersions.f k l0 l1 = some r) :
  Calls Try.prog 8 #[.slice A0 l0.length c0, .slice A1 l1.length c1] w fun e w' => e = .returned (.bool r) ∧ Below w.heap.size w w' := by
 have HR0 := Aside0.mk hr0
 have HC0 := Aside0.mk hc0
 clear hr0 hc0
 have HR1 := Aside0.mk hr1
 have HC1 := Aside0.mk hc1
 clear hr1 hc1
 have HB := Aside0.mk (Below.refl w.heap.size w)
 have H : ((laws_szVersionS.f k l0 1048576).bind fun t309 => (if t309 < 0 then (some true) else ((laws_szVersionS.f k l1 t309).bind fun t310 => (if t310 < 0 then (some true) else ((laws_toVersionS.f k l0).bind fun t311 => ((laws_toVersionS.f k l1).bind fun t314 => ((spec_MergeVersions.f k t311 t314).bind fun bt317 => ((laws_toVersionS.f k l0).bind fun t321 => ((laws_toVersionS.f k l1).bind fun t324 => ((impl_MergeVersions.f k t321 t324).bind fun bt327 => ((laws_eqVersionS.f k bt327.1 bt317.1).bind fun t331 => (if t331 = true then (laws_FnExactMergeVersions.j0 k l0 l1 bt317.1 bt317.2 t321 t324 bt327.1 bt327.2 (bt327.2 != bt317.2)) else (laws_FnExactMergeVersions.j0 k l0 l1 bt317.1 bt317.2 t321 t324 bt327.1 bt327.2 true))))))))))))) = some r := h
 clear h
 replace H := Option.bind_eq_some_iff.mp H
 obtain ⟨t309, A30, H⟩ := H
 replace H : (if t309 < 0 then (some true) else ((laws_szVersionS.f k l1 t309).bind fun t310 => (if t310 < 0 then (some true) else ((laws_toVersionS.f k l0).bind fun t311 => ((laws_toVersionS.f k l1).bind fun t314 => ((spec_MergeVersions.f k t311 t314).bind fun bt317 => ((laws_toVersionS.f k l0).bind fun t321 => ((laws_toVersionS.f k l1).bind fun t324 => ((impl_MergeVersions.f k t321 t324).bind fun bt327 => ((laws_eqVersionS.f k bt327.1 bt317.1).bind fun t331 => (if t331 = true then (laws_FnExactMergeVersions.j0 k l0 l1 bt317.1 bt317.2 t321 t324 bt327.1 bt327.2 (bt327.2 != bt317.2)) else (laws_FnExactMergeVersions.j0 k l0 l1 bt317.1 bt317.2 t321 t324 bt327.1 bt327.2 true)))))))))))) = some r := H
 have A3 := Aside0.mk A30
 clear A30
 by_cases c4 : t309 < 0
 ·rw [if_pos c4] at H
  have c4b0 : decide (t309 < 0) = true := decide_eq_true c4
  clear c4
  obtain rfl := Option.some.inj H
  go_enter Try.func8, Try.ntmps8
  go_wp2_with (first | ((with_reducible refine gate_callee (f := 9) rfl ?_); refine goesL_ (some 19) rfl rfl Try.func9 (by kernel_rfl) rfl #[.slice A0 l0.length c0, .int .i64 1048576] rfl (by (try simp only [List.map_toArray, List.map_cons, List.map_nil]); first | done | rfl | (simp only [List.length_drop, List.length_take]; rfl)) ?_; (with_reducible refine (laws_szVersionS.calls k _ _ l0 1048576 t309 _ ?side1 ?side2 A3.out).mono ?_); (case side1 => repeat (first | exact HR0.out | (with_reducible refine Kd.C_alloc ?_ _) | (with_reducible refine Kd.C_drewN ?_ _) | (with_reducible refine Kd.C_drew ?_))); (case side2 => exact HC0.out); rintro e w5 ⟨rfl, hb⟩; refine ⟨_, rfl, ?_⟩; have n0_ := Aside0.mk (below_step sq_b hb); clear HB; have HB := n0_; clear n0_; (try clear hb); (try clear hb2); (try clear hk); (try clear hi)))
  go_ret
  exact ⟨sq_w, sq_b⟩
 ·rw [if_neg c4] at H
  have c4b0 : decide (t309 < 0) = false := decide_eq_false c4
  clear c4
  replace H := Option.bind_eq_some_iff.mp H
  obtain ⟨t310, A60, H⟩ := H
  replace H : (if t310 < 0 then (some true) else ((laws_toVersionS.f k l0).bind fun t311 => ((laws_toVersionS.f k l1).bind fun t314 => ((spec_MergeVersions.f k t311 t314).bind fun bt317 => ((laws_toVersionS.f k l0).bind fun t321 => ((laws_toVersionS.f k l1).bind fun t324 => ((impl_MergeVersions.f k t321 t324).bind fun bt327 => ((laws_eqVersionS.f k bt327.1 bt317.1).bind fun t331 => (if t331 = true then (laws_FnExactMergeVersions.j0 k l0 l1 bt317.1 bt317.2 t321 t324 bt327.1 bt327.2 (bt327.2 != bt317.2)) else (laws_FnExactMergeVersions.j0 k l0 l1 bt317.1 bt317.2 t321 t324 bt327.1 bt327.2 true)))))))))) = some r := H
  have A6 := Aside0.mk A60
  clear A60
  by_cases c7 : t310 < 0
  ·rw [if_pos c7] at H
   have c7b0 : decide (t310 < 0) = true := decide_eq_true c7
   clear c7
   obtain rfl := Option.some.inj H
   go_enter Try.func8, Try.ntmps8
   go_wp2_with (first | ((with_reducible refine gate_callee (f := 9) rfl ?_); refine goesL_ (some 19) rfl rfl Try.func9 (by kernel_rfl) rfl #[.slice A0 l0.length c0, .int .i64 1048576] rfl (by (try simp only [List.map_toArray, List.map_cons, List.map_nil]); first | done | rfl | (simp only [List.length_drop, List.length_take]; rfl)) ?_; (with_reducible refine (laws_szVersionS.calls k _ _ l0 1048576 t309 _ ?side1 ?side2 A3.out).mono ?_); (case side1 => repeat (first | exact HR0.out | (with_reducible refine Kd.C_alloc ?_ _) | (with_reducible refine Kd.C_drewN ?_ _) | (with_reducible refine Kd.C_drew ?_))); (case side2 => exact HC0.out); rintro e w8 ⟨rfl, hb⟩; refine ⟨_, rfl, ?_⟩; have n0_ := Aside0.mk (below_step sq_b hb); clear HB; have HB := n0_; clear n0_; (try clear hb); (try clear hb2); (try clear hk); (try clear hi)) | ((with_reducible refine gate_callee (f := 9) rfl ?_); refine goesL_ (some 24) rfl rfl Try.func9 (by kernel_rfl) rfl #[.slice A1 l1.length c1, .int .i64 t309] rfl (by (try simp only [List.map_toArray, List.map_cons, List.map_nil]); first | done | rfl | (simp only [List.length_drop, List.length_take]; rfl)) ?_; (with_reducible refine (laws_szVersionS.calls k _ _ l1 t309 t310 _ ?side1 ?side2 A6.out).mono ?_); (case side1 => repeat (first | exact (Kd.C_below HR1.out HB.out) | (with_reducible refine Kd.C_alloc ?_ _) | (with_reducible refine Kd.C_drewN ?_ _) | (with_reducible refine Kd.C_drew ?_))); (case side2 => exact HC1.out); rintro e w9 ⟨rfl, hb⟩; refine ⟨_, rfl, ?_⟩; have n0_ := Aside0.mk (below_step sq_b hb); clear HB; have HB := n0_; clear n0_; (try clear hb); (try clear hb2); (try clear hk); (try clear hi)))
   go_ret
   exact ⟨sq_w, sq_b⟩
  ·rw [if_neg c7] at H
   have c7b0 : decide (t310 < 0) = false := decide_eq_false c7
   clear c7
   replace H := Option.bind_eq_some_iff.mp H
   obtain ⟨t311, A100, H⟩ := H
   replace H : ((laws_toVersionS.f k l1).bind fun t314 => ((spec_MergeVersions.f k t311 t314).bind fun bt317 => ((laws_toVersionS.f k l0).bind fun t321 => ((laws_toVersionS.f k l1).bind fun t324 => ((impl_MergeVersions.f k t321 t324).bind fun bt327 => ((laws_eqVersionS.f k bt327.1 bt317.1).bind fun t331 => (if t331 = true then (laws_FnExactMergeVersions.j0 k l0 l1 bt317.1 bt317.2 t321 t324 bt327.1 bt327.2 (bt327.2 != bt317.2)) else (laws_FnExactMergeVersions.j0 k l0 l1 bt317.1 bt317.2 t321 t324 bt327.1 bt327.2 true)))))))) = some r := H
   have A10 := Aside0.mk A100
   clear A100
   replace H := Option.bind_eq_some_iff.mp H
   obtain ⟨t314, A110, H⟩ := H
   replace H : ((spec_MergeVersions.f k t311 t314).bind fun bt317 => ((laws_toVersionS.f k l0).bind fun t321 => ((laws_toVersionS.f k l1).bind fun t324 => ((impl_MergeVersions.f k t321 t324).bind fun bt327 => ((laws_eqVersionS.f k bt327.1 bt317.1).bind fun t331 => (if t331 = true then (laws_FnExactMergeVersions.j0 k l0 l1 bt317.1 bt317.2 t321 t324 bt327.1 bt327.2 (bt327.2 != bt317.2)) else (laws_FnExactMergeVersions.j0 k l0 l1 bt317.1 bt317.2 t321 t324 bt327.1 bt327.2 true))))))) = some r := H
   have A11 := Aside0.mk A110
   clear A110
   replace H := Option.bind_eq_some_iff.mp H
   obtain ⟨⟨t317, t318⟩, A120, H⟩ := H
   replace H : ((laws_toVersionS.f k l0).bind fun t321 => ((laws_toVersionS.f k l1).bind fun t324 => ((impl_MergeVersions.f k t321 t324).bind fun bt327 => ((laws_eqVersionS.f k bt327.1 t317).bind fun t331 => (if t331 = true then (laws_FnExactMergeVersions.j0 k l0 l1 t317 t318 t321 t324 bt327.1 bt327.2 (bt327.2 != t318)) else (laws_FnExactMergeVersions.j0 k l0 l1 t317 t318 t321 t324 bt327.1 bt327.2 true)))))) = some r := H
   have A12 := Aside0.mk A120
   clear A120
   replace H := Option.bind_eq_some_iff.mp H
   obtain ⟨t321, A130, H⟩ := H
   replace H : ((laws_toVersionS.f k l1).bind fun t324 => ((impl_MergeVersions.f k t321 t324).bind fun bt327 => ((laws_eqVersionS.f k bt327.1 t317).bind fun t331 => (if t331 = true then (laws_FnExactMergeVersions.j0 k l0 l1 t317 t318 t321 t324 bt327.1 bt327.2 (bt327.2 != t318)) else (laws_FnExactMergeVersions.j0 k l0 l1 t317 t318 t321 t324 bt327.1 bt327.2 true))))) = some r := H
   have A13 := Aside0.mk A130
   clear A130
   replace H := Option.bind_eq_some_iff.mp H
   obtain ⟨t324, A140, H⟩ := H
   replace H : ((impl_MergeVersions.f k t321 t324).bind fun bt327 => ((laws_eqVersionS.f k bt327.1 t317).bind fun t331 => (if t331 = true then (laws_FnExactMergeVersions.j0 k l0 l1 t317 t318 t321 t324 bt327.1 bt327.2 (bt327.2 != t318)) else (laws_FnExactMergeVersions.j0 k l0 l1 t317 t318 t321 t324 bt327.1 bt327.2 true)))) = some r := H
   have A14 := Aside0.mk A140
   clear A140
   replace H := Option.bind_eq_some_iff.mp H
   obtain ⟨⟨t327, t330⟩, A150, H⟩ := H
   replace H : ((laws_eqVersionS.f k t327 t317).bind fun t331 => (if t331 = true then (laws_FnExactMergeVersions.j0 k l0 l1 t317 t318 t321 t324 t327 t330 (t330 != t318)) else (laws_FnExactMergeVersions.j0 k l0 l1 t317 t318 t321 t324 t327 t330 true))) = some r := H
   have A15 := Aside0.mk A150
   clear A150
   have HC16 := Aside0.mk H
   clear H
   go_enter Try.func8, Try.ntmps8
   go_upto_region 12 with (first | ((with_reducible refine gate_callee (f := 9) rfl ?_); refine goesL_ (some 19) rfl rfl Try.func9 (by kernel_rfl) rfl #[.slice A0 l0.length c0, .int .i64 1048576] rfl (by (try simp only [List.map_toArray, List.map_cons, List.map_nil]); first | done | rfl | (simp only [List.length_drop, List.length_take]; rfl)) ?_; (with_reducible refine (laws_szVersionS.calls k _ _ l0 1048576 t309 _ ?side1 ?side2 A3.out).mono ?_); (case side1 => repeat (first | exact HR0.out | (with_reducible refine Kd.C_alloc ?_ _) | (with_reducible refine Kd.C_drewN ?_ _) | (with_reducible refine Kd.C_drew ?_))); (case side2 => exact HC0.out); rintro e w17 ⟨rfl, hb⟩; refine ⟨_, rfl, ?_⟩; have n0_ := Aside0.mk (below_step sq_b hb); clear HB; have HB := n0_; clear n0_; (try clear hb); (try clear hb2); (try clear hk); (try clear hi)) | ((with_reducible refine gate_callee (f := 9) rfl ?_); refine goesL_ (some 24) rfl rfl Try.func9 (by kernel_rfl) rfl #[.slice A1 l1.length c1, .int .i64 t309] rfl (by (try simp only [List.map_toArray, List.map_cons, List.map_nil]); first | done | rfl | (simp only [List.length_drop, List.length_take]; rfl)) ?_; (with_reducible refine (laws_szVersionS.calls k _ _ l1 t309 t310 _ ?side1 ?side2 A6.out).mono ?_); (case side1 => repeat (first | exact (Kd.C_below HR1.out HB.out) | (with_reducible refine Kd.C_alloc ?_ _) | (with_reducible refine Kd.C_drewN ?_ _) | (with_reducible refine Kd.C_drew ?_))); (case side2 => exact HC1.out); rintro e w18 ⟨rfl, hb⟩; refine ⟨_, rfl, ?_⟩; have n0_ := Aside0.mk (below_step sq_b hb); clear HB; have HB := n0_; clear n0_; (try clear hb); (try clear hb2); (try clear hk); (try clear hi)) | ((with_reducible refine gate_callee (f := 11) rfl ?_); refine goesL_ (some 29) rfl rfl Try.func11 (by kernel_rfl) rfl #[.slice A0 l0.length c0] rfl (by (try simp only [List.map_toArray, List.map_cons, List.map_nil]); first | done | rfl | (simp only [List.length_drop, List.length_take]; rfl)) ?_; (with_reducible refine (laws_toVersionS.calls k _ _ l0 t311 _ ?side1 ?side2 A10.out).mono ?_); (case side1 => repeat (first | exact (Kd.C_below HR0.out HB.out) | (with_reducible refine Kd.C_alloc ?_ _) | (with_reducible refine Kd.C_drewN ?_ _) | (with_reducible refine Kd.C_drew ?_))); (case side2 => exact HC0.out); rintro e w19 ⟨v312, rfl, ho0, hb⟩; refine ⟨_, rfl, ?_⟩; have n0_ := Aside0.mk (Kd.R_lower ho0 (below_size sq_b)); have n1_ := Aside0.mk (below_step sq_b hb); clear HB; have HO313 := n0_; have HB := n1_; clear n0_ n1_; (try clear hb); (try clear hb2); (try clear hk); (try clear hi); (try clear ho0)) | ((with_reducible refine gate_callee (f := 11) rfl ?_); refine goesL_ (some 31) rfl rfl Try.func11 (by kernel_rfl) rfl #[.slice A1 l1.length c1] rfl (by (try simp only [List.map_toArray, List.map_cons, List.map_nil]); first | done | rfl | (simp only [List.length_drop, List.length_take]; rfl)) ?_; (with_reducible refine (laws_toVersionS.calls k _ _ l1 t314 _ ?side1 ?side2 A11.out).mono ?_); (case side1 => repeat (first | exact (Kd.C_below HR1.out HB.out) | (with_reducible refine Kd.C_alloc ?_ _) | (with_reducible refine Kd.C_drewN ?_ _) | (with_reducible refine Kd.C_drew ?_))); (case side2 => exact HC1.out); rintro e w20 ⟨v315, rfl, ho0, hb⟩; refine ⟨_, rfl, ?_⟩; have n0_ := Aside0.mk (Kd.R_elder' (sq_r HO313) (Kd.R_base ho0) hb); have n1_ := Aside0.mk (Kd.R_lower (Kd.R_new' ho0 (Kd.R_lt (sq_r HO313))) (below_size sq_b)); have n2_ := Aside0.mk (below_step sq_b hb); clear HO313; clear HB; have HO313 := n0_; have HO316 := n1_; have HB := n2_; clear n0_ n1_ n2_; (try clear hb); (try clear hb2); (try clear hk); (try clear hi); (try clear ho0); obtain ⟨Ao21, co21, eo21⟩ := Kd.R_slice HO313.out; subst eo21; obtain ⟨Ao22, co22, eo22⟩ := Kd.R_slice HO316.out; subst eo22) | ((with_reducible refine gate_callee (f := 29) rfl ?_); refine goesL_ (some 32) rfl rfl Try.func29 (by kernel_rfl) rfl #[.slice Ao21 t311.length co21, .slice Ao22 t314.length co22] rfl (by (try simp only [List.map_toArray, List.map_cons, List.map_nil]); first | done | rfl | (simp only [List.length_drop, List.length_take]; rfl)) ?_; (with_reducible refine (spec_MergeVersions.calls k _ _ t311 _ _ t314 t317 t318 _ ?side1 ?side2 ?side3 ?side4 A12.out).mono ?_); (case side1 => repeat (first | exact (Kd.R_reads' HO313.out).2.2 | (with_reducible refine Kd.C_alloc ?_ _) | (with_reducible refine Kd.C_drewN ?_ _) | (with_reducible refine Kd.C_drew ?_))); (case side2 => exact (Kd.R_reads' HO313.out).2.1); (case side3 => repeat (first | exact (Kd.R_reads' HO316.out).2.2 | (with_reducible refine Kd.C_alloc ?_ _) | (with_reducible refine Kd.C_drewN ?_ _) | (with_reducible refine Kd.C_drew ?_))); (case side4 => exact (Kd.R_reads' HO316.out).2.1); rintro e w23 ⟨v319, rfl, ho0, hb⟩; refine ⟨_, rfl, ?_⟩; have n0_ := Aside0.mk (Kd.R_elder' (sq_r HO313) (Kd.R_base ho0) hb); have n1_ := Aside0.mk (Kd.R_elder' (sq_r HO316) (Kd.R_base ho0) hb); have n2_ := Aside0.mk (Kd.R_lower (Kd.R_new' (Kd.R_new' ho0 (Kd.R_lt (sq_r HO313))) (Kd.R_lt (sq_r HO316))) (below_size sq_b)); have n3_ := Aside0.mk (below_step sq_b hb); clear HO313; clear HO316; clear HB; have HO313 := n0_; have HO316 := n1_; have HO320 := n2_; have HB := n3_; clear n0_ n1_ n2_ n3_; (try clear hb); (try clear hb2); (try clear hk); (try clear hi); (try clear ho0)) | ((with_reducible refine gate_callee (f := 11) rfl ?_); refine goesL_ (some 36) rfl rfl Try.func11 (by kernel_rfl) rfl #[.slice A0 l0.length c0] rfl (by (try simp only [List.map_toArray, List.map_cons, List.map_nil]); first | done | rfl | (simp only [List.length_drop, List.length_take]; rfl)) ?_; (with_reducible refine (laws_toVersionS.calls k _ _ l0 t321 _ ?side1 ?side2 A13.out).mono ?_); (case side1 => repeat (first | exact (Kd.C_below HR0.out HB.out) | (with_reducible refine Kd.C_alloc ?_ _) | (with_reducible refine Kd.C_drewN ?_ _) | (with_reducible refine Kd.C_drew ?_))); (case side2 => exact HC0.out); rintro e w24 ⟨v322, rfl, ho0, hb⟩; refine ⟨_, rfl, ?_⟩; have n0_ := Aside0.mk (Kd.R_elder' (sq_r HO313) (Kd.R_base ho0) hb); have n1_ := Aside0.mk (Kd.R_elder' (sq_r HO316) (Kd.R_base ho0) hb); have n2_ := Aside0.mk (Kd.R_elder' (sq_r HO320) (Kd.R_base ho0) hb); have n3_ := Aside0.mk (Kd.R_lower (Kd.R_new' (Kd.R_new' (Kd.R_new' ho0 (Kd.R_lt (sq_r HO313))) (Kd.R_lt (sq_r HO316))) (Kd.R_lt (sq_r HO320))) (below_size sq_b)); have n4_ := Aside0.mk (below_step sq_b hb); clear HO313; clear HO316; clear HO320; clear HB; have HO313 := n0_; have HO316 := n1_; have HO320 := n2_; have HO323 := n3_; have HB := n4_; clear n0_ n1_ n2_ n3_ n4_; (try clear hb); (try clear hb2); (try clear hk); (try clear hi); (try clear ho0)) | ((with_reducible refine gate_callee (f := 11) rfl ?_); refine goesL_ (some 38) rfl rfl Try.func11 (by kernel_rfl) rfl #[.slice A1 l1.length c1] rfl (by (try simp only [List.map_toArray, List.map_cons, List.map_nil]); first | done | rfl | (simp only [List.length_drop, List.length_take]; rfl)) ?_; (with_reducible refine (laws_toVersionS.calls k _ _ l1 t324 _ ?side1 ?side2 A14.out).mono ?_); (case side1 => repeat (first | exact (Kd.C_below HR1.out HB.out) | (with_reducible refine Kd.C_alloc ?_ _) | (with_reducible refine Kd.C_drewN ?_ _) | (with_reducible refine Kd.C_drew ?_))); (case side2 => exact HC1.out); rintro e w25 ⟨v325, rfl, ho0, hb⟩; refine ⟨_, rfl, ?_⟩; have n0_ := Aside0.mk (Kd.R_elder' (sq_r HO313) (Kd.R_base ho0) hb); have n1_ := Aside0.mk (Kd.R_elder' (sq_r HO316) (Kd.R_base ho0) hb); have n2_ := Aside0.mk (Kd.R_elder' (sq_r HO320) (Kd.R_base ho0) hb); have n3_ := Aside0.mk (Kd.R_elder' (sq_r HO323) (Kd.R_base ho0) hb); have n4_ := Aside0.mk (Kd.R_lower (Kd.R_new' (Kd.R_new' (Kd.R_new' (Kd.R_new' ho0 (Kd.R_lt (sq_r HO313))) (Kd.R_lt (sq_r HO316))) (Kd.R_lt (sq_r HO320))) (Kd.R_lt (sq_r HO323))) (below_size sq_b)); have n5_ := Aside0.mk (below_step sq_b hb); clear HO313; clear HO316; clear HO320; clear HO323; clear HB; have HO313 := n0_; have HO316 := n1_; have HO320 := n2_; have HO323 := n3_; have HO326 := n4_; have HB := n5_; clear n0_ n1_ n2_ n3_ n4_ n5_; (try clear hb); (try clear hb2); (try clear hk); (try clear hi); (try clear ho0); obtain ⟨Ao26, co26, eo26⟩ := Kd.R_slice HO323.out; subst eo26; obtain ⟨Ao27, co27, eo27⟩ := Kd.R_slice HO326.out; subst eo27) | ((with_reducible refine gate_callee (f := 30) rfl ?_); refine goesL_ (some 42) rfl rfl Try.func30 (by kernel_rfl) rfl #[.slice Ao26 t321.length co26, .slice Ao27 t324.length co27] rfl (by (try simp only [List.map_toArray, List.map_cons, List.map_nil]); first | done | rfl | (simp only [List.length_drop, List.length_take]; rfl)) ?_; (with_reducible refine (impl_MergeVersions.calls k (fun k_ => some k_ = (.slice Ao26 t321.length co26 : Value).ownBlock) _ _ t321 (fun k_ => some k_ = (.slice Ao27 t324.length co27 : Value).ownBlock) _ _ t324 t327 t330 _ ?side1 ?side2 A15.out).mono ?_); (case side1 => exact Kd.R_V (Kd.R_tight rfl (HO323.out))); (case side2 => exact Kd.R_V (Kd.R_tight rfl (HO326.out))); rintro e w28 ⟨v328, rfl, ho0, hb⟩; refine ⟨_, rfl, ?_⟩; have n0_ := Aside0.mk (Kd.R_elder' (sq_r HO313) (Kd.R_base ho0) hb); have n1_ := Aside0.mk (Kd.R_elder' (sq_r HO316) (Kd.R_base ho0) hb); have n2_ := Aside0.mk (Kd.R_elder' (sq_r HO320) (Kd.R_base ho0) hb); have n3_ := Aside0.mk (Kd.R_elder' (sq_r HO323) (Kd.R_base ho0) hb); have n4_ := Aside0.mk (Kd.R_elder' (sq_r HO326) (Kd.R_base ho0) hb); have n5_ := Aside0.mk (Kd.R_lower (Kd.R_new' (Kd.R_new' (Kd.R_new' (Kd.R_new' (Kd.R_new' (Kd.R_mono (ok' := fun k_ => True) ho0 (fun _ hk_ => trivial)) (Kd.R_lt (sq_r HO313))) (Kd.R_lt (sq_r HO316))) (Kd.R_lt (sq_r HO320))) (Kd.R_lt (sq_r HO323))) (Kd.R_lt (sq_r HO326))) (below_size sq_b)); have n6_ := Aside0.mk (below_step sq_b hb); clear HO313; clear HO316; clear HO320; clear HO323; clear HO326; clear HB; have HO313 := n0_; have HO316 := n1_; have HO320 := n2_; have HO323 := n3_; have HO326 := n4_; have HO329 := n5_; have HB := n6_; clear n0_ n1_ n2_ n3_ n4_ n5_ n6_; (try clear hb); (try clear hb2); (try clear hk); (try clear hi); (try clear ho0)))
   (try simp only [Act.put, List.setIfInBounds_toArray, List.set_cons_zero, List.set_cons_succ])
   go_cut [53] (fun v53 wc => ∃ (kq : Nat) (x53_15 : Bool), v53 = .bool x53_15 ∧ Aside0 (laws_FnExactMergeVersions.j0 kq l0 l1 t317 t318 t321 t324 t327 t330 x53_15 = some r) ∧ Aside0 (kq ≤ k) ∧ Aside0 (Kd.R k42 42 wc w.heap.size (fun k_ => some k_ ≠ ((.slice Ao26 t321.length co26) : Value).ownBlock ∧ some k_ ≠ ((.slice Ao27 t324.length co27) : Value).ownBlock ∧ some k_ ≠ (v328 : Value).ownBlock) v319 t317) ∧ Aside0 (Kd.R k42 42 wc w.heap.size (fun k_ => some k_ ≠ (v319 : Value).ownBlock ∧ some k_ ≠ ((.slice Ao27 t324.length co27) : Value).ownBlock ∧ some k_ ≠ (v328 : Value).ownBlock) (.slice Ao26 t321.length co26) t321) ∧ Aside0 (Kd.R k42 42 wc w.heap.size (fun k_ => some k_ ≠ (v319 : Value).ownBlock ∧ some k_ ≠ ((.slice Ao26 t321.length co26) : Value).ownBlock ∧ some k_ ≠ (v328 : Value).ownBlock) (.slice Ao27 t324.length co27) t324) ∧ Aside0 (Kd.R k42 42 wc w.heap.size (fun k_ => some k_ ≠ (v319 : Value).ownBlock ∧ some k_ ≠ ((.slice Ao26 t321.length co26) : Value).ownBlock ∧ some k_ ≠ ((.slice Ao27 t324.length co27) : Value).ownBlock) v328 t327) ∧ Aside0 (Below w.heap.size w wc))
   case first =>
    have H := HC16.out
    clear HC16
    replace H := Option.bind_eq_some_iff.mp H
    obtain ⟨t331, A290, H⟩ := H
    replace H : (if t331 = true then (laws_FnExactMergeVersions.j0 k l0 l1 t317 t318 t321 t324 t327 t330 (t330 != t318)) else (laws_FnExactMergeVersions.j0 k l0 l1 t317 t318 t321 t324 t327 t330 true)) = some r := H
    have A29 := Aside0.mk A290
    clear A290
    by_cases c30 : t331 = true
    ·subst c30
     have H1 : (laws_FnExactMergeVersions.j0 k l0 l1 t317 t318 t321 t324 t327 t330 (t330 != t318)) = some r := by rw [if_pos rfl] at H; exact H
     clear H
     have H := H1
     clear H1
     have H' := Aside0.mk H
     clear H
     obtain ⟨Ao31, co31, eo31⟩ := Kd.R_slice HO329.out
     subst eo31
     obtain ⟨Ao32, co32, eo32⟩ := Kd.R_slice HO320.out
     subst eo32
     go_wp2_with (first | ((with_reducible refine gate_callee (f := 13) rfl ?_); refine goesL_ (some 47) rfl rfl Try.func13 (by kernel_rfl) rfl #[.slice Ao31 t327.length co31, .slice Ao32 t317.length co32] rfl (by (try simp only [List.map_toArray, List.map_cons, List.map_nil]); first | done | rfl | (simp only [List.length_drop, List.length_take]; rfl)) ?_; (with_reducible refine (laws_eqVersionS.calls k _ _ t327 _ _ t317 true _ ?side1 ?side2 ?side3 ?side4 A29.out).mono ?_); (case side1 => repeat (first | exact (Kd.R_reads' HO329.out).2.2 | (with_reducible refine Kd.C_alloc ?_ _) | (with_reducible refine Kd.C_drewN ?_ _) | (with_reducible refine Kd.C_drew ?_))); (case side2 => exact (Kd.R_reads' HO329.out).2.1); (case side3 => repeat (first | exact (Kd.R_reads' HO320.out).2.2 | (with_reducible refine Kd.C_alloc ?_ _) | (with_reducible refine Kd.C_drewN ?_ _) | (with_reducible refine Kd.C_drew ?_))); (case side4 => exact (Kd.R_reads' HO320.out).2.1); rintro e w33 ⟨rfl, hb⟩; refine ⟨_, rfl, ?_⟩; have n0_ := Aside0.mk (Kd.R_below (sq_r HO313) hb); have n1_ := Aside0.mk (Kd.R_below (sq_r HO316) hb); have n2_ := Aside0.mk (Kd.R_below (sq_r HO320) hb); have n3_ := Aside0.mk (Kd.R_below (sq_r HO323) hb); have n4_ := Aside0.mk (Kd.R_below (sq_r HO326) hb); have n5_ := Aside0.mk (Kd.R_below (sq_r HO329) hb); have n6_ := Aside0.mk (below_step sq_b hb); clear HO313; clear HO316; clear HO320; clear HO323; clear HO326; clear HO329; clear HB; have HO313 := n0_; have HO316 := n1_; have HO320 := n2_; have HO323 := n3_; have HO326 := n4_; have HO329 := n5_; have HB := n6_; clear n0_ n1_ n2_ n3_ n4_ n5_ n6_; (try clear hb); (try clear hb2); (try clear hk); (try clear hi)))
     go_meet
     case rel => exact ⟨_, ((t330 != t318)), sq_e, H', ⟨by first | omega | exact Nat.le_refl _⟩, ⟨by (with_reducible repeat (first | apply Kd.R_alloc | apply Kd.R_drewN | apply Kd.R_drew)); exact Kd.R_mono HO320.out (fun _ hk => ⟨hk.1.1.2, ⟨hk.1.2, hk.2⟩⟩)⟩, ⟨by (with_reducible repeat (first | apply Kd.R_alloc | apply Kd.R_drewN | apply Kd.R_drew)); exact Kd.R_mono HO323.out (fun _ hk => ⟨hk.1.1.2, ⟨hk.1.2, hk.2⟩⟩)⟩, ⟨by (with_reducible repeat (first | apply Kd.R_alloc | apply Kd.R_drewN | apply Kd.R_drew)); exact Kd.R_mono HO326.out (fun _ hk => ⟨hk.1.1.2, ⟨hk.1.2, hk.2⟩⟩)⟩, ⟨by (with_reducible repeat (first | apply Kd.R_alloc | apply Kd.R_drewN | apply Kd.R_drew)); exact Kd.R_mono HO329.out (fun _ hk => ⟨hk.1.1.2, ⟨hk.1.2, hk.2⟩⟩)⟩, ⟨sq_b⟩⟩
    ·replace c30 := Bool.eq_false_iff.mpr c30
     subst c30
     have H1 : (laws_FnExactMergeVersions.j0 k l0 l1 t317 t318 t321 t324 t327 t330 true) = some r := by rw [if_neg (show ¬ (false = true) by decide)] at H; exact H
     clear H
     have H := H1
     clear H1
     have H' := Aside0.mk H
     clear H
     obtain ⟨Ao34, co34, eo34⟩ := Kd.R_slice HO329.out
     subst eo34
     obtain ⟨Ao35, co35, eo35⟩ := Kd.R_slice HO320.out
     subst eo35
     go_wp2_with (first | ((with_reducible refine gate_callee (f := 13) rfl ?_); refine goesL_ (some 47) rfl rfl Try.func13 (by kernel_rfl) rfl #[.slice Ao34 t327.length co34, .slice Ao35 t317.length co35] rfl (by (try simp only [List.map_toArray, List.map_cons, List.map_nil]); first | done | rfl | (simp only [List.length_drop, List.length_take]; rfl)) ?_; (with_reducible refine (laws_eqVersionS.calls k _ _ t327 _ _ t317 false _ ?side1 ?side2 ?side3 ?side4 A29.out).mono ?_); (case side1 => repeat (first | exact (Kd.R_reads' HO329.out).2.2 | (with_reducible refine Kd.C_alloc ?_ _) | (with_reducible refine Kd.C_drewN ?_ _) | (with_reducible refine Kd.C_drew ?_))); (case side2 => exact (Kd.R_reads' HO329.out).2.1); (case side3 => repeat (first | exact (Kd.R_reads' HO320.out).2.2 | (with_reducible refine Kd.C_alloc ?_ _) | (with_reducible refine Kd.C_drewN ?_ _) | (with_reducible refine Kd.C_drew ?_))); (case side4 => exact (Kd.R_reads' HO320.out).2.1); rintro e w36 ⟨rfl, hb⟩; refine ⟨_, rfl, ?_⟩; have n0_ := Aside0.mk (Kd.R_below (sq_r HO313) hb); have n1_ := Aside0.mk (Kd.R_below (sq_r HO316) hb); have n2_ := Aside0.mk (Kd.R_below (sq_r HO320) hb); have n3_ := Aside0.mk (Kd.R_below (sq_r HO323) hb); have n4_ := Aside0.mk (Kd.R_below (sq_r HO326) hb); have n5_ := Aside0.mk (Kd.R_below (sq_r HO329) hb); have n6_ := Aside0.mk (below_step sq_b hb); clear HO313; clear HO316; clear HO320; clear HO323; clear HO326; clear HO329; clear HB; have HO313 := n0_; have HO316 := n1_; have HO320 := n2_; have HO323 := n3_; have HO326 := n4_; have HO329 := n5_; have HB := n6_; clear n0_ n1_ n2_ n3_ n4_ n5_ n6_; (try clear hb); (try clear hb2); (try clear hk); (try clear hi)))
     go_meet
     case rel => exact ⟨_, (true), sq_e, H', ⟨by first | omega | exact Nat.le_refl _⟩, ⟨by (with_reducible repeat (first | apply Kd.R_alloc | apply Kd.R_drewN | apply Kd.R_drew)); exact Kd.R_mono HO320.out (fun _ hk => ⟨hk.1.1.2, ⟨hk.1.2, hk.2⟩⟩)⟩, ⟨by (with_reducible repeat (first | apply Kd.R_alloc | apply Kd.R_drewN | apply Kd.R_drew)); exact Kd.R_mono HO323.out (fun _ hk => ⟨hk.1.1.2, ⟨hk.1.2, hk.2⟩⟩)⟩, ⟨by (with_reducible repeat (first | apply Kd.R_alloc | apply Kd.R_drewN | apply Kd.R_drew)); exact Kd.R_mono HO326.out (fun _ hk => ⟨hk.1.1.2, ⟨hk.1.2, hk.2⟩⟩)⟩, ⟨by (with_reducible repeat (first | apply Kd.R_alloc | apply Kd.R_drewN | apply Kd.R_drew)); exact Kd.R_mono HO329.out (fun _ hk => ⟨hk.1.1.2, ⟨hk.1.2, hk.2⟩⟩)⟩, ⟨sq_b⟩⟩
   case rest =>
    clear HC16
    (try clear c1); (try clear c2); (try clear p2); (try clear c3); (try clear c4); (try clear c4b0); (try clear c7); (try clear c7b0); (try clear c8); (try clear c9); (try clear c11); (try clear c13); (try clear c29); (try clear c30)
    obtain ⟨kq, x53_15, rfl, HA, HJ15, HO_6, HO_8, HO_9, HO_10, HB⟩ := hcut
    cases kq with
    | zero => exact absurd HA.out (by simp [laws_FnExactMergeVersions.j0])
    | succ kj15 =>
     have H := HA.out
     clear HA
     simp only [laws_FnExactMergeVersions.j0] at H
     by_cases c37 : x53_15 = true
     ·subst c37
      have H1 : (some false) = some r := by rw [if_pos rfl] at H; exact H
      clear H
      have H := H1
      clear H1
      obtain rfl := Option.some.inj H
      go_wp2
      go_ret
      exact ⟨sq_w, sq_b⟩
     ·replace c37 := Bool.eq_false_iff.mpr c37
      subst c37
      have H1 : ((laws_toVersionS.f kj15 l0).bind fun t332 => ((laws_eqVersionS.f kj15 t321 t332).bind fun t335 => (if t335 = true then ((laws_toVersionS.f kj15 l1).bind fun t336 => ((laws_eqVersionS.f kj15 t324 t336).bind fun t339 => (if t339 = true then ((laws_markVersionS.f kj15 t321 1).bind fun bt340 => ((laws_markVersionS.f kj15 t324 bt340.1).bind fun bt342 => (if bt342.1 < 0 then (laws_FnExactMergeVersions.j1 kj15 l0 l1 t317 t318 t327 true) else ((laws_eqVersionS.f kj15 t327 t317).bind fun t344 => (if t344 = true then (laws_FnExactMergeVersions.j1 kj15 l0 l1 t317 t318 t327 (t330 != t318)) else (laws_FnExactMergeVersions.j1 kj15 l0 l1 t317 t318 t327 true)))))) else (some false)))) else (some false)))) = some r := by rw [if_neg (show ¬ (false = true) by decide)] at H; exact H
      clear H
      have H := H1
      clear H1
      replace H := Option.bind_eq_some_iff.mp H
      obtain ⟨t332, A380, H⟩ := H
      replace H : ((laws_eqVersionS.f kj15 t321 t332).bind fun t335 => (if t335 = true then ((laws_toVersionS.f kj15 l1).bind fun t336 => ((laws_eqVersionS.f kj15 t324 t336).bind fun t339 => (if t339 = true then ((laws_markVersionS.f kj15 t321 1).bind fun bt340 => ((laws_markVersionS.f kj15 t324 bt340.1).bind fun bt342 => (if bt342.1 < 0 then (laws_FnExactMergeVersions.j1 kj15 l0 l1 t317 t318 t327 true) else ((laws_eqVersionS.f kj15 t327 t317).bind fun t344 => (if t344 = true then (laws_FnExactMergeVersions.j1 kj15 l0 l1 t317 t318 t327 (t330 != t318)) else (laws_FnExactMergeVersions.j1 kj15 l0 l1 t317 t318 t327 true)))))) else (some false)))) else (some false))) = some r := H
      have A38 := Aside0.mk A380
      clear A380
      replace H := Option.bind_eq_some_iff.mp H
      obtain ⟨t335, A390, H⟩ := H
      replace H : (if t335 = true then ((laws_toVersionS.f kj15 l1).bind fun t336 => ((laws_eqVersionS.f kj15 t324 t336).bind fun t339 => (if t339 = true then ((laws_markVersionS.f kj15 t321 1).bind fun bt340 => ((laws_markVersionS.f kj15 t324 bt340.1).bind fun bt342 => (if bt342.1 < 0 then (laws_FnExactMergeVersions.j1 kj15 l0 l1 t317 t318 t327 true) else ((laws_eqVersionS.f kj15 t327 t317).bind fun t344 => (if t344 = true then (laws_FnExactMergeVersions.j1 kj15 l0 l1 t317 t318 t327 (t330 != t318)) else (laws_FnExactMergeVersions.j1 kj15 l0 l1 t317 t318 t327 true)))))) else (some false)))) else (some false)) = some r := H
      have A39 := Aside0.mk A390
      clear A390
      by_cases c40 : t335 = true
      ·subst c40
       have H1 : ((laws_toVersionS.f kj15 l1).bind fun t336 => ((laws_eqVersionS.f kj15 t324 t336).bind fun t339 => (if t339 = true then ((laws_markVersionS.f kj15 t321 1).bind fun bt340 => ((laws_markVersionS.f kj15 t324 bt340.1).bind fun bt342 => (if bt342.1 < 0 then (laws_FnExactMergeVersions.j1 kj15 l0 l1 t317 t318 t327 true) else ((laws_eqVersionS.f kj15 t327 t317).bind fun t344 => (if t344 = true then (laws_FnExactMergeVersions.j1 kj15 l0 l1 t317 t318 t327 (t330 != t318)) else (laws_FnExactMergeVersions.j1 kj15 l0 l1 t317 t318 t327 true)))))) else (some false)))) = some r := by rw [if_pos rfl] at H; exact H
       clear H
       have H := H1
       clear H1
       replace H := Option.bind_eq_some_iff.mp H
       obtain ⟨t336, A410, H⟩ := H
       replace H : ((laws_eqVersionS.f kj15 t324 t336).bind fun t339 => (if t339 = true then ((laws_markVersionS.f kj15 t321 1).bind fun bt340 => ((laws_markVersionS.f kj15 t324 bt340.1).bind fun bt342 => (if bt342.1 < 0 then (laws_FnExactMergeVersions.j1 kj15 l0 l1 t317 t318 t327 true) else ((laws_eqVersionS.f kj15 t327 t317).bind fun t344 => (if t344 = true then (laws_FnExactMergeVersions.j1 kj15 l0 l1 t317 t318 t327 (t330 != t318)) else (laws_FnExactMergeVersions.j1 kj15 l0 l1 t317 t318 t327 true)))))) else (some false))) = some r := H
       have A41 := Aside0.mk A410
       clear A410
       replace H := Option.bind_eq_some_iff.mp H
       obtain ⟨t339, A420, H⟩ := H
       replace H : (if t339 = true then ((laws_markVersionS.f kj15 t321 1).bind fun bt340 => ((laws_markVersionS.f kj15 t324 bt340.1).bind fun bt342 => (if bt342.1 < 0 then (laws_FnExactMergeVersions.j1 kj15 l0 l1 t317 t318 t327 true) else ((laws_eqVersionS.f kj15 t327 t317).bind fun t344 => (if t344 = true then (laws_FnExactMergeVersions.j1 kj15 l0 l1 t317 t318 t327 (t330 != t318)) else (laws_FnExactMergeVersions.j1 kj15 l0 l1 t317 t318 t327 true)))))) else (some false)) = some r := H
       have A42 := Aside0.mk A420
       clear A420
       by_cases c43 : t339 = true
       ·subst c43
        have H1 : ((laws_markVersionS.f kj15 t321 1).bind fun bt340 => ((laws_markVersionS.f kj15 t324 bt340.1).bind fun bt342 => (if bt342.1 < 0 then (laws_FnExactMergeVersions.j1 kj15 l0 l1 t317 t318 t327 true) else ((laws_eqVersionS.f kj15 t327 t317).bind fun t344 => (if t344 = true then (laws_FnExactMergeVersions.j1 kj15 l0 l1 t317 t318 t327 (t330 != t318)) else (laws_FnExactMergeVersions.j1 kj15 l0 l1 t317 t318 t327 true)))))) = some r := by rw [if_pos rfl] at H; exact H
        clear H
        have H := H1
        clear H1
        replace H := Option.bind_eq_some_iff.mp H
        obtain ⟨⟨t340, t341⟩, A440, H⟩ := H
        replace H : ((laws_markVersionS.f kj15 t324 t340).bind fun bt342 => (if bt342.1 < 0 then (laws_FnExactMergeVersions.j1 kj15 l0 l1 t317 t318 t327 true) else ((laws_eqVersionS.f kj15 t327 t317).bind fun t344 => (if t344 = true then (laws_FnExactMergeVersions.j1 kj15 l0 l1 t317 t318 t327 (t330 != t318)) else (laws_FnExactMergeVersions.j1 kj15 l0 l1 t317 t318 t327 true))))) = some r := H
        have A44 := Aside0.mk A440
        clear A440
        replace H := Option.bind_eq_some_iff.mp H
        obtain ⟨⟨t342, t343⟩, A450, H⟩ := H
        replace H : (if t342 < 0 then (laws_FnExactMergeVersions.j1 kj15 l0 l1 t317 t318 t327 true) else ((laws_eqVersionS.f kj15 t327 t317).bind fun t344 => (if t344 = true then (laws_FnExactMergeVersions.j1 kj15 l0 l1 t317 t318 t327 (t330 != t318)) else (laws_FnExactMergeVersions.j1 kj15 l0 l1 t317 t318 t327 true)))) = some r := H
        have A45 := Aside0.mk A450
        clear A450
        have HC46 := Aside0.mk H
        clear H
        go_upto_region 21 with (first | ((with_reducible refine gate_callee (f := 11) rfl ?_); refine goesL_ (some 56) rfl rfl Try.func11 (by kernel_rfl) rfl #[.slice A0 l0.length c0] rfl (by (try simp only [List.map_toArray, List.map_cons, List.map_nil]); first | done | rfl | (simp only [List.length_drop, List.length_take]; rfl)) ?_; (with_reducible refine (laws_toVersionS.calls kj15 _ _ l0 t332 _ ?side1 ?side2 A38.out).mono ?_); (case side1 => repeat (first | exact (Kd.C_below HR0.out HB.out) | (with_reducible refine Kd.C_alloc ?_ _) | (with_reducible refine Kd.C_drewN ?_ _) | (with_reducible refine Kd.C_drew ?_))); (case side2 => exact HC0.out); rintro e w47 ⟨v333, rfl, ho0, hb⟩; refine ⟨_, rfl, ?_⟩; have n0_ := Aside0.mk (Kd.R_elder' (sq_r HO_6) (Kd.R_base ho0) hb); have n1_ := Aside0.mk (Kd.R_elder' (sq_r HO_8) (Kd.R_base ho0) hb); have n2_ := Aside0.mk (Kd.R_elder' (sq_r HO_9) (Kd.R_base ho0) hb); have n3_ := Aside0.mk (Kd.R_elder' (sq_r HO_10) (Kd.R_base ho0) hb); have n4_ := Aside0.mk (Kd.R_lower (Kd.R_new' (Kd.R_new' (Kd.R_new' (Kd.R_new' ho0 (Kd.R_lt (sq_r HO_6))) (Kd.R_lt (sq_r HO_8))) (Kd.R_lt (sq_r HO_9))) (Kd.R_lt (sq_r HO_10))) (below_size sq_b)); have n5_ := Aside0.mk (below_step sq_b hb); clear HO_6; clear HO_8; clear HO_9; clear HO_10; clear HB; have HO_6 := n0_; have HO_8 := n1_; have HO_9 := n2_; have HO_10 := n3_; have HO334 := n4_; have HB := n5_; clear n0_ n1_ n2_ n3_ n4_ n5_; (try clear hb); (try clear hb2); (try clear hk); (try clear hi); (try clear ho0); obtain ⟨Ao48, co48, eo48⟩ := Kd.R_slice HO334.out; subst eo48) | ((with_reducible refine gate_callee (f := 13) rfl ?_); refine goesL_ (some 57) rfl rfl Try.func13 (by kernel_rfl) rfl #[.slice Ao26 t321.length co26, .slice Ao48 t332.length co48] rfl (by (try simp only [List.map_toArray, List.map_cons, List.map_nil]); first | done | rfl | (simp only [List.length_drop, List.length_take]; rfl)) ?_; (with_reducible refine (laws_eqVersionS.calls kj15 _ _ t321 _ _ t332 true _ ?side1 ?side2 ?side3 ?side4 A39.out).mono ?_); (case side1 => repeat (first | exact (Kd.R_reads' HO_8.out).2.2 | (with_reducible refine Kd.C_alloc ?_ _) | (with_reducible refine Kd.C_drewN ?_ _) | (with_reducible refine Kd.C_drew ?_))); (case side2 => exact (Kd.R_reads' HO_8.out).2.1); (case side3 => repeat (first | exact (Kd.R_reads' HO334.out).2.2 | (with_reducible refine Kd.C_alloc ?_ _) | (with_reducible refine Kd.C_drewN ?_ _) | (with_reducible refine Kd.C_drew ?_))); (case side4 => exact (Kd.R_reads' HO334.out).2.1); rintro e w49 ⟨rfl, hb⟩; refine ⟨_, rfl, ?_⟩; have n0_ := Aside0.mk (Kd.R_below (sq_r HO_6) hb); have n1_ := Aside0.mk (Kd.R_below (sq_r HO_8) hb); have n2_ := Aside0.mk (Kd.R_below (sq_r HO_9) hb); have n3_ := Aside0.mk (Kd.R_below (sq_r HO_10) hb); have n4_ := Aside0.mk (Kd.R_below (sq_r HO334) hb); have n5_ := Aside0.mk (below_step sq_b hb); clear HO_6; clear HO_8; clear HO_9; clear HO_10; clear HO334; clear HB; have HO_6 := n0_; have HO_8 := n1_; have HO_9 := n2_; have HO_10 := n3_; have HO334 := n4_; have HB := n5_; clear n0_ n1_ n2_ n3_ n4_ n5_; (try clear hb); (try clear hb2); (try clear hk); (try clear hi)) | ((with_reducible refine gate_callee (f := 11) rfl ?_); refine goesL_ (some 61) rfl rfl Try.func11 (by kernel_rfl) rfl #[.slice A1 l1.length c1] rfl (by (try simp only [List.map_toArray, List.map_cons, List.map_nil]); first | done | rfl | (simp only [List.length_drop, List.length_take]; rfl)) ?_; (with_reducible refine (laws_toVersionS.calls kj15 _ _ l1 t336 _ ?side1 ?side2 A41.out).mono ?_); (case side1 => repeat (first | exact (Kd.C_below HR1.out HB.out) | (with_reducible refine Kd.C_alloc ?_ _) | (with_reducible refine Kd.C_drewN ?_ _) | (with_reducible refine Kd.C_drew ?_))); (case side2 => exact HC1.out); rintro e w50 ⟨v337, rfl, ho0, hb⟩; refine ⟨_, rfl, ?_⟩; have n0_ := Aside0.mk (Kd.R_elder' (sq_r HO_6) (Kd.R_base ho0) hb); have n1_ := Aside0.mk (Kd.R_elder' (sq_r HO_8) (Kd.R_base ho0) hb); have n2_ := Aside0.mk (Kd.R_elder' (sq_r HO_9) (Kd.R_base ho0) hb); have n3_ := Aside0.mk (Kd.R_elder' (sq_r HO_10) (Kd.R_base ho0) hb); have n4_ := Aside0.mk (Kd.R_elder' (sq_r HO334) (Kd.R_base ho0) hb); have n5_ := Aside0.mk (Kd.R_lower (Kd.R_new' (Kd.R_new' (Kd.R_new' (Kd.R_new' (Kd.R_new' ho0 (Kd.R_lt (sq_r HO_6))) (Kd.R_lt (sq_r HO_8))) (Kd.R_lt (sq_r HO_9))) (Kd.R_lt (sq_r HO_10))) (Kd.R_lt (sq_r HO334))) (below_size sq_b)); have n6_ := Aside0.mk (below_step sq_b hb); clear HO_6; clear HO_8; clear HO_9; clear HO_10; clear HO334; clear HB; have HO_6 := n0_; have HO_8 := n1_; have HO_9 := n2_; have HO_10 := n3_; have HO334 := n4_; have HO338 := n5_; have HB := n6_; clear n0_ n1_ n2_ n3_ n4_ n5_ n6_; (try clear hb); (try clear hb2); (try clear hk); (try clear hi); (try clear ho0); obtain ⟨Ao51, co51, eo51⟩ := Kd.R_slice HO338.out; subst eo51) | ((with_reducible refine gate_callee (f := 13) rfl ?_); refine goesL_ (some 62) rfl rfl Try.func13 (by kernel_rfl) rfl #[.slice Ao27 t324.length co27, .slice Ao51 t336.length co51] rfl (by (try simp only [List.map_toArray, List.map_cons, List.map_nil]); first | done | rfl | (simp only [List.length_drop, List.length_take]; rfl)) ?_; (with_reducible refine (laws_eqVersionS.calls kj15 _ _ t324 _ _ t336 true _ ?side1 ?side2 ?side3 ?side4 A42.out).mono ?_); (case side1 => repeat (first | exact (Kd.R_reads' HO_9.out).2.2 | (with_reducible refine Kd.C_alloc ?_ _) | (with_reducible refine Kd.C_drewN ?_ _) | (with_reducible refine Kd.C_drew ?_))); (case side2 => exact (Kd.R_reads' HO_9.out).2.1); (case side3 => repeat (first | exact (Kd.R_reads' HO338.out).2.2 | (with_reducible refine Kd.C_alloc ?_ _) | (with_reducible refine Kd.C_drewN ?_ _) | (with_reducible refine Kd.C_drew ?_))); (case side4 => exact (Kd.R_reads' HO338.out).2.1); rintro e w52 ⟨rfl, hb⟩; refine ⟨_, rfl, ?_⟩; have n0_ := Aside0.mk (Kd.R_below (sq_r HO_6) hb); have n1_ := Aside0.mk (Kd.R_below (sq_r HO_8) hb); have n2_ := Aside0.mk (Kd.R_below (sq_r HO_9) hb); have n3_ := Aside0.mk (Kd.R_below (sq_r HO_10) hb); have n4_ := Aside0.mk (Kd.R_below (sq_r HO334) hb); have n5_ := Aside0.mk (Kd.R_below (sq_r HO338) hb); have n6_ := Aside0.mk (below_step sq_b hb); clear HO_6; clear HO_8; clear HO_9; clear HO_10; clear HO334; clear HO338; clear HB; have HO_6 := n0_; have HO_8 := n1_; have HO_9 := n2_; have HO_10 := n3_; have HO334 := n4_; have HO338 := n5_; have HB := n6_; clear n0_ n1_ n2_ n3_ n4_ n5_ n6_; (try clear hb); (try clear hb2); (try clear hk); (try clear hi)) | ((with_reducible refine gate_callee (f := 14) rfl ?_); refine goesL_ (some 66) rfl rfl Try.func14 (by kernel_rfl) rfl #[.slice Ao26 t321.length co26, .int .i64 1] rfl (by (try simp only [List.map_toArray, List.map_cons, List.map_nil]); first | done | rfl | (simp only [List.length_drop, List.length_take]; rfl)) ?_; (with_reducible refine (laws_markVersionS.calls kj15 (fun k_ => some k_ = (.slice Ao26 t321.length co26 : Value).ownBlock) (.slice Ao26 t321.length co26) t321 1 t340 t341 w _ ?side1 ?side2 A44.out).mono ?_); (case side1 => repeat (first | (with_reducible first | exact HB.out | apply below_alloc | apply pw_below_drewN | apply below_drew1) | exact HB.out)); (case side2 => exact Kd.R_tight rfl HO_8.out); rintro e w53 ⟨rfl, hy0, hb, hkp⟩; refine ⟨_, rfl, ?_⟩; have n0_ := Aside0.mk (Kd.R_mono (ok' := fun k_ => some k_ ≠ (.slice Ao26 t321.length co26 : Value).ownBlock ∧ some k_ ≠ (.slice Ao27 t324.length co27 : Value).ownBlock ∧ some k_ ≠ (v328 : Value).ownBlock ∧ some k_ ≠ (.slice Ao48 t332.length co48 : Value).ownBlock ∧ some k_ ≠ (.slice Ao51 t336.length co51 : Value).ownBlock) (Kd.R_keptB (HO_6.out) hkp (fun k_ hk_ hs_ => (hk_.1.1.1) hs_)) (fun k_ hk_ => ⟨hk_.1.1.1.1, hk_.1.1.1.2.1, hk_.1.1.1.2.2, hk_.1.1.2, hk_.1.2⟩)); have n1_ := Aside0.mk (Kd.R_reok rfl hy0 (fun k_ e_ => HO_8.out.1 k_ e_)); have n2_ := Aside0.mk (Kd.R_mono (ok' := fun k_ => some k_ ≠ (v319 : Value).ownBlock ∧ some k_ ≠ (.slice Ao26 t321.length co26 : Value).ownBlock ∧ some k_ ≠ (v328 : Value).ownBlock ∧ some k_ ≠ (.slice Ao48 t332.length co48 : Value).ownBlock ∧ some k_ ≠ (.slice Ao51 t336.length co51 : Value).ownBlock) (Kd.R_keptB (HO_9.out) hkp (fun k_ hk_ hs_ => (hk_.1.1.2.1) hs_)) (fun k_ hk_ => ⟨hk_.1.1.1.1, hk_.1.1.1.2.1, hk_.1.1.1.2.2, hk_.1.1.2, hk_.1.2⟩)); have n3_ := Aside0.mk (Kd.R_mono (ok' := fun k_ => some k_ ≠ (v319 : Value).ownBlock ∧ some k_ ≠ (.slice Ao26 t321.length co26 : Value).ownBlock ∧ some k_ ≠ (.slice Ao27 t324.length co27 : Value).ownBlock ∧ some k_ ≠ (.slice Ao48 t332.length co48 : Value).ownBlock ∧ some k_ ≠ (.slice Ao51 t336.length co51 : Value).ownBlock) (Kd.R_keptB (HO_10.out) hkp (fun k_ hk_ hs_ => (hk_.1.1.2.1) hs_)) (fun k_ hk_ => ⟨hk_.1.1.1.1, hk_.1.1.1.2.1, hk_.1.1.1.2.2, hk_.1.1.2, hk_.1.2⟩)); have n4_ := Aside0.mk (Kd.R_mono (ok' := fun k_ => some k_ ≠ (v319 : Value).ownBlock ∧ some k_ ≠ (.slice Ao26 t321.length co26 : Value).ownBlock ∧ some k_ ≠ (.slice Ao27 t324.length co27 : Value).ownBlock ∧ some k_ ≠ (v328 : Value).ownBlock ∧ some k_ ≠ (.slice Ao51 t336.length co51 : Value).ownBlock) (Kd.R_keptB (HO334.out) hkp (fun k_ hk_ hs_ => (hk_.1.1.1.2) hs_)) (fun k_ hk_ => ⟨hk_.1.1.1.1.1.2, hk_.1.1.1.1.2, hk_.1.1.1.2, hk_.1.1.2, hk_.1.2⟩)); have n5_ := Aside0.mk (Kd.R_mono (ok' := fun k_ => some k_ ≠ (v319 : Value).ownBlock ∧ some k_ ≠ (.slice Ao26 t321.length co26 : Value).ownBlock ∧ some k_ ≠ (.slice Ao27 t324.length co27 : Value).ownBlock ∧ some k_ ≠ (v328 : Value).ownBlock ∧ some k_ ≠ (.slice Ao48 t332.length co48 : Value).ownBlock) (Kd.R_keptB (HO338.out) hkp (fun k_ hk_ hs_ => (hk_.1.1.1.2) hs_)) (fun k_ hk_ => ⟨hk_.1.1.1.1.1.2, hk_.1.1.1.1.2, hk_.1.1.1.2, hk_.1.1.2, hk_.1.2⟩)); have n6_ := Aside0.mk (hb); clear HO_6; clear HO_8; clear HO_9; clear HO_10; clear HO334; clear HO338; clear HB; have HO_6 := n0_; have HO_8 := n1_; have HO_9 := n2_; have HO_10 := n3_; have HO334 := n4_; have HO338 := n5_; have HB := n6_; clear n0_ n1_ n2_ n3_ n4_ n5_ n6_; (try clear hb); (try clear hkp); (try clear hy0)) | ((with_reducible refine gate_callee (f := 14) rfl ?_); refine goesL_ (some 69) rfl rfl Try.func14 (by kernel_rfl) rfl #[.slice Ao27 t324.length co27, .int .i64 t340] rfl (by (try simp only [List.map_toArray, List.map_cons, List.map_nil]); first | done | rfl | (simp only [List.length_drop, List.length_take]; rfl)) ?_; (with_reducible refine (laws_markVersionS.calls kj15 (fun k_ => some k_ = (.slice Ao27 t324.length co27 : Value).ownBlock) (.slice Ao27 t324.length co27) t324 t340 t342 t343 w _ ?side1 ?side2 A45.out).mono ?_); (case side1 => repeat (first | (with_reducible first | exact HB.out | apply below_alloc | apply pw_below_drewN | apply below_drew1) | exact HB.out)); (case side2 => exact Kd.R_tight rfl HO_9.out); rintro e w54 ⟨rfl, hy0, hb, hkp⟩; refine ⟨_, rfl, ?_⟩; have n0_ := Aside0.mk (Kd.R_mono (ok' := fun k_ => some k_ ≠ (.slice Ao26 t321.length co26 : Value).ownBlock ∧ some k_ ≠ (.slice Ao27 t324.length co27 : Value).ownBlock ∧ some k_ ≠ (v328 : Value).ownBlock ∧ some k_ ≠ (.slice Ao48 t332.length co48 : Value).ownBlock ∧ some k_ ≠ (.slice Ao51 t336.length co51 : Value).ownBlock) (Kd.R_keptB (HO_6.out) hkp (fun k_ hk_ hs_ => (hk_.2.1) hs_)) (fun k_ hk_ => ⟨hk_.1.1, hk_.1.2.1, hk_.1.2.2.1, hk_.1.2.2.2.1, hk_.1.2.2.2.2⟩)); have n1_ := Aside0.mk (Kd.R_mono (ok' := fun k_ => some k_ ≠ (v319 : Value).ownBlock ∧ some k_ ≠ (.slice Ao27 t324.length co27 : Value).ownBlock ∧ some k_ ≠ (v328 : Value).ownBlock ∧ some k_ ≠ (.slice Ao48 t332.length co48 : Value).ownBlock ∧ some k_ ≠ (.slice Ao51 t336.length co51 : Value).ownBlock) (Kd.R_keptB (HO_8.out) hkp (fun k_ hk_ hs_ => (hk_.1.1.2.1) hs_)) (fun k_ hk_ => ⟨hk_.1.1.1.1, hk_.1.1.1.2.1, hk_.1.1.1.2.2, hk_.1.1.2, hk_.1.2⟩)); have n2_ := Aside0.mk (Kd.R_reok rfl hy0 (fun k_ e_ => HO_9.out.1 k_ e_)); have n3_ := Aside0.mk (Kd.R_mono (ok' := fun k_ => some k_ ≠ (v319 : Value).ownBlock ∧ some k_ ≠ (.slice Ao26 t321.length co26 : Value).ownBlock ∧ some k_ ≠ (.slice Ao27 t324.length co27 : Value).ownBlock ∧ some k_ ≠ (.slice Ao48 t332.length co48 : Value).ownBlock ∧ some k_ ≠ (.slice Ao51 t336.length co51 : Value).ownBlock) (Kd.R_keptB (HO_10.out) hkp (fun k_ hk_ hs_ => (hk_.2.2.1) hs_)) (fun k_ hk_ => ⟨hk_.1.1, hk_.1.2.1, hk_.1.2.2.1, hk_.1.2.2.2.1, hk_.1.2.2.2.2⟩)); have n4_ := Aside0.mk (Kd.R_mono (ok' := fun k_ => some k_ ≠ (v319 : Value).ownBlock ∧ some k_ ≠ (.slice Ao26 t321.length co26 : Value).ownBlock ∧ some k_ ≠ (.slice Ao27 t324.length co27 : Value).ownBlock ∧ some k_ ≠ (v328 : Value).ownBlock ∧ some k_ ≠ (.slice Ao51 t336.length co51 : Value).ownBlock) (Kd.R_keptB (HO334.out) hkp (fun k_ hk_ hs_ => (hk_.2.2.1) hs_)) (fun k_ hk_ => ⟨hk_.1.1, hk_.1.2.1, hk_.1.2.2.1, hk_.1.2.2.2.1, hk_.1.2.2.2.2⟩)); have n5_ := Aside0.mk (Kd.R_mono (ok' := fun k_ => some k_ ≠ (v319 : Value).ownBlock ∧ some k_ ≠ (.slice Ao26 t321.length co26 : Value).ownBlock ∧ some k_ ≠ (.slice Ao27 t324.length co27 : Value).ownBlock ∧ some k_ ≠ (v328 : Value).ownBlock ∧ some k_ ≠ (.slice Ao48 t332.length co48 : Value).ownBlock) (Kd.R_keptB (HO338.out) hkp (fun k_ hk_ hs_ => (hk_.2.2.1) hs_)) (fun k_ hk_ => ⟨hk_.1.1, hk_.1.2.1, hk_.1.2.2.1, hk_.1.2.2.2.1, hk_.1.2.2.2.2⟩)); have n6_ := Aside0.mk (hb); clear HO_6; clear HO_8; clear HO_9; clear HO_10; clear HO334; clear HO338; clear HB; have HO_6 := n0_; have HO_8 := n1_; have HO_9 := n2_; have HO_10 := n3_; have HO334 := n4_; have HO338 := n5_; have HB := n6_; clear n0_ n1_ n2_ n3_ n4_ n5_ n6_; (try clear hb); (try clear hkp); (try clear hy0)))
        (try simp only [Act.put, List.setIfInBounds_toArray, List.set_cons_zero, List.set_cons_succ])
        go_cut [82] (fun v82 wc => ∃ (kq : Nat) (x82_45 : Bool), v82 = .bool x82_45 ∧ Aside0 (laws_FnExactMergeVersions.j1 kq l0 l1 t317 t318 t327 x82_45 = some r) ∧ Aside0 (kq ≤ kj15) ∧ Aside0 (Kd.R k42 42 wc w.heap.size (fun k_ => some k_ ≠ (v328 : Value).ownBlock) v319 t317) ∧ Aside0 (Kd.R k42 42 wc w.heap.size (fun k_ => some k_ ≠ (v319 : Value).ownBlock) v328 t327) ∧ Aside0 (Below w.heap.size w wc))
        case first =>
         have H := HC46.out
         clear HC46
         by_cases c55 : t342 < 0
         ·rw [if_pos c55] at H
          have c55b0 : decide (t342 < 0) = true := decide_eq_true c55
          clear c55
          (first | rw [c55b0] | (simp only [i64_w, i32_w]; rw [c55b0]) | skip)
          have H' := Aside0.mk H
          clear H
          go_wp2
          go_meet
          case rel => exact ⟨_, (true), sq_e, H', ⟨by have := HJ15.out; first | omega | exact Nat.le_refl _⟩, ⟨by (with_reducible repeat (first | apply Kd.R_alloc | apply Kd.R_drewN | apply Kd.R_drew)); exact Kd.R_mono HO_6.out (fun _ hk => hk.2.2.1)⟩, ⟨by (with_reducible repeat (first | apply Kd.R_alloc | apply Kd.R_drewN | apply Kd.R_drew)); exact Kd.R_mono HO_10.out (fun _ hk => hk.1)⟩, ⟨sq_b⟩⟩
         ·rw [if_neg c55] at H
          have c55b0 : decide (t342 < 0) = false := decide_eq_false c55
          clear c55
          (first | rw [c55b0] | (simp only [i64_w, i32_w]; rw [c55b0]) | skip)
          replace H := Option.bind_eq_some_iff.mp H
          obtain ⟨t344, A560, H⟩ := H
          replace H : (if t344 = true then (laws_FnExactMergeVersions.j1 kj15 l0 l1 t317 t318 t327 (t330 != t318)) else (laws_FnExactMergeVersions.j1 kj15 l0 l1 t317 t318 t327 true)) = some r := H
          have A56 := Aside0.mk A560
          clear A560
          by_cases c57 : t344 = true
          ·subst c57
           have H1 : (laws_FnExactMergeVersions.j1 kj15 l0 l1 t317 t318 t327 (t330 != t318)) = some r := by rw [if_pos rfl] at H; exact H
           clear H
           have H := H1
           clear H1
           have H' := Aside0.mk H
           clear H
           obtain ⟨Ao58, co58, eo58⟩ := Kd.R_slice HO_10.out
           subst eo58
           obtain ⟨Ao59, co59, eo59⟩ := Kd.R_slice HO_6.out
           subst eo59
           go_wp2_with (first | (go_at_call 13; (with_reducible refine (laws_eqVersionS.calls kj15 _ _ t327 _ _ t317 true _ ?side1 ?side2 ?side3 ?side4 A56.out).mono ?_); (case side1 => repeat (first | exact (Kd.R_reads' HO_10.out).2.2 | (with_reducible refine Kd.C_alloc ?_ _) | (with_reducible refine Kd.C_drewN ?_ _) | (with_reducible refine Kd.C_drew ?_))); (case side2 => exact (Kd.R_reads' HO_10.out).2.1); (case side3 => repeat (first | exact (Kd.R_reads' HO_6.out).2.2 | (with_reducible refine Kd.C_alloc ?_ _) | (with_reducible refine Kd.C_drewN ?_ _) | (with_reducible refine Kd.C_drew ?_))); (case side4 => exact (Kd.R_reads' HO_6.out).2.1); rintro e w60 ⟨rfl, hb⟩; have n0_ := Aside0.mk (Kd.R_below (sq_r HO_6) hb); have n1_ := Aside0.mk (Kd.R_below (sq_r HO_8) hb); have n2_ := Aside0.mk (Kd.R_below (sq_r HO_9) hb); have n3_ := Aside0.mk (Kd.R_below (sq_r HO_10) hb); have n4_ := Aside0.mk (Kd.R_below (sq_r HO334) hb); have n5_ := Aside0.mk (Kd.R_below (sq_r HO338) hb); have n6_ := Aside0.mk (below_step sq_b hb); clear HO_6; clear HO_8; clear HO_9; clear HO_10; clear HO334; clear HO338; clear HB; have HO_6 := n0_; have HO_8 := n1_; have HO_9 := n2_; have HO_10 := n3_; have HO334 := n4_; have HO338 := n5_; have HB := n6_; clear n0_ n1_ n2_ n3_ n4_ n5_ n6_; (try clear hb); (try clear hb2); (try clear hk); (try clear hi)))
           go_meet
           case rel => exact ⟨_, ((t330 != t318)), sq_e, H', ⟨by have := HJ15.out; first | omega | exact Nat.le_refl _⟩, ⟨by (with_reducible repeat (first | apply Kd.R_alloc | apply Kd.R_drewN | apply Kd.R_drew)); exact Kd.R_mono HO_6.out (fun _ hk => hk.2.2.1)⟩, ⟨by (with_reducible repeat (first | apply Kd.R_alloc | apply Kd.R_drewN | apply Kd.R_drew)); exact Kd.R_mono HO_10.out (fun _ hk => hk.1)⟩, ⟨sq_b⟩⟩
          ·replace c57 := Bool.eq_false_iff.mpr c57
           subst c57
           have H1 : (laws_FnExactMergeVersions.j1 kj15 l0 l1 t317 t318 t327 true) = some r := by rw [if_neg (show ¬ (false = true) by decide)] at H; exact H
           clear H
           have H := H1
           clear H1
           have H' := Aside0.mk H
           clear H
           obtain ⟨Ao61, co61, eo61⟩ := Kd.R_slice HO_10.out
           subst eo61
           obtain ⟨Ao62, co62, eo62⟩ := Kd.R_slice HO_6.out
           subst eo62
           go_wp2_with (first | (go_at_call 13; (with_reducible refine (laws_eqVersionS.calls kj15 _ _ t327 _ _ t317 false _ ?side1 ?side2 ?side3 ?side4 A56.out).mono ?_); (case side1 => repeat (first | exact (Kd.R_reads' HO_10.out).2.2 | (with_reducible refine Kd.C_alloc ?_ _) | (with_reducible refine Kd.C_drewN ?_ _) | (with_reducible refine Kd.C_drew ?_))); (case side2 => exact (Kd.R_reads' HO_10.out).2.1); (case side3 => repeat (first | exact (Kd.R_reads' HO_6.out).2.2 | (with_reducible refine Kd.C_alloc ?_ _) | (with_reducible refine Kd.C_drewN ?_ _) | (with_reducible refine Kd.C_drew ?_))); (case side4 => exact (Kd.R_reads' HO_6.out).2.1); rintro e w63 ⟨rfl, hb⟩; have n0_ := Aside0.mk (Kd.R_below (sq_r HO_6) hb); have n1_ := Aside0.mk (Kd.R_below (sq_r HO_8) hb); have n2_ := Aside0.mk (Kd.R_below (sq_r HO_9) hb); have n3_ := Aside0.mk (Kd.R_below (sq_r HO_10) hb); have n4_ := Aside0.mk (Kd.R_below (sq_r HO334) hb); have n5_ := Aside0.mk (Kd.R_below (sq_r HO338) hb); have n6_ := Aside0.mk (below_step sq_b hb); clear HO_6; clear HO_8; clear HO_9; clear HO_10; clear HO334; clear HO338; clear HB; have HO_6 := n0_; have HO_8 := n1_; have HO_9 := n2_; have HO_10 := n3_; have HO334 := n4_; have HO338 := n5_; have HB := n6_; clear n0_ n1_ n2_ n3_ n4_ n5_ n6_; (try clear hb); (try clear hb2); (try clear hk); (try clear hi)))
           go_meet
           case rel => exact ⟨_, (true), sq_e, H', ⟨by have := HJ15.out; first | omega | exact Nat.le_refl _⟩, ⟨by (with_reducible repeat (first | apply Kd.R_alloc | apply Kd.R_drewN | apply Kd.R_drew)); exact Kd.R_mono HO_6.out (fun _ hk => hk.2.2.1)⟩, ⟨by (with_reducible repeat (first | apply Kd.R_alloc | apply Kd.R_drewN | apply Kd.R_drew)); exact Kd.R_mono HO_10.out (fun _ hk => hk.1)⟩, ⟨sq_b⟩⟩
        case rest =>
         clear HC46
         (try clear c1); (try clear c2); (try clear p2); (try clear c3); (try clear c4); (try clear c4b0); (try clear c5); (try clear c7); (try clear c7b0); (try clear c8); (try clear c9); (try clear c11); (try clear c13); (try clear c14); (try clear c29); (try clear c30); (try clear c37); (try clear c40); (try clear c43); (try clear c55); (try clear c55b0); (try clear c57); (try clear p2)
         obtain ⟨kq, x82_45, rfl, HA, HJ45, HO_6, HO_10, HB⟩ := hcut
         cases kq with
         | zero => exact absurd HA.out (by simp [laws_FnExactMergeVersions.j1])
         | succ kj45 =>
          have H := HA.out
          clear HA
          simp only [laws_FnExactMergeVersions.j1] at H
          by_cases c64 : x82_45 = true
          ·subst c64
           have H1 : (some false) = some r := by rw [if_pos rfl] at H; exact H
           clear H
           have H := H1
           clear H1
           obtain rfl := Option.some.inj H
           go_wp2
           go_ret
           exact ⟨sq_w, sq_b⟩
          ·replace c64 := Bool.eq_false_iff.mpr c64
           subst c64
           have H1 : ((laws_markVersionS.f kj45 t327 1).bind fun bt345 => ((laws_heldVersionS.f kj45 bt345.2 1).bind fun t347 => (if t347 < 0 then (some false) else (if t347 = bt345.1 then ((laws_toVersionS.f kj45 l0).bind fun t348 => ((laws_toVersionS.f kj45 l1).bind fun t351 => ((impl_MergeVersions.f kj45 t348 t351).bind fun bt354 => ((laws_eqVersionS.f kj45 bt354.1 t317).bind fun t358 => (if t358 = true then (laws_FnExactMergeVersions.j2 kj45 bt345.2 bt345.1 (bt354.2 != t318)) else (laws_FnExactMergeVersions.j2 kj45 bt345.2 bt345.1 true)))))) else (some false))))) = some r := by rw [if_neg (show ¬ (false = true) by decide)] at H; exact H
           clear H
           have H := H1
           clear H1
           replace H := Option.bind_eq_some_iff.mp H
           obtain ⟨⟨t345, t346⟩, A650, H⟩ := H
           replace H : ((laws_heldVersionS.f kj45 t346 1).bind fun t347 => (if t347 < 0 then (some false) else (if t347 = t345 then ((laws_toVersionS.f kj45 l0).bind fun t348 => ((laws_toVersionS.f kj45 l1).bind fun t351 => ((impl_MergeVersions.f kj45 t348 t351).bind fun bt354 => ((laws_eqVersionS.f kj45 bt354.1 t317).bind fun t358 => (if t358 = true then (laws_FnExactMergeVersions.j2 kj45 t346 t345 (bt354.2 != t318)) else (laws_FnExactMergeVersions.j2 kj45 t346 t345 true)))))) else (some false)))) = some r := H
           have A65 := Aside0.mk A650
           clear A650
           replace H := Option.bind_eq_some_iff.mp H
           obtain ⟨t347, A660, H⟩ := H
           replace H : (if t347 < 0 then (some false) else (if t347 = t345 then ((laws_toVersionS.f kj45 l0).bind fun t348 => ((laws_toVersionS.f kj45 l1).bind fun t351 => ((impl_MergeVersions.f kj45 t348 t351).bind fun bt354 => ((laws_eqVersionS.f kj45 bt354.1 t317).bind fun t358 => (if t358 = true then (laws_FnExactMergeVersions.j2 kj45 t346 t345 (bt354.2 != t318)) else (laws_FnExactMergeVersions.j2 kj45 t346 t345 true)))))) else (some false))) = some r := H
           have A66 := Aside0.mk A660
           clear A660
           by_cases c67 : t347 < 0
           ·rw [if_pos c67] at H
            have c67b0 : decide (t347 < 0) = true := decide_eq_true c67
            clear c67
            obtain rfl := Option.some.inj H
            obtain ⟨Ao68, co68, eo68⟩ := Kd.R_slice HO_10.out
            subst eo68
            go_wp2_with (first | ((with_reducible refine gate_callee (f := 14) rfl ?_); refine goesL_ (some 85) rfl rfl Try.func14 (by kernel_rfl) rfl #[.slice Ao68 t327.length co68, .int .i64 1] rfl (by (try simp only [List.map_toArray, List.map_cons, List.map_nil]); first | done | rfl | (simp only [List.length_drop, List.length_take]; rfl)) ?_; (with_reducible refine (laws_markVersionS.calls kj45 (fun k_ => some k_ = (.slice Ao68 t327.length co68 : Value).ownBlock) (.slice Ao68 t327.length co68) t327 1 t345 t346 w _ ?side1 ?side2 A65.out).mono ?_); (case side1 => repeat (first | (with_reducible first | exact HB.out | apply below_alloc | apply pw_below_drewN | apply below_drew1) | exact HB.out)); (case side2 => exact Kd.R_tight rfl HO_10.out); rintro e w69 ⟨rfl, hy0, hb, hkp⟩; refine ⟨_, rfl, ?_⟩; have n0_ := Aside0.mk (Kd.R_mono (ok' := fun k_ => some k_ ≠ (.slice Ao68 t327.length co68 : Value).ownBlock) (Kd.R_keptB (HO_6.out) hkp (fun k_ hk_ hs_ => (hk_) hs_)) (fun k_ hk_ => hk_.1)); have n1_ := Aside0.mk (Kd.R_reok rfl hy0 (fun k_ e_ => HO_10.out.1 k_ e_)); have n2_ := Aside0.mk (hb); clear HO_6; clear HO_10; clear HB; have HO_6 := n0_; have HO_10 := n1_; have HB := n2_; clear n0_ n1_ n2_; (try clear hb); (try clear hkp); (try clear hy0)) | ((with_reducible refine gate_callee (f := 15) rfl ?_); refine goesL_ (some 88) rfl rfl Try.func15 (by kernel_rfl) rfl #[.slice Ao68 t346.length co68, .int .i64 1] rfl (by (try simp only [List.map_toArray, List.map_cons, List.map_nil]); first | done | (rw [show t346.length = t327.length from (Kd.R_reads' HO_10.out).1.symm] <;> rfl) | rfl | (simp only [List.length_drop, List.length_take]; rfl)) ?_; (with_reducible refine (laws_heldVersionS.calls kj45 _ _ t346 1 t347 _ ?side1 ?side2 A66.out).mono ?_); (case side1 => repeat (first | exact (Kd.R_reads' HO_10.out).2.2 | (with_reducible refine Kd.C_alloc ?_ _) | (with_reducible refine Kd.C_drewN ?_ _) | (with_reducible refine Kd.C_drew ?_))); (case side2 => rw [show t346.length = t327.length from (Kd.R_reads' HO_10.out).1.symm]; exact (Kd.R_reads' HO_10.out).2.1); rintro e w70 ⟨rfl, hb⟩; refine ⟨_, rfl, ?_⟩; have n0_ := Aside0.mk (Kd.R_below (sq_r HO_6) hb); have n1_ := Aside0.mk (Kd.R_below (sq_r HO_10) hb); have n2_ := Aside0.mk (below_step sq_b hb); clear HO_6; clear HO_10; clear HB; have HO_6 := n0_; have HO_10 := n1_; have HB := n2_; clear n0_ n1_ n2_; (try clear hb); (try clear hb2); (try clear hk); (try clear hi)))
            go_ret
            exact ⟨sq_w, sq_b⟩
           ·rw [if_neg c67] at H
            have c67b0 : decide (t347 < 0) = false := decide_eq_false c67
            clear c67
            by_cases c71 : t347 = t345
            ·rw [if_pos c71] at H
             have c71b0 : (t347 == t345) = true := beq_iff_eq.mpr c71
             have c71b1 : (t347 != t345) = false := bne_eq_false_iff_eq.mpr c71
             clear c71
             replace H := Option.bind_eq_some_iff.mp H
             obtain ⟨t348, A720, H⟩ := H
             replace H : ((laws_toVersionS.f kj45 l1).bind fun t351 => ((impl_MergeVersions.f kj45 t348 t351).bind fun bt354 => ((laws_eqVersionS.f kj45 bt354.1 t317).bind fun t358 => (if t358 = true then (laws_FnExactMergeVersions.j2 kj45 t346 t345 (bt354.2 != t318)) else (laws_FnExactMergeVersions.j2 kj45 t346 t345 true))))) = some r := H
             have A72 := Aside0.mk A720
             clear A720
             replace H := Option.bind_eq_some_iff.mp H
             obtain ⟨t351, A730, H⟩ := H
             replace H : ((impl_MergeVersions.f kj45 t348 t351).bind fun bt354 => ((laws_eqVersionS.f kj45 bt354.1 t317).bind fun t358 => (if t358 = true then (laws_FnExactMergeVersions.j2 kj45 t346 t345 (bt354.2 != t318)) else (laws_FnExactMergeVersions.j2 kj45 t346 t345 true)))) = some r := H
             have A73 := Aside0.mk A730
             clear A730
             replace H := Option.bind_eq_some_iff.mp H
             obtain ⟨⟨t354, t357⟩, A740, H⟩ := H
             replace H : ((laws_eqVersionS.f kj45 t354 t317).bind fun t358 => (if t358 = true then (laws_FnExactMergeVersions.j2 kj45 t346 t345 (t357 != t318)) else (laws_FnExactMergeVersions.j2 kj45 t346 t345 true))) = some r := H
             have A74 := Aside0.mk A740
             clear A740
             have HC75 := Aside0.mk H
             clear H
             obtain ⟨Ao76, co76, eo76⟩ := Kd.R_slice HO_10.out
             subst eo76
             go_upto_region 32 with (first | ((with_reducible refine gate_callee (f := 14) rfl ?_); refine goesL_ (some 85) rfl rfl Try.func14 (by kernel_rfl) rfl #[.slice Ao76 t327.length co76, .int .i64 1] rfl (by (try simp only [List.map_toArray, List.map_cons, List.map_nil]); first | done | rfl | (simp only [List.length_drop, List.length_take]; rfl)) ?_; (with_reducible refine (laws_markVersionS.calls kj45 (fun k_ => some k_ = (.slice Ao76 t327.length co76 : Value).ownBlock) (.slice Ao76 t327.length co76) t327 1 t345 t346 w _ ?side1 ?side2 A65.out).mono ?_); (case side1 => repeat (first | (with_reducible first | exact HB.out | apply below_alloc | apply pw_below_drewN | apply below_drew1) | exact HB.out)); (case side2 => exact Kd.R_tight rfl HO_10.out); rintro e w77 ⟨rfl, hy0, hb, hkp⟩; refine ⟨_, rfl, ?_⟩; have n0_ := Aside0.mk (Kd.R_mono (ok' := fun k_ => some k_ ≠ (.slice Ao76 t327.length co76 : Value).ownBlock) (Kd.R_keptB (HO_6.out) hkp (fun k_ hk_ hs_ => (hk_) hs_)) (fun k_ hk_ => hk_.1)); have n1_ := Aside0.mk (Kd.R_reok rfl hy0 (fun k_ e_ => HO_10.out.1 k_ e_)); have n2_ := Aside0.mk (hb); clear HO_6; clear HO_10; clear HB; have HO_6 := n0_; have HO_10 := n1_; have HB := n2_; clear n0_ n1_ n2_; (try clear hb); (try clear hkp); (try clear hy0)) | ((with_reducible refine gate_callee (f := 15) rfl ?_); refine goesL_ (some 88) rfl rfl Try.func15 (by kernel_rfl) rfl #[.slice Ao76 t346.length co76, .int .i64 1] rfl (by (try simp only [List.map_toArray, List.map_cons, List.map_nil]); first | done | (rw [show t346.length = t327.length from (Kd.R_reads' HO_10.out).1.symm] <;> rfl) | rfl | (simp only [List.length_drop, List.length_take]; rfl)) ?_; (with_reducible refine (laws_heldVersionS.calls kj45 _ _ t346 1 t347 _ ?side1 ?side2 A66.out).mono ?_); (case side1 => repeat (first | exact (Kd.R_reads' HO_10.out).2.2 | (with_reducible refine Kd.C_alloc ?_ _) | (with_reducible refine Kd.C_drewN ?_ _) | (with_reducible refine Kd.C_drew ?_))); (case side2 => rw [show t346.length = t327.length from (Kd.R_reads' HO_10.out).1.symm]; exact (Kd.R_reads' HO_10.out).2.1); rintro e w78 ⟨rfl, hb⟩; refine ⟨_, rfl, ?_⟩; have n0_ := Aside0.mk (Kd.R_below (sq_r HO_6) hb); have n1_ := Aside0.mk (Kd.R_below (sq_r HO_10) hb); have n2_ := Aside0.mk (below_step sq_b hb); clear HO_6; clear HO_10; clear HB; have HO_6 := n0_; have HO_10 := n1_; have HB := n2_; clear n0_ n1_ n2_; (try clear hb); (try clear hb2); (try clear hk); (try clear hi)) | ((with_reducible refine gate_callee (f := 11) rfl ?_); refine goesL_ (some 96) rfl rfl Try.func11 (by kernel_rfl) rfl #[.slice A0 l0.length c0] rfl (by (try simp only [List.map_toArray, List.map_cons, List.map_nil]); first | done | rfl | (simp only [List.length_drop, List.length_take]; rfl)) ?_; (with_reducible refine (laws_toVersionS.calls kj45 _ _ l0 t348 _ ?side1 ?side2 A72.out).mono ?_); (case side1 => repeat (first | exact (Kd.C_below HR0.out HB.out) | (with_reducible refine Kd.C_alloc ?_ _) | (with_reducible refine Kd.C_drewN ?_ _) | (with_reducible refine Kd.C_drew ?_))); (case side2 => exact HC0.out); rintro e w79 ⟨v349, rfl, ho0, hb⟩; refine ⟨_, rfl, ?_⟩; have n0_ := Aside0.mk (Kd.R_elder' (sq_r HO_6) (Kd.R_base ho0) hb); have n1_ := Aside0.mk (Kd.R_elder' (sq_r HO_10) (Kd.R_base ho0) hb); have n2_ := Aside0.mk (Kd.R_lower (Kd.R_new' (Kd.R_new' ho0 (Kd.R_lt (sq_r HO_6))) (Kd.R_lt (sq_r HO_10))) (below_size sq_b)); have n3_ := Aside0.mk (below_step sq_b hb); clear HO_6; clear HO_10; clear HB; have HO_6 := n0_; have HO_10 := n1_; have HO350 := n2_; have HB := n3_; clear n0_ n1_ n2_ n3_; (try clear hb); (try clear hb2); (try clear hk); (try clear hi); (try clear ho0)) | ((with_reducible refine gate_callee (f := 11) rfl ?_); refine goesL_ (some 98) rfl rfl Try.func11 (by kernel_rfl) rfl #[.slice A1 l1.length c1] rfl (by (try simp only [List.map_toArray, List.map_cons, List.map_nil]); first | done | rfl | (simp only [List.length_drop, List.length_take]; rfl)) ?_; (with_reducible refine (laws_toVersionS.calls kj45 _ _ l1 t351 _ ?side1 ?side2 A73.out).mono ?_); (case side1 => repeat (first | exact (Kd.C_below HR1.out HB.out) | (with_reducible refine Kd.C_alloc ?_ _) | (with_reducible refine Kd.C_drewN ?_ _) | (with_reducible refine Kd.C_drew ?_))); (case side2 => exact HC1.out); rintro e w80 ⟨v352, rfl, ho0, hb⟩; refine ⟨_, rfl, ?_⟩; have n0_ := Aside0.mk (Kd.R_elder' (sq_r HO_6) (Kd.R_base ho0) hb); have n1_ := Aside0.mk (Kd.R_elder' (sq_r HO_10) (Kd.R_base ho0) hb); have n2_ := Aside0.mk (Kd.R_elder' (sq_r HO350) (Kd.R_base ho0) hb); have n3_ := Aside0.mk (Kd.R_lower (Kd.R_new' (Kd.R_new' (Kd.R_new' ho0 (Kd.R_lt (sq_r HO_6))) (Kd.R_lt (sq_r HO_10))) (Kd.R_lt (sq_r HO350))) (below_size sq_b)); have n4_ := Aside0.mk (below_step sq_b hb); clear HO_6; clear HO_10; clear HO350; clear HB; have HO_6 := n0_; have HO_10 := n1_; have HO350 := n2_; have HO353 := n3_; have HB := n4_; clear n0_ n1_ n2_ n3_ n4_; (try clear hb); (try clear hb2); (try clear hk); (try clear hi); (try clear ho0); obtain ⟨Ao81, co81, eo81⟩ := Kd.R_slice HO350.out; subst eo81; obtain ⟨Ao82, co82, eo82⟩ := Kd.R_slice HO353.out; subst eo82) | ((with_reducible refine gate_callee (f := 30) rfl ?_); refine goesL_ (some 99) rfl rfl Try.func30 (by kernel_rfl) rfl #[.slice Ao81 t348.length co81, .slice Ao82 t351.length co82] rfl (by (try simp only [List.map_toArray, List.map_cons, List.map_nil]); first | done | rfl | (simp only [List.length_drop, List.length_take]; rfl)) ?_; (with_reducible refine (impl_MergeVersions.calls kj45 (fun k_ => some k_ = (.slice Ao81 t348.length co81 : Value).ownBlock) _ _ t348 (fun k_ => some k_ = (.slice Ao82 t351.length co82 : Value).ownBlock) _ _ t351 t354 t357 _ ?side1 ?side2 A74.out).mono ?_); (case side1 => exact Kd.R_V (Kd.R_tight rfl (HO350.out))); (case side2 => exact Kd.R_V (Kd.R_tight rfl (HO353.out))); rintro e w83 ⟨v355, rfl, ho0, hb⟩; refine ⟨_, rfl, ?_⟩; have n0_ := Aside0.mk (Kd.R_elder' (sq_r HO_6) (Kd.R_base ho0) hb); have n1_ := Aside0.mk (Kd.R_elder' (sq_r HO_10) (Kd.R_base ho0) hb); have n2_ := Aside0.mk (Kd.R_elder' (sq_r HO350) (Kd.R_base ho0) hb); have n3_ := Aside0.mk (Kd.R_elder' (sq_r HO353) (Kd.R_base ho0) hb); have n4_ := Aside0.mk (Kd.R_lower (Kd.R_new' (Kd.R_new' (Kd.R_new' (Kd.R_new' (Kd.R_mono (ok' := fun k_ => True) ho0 (fun _ hk_ => trivial)) (Kd.R_lt (sq_r HO_6))) (Kd.R_lt (sq_r HO_10))) (Kd.R_lt (sq_r HO350))) (Kd.R_lt (sq_r HO353))) (below_size sq_b)); have n5_ := Aside0.mk (below_step sq_b hb); clear HO_6; clear HO_10; clear HO350; clear HO353; clear HB; have HO_6 := n0_; have HO_10 := n1_; have HO350 := n2_; have HO353 := n3_; have HO356 := n4_; have HB := n5_; clear n0_ n1_ n2_ n3_ n4_ n5_; (try clear hb); (try clear hb2); (try clear hk); (try clear hi); (try clear ho0)))
             (try simp only [Act.put, List.setIfInBounds_toArray, List.set_cons_zero, List.set_cons_succ])
             go_cut [110] (fun v110 wc => ∃ (kq : Nat) (x110_74 : Bool), v110 = .bool x110_74 ∧ Aside0 (laws_FnExactMergeVersions.j2 kq t346 t345 x110_74 = some r) ∧ Aside0 (kq ≤ kj45) ∧ Aside0 (Kd.R k42 42 wc w.heap.size (fun _ => True) (.slice Ao76 t327.length co76) t346) ∧ Aside0 (Below w.heap.size w wc))
             case first =>
              have H := HC75.out
              clear HC75
              replace H := Option.bind_eq_some_iff.mp H
              obtain ⟨t358, A840, H⟩ := H
              replace H : (if t358 = true then (laws_FnExactMergeVersions.j2 kj45 t346 t345 (t357 != t318)) else (laws_FnExactMergeVersions.j2 kj45 t346 t345 true)) = some r := H
              have A84 := Aside0.mk A840
              clear A840
              by_cases c85 : t358 = true
              ·subst c85
               have H1 : (laws_FnExactMergeVersions.j2 kj45 t346 t345 (t357 != t318)) = some r := by rw [if_pos rfl] at H; exact H
               clear H
               have H := H1
               clear H1
               have H' := Aside0.mk H
               clear H
               obtain ⟨Ao86, co86, eo86⟩ := Kd.R_slice HO356.out
               subst eo86
               obtain ⟨Ao87, co87, eo87⟩ := Kd.R_slice HO_6.out
               subst eo87
               go_wp2_with (first | ((with_reducible refine gate_callee (f := 13) rfl ?_); refine goesL_ (some 104) rfl rfl Try.func13 (by kernel_rfl) rfl #[.slice Ao86 t354.length co86, .slice Ao87 t317.length co87] rfl (by (try simp only [List.map_toArray, List.map_cons, List.map_nil]); first | done | rfl | (simp only [List.length_drop, List.length_take]; rfl)) ?_; (with_reducible refine (laws_eqVersionS.calls kj45 _ _ t354 _ _ t317 true _ ?side1 ?side2 ?side3 ?side4 A84.out).mono ?_); (case side1 => repeat (first | exact (Kd.R_reads' HO356.out).2.2 | (with_reducible refine Kd.C_alloc ?_ _) | (with_reducible refine Kd.C_drewN ?_ _) | (with_reducible refine Kd.C_drew ?_))); (case side2 => exact (Kd.R_reads' HO356.out).2.1); (case side3 => repeat (first | exact (Kd.R_reads' HO_6.out).2.2 | (with_reducible refine Kd.C_alloc ?_ _) | (with_reducible refine Kd.C_drewN ?_ _) | (with_reducible refine Kd.C_drew ?_))); (case side4 => exact (Kd.R_reads' HO_6.out).2.1); rintro e w88 ⟨rfl, hb⟩; refine ⟨_, rfl, ?_⟩; have n0_ := Aside0.mk (Kd.R_below (sq_r HO_6) hb); have n1_ := Aside0.mk (Kd.R_below (sq_r HO_10) hb); have n2_ := Aside0.mk (Kd.R_below (sq_r HO350) hb); have n3_ := Aside0.mk (Kd.R_below (sq_r HO353) hb); have n4_ := Aside0.mk (Kd.R_below (sq_r HO356) hb); have n5_ := Aside0.mk (below_step sq_b hb); clear HO_6; clear HO_10; clear HO350; clear HO353; clear HO356; clear HB; have HO_6 := n0_; have HO_10 := n1_; have HO350 := n2_; have HO353 := n3_; have HO356 := n4_; have HB := n5_; clear n0_ n1_ n2_ n3_ n4_ n5_; (try clear hb); (try clear hb2); (try clear hk); (try clear hi)))
               go_meet
               case rel => exact ⟨_, ((t357 != t318)), sq_e, H', ⟨by have := HJ15.out; have := HJ45.out; first | omega | exact Nat.le_refl _⟩, ⟨by (with_reducible repeat (first | apply Kd.R_alloc | apply Kd.R_drewN | apply Kd.R_drew)); exact Kd.R_mono HO_10.out (fun _ hk => trivial)⟩, ⟨sq_b⟩⟩
              ·replace c85 := Bool.eq_false_iff.mpr c85
               subst c85
               have H1 : (laws_FnExactMergeVersions.j2 kj45 t346 t345 true) = some r := by rw [if_neg (show ¬ (false = true) by decide)] at H; exact H
               clear H
               have H := H1
               clear H1
               have H' := Aside0.mk H
               clear H
               obtain ⟨Ao89, co89, eo89⟩ := Kd.R_slice HO356.out
               subst eo89
               obtain ⟨Ao90, co90, eo90⟩ := Kd.R_slice HO_6.out
               subst eo90
               go_wp2_with (first | ((with_reducible refine gate_callee (f := 13) rfl ?_); refine goesL_ (some 104) rfl rfl Try.func13 (by kernel_rfl) rfl #[.slice Ao89 t354.length co89, .slice Ao90 t317.length co90] rfl (by (try simp only [List.map_toArray, List.map_cons, List.map_nil]); first | done | rfl | (simp only [List.length_drop, List.length_take]; rfl)) ?_; (with_reducible refine (laws_eqVersionS.calls kj45 _ _ t354 _ _ t317 false _ ?side1 ?side2 ?side3 ?side4 A84.out).mono ?_); (case side1 => repeat (first | exact (Kd.R_reads' HO356.out).2.2 | (with_reducible refine Kd.C_alloc ?_ _) | (with_reducible refine Kd.C_drewN ?_ _) | (with_reducible refine Kd.C_drew ?_))); (case side2 => exact (Kd.R_reads' HO356.out).2.1); (case side3 => repeat (first | exact (Kd.R_reads' HO_6.out).2.2 | (with_reducible refine Kd.C_alloc ?_ _) | (with_reducible refine Kd.C_drewN ?_ _) | (with_reducible refine Kd.C_drew ?_))); (case side4 => exact (Kd.R_reads' HO_6.out).2.1); rintro e w91 ⟨rfl, hb⟩; refine ⟨_, rfl, ?_⟩; have n0_ := Aside0.mk (Kd.R_below (sq_r HO_6) hb); have n1_ := Aside0.mk (Kd.R_below (sq_r HO_10) hb); have n2_ := Aside0.mk (Kd.R_below (sq_r HO350) hb); have n3_ := Aside0.mk (Kd.R_below (sq_r HO353) hb); have n4_ := Aside0.mk (Kd.R_below (sq_r HO356) hb); have n5_ := Aside0.mk (below_step sq_b hb); clear HO_6; clear HO_10; clear HO350; clear HO353; clear HO356; clear HB; have HO_6 := n0_; have HO_10 := n1_; have HO350 := n2_; have HO353 := n3_; have HO356 := n4_; have HB := n5_; clear n0_ n1_ n2_ n3_ n4_ n5_; (try clear hb); (try clear hb2); (try clear hk); (try clear hi)))
               go_meet
               case rel => exact ⟨_, (true), sq_e, H', ⟨by have := HJ15.out; have := HJ45.out; first | omega | exact Nat.le_refl _⟩, ⟨by (with_reducible repeat (first | apply Kd.R_alloc | apply Kd.R_drewN | apply Kd.R_drew)); exact Kd.R_mono HO_10.out (fun _ hk => trivial)⟩, ⟨sq_b⟩⟩
             case rest =>
              clear HC75
              (try clear c1); (try clear c2); (try clear p2); (try clear c3); (try clear c4); (try clear c4b0); (try clear c5); (try clear c6); (try clear c7); (try clear c7b0); (try clear c8); (try clear c9); (try clear c11); (try clear c13); (try clear c14); (try clear c15); (try clear c29); (try clear c30); (try clear c37); (try clear c40); (try clear c43); (try clear c55); (try clear c55b0); (try clear c57)
              (try clear c64); (try clear c67); (try clear c67b0); (try clear c71); (try clear c71b0); (try clear c71b1); (try clear c85); (try clear p2)
              obtain ⟨kq, x110_74, rfl, HA, HJ74, HO_10, HB⟩ := hcut
              have hl10_74 := (Kd.R_reads' HO_10.out).1
              rw [hl10_74] at HO_10
              (try simp only [hl10_74])
              cases kq with
              | zero => exact absurd HA.out (by simp [laws_FnExactMergeVersions.j2])
              | succ kj74 =>
               have H := HA.out
               clear HA
               simp only [laws_FnExactMergeVersions.j2] at H
               by_cases c92 : x110_74 = true
               ·subst c92
                have H1 : (some false) = some r := by rw [if_pos rfl] at H; exact H
                clear H
                have H := H1
                clear H1
                obtain rfl := Option.some.inj H
                go_wp2
                go_ret
                exact ⟨sq_w, sq_b⟩
               ·replace c92 := Bool.eq_false_iff.mpr c92
                subst c92
                have H1 : ((laws_heldVersionS.f kj74 t346 1).bind fun t359 => (if t359 < 0 then (some false) else (if t359 = t345 then (some true) else (some false)))) = some r := by rw [if_neg (show ¬ (false = true) by decide)] at H; exact H
                clear H
                have H := H1
                clear H1
                replace H := Option.bind_eq_some_iff.mp H
                obtain ⟨t359, A930, H⟩ := H
                replace H : (if t359 < 0 then (some false) else (if t359 = t345 then (some true) else (some false))) = some r := H
                have A93 := Aside0.mk A930
                clear A930
                by_cases c94 : t359 < 0
                ·rw [if_pos c94] at H
                 have c94b0 : decide (t359 < 0) = true := decide_eq_true c94
                 clear c94
                 obtain rfl := Option.some.inj H
                 go_wp2_with (first | ((with_reducible refine gate_callee (f := 15) rfl ?_); refine goesL_ (some 113) rfl rfl Try.func15 (by kernel_rfl) rfl #[.slice Ao76 t346.length co76, .int .i64 1] rfl (by (try simp only [List.map_toArray, List.map_cons, List.map_nil]); first | done | rfl | (simp only [List.length_drop, List.length_take]; rfl)) ?_; (with_reducible refine (laws_heldVersionS.calls kj74 _ _ t346 1 t359 _ ?side1 ?side2 A93.out).mono ?_); (case side1 => repeat (first | exact (Kd.R_reads' HO_10.out).2.2 | (with_reducible refine Kd.C_alloc ?_ _) | (with_reducible refine Kd.C_drewN ?_ _) | (with_reducible refine Kd.C_drew ?_))); (case side2 => exact (Kd.R_reads' HO_10.out).2.1); rintro e w95 ⟨rfl, hb⟩; refine ⟨_, rfl, ?_⟩; have n0_ := Aside0.mk (Kd.R_below (sq_r HO_10) hb); have n1_ := Aside0.mk (below_step sq_b hb); clear HO_10; clear HB; have HO_10 := n0_; have HB := n1_; clear n0_ n1_; (try clear hb); (try clear hb2); (try clear hk); (try clear hi)))
                 go_ret
                 exact ⟨sq_w, sq_b⟩
                ·rw [if_neg c94] at H
                 have c94b0 : decide (t359 < 0) = false := decide_eq_false c94
                 clear c94
                 by_cases c96 : t359 = t345
                 ·rw [if_pos c96] at H
                  have c96b0 : (t359 == t345) = true := beq_iff_eq.mpr c96
                  have c96b1 : (t359 != t345) = false := bne_eq_false_iff_eq.mpr c96
                  clear c96
                  obtain rfl := Option.some.inj H
                  go_wp2_with (first | ((with_reducible refine gate_callee (f := 15) rfl ?_); refine goesL_ (some 113) rfl rfl Try.func15 (by kernel_rfl) rfl #[.slice Ao76 t346.length co76, .int .i64 1] rfl (by (try simp only [List.map_toArray, List.map_cons, List.map_nil]); first | done | rfl | (simp only [List.length_drop, List.length_take]; rfl)) ?_; (with_reducible refine (laws_heldVersionS.calls kj74 _ _ t346 1 t359 _ ?side1 ?side2 A93.out).mono ?_); (case side1 => repeat (first | exact (Kd.R_reads' HO_10.out).2.2 | (with_reducible refine Kd.C_alloc ?_ _) | (with_reducible refine Kd.C_drewN ?_ _) | (with_reducible refine Kd.C_drew ?_))); (case side2 => exact (Kd.R_reads' HO_10.out).2.1); rintro e w97 ⟨rfl, hb⟩; refine ⟨_, rfl, ?_⟩; have n0_ := Aside0.mk (Kd.R_below (sq_r HO_10) hb); have n1_ := Aside0.mk (below_step sq_b hb); clear HO_10; clear HB; have HO_10 := n0_; have HB := n1_; clear n0_ n1_; (try clear hb); (try clear hb2); (try clear hk); (try clear hi)))
                  go_ret
                  exact ⟨sq_w, sq_b⟩
                 ·rw [if_neg c96] at H
                  have c96b0 : (t359 == t345) = false := beq_eq_false_iff_ne.mpr c96
                  have c96b1 : (t359 != t345) = true := bne_iff_ne.mpr c96
                  obtain rfl := Option.some.inj H
                  go_wp2_with (first | ((with_reducible refine gate_callee (f := 15) rfl ?_); refine goesL_ (some 113) rfl rfl Try.func15 (by kernel_rfl) rfl #[.slice Ao76 t346.length co76, .int .i64 1] rfl (by (try simp only [List.map_toArray, List.map_cons, List.map_nil]); first | done | rfl | (simp only [List.length_drop, List.length_take]; rfl)) ?_; (with_reducible refine (laws_heldVersionS.calls kj74 _ _ t346 1 t359 _ ?side1 ?side2 A93.out).mono ?_); (case side1 => repeat (first | exact (Kd.R_reads' HO_10.out).2.2 | (with_reducible refine Kd.C_alloc ?_ _) | (with_reducible refine Kd.C_drewN ?_ _) | (with_reducible refine Kd.C_drew ?_))); (case side2 => exact (Kd.R_reads' HO_10.out).2.1); rintro e w98 ⟨rfl, hb⟩; refine ⟨_, rfl, ?_⟩; have n0_ := Aside0.mk (Kd.R_below (sq_r HO_10) hb); have n1_ := Aside0.mk (below_step sq_b hb); clear HO_10; clear HB; have HO_10 := n0_; have HB := n1_; clear n0_ n1_; (try clear hb); (try clear hb2); (try clear hk); (try clear hi)))
                  go_ret
                  exact ⟨sq_w, sq_b⟩
            ·rw [if_neg c71] at H
             have c71b0 : (t347 == t345) = false := beq_eq_false_iff_ne.mpr c71
             have c71b1 : (t347 != t345) = true := bne_iff_ne.mpr c71
             obtain rfl := Option.some.inj H
             obtain ⟨Ao99, co99, eo99⟩ := Kd.R_slice HO_10.out
             subst eo99
             go_wp2_with (first | ((with_reducible refine gate_callee (f := 14) rfl ?_); refine goesL_ (some 85) rfl rfl Try.func14 (by kernel_rfl) rfl #[.slice Ao99 t327.length co99, .int .i64 1] rfl (by (try simp only [List.map_toArray, List.map_cons, List.map_nil]); first | done | rfl | (simp only [List.length_drop, List.length_take]; rfl)) ?_; (with_reducible refine (laws_markVersionS.calls kj45 (fun k_ => some k_ = (.slice Ao99 t327.length co99 : Value).ownBlock) (.slice Ao99 t327.length co99) t327 1 t345 t346 w _ ?side1 ?side2 A65.out).mono ?_); (case side1 => repeat (first | (with_reducible first | exact HB.out | apply below_alloc | apply pw_below_drewN | apply below_drew1) | exact HB.out)); (case side2 => exact Kd.R_tight rfl HO_10.out); rintro e w100 ⟨rfl, hy0, hb, hkp⟩; refine ⟨_, rfl, ?_⟩; have n0_ := Aside0.mk (Kd.R_mono (ok' := fun k_ => some k_ ≠ (.slice Ao99 t327.length co99 : Value).ownBlock) (Kd.R_keptB (HO_6.out) hkp (fun k_ hk_ hs_ => (hk_) hs_)) (fun k_ hk_ => hk_.1)); have n1_ := Aside0.mk (Kd.R_reok rfl hy0 (fun k_ e_ => HO_10.out.1 k_ e_)); have n2_ := Aside0.mk (hb); clear HO_6; clear HO_10; clear HB; have HO_6 := n0_; have HO_10 := n1_; have HB := n2_; clear n0_ n1_ n2_; (try clear hb); (try clear hkp); (try clear hy0)) | ((with_reducible refine gate_callee (f := 15) rfl ?_); refine goesL_ (some 88) rfl rfl Try.func15 (by kernel_rfl) rfl #[.slice Ao99 t346.length co99, .int .i64 1] rfl (by (try simp only [List.map_toArray, List.map_cons, List.map_nil]); first | done | (rw [show t346.length = t327.length from (Kd.R_reads' HO_10.out).1.symm] <;> rfl) | rfl | (simp only [List.length_drop, List.length_take]; rfl)) ?_; (with_reducible refine (laws_heldVersionS.calls kj45 _ _ t346 1 t347 _ ?side1 ?side2 A66.out).mono ?_); (case side1 => repeat (first | exact (Kd.R_reads' HO_10.out).2.2 | (with_reducible refine Kd.C_alloc ?_ _) | (with_reducible refine Kd.C_drewN ?_ _) | (with_reducible refine Kd.C_drew ?_))); (case side2 => rw [show t346.length = t327.length from (Kd.R_reads' HO_10.out).1.symm]; exact (Kd.R_reads' HO_10.out).2.1); rintro e w101 ⟨rfl, hb⟩; refine ⟨_, rfl, ?_⟩; have n0_ := Aside0.mk (Kd.R_below (sq_r HO_6) hb); have n1_ := Aside0.mk (Kd.R_below (sq_r HO_10) hb); have n2_ := Aside0.mk (below_step sq_b hb); clear HO_6; clear HO_10; clear HB; have HO_6 := n0_; have HO_10 := n1_; have HB := n2_; clear n0_ n1_ n2_; (try clear hb); (try clear hb2); (try clear hk); (try clear hi)))
             go_ret
             exact ⟨sq_w, sq_b⟩
       ·replace c43 := Bool.eq_false_iff.mpr c43
        subst c43
        have H1 : (some false) = some r := by rw [if_neg (show ¬ (false = true) by decide)] at H; exact H
        clear H
        have H := H1
        clear H1
        obtain rfl := Option.some.inj H
        go_wp2_with (first | ((with_reducible refine gate_callee (f := 11) rfl ?_); refine goesL_ (some 56) rfl rfl Try.func11 (by kernel_rfl) rfl #[.slice A0 l0.length c0] rfl (by (try simp only [List.map_toArray, List.map_cons, List.map_nil]); first | done | rfl | (simp only [List.length_drop, List.length_take]; rfl)) ?_; (with_reducible refine (laws_toVersionS.calls kj15 _ _ l0 t332 _ ?side1 ?side2 A38.out).mono ?_); (case side1 => repeat (first | exact (Kd.C_below HR0.out HB.out) | (with_reducible refine Kd.C_alloc ?_ _) | (with_reducible refine Kd.C_drewN ?_ _) | (with_reducible refine Kd.C_drew ?_))); (case side2 => exact HC0.out); rintro e w102 ⟨v333, rfl, ho0, hb⟩; refine ⟨_, rfl, ?_⟩; have n0_ := Aside0.mk (Kd.R_elder' (sq_r HO_6) (Kd.R_base ho0) hb); have n1_ := Aside0.mk (Kd.R_elder' (sq_r HO_8) (Kd.R_base ho0) hb); have n2_ := Aside0.mk (Kd.R_elder' (sq_r HO_9) (Kd.R_base ho0) hb); have n3_ := Aside0.mk (Kd.R_elder' (sq_r HO_10) (Kd.R_base ho0) hb); have n4_ := Aside0.mk (Kd.R_lower (Kd.R_new' (Kd.R_new' (Kd.R_new' (Kd.R_new' ho0 (Kd.R_lt (sq_r HO_6))) (Kd.R_lt (sq_r HO_8))) (Kd.R_lt (sq_r HO_9))) (Kd.R_lt (sq_r HO_10))) (below_size sq_b)); have n5_ := Aside0.mk (below_step sq_b hb); clear HO_6; clear HO_8; clear HO_9; clear HO_10; clear HB; have HO_6 := n0_; have HO_8 := n1_; have HO_9 := n2_; have HO_10 := n3_; have HO334 := n4_; have HB := n5_; clear n0_ n1_ n2_ n3_ n4_ n5_; (try clear hb); (try clear hb2); (try clear hk); (try clear hi); (try clear ho0); obtain ⟨Ao103, co103, eo103⟩ := Kd.R_slice HO334.out; subst eo103) | ((with_reducible refine gate_callee (f := 13) rfl ?_); refine goesL_ (some 57) rfl rfl Try.func13 (by kernel_rfl) rfl #[.slice Ao26 t321.length co26, .slice Ao103 t332.length co103] rfl (by (try simp only [List.map_toArray, List.map_cons, List.map_nil]); first | done | rfl | (simp only [List.length_drop, List.length_take]; rfl)) ?_; (with_reducible refine (laws_eqVersionS.calls kj15 _ _ t321 _ _ t332 true _ ?side1 ?side2 ?side3 ?side4 A39.out).mono ?_); (case side1 => repeat (first | exact (Kd.R_reads' HO_8.out).2.2 | (with_reducible refine Kd.C_alloc ?_ _) | (with_reducible refine Kd.C_drewN ?_ _) | (with_reducible refine Kd.C_drew ?_))); (case side2 => exact (Kd.R_reads' HO_8.out).2.1); (case side3 => repeat (first | exact (Kd.R_reads' HO334.out).2.2 | (with_reducible refine Kd.C_alloc ?_ _) | (with_reducible refine Kd.C_drewN ?_ _) | (with_reducible refine Kd.C_drew ?_))); (case side4 => exact (Kd.R_reads' HO334.out).2.1); rintro e w104 ⟨rfl, hb⟩; refine ⟨_, rfl, ?_⟩; have n0_ := Aside0.mk (Kd.R_below (sq_r HO_6) hb); have n1_ := Aside0.mk (Kd.R_below (sq_r HO_8) hb); have n2_ := Aside0.mk (Kd.R_below (sq_r HO_9) hb); have n3_ := Aside0.mk (Kd.R_below (sq_r HO_10) hb); have n4_ := Aside0.mk (Kd.R_below (sq_r HO334) hb); have n5_ := Aside0.mk (below_step sq_b hb); clear HO_6; clear HO_8; clear HO_9; clear HO_10; clear HO334; clear HB; have HO_6 := n0_; have HO_8 := n1_; have HO_9 := n2_; have HO_10 := n3_; have HO334 := n4_; have HB := n5_; clear n0_ n1_ n2_ n3_ n4_ n5_; (try clear hb); (try clear hb2); (try clear hk); (try clear hi)) | ((with_reducible refine gate_callee (f := 11) rfl ?_); refine goesL_ (some 61) rfl rfl Try.func11 (by kernel_rfl) rfl #[.slice A1 l1.length c1] rfl (by (try simp only [List.map_toArray, List.map_cons, List.map_nil]); first | done | rfl | (simp only [List.length_drop, List.length_take]; rfl)) ?_; (with_reducible refine (laws_toVersionS.calls kj15 _ _ l1 t336 _ ?side1 ?side2 A41.out).mono ?_); (case side1 => repeat (first | exact (Kd.C_below HR1.out HB.out) | (with_reducible refine Kd.C_alloc ?_ _) | (with_reducible refine Kd.C_drewN ?_ _) | (with_reducible refine Kd.C_drew ?_))); (case side2 => exact HC1.out); rintro e w105 ⟨v337, rfl, ho0, hb⟩; refine ⟨_, rfl, ?_⟩; have n0_ := Aside0.mk (Kd.R_elder' (sq_r HO_6) (Kd.R_base ho0) hb); have n1_ := Aside0.mk (Kd.R_elder' (sq_r HO_8) (Kd.R_base ho0) hb); have n2_ := Aside0.mk (Kd.R_elder' (sq_r HO_9) (Kd.R_base ho0) hb); have n3_ := Aside0.mk (Kd.R_elder' (sq_r HO_10) (Kd.R_base ho0) hb); have n4_ := Aside0.mk (Kd.R_elder' (sq_r HO334) (Kd.R_base ho0) hb); have n5_ := Aside0.mk (Kd.R_lower (Kd.R_new' (Kd.R_new' (Kd.R_new' (Kd.R_new' (Kd.R_new' ho0 (Kd.R_lt (sq_r HO_6))) (Kd.R_lt (sq_r HO_8))) (Kd.R_lt (sq_r HO_9))) (Kd.R_lt (sq_r HO_10))) (Kd.R_lt (sq_r HO334))) (below_size sq_b)); have n6_ := Aside0.mk (below_step sq_b hb); clear HO_6; clear HO_8; clear HO_9; clear HO_10; clear HO334; clear HB; have HO_6 := n0_; have HO_8 := n1_; have HO_9 := n2_; have HO_10 := n3_; have HO334 := n4_; have HO338 := n5_; have HB := n6_; clear n0_ n1_ n2_ n3_ n4_ n5_ n6_; (try clear hb); (try clear hb2); (try clear hk); (try clear hi); (try clear ho0); obtain ⟨Ao106, co106, eo106⟩ := Kd.R_slice HO338.out; subst eo106) | ((with_reducible refine gate_callee (f := 13) rfl ?_); refine goesL_ (some 62) rfl rfl Try.func13 (by kernel_rfl) rfl #[.slice Ao27 t324.length co27, .slice Ao106 t336.length co106] rfl (by (try simp only [List.map_toArray, List.map_cons, List.map_nil]); first | done | rfl | (simp only [List.length_drop, List.length_take]; rfl)) ?_; (with_reducible refine (laws_eqVersionS.calls kj15 _ _ t324 _ _ t336 false _ ?side1 ?side2 ?side3 ?side4 A42.out).mono ?_); (case side1 => repeat (first | exact (Kd.R_reads' HO_9.out).2.2 | (with_reducible refine Kd.C_alloc ?_ _) | (with_reducible refine Kd.C_drewN ?_ _) | (with_reducible refine Kd.C_drew ?_))); (case side2 => exact (Kd.R_reads' HO_9.out).2.1); (case side3 => repeat (first | exact (Kd.R_reads' HO338.out).2.2 | (with_reducible refine Kd.C_alloc ?_ _) | (with_reducible refine Kd.C_drewN ?_ _) | (with_reducible refine Kd.C_drew ?_))); (case side4 => exact (Kd.R_reads' HO338.out).2.1); rintro e w107 ⟨rfl, hb⟩; refine ⟨_, rfl, ?_⟩; have n0_ := Aside0.mk (Kd.R_below (sq_r HO_6) hb); have n1_ := Aside0.mk (Kd.R_below (sq_r HO_8) hb); have n2_ := Aside0.mk (Kd.R_below (sq_r HO_9) hb); have n3_ := Aside0.mk (Kd.R_below (sq_r HO_10) hb); have n4_ := Aside0.mk (Kd.R_below (sq_r HO334) hb); have n5_ := Aside0.mk (Kd.R_below (sq_r HO338) hb); have n6_ := Aside0.mk (below_step sq_b hb); clear HO_6; clear HO_8; clear HO_9; clear HO_10; clear HO334; clear HO338; clear HB; have HO_6 := n0_; have HO_8 := n1_; have HO_9 := n2_; have HO_10 := n3_; have HO334 := n4_; have HO338 := n5_; have HB := n6_; clear n0_ n1_ n2_ n3_ n4_ n5_ n6_; (try clear hb); (try clear hb2); (try clear hk); (try clear hi)))
        go_ret
        exact ⟨sq_w, sq_b⟩
      ·replace c40 := Bool.eq_false_iff.mpr c40
       subst c40
       have H1 : (some false) = some r := by rw [if_neg (show ¬ (false = true) by decide)] at H; exact H
       clear H
       have H := H1
       clear H1
       obtain rfl := Option.some.inj H
       go_wp2_with (first | ((with_reducible refine gate_callee (f := 11) rfl ?_); refine goesL_ (some 56) rfl rfl Try.func11 (by kernel_rfl) rfl #[.slice A0 l0.length c0] rfl (by (try simp only [List.map_toArray, List.map_cons, List.map_nil]); first | done | rfl | (simp only [List.length_drop, List.length_take]; rfl)) ?_; (with_reducible refine (laws_toVersionS.calls kj15 _ _ l0 t332 _ ?side1 ?side2 A38.out).mono ?_); (case side1 => repeat (first | exact (Kd.C_below HR0.out HB.out) | (with_reducible refine Kd.C_alloc ?_ _) | (with_reducible refine Kd.C_drewN ?_ _) | (with_reducible refine Kd.C_drew ?_))); (case side2 => exact HC0.out); rintro e w108 ⟨v333, rfl, ho0, hb⟩; refine ⟨_, rfl, ?_⟩; have n0_ := Aside0.mk (Kd.R_elder' (sq_r HO_6) (Kd.R_base ho0) hb); have n1_ := Aside0.mk (Kd.R_elder' (sq_r HO_8) (Kd.R_base ho0) hb); have n2_ := Aside0.mk (Kd.R_elder' (sq_r HO_9) (Kd.R_base ho0) hb); have n3_ := Aside0.mk (Kd.R_elder' (sq_r HO_10) (Kd.R_base ho0) hb); have n4_ := Aside0.mk (Kd.R_lower (Kd.R_new' (Kd.R_new' (Kd.R_new' (Kd.R_new' ho0 (Kd.R_lt (sq_r HO_6))) (Kd.R_lt (sq_r HO_8))) (Kd.R_lt (sq_r HO_9))) (Kd.R_lt (sq_r HO_10))) (below_size sq_b)); have n5_ := Aside0.mk (below_step sq_b hb); clear HO_6; clear HO_8; clear HO_9; clear HO_10; clear HB; have HO_6 := n0_; have HO_8 := n1_; have HO_9 := n2_; have HO_10 := n3_; have HO334 := n4_; have HB := n5_; clear n0_ n1_ n2_ n3_ n4_ n5_; (try clear hb); (try clear hb2); (try clear hk); (try clear hi); (try clear ho0); obtain ⟨Ao109, co109, eo109⟩ := Kd.R_slice HO334.out; subst eo109) | ((with_reducible refine gate_callee (f := 13) rfl ?_); refine goesL_ (some 57) rfl rfl Try.func13 (by kernel_rfl) rfl #[.slice Ao26 t321.length co26, .slice Ao109 t332.length co109] rfl (by (try simp only [List.map_toArray, List.map_cons, List.map_nil]); first | done | rfl | (simp only [List.length_drop, List.length_take]; rfl)) ?_; (with_reducible refine (laws_eqVersionS.calls kj15 _ _ t321 _ _ t332 false _ ?side1 ?side2 ?side3 ?side4 A39.out).mono ?_); (case side1 => repeat (first | exact (Kd.R_reads' HO_8.out).2.2 | (with_reducible refine Kd.C_alloc ?_ _) | (with_reducible refine Kd.C_drewN ?_ _) | (with_reducible refine Kd.C_drew ?_))); (case side2 => exact (Kd.R_reads' HO_8.out).2.1); (case side3 => repeat (first | exact (Kd.R_reads' HO334.out).2.2 | (with_reducible refine Kd.C_alloc ?_ _) | (with_reducible refine Kd.C_drewN ?_ _) | (with_reducible refine Kd.C_drew ?_))); (case side4 => exact (Kd.R_reads' HO334.out).2.1); rintro e w110 ⟨rfl, hb⟩; refine ⟨_, rfl, ?_⟩; have n0_ := Aside0.mk (Kd.R_below (sq_r HO_6) hb); have n1_ := Aside0.mk (Kd.R_below (sq_r HO_8) hb); have n2_ := Aside0.mk (Kd.R_below (sq_r HO_9) hb); have n3_ := Aside0.mk (Kd.R_below (sq_r HO_10) hb); have n4_ := Aside0.mk (Kd.R_below (sq_r HO334) hb); have n5_ := Aside0.mk (below_step sq_b hb); clear HO_6; clear HO_8; clear HO_9; clear HO_10; clear HO334; clear HB; have HO_6 := n0_; have HO_8 := n1_; have HO_9 := n2_; have HO_10 := n3_; have HO334 := n4_; have HB := n5_; clear n0_ n1_ n2_ n3_ n4_ n5_; (try clear hb); (try clear hb2); (try clear hk); (try clear hi)))
       go_ret
       exact ⟨sq_w, sq_b⟩

end Go.Proofs.Ytpfjlnfgekeobaa.QFnExactMergeVersions
