-- Written by this session's own program (wip/pp_patch.py, wip/pp.sh) out of the given translation. Not trusted: Lean checks it.
import Derived.Test.YtabfkalcjfjkiaaQFnExactPutVersionx0
import Derived.Test.YtabfkalcjfjkiaaQFnExactPutVersionx2
import Derived.Test.YtabfkalcjfjkiaaQFnExactPutVersionx5
import Derived.Test.YtabfkalcjfjkiaaQFnExactPutVersionx10
import Derived.Test.YtabfkalcjfjkiaaQFnExactPutVersionx11
import Derived.Test.YtabfkalcjfjkiaaQFnExactPutVersionx12
namespace Go.Proofs.Ytabfkalcjfjkiaa.QFnExactPutVersion
open Go.RowKit Go.Proofs.YtabfkalcjfjkiaaW.PrintWords Go.Proofs.YtabfkalcjfjkiaaW.PrintLast Go.Proofs.YtabfkalcjfjkiaaW.PrintMore
attribute [local go_sem] max2_int min2_int max_two min_two max_three min_three max_four min_four   -- for this text's walks alone
open Go.Proofs.Ytabfkalcjfjkiaa.Ext
attribute [local go_sem high] ext_gtr ext_leq
set_option linter.unusedVariables false
set_option linter.unusedSimpArgs false

/-! ### laws_FnExactPutVersion: function 4 -/
mutual
def laws_FnExactPutVersion.j0 : Nat → List (S41) → List (S48) → Bool → List (S48) → List (S48) → Bool → Bool → ByteArray → Int → Bool → ByteArray → Option (Bool)
 | 0, _, _, _, _, _, _, _, _, _, _, _ => none
 | k + 1, x0, x6, x7, x8, x9, x10, x51, x264000, x264001, x264002, x264003 => if x51 = true then (some false) else ((laws_toVersionS.f k x0).bind fun t289 => ((laws_eqVersionS.f k x8 t289).bind fun t292 => (if t292 = true then ((laws_markVersionS.f k x8 1).bind fun bt293 => (if bt293.1 < 0 then (laws_FnExactPutVersion.j1 k x0 x6 x7 x9 true x264000 x264001 x264002 x264003) else ((laws_eqVersionS.f k x9 x6).bind fun t295 => (if t295 = true then (laws_FnExactPutVersion.j1 k x0 x6 x7 x9 (x10 != x7) x264000 x264001 x264002 x264003) else (laws_FnExactPutVersion.j1 k x0 x6 x7 x9 true x264000 x264001 x264002 x264003))))) else (some false))))
def laws_FnExactPutVersion.j1 : Nat → List (S41) → List (S48) → Bool → List (S48) → Bool → ByteArray → Int → Bool → ByteArray → Option (Bool)
 | 0, _, _, _, _, _, _, _, _, _ => none
 | k + 1, x0, x6, x7, x9, x72, x264000, x264001, x264002, x264003 => if x72 = true then (some false) else ((laws_markVersionS.f k x9 1).bind fun bt296 => ((laws_heldVersionS.f k bt296.2 1).bind fun t298 => (if t298 < 0 then (some false) else (if t298 = bt296.1 then ((laws_toVersionS.f k x0).bind fun t299 => ((laws_toVersion.f x264000 x264001 x264002 x264003).bind fun bt302 => ((impl_PutVersion.f k t299 bt302.1 bt302.2.1 bt302.2.2.1 bt302.2.2.2).bind fun bt306 => ((laws_eqVersionS.f k bt306.1 x6).bind fun t310 => (if t310 = true then (laws_FnExactPutVersion.j2 k bt296.2 bt296.1 (bt306.2 != x7)) else (laws_FnExactPutVersion.j2 k bt296.2 bt296.1 true)))))) else (some false)))))
def laws_FnExactPutVersion.j2 : Nat → List (S48) → Int → Bool → Option (Bool)
 | 0, _, _, _ => none
 | k + 1, x9, x12, x100 => if x100 = true then (some false) else ((laws_heldVersionS.f k x9 1).bind fun t311 => (if t311 < 0 then (some false) else (if t311 = x12 then (some true) else (some false))))
end
def laws_FnExactPutVersion.f (k : Nat) (l0 : List (S41)) (a1_0 : ByteArray) (a1_1 : Int) (a1_2 : Bool) (a1_3 : ByteArray) : Option (Bool) := (laws_szVersionS.f k l0 1048576).bind fun t264 => (if t264 < 0 then (some true) else ((laws_szVersion.f a1_0 a1_1 a1_2 a1_3 t264).bind fun t265 => (if t265 < 0 then (some true) else ((laws_toVersionS.f k l0).bind fun t266 => ((laws_toVersion.f a1_0 a1_1 a1_2 a1_3).bind fun bt269 => ((spec_PutVersion.f k t266 bt269.1 bt269.2.1 bt269.2.2.1 bt269.2.2.2).bind fun bt273 => ((laws_toVersionS.f k l0).bind fun t277 => ((laws_toVersion.f a1_0 a1_1 a1_2 a1_3).bind fun bt280 => ((impl_PutVersion.f k t277 bt280.1 bt280.2.1 bt280.2.2.1 bt280.2.2.2).bind fun bt284 => ((laws_eqVersionS.f k bt284.1 bt273.1).bind fun t288 => (if t288 = true then (laws_FnExactPutVersion.j0 k l0 bt273.1 bt273.2 t277 bt284.1 bt284.2 (bt284.2 != bt273.2) a1_0 a1_1 a1_2 a1_3) else (laws_FnExactPutVersion.j0 k l0 bt273.1 bt273.2 t277 bt284.1 bt284.2 true a1_0 a1_1 a1_2 a1_3))))))))))))
theorem laws_FnExactPutVersion.mono_l : ∀ k, (∀ y0 y1 y2 y3 y4 y5 y6 y7 y8 y9 y10, LeO (laws_FnExactPutVersion.j0 k y0 y1 y2 y3 y4 y5 y6 y7 y8 y9 y10) (laws_FnExactPutVersion.j0 (k + 1) y0 y1 y2 y3 y4 y5 y6 y7 y8 y9 y10)) ∧ (∀ y0 y1 y2 y3 y4 y5 y6 y7 y8, LeO (laws_FnExactPutVersion.j1 k y0 y1 y2 y3 y4 y5 y6 y7 y8) (laws_FnExactPutVersion.j1 (k + 1) y0 y1 y2 y3 y4 y5 y6 y7 y8)) ∧ (∀ y0 y1 y2, LeO (laws_FnExactPutVersion.j2 k y0 y1 y2) (laws_FnExactPutVersion.j2 (k + 1) y0 y1 y2))
 | 0 => ⟨fun _ _ _ _ _ _ _ _ _ _ _ r h => by simp [laws_FnExactPutVersion.j0] at h, fun _ _ _ _ _ _ _ _ _ r h => by simp [laws_FnExactPutVersion.j1] at h, fun _ _ _ r h => by simp [laws_FnExactPutVersion.j2] at h⟩
 | k + 1 => by
  obtain ⟨ih0, ih1, ih2⟩ := laws_FnExactPutVersion.mono_l k
  refine ⟨?_, ?_, ?_⟩
  ·intro y0 y1 y2 y3 y4 y5 y6 y7 y8 y9 y10
   unfold laws_FnExactPutVersion.j0
   repeat' first
   | (with_reducible exact ih0 _ _ _ _ _ _ _ _ _ _ _)
   | (with_reducible exact ih1 _ _ _ _ _ _ _ _ _)
   | (with_reducible exact ih2 _ _ _)
   | (with_reducible exact impl_PutVersion.mono _ _ _ _ _ _)
   | (with_reducible exact laws_eqVersionS.mono _ _ _)
   | (with_reducible exact laws_heldVersionS.mono _ _ _)
   | (with_reducible exact laws_markVersionS.mono _ _ _)
   | (with_reducible exact laws_szVersionS.mono _ _ _)
   | (with_reducible exact laws_toVersionS.mono _ _)
   | (with_reducible exact spec_PutVersion.mono _ _ _ _ _ _)
   | (with_reducible exact LeO.refl _)
   | (with_reducible exact LeO.none _)
   | (with_reducible refine LeO.ite ?_ ?_)
   | (with_reducible refine LeO.bind ?_ (fun _ => ?_))
   | exact ih0 _ _ _ _ _ _ _ _ _ _ _
   | exact ih1 _ _ _ _ _ _ _ _ _
   | exact ih2 _ _ _
   | exact impl_PutVersion.mono _ _ _ _ _ _
   | exact laws_eqVersionS.mono _ _ _
   | exact laws_heldVersionS.mono _ _ _
   | exact laws_markVersionS.mono _ _ _
   | exact laws_szVersionS.mono _ _ _
   | exact laws_toVersionS.mono _ _
   | exact spec_PutVersion.mono _ _ _ _ _ _
   | exact LeO.none _
   | refine LeO.ite ?_ ?_
   | refine LeO.bind ?_ (fun _ => ?_)
  ·intro y0 y1 y2 y3 y4 y5 y6 y7 y8
   unfold laws_FnExactPutVersion.j1
   repeat' first
   | (with_reducible exact ih0 _ _ _ _ _ _ _ _ _ _ _)
   | (with_reducible exact ih1 _ _ _ _ _ _ _ _ _)
   | (with_reducible exact ih2 _ _ _)
   | (with_reducible exact impl_PutVersion.mono _ _ _ _ _ _)
   | (with_reducible exact laws_eqVersionS.mono _ _ _)
   | (with_reducible exact laws_heldVersionS.mono _ _ _)
   | (with_reducible exact laws_markVersionS.mono _ _ _)
   | (with_reducible exact laws_szVersionS.mono _ _ _)
   | (with_reducible exact laws_toVersionS.mono _ _)
   | (with_reducible exact spec_PutVersion.mono _ _ _ _ _ _)
   | (with_reducible exact LeO.refl _)
   | (with_reducible exact LeO.none _)
   | (with_reducible refine LeO.ite ?_ ?_)
   | (with_reducible refine LeO.bind ?_ (fun _ => ?_))
   | exact ih0 _ _ _ _ _ _ _ _ _ _ _
   | exact ih1 _ _ _ _ _ _ _ _ _
   | exact ih2 _ _ _
   | exact impl_PutVersion.mono _ _ _ _ _ _
   | exact laws_eqVersionS.mono _ _ _
   | exact laws_heldVersionS.mono _ _ _
   | exact laws_markVersionS.mono _ _ _
   | exact laws_szVersionS.mono _ _ _
   | exact laws_toVersionS.mono _ _
   | exact spec_PutVersion.mono _ _ _ _ _ _
   | exact LeO.none _
   | refine LeO.ite ?_ ?_
   | refine LeO.bind ?_ (fun _ => ?_)
  ·intro y0 y1 y2
   unfold laws_FnExactPutVersion.j2
   repeat' first
   | (with_reducible exact ih0 _ _ _ _ _ _ _ _ _ _ _)
   | (with_reducible exact ih1 _ _ _ _ _ _ _ _ _)
   | (with_reducible exact ih2 _ _ _)
   | (with_reducible exact impl_PutVersion.mono _ _ _ _ _ _)
   | (with_reducible exact laws_eqVersionS.mono _ _ _)
   | (with_reducible exact laws_heldVersionS.mono _ _ _)
   | (with_reducible exact laws_markVersionS.mono _ _ _)
   | (with_reducible exact laws_szVersionS.mono _ _ _)
   | (with_reducible exact laws_toVersionS.mono _ _)
   | (with_reducible exact spec_PutVersion.mono _ _ _ _ _ _)
   | (with_reducible exact LeO.refl _)
   | (with_reducible exact LeO.none _)
   | (with_reducible refine LeO.ite ?_ ?_)
   | (with_reducible refine LeO.bind ?_ (fun _ => ?_))
   | exact ih0 _ _ _ _ _ _ _ _ _ _ _
   | exact ih1 _ _ _ _ _ _ _ _ _
   | exact ih2 _ _ _
   | exact impl_PutVersion.mono _ _ _ _ _ _
   | exact laws_eqVersionS.mono _ _ _
   | exact laws_heldVersionS.mono _ _ _
   | exact laws_markVersionS.mono _ _ _
   | exact laws_szVersionS.mono _ _ _
   | exact laws_toVersionS.mono _ _
   | exact spec_PutVersion.mono _ _ _ _ _ _
   | exact LeO.none _
   | refine LeO.ite ?_ ?_
   | refine LeO.bind ?_ (fun _ => ?_)
theorem laws_FnExactPutVersion.mono : ∀ a0 a1 a2 a3 a4 k, LeO (laws_FnExactPutVersion.f k a0 a1 a2 a3 a4) (laws_FnExactPutVersion.f (k + 1) a0 a1 a2 a3 a4) := by
 intro a0 a1 a2 a3 a4 k
 obtain ⟨ih0, ih1, ih2⟩ := laws_FnExactPutVersion.mono_l k
 unfold laws_FnExactPutVersion.f
 repeat' first
   | (with_reducible exact ih0 _ _ _ _ _ _ _ _ _ _ _)
   | (with_reducible exact ih1 _ _ _ _ _ _ _ _ _)
   | (with_reducible exact ih2 _ _ _)
   | (with_reducible exact impl_PutVersion.mono _ _ _ _ _ _)
   | (with_reducible exact laws_eqVersionS.mono _ _ _)
   | (with_reducible exact laws_heldVersionS.mono _ _ _)
   | (with_reducible exact laws_markVersionS.mono _ _ _)
   | (with_reducible exact laws_szVersionS.mono _ _ _)
   | (with_reducible exact laws_toVersionS.mono _ _)
   | (with_reducible exact spec_PutVersion.mono _ _ _ _ _ _)
   | (with_reducible exact LeO.refl _)
   | (with_reducible exact LeO.none _)
   | (with_reducible refine LeO.ite ?_ ?_)
   | (with_reducible refine LeO.bind ?_ (fun _ => ?_))
   | exact ih0 _ _ _ _ _ _ _ _ _ _ _
   | exact ih1 _ _ _ _ _ _ _ _ _
   | exact ih2 _ _ _
   | exact impl_PutVersion.mono _ _ _ _ _ _
   | exact laws_eqVersionS.mono _ _ _
   | exact laws_heldVersionS.mono _ _ _
   | exact laws_markVersionS.mono _ _ _
   | exact laws_szVersionS.mono _ _ _
   | exact laws_toVersionS.mono _ _
   | exact spec_PutVersion.mono _ _ _ _ _ _
   | exact LeO.none _
   | refine LeO.ite ?_ ?_
   | refine LeO.bind ?_ (fun _ => ?_)
def laws_FnExactPutVersion.T8 : Bool × List (List Nat × List Nat) := (true, [([], []), ([0], [0]), ([], []), ([2, 1], [2]), ([1, 3, 3], [1, 3]), ([4], [4]), ([5], [5]), ([5], [5]), ([6, 4, 0, 1, 2, 3, 4, 5, 6], [6]), ([7, 8, 0, 1, 2, 3, 4, 5, 6, 7, 8], [7])])
def laws_FnExactPutVersion.B8 : List Nat := [0, 1, 0, 7, 15, 31, 63, 63, 127, 511]
theorem laws_FnExactPutVersion.tab8 : rtab .any (opsOf Try.f4 8) = laws_FnExactPutVersion.T8 := by kernel_rfl
theorem laws_FnExactPutVersion.bits8 : waitsOk laws_FnExactPutVersion.T8.2 laws_FnExactPutVersion.B8 = true := by kernel_rfl
def laws_FnExactPutVersion.T27 : Bool × List (List Nat × List Nat) := (true, [([], []), ([0], [0]), ([], []), ([2, 1], [2]), ([1, 3, 3], [1, 3]), ([4], [4]), ([5], [5]), ([5], [5]), ([6, 4, 0, 1, 2, 3, 4, 5, 6], [6]), ([7, 8, 0, 1, 2, 3, 4, 5, 6, 7, 8], [7])])
def laws_FnExactPutVersion.B27 : List Nat := [0, 1, 0, 7, 15, 31, 63, 63, 127, 511]
theorem laws_FnExactPutVersion.tab27 : rtab .any (opsOf Try.f4 27) = laws_FnExactPutVersion.T27 := by kernel_rfl
theorem laws_FnExactPutVersion.bits27 : waitsOk laws_FnExactPutVersion.T27.2 laws_FnExactPutVersion.B27 = true := by kernel_rfl
set_option maxHeartbeats 8000000 in
set_option maxRecDepth 100000 in
theorem laws_FnExactPutVersion.calls (k : Nat) (A0 : Option Addr) (c0 : Nat) (l0 : List (S41)) (a1_0 : ByteArray) (a1_1 : Int) (a1_2 : Bool) (a1_3 : ByteArray) (r : Bool) (w : World) (hr0 : Kd.C k41 w A0 l0.length l0) (hc0 : l0.length ≤ c0) (h : laws_FnExactPutVersion.f k l0 a1_0 a1_1 a1_2 a1_3 = some r) :
  Calls Try.prog 4 #[.slice A0 l0.length c0, .agg #[.string a1_0, .int .i64 a1_1, .bool a1_2, .string a1_3]] w fun e w' => e = .returned (.bool r) ∧ Below w.heap.size w w' := by
 have hu41 := Try.underlying41
 have HR0 := Aside0.mk hr0
 have HC0 := Aside0.mk hc0
 clear hr0 hc0
 have HB := Aside0.mk (Below.refl w.heap.size w)
 have H : ((laws_szVersionS.f k l0 1048576).bind fun t264 => (if t264 < 0 then (some true) else ((laws_szVersion.f a1_0 a1_1 a1_2 a1_3 t264).bind fun t265 => (if t265 < 0 then (some true) else ((laws_toVersionS.f k l0).bind fun t266 => ((laws_toVersion.f a1_0 a1_1 a1_2 a1_3).bind fun bt269 => ((spec_PutVersion.f k t266 bt269.1 bt269.2.1 bt269.2.2.1 bt269.2.2.2).bind fun bt273 => ((laws_toVersionS.f k l0).bind fun t277 => ((laws_toVersion.f a1_0 a1_1 a1_2 a1_3).bind fun bt280 => ((impl_PutVersion.f k t277 bt280.1 bt280.2.1 bt280.2.2.1 bt280.2.2.2).bind fun bt284 => ((laws_eqVersionS.f k bt284.1 bt273.1).bind fun t288 => (if t288 = true then (laws_FnExactPutVersion.j0 k l0 bt273.1 bt273.2 t277 bt284.1 bt284.2 (bt284.2 != bt273.2) a1_0 a1_1 a1_2 a1_3) else (laws_FnExactPutVersion.j0 k l0 bt273.1 bt273.2 t277 bt284.1 bt284.2 true a1_0 a1_1 a1_2 a1_3))))))))))))) = some r := h
 clear h
 replace H := Option.bind_eq_some_iff.mp H
 obtain ⟨t264, A30, H⟩ := H
 replace H : (if t264 < 0 then (some true) else ((laws_szVersion.f a1_0 a1_1 a1_2 a1_3 t264).bind fun t265 => (if t265 < 0 then (some true) else ((laws_toVersionS.f k l0).bind fun t266 => ((laws_toVersion.f a1_0 a1_1 a1_2 a1_3).bind fun bt269 => ((spec_PutVersion.f k t266 bt269.1 bt269.2.1 bt269.2.2.1 bt269.2.2.2).bind fun bt273 => ((laws_toVersionS.f k l0).bind fun t277 => ((laws_toVersion.f a1_0 a1_1 a1_2 a1_3).bind fun bt280 => ((impl_PutVersion.f k t277 bt280.1 bt280.2.1 bt280.2.2.1 bt280.2.2.2).bind fun bt284 => ((laws_eqVersionS.f k bt284.1 bt273.1).bind fun t288 => (if t288 = true then (laws_FnExactPutVersion.j0 k l0 bt273.1 bt273.2 t277 bt284.1 bt284.2 (bt284.2 != bt273.2) a1_0 a1_1 a1_2 a1_3) else (laws_FnExactPutVersion.j0 k l0 bt273.1 bt273.2 t277 bt284.1 bt284.2 true a1_0 a1_1 a1_2 a1_3)))))))))))) = some r := H
 have A3 := Aside0.mk A30
 clear A30
 by_cases c4 : t264 < 0
 ·rw [if_pos c4] at H
  have c4b0 : decide (t264 < 0) = true := decide_eq_true c4
  clear c4
  obtain rfl := Option.some.inj H
  go_enter Try.func4, Try.ntmps4
  go_wp2_with (first | ((with_reducible refine gate_dst (N := 3) rfl ?_); refine box_event ?hg (N := 3) ?hd (cs := #[.string a1_0, .int .i64 a1_1, .bool a1_2, .string a1_3]) (t := 41) ?hr ?_; (case hd => rfl); (case hg => rfl); (case hr => first | (go_simp; done) | (go_simp; rfl)); intro gb263 hg w5 hbox hb; have n0_ := Aside0.mk (below_step sq_b hb); have n1_ := Aside0.mk (hbox); have n2_ := Aside0.mk ((by rw [hg]; exact (below_size sq_b) : w.heap.size ≤ gb263)); have n3_ := Aside0.mk ((by rw [hg]; exact (below_size sq_b) : w.heap.size ≤ gb263)); clear HB; have HB := n0_; have BK263 := n1_; have GW263 := n2_; have GE263 := n3_; clear n0_ n1_ n2_ n3_; clear hb hbox hg) | ((with_reducible refine gate_callee (f := 22) rfl ?_); refine goesL_ (some 18) rfl rfl Try.func22 (by kernel_rfl) rfl #[.slice A0 l0.length c0, .int .i64 1048576] rfl (by (try simp only [List.map_toArray, List.map_cons, List.map_nil]); first | done | rfl | (simp only [List.length_drop, List.length_take]; rfl)) ?_; (with_reducible refine (laws_szVersionS.calls k _ _ l0 1048576 t264 _ ?side1 ?side2 A3.out).mono ?_); (case side1 => repeat (first | exact (Kd.C_below HR0.out HB.out) | (with_reducible refine Kd.C_alloc ?_ _) | (with_reducible refine Kd.C_drewN ?_ _) | (with_reducible refine Kd.C_drew ?_))); (case side2 => exact HC0.out); rintro e w6 ⟨rfl, hb⟩; refine ⟨_, rfl, ?_⟩; have n0_ := Aside0.mk (blk_below (g := gb263) (o := .cells #[.string a1_0, .int .i64 a1_1, .bool a1_2, .string a1_3] 41 (0, 0)) (sq_l BK263) hb); have n1_ := Aside0.mk (below_step (by repeat (first | (with_reducible first | exact HB.out | apply below_alloc | apply pw_below_drewN | apply below_drew1 | refine below_set ?_ GE263.out) | exact HB.out)) hb); clear BK263; clear HB; have BK263 := n0_; have HB := n1_; clear n0_ n1_; (try clear hb); (try clear hb2); (try clear hk); (try clear hi)))
  go_ret
  exact ⟨sq_w, by repeat (first | (with_reducible first | exact HB.out | apply below_alloc | apply pw_below_drewN | apply below_drew1 | refine below_set ?_ GE263.out) | exact HB.out)⟩
 ·rw [if_neg c4] at H
  have c4b0 : decide (t264 < 0) = false := decide_eq_false c4
  clear c4
  replace H := Option.bind_eq_some_iff.mp H
  obtain ⟨t265, A70, H⟩ := H
  replace H : (if t265 < 0 then (some true) else ((laws_toVersionS.f k l0).bind fun t266 => ((laws_toVersion.f a1_0 a1_1 a1_2 a1_3).bind fun bt269 => ((spec_PutVersion.f k t266 bt269.1 bt269.2.1 bt269.2.2.1 bt269.2.2.2).bind fun bt273 => ((laws_toVersionS.f k l0).bind fun t277 => ((laws_toVersion.f a1_0 a1_1 a1_2 a1_3).bind fun bt280 => ((impl_PutVersion.f k t277 bt280.1 bt280.2.1 bt280.2.2.1 bt280.2.2.2).bind fun bt284 => ((laws_eqVersionS.f k bt284.1 bt273.1).bind fun t288 => (if t288 = true then (laws_FnExactPutVersion.j0 k l0 bt273.1 bt273.2 t277 bt284.1 bt284.2 (bt284.2 != bt273.2) a1_0 a1_1 a1_2 a1_3) else (laws_FnExactPutVersion.j0 k l0 bt273.1 bt273.2 t277 bt284.1 bt284.2 true a1_0 a1_1 a1_2 a1_3)))))))))) = some r := H
  have A7 := Aside0.mk A70
  clear A70
  by_cases c8 : t265 < 0
  ·rw [if_pos c8] at H
   have c8b0 : decide (t265 < 0) = true := decide_eq_true c8
   clear c8
   obtain rfl := Option.some.inj H
   go_enter Try.func4, Try.ntmps4
   go_wp2_with (first | ((with_reducible refine gate_dst (N := 3) rfl ?_); refine box_event ?hg (N := 3) ?hd (cs := #[.string a1_0, .int .i64 a1_1, .bool a1_2, .string a1_3]) (t := 41) ?hr ?_; (case hd => rfl); (case hg => rfl); (case hr => first | (go_simp; done) | (go_simp; rfl)); intro gb263 hg w9 hbox hb; have n0_ := Aside0.mk (below_step sq_b hb); have n1_ := Aside0.mk (hbox); have n2_ := Aside0.mk ((by rw [hg]; exact (below_size sq_b) : w.heap.size ≤ gb263)); have n3_ := Aside0.mk ((by rw [hg]; exact (below_size sq_b) : w.heap.size ≤ gb263)); clear HB; have HB := n0_; have BK263 := n1_; have GW263 := n2_; have GE263 := n3_; clear n0_ n1_ n2_ n3_; clear hb hbox hg) | ((with_reducible refine gate_callee (f := 22) rfl ?_); refine goesL_ (some 18) rfl rfl Try.func22 (by kernel_rfl) rfl #[.slice A0 l0.length c0, .int .i64 1048576] rfl (by (try simp only [List.map_toArray, List.map_cons, List.map_nil]); first | done | rfl | (simp only [List.length_drop, List.length_take]; rfl)) ?_; (with_reducible refine (laws_szVersionS.calls k _ _ l0 1048576 t264 _ ?side1 ?side2 A3.out).mono ?_); (case side1 => repeat (first | exact (Kd.C_below HR0.out HB.out) | (with_reducible refine Kd.C_alloc ?_ _) | (with_reducible refine Kd.C_drewN ?_ _) | (with_reducible refine Kd.C_drew ?_))); (case side2 => exact HC0.out); rintro e w10 ⟨rfl, hb⟩; refine ⟨_, rfl, ?_⟩; have n0_ := Aside0.mk (blk_below (g := gb263) (o := .cells #[.string a1_0, .int .i64 a1_1, .bool a1_2, .string a1_3] 41 (0, 0)) (sq_l BK263) hb); have n1_ := Aside0.mk (below_step (by repeat (first | (with_reducible first | exact HB.out | apply below_alloc | apply pw_below_drewN | apply below_drew1 | refine below_set ?_ GE263.out) | exact HB.out)) hb); clear BK263; clear HB; have BK263 := n0_; have HB := n1_; clear n0_ n1_; (try clear hb); (try clear hb2); (try clear hk); (try clear hi); have hcz11_0 : w10.cell? ⟨gb263, 0, none⟩ = some (.string a1_0) := (blk_cell BK263.out 0).trans rfl; have hcz11_1 : w10.cell? ⟨gb263, 1, none⟩ = some (.int .i64 a1_1) := (blk_cell BK263.out 1).trans rfl; have hcz11_2 : w10.cell? ⟨gb263, 2, none⟩ = some (.bool a1_2) := (blk_cell BK263.out 2).trans rfl; have hcz11_3 : w10.cell? ⟨gb263, 3, none⟩ = some (.string a1_3) := (blk_cell BK263.out 3).trans rfl; have hfz11_0 := blk_frozen BK263.out 0; have hfz11_1 := blk_frozen BK263.out 1; have hfz11_2 := blk_frozen BK263.out 2; have hfz11_3 := blk_frozen BK263.out 3) | ((with_reducible refine gate_callee (f := 23) rfl ?_); refine goesL_ (some 23) rfl rfl Try.func23 (by kernel_rfl) rfl #[.agg #[.string a1_0, .int .i64 a1_1, .bool a1_2, .string a1_3], .int .i64 t264] rfl (by (try simp only [List.map_toArray, List.map_cons, List.map_nil]); first | done | rfl | (simp only [List.length_drop, List.length_take]; rfl)) ?_; (with_reducible refine (laws_szVersion.calls a1_0 a1_1 a1_2 a1_3 t264 t265 _ A7.out).mono ?_); rintro e w12 ⟨rfl, hb⟩; refine ⟨_, rfl, ?_⟩; have n0_ := Aside0.mk (blk_below (g := gb263) (o := .cells #[.string a1_0, .int .i64 a1_1, .bool a1_2, .string a1_3] 41 (0, 0)) (sq_l BK263) hb); have n1_ := Aside0.mk (below_step (by repeat (first | (with_reducible first | exact HB.out | apply below_alloc | apply pw_below_drewN | apply below_drew1 | refine below_set ?_ GE263.out) | exact HB.out)) hb); clear BK263; clear HB; have BK263 := n0_; have HB := n1_; clear n0_ n1_; (try clear hb); (try clear hb2); (try clear hk); (try clear hi)))
   go_ret
   exact ⟨sq_w, by repeat (first | (with_reducible first | exact HB.out | apply below_alloc | apply pw_below_drewN | apply below_drew1 | refine below_set ?_ GE263.out) | exact HB.out)⟩
  ·rw [if_neg c8] at H
   have c8b0 : decide (t265 < 0) = false := decide_eq_false c8
   clear c8
   replace H := Option.bind_eq_some_iff.mp H
   obtain ⟨t266, A130, H⟩ := H
   replace H : ((laws_toVersion.f a1_0 a1_1 a1_2 a1_3).bind fun bt269 => ((spec_PutVersion.f k t266 bt269.1 bt269.2.1 bt269.2.2.1 bt269.2.2.2).bind fun bt273 => ((laws_toVersionS.f k l0).bind fun t277 => ((laws_toVersion.f a1_0 a1_1 a1_2 a1_3).bind fun bt280 => ((impl_PutVersion.f k t277 bt280.1 bt280.2.1 bt280.2.2.1 bt280.2.2.2).bind fun bt284 => ((laws_eqVersionS.f k bt284.1 bt273.1).bind fun t288 => (if t288 = true then (laws_FnExactPutVersion.j0 k l0 bt273.1 bt273.2 t277 bt284.1 bt284.2 (bt284.2 != bt273.2) a1_0 a1_1 a1_2 a1_3) else (laws_FnExactPutVersion.j0 k l0 bt273.1 bt273.2 t277 bt284.1 bt284.2 true a1_0 a1_1 a1_2 a1_3)))))))) = some r := H
   have A13 := Aside0.mk A130
   clear A130
   replace H := Option.bind_eq_some_iff.mp H
   obtain ⟨⟨t269, t270, t271, t272⟩, A140, H⟩ := H
   replace H : ((spec_PutVersion.f k t266 t269 t270 t271 t272).bind fun bt273 => ((laws_toVersionS.f k l0).bind fun t277 => ((laws_toVersion.f a1_0 a1_1 a1_2 a1_3).bind fun bt280 => ((impl_PutVersion.f k t277 bt280.1 bt280.2.1 bt280.2.2.1 bt280.2.2.2).bind fun bt284 => ((laws_eqVersionS.f k bt284.1 bt273.1).bind fun t288 => (if t288 = true then (laws_FnExactPutVersion.j0 k l0 bt273.1 bt273.2 t277 bt284.1 bt284.2 (bt284.2 != bt273.2) a1_0 a1_1 a1_2 a1_3) else (laws_FnExactPutVersion.j0 k l0 bt273.1 bt273.2 t277 bt284.1 bt284.2 true a1_0 a1_1 a1_2 a1_3))))))) = some r := H
   have A14 := Aside0.mk A140
   clear A140
   replace H := Option.bind_eq_some_iff.mp H
   obtain ⟨⟨t273, t276⟩, A150, H⟩ := H
   replace H : ((laws_toVersionS.f k l0).bind fun t277 => ((laws_toVersion.f a1_0 a1_1 a1_2 a1_3).bind fun bt280 => ((impl_PutVersion.f k t277 bt280.1 bt280.2.1 bt280.2.2.1 bt280.2.2.2).bind fun bt284 => ((laws_eqVersionS.f k bt284.1 t273).bind fun t288 => (if t288 = true then (laws_FnExactPutVersion.j0 k l0 t273 t276 t277 bt284.1 bt284.2 (bt284.2 != t276) a1_0 a1_1 a1_2 a1_3) else (laws_FnExactPutVersion.j0 k l0 t273 t276 t277 bt284.1 bt284.2 true a1_0 a1_1 a1_2 a1_3)))))) = some r := H
   have A15 := Aside0.mk A150
   clear A150
   replace H := Option.bind_eq_some_iff.mp H
   obtain ⟨t277, A160, H⟩ := H
   replace H : ((laws_toVersion.f a1_0 a1_1 a1_2 a1_3).bind fun bt280 => ((impl_PutVersion.f k t277 bt280.1 bt280.2.1 bt280.2.2.1 bt280.2.2.2).bind fun bt284 => ((laws_eqVersionS.f k bt284.1 t273).bind fun t288 => (if t288 = true then (laws_FnExactPutVersion.j0 k l0 t273 t276 t277 bt284.1 bt284.2 (bt284.2 != t276) a1_0 a1_1 a1_2 a1_3) else (laws_FnExactPutVersion.j0 k l0 t273 t276 t277 bt284.1 bt284.2 true a1_0 a1_1 a1_2 a1_3))))) = some r := H
   have A16 := Aside0.mk A160
   clear A160
   replace H := Option.bind_eq_some_iff.mp H
   obtain ⟨⟨t280, t281, t282, t283⟩, A170, H⟩ := H
   replace H : ((impl_PutVersion.f k t277 t280 t281 t282 t283).bind fun bt284 => ((laws_eqVersionS.f k bt284.1 t273).bind fun t288 => (if t288 = true then (laws_FnExactPutVersion.j0 k l0 t273 t276 t277 bt284.1 bt284.2 (bt284.2 != t276) a1_0 a1_1 a1_2 a1_3) else (laws_FnExactPutVersion.j0 k l0 t273 t276 t277 bt284.1 bt284.2 true a1_0 a1_1 a1_2 a1_3)))) = some r := H
   have A17 := Aside0.mk A170
   clear A170
   replace H := Option.bind_eq_some_iff.mp H
   obtain ⟨⟨t284, t287⟩, A180, H⟩ := H
   replace H : ((laws_eqVersionS.f k t284 t273).bind fun t288 => (if t288 = true then (laws_FnExactPutVersion.j0 k l0 t273 t276 t277 t284 t287 (t287 != t276) a1_0 a1_1 a1_2 a1_3) else (laws_FnExactPutVersion.j0 k l0 t273 t276 t277 t284 t287 true a1_0 a1_1 a1_2 a1_3))) = some r := H
   have A18 := Aside0.mk A180
   clear A180
   have HC19 := Aside0.mk H
   clear H
   go_enter Try.func4, Try.ntmps4
   try go_wp2_with (first | ((with_reducible refine gate_dst (N := 3) rfl ?_); refine box_event ?hg (N := 3) ?hd (cs := #[.string a1_0, .int .i64 a1_1, .bool a1_2, .string a1_3]) (t := 41) ?hr ?_; (case hd => rfl); (case hg => rfl); (case hr => first | (go_simp; done) | (go_simp; rfl)); intro gb263 hg w20 hbox hb; have n0_ := Aside0.mk (below_step sq_b hb); have n1_ := Aside0.mk (hbox); have n2_ := Aside0.mk ((by rw [hg]; exact (below_size sq_b) : w.heap.size ≤ gb263)); have n3_ := Aside0.mk ((by rw [hg]; exact (below_size sq_b) : w.heap.size ≤ gb263)); clear HB; have HB := n0_; have BK263 := n1_; have GW263 := n2_; have GE263 := n3_; clear n0_ n1_ n2_ n3_; clear hb hbox hg) | ((with_reducible refine gate_callee (f := 22) rfl ?_); refine goesL_ (some 18) rfl rfl Try.func22 (by kernel_rfl) rfl #[.slice A0 l0.length c0, .int .i64 1048576] rfl (by (try simp only [List.map_toArray, List.map_cons, List.map_nil]); first | done | rfl | (simp only [List.length_drop, List.length_take]; rfl)) ?_; (with_reducible refine (laws_szVersionS.calls k _ _ l0 1048576 t264 _ ?side1 ?side2 A3.out).mono ?_); (case side1 => repeat (first | exact (Kd.C_below HR0.out HB.out) | (with_reducible refine Kd.C_alloc ?_ _) | (with_reducible refine Kd.C_drewN ?_ _) | (with_reducible refine Kd.C_drew ?_))); (case side2 => exact HC0.out); rintro e w21 ⟨rfl, hb⟩; refine ⟨_, rfl, ?_⟩; have n0_ := Aside0.mk (blk_below (g := gb263) (o := .cells #[.string a1_0, .int .i64 a1_1, .bool a1_2, .string a1_3] 41 (0, 0)) (sq_l BK263) hb); have n1_ := Aside0.mk (below_step (by repeat (first | (with_reducible first | exact HB.out | apply below_alloc | apply pw_below_drewN | apply below_drew1 | refine below_set ?_ GE263.out) | exact HB.out)) hb); clear BK263; clear HB; have BK263 := n0_; have HB := n1_; clear n0_ n1_; (try clear hb); (try clear hb2); (try clear hk); (try clear hi); have hcz22_0 : w21.cell? ⟨gb263, 0, none⟩ = some (.string a1_0) := (blk_cell BK263.out 0).trans rfl; have hcz22_1 : w21.cell? ⟨gb263, 1, none⟩ = some (.int .i64 a1_1) := (blk_cell BK263.out 1).trans rfl; have hcz22_2 : w21.cell? ⟨gb263, 2, none⟩ = some (.bool a1_2) := (blk_cell BK263.out 2).trans rfl; have hcz22_3 : w21.cell? ⟨gb263, 3, none⟩ = some (.string a1_3) := (blk_cell BK263.out 3).trans rfl; have hfz22_0 := blk_frozen BK263.out 0; have hfz22_1 := blk_frozen BK263.out 1; have hfz22_2 := blk_frozen BK263.out 2; have hfz22_3 := blk_frozen BK263.out 3) | ((with_reducible refine gate_callee (f := 23) rfl ?_); refine goesL_ (some 23) rfl rfl Try.func23 (by kernel_rfl) rfl #[.agg #[.string a1_0, .int .i64 a1_1, .bool a1_2, .string a1_3], .int .i64 t264] rfl (by (try simp only [List.map_toArray, List.map_cons, List.map_nil]); first | done | rfl | (simp only [List.length_drop, List.length_take]; rfl)) ?_; (with_reducible refine (laws_szVersion.calls a1_0 a1_1 a1_2 a1_3 t264 t265 _ A7.out).mono ?_); rintro e w23 ⟨rfl, hb⟩; refine ⟨_, rfl, ?_⟩; have n0_ := Aside0.mk (blk_below (g := gb263) (o := .cells #[.string a1_0, .int .i64 a1_1, .bool a1_2, .string a1_3] 41 (0, 0)) (sq_l BK263) hb); have n1_ := Aside0.mk (below_step (by repeat (first | (with_reducible first | exact HB.out | apply below_alloc | apply pw_below_drewN | apply below_drew1 | refine below_set ?_ GE263.out) | exact HB.out)) hb); clear BK263; clear HB; have BK263 := n0_; have HB := n1_; clear n0_ n1_; (try clear hb); (try clear hb2); (try clear hk); (try clear hi)))
   have n0_ := Aside0.mk (blk_drew BK263.out)
   have n1_ := Aside0.mk (below_drew1 HB.out)
   clear BK263
   clear HB
   have BK263 := n0_
   have HB := n1_
   clear n0_ n1_
   refine start_ (n := 10) (S := fun w' => w'.cell? ⟨gb263, 0, none⟩ = some (.string a1_0) ∧ w'.cell? ⟨gb263, 1, none⟩ = some (.int .i64 a1_1) ∧ w'.cell? ⟨gb263, 2, none⟩ = some (.bool a1_2) ∧ w'.cell? ⟨gb263, 3, none⟩ = some (.string a1_3)) (ds := []) #[false, false, false, false, false, false, false, false, false, false] (by kernel_rfl) rfl rfl ⟨(blk_cell BK263.out 0).trans rfl, (blk_cell BK263.out 1).trans rfl, (blk_cell BK263.out 2).trans rfl, (blk_cell BK263.out 3).trans rfl⟩ (fun hHeld => ?_); refine with_tabW laws_FnExactPutVersion.tab8 laws_FnExactPutVersion.bits8 (fun HT_ HW_ => ?_)
   generalize w23.drew = w24 at BK263 HB hHeld ⊢
   refine pu_ 0 (some 27) #[true, false, false, false, false, false, false, false, false, false] HT_ ?_
   refine take_ (i := 2) (N := some 29) (v := ?_) (a' := ?_) #[true, false, true, false, false, false, false, false, false, false] rfl rfl (take_ofW HT_.out HW_.out (by kernel_rfl)) (fun _ _ _ h => h) (Or.inl ⟨by rfl, ?_⟩) hHeld ?_ ?_
   rotate_left
   ·rintro w' ⟨s0, s1, s2, s3⟩
    go_simp
    with_reducible rfl
   rotate_left
   ·simp only [Act.put, List.setIfInBounds_toArray, List.set_cons_zero, List.set_cons_succ, i64_w, i32_w]
    rfl
   refine one_ (i := 1) (N := some 28) #[true, true, true, false, false, false, false, false, false, false] rfl rfl (one_of HT_.out (by kernel_rfl)) (by decide) (fun K hK => ?_)
   refine goes_ Try.func25 (by kernel_rfl) rfl #[.slice A0 l0.length c0] (by rfl) rfl rfl (by (try simp only [List.map_toArray, List.map_cons, List.map_nil]); first | done | rfl | (simp only [List.length_drop, List.length_take]; rfl)) ?_
   with_reducible refine (laws_toVersionS.calls k _ _ l0 t266 _ ?side1 ?side2 A13.out).mono ?_
   (case side1 => repeat (first | exact (Kd.C_below HR0.out HB.out) | (with_reducible refine Kd.C_alloc ?_ _) | (with_reducible refine Kd.C_drewN ?_ _) | (with_reducible refine Kd.C_drew ?_)))
   (case side2 => exact HC0.out)
   rintro e w25 ⟨v267, rfl, ho0, hb⟩
   refine ⟨_, rfl, ?_⟩
   have n0_ := Aside0.mk (Kd.R_lower ho0 (below_size (by repeat (first | (with_reducible first | exact HB.out | apply below_alloc | apply pw_below_drewN | apply below_drew1 | refine below_set ?_ GE263.out) | exact HB.out))))
   have n1_ := Aside0.mk (blk_below (g := gb263) (o := .cells #[.string a1_0, .int .i64 a1_1, .bool a1_2, .string a1_3] 41 (0, 0)) (sq_l BK263) hb)
   have n2_ := Aside0.mk (below_step (by repeat (first | (with_reducible first | exact HB.out | apply below_alloc | apply pw_below_drewN | apply below_drew1 | refine below_set ?_ GE263.out) | exact HB.out)) hb)
   clear BK263
   clear HB
   have HO268 := n0_
   have BK263 := n1_
   have HB := n2_
   clear n0_ n1_ n2_
   (try clear hb)
   (try clear hb2)
   (try clear hk)
   (try clear hi)
   (try clear ho0)
   refine hK.out _ _ ⟨(blk_cell BK263.out 0).trans rfl, (blk_cell BK263.out 1).trans rfl, (blk_cell BK263.out 2).trans rfl, (blk_cell BK263.out 3).trans rfl⟩ (fun hHeld => ?_)
   clear hK K
   refine norm_ (a' := ?_) ?_ ?_
   rotate_left
   ·show Act.put _ (some 28) _ = _
    simp only [Act.put, List.setIfInBounds_toArray, List.set_cons_zero, List.set_cons_succ, i64_w, i32_w]
    rfl
   refine one_ (i := 3) (N := some 30) #[true, true, true, true, false, false, false, false, false, false] rfl rfl (one_of HT_.out (by kernel_rfl)) (by decide) (fun K hK => ?_)
   refine goes_ Try.func26 (by kernel_rfl) rfl #[.agg #[.string a1_0, .int .i64 a1_1, .bool a1_2, .string a1_3]] (by rfl) rfl rfl (by (try simp only [List.map_toArray, List.map_cons, List.map_nil]); first | done | rfl | (simp only [List.length_drop, List.length_take]; rfl)) ?_
   with_reducible refine (laws_toVersion.calls a1_0 a1_1 a1_2 a1_3 t269 t270 t271 t272 _ A14.out).mono ?_
   rintro e w26 ⟨rfl, hb⟩
   refine ⟨_, rfl, ?_⟩
   have n0_ := Aside0.mk (Kd.R_below (sq_r HO268) hb)
   have n1_ := Aside0.mk (blk_below (g := gb263) (o := .cells #[.string a1_0, .int .i64 a1_1, .bool a1_2, .string a1_3] 41 (0, 0)) (sq_l BK263) hb)
   have n2_ := Aside0.mk (below_step (by repeat (first | (with_reducible first | exact HB.out | apply below_alloc | apply pw_below_drewN | apply below_drew1 | refine below_set ?_ GE263.out) | exact HB.out)) hb)
   clear HO268
   clear BK263
   clear HB
   have HO268 := n0_
   have BK263 := n1_
   have HB := n2_
   clear n0_ n1_ n2_
   (try clear hb)
   (try clear hb2)
   (try clear hk)
   (try clear hi)
   obtain ⟨Ao27, co27, eo27⟩ := Kd.R_slice HO268.out
   (first | subst eo27 | (injection eo27 with f1_ f2_ f3_; have f4_ := f1_.symm; have f5_ := f3_.symm; clear f1_ f2_ f3_; subst f4_; subst f5_))
   refine hK.out _ _ ⟨(blk_cell BK263.out 0).trans rfl, (blk_cell BK263.out 1).trans rfl, (blk_cell BK263.out 2).trans rfl, (blk_cell BK263.out 3).trans rfl⟩ (fun hHeld => ?_)
   clear hK K
   refine norm_ (a' := ?_) ?_ ?_
   rotate_left
   ·show Act.put _ (some 30) _ = _
    simp only [Act.put, List.setIfInBounds_toArray, List.set_cons_zero, List.set_cons_succ, i64_w, i32_w]
    rfl
   refine one_ (i := 4) (N := some 31) #[true, true, true, true, true, false, false, false, false, false] rfl rfl (one_of HT_.out (by kernel_rfl)) (by decide) (fun K hK => ?_)
   refine goes_ Try.func24 (by kernel_rfl) rfl #[.slice Ao27 t266.length co27, .agg #[.string t269, .int .i64 t270, .bool t271, .string t272]] (by rfl) rfl rfl (by (try simp only [List.map_toArray, List.map_cons, List.map_nil]); first | done | rfl | (simp only [List.length_drop, List.length_take]; rfl)) ?_
   with_reducible refine (spec_PutVersion.calls k _ _ t266 t269 t270 t271 t272 t273 t276 _ ?side1 ?side2 A15.out).mono ?_
   (case side1 => repeat (first | exact (Kd.R_reads' HO268.out).2.2 | (with_reducible refine Kd.C_alloc ?_ _) | (with_reducible refine Kd.C_drewN ?_ _) | (with_reducible refine Kd.C_drew ?_)))
   (case side2 => exact (Kd.R_reads' HO268.out).2.1)
   rintro e w28 ⟨v274, rfl, ho0, hb⟩
   refine ⟨_, rfl, ?_⟩
   have n0_ := Aside0.mk (Kd.R_elder' (sq_r HO268) (Kd.R_base ho0) hb)
   have n1_ := Aside0.mk (Kd.R_lower (Kd.R_new' ho0 (Kd.R_lt (sq_r HO268))) (below_size (by repeat (first | (with_reducible first | exact HB.out | apply below_alloc | apply pw_below_drewN | apply below_drew1 | refine below_set ?_ GE263.out) | exact HB.out))))
   have n2_ := Aside0.mk (blk_below (g := gb263) (o := .cells #[.string a1_0, .int .i64 a1_1, .bool a1_2, .string a1_3] 41 (0, 0)) (sq_l BK263) hb)
   have n3_ := Aside0.mk (below_step (by repeat (first | (with_reducible first | exact HB.out | apply below_alloc | apply pw_below_drewN | apply below_drew1 | refine below_set ?_ GE263.out) | exact HB.out)) hb)
   clear HO268
   clear BK263
   clear HB
   have HO268 := n0_
   have HO275 := n1_
   have BK263 := n2_
   have HB := n3_
   clear n0_ n1_ n2_ n3_
   (try clear hb)
   (try clear hb2)
   (try clear hk)
   (try clear hi)
   (try clear ho0)
   refine hK.out _ _ ⟨(blk_cell BK263.out 0).trans rfl, (blk_cell BK263.out 1).trans rfl, (blk_cell BK263.out 2).trans rfl, (blk_cell BK263.out 3).trans rfl⟩ (fun hHeld => ?_)
   clear hK K
   refine norm_ (a' := ?_) ?_ ?_
   rotate_left
   ·show Act.put _ (some 31) _ = _
    simp only [Act.put, List.setIfInBounds_toArray, List.set_cons_zero, List.set_cons_succ, i64_w, i32_w]
    rfl
   refine pu_ 5 (some 26) #[true, true, true, true, true, true, false, false, false, false] HT_ ?_
   refine pu_ 6 (some 32) #[true, true, true, true, true, true, true, false, false, false] HT_ ?_
   refine pu_ 7 (some 33) #[true, true, true, true, true, true, true, true, false, false] HT_ ?_
   refine pu_ 8 (some 6) #[true, true, true, true, true, true, true, true, true, false] HT_ ?_
   refine pu_ 9 (some 7) #[true, true, true, true, true, true, true, true, true, true] HT_ ?_
   refine done_ (done_of HT_.out (by kernel_rfl)) ?_
   go_upto_region 11 with (first | ((with_reducible refine gate_callee (f := 25) rfl ?_); refine goesL_ (some 35) rfl rfl Try.func25 (by kernel_rfl) rfl #[.slice A0 l0.length c0] rfl (by (try simp only [List.map_toArray, List.map_cons, List.map_nil]); first | done | rfl | (simp only [List.length_drop, List.length_take]; rfl)) ?_; (with_reducible refine (laws_toVersionS.calls k _ _ l0 t277 _ ?side1 ?side2 A16.out).mono ?_); (case side1 => repeat (first | exact (Kd.C_below HR0.out HB.out) | (with_reducible refine Kd.C_alloc ?_ _) | (with_reducible refine Kd.C_drewN ?_ _) | (with_reducible refine Kd.C_drew ?_))); (case side2 => exact HC0.out); rintro e w29 ⟨v278, rfl, ho0, hb⟩; refine ⟨_, rfl, ?_⟩; have n0_ := Aside0.mk (Kd.R_elder' (sq_r HO268) (Kd.R_base ho0) hb); have n1_ := Aside0.mk (Kd.R_elder' (sq_r HO275) (Kd.R_base ho0) hb); have n2_ := Aside0.mk (Kd.R_lower (Kd.R_new' (Kd.R_new' ho0 (Kd.R_lt (sq_r HO268))) (Kd.R_lt (sq_r HO275))) (below_size (by repeat (first | (with_reducible first | exact HB.out | apply below_alloc | apply pw_below_drewN | apply below_drew1 | refine below_set ?_ GE263.out) | exact HB.out)))); have n3_ := Aside0.mk (blk_below (g := gb263) (o := .cells #[.string a1_0, .int .i64 a1_1, .bool a1_2, .string a1_3] 41 (0, 0)) (sq_l BK263) hb); have n4_ := Aside0.mk (below_step (by repeat (first | (with_reducible first | exact HB.out | apply below_alloc | apply pw_below_drewN | apply below_drew1 | refine below_set ?_ GE263.out) | exact HB.out)) hb); clear HO268; clear HO275; clear BK263; clear HB; have HO268 := n0_; have HO275 := n1_; have HO279 := n2_; have BK263 := n3_; have HB := n4_; clear n0_ n1_ n2_ n3_ n4_; (try clear hb); (try clear hb2); (try clear hk); (try clear hi); (try clear ho0); have hcz30_0 : w29.cell? ⟨gb263, 0, none⟩ = some (.string a1_0) := (blk_cell BK263.out 0).trans rfl; have hcz30_1 : w29.cell? ⟨gb263, 1, none⟩ = some (.int .i64 a1_1) := (blk_cell BK263.out 1).trans rfl; have hcz30_2 : w29.cell? ⟨gb263, 2, none⟩ = some (.bool a1_2) := (blk_cell BK263.out 2).trans rfl; have hcz30_3 : w29.cell? ⟨gb263, 3, none⟩ = some (.string a1_3) := (blk_cell BK263.out 3).trans rfl; have hfz30_0 := blk_frozen BK263.out 0; have hfz30_1 := blk_frozen BK263.out 1; have hfz30_2 := blk_frozen BK263.out 2; have hfz30_3 := blk_frozen BK263.out 3) | ((with_reducible refine gate_callee (f := 26) rfl ?_); refine goesL_ (some 39) rfl rfl Try.func26 (by kernel_rfl) rfl #[.agg #[.string a1_0, .int .i64 a1_1, .bool a1_2, .string a1_3]] rfl (by (try simp only [List.map_toArray, List.map_cons, List.map_nil]); first | done | rfl | (simp only [List.length_drop, List.length_take]; rfl)) ?_; (with_reducible refine (laws_toVersion.calls a1_0 a1_1 a1_2 a1_3 t280 t281 t282 t283 _ A17.out).mono ?_); rintro e w31 ⟨rfl, hb⟩; refine ⟨_, rfl, ?_⟩; have n0_ := Aside0.mk (Kd.R_below (sq_r HO268) hb); have n1_ := Aside0.mk (Kd.R_below (sq_r HO275) hb); have n2_ := Aside0.mk (Kd.R_below (sq_r HO279) hb); have n3_ := Aside0.mk (blk_below (g := gb263) (o := .cells #[.string a1_0, .int .i64 a1_1, .bool a1_2, .string a1_3] 41 (0, 0)) (sq_l BK263) hb); have n4_ := Aside0.mk (below_step (by repeat (first | (with_reducible first | exact HB.out | apply below_alloc | apply pw_below_drewN | apply below_drew1 | refine below_set ?_ GE263.out) | exact HB.out)) hb); clear HO268; clear HO275; clear HO279; clear BK263; clear HB; have HO268 := n0_; have HO275 := n1_; have HO279 := n2_; have BK263 := n3_; have HB := n4_; clear n0_ n1_ n2_ n3_ n4_; (try clear hb); (try clear hb2); (try clear hk); (try clear hi); obtain ⟨Ao32, co32, eo32⟩ := Kd.R_slice HO279.out; subst eo32) | ((with_reducible refine gate_callee (f := 27) rfl ?_); refine goesL_ (some 40) rfl rfl Try.func27 (by kernel_rfl) rfl #[.slice Ao32 t277.length co32, .agg #[.string t280, .int .i64 t281, .bool t282, .string t283]] rfl (by (try simp only [List.map_toArray, List.map_cons, List.map_nil]); first | done | rfl | (simp only [List.length_drop, List.length_take]; rfl)) ?_; (with_reducible refine (impl_PutVersion.calls k _ _ t277 t280 t281 t282 t283 t284 t287 _ ?side1 ?side2 A18.out).mono ?_); (case side1 => repeat (first | exact (Kd.R_reads' HO279.out).2.2 | (with_reducible refine Kd.C_alloc ?_ _) | (with_reducible refine Kd.C_drewN ?_ _) | (with_reducible refine Kd.C_drew ?_))); (case side2 => exact (Kd.R_reads' HO279.out).2.1); rintro e w33 ⟨v285, rfl, ho0, hb⟩; refine ⟨_, rfl, ?_⟩; have n0_ := Aside0.mk (Kd.R_elder' (sq_r HO268) (Kd.R_base ho0) hb); have n1_ := Aside0.mk (Kd.R_elder' (sq_r HO275) (Kd.R_base ho0) hb); have n2_ := Aside0.mk (Kd.R_elder' (sq_r HO279) (Kd.R_base ho0) hb); have n3_ := Aside0.mk (Kd.R_lower (Kd.R_new' (Kd.R_new' (Kd.R_new' ho0 (Kd.R_lt (sq_r HO268))) (Kd.R_lt (sq_r HO275))) (Kd.R_lt (sq_r HO279))) (below_size (by repeat (first | (with_reducible first | exact HB.out | apply below_alloc | apply pw_below_drewN | apply below_drew1 | refine below_set ?_ GE263.out) | exact HB.out)))); have n4_ := Aside0.mk (blk_below (g := gb263) (o := .cells #[.string a1_0, .int .i64 a1_1, .bool a1_2, .string a1_3] 41 (0, 0)) (sq_l BK263) hb); have n5_ := Aside0.mk (below_step (by repeat (first | (with_reducible first | exact HB.out | apply below_alloc | apply pw_below_drewN | apply below_drew1 | refine below_set ?_ GE263.out) | exact HB.out)) hb); clear HO268; clear HO275; clear HO279; clear BK263; clear HB; have HO268 := n0_; have HO275 := n1_; have HO279 := n2_; have HO286 := n3_; have BK263 := n4_; have HB := n5_; clear n0_ n1_ n2_ n3_ n4_ n5_; (try clear hb); (try clear hb2); (try clear hk); (try clear hi); (try clear ho0)))
   (try simp only [Act.put, List.setIfInBounds_toArray, List.set_cons_zero, List.set_cons_succ])
   go_cut [51] (fun v51 wc => ∃ (kq : Nat) (x51_18 : Bool), v51 = .bool x51_18 ∧ Aside0 (laws_FnExactPutVersion.j0 kq l0 t273 t276 t277 t284 t287 x51_18 a1_0 a1_1 a1_2 a1_3 = some r) ∧ Aside0 (kq ≤ k) ∧ Aside0 (Kd.R k48 48 wc w.heap.size (fun k_ => some k_ ≠ ((.slice Ao32 t277.length co32) : Value).ownBlock ∧ some k_ ≠ (v285 : Value).ownBlock) v274 t273) ∧ Aside0 (Kd.R k48 48 wc w.heap.size (fun k_ => some k_ ≠ (v274 : Value).ownBlock ∧ some k_ ≠ (v285 : Value).ownBlock) (.slice Ao32 t277.length co32) t277) ∧ Aside0 (Kd.R k48 48 wc w.heap.size (fun k_ => some k_ ≠ (v274 : Value).ownBlock ∧ some k_ ≠ ((.slice Ao32 t277.length co32) : Value).ownBlock) v285 t284) ∧ Aside0 (wc.heap[gb263]? = some (.cells #[.string a1_0, .int .i64 a1_1, .bool a1_2, .string a1_3] 41 (0, 0))) ∧ Aside0 (Below w.heap.size w wc))
   case first =>
    have H := HC19.out
    clear HC19
    replace H := Option.bind_eq_some_iff.mp H
    obtain ⟨t288, A340, H⟩ := H
    replace H : (if t288 = true then (laws_FnExactPutVersion.j0 k l0 t273 t276 t277 t284 t287 (t287 != t276) a1_0 a1_1 a1_2 a1_3) else (laws_FnExactPutVersion.j0 k l0 t273 t276 t277 t284 t287 true a1_0 a1_1 a1_2 a1_3)) = some r := H
    have A34 := Aside0.mk A340
    clear A340
    by_cases c35 : t288 = true
    ·subst c35
     have H1 : (laws_FnExactPutVersion.j0 k l0 t273 t276 t277 t284 t287 (t287 != t276) a1_0 a1_1 a1_2 a1_3) = some r := by rw [if_pos rfl] at H; exact H
     clear H
     have H := H1
     clear H1
     have H' := Aside0.mk H
     clear H
     obtain ⟨Ao36, co36, eo36⟩ := Kd.R_slice HO286.out
     subst eo36
     obtain ⟨Ao37, co37, eo37⟩ := Kd.R_slice HO275.out
     subst eo37
     go_wp2_with (first | ((with_reducible refine gate_callee (f := 28) rfl ?_); refine goesL_ (some 45) rfl rfl Try.func28 (by kernel_rfl) rfl #[.slice Ao36 t284.length co36, .slice Ao37 t273.length co37] rfl (by (try simp only [List.map_toArray, List.map_cons, List.map_nil]); first | done | rfl | (simp only [List.length_drop, List.length_take]; rfl)) ?_; (with_reducible refine (laws_eqVersionS.calls k _ _ t284 _ _ t273 true _ ?side1 ?side2 ?side3 ?side4 A34.out).mono ?_); (case side1 => repeat (first | exact (Kd.R_reads' HO286.out).2.2 | (with_reducible refine Kd.C_alloc ?_ _) | (with_reducible refine Kd.C_drewN ?_ _) | (with_reducible refine Kd.C_drew ?_))); (case side2 => exact (Kd.R_reads' HO286.out).2.1); (case side3 => repeat (first | exact (Kd.R_reads' HO275.out).2.2 | (with_reducible refine Kd.C_alloc ?_ _) | (with_reducible refine Kd.C_drewN ?_ _) | (with_reducible refine Kd.C_drew ?_))); (case side4 => exact (Kd.R_reads' HO275.out).2.1); rintro e w38 ⟨rfl, hb⟩; refine ⟨_, rfl, ?_⟩; have n0_ := Aside0.mk (Kd.R_below (sq_r HO268) hb); have n1_ := Aside0.mk (Kd.R_below (sq_r HO275) hb); have n2_ := Aside0.mk (Kd.R_below (sq_r HO279) hb); have n3_ := Aside0.mk (Kd.R_below (sq_r HO286) hb); have n4_ := Aside0.mk (blk_below (g := gb263) (o := .cells #[.string a1_0, .int .i64 a1_1, .bool a1_2, .string a1_3] 41 (0, 0)) (sq_l BK263) hb); have n5_ := Aside0.mk (below_step (by repeat (first | (with_reducible first | exact HB.out | apply below_alloc | apply pw_below_drewN | apply below_drew1 | refine below_set ?_ GE263.out) | exact HB.out)) hb); clear HO268; clear HO275; clear HO279; clear HO286; clear BK263; clear HB; have HO268 := n0_; have HO275 := n1_; have HO279 := n2_; have HO286 := n3_; have BK263 := n4_; have HB := n5_; clear n0_ n1_ n2_ n3_ n4_ n5_; (try clear hb); (try clear hb2); (try clear hk); (try clear hi)))
     go_meet
     case rel => exact ⟨_, ((t287 != t276)), sq_e, H', ⟨by first | omega | exact Nat.le_refl _⟩, ⟨by (with_reducible repeat (first | apply Kd.R_alloc | apply Kd.R_drewN | apply Kd.R_drew)); exact Kd.R_mono HO275.out (fun _ hk => ⟨hk.1.2, hk.2⟩)⟩, ⟨by (with_reducible repeat (first | apply Kd.R_alloc | apply Kd.R_drewN | apply Kd.R_drew)); exact Kd.R_mono HO279.out (fun _ hk => ⟨hk.1.2, hk.2⟩)⟩, ⟨by (with_reducible repeat (first | apply Kd.R_alloc | apply Kd.R_drewN | apply Kd.R_drew)); exact Kd.R_mono HO286.out (fun _ hk => ⟨hk.1.2, hk.2⟩)⟩, ⟨by (with_reducible repeat (first | refine blk_drewN ?_ _ | refine blk_drew ?_ | refine blk_alloc ?_ _)); exact BK263.out⟩, ⟨by repeat (first | (with_reducible first | exact HB.out | apply below_alloc | apply pw_below_drewN | apply below_drew1 | refine below_set ?_ GE263.out) | exact HB.out)⟩⟩
    ·replace c35 := Bool.eq_false_iff.mpr c35
     subst c35
     have H1 : (laws_FnExactPutVersion.j0 k l0 t273 t276 t277 t284 t287 true a1_0 a1_1 a1_2 a1_3) = some r := by rw [if_neg (show ¬ (false = true) by decide)] at H; exact H
     clear H
     have H := H1
     clear H1
     have H' := Aside0.mk H
     clear H
     obtain ⟨Ao39, co39, eo39⟩ := Kd.R_slice HO286.out
     subst eo39
     obtain ⟨Ao40, co40, eo40⟩ := Kd.R_slice HO275.out
     subst eo40
     go_wp2_with (first | ((with_reducible refine gate_callee (f := 28) rfl ?_); refine goesL_ (some 45) rfl rfl Try.func28 (by kernel_rfl) rfl #[.slice Ao39 t284.length co39, .slice Ao40 t273.length co40] rfl (by (try simp only [List.map_toArray, List.map_cons, List.map_nil]); first | done | rfl | (simp only [List.length_drop, List.length_take]; rfl)) ?_; (with_reducible refine (laws_eqVersionS.calls k _ _ t284 _ _ t273 false _ ?side1 ?side2 ?side3 ?side4 A34.out).mono ?_); (case side1 => repeat (first | exact (Kd.R_reads' HO286.out).2.2 | (with_reducible refine Kd.C_alloc ?_ _) | (with_reducible refine Kd.C_drewN ?_ _) | (with_reducible refine Kd.C_drew ?_))); (case side2 => exact (Kd.R_reads' HO286.out).2.1); (case side3 => repeat (first | exact (Kd.R_reads' HO275.out).2.2 | (with_reducible refine Kd.C_alloc ?_ _) | (with_reducible refine Kd.C_drewN ?_ _) | (with_reducible refine Kd.C_drew ?_))); (case side4 => exact (Kd.R_reads' HO275.out).2.1); rintro e w41 ⟨rfl, hb⟩; refine ⟨_, rfl, ?_⟩; have n0_ := Aside0.mk (Kd.R_below (sq_r HO268) hb); have n1_ := Aside0.mk (Kd.R_below (sq_r HO275) hb); have n2_ := Aside0.mk (Kd.R_below (sq_r HO279) hb); have n3_ := Aside0.mk (Kd.R_below (sq_r HO286) hb); have n4_ := Aside0.mk (blk_below (g := gb263) (o := .cells #[.string a1_0, .int .i64 a1_1, .bool a1_2, .string a1_3] 41 (0, 0)) (sq_l BK263) hb); have n5_ := Aside0.mk (below_step (by repeat (first | (with_reducible first | exact HB.out | apply below_alloc | apply pw_below_drewN | apply below_drew1 | refine below_set ?_ GE263.out) | exact HB.out)) hb); clear HO268; clear HO275; clear HO279; clear HO286; clear BK263; clear HB; have HO268 := n0_; have HO275 := n1_; have HO279 := n2_; have HO286 := n3_; have BK263 := n4_; have HB := n5_; clear n0_ n1_ n2_ n3_ n4_ n5_; (try clear hb); (try clear hb2); (try clear hk); (try clear hi)))
     go_meet
     case rel => exact ⟨_, (true), sq_e, H', ⟨by first | omega | exact Nat.le_refl _⟩, ⟨by (with_reducible repeat (first | apply Kd.R_alloc | apply Kd.R_drewN | apply Kd.R_drew)); exact Kd.R_mono HO275.out (fun _ hk => ⟨hk.1.2, hk.2⟩)⟩, ⟨by (with_reducible repeat (first | apply Kd.R_alloc | apply Kd.R_drewN | apply Kd.R_drew)); exact Kd.R_mono HO279.out (fun _ hk => ⟨hk.1.2, hk.2⟩)⟩, ⟨by (with_reducible repeat (first | apply Kd.R_alloc | apply Kd.R_drewN | apply Kd.R_drew)); exact Kd.R_mono HO286.out (fun _ hk => ⟨hk.1.2, hk.2⟩)⟩, ⟨by (with_reducible repeat (first | refine blk_drewN ?_ _ | refine blk_drew ?_ | refine blk_alloc ?_ _)); exact BK263.out⟩, ⟨by repeat (first | (with_reducible first | exact HB.out | apply below_alloc | apply pw_below_drewN | apply below_drew1 | refine below_set ?_ GE263.out) | exact HB.out)⟩⟩
   case rest =>
    clear HC19
    (try clear c2); (try clear p2); (try clear c3); (try clear c4); (try clear c4b0); (try clear c8); (try clear c8b0); (try clear c22); (try clear c23); (try clear c24); (try clear c25); (try clear c26); (try clear c27); (try clear c28); (try clear c35); (try clear hcz11_0); (try clear hcz11_1); (try clear hcz11_2); (try clear hcz11_3); (try clear hcz22_0); (try clear hcz22_1); (try clear hcz22_2)
    (try clear hcz22_3); (try clear hcz30_0); (try clear hcz30_1); (try clear hcz30_2); (try clear hcz30_3); (try clear hfz11_0); (try clear hfz11_1); (try clear hfz11_2); (try clear hfz11_3); (try clear hfz22_0); (try clear hfz22_1); (try clear hfz22_2); (try clear hfz22_3); (try clear hfz30_0); (try clear hfz30_1); (try clear hfz30_2); (try clear hfz30_3)
    obtain ⟨kq, x51_18, rfl, HA, HJ18, HO_6, HO_8, HO_9, BK263, HB⟩ := hcut
    cases kq with
    | zero => exact absurd HA.out (by simp [laws_FnExactPutVersion.j0])
    | succ kj18 =>
     have H := HA.out
     clear HA
     simp only [laws_FnExactPutVersion.j0] at H
     by_cases c42 : x51_18 = true
     ·subst c42
      have H1 : (some false) = some r := by rw [if_pos rfl] at H; exact H
      clear H
      have H := H1
      clear H1
      obtain rfl := Option.some.inj H
      go_wp2
      go_ret
      exact ⟨sq_w, by repeat (first | (with_reducible first | exact HB.out | apply below_alloc | apply pw_below_drewN | apply below_drew1 | refine below_set ?_ GE263.out) | exact HB.out)⟩
     ·replace c42 := Bool.eq_false_iff.mpr c42
      subst c42
      have H1 : ((laws_toVersionS.f kj18 l0).bind fun t289 => ((laws_eqVersionS.f kj18 t277 t289).bind fun t292 => (if t292 = true then ((laws_markVersionS.f kj18 t277 1).bind fun bt293 => (if bt293.1 < 0 then (laws_FnExactPutVersion.j1 kj18 l0 t273 t276 t284 true a1_0 a1_1 a1_2 a1_3) else ((laws_eqVersionS.f kj18 t284 t273).bind fun t295 => (if t295 = true then (laws_FnExactPutVersion.j1 kj18 l0 t273 t276 t284 (t287 != t276) a1_0 a1_1 a1_2 a1_3) else (laws_FnExactPutVersion.j1 kj18 l0 t273 t276 t284 true a1_0 a1_1 a1_2 a1_3))))) else (some false)))) = some r := by rw [if_neg (show ¬ (false = true) by decide)] at H; exact H
      clear H
      have H := H1
      clear H1
      replace H := Option.bind_eq_some_iff.mp H
      obtain ⟨t289, A430, H⟩ := H
      replace H : ((laws_eqVersionS.f kj18 t277 t289).bind fun t292 => (if t292 = true then ((laws_markVersionS.f kj18 t277 1).bind fun bt293 => (if bt293.1 < 0 then (laws_FnExactPutVersion.j1 kj18 l0 t273 t276 t284 true a1_0 a1_1 a1_2 a1_3) else ((laws_eqVersionS.f kj18 t284 t273).bind fun t295 => (if t295 = true then (laws_FnExactPutVersion.j1 kj18 l0 t273 t276 t284 (t287 != t276) a1_0 a1_1 a1_2 a1_3) else (laws_FnExactPutVersion.j1 kj18 l0 t273 t276 t284 true a1_0 a1_1 a1_2 a1_3))))) else (some false))) = some r := H
      have A43 := Aside0.mk A430
      clear A430
      replace H := Option.bind_eq_some_iff.mp H
      obtain ⟨t292, A440, H⟩ := H
      replace H : (if t292 = true then ((laws_markVersionS.f kj18 t277 1).bind fun bt293 => (if bt293.1 < 0 then (laws_FnExactPutVersion.j1 kj18 l0 t273 t276 t284 true a1_0 a1_1 a1_2 a1_3) else ((laws_eqVersionS.f kj18 t284 t273).bind fun t295 => (if t295 = true then (laws_FnExactPutVersion.j1 kj18 l0 t273 t276 t284 (t287 != t276) a1_0 a1_1 a1_2 a1_3) else (laws_FnExactPutVersion.j1 kj18 l0 t273 t276 t284 true a1_0 a1_1 a1_2 a1_3))))) else (some false)) = some r := H
      have A44 := Aside0.mk A440
      clear A440
      by_cases c45 : t292 = true
      ·subst c45
       have H1 : ((laws_markVersionS.f kj18 t277 1).bind fun bt293 => (if bt293.1 < 0 then (laws_FnExactPutVersion.j1 kj18 l0 t273 t276 t284 true a1_0 a1_1 a1_2 a1_3) else ((laws_eqVersionS.f kj18 t284 t273).bind fun t295 => (if t295 = true then (laws_FnExactPutVersion.j1 kj18 l0 t273 t276 t284 (t287 != t276) a1_0 a1_1 a1_2 a1_3) else (laws_FnExactPutVersion.j1 kj18 l0 t273 t276 t284 true a1_0 a1_1 a1_2 a1_3))))) = some r := by rw [if_pos rfl] at H; exact H
       clear H
       have H := H1
       clear H1
       replace H := Option.bind_eq_some_iff.mp H
       obtain ⟨⟨t293, t294⟩, A460, H⟩ := H
       replace H : (if t293 < 0 then (laws_FnExactPutVersion.j1 kj18 l0 t273 t276 t284 true a1_0 a1_1 a1_2 a1_3) else ((laws_eqVersionS.f kj18 t284 t273).bind fun t295 => (if t295 = true then (laws_FnExactPutVersion.j1 kj18 l0 t273 t276 t284 (t287 != t276) a1_0 a1_1 a1_2 a1_3) else (laws_FnExactPutVersion.j1 kj18 l0 t273 t276 t284 true a1_0 a1_1 a1_2 a1_3)))) = some r := H
       have A46 := Aside0.mk A460
       clear A460
       have HC47 := Aside0.mk H
       clear H
       go_upto_region 17 with (first | ((with_reducible refine gate_callee (f := 25) rfl ?_); refine goesL_ (some 54) rfl rfl Try.func25 (by kernel_rfl) rfl #[.slice A0 l0.length c0] rfl (by (try simp only [List.map_toArray, List.map_cons, List.map_nil]); first | done | rfl | (simp only [List.length_drop, List.length_take]; rfl)) ?_; (with_reducible refine (laws_toVersionS.calls kj18 _ _ l0 t289 _ ?side1 ?side2 A43.out).mono ?_); (case side1 => repeat (first | exact (Kd.C_below HR0.out HB.out) | (with_reducible refine Kd.C_alloc ?_ _) | (with_reducible refine Kd.C_drewN ?_ _) | (with_reducible refine Kd.C_drew ?_))); (case side2 => exact HC0.out); rintro e w48 ⟨v290, rfl, ho0, hb⟩; refine ⟨_, rfl, ?_⟩; have n0_ := Aside0.mk (Kd.R_elder' (sq_r HO_6) (Kd.R_base ho0) hb); have n1_ := Aside0.mk (Kd.R_elder' (sq_r HO_8) (Kd.R_base ho0) hb); have n2_ := Aside0.mk (Kd.R_elder' (sq_r HO_9) (Kd.R_base ho0) hb); have n3_ := Aside0.mk (Kd.R_lower (Kd.R_new' (Kd.R_new' (Kd.R_new' ho0 (Kd.R_lt (sq_r HO_6))) (Kd.R_lt (sq_r HO_8))) (Kd.R_lt (sq_r HO_9))) (below_size (by repeat (first | (with_reducible first | exact HB.out | apply below_alloc | apply pw_below_drewN | apply below_drew1 | refine below_set ?_ GE263.out) | exact HB.out)))); have n4_ := Aside0.mk (blk_below (g := gb263) (o := .cells #[.string a1_0, .int .i64 a1_1, .bool a1_2, .string a1_3] 41 (0, 0)) (sq_l BK263) hb); have n5_ := Aside0.mk (below_step (by repeat (first | (with_reducible first | exact HB.out | apply below_alloc | apply pw_below_drewN | apply below_drew1 | refine below_set ?_ GE263.out) | exact HB.out)) hb); clear HO_6; clear HO_8; clear HO_9; clear BK263; clear HB; have HO_6 := n0_; have HO_8 := n1_; have HO_9 := n2_; have HO291 := n3_; have BK263 := n4_; have HB := n5_; clear n0_ n1_ n2_ n3_ n4_ n5_; (try clear hb); (try clear hb2); (try clear hk); (try clear hi); (try clear ho0); obtain ⟨Ao49, co49, eo49⟩ := Kd.R_slice HO291.out; subst eo49) | ((with_reducible refine gate_callee (f := 28) rfl ?_); refine goesL_ (some 55) rfl rfl Try.func28 (by kernel_rfl) rfl #[.slice Ao32 t277.length co32, .slice Ao49 t289.length co49] rfl (by (try simp only [List.map_toArray, List.map_cons, List.map_nil]); first | done | rfl | (simp only [List.length_drop, List.length_take]; rfl)) ?_; (with_reducible refine (laws_eqVersionS.calls kj18 _ _ t277 _ _ t289 true _ ?side1 ?side2 ?side3 ?side4 A44.out).mono ?_); (case side1 => repeat (first | exact (Kd.R_reads' HO_8.out).2.2 | (with_reducible refine Kd.C_alloc ?_ _) | (with_reducible refine Kd.C_drewN ?_ _) | (with_reducible refine Kd.C_drew ?_))); (case side2 => exact (Kd.R_reads' HO_8.out).2.1); (case side3 => repeat (first | exact (Kd.R_reads' HO291.out).2.2 | (with_reducible refine Kd.C_alloc ?_ _) | (with_reducible refine Kd.C_drewN ?_ _) | (with_reducible refine Kd.C_drew ?_))); (case side4 => exact (Kd.R_reads' HO291.out).2.1); rintro e w50 ⟨rfl, hb⟩; refine ⟨_, rfl, ?_⟩; have n0_ := Aside0.mk (Kd.R_below (sq_r HO_6) hb); have n1_ := Aside0.mk (Kd.R_below (sq_r HO_8) hb); have n2_ := Aside0.mk (Kd.R_below (sq_r HO_9) hb); have n3_ := Aside0.mk (Kd.R_below (sq_r HO291) hb); have n4_ := Aside0.mk (blk_below (g := gb263) (o := .cells #[.string a1_0, .int .i64 a1_1, .bool a1_2, .string a1_3] 41 (0, 0)) (sq_l BK263) hb); have n5_ := Aside0.mk (below_step (by repeat (first | (with_reducible first | exact HB.out | apply below_alloc | apply pw_below_drewN | apply below_drew1 | refine below_set ?_ GE263.out) | exact HB.out)) hb); clear HO_6; clear HO_8; clear HO_9; clear HO291; clear BK263; clear HB; have HO_6 := n0_; have HO_8 := n1_; have HO_9 := n2_; have HO291 := n3_; have BK263 := n4_; have HB := n5_; clear n0_ n1_ n2_ n3_ n4_ n5_; (try clear hb); (try clear hb2); (try clear hk); (try clear hi)) | ((with_reducible refine gate_callee (f := 29) rfl ?_); refine goesL_ (some 59) rfl rfl Try.func29 (by kernel_rfl) rfl #[.slice Ao32 t277.length co32, .int .i64 1] rfl (by (try simp only [List.map_toArray, List.map_cons, List.map_nil]); first | done | rfl | (simp only [List.length_drop, List.length_take]; rfl)) ?_; (with_reducible refine (laws_markVersionS.calls kj18 (fun k_ => some k_ = (.slice Ao32 t277.length co32 : Value).ownBlock) (.slice Ao32 t277.length co32) t277 1 t293 t294 w _ ?side1 ?side2 A46.out).mono ?_); (case side1 => repeat (first | (with_reducible first | exact HB.out | apply below_alloc | apply pw_below_drewN | apply below_drew1 | refine below_set ?_ GE263.out) | exact HB.out)); (case side2 => exact Kd.R_tight rfl HO_8.out); rintro e w51 ⟨rfl, hy0, hb, hkp⟩; refine ⟨_, rfl, ?_⟩; have n0_ := Aside0.mk (Kd.R_mono (ok' := fun k_ => some k_ ≠ (.slice Ao32 t277.length co32 : Value).ownBlock ∧ some k_ ≠ (v285 : Value).ownBlock ∧ some k_ ≠ (.slice Ao49 t289.length co49 : Value).ownBlock) (Kd.R_keptB (HO_6.out) hkp (fun k_ hk_ hs_ => (hk_.1.1) hs_)) (fun k_ hk_ => ⟨hk_.1.1.1, hk_.1.1.2, hk_.1.2⟩)); have n1_ := Aside0.mk (Kd.R_reok rfl hy0 (fun k_ e_ => HO_8.out.1 k_ e_)); have n2_ := Aside0.mk (Kd.R_mono (ok' := fun k_ => some k_ ≠ (v274 : Value).ownBlock ∧ some k_ ≠ (.slice Ao32 t277.length co32 : Value).ownBlock ∧ some k_ ≠ (.slice Ao49 t289.length co49 : Value).ownBlock) (Kd.R_keptB (HO_9.out) hkp (fun k_ hk_ hs_ => (hk_.1.2) hs_)) (fun k_ hk_ => ⟨hk_.1.1.1, hk_.1.1.2, hk_.1.2⟩)); have n3_ := Aside0.mk (blk_kept (sq_l BK263) hkp (fun hs_ => (fun e_ => (Kd.R_ne HO_8.out BK263.out (by decide)) e_) hs_)); have n4_ := Aside0.mk (Kd.R_mono (ok' := fun k_ => some k_ ≠ (v274 : Value).ownBlock ∧ some k_ ≠ (.slice Ao32 t277.length co32 : Value).ownBlock ∧ some k_ ≠ (v285 : Value).ownBlock) (Kd.R_keptB (HO291.out) hkp (fun k_ hk_ hs_ => (hk_.1.2) hs_)) (fun k_ hk_ => ⟨hk_.1.1.1.2, hk_.1.1.2, hk_.1.2⟩)); have n5_ := Aside0.mk (hb); clear HO_6; clear HO_8; clear HO_9; clear BK263; clear HO291; clear HB; have HO_6 := n0_; have HO_8 := n1_; have HO_9 := n2_; have BK263 := n3_; have HO291 := n4_; have HB := n5_; clear n0_ n1_ n2_ n3_ n4_ n5_; (try clear hb); (try clear hkp); (try clear hy0)))
       (try simp only [Act.put, List.setIfInBounds_toArray, List.set_cons_zero, List.set_cons_succ])
       go_cut [72] (fun v72 wc => ∃ (kq : Nat) (x72_46 : Bool), v72 = .bool x72_46 ∧ Aside0 (laws_FnExactPutVersion.j1 kq l0 t273 t276 t284 x72_46 a1_0 a1_1 a1_2 a1_3 = some r) ∧ Aside0 (kq ≤ kj18) ∧ Aside0 (Kd.R k48 48 wc w.heap.size (fun k_ => some k_ ≠ (v285 : Value).ownBlock) v274 t273) ∧ Aside0 (Kd.R k48 48 wc w.heap.size (fun k_ => some k_ ≠ (v274 : Value).ownBlock) v285 t284) ∧ Aside0 (wc.heap[gb263]? = some (.cells #[.string a1_0, .int .i64 a1_1, .bool a1_2, .string a1_3] 41 (0, 0))) ∧ Aside0 (Below w.heap.size w wc))
       case first =>
        have H := HC47.out
        clear HC47
        by_cases c52 : t293 < 0
        ·rw [if_pos c52] at H
         have c52b0 : decide (t293 < 0) = true := decide_eq_true c52
         clear c52
         (first | rw [c52b0] | (simp only [i64_w, i32_w]; rw [c52b0]) | skip)
         have H' := Aside0.mk H
         clear H
         go_wp2
         go_meet
         case rel => exact ⟨_, (true), sq_e, H', ⟨by have := HJ18.out; first | omega | exact Nat.le_refl _⟩, ⟨by (with_reducible repeat (first | apply Kd.R_alloc | apply Kd.R_drewN | apply Kd.R_drew)); exact Kd.R_mono HO_6.out (fun _ hk => hk.2.1)⟩, ⟨by (with_reducible repeat (first | apply Kd.R_alloc | apply Kd.R_drewN | apply Kd.R_drew)); exact Kd.R_mono HO_9.out (fun _ hk => hk.1)⟩, ⟨by (with_reducible repeat (first | refine blk_drewN ?_ _ | refine blk_drew ?_ | refine blk_alloc ?_ _)); exact BK263.out⟩, ⟨by repeat (first | (with_reducible first | exact HB.out | apply below_alloc | apply pw_below_drewN | apply below_drew1 | refine below_set ?_ GE263.out) | exact HB.out)⟩⟩
        ·rw [if_neg c52] at H
         have c52b0 : decide (t293 < 0) = false := decide_eq_false c52
         clear c52
         (first | rw [c52b0] | (simp only [i64_w, i32_w]; rw [c52b0]) | skip)
         replace H := Option.bind_eq_some_iff.mp H
         obtain ⟨t295, A530, H⟩ := H
         replace H : (if t295 = true then (laws_FnExactPutVersion.j1 kj18 l0 t273 t276 t284 (t287 != t276) a1_0 a1_1 a1_2 a1_3) else (laws_FnExactPutVersion.j1 kj18 l0 t273 t276 t284 true a1_0 a1_1 a1_2 a1_3)) = some r := H
         have A53 := Aside0.mk A530
         clear A530
         by_cases c54 : t295 = true
         ·subst c54
          have H1 : (laws_FnExactPutVersion.j1 kj18 l0 t273 t276 t284 (t287 != t276) a1_0 a1_1 a1_2 a1_3) = some r := by rw [if_pos rfl] at H; exact H
          clear H
          have H := H1
          clear H1
          have H' := Aside0.mk H
          clear H
          obtain ⟨Ao55, co55, eo55⟩ := Kd.R_slice HO_9.out
          subst eo55
          obtain ⟨Ao56, co56, eo56⟩ := Kd.R_slice HO_6.out
          subst eo56
          go_wp2_with (first | (go_at_call 28; (with_reducible refine (laws_eqVersionS.calls kj18 _ _ t284 _ _ t273 true _ ?side1 ?side2 ?side3 ?side4 A53.out).mono ?_); (case side1 => repeat (first | exact (Kd.R_reads' HO_9.out).2.2 | (with_reducible refine Kd.C_alloc ?_ _) | (with_reducible refine Kd.C_drewN ?_ _) | (with_reducible refine Kd.C_drew ?_))); (case side2 => exact (Kd.R_reads' HO_9.out).2.1); (case side3 => repeat (first | exact (Kd.R_reads' HO_6.out).2.2 | (with_reducible refine Kd.C_alloc ?_ _) | (with_reducible refine Kd.C_drewN ?_ _) | (with_reducible refine Kd.C_drew ?_))); (case side4 => exact (Kd.R_reads' HO_6.out).2.1); rintro e w57 ⟨rfl, hb⟩; have n0_ := Aside0.mk (Kd.R_below (sq_r HO_6) hb); have n1_ := Aside0.mk (Kd.R_below (sq_r HO_8) hb); have n2_ := Aside0.mk (Kd.R_below (sq_r HO_9) hb); have n3_ := Aside0.mk (Kd.R_below (sq_r HO291) hb); have n4_ := Aside0.mk (blk_below (g := gb263) (o := .cells #[.string a1_0, .int .i64 a1_1, .bool a1_2, .string a1_3] 41 (0, 0)) (sq_l BK263) hb); have n5_ := Aside0.mk (below_step (by repeat (first | (with_reducible first | exact HB.out | apply below_alloc | apply pw_below_drewN | apply below_drew1 | refine below_set ?_ GE263.out) | exact HB.out)) hb); clear HO_6; clear HO_8; clear HO_9; clear HO291; clear BK263; clear HB; have HO_6 := n0_; have HO_8 := n1_; have HO_9 := n2_; have HO291 := n3_; have BK263 := n4_; have HB := n5_; clear n0_ n1_ n2_ n3_ n4_ n5_; (try clear hb); (try clear hb2); (try clear hk); (try clear hi)))
          go_meet
          case rel => exact ⟨_, ((t287 != t276)), sq_e, H', ⟨by have := HJ18.out; first | omega | exact Nat.le_refl _⟩, ⟨by (with_reducible repeat (first | apply Kd.R_alloc | apply Kd.R_drewN | apply Kd.R_drew)); exact Kd.R_mono HO_6.out (fun _ hk => hk.2.1)⟩, ⟨by (with_reducible repeat (first | apply Kd.R_alloc | apply Kd.R_drewN | apply Kd.R_drew)); exact Kd.R_mono HO_9.out (fun _ hk => hk.1)⟩, ⟨by (with_reducible repeat (first | refine blk_drewN ?_ _ | refine blk_drew ?_ | refine blk_alloc ?_ _)); exact BK263.out⟩, ⟨by repeat (first | (with_reducible first | exact HB.out | apply below_alloc | apply pw_below_drewN | apply below_drew1 | refine below_set ?_ GE263.out) | exact HB.out)⟩⟩
         ·replace c54 := Bool.eq_false_iff.mpr c54
          subst c54
          have H1 : (laws_FnExactPutVersion.j1 kj18 l0 t273 t276 t284 true a1_0 a1_1 a1_2 a1_3) = some r := by rw [if_neg (show ¬ (false = true) by decide)] at H; exact H
          clear H
          have H := H1
          clear H1
          have H' := Aside0.mk H
          clear H
          obtain ⟨Ao58, co58, eo58⟩ := Kd.R_slice HO_9.out
          subst eo58
          obtain ⟨Ao59, co59, eo59⟩ := Kd.R_slice HO_6.out
          subst eo59
          go_wp2_with (first | (go_at_call 28; (with_reducible refine (laws_eqVersionS.calls kj18 _ _ t284 _ _ t273 false _ ?side1 ?side2 ?side3 ?side4 A53.out).mono ?_); (case side1 => repeat (first | exact (Kd.R_reads' HO_9.out).2.2 | (with_reducible refine Kd.C_alloc ?_ _) | (with_reducible refine Kd.C_drewN ?_ _) | (with_reducible refine Kd.C_drew ?_))); (case side2 => exact (Kd.R_reads' HO_9.out).2.1); (case side3 => repeat (first | exact (Kd.R_reads' HO_6.out).2.2 | (with_reducible refine Kd.C_alloc ?_ _) | (with_reducible refine Kd.C_drewN ?_ _) | (with_reducible refine Kd.C_drew ?_))); (case side4 => exact (Kd.R_reads' HO_6.out).2.1); rintro e w60 ⟨rfl, hb⟩; have n0_ := Aside0.mk (Kd.R_below (sq_r HO_6) hb); have n1_ := Aside0.mk (Kd.R_below (sq_r HO_8) hb); have n2_ := Aside0.mk (Kd.R_below (sq_r HO_9) hb); have n3_ := Aside0.mk (Kd.R_below (sq_r HO291) hb); have n4_ := Aside0.mk (blk_below (g := gb263) (o := .cells #[.string a1_0, .int .i64 a1_1, .bool a1_2, .string a1_3] 41 (0, 0)) (sq_l BK263) hb); have n5_ := Aside0.mk (below_step (by repeat (first | (with_reducible first | exact HB.out | apply below_alloc | apply pw_below_drewN | apply below_drew1 | refine below_set ?_ GE263.out) | exact HB.out)) hb); clear HO_6; clear HO_8; clear HO_9; clear HO291; clear BK263; clear HB; have HO_6 := n0_; have HO_8 := n1_; have HO_9 := n2_; have HO291 := n3_; have BK263 := n4_; have HB := n5_; clear n0_ n1_ n2_ n3_ n4_ n5_; (try clear hb); (try clear hb2); (try clear hk); (try clear hi)))
          go_meet
          case rel => exact ⟨_, (true), sq_e, H', ⟨by have := HJ18.out; first | omega | exact Nat.le_refl _⟩, ⟨by (with_reducible repeat (first | apply Kd.R_alloc | apply Kd.R_drewN | apply Kd.R_drew)); exact Kd.R_mono HO_6.out (fun _ hk => hk.2.1)⟩, ⟨by (with_reducible repeat (first | apply Kd.R_alloc | apply Kd.R_drewN | apply Kd.R_drew)); exact Kd.R_mono HO_9.out (fun _ hk => hk.1)⟩, ⟨by (with_reducible repeat (first | refine blk_drewN ?_ _ | refine blk_drew ?_ | refine blk_alloc ?_ _)); exact BK263.out⟩, ⟨by repeat (first | (with_reducible first | exact HB.out | apply below_alloc | apply pw_below_drewN | apply below_drew1 | refine below_set ?_ GE263.out) | exact HB.out)⟩⟩
       case rest =>
        clear HC47
        (try clear c2); (try clear p2); (try clear c3); (try clear c4); (try clear c4b0); (try clear c5); (try clear c8); (try clear c8b0); (try clear c22); (try clear c23); (try clear c24); (try clear c25); (try clear c26); (try clear c27); (try clear c28); (try clear c29); (try clear c35); (try clear c42); (try clear c45); (try clear c52); (try clear c52b0); (try clear c54); (try clear hcz11_0); (try clear hcz11_1)
        (try clear hcz11_2); (try clear hcz11_3); (try clear hcz22_0); (try clear hcz22_1); (try clear hcz22_2); (try clear hcz22_3); (try clear hcz30_0); (try clear hcz30_1); (try clear hcz30_2); (try clear hcz30_3); (try clear hfz11_0); (try clear hfz11_1); (try clear hfz11_2); (try clear hfz11_3); (try clear hfz22_0); (try clear hfz22_1); (try clear hfz22_2); (try clear hfz22_3); (try clear hfz30_0)
        (try clear hfz30_1); (try clear hfz30_2); (try clear hfz30_3); (try clear p2)
        obtain ⟨kq, x72_46, rfl, HA, HJ46, HO_6, HO_9, BK263, HB⟩ := hcut
        cases kq with
        | zero => exact absurd HA.out (by simp [laws_FnExactPutVersion.j1])
        | succ kj46 =>
         have H := HA.out
         clear HA
         simp only [laws_FnExactPutVersion.j1] at H
         by_cases c61 : x72_46 = true
         ·subst c61
          have H1 : (some false) = some r := by rw [if_pos rfl] at H; exact H
          clear H
          have H := H1
          clear H1
          obtain rfl := Option.some.inj H
          go_wp2
          go_ret
          exact ⟨sq_w, by repeat (first | (with_reducible first | exact HB.out | apply below_alloc | apply pw_below_drewN | apply below_drew1 | refine below_set ?_ GE263.out) | exact HB.out)⟩
         ·replace c61 := Bool.eq_false_iff.mpr c61
          subst c61
          have H1 : ((laws_markVersionS.f kj46 t284 1).bind fun bt296 => ((laws_heldVersionS.f kj46 bt296.2 1).bind fun t298 => (if t298 < 0 then (some false) else (if t298 = bt296.1 then ((laws_toVersionS.f kj46 l0).bind fun t299 => ((laws_toVersion.f a1_0 a1_1 a1_2 a1_3).bind fun bt302 => ((impl_PutVersion.f kj46 t299 bt302.1 bt302.2.1 bt302.2.2.1 bt302.2.2.2).bind fun bt306 => ((laws_eqVersionS.f kj46 bt306.1 t273).bind fun t310 => (if t310 = true then (laws_FnExactPutVersion.j2 kj46 bt296.2 bt296.1 (bt306.2 != t276)) else (laws_FnExactPutVersion.j2 kj46 bt296.2 bt296.1 true)))))) else (some false))))) = some r := by rw [if_neg (show ¬ (false = true) by decide)] at H; exact H
          clear H
          have H := H1
          clear H1
          replace H := Option.bind_eq_some_iff.mp H
          obtain ⟨⟨t296, t297⟩, A620, H⟩ := H
          replace H : ((laws_heldVersionS.f kj46 t297 1).bind fun t298 => (if t298 < 0 then (some false) else (if t298 = t296 then ((laws_toVersionS.f kj46 l0).bind fun t299 => ((laws_toVersion.f a1_0 a1_1 a1_2 a1_3).bind fun bt302 => ((impl_PutVersion.f kj46 t299 bt302.1 bt302.2.1 bt302.2.2.1 bt302.2.2.2).bind fun bt306 => ((laws_eqVersionS.f kj46 bt306.1 t273).bind fun t310 => (if t310 = true then (laws_FnExactPutVersion.j2 kj46 t297 t296 (bt306.2 != t276)) else (laws_FnExactPutVersion.j2 kj46 t297 t296 true)))))) else (some false)))) = some r := H
          have A62 := Aside0.mk A620
          clear A620
          replace H := Option.bind_eq_some_iff.mp H
          obtain ⟨t298, A630, H⟩ := H
          replace H : (if t298 < 0 then (some false) else (if t298 = t296 then ((laws_toVersionS.f kj46 l0).bind fun t299 => ((laws_toVersion.f a1_0 a1_1 a1_2 a1_3).bind fun bt302 => ((impl_PutVersion.f kj46 t299 bt302.1 bt302.2.1 bt302.2.2.1 bt302.2.2.2).bind fun bt306 => ((laws_eqVersionS.f kj46 bt306.1 t273).bind fun t310 => (if t310 = true then (laws_FnExactPutVersion.j2 kj46 t297 t296 (bt306.2 != t276)) else (laws_FnExactPutVersion.j2 kj46 t297 t296 true)))))) else (some false))) = some r := H
          have A63 := Aside0.mk A630
          clear A630
          by_cases c64 : t298 < 0
          ·rw [if_pos c64] at H
           have c64b0 : decide (t298 < 0) = true := decide_eq_true c64
           clear c64
           obtain rfl := Option.some.inj H
           obtain ⟨Ao65, co65, eo65⟩ := Kd.R_slice HO_9.out
           subst eo65
           go_wp2_with (first | ((with_reducible refine gate_callee (f := 29) rfl ?_); refine goesL_ (some 75) rfl rfl Try.func29 (by kernel_rfl) rfl #[.slice Ao65 t284.length co65, .int .i64 1] rfl (by (try simp only [List.map_toArray, List.map_cons, List.map_nil]); first | done | rfl | (simp only [List.length_drop, List.length_take]; rfl)) ?_; (with_reducible refine (laws_markVersionS.calls kj46 (fun k_ => some k_ = (.slice Ao65 t284.length co65 : Value).ownBlock) (.slice Ao65 t284.length co65) t284 1 t296 t297 w _ ?side1 ?side2 A62.out).mono ?_); (case side1 => repeat (first | (with_reducible first | exact HB.out | apply below_alloc | apply pw_below_drewN | apply below_drew1 | refine below_set ?_ GE263.out) | exact HB.out)); (case side2 => exact Kd.R_tight rfl HO_9.out); rintro e w66 ⟨rfl, hy0, hb, hkp⟩; refine ⟨_, rfl, ?_⟩; have n0_ := Aside0.mk (Kd.R_mono (ok' := fun k_ => some k_ ≠ (.slice Ao65 t284.length co65 : Value).ownBlock) (Kd.R_keptB (HO_6.out) hkp (fun k_ hk_ hs_ => (hk_) hs_)) (fun k_ hk_ => hk_.1)); have n1_ := Aside0.mk (Kd.R_reok rfl hy0 (fun k_ e_ => HO_9.out.1 k_ e_)); have n2_ := Aside0.mk (blk_kept (sq_l BK263) hkp (fun hs_ => (fun e_ => (Kd.R_ne HO_9.out BK263.out (by decide)) e_) hs_)); have n3_ := Aside0.mk (hb); clear HO_6; clear HO_9; clear BK263; clear HB; have HO_6 := n0_; have HO_9 := n1_; have BK263 := n2_; have HB := n3_; clear n0_ n1_ n2_ n3_; (try clear hb); (try clear hkp); (try clear hy0)) | ((with_reducible refine gate_callee (f := 30) rfl ?_); refine goesL_ (some 78) rfl rfl Try.func30 (by kernel_rfl) rfl #[.slice Ao65 t297.length co65, .int .i64 1] rfl (by (try simp only [List.map_toArray, List.map_cons, List.map_nil]); first | done | (rw [show t297.length = t284.length from (Kd.R_reads' HO_9.out).1.symm] <;> rfl) | rfl | (simp only [List.length_drop, List.length_take]; rfl)) ?_; (with_reducible refine (laws_heldVersionS.calls kj46 _ _ t297 1 t298 _ ?side1 ?side2 A63.out).mono ?_); (case side1 => repeat (first | exact (Kd.R_reads' HO_9.out).2.2 | (with_reducible refine Kd.C_alloc ?_ _) | (with_reducible refine Kd.C_drewN ?_ _) | (with_reducible refine Kd.C_drew ?_))); (case side2 => rw [show t297.length = t284.length from (Kd.R_reads' HO_9.out).1.symm]; exact (Kd.R_reads' HO_9.out).2.1); rintro e w67 ⟨rfl, hb⟩; refine ⟨_, rfl, ?_⟩; have n0_ := Aside0.mk (Kd.R_below (sq_r HO_6) hb); have n1_ := Aside0.mk (Kd.R_below (sq_r HO_9) hb); have n2_ := Aside0.mk (blk_below (g := gb263) (o := .cells #[.string a1_0, .int .i64 a1_1, .bool a1_2, .string a1_3] 41 (0, 0)) (sq_l BK263) hb); have n3_ := Aside0.mk (below_step (by repeat (first | (with_reducible first | exact HB.out | apply below_alloc | apply pw_below_drewN | apply below_drew1 | refine below_set ?_ GE263.out) | exact HB.out)) hb); clear HO_6; clear HO_9; clear BK263; clear HB; have HO_6 := n0_; have HO_9 := n1_; have BK263 := n2_; have HB := n3_; clear n0_ n1_ n2_ n3_; (try clear hb); (try clear hb2); (try clear hk); (try clear hi)))
           go_ret
           exact ⟨sq_w, by repeat (first | (with_reducible first | exact HB.out | apply below_alloc | apply pw_below_drewN | apply below_drew1 | refine below_set ?_ GE263.out) | exact HB.out)⟩
          ·rw [if_neg c64] at H
           have c64b0 : decide (t298 < 0) = false := decide_eq_false c64
           clear c64
           by_cases c68 : t298 = t296
           ·rw [if_pos c68] at H
            have c68b0 : (t298 == t296) = true := beq_iff_eq.mpr c68
            have c68b1 : (t298 != t296) = false := bne_eq_false_iff_eq.mpr c68
            clear c68
            replace H := Option.bind_eq_some_iff.mp H
            obtain ⟨t299, A690, H⟩ := H
            replace H : ((laws_toVersion.f a1_0 a1_1 a1_2 a1_3).bind fun bt302 => ((impl_PutVersion.f kj46 t299 bt302.1 bt302.2.1 bt302.2.2.1 bt302.2.2.2).bind fun bt306 => ((laws_eqVersionS.f kj46 bt306.1 t273).bind fun t310 => (if t310 = true then (laws_FnExactPutVersion.j2 kj46 t297 t296 (bt306.2 != t276)) else (laws_FnExactPutVersion.j2 kj46 t297 t296 true))))) = some r := H
            have A69 := Aside0.mk A690
            clear A690
            replace H := Option.bind_eq_some_iff.mp H
            obtain ⟨⟨t302, t303, t304, t305⟩, A700, H⟩ := H
            replace H : ((impl_PutVersion.f kj46 t299 t302 t303 t304 t305).bind fun bt306 => ((laws_eqVersionS.f kj46 bt306.1 t273).bind fun t310 => (if t310 = true then (laws_FnExactPutVersion.j2 kj46 t297 t296 (bt306.2 != t276)) else (laws_FnExactPutVersion.j2 kj46 t297 t296 true)))) = some r := H
            have A70 := Aside0.mk A700
            clear A700
            replace H := Option.bind_eq_some_iff.mp H
            obtain ⟨⟨t306, t309⟩, A710, H⟩ := H
            replace H : ((laws_eqVersionS.f kj46 t306 t273).bind fun t310 => (if t310 = true then (laws_FnExactPutVersion.j2 kj46 t297 t296 (t309 != t276)) else (laws_FnExactPutVersion.j2 kj46 t297 t296 true))) = some r := H
            have A71 := Aside0.mk A710
            clear A710
            have HC72 := Aside0.mk H
            clear H
            obtain ⟨Ao73, co73, eo73⟩ := Kd.R_slice HO_9.out
            subst eo73
            try go_wp2_with (first | ((with_reducible refine gate_callee (f := 29) rfl ?_); refine goesL_ (some 75) rfl rfl Try.func29 (by kernel_rfl) rfl #[.slice Ao73 t284.length co73, .int .i64 1] rfl (by (try simp only [List.map_toArray, List.map_cons, List.map_nil]); first | done | rfl | (simp only [List.length_drop, List.length_take]; rfl)) ?_; (with_reducible refine (laws_markVersionS.calls kj46 (fun k_ => some k_ = (.slice Ao73 t284.length co73 : Value).ownBlock) (.slice Ao73 t284.length co73) t284 1 t296 t297 w _ ?side1 ?side2 A62.out).mono ?_); (case side1 => repeat (first | (with_reducible first | exact HB.out | apply below_alloc | apply pw_below_drewN | apply below_drew1 | refine below_set ?_ GE263.out) | exact HB.out)); (case side2 => exact Kd.R_tight rfl HO_9.out); rintro e w74 ⟨rfl, hy0, hb, hkp⟩; refine ⟨_, rfl, ?_⟩; have n0_ := Aside0.mk (Kd.R_mono (ok' := fun k_ => some k_ ≠ (.slice Ao73 t284.length co73 : Value).ownBlock) (Kd.R_keptB (HO_6.out) hkp (fun k_ hk_ hs_ => (hk_) hs_)) (fun k_ hk_ => hk_.1)); have n1_ := Aside0.mk (Kd.R_reok rfl hy0 (fun k_ e_ => HO_9.out.1 k_ e_)); have n2_ := Aside0.mk (blk_kept (sq_l BK263) hkp (fun hs_ => (fun e_ => (Kd.R_ne HO_9.out BK263.out (by decide)) e_) hs_)); have n3_ := Aside0.mk (hb); clear HO_6; clear HO_9; clear BK263; clear HB; have HO_6 := n0_; have HO_9 := n1_; have BK263 := n2_; have HB := n3_; clear n0_ n1_ n2_ n3_; (try clear hb); (try clear hkp); (try clear hy0)) | ((with_reducible refine gate_callee (f := 30) rfl ?_); refine goesL_ (some 78) rfl rfl Try.func30 (by kernel_rfl) rfl #[.slice Ao73 t297.length co73, .int .i64 1] rfl (by (try simp only [List.map_toArray, List.map_cons, List.map_nil]); first | done | (rw [show t297.length = t284.length from (Kd.R_reads' HO_9.out).1.symm] <;> rfl) | rfl | (simp only [List.length_drop, List.length_take]; rfl)) ?_; (with_reducible refine (laws_heldVersionS.calls kj46 _ _ t297 1 t298 _ ?side1 ?side2 A63.out).mono ?_); (case side1 => repeat (first | exact (Kd.R_reads' HO_9.out).2.2 | (with_reducible refine Kd.C_alloc ?_ _) | (with_reducible refine Kd.C_drewN ?_ _) | (with_reducible refine Kd.C_drew ?_))); (case side2 => rw [show t297.length = t284.length from (Kd.R_reads' HO_9.out).1.symm]; exact (Kd.R_reads' HO_9.out).2.1); rintro e w75 ⟨rfl, hb⟩; refine ⟨_, rfl, ?_⟩; have n0_ := Aside0.mk (Kd.R_below (sq_r HO_6) hb); have n1_ := Aside0.mk (Kd.R_below (sq_r HO_9) hb); have n2_ := Aside0.mk (blk_below (g := gb263) (o := .cells #[.string a1_0, .int .i64 a1_1, .bool a1_2, .string a1_3] 41 (0, 0)) (sq_l BK263) hb); have n3_ := Aside0.mk (below_step (by repeat (first | (with_reducible first | exact HB.out | apply below_alloc | apply pw_below_drewN | apply below_drew1 | refine below_set ?_ GE263.out) | exact HB.out)) hb); clear HO_6; clear HO_9; clear BK263; clear HB; have HO_6 := n0_; have HO_9 := n1_; have BK263 := n2_; have HB := n3_; clear n0_ n1_ n2_ n3_; (try clear hb); (try clear hb2); (try clear hk); (try clear hi)))
            have n0_ := Aside0.mk (Kd.R_drew HO_6.out)
            have n1_ := Aside0.mk (Kd.R_drew HO_9.out)
            have n2_ := Aside0.mk (blk_drew BK263.out)
            have n3_ := Aside0.mk (below_drew1 HB.out)
            clear HO_6
            clear HO_9
            clear BK263
            clear HB
            have HO_6 := n0_
            have HO_9 := n1_
            have BK263 := n2_
            have HB := n3_
            clear n0_ n1_ n2_ n3_
            refine start_ (n := 10) (S := fun w' => w'.cell? ⟨gb263, 0, none⟩ = some (.string a1_0) ∧ w'.cell? ⟨gb263, 1, none⟩ = some (.int .i64 a1_1) ∧ w'.cell? ⟨gb263, 2, none⟩ = some (.bool a1_2) ∧ w'.cell? ⟨gb263, 3, none⟩ = some (.string a1_3)) (ds := []) #[false, false, false, false, false, false, false, false, false, false] (by kernel_rfl) rfl rfl ⟨(blk_cell BK263.out 0).trans rfl, (blk_cell BK263.out 1).trans rfl, (blk_cell BK263.out 2).trans rfl, (blk_cell BK263.out 3).trans rfl⟩ (fun hHeld => ?_); refine with_tabW laws_FnExactPutVersion.tab27 laws_FnExactPutVersion.bits27 (fun HT_ HW_ => ?_)
            generalize w75.drew = w76 at HO_6 HO_9 BK263 HB hHeld ⊢
            refine pu_ 0 (some 85) #[true, false, false, false, false, false, false, false, false, false] HT_ ?_
            refine take_ (i := 2) (N := some 87) (v := ?_) (a' := ?_) #[true, false, true, false, false, false, false, false, false, false] rfl rfl (take_ofW HT_.out HW_.out (by kernel_rfl)) (fun _ _ _ h => h) (Or.inl ⟨by rfl, ?_⟩) hHeld ?_ ?_
            rotate_left
            ·rintro w' ⟨s0, s1, s2, s3⟩
             go_simp
             with_reducible rfl
            rotate_left
            ·simp only [Act.put, List.setIfInBounds_toArray, List.set_cons_zero, List.set_cons_succ, i64_w, i32_w]
             rfl
            refine one_ (i := 1) (N := some 86) #[true, true, true, false, false, false, false, false, false, false] rfl rfl (one_of HT_.out (by kernel_rfl)) (by decide) (fun K hK => ?_)
            refine goes_ Try.func25 (by kernel_rfl) rfl #[.slice A0 l0.length c0] (by rfl) rfl rfl (by (try simp only [List.map_toArray, List.map_cons, List.map_nil]); first | done | rfl | (simp only [List.length_drop, List.length_take]; rfl)) ?_
            with_reducible refine (laws_toVersionS.calls kj46 _ _ l0 t299 _ ?side1 ?side2 A69.out).mono ?_
            (case side1 => repeat (first | exact (Kd.C_below HR0.out HB.out) | (with_reducible refine Kd.C_alloc ?_ _) | (with_reducible refine Kd.C_drewN ?_ _) | (with_reducible refine Kd.C_drew ?_)))
            (case side2 => exact HC0.out)
            rintro e w77 ⟨v300, rfl, ho0, hb⟩
            refine ⟨_, rfl, ?_⟩
            have n0_ := Aside0.mk (Kd.R_elder' (sq_r HO_6) (Kd.R_base ho0) hb)
            have n1_ := Aside0.mk (Kd.R_elder' (sq_r HO_9) (Kd.R_base ho0) hb)
            have n2_ := Aside0.mk (Kd.R_lower (Kd.R_new' (Kd.R_new' ho0 (Kd.R_lt (sq_r HO_6))) (Kd.R_lt (sq_r HO_9))) (below_size (by repeat (first | (with_reducible first | exact HB.out | apply below_alloc | apply pw_below_drewN | apply below_drew1 | refine below_set ?_ GE263.out) | exact HB.out))))
            have n3_ := Aside0.mk (blk_below (g := gb263) (o := .cells #[.string a1_0, .int .i64 a1_1, .bool a1_2, .string a1_3] 41 (0, 0)) (sq_l BK263) hb)
            have n4_ := Aside0.mk (below_step (by repeat (first | (with_reducible first | exact HB.out | apply below_alloc | apply pw_below_drewN | apply below_drew1 | refine below_set ?_ GE263.out) | exact HB.out)) hb)
            clear HO_6
            clear HO_9
            clear BK263
            clear HB
            have HO_6 := n0_
            have HO_9 := n1_
            have HO301 := n2_
            have BK263 := n3_
            have HB := n4_
            clear n0_ n1_ n2_ n3_ n4_
            (try clear hb)
            (try clear hb2)
            (try clear hk)
            (try clear hi)
            (try clear ho0)
            refine hK.out _ _ ⟨(blk_cell BK263.out 0).trans rfl, (blk_cell BK263.out 1).trans rfl, (blk_cell BK263.out 2).trans rfl, (blk_cell BK263.out 3).trans rfl⟩ (fun hHeld => ?_)
            clear hK K
            refine norm_ (a' := ?_) ?_ ?_
            rotate_left
            ·show Act.put _ (some 86) _ = _
             simp only [Act.put, List.setIfInBounds_toArray, List.set_cons_zero, List.set_cons_succ, i64_w, i32_w]
             rfl
            refine one_ (i := 3) (N := some 88) #[true, true, true, true, false, false, false, false, false, false] rfl rfl (one_of HT_.out (by kernel_rfl)) (by decide) (fun K hK => ?_)
            refine goes_ Try.func26 (by kernel_rfl) rfl #[.agg #[.string a1_0, .int .i64 a1_1, .bool a1_2, .string a1_3]] (by rfl) rfl rfl (by (try simp only [List.map_toArray, List.map_cons, List.map_nil]); first | done | rfl | (simp only [List.length_drop, List.length_take]; rfl)) ?_
            with_reducible refine (laws_toVersion.calls a1_0 a1_1 a1_2 a1_3 t302 t303 t304 t305 _ A70.out).mono ?_
            rintro e w78 ⟨rfl, hb⟩
            refine ⟨_, rfl, ?_⟩
            have n0_ := Aside0.mk (Kd.R_below (sq_r HO_6) hb)
            have n1_ := Aside0.mk (Kd.R_below (sq_r HO_9) hb)
            have n2_ := Aside0.mk (Kd.R_below (sq_r HO301) hb)
            have n3_ := Aside0.mk (blk_below (g := gb263) (o := .cells #[.string a1_0, .int .i64 a1_1, .bool a1_2, .string a1_3] 41 (0, 0)) (sq_l BK263) hb)
            have n4_ := Aside0.mk (below_step (by repeat (first | (with_reducible first | exact HB.out | apply below_alloc | apply pw_below_drewN | apply below_drew1 | refine below_set ?_ GE263.out) | exact HB.out)) hb)
            clear HO_6
            clear HO_9
            clear HO301
            clear BK263
            clear HB
            have HO_6 := n0_
            have HO_9 := n1_
            have HO301 := n2_
            have BK263 := n3_
            have HB := n4_
            clear n0_ n1_ n2_ n3_ n4_
            (try clear hb)
            (try clear hb2)
            (try clear hk)
            (try clear hi)
            obtain ⟨Ao79, co79, eo79⟩ := Kd.R_slice HO301.out
            (first | subst eo79 | (injection eo79 with f1_ f2_ f3_; have f4_ := f1_.symm; have f5_ := f3_.symm; clear f1_ f2_ f3_; subst f4_; subst f5_))
            refine hK.out _ _ ⟨(blk_cell BK263.out 0).trans rfl, (blk_cell BK263.out 1).trans rfl, (blk_cell BK263.out 2).trans rfl, (blk_cell BK263.out 3).trans rfl⟩ (fun hHeld => ?_)
            clear hK K
            refine norm_ (a' := ?_) ?_ ?_
            rotate_left
            ·show Act.put _ (some 88) _ = _
             simp only [Act.put, List.setIfInBounds_toArray, List.set_cons_zero, List.set_cons_succ, i64_w, i32_w]
             rfl
            refine one_ (i := 4) (N := some 89) #[true, true, true, true, true, false, false, false, false, false] rfl rfl (one_of HT_.out (by kernel_rfl)) (by decide) (fun K hK => ?_)
            refine goes_ Try.func27 (by kernel_rfl) rfl #[.slice Ao79 t299.length co79, .agg #[.string t302, .int .i64 t303, .bool t304, .string t305]] (by rfl) rfl rfl (by (try simp only [List.map_toArray, List.map_cons, List.map_nil]); first | done | rfl | (simp only [List.length_drop, List.length_take]; rfl)) ?_
            with_reducible refine (impl_PutVersion.calls kj46 _ _ t299 t302 t303 t304 t305 t306 t309 _ ?side1 ?side2 A71.out).mono ?_
            (case side1 => repeat (first | exact (Kd.R_reads' HO301.out).2.2 | (with_reducible refine Kd.C_alloc ?_ _) | (with_reducible refine Kd.C_drewN ?_ _) | (with_reducible refine Kd.C_drew ?_)))
            (case side2 => exact (Kd.R_reads' HO301.out).2.1)
            rintro e w80 ⟨v307, rfl, ho0, hb⟩
            refine ⟨_, rfl, ?_⟩
            have n0_ := Aside0.mk (Kd.R_elder' (sq_r HO_6) (Kd.R_base ho0) hb)
            have n1_ := Aside0.mk (Kd.R_elder' (sq_r HO_9) (Kd.R_base ho0) hb)
            have n2_ := Aside0.mk (Kd.R_elder' (sq_r HO301) (Kd.R_base ho0) hb)
            have n3_ := Aside0.mk (Kd.R_lower (Kd.R_new' (Kd.R_new' (Kd.R_new' ho0 (Kd.R_lt (sq_r HO_6))) (Kd.R_lt (sq_r HO_9))) (Kd.R_lt (sq_r HO301))) (below_size (by repeat (first | (with_reducible first | exact HB.out | apply below_alloc | apply pw_below_drewN | apply below_drew1 | refine below_set ?_ GE263.out) | exact HB.out))))
            have n4_ := Aside0.mk (blk_below (g := gb263) (o := .cells #[.string a1_0, .int .i64 a1_1, .bool a1_2, .string a1_3] 41 (0, 0)) (sq_l BK263) hb)
            have n5_ := Aside0.mk (below_step (by repeat (first | (with_reducible first | exact HB.out | apply below_alloc | apply pw_below_drewN | apply below_drew1 | refine below_set ?_ GE263.out) | exact HB.out)) hb)
            clear HO_6
            clear HO_9
            clear HO301
            clear BK263
            clear HB
            have HO_6 := n0_
            have HO_9 := n1_
            have HO301 := n2_
            have HO308 := n3_
            have BK263 := n4_
            have HB := n5_
            clear n0_ n1_ n2_ n3_ n4_ n5_
            (try clear hb)
            (try clear hb2)
            (try clear hk)
            (try clear hi)
            (try clear ho0)
            refine hK.out _ _ ⟨(blk_cell BK263.out 0).trans rfl, (blk_cell BK263.out 1).trans rfl, (blk_cell BK263.out 2).trans rfl, (blk_cell BK263.out 3).trans rfl⟩ (fun hHeld => ?_)
            clear hK K
            refine norm_ (a' := ?_) ?_ ?_
            rotate_left
            ·show Act.put _ (some 89) _ = _
             simp only [Act.put, List.setIfInBounds_toArray, List.set_cons_zero, List.set_cons_succ, i64_w, i32_w]
             rfl
            refine pu_ 5 (some 84) #[true, true, true, true, true, true, false, false, false, false] HT_ ?_
            refine pu_ 6 (some 90) #[true, true, true, true, true, true, true, false, false, false] HT_ ?_
            refine pu_ 7 (some 91) #[true, true, true, true, true, true, true, true, false, false] HT_ ?_
            refine pu_ 8 (some 14) #[true, true, true, true, true, true, true, true, true, false] HT_ ?_
            refine pu_ 9 (some 15) #[true, true, true, true, true, true, true, true, true, true] HT_ ?_
            refine done_ (done_of HT_.out (by kernel_rfl)) ?_
            go_upto_region 28 with (fail)
            go_cut [100] (fun v100 wc => ∃ (kq : Nat) (x100_71 : Bool), v100 = .bool x100_71 ∧ Aside0 (laws_FnExactPutVersion.j2 kq t297 t296 x100_71 = some r) ∧ Aside0 (kq ≤ kj46) ∧ Aside0 (Kd.R k48 48 wc w.heap.size (fun _ => True) (.slice Ao73 t284.length co73) t297) ∧ Aside0 (wc.heap[gb263]? = some (.cells #[.string a1_0, .int .i64 a1_1, .bool a1_2, .string a1_3] 41 (0, 0))) ∧ Aside0 (Below w.heap.size w wc))
            case first =>
             have H := HC72.out
             clear HC72
             replace H := Option.bind_eq_some_iff.mp H
             obtain ⟨t310, A810, H⟩ := H
             replace H : (if t310 = true then (laws_FnExactPutVersion.j2 kj46 t297 t296 (t309 != t276)) else (laws_FnExactPutVersion.j2 kj46 t297 t296 true)) = some r := H
             have A81 := Aside0.mk A810
             clear A810
             by_cases c82 : t310 = true
             ·subst c82
              have H1 : (laws_FnExactPutVersion.j2 kj46 t297 t296 (t309 != t276)) = some r := by rw [if_pos rfl] at H; exact H
              clear H
              have H := H1
              clear H1
              have H' := Aside0.mk H
              clear H
              obtain ⟨Ao83, co83, eo83⟩ := Kd.R_slice HO308.out
              subst eo83
              obtain ⟨Ao84, co84, eo84⟩ := Kd.R_slice HO_6.out
              subst eo84
              go_wp2_with (first | ((with_reducible refine gate_callee (f := 28) rfl ?_); refine goesL_ (some 94) rfl rfl Try.func28 (by kernel_rfl) rfl #[.slice Ao83 t306.length co83, .slice Ao84 t273.length co84] rfl (by (try simp only [List.map_toArray, List.map_cons, List.map_nil]); first | done | rfl | (simp only [List.length_drop, List.length_take]; rfl)) ?_; (with_reducible refine (laws_eqVersionS.calls kj46 _ _ t306 _ _ t273 true _ ?side1 ?side2 ?side3 ?side4 A81.out).mono ?_); (case side1 => repeat (first | exact (Kd.R_reads' HO308.out).2.2 | (with_reducible refine Kd.C_alloc ?_ _) | (with_reducible refine Kd.C_drewN ?_ _) | (with_reducible refine Kd.C_drew ?_))); (case side2 => exact (Kd.R_reads' HO308.out).2.1); (case side3 => repeat (first | exact (Kd.R_reads' HO_6.out).2.2 | (with_reducible refine Kd.C_alloc ?_ _) | (with_reducible refine Kd.C_drewN ?_ _) | (with_reducible refine Kd.C_drew ?_))); (case side4 => exact (Kd.R_reads' HO_6.out).2.1); rintro e w85 ⟨rfl, hb⟩; refine ⟨_, rfl, ?_⟩; have n0_ := Aside0.mk (Kd.R_below (sq_r HO_6) hb); have n1_ := Aside0.mk (Kd.R_below (sq_r HO_9) hb); have n2_ := Aside0.mk (Kd.R_below (sq_r HO301) hb); have n3_ := Aside0.mk (Kd.R_below (sq_r HO308) hb); have n4_ := Aside0.mk (blk_below (g := gb263) (o := .cells #[.string a1_0, .int .i64 a1_1, .bool a1_2, .string a1_3] 41 (0, 0)) (sq_l BK263) hb); have n5_ := Aside0.mk (below_step (by repeat (first | (with_reducible first | exact HB.out | apply below_alloc | apply pw_below_drewN | apply below_drew1 | refine below_set ?_ GE263.out) | exact HB.out)) hb); clear HO_6; clear HO_9; clear HO301; clear HO308; clear BK263; clear HB; have HO_6 := n0_; have HO_9 := n1_; have HO301 := n2_; have HO308 := n3_; have BK263 := n4_; have HB := n5_; clear n0_ n1_ n2_ n3_ n4_ n5_; (try clear hb); (try clear hb2); (try clear hk); (try clear hi)))
              go_meet
              case rel => exact ⟨_, ((t309 != t276)), sq_e, H', ⟨by have := HJ18.out; have := HJ46.out; first | omega | exact Nat.le_refl _⟩, ⟨by (with_reducible repeat (first | apply Kd.R_alloc | apply Kd.R_drewN | apply Kd.R_drew)); exact Kd.R_mono HO_9.out (fun _ hk => trivial)⟩, ⟨by (with_reducible repeat (first | refine blk_drewN ?_ _ | refine blk_drew ?_ | refine blk_alloc ?_ _)); exact BK263.out⟩, ⟨by repeat (first | (with_reducible first | exact HB.out | apply below_alloc | apply pw_below_drewN | apply below_drew1 | refine below_set ?_ GE263.out) | exact HB.out)⟩⟩
             ·replace c82 := Bool.eq_false_iff.mpr c82
              subst c82
              have H1 : (laws_FnExactPutVersion.j2 kj46 t297 t296 true) = some r := by rw [if_neg (show ¬ (false = true) by decide)] at H; exact H
              clear H
              have H := H1
              clear H1
              have H' := Aside0.mk H
              clear H
              obtain ⟨Ao86, co86, eo86⟩ := Kd.R_slice HO308.out
              subst eo86
              obtain ⟨Ao87, co87, eo87⟩ := Kd.R_slice HO_6.out
              subst eo87
              go_wp2_with (first | ((with_reducible refine gate_callee (f := 28) rfl ?_); refine goesL_ (some 94) rfl rfl Try.func28 (by kernel_rfl) rfl #[.slice Ao86 t306.length co86, .slice Ao87 t273.length co87] rfl (by (try simp only [List.map_toArray, List.map_cons, List.map_nil]); first | done | rfl | (simp only [List.length_drop, List.length_take]; rfl)) ?_; (with_reducible refine (laws_eqVersionS.calls kj46 _ _ t306 _ _ t273 false _ ?side1 ?side2 ?side3 ?side4 A81.out).mono ?_); (case side1 => repeat (first | exact (Kd.R_reads' HO308.out).2.2 | (with_reducible refine Kd.C_alloc ?_ _) | (with_reducible refine Kd.C_drewN ?_ _) | (with_reducible refine Kd.C_drew ?_))); (case side2 => exact (Kd.R_reads' HO308.out).2.1); (case side3 => repeat (first | exact (Kd.R_reads' HO_6.out).2.2 | (with_reducible refine Kd.C_alloc ?_ _) | (with_reducible refine Kd.C_drewN ?_ _) | (with_reducible refine Kd.C_drew ?_))); (case side4 => exact (Kd.R_reads' HO_6.out).2.1); rintro e w88 ⟨rfl, hb⟩; refine ⟨_, rfl, ?_⟩; have n0_ := Aside0.mk (Kd.R_below (sq_r HO_6) hb); have n1_ := Aside0.mk (Kd.R_below (sq_r HO_9) hb); have n2_ := Aside0.mk (Kd.R_below (sq_r HO301) hb); have n3_ := Aside0.mk (Kd.R_below (sq_r HO308) hb); have n4_ := Aside0.mk (blk_below (g := gb263) (o := .cells #[.string a1_0, .int .i64 a1_1, .bool a1_2, .string a1_3] 41 (0, 0)) (sq_l BK263) hb); have n5_ := Aside0.mk (below_step (by repeat (first | (with_reducible first | exact HB.out | apply below_alloc | apply pw_below_drewN | apply below_drew1 | refine below_set ?_ GE263.out) | exact HB.out)) hb); clear HO_6; clear HO_9; clear HO301; clear HO308; clear BK263; clear HB; have HO_6 := n0_; have HO_9 := n1_; have HO301 := n2_; have HO308 := n3_; have BK263 := n4_; have HB := n5_; clear n0_ n1_ n2_ n3_ n4_ n5_; (try clear hb); (try clear hb2); (try clear hk); (try clear hi)))
              go_meet
              case rel => exact ⟨_, (true), sq_e, H', ⟨by have := HJ18.out; have := HJ46.out; first | omega | exact Nat.le_refl _⟩, ⟨by (with_reducible repeat (first | apply Kd.R_alloc | apply Kd.R_drewN | apply Kd.R_drew)); exact Kd.R_mono HO_9.out (fun _ hk => trivial)⟩, ⟨by (with_reducible repeat (first | refine blk_drewN ?_ _ | refine blk_drew ?_ | refine blk_alloc ?_ _)); exact BK263.out⟩, ⟨by repeat (first | (with_reducible first | exact HB.out | apply below_alloc | apply pw_below_drewN | apply below_drew1 | refine below_set ?_ GE263.out) | exact HB.out)⟩⟩
            case rest =>
             clear HC72
             (try clear c2); (try clear p2); (try clear c3); (try clear c4); (try clear c4b0); (try clear c5); (try clear c6); (try clear c8); (try clear c8b0); (try clear c22); (try clear c23); (try clear c24); (try clear c25); (try clear c26); (try clear c27); (try clear c28); (try clear c29); (try clear c30); (try clear c35); (try clear c42); (try clear c45); (try clear c52); (try clear c52b0); (try clear c54)
             (try clear c61); (try clear c64); (try clear c64b0); (try clear c68); (try clear c68b0); (try clear c68b1); (try clear c82); (try clear hcz11_0); (try clear hcz11_1); (try clear hcz11_2); (try clear hcz11_3); (try clear hcz22_0); (try clear hcz22_1); (try clear hcz22_2); (try clear hcz22_3); (try clear hcz30_0); (try clear hcz30_1); (try clear hcz30_2); (try clear hcz30_3); (try clear hfz11_0)
             (try clear hfz11_1); (try clear hfz11_2); (try clear hfz11_3); (try clear hfz22_0); (try clear hfz22_1); (try clear hfz22_2); (try clear hfz22_3); (try clear hfz30_0); (try clear hfz30_1); (try clear hfz30_2); (try clear hfz30_3); (try clear p2)
             obtain ⟨kq, x100_71, rfl, HA, HJ71, HO_9, BK263, HB⟩ := hcut
             have hl9_71 := (Kd.R_reads' HO_9.out).1
             rw [hl9_71] at HO_9
             (try simp only [hl9_71])
             (try simp only [hl9_71] at BK263)
             cases kq with
             | zero => exact absurd HA.out (by simp [laws_FnExactPutVersion.j2])
             | succ kj71 =>
              have H := HA.out
              clear HA
              simp only [laws_FnExactPutVersion.j2] at H
              by_cases c89 : x100_71 = true
              ·subst c89
               have H1 : (some false) = some r := by rw [if_pos rfl] at H; exact H
               clear H
               have H := H1
               clear H1
               obtain rfl := Option.some.inj H
               go_wp2
               go_ret
               exact ⟨sq_w, by repeat (first | (with_reducible first | exact HB.out | apply below_alloc | apply pw_below_drewN | apply below_drew1 | refine below_set ?_ GE263.out) | exact HB.out)⟩
              ·replace c89 := Bool.eq_false_iff.mpr c89
               subst c89
               have H1 : ((laws_heldVersionS.f kj71 t297 1).bind fun t311 => (if t311 < 0 then (some false) else (if t311 = t296 then (some true) else (some false)))) = some r := by rw [if_neg (show ¬ (false = true) by decide)] at H; exact H
               clear H
               have H := H1
               clear H1
               replace H := Option.bind_eq_some_iff.mp H
               obtain ⟨t311, A900, H⟩ := H
               replace H : (if t311 < 0 then (some false) else (if t311 = t296 then (some true) else (some false))) = some r := H
               have A90 := Aside0.mk A900
               clear A900
               by_cases c91 : t311 < 0
               ·rw [if_pos c91] at H
                have c91b0 : decide (t311 < 0) = true := decide_eq_true c91
                clear c91
                obtain rfl := Option.some.inj H
                go_wp2_with (first | ((with_reducible refine gate_callee (f := 30) rfl ?_); refine goesL_ (some 103) rfl rfl Try.func30 (by kernel_rfl) rfl #[.slice Ao73 t297.length co73, .int .i64 1] rfl (by (try simp only [List.map_toArray, List.map_cons, List.map_nil]); first | done | rfl | (simp only [List.length_drop, List.length_take]; rfl)) ?_; (with_reducible refine (laws_heldVersionS.calls kj71 _ _ t297 1 t311 _ ?side1 ?side2 A90.out).mono ?_); (case side1 => repeat (first | exact (Kd.R_reads' HO_9.out).2.2 | (with_reducible refine Kd.C_alloc ?_ _) | (with_reducible refine Kd.C_drewN ?_ _) | (with_reducible refine Kd.C_drew ?_))); (case side2 => exact (Kd.R_reads' HO_9.out).2.1); rintro e w92 ⟨rfl, hb⟩; refine ⟨_, rfl, ?_⟩; have n0_ := Aside0.mk (Kd.R_below (sq_r HO_9) hb); have n1_ := Aside0.mk (blk_below (g := gb263) (o := .cells #[.string a1_0, .int .i64 a1_1, .bool a1_2, .string a1_3] 41 (0, 0)) (sq_l BK263) hb); have n2_ := Aside0.mk (below_step (by repeat (first | (with_reducible first | exact HB.out | apply below_alloc | apply pw_below_drewN | apply below_drew1 | refine below_set ?_ GE263.out) | exact HB.out)) hb); clear HO_9; clear BK263; clear HB; have HO_9 := n0_; have BK263 := n1_; have HB := n2_; clear n0_ n1_ n2_; (try clear hb); (try clear hb2); (try clear hk); (try clear hi)))
                go_ret
                exact ⟨sq_w, by repeat (first | (with_reducible first | exact HB.out | apply below_alloc | apply pw_below_drewN | apply below_drew1 | refine below_set ?_ GE263.out) | exact HB.out)⟩
               ·rw [if_neg c91] at H
                have c91b0 : decide (t311 < 0) = false := decide_eq_false c91
                clear c91
                by_cases c93 : t311 = t296
                ·rw [if_pos c93] at H
                 have c93b0 : (t311 == t296) = true := beq_iff_eq.mpr c93
                 have c93b1 : (t311 != t296) = false := bne_eq_false_iff_eq.mpr c93
                 clear c93
                 obtain rfl := Option.some.inj H
                 go_wp2_with (first | ((with_reducible refine gate_callee (f := 30) rfl ?_); refine goesL_ (some 103) rfl rfl Try.func30 (by kernel_rfl) rfl #[.slice Ao73 t297.length co73, .int .i64 1] rfl (by (try simp only [List.map_toArray, List.map_cons, List.map_nil]); first | done | rfl | (simp only [List.length_drop, List.length_take]; rfl)) ?_; (with_reducible refine (laws_heldVersionS.calls kj71 _ _ t297 1 t311 _ ?side1 ?side2 A90.out).mono ?_); (case side1 => repeat (first | exact (Kd.R_reads' HO_9.out).2.2 | (with_reducible refine Kd.C_alloc ?_ _) | (with_reducible refine Kd.C_drewN ?_ _) | (with_reducible refine Kd.C_drew ?_))); (case side2 => exact (Kd.R_reads' HO_9.out).2.1); rintro e w94 ⟨rfl, hb⟩; refine ⟨_, rfl, ?_⟩; have n0_ := Aside0.mk (Kd.R_below (sq_r HO_9) hb); have n1_ := Aside0.mk (blk_below (g := gb263) (o := .cells #[.string a1_0, .int .i64 a1_1, .bool a1_2, .string a1_3] 41 (0, 0)) (sq_l BK263) hb); have n2_ := Aside0.mk (below_step (by repeat (first | (with_reducible first | exact HB.out | apply below_alloc | apply pw_below_drewN | apply below_drew1 | refine below_set ?_ GE263.out) | exact HB.out)) hb); clear HO_9; clear BK263; clear HB; have HO_9 := n0_; have BK263 := n1_; have HB := n2_; clear n0_ n1_ n2_; (try clear hb); (try clear hb2); (try clear hk); (try clear hi)))
                 go_ret
                 exact ⟨sq_w, by repeat (first | (with_reducible first | exact HB.out | apply below_alloc | apply pw_below_drewN | apply below_drew1 | refine below_set ?_ GE263.out) | exact HB.out)⟩
                ·rw [if_neg c93] at H
                 have c93b0 : (t311 == t296) = false := beq_eq_false_iff_ne.mpr c93
                 have c93b1 : (t311 != t296) = true := bne_iff_ne.mpr c93
                 obtain rfl := Option.some.inj H
                 go_wp2_with (first | ((with_reducible refine gate_callee (f := 30) rfl ?_); refine goesL_ (some 103) rfl rfl Try.func30 (by kernel_rfl) rfl #[.slice Ao73 t297.length co73, .int .i64 1] rfl (by (try simp only [List.map_toArray, List.map_cons, List.map_nil]); first | done | rfl | (simp only [List.length_drop, List.length_take]; rfl)) ?_; (with_reducible refine (laws_heldVersionS.calls kj71 _ _ t297 1 t311 _ ?side1 ?side2 A90.out).mono ?_); (case side1 => repeat (first | exact (Kd.R_reads' HO_9.out).2.2 | (with_reducible refine Kd.C_alloc ?_ _) | (with_reducible refine Kd.C_drewN ?_ _) | (with_reducible refine Kd.C_drew ?_))); (case side2 => exact (Kd.R_reads' HO_9.out).2.1); rintro e w95 ⟨rfl, hb⟩; refine ⟨_, rfl, ?_⟩; have n0_ := Aside0.mk (Kd.R_below (sq_r HO_9) hb); have n1_ := Aside0.mk (blk_below (g := gb263) (o := .cells #[.string a1_0, .int .i64 a1_1, .bool a1_2, .string a1_3] 41 (0, 0)) (sq_l BK263) hb); have n2_ := Aside0.mk (below_step (by repeat (first | (with_reducible first | exact HB.out | apply below_alloc | apply pw_below_drewN | apply below_drew1 | refine below_set ?_ GE263.out) | exact HB.out)) hb); clear HO_9; clear BK263; clear HB; have HO_9 := n0_; have BK263 := n1_; have HB := n2_; clear n0_ n1_ n2_; (try clear hb); (try clear hb2); (try clear hk); (try clear hi)))
                 go_ret
                 exact ⟨sq_w, by repeat (first | (with_reducible first | exact HB.out | apply below_alloc | apply pw_below_drewN | apply below_drew1 | refine below_set ?_ GE263.out) | exact HB.out)⟩
           ·rw [if_neg c68] at H
            have c68b0 : (t298 == t296) = false := beq_eq_false_iff_ne.mpr c68
            have c68b1 : (t298 != t296) = true := bne_iff_ne.mpr c68
            obtain rfl := Option.some.inj H
            obtain ⟨Ao96, co96, eo96⟩ := Kd.R_slice HO_9.out
            subst eo96
            go_wp2_with (first | ((with_reducible refine gate_callee (f := 29) rfl ?_); refine goesL_ (some 75) rfl rfl Try.func29 (by kernel_rfl) rfl #[.slice Ao96 t284.length co96, .int .i64 1] rfl (by (try simp only [List.map_toArray, List.map_cons, List.map_nil]); first | done | rfl | (simp only [List.length_drop, List.length_take]; rfl)) ?_; (with_reducible refine (laws_markVersionS.calls kj46 (fun k_ => some k_ = (.slice Ao96 t284.length co96 : Value).ownBlock) (.slice Ao96 t284.length co96) t284 1 t296 t297 w _ ?side1 ?side2 A62.out).mono ?_); (case side1 => repeat (first | (with_reducible first | exact HB.out | apply below_alloc | apply pw_below_drewN | apply below_drew1 | refine below_set ?_ GE263.out) | exact HB.out)); (case side2 => exact Kd.R_tight rfl HO_9.out); rintro e w97 ⟨rfl, hy0, hb, hkp⟩; refine ⟨_, rfl, ?_⟩; have n0_ := Aside0.mk (Kd.R_mono (ok' := fun k_ => some k_ ≠ (.slice Ao96 t284.length co96 : Value).ownBlock) (Kd.R_keptB (HO_6.out) hkp (fun k_ hk_ hs_ => (hk_) hs_)) (fun k_ hk_ => hk_.1)); have n1_ := Aside0.mk (Kd.R_reok rfl hy0 (fun k_ e_ => HO_9.out.1 k_ e_)); have n2_ := Aside0.mk (blk_kept (sq_l BK263) hkp (fun hs_ => (fun e_ => (Kd.R_ne HO_9.out BK263.out (by decide)) e_) hs_)); have n3_ := Aside0.mk (hb); clear HO_6; clear HO_9; clear BK263; clear HB; have HO_6 := n0_; have HO_9 := n1_; have BK263 := n2_; have HB := n3_; clear n0_ n1_ n2_ n3_; (try clear hb); (try clear hkp); (try clear hy0)) | ((with_reducible refine gate_callee (f := 30) rfl ?_); refine goesL_ (some 78) rfl rfl Try.func30 (by kernel_rfl) rfl #[.slice Ao96 t297.length co96, .int .i64 1] rfl (by (try simp only [List.map_toArray, List.map_cons, List.map_nil]); first | done | (rw [show t297.length = t284.length from (Kd.R_reads' HO_9.out).1.symm] <;> rfl) | rfl | (simp only [List.length_drop, List.length_take]; rfl)) ?_; (with_reducible refine (laws_heldVersionS.calls kj46 _ _ t297 1 t298 _ ?side1 ?side2 A63.out).mono ?_); (case side1 => repeat (first | exact (Kd.R_reads' HO_9.out).2.2 | (with_reducible refine Kd.C_alloc ?_ _) | (with_reducible refine Kd.C_drewN ?_ _) | (with_reducible refine Kd.C_drew ?_))); (case side2 => rw [show t297.length = t284.length from (Kd.R_reads' HO_9.out).1.symm]; exact (Kd.R_reads' HO_9.out).2.1); rintro e w98 ⟨rfl, hb⟩; refine ⟨_, rfl, ?_⟩; have n0_ := Aside0.mk (Kd.R_below (sq_r HO_6) hb); have n1_ := Aside0.mk (Kd.R_below (sq_r HO_9) hb); have n2_ := Aside0.mk (blk_below (g := gb263) (o := .cells #[.string a1_0, .int .i64 a1_1, .bool a1_2, .string a1_3] 41 (0, 0)) (sq_l BK263) hb); have n3_ := Aside0.mk (below_step (by repeat (first | (with_reducible first | exact HB.out | apply below_alloc | apply pw_below_drewN | apply below_drew1 | refine below_set ?_ GE263.out) | exact HB.out)) hb); clear HO_6; clear HO_9; clear BK263; clear HB; have HO_6 := n0_; have HO_9 := n1_; have BK263 := n2_; have HB := n3_; clear n0_ n1_ n2_ n3_; (try clear hb); (try clear hb2); (try clear hk); (try clear hi)))
            go_ret
            exact ⟨sq_w, by repeat (first | (with_reducible first | exact HB.out | apply below_alloc | apply pw_below_drewN | apply below_drew1 | refine below_set ?_ GE263.out) | exact HB.out)⟩
      ·replace c45 := Bool.eq_false_iff.mpr c45
       subst c45
       have H1 : (some false) = some r := by rw [if_neg (show ¬ (false = true) by decide)] at H; exact H
       clear H
       have H := H1
       clear H1
       obtain rfl := Option.some.inj H
       go_wp2_with (first | ((with_reducible refine gate_callee (f := 25) rfl ?_); refine goesL_ (some 54) rfl rfl Try.func25 (by kernel_rfl) rfl #[.slice A0 l0.length c0] rfl (by (try simp only [List.map_toArray, List.map_cons, List.map_nil]); first | done | rfl | (simp only [List.length_drop, List.length_take]; rfl)) ?_; (with_reducible refine (laws_toVersionS.calls kj18 _ _ l0 t289 _ ?side1 ?side2 A43.out).mono ?_); (case side1 => repeat (first | exact (Kd.C_below HR0.out HB.out) | (with_reducible refine Kd.C_alloc ?_ _) | (with_reducible refine Kd.C_drewN ?_ _) | (with_reducible refine Kd.C_drew ?_))); (case side2 => exact HC0.out); rintro e w99 ⟨v290, rfl, ho0, hb⟩; refine ⟨_, rfl, ?_⟩; have n0_ := Aside0.mk (Kd.R_elder' (sq_r HO_6) (Kd.R_base ho0) hb); have n1_ := Aside0.mk (Kd.R_elder' (sq_r HO_8) (Kd.R_base ho0) hb); have n2_ := Aside0.mk (Kd.R_elder' (sq_r HO_9) (Kd.R_base ho0) hb); have n3_ := Aside0.mk (Kd.R_lower (Kd.R_new' (Kd.R_new' (Kd.R_new' ho0 (Kd.R_lt (sq_r HO_6))) (Kd.R_lt (sq_r HO_8))) (Kd.R_lt (sq_r HO_9))) (below_size (by repeat (first | (with_reducible first | exact HB.out | apply below_alloc | apply pw_below_drewN | apply below_drew1 | refine below_set ?_ GE263.out) | exact HB.out)))); have n4_ := Aside0.mk (blk_below (g := gb263) (o := .cells #[.string a1_0, .int .i64 a1_1, .bool a1_2, .string a1_3] 41 (0, 0)) (sq_l BK263) hb); have n5_ := Aside0.mk (below_step (by repeat (first | (with_reducible first | exact HB.out | apply below_alloc | apply pw_below_drewN | apply below_drew1 | refine below_set ?_ GE263.out) | exact HB.out)) hb); clear HO_6; clear HO_8; clear HO_9; clear BK263; clear HB; have HO_6 := n0_; have HO_8 := n1_; have HO_9 := n2_; have HO291 := n3_; have BK263 := n4_; have HB := n5_; clear n0_ n1_ n2_ n3_ n4_ n5_; (try clear hb); (try clear hb2); (try clear hk); (try clear hi); (try clear ho0); obtain ⟨Ao100, co100, eo100⟩ := Kd.R_slice HO291.out; subst eo100) | ((with_reducible refine gate_callee (f := 28) rfl ?_); refine goesL_ (some 55) rfl rfl Try.func28 (by kernel_rfl) rfl #[.slice Ao32 t277.length co32, .slice Ao100 t289.length co100] rfl (by (try simp only [List.map_toArray, List.map_cons, List.map_nil]); first | done | rfl | (simp only [List.length_drop, List.length_take]; rfl)) ?_; (with_reducible refine (laws_eqVersionS.calls kj18 _ _ t277 _ _ t289 false _ ?side1 ?side2 ?side3 ?side4 A44.out).mono ?_); (case side1 => repeat (first | exact (Kd.R_reads' HO_8.out).2.2 | (with_reducible refine Kd.C_alloc ?_ _) | (with_reducible refine Kd.C_drewN ?_ _) | (with_reducible refine Kd.C_drew ?_))); (case side2 => exact (Kd.R_reads' HO_8.out).2.1); (case side3 => repeat (first | exact (Kd.R_reads' HO291.out).2.2 | (with_reducible refine Kd.C_alloc ?_ _) | (with_reducible refine Kd.C_drewN ?_ _) | (with_reducible refine Kd.C_drew ?_))); (case side4 => exact (Kd.R_reads' HO291.out).2.1); rintro e w101 ⟨rfl, hb⟩; refine ⟨_, rfl, ?_⟩; have n0_ := Aside0.mk (Kd.R_below (sq_r HO_6) hb); have n1_ := Aside0.mk (Kd.R_below (sq_r HO_8) hb); have n2_ := Aside0.mk (Kd.R_below (sq_r HO_9) hb); have n3_ := Aside0.mk (Kd.R_below (sq_r HO291) hb); have n4_ := Aside0.mk (blk_below (g := gb263) (o := .cells #[.string a1_0, .int .i64 a1_1, .bool a1_2, .string a1_3] 41 (0, 0)) (sq_l BK263) hb); have n5_ := Aside0.mk (below_step (by repeat (first | (with_reducible first | exact HB.out | apply below_alloc | apply pw_below_drewN | apply below_drew1 | refine below_set ?_ GE263.out) | exact HB.out)) hb); clear HO_6; clear HO_8; clear HO_9; clear HO291; clear BK263; clear HB; have HO_6 := n0_; have HO_8 := n1_; have HO_9 := n2_; have HO291 := n3_; have BK263 := n4_; have HB := n5_; clear n0_ n1_ n2_ n3_ n4_ n5_; (try clear hb); (try clear hb2); (try clear hk); (try clear hi)))
       go_ret
       exact ⟨sq_w, by repeat (first | (with_reducible first | exact HB.out | apply below_alloc | apply pw_below_drewN | apply below_drew1 | refine below_set ?_ GE263.out) | exact HB.out)⟩

end Go.Proofs.Ytabfkalcjfjkiaa.QFnExactPutVersion
