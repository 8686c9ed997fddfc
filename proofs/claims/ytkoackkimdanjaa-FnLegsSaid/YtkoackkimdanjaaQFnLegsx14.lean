-- Written by this session's own program (wip/pp_patch.py, wip/pp.sh) out of the given translation. Not trusted: Lean checks it.
import Derived.Test.YtkoackkimdanjaaQFnLegsx0
import Derived.Test.YtkoackkimdanjaaQFnLegsx1
import Derived.Test.YtkoackkimdanjaaQFnLegsx3
import Derived.Test.YtkoackkimdanjaaQFnLegsx12
import Derived.Test.YtkoackkimdanjaaQFnLegsx13
namespace Go.Proofs.Ytkoackkimdanjaa.QFnLegs
open Go.RowKit Go.Proofs.YtkoackkimdanjaaW.PrintWords Go.Proofs.YtkoackkimdanjaaW.PrintLast Go.Proofs.YtkoackkimdanjaaW.PrintMore
attribute [local go_sem] max2_int min2_int max_two min_two max_three min_three max_four min_four   -- for this text's walks alone
open Go.Proofs.Ytkoackkimdanjaa.Ext
attribute [local go_sem high] ext_gtr ext_leq
set_option linter.unusedVariables false
set_option linter.unusedSimpArgs false

attribute [local go_sem high] eqA48
/-! ### laws_sameEntries: function 37 -/
def laws_sameEntries.l0 : Nat → List (S48) → List (S48) → Int → Int → Option (Bool)
 | 0, _, _, _, _ => none
 | k + 1, x0, x1, x12, x13 => if x13 < x12 then (if 0 ≤ x13 then (if x13 < (x0.length : Int) then (if x13 < (x1.length : Int) then (if (!((((rd_T48 x0 x13).f0).toList) == (((rd_T48 x1 x13).f0).toList)) || (!(((rd_T48 x0 x13).f1) == ((rd_T48 x1 x13).f1)))) = true then (some false) else (laws_sameEntries.l0 k x0 x1 x12 (wrap64 (x13 + 1)))) else (none)) else (none)) else (none)) else (some true)
def laws_sameEntries.f (k : Nat) (l0 : List (S48)) (l1 : List (S48)) : Option (Bool) := if (l0.length : Int) = (l1.length : Int) then (laws_sameEntries.l0 k l0 l1 (l0.length : Int) 0) else (some false)
theorem laws_sameEntries.mono_l : ∀ k, (∀ y0 y1 y2 y3, LeO (laws_sameEntries.l0 k y0 y1 y2 y3) (laws_sameEntries.l0 (k + 1) y0 y1 y2 y3))
 | 0 => fun _ _ _ _ r h => by simp [laws_sameEntries.l0] at h
 | k + 1 => by
  have ih0 := laws_sameEntries.mono_l k
  ·intro y0 y1 y2 y3
   unfold laws_sameEntries.l0
   repeat' first
   | (with_reducible exact ih0 _ _ _ _)
   | (with_reducible exact LeO.refl _)
   | (with_reducible exact LeO.none _)
   | (with_reducible refine LeO.ite ?_ ?_)
   | (with_reducible refine LeO.bind ?_ (fun _ => ?_))
   | exact ih0 _ _ _ _
   | exact LeO.none _
   | refine LeO.ite ?_ ?_
   | refine LeO.bind ?_ (fun _ => ?_)
theorem laws_sameEntries.mono : ∀ a0 a1 k, LeO (laws_sameEntries.f k a0 a1) (laws_sameEntries.f (k + 1) a0 a1) := by
 intro a0 a1 k
 have ih0 := laws_sameEntries.mono_l k
 unfold laws_sameEntries.f
 repeat' first
   | (with_reducible exact ih0 _ _ _ _)
   | (with_reducible exact LeO.refl _)
   | (with_reducible exact LeO.none _)
   | (with_reducible refine LeO.ite ?_ ?_)
   | (with_reducible refine LeO.bind ?_ (fun _ => ?_))
   | exact ih0 _ _ _ _
   | exact LeO.none _
   | refine LeO.ite ?_ ?_
   | refine LeO.bind ?_ (fun _ => ?_)
set_option maxHeartbeats 8000000 in
set_option maxRecDepth 100000 in
theorem laws_sameEntries.calls (k : Nat) (A0 : Option Addr) (c0 : Nat) (l0 : List (S48)) (A1 : Option Addr) (c1 : Nat) (l1 : List (S48)) (r : Bool) (w : World) (hr0 : Kd.C k48 w A0 l0.length l0) (hc0 : l0.length ≤ c0) (hr1 : Kd.C k48 w A1 l1.length l1) (hc1 : l1.length ≤ c1) (h : laws_sameEntries.f k l0 l1 = some r) :
  Calls Try.prog 37 #[.slice A0 l0.length c0, .slice A1 l1.length c1] w fun e w' => e = .returned (.bool r) ∧ Drawn0 w w' := by
 have hu48 := Try.underlying48
 have HR0 := mk_ hr0
 have HC0 := mk_ hc0
 clear hr0 hc0
 have HR1 := mk_ hr1
 have HC1 := mk_ hc1
 clear hr1 hc1
 have H : (if (l0.length : Int) = (l1.length : Int) then (laws_sameEntries.l0 k l0 l1 (l0.length : Int) 0) else (some false)) = some r := h
 clear h
 by_cases c3 : (l0.length : Int) = (l1.length : Int)
 ·rw [if_pos c3] at H
  have c3b0 : ((l0.length : Int) == (l1.length : Int)) = true := beq_iff_eq.mpr c3
  have c3b1 : ((l0.length : Int) != (l1.length : Int)) = false := bne_eq_false_iff_eq.mpr c3
  have c3b2 : (l0.length == l1.length) = true := by first | simpa using c3 | (simp at c3 ⊢; omega)
  clear c3
  have H' := mk_ H
  clear H
  go_enter Try.func37, Try.ntmps37
  go_wp2
  repeat (go_quiet (fail); try go_wp2)
  go_loopg [13] k (fun kq v13 w' => ∃ (x13_1 : Int), v13 = .int .i64 x13_1 ∧ Aside0 (laws_sameEntries.l0 kq l0 l1 (l0.length : Int) x13_1 = some r) ∧ Aside0 (kq ≤ k) ∧ Drawn0 w w')
  case atStart => exact ⟨(0), sq_e, H', ⟨Nat.le_refl _⟩, by repeat (first | exact Drawn0.refl _ | apply Drawn0.step)⟩
  case round =>
   clear H'
   (try clear c1); (try clear p2); (try clear c3); (try clear c3b0); (try clear c3b1); (try clear c3b2)
   obtain ⟨x13_1, rfl, HA, HK1, ⟨m1, rfl⟩⟩ := hrel
   cases gk with
   | zero => exact absurd HA.out (by simp [laws_sameEntries.l0])
   | succ k1 =>
    have H := HA.out
    clear HA
    simp only [laws_sameEntries.l0] at H
    by_cases c4 : x13_1 < (l0.length : Int)
    ·rw [if_pos c4] at H
     have c4b0 : decide (x13_1 < (l0.length : Int)) = true := decide_eq_true c4
     clear c4
     by_cases c5 : 0 ≤ x13_1
     rotate_left
     ·rw [if_neg c5] at H
      exact absurd H (by simp)
     rw [if_pos c5] at H
     have c5b0 : decide (0 ≤ x13_1) = true := decide_eq_true c5
     clear c5
     by_cases c6 : x13_1 < (l0.length : Int)
     rotate_left
     ·rw [if_neg c6] at H
      exact absurd H (by simp)
     rw [if_pos c6] at H
     have c6b0 : decide (x13_1 < (l0.length : Int)) = true := decide_eq_true c6
     clear c6
     by_cases c7 : x13_1 < (l1.length : Int)
     rotate_left
     ·rw [if_neg c7] at H
      exact absurd H (by simp)
     rw [if_pos c7] at H
     have c7b0 : decide (x13_1 < (l1.length : Int)) = true := decide_eq_true c7
     clear c7
     by_cases c8 : (!((((rd_T48 l0 x13_1).f0).toList) == (((rd_T48 l1 x13_1).f0).toList)) || (!(((rd_T48 l0 x13_1).f1) == ((rd_T48 l1 x13_1).f1)))) = true
     ·rw [if_pos c8] at H
      have c8b0 : (!((((rd_T48 l0 x13_1).f0).toList) == (((rd_T48 l1 x13_1).f0).toList)) || (!(((rd_T48 l0 x13_1).f1) == ((rd_T48 l1 x13_1).f1)))) = true := c8
      clear c8
      obtain rfl := Option.some.inj H
      have p339 : 0 ≤ (x13_1 : Int) := sq_d
      have q339 : x13_1 < (l0.length : Int) := sq_d
      obtain ⟨ad339, e339, hx339_0, hx339_1⟩ := at_T48 HR0.out x13_1 p339 q339
      cases e339
      replace p339 := eq_true p339
      replace q339 := eq_true q339
      have p340 : 0 ≤ (x13_1 : Int) := sq_d
      have q340 : x13_1 < (l1.length : Int) := sq_d
      obtain ⟨ad340, e340, hx340_0, hx340_1⟩ := at_T48 HR1.out x13_1 p340 q340
      cases e340
      replace p340 := eq_true p340
      replace q340 := eq_true q340
      go_wp2
      repeat (go_quiet (fail); try go_wp2)
      go_ret
      exact ⟨sq_e, by repeat (first | exact Drawn0.refl _ | apply Drawn0.step)⟩
     ·rw [if_neg c8] at H
      have c8b0 : (!((((rd_T48 l0 x13_1).f0).toList) == (((rd_T48 l1 x13_1).f0).toList)) || (!(((rd_T48 l0 x13_1).f1) == ((rd_T48 l1 x13_1).f1)))) = false := by simpa using c8
      clear c8
      have H' := mk_ H
      clear H
      have p339 : 0 ≤ (x13_1 : Int) := sq_d
      have q339 : x13_1 < (l0.length : Int) := sq_d
      obtain ⟨ad339, e339, hx339_0, hx339_1⟩ := at_T48 HR0.out x13_1 p339 q339
      cases e339
      replace p339 := eq_true p339
      replace q339 := eq_true q339
      have p340 : 0 ≤ (x13_1 : Int) := sq_d
      have q340 : x13_1 < (l1.length : Int) := sq_d
      obtain ⟨ad340, e340, hx340_0, hx340_1⟩ := at_T48 HR1.out x13_1 p340 q340
      cases e340
      replace p340 := eq_true p340
      replace q340 := eq_true q340
      go_wp2
      repeat (go_quiet (fail); try go_wp2)
      go_roundg k1
      case measure => have := HK1.out; omega
      case rel => exact ⟨(wrap64 (x13_1 + 1)), sq_e, H', ⟨by have := HK1.out; omega⟩, by repeat (first | exact Drawn0.refl _ | apply Drawn0.step)⟩
    ·rw [if_neg c4] at H
     have c4b0 : decide (x13_1 < (l0.length : Int)) = false := decide_eq_false c4
     clear c4
     obtain rfl := Option.some.inj H
     go_wp2
     repeat (go_quiet (fail); try go_wp2)
     go_ret
     exact ⟨sq_e, by repeat (first | exact Drawn0.refl _ | apply Drawn0.step)⟩
 ·rw [if_neg c3] at H
  have c3b0 : ((l0.length : Int) == (l1.length : Int)) = false := beq_eq_false_iff_ne.mpr c3
  have c3b1 : ((l0.length : Int) != (l1.length : Int)) = true := bne_iff_ne.mpr c3
  have c3b2 : (l0.length == l1.length) = false := by first | simpa using c3 | (simp at c3 ⊢; omega)
  obtain rfl := Option.some.inj H
  go_enter Try.func37, Try.ntmps37
  go_wp2
  repeat (go_quiet (fail); try go_wp2)
  go_ret
  exact ⟨sq_e, by repeat (first | exact Drawn0.refl _ | apply Drawn0.step)⟩

/-! ### spec_l1Cur_legs: function 69 -/
mutual
def spec_l1Cur_legs.j0 : Nat → List (S59) → Bool → List Int → Int → Int → Option ((List (S59)) × Int × Int)
 | 0, _, _, _, _, _ => none
 | k + 1, x3, x17, x1000, x1001, x1002 => if x17 = true then ((spec_l1Cur_pick.f x1000 x1001 x1002 (x3.length : Int)).bind fun bt353 => (if 0 ≤ bt353.1 then (if bt353.1 < (x3.length : Int) then (spec_l1Cur_legs.j1 k (x3.set (bt353.1 : Int).toNat (⟨(rd_T59 x3 bt353.1).f0, (rd_T59 x3 bt353.1).f1, wrap64 (((rd_T59 x3 bt353.1).f2) + 1), (rd_T59 x3 bt353.1).f3⟩ : S59)) x1000 bt353.2.1 bt353.2.2) else (none)) else (none))) else (spec_l1Cur_legs.j1 k x3 x1000 x1001 x1002)
def spec_l1Cur_legs.j1 : Nat → List (S59) → List Int → Int → Int → Option ((List (S59)) × Int × Int)
 | 0, _, _, _, _ => none
 | k + 1, x3, x1000, x1001, x1002 => if (x3.length : Int) > 1 then ((spec_l1Cur_one.f x1000 x1001 x1002 20).bind fun bt358 => (if bt358.1 = true then (if 0 < (x3.length : Int) then ((spec_l1Cur_pick.f x1000 bt358.2.1 bt358.2.2 4).bind fun bt362 => (if 0 < (((rd_T59 x3 0).f3).length : Int) then (some ((x3.set (0 : Int).toNat (⟨(rd_T59 x3 0).f0, (rd_T59 x3 0).f1, (rd_T59 x3 0).f2, (((rd_T59 x3 0).f3).set (0 : Int).toNat bt362.1)⟩ : S59)), bt362.2.1, bt362.2.2)) else (none))) else (none)) else (some (x3, bt358.2.1, bt358.2.2)))) else (some (x3, x1001, x1002))
end
def spec_l1Cur_legs.f (k : Nat) (s0_0 : List Int) (s0_1 : Int) (s0_2 : Int) : Option ((List (S59)) × Int × Int) := (spec_l1Cur_entries.f k s0_0 s0_1 s0_2).bind fun bt341 => ((spec_BuildLegs.f k bt341.1).bind fun bt346 => (if (bt346.1.length : Int) > 0 then ((spec_l1Cur_one.f s0_0 bt341.2.1 bt341.2.2 20).bind fun bt350 => (spec_l1Cur_legs.j0 k bt346.1 bt350.1 s0_0 bt350.2.1 bt350.2.2)) else (spec_l1Cur_legs.j0 k bt346.1 false s0_0 bt341.2.1 bt341.2.2)))
theorem spec_l1Cur_legs.mono_l : ∀ k, (∀ y0 y1 y2 y3 y4, LeO (spec_l1Cur_legs.j0 k y0 y1 y2 y3 y4) (spec_l1Cur_legs.j0 (k + 1) y0 y1 y2 y3 y4)) ∧ (∀ y0 y1 y2 y3, LeO (spec_l1Cur_legs.j1 k y0 y1 y2 y3) (spec_l1Cur_legs.j1 (k + 1) y0 y1 y2 y3))
 | 0 => ⟨fun _ _ _ _ _ r h => by simp [spec_l1Cur_legs.j0] at h, fun _ _ _ _ r h => by simp [spec_l1Cur_legs.j1] at h⟩
 | k + 1 => by
  obtain ⟨ih0, ih1⟩ := spec_l1Cur_legs.mono_l k
  refine ⟨?_, ?_⟩
  ·intro y0 y1 y2 y3 y4
   unfold spec_l1Cur_legs.j0
   repeat' first
   | (with_reducible exact ih0 _ _ _ _ _)
   | (with_reducible exact ih1 _ _ _ _)
   | (with_reducible exact spec_BuildLegs.mono _ _)
   | (with_reducible exact spec_l1Cur_entries.mono _ _ _ _)
   | (with_reducible exact LeO.refl _)
   | (with_reducible exact LeO.none _)
   | (with_reducible refine LeO.ite ?_ ?_)
   | (with_reducible refine LeO.bind ?_ (fun _ => ?_))
   | exact ih0 _ _ _ _ _
   | exact ih1 _ _ _ _
   | exact spec_BuildLegs.mono _ _
   | exact spec_l1Cur_entries.mono _ _ _ _
   | exact LeO.none _
   | refine LeO.ite ?_ ?_
   | refine LeO.bind ?_ (fun _ => ?_)
  ·intro y0 y1 y2 y3
   unfold spec_l1Cur_legs.j1
   repeat' first
   | (with_reducible exact ih0 _ _ _ _ _)
   | (with_reducible exact ih1 _ _ _ _)
   | (with_reducible exact spec_BuildLegs.mono _ _)
   | (with_reducible exact spec_l1Cur_entries.mono _ _ _ _)
   | (with_reducible exact LeO.refl _)
   | (with_reducible exact LeO.none _)
   | (with_reducible refine LeO.ite ?_ ?_)
   | (with_reducible refine LeO.bind ?_ (fun _ => ?_))
   | exact ih0 _ _ _ _ _
   | exact ih1 _ _ _ _
   | exact spec_BuildLegs.mono _ _
   | exact spec_l1Cur_entries.mono _ _ _ _
   | exact LeO.none _
   | refine LeO.ite ?_ ?_
   | refine LeO.bind ?_ (fun _ => ?_)
theorem spec_l1Cur_legs.mono : ∀ a0 a1 a2 k, LeO (spec_l1Cur_legs.f k a0 a1 a2) (spec_l1Cur_legs.f (k + 1) a0 a1 a2) := by
 intro a0 a1 a2 k
 obtain ⟨ih0, ih1⟩ := spec_l1Cur_legs.mono_l k
 unfold spec_l1Cur_legs.f
 repeat' first
   | (with_reducible exact ih0 _ _ _ _ _)
   | (with_reducible exact ih1 _ _ _ _)
   | (with_reducible exact spec_BuildLegs.mono _ _)
   | (with_reducible exact spec_l1Cur_entries.mono _ _ _ _)
   | (with_reducible exact LeO.refl _)
   | (with_reducible exact LeO.none _)
   | (with_reducible refine LeO.ite ?_ ?_)
   | (with_reducible refine LeO.bind ?_ (fun _ => ?_))
   | exact ih0 _ _ _ _ _
   | exact ih1 _ _ _ _
   | exact spec_BuildLegs.mono _ _
   | exact spec_l1Cur_entries.mono _ _ _ _
   | exact LeO.none _
   | refine LeO.ite ?_ ?_
   | refine LeO.bind ?_ (fun _ => ?_)
def spec_l1Cur_legs.T5 : Bool × List (List Nat × List Nat) := (true, [([], []), ([0], [0]), ([1], [1]), ([2], [2]), ([], []), ([4], [4]), ([3, 0, 1, 2, 3, 4, 5], [3]), ([6, 5, 5, 0, 1, 2, 3, 4, 5], [5, 6])])
def spec_l1Cur_legs.B5 : List Nat := [0, 1, 3, 7, 0, 16, 63, 127]
theorem spec_l1Cur_legs.tab5 : rtab .any (opsOf Try.f69 5) = spec_l1Cur_legs.T5 := by kernel_rfl
theorem spec_l1Cur_legs.bits5 : waitsOk spec_l1Cur_legs.T5.2 spec_l1Cur_legs.B5 = true := by kernel_rfl
set_option maxHeartbeats 8000000 in
set_option maxRecDepth 100000 in
theorem spec_l1Cur_legs.calls (k : Nat) (g : Nat) (s0_0 : List Int) (s0_1 : Int) (s0_2 : Int) (r1 : List (S59)) (r2 : Int) (r3 : Int) (w0 w : World) (hI : IsS88 w0 w g s0_0 s0_1 s0_2) (hB : Below w0.heap.size w0 w) (h : spec_l1Cur_legs.f k s0_0 s0_1 s0_2 = some (r1, r2, r3)) :
  Calls Try.prog 69 #[.pointer (some ⟨g, 0, none⟩)] w fun e w' => ∃ v0_ : Value, e = .returned (v0_) ∧ Kd.S k59 59 w' w.heap.size (fun _ => True) v0_ r1 ∧ IsS88 w0 w' g s0_0 r2 r3 ∧ Below w0.heap.size w0 w' ∧ KeepBut w w' g none := by
 have HI0 := mk_ hI
 have HK := mk_ (KeepBut.refl w g none)
 have HL := mk_ hB.size
 clear hI
 have HW0 := mk_ hB.size
 have HB := mk_ hB
 clear hB
 have H : ((spec_l1Cur_entries.f k s0_0 s0_1 s0_2).bind fun bt341 => ((spec_BuildLegs.f k bt341.1).bind fun bt346 => (if (bt346.1.length : Int) > 0 then ((spec_l1Cur_one.f s0_0 bt341.2.1 bt341.2.2 20).bind fun bt350 => (spec_l1Cur_legs.j0 k bt346.1 bt350.1 s0_0 bt350.2.1 bt350.2.2)) else (spec_l1Cur_legs.j0 k bt346.1 false s0_0 bt341.2.1 bt341.2.2)))) = some (r1, r2, r3) := h
 clear h
 replace H := Option.bind_eq_some_iff.mp H
 obtain ⟨⟨t341, t344, t345⟩, A20, H⟩ := H
 replace H : ((spec_BuildLegs.f k t341).bind fun bt346 => (if (bt346.1.length : Int) > 0 then ((spec_l1Cur_one.f s0_0 t344 t345 20).bind fun bt350 => (spec_l1Cur_legs.j0 k bt346.1 bt350.1 s0_0 bt350.2.1 bt350.2.2)) else (spec_l1Cur_legs.j0 k bt346.1 false s0_0 t344 t345))) = some (r1, r2, r3) := H
 have A2 := mk_ A20
 clear A20
 replace H := Option.bind_eq_some_iff.mp H
 obtain ⟨⟨t346, t347⟩, A30, H⟩ := H
 replace H : (if (t346.length : Int) > 0 then ((spec_l1Cur_one.f s0_0 t344 t345 20).bind fun bt350 => (spec_l1Cur_legs.j0 k t346 bt350.1 s0_0 bt350.2.1 bt350.2.2)) else (spec_l1Cur_legs.j0 k t346 false s0_0 t344 t345)) = some (r1, r2, r3) := H
 have A3 := mk_ A30
 clear A30
 have HC4 := mk_ H
 clear H
 go_enter Try.func69, Try.ntmps69
 go_upto_region 2 with (first | ((with_reducible refine gate_callee (f := 100) rfl ?_); refine goesL_ (some 7) rfl rfl Try.func100 (by kernel_rfl) rfl #[.pointer (some ⟨g, 0, none⟩)] rfl sq_a ?_; (with_reducible refine (spec_l1Cur_entries.calls k g s0_0 s0_1 s0_2 t341 t344 t345 w0 _ ?side1 ?side2 A2.out).mono ?_); (case side1 => repeat (first | (with_reducible first | exact HI0.out | apply IsS88.alloc | apply IsS88.drewN | apply IsS88.drew | apply IsS88.set_1 | apply IsS88.set_2) | exact HI0.out)); (case side2 => exact sq_g (IsS88.ge HI0.out)); rintro e w5 ⟨v342, rfl, ho0, hi, hb, hk⟩; refine ⟨_, rfl, ?_⟩; have n0_ := mk_ (Kd.R_lower ho0 (keep_size (w := w) (g := g) (row := none) (by repeat (first | (with_reducible first | exact HK.out | apply KeepBut.set_ | apply keep_drewN | apply keep_drew | apply keep_alloc) | exact HK.out)))); have n1_ := mk_ (KeepBut.trans (by repeat (first | (with_reducible first | exact HK.out | apply KeepBut.set_ | apply keep_drewN | apply keep_drew | apply keep_alloc) | exact HK.out)) hk (.inl rfl)); have n2_ := mk_ (hb); have n3_ := mk_ (hi); clear HK HB HI0; have HO343 := n0_; have HK := n1_; have HB := n2_; have HI0 := n3_; clear n0_ n1_ n2_ n3_; (try clear hb); (try clear hk); (try clear hi); (try clear ho0); obtain ⟨Ao6, co6, eo6⟩ := Kd.R_slice HO343.out; subst eo6) | ((with_reducible refine gate_callee (f := 12) rfl ?_); refine goesL_ (some 8) rfl rfl Try.func12 (by kernel_rfl) rfl #[.slice Ao6 t341.length co6] rfl sq_a ?_; (with_reducible refine (spec_BuildLegs.calls k _ _ t341 t346 t347 _ ?side1 ?side2 A3.out).mono ?_); (case side1 => exact sq_c (Kd.R_reads' HO343.out).2.2); (case side2 => exact (Kd.R_reads' HO343.out).2.1); rintro e w7 ⟨v348, rfl, ho0, hb⟩; refine ⟨_, rfl, ?_⟩; have n0_ := mk_ (Kd.R_below (sq_r HO343) hb); have n1_ := mk_ (Kd.S_lower ho0 (keep_size (w := w) (g := g) (row := none) (by repeat (first | (with_reducible first | exact HK.out | apply KeepBut.set_ | apply keep_drewN | apply keep_drew | apply keep_alloc) | exact HK.out)))); have n2_ := mk_ (IsS88.below (by repeat (first | (with_reducible first | exact HI0.out | apply IsS88.alloc | apply IsS88.drewN | apply IsS88.drew | apply IsS88.set_1 | apply IsS88.set_2) | exact HI0.out)) hb); have n3_ := mk_ (KeepBut.trans (by repeat (first | (with_reducible first | exact HK.out | apply KeepBut.set_ | apply keep_drewN | apply keep_drew | apply keep_alloc) | exact HK.out)) (KeepBut.of_below hb g none) (.inl rfl)); have n4_ := mk_ (below_step (sq_g (IsS88.ge HI0.out)) hb); clear HO343 HI0 HK HB; have HO343 := n0_; have HO349 := n1_; have HI0 := n2_; have HK := n3_; have HB := n4_; clear n0_ n1_ n2_ n3_ n4_; (try clear hb); (try clear ho0)))
 (try simp only [Act.put, List.setIfInBounds_toArray, List.set_cons_zero, List.set_cons_succ])
 go_cut [17] (fun v17 wc => ∃ (kq : Nat) (x17_3 : Bool) (x1001_3 : Int) (x1002_3 : Int), v17 = .bool x17_3 ∧ Aside0 (spec_l1Cur_legs.j0 kq t346 x17_3 s0_0 x1001_3 x1002_3 = some (r1, r2, r3)) ∧ Aside0 (kq ≤ k) ∧ Aside0 (Kd.S k59 59 wc w.heap.size (fun _ => True) v348 t346) ∧ Aside0 (IsS88 w0 wc g s0_0 x1001_3 x1002_3) ∧ Aside0 (KeepBut w wc g none) ∧ Aside0 (Below w0.heap.size w0 wc))
 case first =>
  have H := HC4.out
  clear HC4
  by_cases c8 : (t346.length : Int) > 0
  ·rw [if_pos c8] at H
   have c8b0 : decide (0 < (t346.length : Int)) = true := decide_eq_true c8
   have c8b1 : decide (0 < t346.length) = true := decide_eq_true (by omega)
   clear c8
   (first | rw [c8b0] | (simp only [i64_w, i32_w]; rw [c8b0]) | skip)
   replace H := Option.bind_eq_some_iff.mp H
   obtain ⟨⟨t350, t351, t352⟩, A90, H⟩ := H
   replace H : (spec_l1Cur_legs.j0 k t346 t350 s0_0 t351 t352) = some (r1, r2, r3) := H
   have A9 := mk_ A90
   clear A90
   have H' := mk_ H
   clear H
   obtain ⟨Ao10, co10, eo10⟩ := Kd.S_slice HO349.out
   subst eo10
   go_wp2_with (first | (go_at_call 102; (with_reducible refine (spec_l1Cur_one.calls g s0_0 t344 t345 20 t350 t351 t352 w0 _ ?side1 ?side2 A9.out).mono ?_); (case side1 => repeat (first | (with_reducible first | exact HI0.out | apply IsS88.alloc | apply IsS88.drewN | apply IsS88.drew | apply IsS88.set_1 | apply IsS88.set_2) | exact HI0.out)); (case side2 => exact sq_g (IsS88.ge HI0.out)); rintro e w11 ⟨rfl, hi, hb, hk⟩; have n0_ := mk_ (Kd.R_mono (Kd.R_keep (IsS88.apart (show IsS88 w0 _ g s0_0 t344 t345 from by repeat (first | (with_reducible first | exact HI0.out | apply IsS88.alloc | apply IsS88.drewN | apply IsS88.drew | apply IsS88.set_1 | apply IsS88.set_2) | exact HI0.out)) (sq_r HO343) (by decide)) hk (fun _ h => h.2)) (fun _ h => h.1)); have n1_ := mk_ (Kd.S_mono (Kd.S_keep (IsS88.apartS (show IsS88 w0 _ g s0_0 t344 t345 from by repeat (first | (with_reducible first | exact HI0.out | apply IsS88.alloc | apply IsS88.drewN | apply IsS88.drew | apply IsS88.set_1 | apply IsS88.set_2) | exact HI0.out)) (sq_s HO349) (by decide)) hk (fun _ h => h.2)) (fun _ h => h.1)); have n2_ := mk_ (KeepBut.trans (by repeat (first | (with_reducible first | exact HK.out | apply KeepBut.set_ | apply keep_drewN | apply keep_drew | apply keep_alloc) | exact HK.out)) hk (.inl rfl)); have n3_ := mk_ (hb); have n4_ := mk_ (hi); clear HO343 HO349 HK HB HI0; have HO343 := n0_; have HO349 := n1_; have HK := n2_; have HB := n3_; have HI0 := n4_; clear n0_ n1_ n2_ n3_ n4_; (try clear hb); (try clear hk); (try clear hi)))
   go_meet
   case rel => exact ⟨_, (t350), (t351), (t352), sq_e, H', ⟨by first | omega | exact Nat.le_refl _⟩, ⟨by (with_reducible repeat (first | apply Kd.S_alloc | apply Kd.S_drewN | apply Kd.S_drew)); exact HO349.out⟩, ⟨by repeat (first | (with_reducible first | exact HI0.out | apply IsS88.alloc | apply IsS88.drewN | apply IsS88.drew | apply IsS88.set_1 | apply IsS88.set_2) | exact HI0.out)⟩, ⟨by repeat (first | (with_reducible first | exact HK.out | apply KeepBut.set_ | apply keep_drewN | apply keep_drew | apply keep_alloc) | exact HK.out)⟩, ⟨sq_g (IsS88.ge HI0.out)⟩⟩
  ·rw [if_neg c8] at H
   have c8b0 : decide (0 < (t346.length : Int)) = false := decide_eq_false c8
   have c8b1 : decide (0 < t346.length) = false := decide_eq_false (by omega)
   clear c8
   (first | rw [c8b0] | (simp only [i64_w, i32_w]; rw [c8b0]) | skip)
   have H' := mk_ H
   clear H
   obtain ⟨Ao12, co12, eo12⟩ := Kd.S_slice HO349.out
   subst eo12
   go_wp2
   go_meet
   case rel => exact ⟨_, (false), (t344), (t345), sq_e, H', ⟨by first | omega | exact Nat.le_refl _⟩, ⟨by (with_reducible repeat (first | apply Kd.S_alloc | apply Kd.S_drewN | apply Kd.S_drew)); exact HO349.out⟩, ⟨by repeat (first | (with_reducible first | exact HI0.out | apply IsS88.alloc | apply IsS88.drewN | apply IsS88.drew | apply IsS88.set_1 | apply IsS88.set_2) | exact HI0.out)⟩, ⟨by repeat (first | (with_reducible first | exact HK.out | apply KeepBut.set_ | apply keep_drewN | apply keep_drew | apply keep_alloc) | exact HK.out)⟩, ⟨sq_g (IsS88.ge HI0.out)⟩⟩
 case rest =>
  clear HC4
  (try clear c1); (try clear p2); (try clear c6); (try clear c8); (try clear c8b0); (try clear c8b1); (try clear c10); (try clear c12)
  obtain ⟨kq, x17_3, x1001_3, x1002_3, rfl, HA, HJ3, HO_3, HI0, HK, HB⟩ := hcut
  cases kq with
  | zero => exact absurd HA.out (by simp [spec_l1Cur_legs.j0])
  | succ kj3 =>
   have H := HA.out
   clear HA
   simp only [spec_l1Cur_legs.j0] at H
   have HC13 := mk_ H
   clear H
   go_upto_if 17 with (fail)
   go_cut [] (fun wc => ∃ (kq : Nat) (x3_12 : List (S59)) (x1001_12 : Int) (x1002_12 : Int), Aside0 (spec_l1Cur_legs.j1 kq x3_12 s0_0 x1001_12 x1002_12 = some (r1, r2, r3)) ∧ Aside0 (kq ≤ kj3) ∧ Aside0 (Kd.S k59 59 wc w.heap.size (fun _ => True) v348 x3_12) ∧ Aside0 (IsS88 w0 wc g s0_0 x1001_12 x1002_12) ∧ Aside0 (KeepBut w wc g none) ∧ Aside0 (Below w0.heap.size w0 wc))
   case first =>
    have H := HC13.out
    clear HC13
    by_cases c14 : x17_3 = true
    ·subst c14
     have H1 : ((spec_l1Cur_pick.f s0_0 x1001_3 x1002_3 (t346.length : Int)).bind fun bt353 => (if 0 ≤ bt353.1 then (if bt353.1 < (t346.length : Int) then (spec_l1Cur_legs.j1 kj3 (t346.set (bt353.1 : Int).toNat (⟨(rd_T59 t346 bt353.1).f0, (rd_T59 t346 bt353.1).f1, wrap64 (((rd_T59 t346 bt353.1).f2) + 1), (rd_T59 t346 bt353.1).f3⟩ : S59)) s0_0 bt353.2.1 bt353.2.2) else (none)) else (none))) = some (r1, r2, r3) := by rw [if_pos rfl] at H; exact H
     clear H
     have H := H1
     clear H1
     replace H := Option.bind_eq_some_iff.mp H
     obtain ⟨⟨t353, t354, t355⟩, A150, H⟩ := H
     replace H : (if 0 ≤ t353 then (if t353 < (t346.length : Int) then (spec_l1Cur_legs.j1 kj3 (t346.set (t353 : Int).toNat (⟨(rd_T59 t346 t353).f0, (rd_T59 t346 t353).f1, wrap64 (((rd_T59 t346 t353).f2) + 1), (rd_T59 t346 t353).f3⟩ : S59)) s0_0 t354 t355) else (none)) else (none)) = some (r1, r2, r3) := H
     have A15 := mk_ A150
     clear A150
     by_cases c16 : 0 ≤ t353
     rotate_left
     ·rw [if_neg c16] at H
      exact absurd H (by simp)
     rw [if_pos c16] at H
     have c16b0 : decide (0 ≤ t353) = true := decide_eq_true c16
     clear c16
     (first | rw [c16b0] | (simp only [i64_w, i32_w]; rw [c16b0]) | skip)
     by_cases c17 : t353 < (t346.length : Int)
     rotate_left
     ·rw [if_neg c17] at H
      exact absurd H (by simp)
     rw [if_pos c17] at H
     have c17b0 : decide (t353 < (t346.length : Int)) = true := decide_eq_true c17
     clear c17
     obtain ⟨y357, hy357⟩ : ∃ y_ : List (S59), y_ = (t346.set (t353 : Int).toNat (⟨(rd_T59 t346 t353).f0, (rd_T59 t346 t353).f1, wrap64 (((rd_T59 t346 t353).f2) + 1), (rd_T59 t346 t353).f3⟩ : S59)) := ⟨_, rfl⟩
     replace H : (spec_l1Cur_legs.j1 kj3 y357 s0_0 t354 t355) = some (r1, r2, r3) := by first | (rw [hy357]; with_reducible exact H) | (have H2_ := (Option.bind_some _ _).symm.trans H; rw [hy357]; with_reducible exact H2_) | (have H2_ := (Option.bind_some _ _).symm.trans H; with_reducible exact H2_) | with_reducible exact H | (rw [hy357]; exact H) | exact H
     have Ny357 := mk_ hy357
     clear hy357
     have H' := mk_ H
     clear H
     obtain ⟨Ao19, co19, eo19⟩ := Kd.S_slice HO_3.out
     subst eo19
     go_wp2_with (first | ((with_reducible refine gate_callee (f := 103) rfl ?_); refine goesL_ (some 22) rfl rfl Try.func103 (by kernel_rfl) rfl #[.pointer (some ⟨g, 0, none⟩), .int .i64 (t346.length : Int)] rfl sq_a ?_; (with_reducible refine (spec_l1Cur_pick.calls g s0_0 x1001_3 x1002_3 (t346.length : Int) t353 t354 t355 w0 _ ?side1 ?side2 A15.out).mono ?_); (case side1 => repeat (first | (with_reducible first | exact HI0.out | apply IsS88.alloc | apply IsS88.drewN | apply IsS88.drew | apply IsS88.set_1 | apply IsS88.set_2) | exact HI0.out)); (case side2 => exact sq_g (IsS88.ge HI0.out)); rintro e w20 ⟨rfl, hi, hb, hk⟩; refine ⟨_, rfl, ?_⟩; have n0_ := mk_ (Kd.S_mono (Kd.S_keep (IsS88.apartS (show IsS88 w0 _ g s0_0 x1001_3 x1002_3 from by repeat (first | (with_reducible first | exact HI0.out | apply IsS88.alloc | apply IsS88.drewN | apply IsS88.drew | apply IsS88.set_1 | apply IsS88.set_2) | exact HI0.out)) (sq_s HO_3) (by decide)) hk (fun _ h => h.2)) (fun _ h => h.1)); have n1_ := mk_ (KeepBut.trans (by repeat (first | (with_reducible first | exact HK.out | apply KeepBut.set_ | apply keep_drewN | apply keep_drew | apply keep_alloc) | exact HK.out)) hk (.inl rfl)); have n2_ := mk_ (hb); have n3_ := mk_ (hi); clear HO_3 HK HB HI0; have HO_3 := n0_; have HK := n1_; have HB := n2_; have HI0 := n3_; clear n0_ n1_ n2_ n3_; (try clear hb); (try clear hk); (try clear hi); have p356 : 0 ≤ (t353 : Int) := sq_d; have q356 : t353 < (t346.length : Int) := sq_d; (try (obtain ⟨Aq356, cq356, eq356⟩ := Kd.S_slice HO_3.out; subst eq356)); obtain ⟨ad356, A356_3, c356_3, e356, hx356_0, hx356_1, hx356_2, hx356_3, hl356_3, hi356_3⟩ := at_T59 (Kd.S_reads' HO_3.out).2.2 t353 p356 q356; cases e356; obtain ⟨ce356, hce356, hMe356, hcc356⟩ := Kd.S_get HO_3.out z59 t353 p356 (by first | exact q356 | exact sq_d | (have e_ := (Kd.S_reads' HO_3.out).1; omega)); obtain ⟨ve356_3, rfl, ge356_3⟩ := k59_openM hMe356; have hv356_3 := hcc356 3 _ rfl; rw [add_field _ _ 3 (by omega)] at hv356_3; replace hv356_3 := Option.some.inj (hv356_3.symm.trans hx356_3); rw [hv356_3] at ge356_3; have HL356_3 := mk_ (show Kd.R (Kd.int .i64) 3 _ _ _ _ ((rd_T59 t346 t353).f3) from ge356_3); clear hv356_3 ge356_3; have HX356_3 := mk_ hx356_3; clear hcc356 hce356; have HR356_3 := mk_ hi356_3; have HC356_3 := mk_ hl356_3; clear hi356_3 hl356_3; replace p356 := eq_true p356; replace q356 := eq_true q356; have p18 : 0 ≤ (t353 : Int) := sq_d; have q18 : (t353 : Int) < ((t346.length : Int) : Int) := sq_d; obtain ⟨go18, co18, eo18, gb18, gl18, cl18, HG18⟩ := Kd.S_form HO_3.out (by omega); (first | cases eo18 | (injection eo18 with ea_ en_ ec_; (first | subst ea_ | (injection ea_ with ea_; subst ea_)); subst ec_; clear en_)); have GB18 := mk_ gb18; have GG18 := mk_ HG18; clear gb18 gl18 HG18; (first | simp only [add_plain] at hx356_0 | skip); (first | simp only [add_plain] at hx356_1 | skip); (first | simp only [add_plain] at hx356_2 | skip); (first | simp only [add_plain] at hx356_3 | skip); obtain ⟨_, ce18, hcl18, hM18, hcc18, hfr18, _, _⟩ := Kd.S_elem HO_3.out z59 (t353 : Int) p18 q18; obtain ⟨ve18_3, rfl, ge18_3⟩ := k59_openM hM18; have hx18_0 : w20.cell? ⟨go18, (t353 : Int).toNat * 4, none⟩ = some (.int .i64 ((rd_T59 t346 t353).f0)) := hcc18 0 _ rfl; have hx18_1 : w20.cell? ⟨go18, (t353 : Int).toNat * 4 + 1, none⟩ = some (.int .i64 ((rd_T59 t346 t353).f1)) := hcc18 1 _ rfl; have hx18_2 : w20.cell? ⟨go18, (t353 : Int).toNat * 4 + 2, none⟩ = some (.int .i64 ((rd_T59 t346 t353).f2)) := hcc18 2 _ rfl; have hx18_3 : w20.cell? ⟨go18, (t353 : Int).toNat * 4 + 3, none⟩ = some (ve18_3) := hcc18 3 _ rfl; have hf18_0 : w20.frozen? ⟨go18, (t353 : Int).toNat * 4, none⟩ = false := hfr18 0; have hf18_1 : w20.frozen? ⟨go18, (t353 : Int).toNat * 4 + 1, none⟩ = false := hfr18 1; have hf18_2 : w20.frozen? ⟨go18, (t353 : Int).toNat * 4 + 2, none⟩ = false := hfr18 2; have hf18_3 : w20.frozen? ⟨go18, (t353 : Int).toNat * 4 + 3, none⟩ = false := hfr18 3; clear hcl18 hcc18 hfr18; (try clear hM18); replace p18 := eq_true p18; replace q18 := eq_true q18; have HX21 := mk_ (show Kd.S k59 59 w20 w.heap.size (fun k_ => ((fun _ => True)) k_ ∧ ¬ ((fun _ => False)) k_) (.slice (some ⟨go18, 0, none⟩) t346.length co19) t346 from (by (with_reducible repeat (first | apply Kd.S_alloc | apply Kd.S_drewN | apply Kd.S_drew)); exact Kd.S_mono HO_3.out (fun k_ hk => ⟨trivial, fun e_ => e_⟩))); obtain ⟨oki21, ce21, hcl21, hM21, hcc21, hfr21, hoki21, hH21⟩ := Kd.S_elem HX21.out z59 (t353 : Int) (sq_d) (by have h_ : (t353 : Int) < ((t346.length : Int) : Int) := sq_d; first | exact h_ | (have e_ := (Kd.S_reads' HO_3.out).1; omega) | simpa using h_); obtain ⟨ve21_3, rfl, ge21_3⟩ := k59_openM hM21; have HP21 := Kd.S_seg hH21 (sq_d) (by have h_ : (t353 : Int) < ((t346.length : Int) : Int) := sq_d; first | exact h_ | (have e_ := (Kd.S_reads' HO_3.out).1; omega) | simpa using h_) (seg := [.int .i64 (wrap64 (((rd_T59 t346 t353).f2) + 1))]) (j := 2) (show 3 ≤ 4 from by decide) (x' := (⟨(rd_T59 t346 t353).f0, (rd_T59 t346 t353).f1, wrap64 (((rd_T59 t346 t353).f2) + 1), (rd_T59 t346 t353).f3⟩ : S59)) (k59_mkM _ _ _ (⟨(rd_T59 t346 t353).f0, (rd_T59 t346 t353).f1, wrap64 (((rd_T59 t346 t353).f2) + 1), (rd_T59 t346 t353).f3⟩ : S59) (Kd.R_mono ge21_3 (fun _ h_ => Or.inl h_))) (fun _ hk => hk) (fun k_ hk_ => hk_.elim); have hx21_2 := hcc21 2 _ rfl; (try simp only [show (k59).sz = 4 from rfl, Nat.mul_one, Nat.add_zero] at hx21_2); have hf21_2 := hfr21 2; (try simp only [show (k59).sz = 4 from rfl, Nat.mul_one, Nat.add_zero] at hf21_2); clear hcl21 hcc21 hfr21 hoki21 hH21; (try clear hM21)) | ((with_reducible refine gate_store (t := 3) (p := 28) rfl ?_); refine store_event (t := 3) (p := 28) (v := ?vo_w22) (w1 := (w20.setCell ⟨go18, (t353 : Int).toNat * 4 + 2, none⟩ (.int .i64 (wrap64 (((rd_T59 t346 t353).f2) + 1))))) ?hg ?ho ?hn ?hr ?_; (case ho => rfl); (case hg => rfl); (case hn => rfl); (case hr => first | (go_simp; done) | (go_simp; rfl)); intro w22 hw; have hg : w20.grownBy w22 (some go18) := (by rw [hw]; exact HP21.2); have hp_ : Kd.S k59 59 w22 w.heap.size (fun _ => True) (.slice (some ⟨go18, 0, none⟩) t346.length co19) y357 := (by rw [hw, Ny357.out]; exact HP21.1); clear HP21; have n0_ := mk_ (hp_); have n1_ := mk_ (IsS88.grown (by repeat (first | (with_reducible first | exact HI0.out | apply IsS88.alloc | apply IsS88.drewN | apply IsS88.drew | apply IsS88.set_1 | apply IsS88.set_2) | exact HI0.out)) hg (IsS88.own_neS HI0.out HO_3.out (by decide))); have n2_ := mk_ (Kd.R_after (v := (.slice (some ⟨go18, 0, none⟩) t346.length co19)) (v1 := (.slice (some ⟨go18, 0, none⟩) t346.length co19)) (ok := (fun _ => True)) (sq_r HL356_3) hg (.inl rfl)); have n3_ := mk_ ((by rw [hw]; exact below_set (HB.out) (Nat.le_trans HL.out GB18.out) : Below w0.heap.size w0 w22)); have n4_ := mk_ (KeepBut.trans (by repeat (first | (with_reducible first | exact HK.out | apply KeepBut.set_ | apply keep_drewN | apply keep_drew | apply keep_alloc) | exact HK.out)) (KeepBut.of_grown hg g) (Kd.S_base2 HO_3.out)); clear HO_3 HI0 HL356_3 HB HK; have HO_3 := n0_; have HI0 := n1_; have HL356_3 := n2_; have HB := n3_; have HK := n4_; clear n0_ n1_ n2_ n3_ n4_; clear hg hw hp_))
     go_meet
     case rel => exact ⟨_, (y357), (t354), (t355), H', ⟨by have := HJ3.out; first | omega | exact Nat.le_refl _⟩, ⟨by (with_reducible repeat (first | apply Kd.S_alloc | apply Kd.S_drewN | apply Kd.S_drew)); exact HO_3.out⟩, ⟨by repeat (first | (with_reducible first | exact HI0.out | apply IsS88.alloc | apply IsS88.drewN | apply IsS88.drew | apply IsS88.set_1 | apply IsS88.set_2) | exact HI0.out)⟩, ⟨by repeat (first | (with_reducible first | exact HK.out | apply KeepBut.set_ | apply keep_drewN | apply keep_drew | apply keep_alloc) | exact HK.out)⟩, ⟨sq_g (IsS88.ge HI0.out)⟩⟩
    ·replace c14 := Bool.eq_false_iff.mpr c14
     subst c14
     have H1 : (spec_l1Cur_legs.j1 kj3 t346 s0_0 x1001_3 x1002_3) = some (r1, r2, r3) := by rw [if_neg (show ¬ (false = true) by decide)] at H; exact H
     clear H
     have H := H1
     clear H1
     have H' := mk_ H
     clear H
     go_wp2
     go_meet
     case rel => exact ⟨_, (t346), (x1001_3), (x1002_3), H', ⟨by have := HJ3.out; first | omega | exact Nat.le_refl _⟩, ⟨by (with_reducible repeat (first | apply Kd.S_alloc | apply Kd.S_drewN | apply Kd.S_drew)); exact HO_3.out⟩, ⟨by repeat (first | (with_reducible first | exact HI0.out | apply IsS88.alloc | apply IsS88.drewN | apply IsS88.drew | apply IsS88.set_1 | apply IsS88.set_2) | exact HI0.out)⟩, ⟨by repeat (first | (with_reducible first | exact HK.out | apply KeepBut.set_ | apply keep_drewN | apply keep_drew | apply keep_alloc) | exact HK.out)⟩, ⟨sq_g (IsS88.ge HI0.out)⟩⟩
   case rest =>
    clear HC13
    (try clear c1); (try clear p1); (try clear q1); (try clear hx1); (try clear hf1); (try clear c2); (try clear p2); (try clear hx2); (try clear hf2); (try clear c3); (try clear p3); (try clear q3); (try clear hx3); (try clear c6); (try clear p6); (try clear c8); (try clear c8b0); (try clear c8b1); (try clear c10); (try clear c12); (try clear c14); (try clear c16); (try clear c16b0); (try clear c17)
    (try clear c17b0); (try clear c18); (try clear p18); (try clear q18); (try clear hx18); (try clear hf18); (try clear c21); (try clear hx21); (try clear hf21); (try clear hx18_0); (try clear hx18_1); (try clear hx18_2); (try clear hx18_3); (try clear hx21_2); (try clear hx356_0); (try clear hx356_1); (try clear hx356_2); (try clear hx356_3); (try clear p18); (try clear p2); (try clear p356); (try clear q18)
    try clear q356
    obtain ⟨kq, x3_12, x1001_12, x1002_12, HA, HJ12, HO_3, HI0, HK, HB⟩ := hcut
    cases kq with
    | zero => exact absurd HA.out (by simp [spec_l1Cur_legs.j1])
    | succ kj12 =>
     have H := HA.out
     clear HA
     simp only [spec_l1Cur_legs.j1] at H
     by_cases c23 : (x3_12.length : Int) > 1
     ·rw [if_pos c23] at H
      have c23b0 : decide (1 < (x3_12.length : Int)) = true := decide_eq_true c23
      have c23b1 : decide (1 < x3_12.length) = true := decide_eq_true (by omega)
      clear c23
      replace H := Option.bind_eq_some_iff.mp H
      obtain ⟨⟨t358, t359, t360⟩, A240, H⟩ := H
      replace H : (if t358 = true then (if 0 < (x3_12.length : Int) then ((spec_l1Cur_pick.f s0_0 t359 t360 4).bind fun bt362 => (if 0 < (((rd_T59 x3_12 0).f3).length : Int) then (some ((x3_12.set (0 : Int).toNat (⟨(rd_T59 x3_12 0).f0, (rd_T59 x3_12 0).f1, (rd_T59 x3_12 0).f2, (((rd_T59 x3_12 0).f3).set (0 : Int).toNat bt362.1)⟩ : S59)), bt362.2.1, bt362.2.2)) else (none))) else (none)) else (some (x3_12, t359, t360))) = some (r1, r2, r3) := H
      have A24 := mk_ A240
      clear A240
      by_cases c25 : t358 = true
      ·subst c25
       have H1 : (if 0 < (x3_12.length : Int) then ((spec_l1Cur_pick.f s0_0 t359 t360 4).bind fun bt362 => (if 0 < (((rd_T59 x3_12 0).f3).length : Int) then (some ((x3_12.set (0 : Int).toNat (⟨(rd_T59 x3_12 0).f0, (rd_T59 x3_12 0).f1, (rd_T59 x3_12 0).f2, (((rd_T59 x3_12 0).f3).set (0 : Int).toNat bt362.1)⟩ : S59)), bt362.2.1, bt362.2.2)) else (none))) else (none)) = some (r1, r2, r3) := by rw [if_pos rfl] at H; exact H
       clear H
       have H := H1
       clear H1
       by_cases c26 : 0 < (x3_12.length : Int)
       rotate_left
       ·rw [if_neg c26] at H
        exact absurd H (by simp)
       rw [if_pos c26] at H
       have c26b0 : decide (0 < (x3_12.length : Int)) = true := decide_eq_true c26
       have c26b1 : decide (0 < x3_12.length) = true := decide_eq_true (by omega)
       clear c26
       replace H := Option.bind_eq_some_iff.mp H
       obtain ⟨⟨t362, t363, t364⟩, A270, H⟩ := H
       replace H : (if 0 < (((rd_T59 x3_12 0).f3).length : Int) then (some ((x3_12.set (0 : Int).toNat (⟨(rd_T59 x3_12 0).f0, (rd_T59 x3_12 0).f1, (rd_T59 x3_12 0).f2, (((rd_T59 x3_12 0).f3).set (0 : Int).toNat t362)⟩ : S59)), t363, t364)) else (none)) = some (r1, r2, r3) := H
       have A27 := mk_ A270
       clear A270
       by_cases c28 : 0 < (((rd_T59 x3_12 0).f3).length : Int)
       rotate_left
       ·rw [if_neg c28] at H
        exact absurd H (by simp)
       rw [if_pos c28] at H
       have c28b0 : decide (0 < (((rd_T59 x3_12 0).f3).length : Int)) = true := decide_eq_true c28
       have c28b1 : decide (0 < ((rd_T59 x3_12 0).f3).length) = true := decide_eq_true (by omega)
       clear c28
       obtain ⟨y365, hy365⟩ : ∃ y_ : List Int, y_ = (((rd_T59 x3_12 0).f3).set (0 : Int).toNat t362) := ⟨_, rfl⟩
       replace H : (some ((x3_12.set (0 : Int).toNat (⟨(rd_T59 x3_12 0).f0, (rd_T59 x3_12 0).f1, (rd_T59 x3_12 0).f2, y365⟩ : S59)), t363, t364)) = some (r1, r2, r3) := by first | (rw [hy365]; with_reducible exact H) | (have H2_ := (Option.bind_some _ _).symm.trans H; rw [hy365]; with_reducible exact H2_) | (have H2_ := (Option.bind_some _ _).symm.trans H; with_reducible exact H2_) | with_reducible exact H | (rw [hy365]; exact H) | exact H
       have Ny365 := mk_ hy365
       clear hy365
       obtain ⟨y367, hy367⟩ : ∃ y_ : List (S59), y_ = (x3_12.set (0 : Int).toNat (⟨(rd_T59 x3_12 0).f0, (rd_T59 x3_12 0).f1, (rd_T59 x3_12 0).f2, y365⟩ : S59)) := ⟨_, rfl⟩
       replace H : (some (y367, t363, t364)) = some (r1, r2, r3) := by first | (rw [hy367]; with_reducible exact H) | (have H2_ := (Option.bind_some _ _).symm.trans H; rw [hy367]; with_reducible exact H2_) | (have H2_ := (Option.bind_some _ _).symm.trans H; with_reducible exact H2_) | with_reducible exact H | (rw [hy367]; exact H) | exact H
       have Ny367 := mk_ hy367
       clear hy367
       simp only [Option.some.injEq, Prod.mk.injEq] at H
       obtain ⟨rfl, rfl, rfl⟩ := H
       obtain ⟨Ao30, co30, eo30⟩ := Kd.S_slice HO_3.out
       subst eo30
       try go_wp2_with (first | (go_at_call 102; (with_reducible refine (spec_l1Cur_one.calls g s0_0 x1001_12 x1002_12 20 true t359 t360 w0 _ ?side1 ?side2 A24.out).mono ?_); (case side1 => repeat (first | (with_reducible first | exact HI0.out | apply IsS88.alloc | apply IsS88.drewN | apply IsS88.drew | apply IsS88.set_1 | apply IsS88.set_2) | exact HI0.out)); (case side2 => exact sq_g (IsS88.ge HI0.out)); rintro e w31 ⟨rfl, hi, hb, hk⟩; have n0_ := mk_ (Kd.S_mono (Kd.S_keep (IsS88.apartS (show IsS88 w0 _ g s0_0 x1001_12 x1002_12 from by repeat (first | (with_reducible first | exact HI0.out | apply IsS88.alloc | apply IsS88.drewN | apply IsS88.drew | apply IsS88.set_1 | apply IsS88.set_2) | exact HI0.out)) (sq_s HO_3) (by decide)) hk (fun _ h => h.2)) (fun _ h => h.1)); have n1_ := mk_ (KeepBut.trans (by repeat (first | (with_reducible first | exact HK.out | apply KeepBut.set_ | apply keep_drewN | apply keep_drew | apply keep_alloc) | exact HK.out)) hk (.inl rfl)); have n2_ := mk_ (hb); have n3_ := mk_ (hi); clear HO_3 HK HB HI0; have HO_3 := n0_; have HK := n1_; have HB := n2_; have HI0 := n3_; clear n0_ n1_ n2_ n3_; (try clear hb); (try clear hk); (try clear hi)))
       have n0_ := mk_ (Kd.S_drew HO_3.out)
       have n1_ := mk_ (IsS88.drew HI0.out)
       have n2_ := mk_ (keep_drew HK.out)
       have n3_ := mk_ (below_drew1 HB.out)
       clear HO_3
       clear HI0
       clear HK
       clear HB
       have HO_3 := n0_
       have HI0 := n1_
       have HK := n2_
       have HB := n3_
       clear n0_ n1_ n2_ n3_
       have p361 : 0 ≤ (0 : Int) := (by omega)
       have q361 : 0 < (x3_12.length : Int) := sq_d
       (try (obtain ⟨Aq361, cq361, eq361⟩ := Kd.S_slice HO_3.out; subst eq361))
       obtain ⟨ad361, A361_3, c361_3, e361, hx361_0, hx361_1, hx361_2, hx361_3, hl361_3, hi361_3⟩ := at_T59 (Kd.S_reads' HO_3.out).2.2 0 p361 q361
       cases e361
       obtain ⟨ce361, hce361, hMe361, hcc361⟩ := Kd.S_get HO_3.out z59 0 p361 (by first | exact q361 | exact sq_d | (have e_ := (Kd.S_reads' HO_3.out).1; omega))
       obtain ⟨ve361_3, rfl, ge361_3⟩ := k59_openM hMe361
       have hv361_3 := hcc361 3 _ rfl
       rw [add_field _ _ 3 (by omega)] at hv361_3
       replace hv361_3 := Option.some.inj (hv361_3.symm.trans hx361_3)
       rw [hv361_3] at ge361_3
       have HL361_3 := mk_ (show Kd.R (Kd.int .i64) 3 _ _ _ _ ((rd_T59 x3_12 0).f3) from ge361_3)
       clear hv361_3 ge361_3
       have HX361_3 := mk_ hx361_3
       clear hcc361 hce361
       have qi361 : (0 < x3_12.length) = True := eq_true (by omega)
       (try rw [show ((0 : Int)).toNat = 0 from rfl] at hx361_0)
       (try rw [show 0 * 4 = 0 from rfl] at hx361_0)
       (try rw [Addr.add_zero'] at hx361_0)
       (try rw [show ((0 : Int)).toNat = 0 from rfl] at hx361_1)
       (try rw [show 0 * 4 = 0 from rfl] at hx361_1)
       (try rw [Addr.add_zero'] at hx361_1)
       (try rw [show ((0 : Int)).toNat = 0 from rfl] at hx361_2)
       (try rw [show 0 * 4 = 0 from rfl] at hx361_2)
       (try rw [Addr.add_zero'] at hx361_2)
       (try rw [show ((0 : Int)).toNat = 0 from rfl] at hx361_3)
       (try rw [show 0 * 4 = 0 from rfl] at hx361_3)
       (try rw [Addr.add_zero'] at hx361_3)
       have HR361_3 := mk_ hi361_3
       have HC361_3 := mk_ hl361_3
       clear hi361_3 hl361_3
       replace p361 := eq_true p361
       replace q361 := eq_true q361
       refine start_ (n := 8) (S := fun w' => w'.cell? ad361 = some (.int .i64 ((rd_T59 x3_12 0).f0)) ∧ w'.cell? ⟨ad361.block, ad361.off + 1, none⟩ = some (.int .i64 ((rd_T59 x3_12 0).f1)) ∧ w'.cell? ⟨ad361.block, ad361.off + 2, none⟩ = some (.int .i64 ((rd_T59 x3_12 0).f2)) ∧ w'.cell? ⟨ad361.block, ad361.off + 3, none⟩ = some (.slice A361_3 ((rd_T59 x3_12 0).f3).length c361_3)) (ds := [7]) #[false, false, false, false, false, false, false, false] (by kernel_rfl) rfl rfl ⟨hx361_0, hx361_1, hx361_2, hx361_3⟩ (fun hHeld => ?_); refine with_tabW spec_l1Cur_legs.tab5 spec_l1Cur_legs.bits5 (fun HT_ HW_ => ?_)
       generalize w31.drew = w32 at HO_3 HI0 HK HB HL361_3 HR361_3 HX361_3 hx361_0 hx361_1 hx361_2 hx361_3 hHeld ⊢
       refine pu_ 0 (some 36) #[true, false, false, false, false, false, false, false] HT_ ?_
       refine pu_ 1 (some 37) #[true, true, false, false, false, false, false, false] HT_ ?_
       refine pu_ 2 (some 38) #[true, true, true, false, false, false, false, false] HT_ ?_
       refine pu_ 4 (some 40) #[true, true, true, false, true, false, false, false] HT_ ?_
       refine take_ (i := 3) (N := some 39) (v := ?_) (a' := ?_) #[true, true, true, true, true, false, false, false] rfl rfl (take_ofW HT_.out HW_.out (by kernel_rfl)) (fun _ _ _ h => h) (Or.inl ⟨by rfl, ?_⟩) hHeld ?_ ?_
       rotate_left
       ·rintro w' ⟨s0, s1, s2, s3⟩
        go_simp
        with_reducible rfl
       rotate_left
       ·simp only [Act.put, List.setIfInBounds_toArray, List.set_cons_zero, List.set_cons_succ, i64_w, i32_w]
        rfl
       refine one_ (i := 5) (N := some 41) #[true, true, true, true, true, true, false, false] rfl rfl (one_of HT_.out (by kernel_rfl)) (by decide) (fun K hK => ?_)
       refine goes_ Try.func103 (by kernel_rfl) rfl #[.pointer (some ⟨g, 0, none⟩), .int .i64 4] (by rfl) rfl rfl sq_a ?_
       with_reducible refine (spec_l1Cur_pick.calls g s0_0 t359 t360 4 t362 t363 t364 w0 _ ?side1 ?side2 A27.out).mono ?_
       (case side1 => repeat (first | (with_reducible first | exact HI0.out | apply IsS88.alloc | apply IsS88.drewN | apply IsS88.drew | apply IsS88.set_1 | apply IsS88.set_2) | exact HI0.out))
       (case side2 => exact sq_g (IsS88.ge HI0.out))
       rintro e w33 ⟨rfl, hi, hb, hk⟩
       have HS0_ := keep_cell hk (hHeld.1) (by first | (rw [add_block]; exact Kd.own_blk (IsS88.own_neS HI0.out HO_3.out (by decide))) | (show (Addr.add _ _).block ≠ _; rw [add_block]; exact Kd.own_blk (IsS88.own_neS HI0.out HO_3.out (by decide))) | exact Kd.own_blk (IsS88.own_neS HI0.out HO_3.out (by decide)) | (dsimp only; exact Kd.own_blk (IsS88.own_neS HI0.out HO_3.out (by decide))))
       have HS1_ := keep_cell hk (hHeld.2.1) (by first | (rw [add_block]; exact Kd.own_blk (IsS88.own_neS HI0.out HO_3.out (by decide))) | (show (Addr.add _ _).block ≠ _; rw [add_block]; exact Kd.own_blk (IsS88.own_neS HI0.out HO_3.out (by decide))) | exact Kd.own_blk (IsS88.own_neS HI0.out HO_3.out (by decide)) | (dsimp only; exact Kd.own_blk (IsS88.own_neS HI0.out HO_3.out (by decide))))
       have HS2_ := keep_cell hk (hHeld.2.2.1) (by first | (rw [add_block]; exact Kd.own_blk (IsS88.own_neS HI0.out HO_3.out (by decide))) | (show (Addr.add _ _).block ≠ _; rw [add_block]; exact Kd.own_blk (IsS88.own_neS HI0.out HO_3.out (by decide))) | exact Kd.own_blk (IsS88.own_neS HI0.out HO_3.out (by decide)) | (dsimp only; exact Kd.own_blk (IsS88.own_neS HI0.out HO_3.out (by decide))))
       have HS3_ := keep_cell hk (hHeld.2.2.2) (by first | (rw [add_block]; exact Kd.own_blk (IsS88.own_neS HI0.out HO_3.out (by decide))) | (show (Addr.add _ _).block ≠ _; rw [add_block]; exact Kd.own_blk (IsS88.own_neS HI0.out HO_3.out (by decide))) | exact Kd.own_blk (IsS88.own_neS HI0.out HO_3.out (by decide)) | (dsimp only; exact Kd.own_blk (IsS88.own_neS HI0.out HO_3.out (by decide))))
       refine ⟨_, rfl, ?_⟩
       have n0_ := mk_ (Kd.S_mono (Kd.S_keep (IsS88.apartS (show IsS88 w0 _ g s0_0 t359 t360 from by repeat (first | (with_reducible first | exact HI0.out | apply IsS88.alloc | apply IsS88.drewN | apply IsS88.drew | apply IsS88.set_1 | apply IsS88.set_2) | exact HI0.out)) (sq_s HO_3) (by decide)) hk (fun _ h => h.2)) (fun _ h => h.1))
       have n1_ := mk_ (Kd.R_mono (Kd.R_keep (IsS88.apart (show IsS88 w0 _ g s0_0 t359 t360 from by repeat (first | (with_reducible first | exact HI0.out | apply IsS88.alloc | apply IsS88.drewN | apply IsS88.drew | apply IsS88.set_1 | apply IsS88.set_2) | exact HI0.out)) (sq_r HL361_3) (by decide)) hk (fun _ h => h.2)) (fun _ h => h.1))
       have n2_ := mk_ (keep_cell hk HX361_3.out (by first | (rw [add_block]; exact Kd.own_blk (IsS88.own_neS HI0.out HO_3.out (by decide))) | (show (Addr.add _ _).block ≠ _; rw [add_block]; exact Kd.own_blk (IsS88.own_neS HI0.out HO_3.out (by decide))) | exact Kd.own_blk (IsS88.own_neS HI0.out HO_3.out (by decide)) | (dsimp only; exact Kd.own_blk (IsS88.own_neS HI0.out HO_3.out (by decide)))))
       have n3_ := mk_ (KeepBut.trans (by repeat (first | (with_reducible first | exact HK.out | apply KeepBut.set_ | apply keep_drewN | apply keep_drew | apply keep_alloc) | exact HK.out)) hk (.inl rfl))
       have n4_ := mk_ (hb)
       have n5_ := mk_ (hi)
       clear HO_3
       clear HL361_3
       clear HX361_3
       clear HK
       clear HB
       clear HI0
       have HO_3 := n0_
       have HL361_3 := n1_
       have HX361_3 := n2_
       have HK := n3_
       have HB := n4_
       have HI0 := n5_
       clear n0_ n1_ n2_ n3_ n4_ n5_
       (try clear hb)
       (try clear hb2)
       (try clear hk)
       (try clear hi)
       have p29 : 0 ≤ (0 : Int) := (by omega)
       have q29 : (0 : Int) < ((((rd_T59 x3_12 0).f3).length : Int) : Int) := sq_d
       have qi29 : (0 < ((rd_T59 x3_12 0).f3).length) = True := eq_true (by omega)
       obtain ⟨go29, co29, eo29, gb29, gl29, cl29, HG29⟩ := Kd.R_form HL361_3.out (by omega)
       (first | cases eo29 | (injection eo29 with ea_ en_ ec_; (first | subst ea_ | (injection ea_ with ea_; subst ea_)); subst ec_; clear en_))
       have GB29 := mk_ gb29
       have GG29 := mk_ HG29
       clear gb29 gl29 HG29
       obtain ⟨hx29_0, hf29_0⟩ := Kd.R_celln 0 HL361_3.out (0 : Int) p29 q29
       (try rw [show ((0 : Int)).toNat = 0 from rfl] at hx29_0)
       (try simp only [Nat.reduceMul, Nat.zero_mul, Nat.zero_add, Nat.reduceAdd] at hx29_0)
       (try rw [show ((0 : Int)).toNat = 0 from rfl] at hf29_0)
       (try simp only [Nat.reduceMul, Nat.zero_mul, Nat.zero_add, Nat.reduceAdd] at hf29_0)
       replace p29 := eq_true p29
       replace q29 := eq_true q29
       have hq34 : (0 : Int) < (x3_12.length : Int) := (by have h_ : (0 : Int) < ((x3_12.length : Int) : Int) := sq_d; first | exact h_ | (have e_ := (Kd.S_reads' HO_3.out).1; omega) | simpa only [List.length_set, List.length_set] using h_)
       obtain ⟨oki34, ce34, hcl34, hM34, hcc34, hok34, hbk34⟩ := Kd.S_borrow HO_3.out z59 (0 : Int) (by omega) hq34
       obtain ⟨ve34_3, rfl, ge34_3⟩ := k59_openM hM34
       have hv34 := hcc34 3 _ rfl
       rw [add_field _ _ 3 (by omega)] at hv34
       replace hv34 := Option.some.inj (hv34.symm.trans HX361_3.out)
       subst hv34
       clear hcc34 hcl34
       replace ge34_3 := (show Kd.R (Kd.int .i64) 3 _ _ _ _ ((rd_T59 x3_12 0).f3) from ge34_3)
       have HP34 := Kd.R_putg ge34_3 (0 : Int) t362
       have HN0_go29 := mk_ (show g ≠ go29 from by have h_ := IsS88.own_ne HI0.out HL361_3.out (by decide); intro e_; exact h_ (by rw [e_]; rfl))
       rw [← Ny365.out] at HP34
       have HS34 := hbk34 HP34.2 (fun k_ e_ => by injection e_ with e_; subst e_; exact ge34_3.1 _ rfl) (x' := (⟨(rd_T59 x3_12 0).f0, (rd_T59 x3_12 0).f1, (rd_T59 x3_12 0).f2, y365⟩ : S59)) (k59_mkM _ _ _ (⟨(rd_T59 x3_12 0).f0, (rd_T59 x3_12 0).f1, (rd_T59 x3_12 0).f2, y365⟩ : S59) HP34.1)
       rw [← Ny367.out] at HS34
       have HQ34 := mk_ HS34
       clear HP34 HS34 hbk34 hok34
       refine hK.out _ _ ⟨HS0_, HS1_, HS2_, HS3_⟩ (fun hHeld => ?_)
       clear hK K
       refine norm_ (a' := ?_) ?_ ?_
       rotate_left
       ·show Act.put _ (some 41) _ = _
        simp only [Act.put, List.setIfInBounds_toArray, List.set_cons_zero, List.set_cons_succ, i64_w, i32_w]
        rfl
       refine pu_ 6 (some 42) #[true, true, true, true, true, true, true, false] HT_ ?_
       refine last_ (i := 7) (N := none) #[true, true, true, true, true, true, true, true] rfl rfl (one_of HT_.out (by kernel_rfl)) (by decide) (fun K hK => ?_)
       refine skip_ (w1 := ?_) (by rfl) rfl ?_ ?_
       rotate_left
       ·go_simp
        rfl
       refine hK.out _ _ ?_
       clear hK K
       refine done_ (done_of HT_.out (by kernel_rfl)) ?_
       try go_wp2
       go_ret
       exact ⟨_, sq_w, sq_s HQ34, by repeat (first | (with_reducible first | exact HI0.out | apply IsS88.alloc | apply IsS88.drewN | apply IsS88.drew | apply IsS88.set_1 | apply IsS88.set_2 | refine IsS88.far ?_ HN0_go29.out _) | exact HI0.out), sq_g2 (Nat.le_trans HL.out GB29.out) (IsS88.ge HI0.out), by repeat (first | (with_reducible first | exact HK.out | apply KeepBut.set_ | apply keep_drewN | apply keep_drew | apply keep_alloc | refine keep_far ?_ GB29.out _) | exact HK.out)⟩
      ·replace c25 := Bool.eq_false_iff.mpr c25
       subst c25
       have H1 : (some (x3_12, t359, t360)) = some (r1, r2, r3) := by rw [if_neg (show ¬ (false = true) by decide)] at H; exact H
       clear H
       have H := H1
       clear H1
       simp only [Option.some.injEq, Prod.mk.injEq] at H
       obtain ⟨rfl, rfl, rfl⟩ := H
       obtain ⟨Ao36, co36, eo36⟩ := Kd.S_slice HO_3.out
       subst eo36
       go_wp2_with (first | (go_at_call 102; (with_reducible refine (spec_l1Cur_one.calls g s0_0 x1001_12 x1002_12 20 false t359 t360 w0 _ ?side1 ?side2 A24.out).mono ?_); (case side1 => repeat (first | (with_reducible first | exact HI0.out | apply IsS88.alloc | apply IsS88.drewN | apply IsS88.drew | apply IsS88.set_1 | apply IsS88.set_2) | exact HI0.out)); (case side2 => exact sq_g (IsS88.ge HI0.out)); rintro e w37 ⟨rfl, hi, hb, hk⟩; have n0_ := mk_ (Kd.S_mono (Kd.S_keep (IsS88.apartS (show IsS88 w0 _ g s0_0 x1001_12 x1002_12 from by repeat (first | (with_reducible first | exact HI0.out | apply IsS88.alloc | apply IsS88.drewN | apply IsS88.drew | apply IsS88.set_1 | apply IsS88.set_2) | exact HI0.out)) (sq_s HO_3) (by decide)) hk (fun _ h => h.2)) (fun _ h => h.1)); have n1_ := mk_ (KeepBut.trans (by repeat (first | (with_reducible first | exact HK.out | apply KeepBut.set_ | apply keep_drewN | apply keep_drew | apply keep_alloc) | exact HK.out)) hk (.inl rfl)); have n2_ := mk_ (hb); have n3_ := mk_ (hi); clear HO_3 HK HB HI0; have HO_3 := n0_; have HK := n1_; have HB := n2_; have HI0 := n3_; clear n0_ n1_ n2_ n3_; (try clear hb); (try clear hk); (try clear hi)))
       go_ret
       exact ⟨_, sq_w, sq_s HO_3, by repeat (first | (with_reducible first | exact HI0.out | apply IsS88.alloc | apply IsS88.drewN | apply IsS88.drew | apply IsS88.set_1 | apply IsS88.set_2) | exact HI0.out), sq_g (IsS88.ge HI0.out), by repeat (first | (with_reducible first | exact HK.out | apply KeepBut.set_ | apply keep_drewN | apply keep_drew | apply keep_alloc) | exact HK.out)⟩
     ·rw [if_neg c23] at H
      have c23b0 : decide (1 < (x3_12.length : Int)) = false := decide_eq_false c23
      have c23b1 : decide (1 < x3_12.length) = false := decide_eq_false (by omega)
      clear c23
      simp only [Option.some.injEq, Prod.mk.injEq] at H
      obtain ⟨rfl, rfl, rfl⟩ := H
      obtain ⟨Ao38, co38, eo38⟩ := Kd.S_slice HO_3.out
      subst eo38
      go_wp2
      go_ret
      exact ⟨_, sq_w, sq_s HO_3, by repeat (first | (with_reducible first | exact HI0.out | apply IsS88.alloc | apply IsS88.drewN | apply IsS88.drew | apply IsS88.set_1 | apply IsS88.set_2) | exact HI0.out), sq_g (IsS88.ge HI0.out), by repeat (first | (with_reducible first | exact HK.out | apply KeepBut.set_ | apply keep_drewN | apply keep_drew | apply keep_alloc) | exact HK.out)⟩

/-! ### spec_DrawGoodLegs: function 68 -/
def spec_DrawGoodLegs.f (k : Nat) (l0 : List Int) : Option ((List (S59))) := (spec_l1Cur_legs.f k l0 0 0).bind fun bt369 => (some bt369.1)
theorem spec_DrawGoodLegs.mono : ∀ a0 k, LeO (spec_DrawGoodLegs.f k a0) (spec_DrawGoodLegs.f (k + 1) a0) := by
 intro a0 k
 unfold spec_DrawGoodLegs.f
 repeat' first
   | (with_reducible exact spec_l1Cur_legs.mono _ _ _ _)
   | (with_reducible exact LeO.refl _)
   | (with_reducible exact LeO.none _)
   | (with_reducible refine LeO.ite ?_ ?_)
   | (with_reducible refine LeO.bind ?_ (fun _ => ?_))
   | exact spec_l1Cur_legs.mono _ _ _ _
   | exact LeO.none _
   | refine LeO.ite ?_ ?_
   | refine LeO.bind ?_ (fun _ => ?_)
set_option maxHeartbeats 8000000 in
set_option maxRecDepth 100000 in
theorem spec_DrawGoodLegs.calls (k : Nat) (A0 : Option Addr) (c0 : Nat) (l0 : List Int) (r : List (S59)) (w : World) (hr0 : Kd.C (Kd.int .u8) w A0 l0.length l0) (hc0 : l0.length ≤ c0) (h : spec_DrawGoodLegs.f k l0 = some r) :
  Calls Try.prog 68 #[.slice A0 l0.length c0] w fun e w' => ∃ v0_ : Value, e = .returned (v0_) ∧ Kd.S k59 59 w' w.heap.size (fun _ => True) v0_ r ∧ Below w.heap.size w w' := by
 have hu88 := Try.underlying88
 have HR0 := mk_ hr0
 have HC0 := mk_ hc0
 clear hr0 hc0
 have HB := mk_ (Below.refl w.heap.size w)
 have H : ((spec_l1Cur_legs.f k l0 0 0).bind fun bt369 => (some bt369.1)) = some r := h
 clear h
 replace H := Option.bind_eq_some_iff.mp H
 obtain ⟨⟨t369, t372, t373⟩, A20, H⟩ := H
 replace H : (some t369) = some r := H
 have A2 := mk_ A20
 clear A20
 obtain rfl := Option.some.inj H
 go_enter Try.func68, Try.ntmps68
 go_wp2_with (first | ((with_reducible refine gate_dst (N := 6) rfl ?_); refine box_event sq_0 (N := 6) sq_0 (cs := #[.slice A0 l0.length c0, .int .i64 0, .int .u64 0]) (t := 88) sq_h ?_; intro gb368 hg w3 hbox hb; have n0_ := mk_ (below_step sq_b hb); have n1_ := mk_ (hbox); have n2_ := mk_ ((by rw [hg]; exact (below_size sq_b) : w.heap.size ≤ gb368)); have n3_ := mk_ ((by rw [hg]; exact (below_size sq_b) : w.heap.size ≤ gb368)); clear HB; have HB := n0_; have BK368 := n1_; have GW368 := n2_; have GE368 := n3_; clear n0_ n1_ n2_ n3_; clear hb hbox hg; have HI368 := mk_ (show IsS88 w w3 gb368 l0 0 0 from ⟨_, _, BK368.out, GE368.out, HR0.out⟩); clear BK368) | ((with_reducible refine gate_callee (f := 69) rfl ?_); refine goesL_ (some 8) rfl rfl Try.func69 (by kernel_rfl) rfl #[.pointer (some ⟨gb368, 0, none⟩)] rfl sq_a ?_; (with_reducible refine (spec_l1Cur_legs.calls k gb368 l0 0 0 t369 t372 t373 w _ ?side1 ?side2 A2.out).mono ?_); (case side1 => repeat (first | (with_reducible first | exact HI368.out | apply IsS88.alloc | apply IsS88.drewN | apply IsS88.drew | apply IsS88.set_1 | apply IsS88.set_2) | exact HI368.out)); (case side2 => exact sq_g (IsS88.ge HI368.out)); rintro e w4 ⟨v370, rfl, ho0, hi, hb, hk⟩; refine ⟨_, rfl, ?_⟩; have n0_ := mk_ (Kd.S_lower ho0 (below_size (sq_g (IsS88.ge HI368.out)))); have n1_ := mk_ (hb); have n2_ := mk_ (hi); clear HB HI368; have HO371 := n0_; have HB := n1_; have HI368 := n2_; clear n0_ n1_ n2_; (try clear hb); (try clear hk); (try clear hi); (try clear ho0)))
 go_ret
 exact ⟨_, sq_w, sq_s HO371, sq_g (IsS88.ge HI368.out)⟩

/-! ### spec_DrawEntriesIn: function 38 -/
def spec_DrawEntriesIn.f (k : Nat) (l0 : List Int) : Option ((List (S59))) := (spec_DrawGoodLegs.f k l0).bind fun t374 => (some t374)
theorem spec_DrawEntriesIn.mono : ∀ a0 k, LeO (spec_DrawEntriesIn.f k a0) (spec_DrawEntriesIn.f (k + 1) a0) := by
 intro a0 k
 unfold spec_DrawEntriesIn.f
 repeat' first
   | (with_reducible exact spec_DrawGoodLegs.mono _ _)
   | (with_reducible exact LeO.refl _)
   | (with_reducible exact LeO.none _)
   | (with_reducible refine LeO.ite ?_ ?_)
   | (with_reducible refine LeO.bind ?_ (fun _ => ?_))
   | exact spec_DrawGoodLegs.mono _ _
   | exact LeO.none _
   | refine LeO.ite ?_ ?_
   | refine LeO.bind ?_ (fun _ => ?_)
set_option maxHeartbeats 8000000 in
set_option maxRecDepth 100000 in
theorem spec_DrawEntriesIn.calls (k : Nat) (A0 : Option Addr) (c0 : Nat) (l0 : List Int) (r : List (S59)) (w : World) (hr0 : Kd.C (Kd.int .u8) w A0 l0.length l0) (hc0 : l0.length ≤ c0) (h : spec_DrawEntriesIn.f k l0 = some r) :
  Calls Try.prog 38 #[.slice A0 l0.length c0] w fun e w' => ∃ v0_ : Value, e = .returned (v0_) ∧ Kd.S k59 59 w' w.heap.size (fun _ => True) v0_ r ∧ Below w.heap.size w w' := by
 have HR0 := mk_ hr0
 have HC0 := mk_ hc0
 clear hr0 hc0
 have HB := mk_ (Below.refl w.heap.size w)
 have H : ((spec_DrawGoodLegs.f k l0).bind fun t374 => (some t374)) = some r := h
 clear h
 replace H := Option.bind_eq_some_iff.mp H
 obtain ⟨t374, A20, H⟩ := H
 replace H : (some t374) = some r := H
 have A2 := mk_ A20
 clear A20
 obtain rfl := Option.some.inj H
 go_enter Try.func38, Try.ntmps38
 go_wp2_with (first | ((with_reducible refine gate_callee (f := 68) rfl ?_); refine goesL_ (some 4) rfl rfl Try.func68 (by kernel_rfl) rfl #[.slice A0 l0.length c0] rfl sq_a ?_; (with_reducible refine (spec_DrawGoodLegs.calls k _ _ l0 t374 _ ?side1 ?side2 A2.out).mono ?_); (case side1 => exact sq_c HR0.out); (case side2 => exact HC0.out); rintro e w3 ⟨v375, rfl, ho0, hb⟩; refine ⟨_, rfl, ?_⟩; have n0_ := mk_ (Kd.S_lower ho0 (below_size sq_b)); have n1_ := mk_ (below_step sq_b hb); clear HB; have HO376 := n0_; have HB := n1_; clear n0_ n1_; (try clear hb); (try clear ho0)))
 go_ret
 exact ⟨_, sq_w, sq_s HO376, sq_b⟩

/-! ### spec_DrawPutEntry: function 39 -/
def spec_DrawPutEntry.f (k : Nat) (l0 : List Int) : Option ((List (S59)) × ByteArray × Int) := (spec_l1Cur_legs.f k l0 0 0).bind fun bt379 => ((spec_l1Cur_near.f l0 bt379.2.1 bt379.2.2).bind fun bt384 => ((spec_l1Cur_of.f l0 bt384.2.1 bt384.2.2 (([bt384.1, (⟨#[122, 101, 98, 114, 97]⟩ : ByteArray), (⟨#[]⟩ : ByteArray)] : List ByteArray))).bind fun bt390 => ((spec_l1Cur_among.f l0 bt390.2.1 bt390.2.2 (([0, 1, 7, 1000] : List Int))).bind fun bt396 => (some (bt379.1, bt390.1, bt396.1)))))
theorem spec_DrawPutEntry.mono : ∀ a0 k, LeO (spec_DrawPutEntry.f k a0) (spec_DrawPutEntry.f (k + 1) a0) := by
 intro a0 k
 unfold spec_DrawPutEntry.f
 repeat' first
   | (with_reducible exact spec_l1Cur_legs.mono _ _ _ _)
   | (with_reducible exact LeO.refl _)
   | (with_reducible exact LeO.none _)
   | (with_reducible refine LeO.ite ?_ ?_)
   | (with_reducible refine LeO.bind ?_ (fun _ => ?_))
   | exact spec_l1Cur_legs.mono _ _ _ _
   | exact LeO.none _
   | refine LeO.ite ?_ ?_
   | refine LeO.bind ?_ (fun _ => ?_)
set_option maxHeartbeats 8000000 in
set_option maxRecDepth 100000 in
theorem spec_DrawPutEntry.calls (k : Nat) (A0 : Option Addr) (c0 : Nat) (l0 : List Int) (r1 : List (S59)) (r2 : ByteArray) (r3 : Int) (w : World) (hr0 : Kd.C (Kd.int .u8) w A0 l0.length l0) (hc0 : l0.length ≤ c0) (h : spec_DrawPutEntry.f k l0 = some (r1, r2, r3)) :
  Calls Try.prog 39 #[.slice A0 l0.length c0] w fun e w' => ∃ v0_ : Value, e = .returned (.tuple #[v0_, .agg #[.string r2, .int .i64 r3]]) ∧ Kd.S k59 59 w' w.heap.size (fun _ => True) v0_ r1 ∧ Below w.heap.size w w' := by
 have hu48 := Try.underlying48
 have hu88 := Try.underlying88
 have HR0 := mk_ hr0
 have HC0 := mk_ hc0
 clear hr0 hc0
 have HB := mk_ (Below.refl w.heap.size w)
 have H : ((spec_l1Cur_legs.f k l0 0 0).bind fun bt379 => ((spec_l1Cur_near.f l0 bt379.2.1 bt379.2.2).bind fun bt384 => ((spec_l1Cur_of.f l0 bt384.2.1 bt384.2.2 (([bt384.1, (⟨#[122, 101, 98, 114, 97]⟩ : ByteArray), (⟨#[]⟩ : ByteArray)] : List ByteArray))).bind fun bt390 => ((spec_l1Cur_among.f l0 bt390.2.1 bt390.2.2 (([0, 1, 7, 1000] : List Int))).bind fun bt396 => (some (bt379.1, bt390.1, bt396.1)))))) = some (r1, r2, r3) := h
 clear h
 replace H := Option.bind_eq_some_iff.mp H
 obtain ⟨⟨t379, t382, t383⟩, A20, H⟩ := H
 replace H : ((spec_l1Cur_near.f l0 t382 t383).bind fun bt384 => ((spec_l1Cur_of.f l0 bt384.2.1 bt384.2.2 (([bt384.1, (⟨#[122, 101, 98, 114, 97]⟩ : ByteArray), (⟨#[]⟩ : ByteArray)] : List ByteArray))).bind fun bt390 => ((spec_l1Cur_among.f l0 bt390.2.1 bt390.2.2 (([0, 1, 7, 1000] : List Int))).bind fun bt396 => (some (t379, bt390.1, bt396.1))))) = some (r1, r2, r3) := H
 have A2 := mk_ A20
 clear A20
 replace H := Option.bind_eq_some_iff.mp H
 obtain ⟨⟨t384, t385, t386⟩, A30, H⟩ := H
 replace H : ((spec_l1Cur_of.f l0 t385 t386 (([t384, (⟨#[122, 101, 98, 114, 97]⟩ : ByteArray), (⟨#[]⟩ : ByteArray)] : List ByteArray))).bind fun bt390 => ((spec_l1Cur_among.f l0 bt390.2.1 bt390.2.2 (([0, 1, 7, 1000] : List Int))).bind fun bt396 => (some (t379, bt390.1, bt396.1)))) = some (r1, r2, r3) := H
 have A3 := mk_ A30
 clear A30
 obtain ⟨y387, hy387⟩ : ∃ y_ : List ByteArray, y_ = (([t384, (⟨#[122, 101, 98, 114, 97]⟩ : ByteArray), (⟨#[]⟩ : ByteArray)] : List ByteArray)) := ⟨_, rfl⟩
 replace H : ((spec_l1Cur_of.f l0 t385 t386 y387).bind fun bt390 => ((spec_l1Cur_among.f l0 bt390.2.1 bt390.2.2 (([0, 1, 7, 1000] : List Int))).bind fun bt396 => (some (t379, bt390.1, bt396.1)))) = some (r1, r2, r3) := by first | (rw [hy387]; with_reducible exact H) | (have H2_ := (Option.bind_some _ _).symm.trans H; rw [hy387]; with_reducible exact H2_) | (have H2_ := (Option.bind_some _ _).symm.trans H; with_reducible exact H2_) | with_reducible exact H | (rw [hy387]; exact H) | exact H
 have Ny387 := mk_ hy387
 clear hy387
 replace H := Option.bind_eq_some_iff.mp H
 obtain ⟨⟨t390, t391, t392⟩, A40, H⟩ := H
 replace H : ((spec_l1Cur_among.f l0 t391 t392 (([0, 1, 7, 1000] : List Int))).bind fun bt396 => (some (t379, t390, bt396.1))) = some (r1, r2, r3) := H
 have A4 := mk_ A40
 clear A40
 obtain ⟨y393, hy393⟩ : ∃ y_ : List Int, y_ = (([0, 1, 7, 1000] : List Int)) := ⟨_, rfl⟩
 replace H : ((spec_l1Cur_among.f l0 t391 t392 y393).bind fun bt396 => (some (t379, t390, bt396.1))) = some (r1, r2, r3) := by first | (rw [hy393]; with_reducible exact H) | (have H2_ := (Option.bind_some _ _).symm.trans H; rw [hy393]; with_reducible exact H2_) | (have H2_ := (Option.bind_some _ _).symm.trans H; with_reducible exact H2_) | with_reducible exact H | (rw [hy393]; exact H) | exact H
 have Ny393 := mk_ hy393
 clear hy393
 replace H := Option.bind_eq_some_iff.mp H
 obtain ⟨⟨t396, t397, t398⟩, A50, H⟩ := H
 replace H : (some (t379, t390, t396)) = some (r1, r2, r3) := H
 have A5 := mk_ A50
 clear A50
 simp only [Option.some.injEq, Prod.mk.injEq] at H
 obtain ⟨rfl, rfl, rfl⟩ := H
 go_enter Try.func39, Try.ntmps39
 go_wp2_with (first | ((with_reducible refine gate_dst (N := 3) rfl ?_); refine box_event sq_0 (N := 3) sq_0 (cs := #[.string (⟨#[]⟩ : ByteArray), .int .i64 0]) (t := 48) sq_h ?_; intro gb377 hg w6 hbox hb; have n0_ := mk_ (below_step sq_b hb); have n1_ := mk_ (hbox); have n2_ := mk_ ((by rw [hg]; exact (below_size sq_b) : w.heap.size ≤ gb377)); have n3_ := mk_ ((by rw [hg]; exact (below_size sq_b) : w.heap.size ≤ gb377)); clear HB; have HB := n0_; have BK377 := n1_; have GW377 := n2_; have GE377 := n3_; clear n0_ n1_ n2_ n3_; clear hb hbox hg) | ((with_reducible refine gate_dst (N := 7) rfl ?_); refine box_event sq_0 (N := 7) sq_0 (cs := #[.slice A0 l0.length c0, .int .i64 0, .int .u64 0]) (t := 88) sq_h ?_; intro gb378 hg w7 hbox hb; have n0_ := mk_ (blk_below (g := gb377) (o := .cells #[.string (⟨#[]⟩ : ByteArray), .int .i64 0] 48 (0, 0)) (sq_l BK377) hb); have n1_ := mk_ (below_step (sq_g GE377.out) hb); have n2_ := mk_ (hbox); have n3_ := mk_ ((by rw [hg]; exact (below_size (sq_g GE377.out)) : w.heap.size ≤ gb378)); have n4_ := mk_ ((by rw [hg]; exact (below_size (sq_g GE377.out)) : w.heap.size ≤ gb378)); have n5_ := mk_ ((by rw [hg]; exact Nat.ne_of_lt (blk_lt (g := gb377) (o := .cells #[.string (⟨#[]⟩ : ByteArray), .int .i64 0] 48 (0, 0)) (sq_l BK377)) : gb377 ≠ gb378)); have n6_ := mk_ ((by rw [hg]; exact Nat.ne_of_gt (blk_lt (g := gb377) (o := .cells #[.string (⟨#[]⟩ : ByteArray), .int .i64 0] 48 (0, 0)) (sq_l BK377)) : gb378 ≠ gb377)); clear BK377 HB; have BK377 := n0_; have HB := n1_; have BK378 := n2_; have GW378 := n3_; have GE378 := n4_; have NB377_378 := n5_; have NB378_377 := n6_; clear n0_ n1_ n2_ n3_ n4_ n5_ n6_; clear hb hbox hg; have HI378 := mk_ (show IsS88 w w7 gb378 l0 0 0 from ⟨_, _, BK378.out, GE378.out, HR0.out⟩); clear BK378) | ((with_reducible refine gate_callee (f := 69) rfl ?_); refine goesL_ (some 9) rfl rfl Try.func69 (by kernel_rfl) rfl #[.pointer (some ⟨gb378, 0, none⟩)] rfl sq_a ?_; (with_reducible refine (spec_l1Cur_legs.calls k gb378 l0 0 0 t379 t382 t383 w _ ?side1 ?side2 A2.out).mono ?_); (case side1 => repeat (first | (with_reducible first | exact HI378.out | apply IsS88.alloc | apply IsS88.drewN | apply IsS88.drew | apply IsS88.set_1 | apply IsS88.set_2 | refine IsS88.far ?_ NB378_377.out _) | exact HI378.out)); (case side2 => exact sq_g2 (IsS88.ge HI378.out) GE377.out); rintro e w8 ⟨v380, rfl, ho0, hi, hb, hk⟩; refine ⟨_, rfl, ?_⟩; have n0_ := mk_ (KeepBut.blk hk (g' := gb377) (o := .cells #[.string (⟨#[]⟩ : ByteArray), .int .i64 0] 48 (0, 0)) (sq_l BK377) NB377_378.out (by simp)); have n1_ := mk_ (Kd.S_lower ho0 (below_size (sq_g2 (IsS88.ge HI378.out) GE377.out))); have n2_ := mk_ (hb); have n3_ := mk_ (hi); clear BK377 HB HI378; have BK377 := n0_; have HO381 := n1_; have HB := n2_; have HI378 := n3_; clear n0_ n1_ n2_ n3_; (try clear hb); (try clear hk); (try clear hi); (try clear ho0)) | ((with_reducible refine gate_callee (f := 71) rfl ?_); refine goesL_ (some 12) rfl rfl Try.func71 (by kernel_rfl) rfl #[.pointer (some ⟨gb378, 0, none⟩)] rfl sq_a ?_; (with_reducible refine (spec_l1Cur_near.calls gb378 l0 t382 t383 t384 t385 t386 w _ ?side1 ?side2 A3.out).mono ?_); (case side1 => repeat (first | (with_reducible first | exact HI378.out | apply IsS88.alloc | apply IsS88.drewN | apply IsS88.drew | apply IsS88.set_1 | apply IsS88.set_2 | refine IsS88.far ?_ NB378_377.out _) | exact HI378.out)); (case side2 => exact sq_g2 (IsS88.ge HI378.out) GE377.out); rintro e w9 ⟨rfl, hi, hb, hk⟩; refine ⟨_, rfl, ?_⟩; have n0_ := mk_ (KeepBut.blk hk (g' := gb377) (o := .cells #[.string (⟨#[]⟩ : ByteArray), .int .i64 0] 48 (0, 0)) (sq_l BK377) NB377_378.out (by simp)); have n1_ := mk_ (Kd.S_mono (Kd.S_keep (IsS88.apartS (show IsS88 w _ gb378 l0 t382 t383 from by repeat (first | (with_reducible first | exact HI378.out | apply IsS88.alloc | apply IsS88.drewN | apply IsS88.drew | apply IsS88.set_1 | apply IsS88.set_2 | refine IsS88.far ?_ NB378_377.out _) | exact HI378.out)) (sq_s HO381) (by decide)) hk (fun _ h => h.2)) (fun _ h => h.1)); have n2_ := mk_ (hb); have n3_ := mk_ (hi); clear BK377 HO381 HB HI378; have BK377 := n0_; have HO381 := n1_; have HB := n2_; have HI378 := n3_; clear n0_ n1_ n2_ n3_; (try clear hb); (try clear hk); (try clear hi)) | ((with_reducible refine gate_dst (N := 13) rfl ?_); refine Kd.R_lit Kd.string _ 9 sq_0 (N := 13) sq_0 (xs := ([t384, (⟨#[122, 101, 98, 114, 97]⟩ : ByteArray), (⟨#[]⟩ : ByteArray)] : List ByteArray)) (inner := [.string t384, .string (⟨#[122, 101, 98, 114, 97]⟩ : ByteArray), .string (⟨#[]⟩ : ByteArray)]) (ok := fun _ => True) (okp := fun _ => True) sq_h ?hp (fun _ hk => hk) trivial (Below.refl _ _) (Nat.le_refl _) (by simp) ?_; (case hp => exact (Reps.one (show Kd.M Kd.string _ _ _ t384 [.string t384] from rfl) (Reps.one (show Kd.M Kd.string _ _ _ (⟨#[122, 101, 98, 114, 97]⟩ : ByteArray) [.string (⟨#[122, 101, 98, 114, 97]⟩ : ByteArray)] from rfl) (Reps.one (show Kd.M Kd.string _ _ _ (⟨#[]⟩ : ByteArray) [.string (⟨#[]⟩ : ByteArray)] from rfl) (Reps.none _ _))))); intro v388 w10 ho11 hb hg_ hnew_; clear hg_ hnew_; (first | rw [← Ny387.out] at ho11 | (simp only [Int.reduceToNat] at ho11; rw [← Ny387.out] at ho11)); have n0_ := mk_ (Kd.S_below (sq_s HO381) hb); have n1_ := mk_ (Kd.R_lower ho11 (below_size (sq_g2 (IsS88.ge HI378.out) GE377.out))); have n2_ := mk_ (blk_below (g := gb377) (o := .cells #[.string (⟨#[]⟩ : ByteArray), .int .i64 0] 48 (0, 0)) (sq_l BK377) hb); have n3_ := mk_ (IsS88.below (by repeat (first | (with_reducible first | exact HI378.out | apply IsS88.alloc | apply IsS88.drewN | apply IsS88.drew | apply IsS88.set_1 | apply IsS88.set_2 | refine IsS88.far ?_ NB378_377.out _) | exact HI378.out)) hb); have n4_ := mk_ (below_step (sq_g2 (IsS88.ge HI378.out) GE377.out) hb); clear HO381 BK377 HI378 HB; have HO381 := n0_; have HO389 := n1_; have BK377 := n2_; have HI378 := n3_; have HB := n4_; clear n0_ n1_ n2_ n3_ n4_; clear hb ho11; obtain ⟨Ao12, co12, eo12⟩ := Kd.R_slice HO389.out; subst eo12) | ((with_reducible refine gate_callee (f := 70) rfl ?_); refine goesL_ (some 14) rfl rfl Try.func70 (by kernel_rfl) rfl #[.pointer (some ⟨gb378, 0, none⟩), .slice Ao12 y387.length co12] rfl sq_a ?_; (with_reducible refine (spec_l1Cur_of.calls gb378 l0 t385 t386 _ _ y387 t390 t391 t392 w _ ?side1 ?side2 ?side3 ?side4 ?side5 A4.out).mono ?_); (case side1 => repeat (first | (with_reducible first | exact HI378.out | apply IsS88.alloc | apply IsS88.drewN | apply IsS88.drew | apply IsS88.set_1 | apply IsS88.set_2 | refine IsS88.far ?_ NB378_377.out _) | exact HI378.out)); (case side2 => exact sq_g2 (IsS88.ge HI378.out) GE377.out); (case side3 => exact sq_c (Kd.R_reads' HO389.out).2.2); (case side4 => exact (Kd.R_reads' HO389.out).2.1); (case side5 => exact far_slice (IsS88.own_ne HI378.out HO389.out (by decide))); rintro e w13 ⟨rfl, hi, hb, hk⟩; refine ⟨_, rfl, ?_⟩; have n0_ := mk_ (KeepBut.blk hk (g' := gb377) (o := .cells #[.string (⟨#[]⟩ : ByteArray), .int .i64 0] 48 (0, 0)) (sq_l BK377) NB377_378.out (by simp)); have n1_ := mk_ (Kd.S_mono (Kd.S_keep (IsS88.apartS (show IsS88 w _ gb378 l0 t385 t386 from by repeat (first | (with_reducible first | exact HI378.out | apply IsS88.alloc | apply IsS88.drewN | apply IsS88.drew | apply IsS88.set_1 | apply IsS88.set_2 | refine IsS88.far ?_ NB378_377.out _) | exact HI378.out)) (sq_s HO381) (by decide)) hk (fun _ h => h.2)) (fun _ h => h.1)); have n2_ := mk_ (Kd.R_mono (Kd.R_keep (IsS88.apart (show IsS88 w _ gb378 l0 t385 t386 from by repeat (first | (with_reducible first | exact HI378.out | apply IsS88.alloc | apply IsS88.drewN | apply IsS88.drew | apply IsS88.set_1 | apply IsS88.set_2 | refine IsS88.far ?_ NB378_377.out _) | exact HI378.out)) (sq_r HO389) (by decide)) hk (fun _ h => h.2)) (fun _ h => h.1)); have n3_ := mk_ (hb); have n4_ := mk_ (hi); clear BK377 HO381 HO389 HB HI378; have BK377 := n0_; have HO381 := n1_; have HO389 := n2_; have HB := n3_; have HI378 := n4_; clear n0_ n1_ n2_ n3_ n4_; (try clear hb); (try clear hk); (try clear hi)) | ((with_reducible refine gate_dst (N := 16) rfl ?_); refine Kd.R_lit (Kd.int .i64) _ 3 sq_0 (N := 16) sq_0 (xs := ([0, 1, 7, 1000] : List Int)) (inner := [.int .i64 0, .int .i64 1, .int .i64 7, .int .i64 1000]) (ok := fun _ => True) (okp := fun _ => True) sq_h ?hp (fun _ hk => hk) trivial (Below.refl _ _) (Nat.le_refl _) (by simp) ?_; (case hp => exact (Reps.one (show Kd.M (Kd.int .i64) _ _ _ 0 [.int .i64 0] from rfl) (Reps.one (show Kd.M (Kd.int .i64) _ _ _ 1 [.int .i64 1] from rfl) (Reps.one (show Kd.M (Kd.int .i64) _ _ _ 7 [.int .i64 7] from rfl) (Reps.one (show Kd.M (Kd.int .i64) _ _ _ 1000 [.int .i64 1000] from rfl) (Reps.none _ _)))))); intro v394 w14 ho15 hb hg_ hnew_; clear hg_ hnew_; (first | rw [← Ny393.out] at ho15 | (simp only [Int.reduceToNat] at ho15; rw [← Ny393.out] at ho15)); have n0_ := mk_ (Kd.S_elder' (sq_s HO381) (Kd.R_base ho15) hb); have n1_ := mk_ (Kd.R_below (sq_r HO389) hb); have n2_ := mk_ (Kd.R_lower ho15 (below_size (sq_g2 (IsS88.ge HI378.out) GE377.out))); have n3_ := mk_ (blk_below (g := gb377) (o := .cells #[.string (⟨#[]⟩ : ByteArray), .int .i64 0] 48 (0, 0)) (sq_l BK377) hb); have n4_ := mk_ (IsS88.below (by repeat (first | (with_reducible first | exact HI378.out | apply IsS88.alloc | apply IsS88.drewN | apply IsS88.drew | apply IsS88.set_1 | apply IsS88.set_2 | refine IsS88.far ?_ NB378_377.out _) | exact HI378.out)) hb); have n5_ := mk_ (below_step (sq_g2 (IsS88.ge HI378.out) GE377.out) hb); clear HO381 HO389 BK377 HI378 HB; have HO381 := n0_; have HO389 := n1_; have HO395 := n2_; have BK377 := n3_; have HI378 := n4_; have HB := n5_; clear n0_ n1_ n2_ n3_ n4_ n5_; clear hb ho15; obtain ⟨Ao16, co16, eo16⟩ := Kd.R_slice HO395.out; subst eo16) | ((with_reducible refine gate_callee (f := 72) rfl ?_); refine goesL_ (some 17) rfl rfl Try.func72 (by kernel_rfl) rfl #[.pointer (some ⟨gb378, 0, none⟩), .slice Ao16 y393.length co16] rfl sq_a ?_; (with_reducible refine (spec_l1Cur_among.calls gb378 l0 t391 t392 _ _ y393 t396 t397 t398 w _ ?side1 ?side2 ?side3 ?side4 ?side5 A5.out).mono ?_); (case side1 => repeat (first | (with_reducible first | exact HI378.out | apply IsS88.alloc | apply IsS88.drewN | apply IsS88.drew | apply IsS88.set_1 | apply IsS88.set_2 | refine IsS88.far ?_ NB378_377.out _) | exact HI378.out)); (case side2 => exact sq_g2 (IsS88.ge HI378.out) GE377.out); (case side3 => exact sq_c (Kd.R_reads' HO395.out).2.2); (case side4 => exact (Kd.R_reads' HO395.out).2.1); (case side5 => exact far_slice (IsS88.own_ne HI378.out HO395.out (by decide))); rintro e w17 ⟨rfl, hi, hb, hk⟩; refine ⟨_, rfl, ?_⟩; have n0_ := mk_ (KeepBut.blk hk (g' := gb377) (o := .cells #[.string (⟨#[]⟩ : ByteArray), .int .i64 0] 48 (0, 0)) (sq_l BK377) NB377_378.out (by simp)); have n1_ := mk_ (Kd.S_mono (Kd.S_keep (IsS88.apartS (show IsS88 w _ gb378 l0 t391 t392 from by repeat (first | (with_reducible first | exact HI378.out | apply IsS88.alloc | apply IsS88.drewN | apply IsS88.drew | apply IsS88.set_1 | apply IsS88.set_2 | refine IsS88.far ?_ NB378_377.out _) | exact HI378.out)) (sq_s HO381) (by decide)) hk (fun _ h => h.2)) (fun _ h => h.1)); have n2_ := mk_ (Kd.R_mono (Kd.R_keep (IsS88.apart (show IsS88 w _ gb378 l0 t391 t392 from by repeat (first | (with_reducible first | exact HI378.out | apply IsS88.alloc | apply IsS88.drewN | apply IsS88.drew | apply IsS88.set_1 | apply IsS88.set_2 | refine IsS88.far ?_ NB378_377.out _) | exact HI378.out)) (sq_r HO389) (by decide)) hk (fun _ h => h.2)) (fun _ h => h.1)); have n3_ := mk_ (Kd.R_mono (Kd.R_keep (IsS88.apart (show IsS88 w _ gb378 l0 t391 t392 from by repeat (first | (with_reducible first | exact HI378.out | apply IsS88.alloc | apply IsS88.drewN | apply IsS88.drew | apply IsS88.set_1 | apply IsS88.set_2 | refine IsS88.far ?_ NB378_377.out _) | exact HI378.out)) (sq_r HO395) (by decide)) hk (fun _ h => h.2)) (fun _ h => h.1)); have n4_ := mk_ (hb); have n5_ := mk_ (hi); clear BK377 HO381 HO389 HO395 HB HI378; have BK377 := n0_; have HO381 := n1_; have HO389 := n2_; have HO395 := n3_; have HB := n4_; have HI378 := n5_; clear n0_ n1_ n2_ n3_ n4_ n5_; (try clear hb); (try clear hk); (try clear hi); have hnb18 := NB377_378.out; have hnc18 := NB378_377.out; have hcz19_0 : w17.cell? ⟨gb377, 0, none⟩ = some (.string (⟨#[]⟩ : ByteArray)) := (blk_cell BK377.out 0).trans rfl; have hcz19_1 : w17.cell? ⟨gb377, 1, none⟩ = some (.int .i64 0) := (blk_cell BK377.out 1).trans rfl; have hfz19_0 := blk_frozen BK377.out 0; have hfz19_1 := blk_frozen BK377.out 1))
 refine bodyPost_ret (results_tc rfl _ _ gb377 48 #[.string t390, .int .i64 t396] (0, 0) _ rfl (by (with_reducible repeat (first | refine blk_drewN ?_ _ | refine blk_drew ?_ | refine blk_alloc ?_ _)); refine blk_put (cs := #[.string t390, .int .i64 0]) ?_ 1 _ rfl; (with_reducible repeat (first | refine blk_drewN ?_ _ | refine blk_drew ?_ | refine blk_alloc ?_ _)); refine blk_put (cs := #[.string (⟨#[]⟩ : ByteArray), .int .i64 0]) ?_ 0 _ rfl; (with_reducible repeat (first | refine blk_drewN ?_ _ | refine blk_drew ?_ | refine blk_alloc ?_ _)); exact BK377.out) Try.underlying48 rfl (by kernel_rfl)) rfl ?_
 exact ⟨_, sq_w, by (with_reducible repeat (first | apply Kd.S_alloc | apply Kd.S_drewN | apply Kd.S_drew)); exact Kd.S_mono (Kd.S_far (p := ⟨gb377, 1, none⟩) (Kd.S_far (p := ⟨gb377, 0, none⟩) (Kd.S_types HO381.out BK377.out (by decide)) (fun _ hk => hk.2) (.string t390)) (fun _ hk => hk.2) (.int .i64 t396)) (fun _ hk => trivial), sq_g2 (IsS88.ge HI378.out) GE377.out⟩

end Go.Proofs.Ytkoackkimdanjaa.QFnLegs
