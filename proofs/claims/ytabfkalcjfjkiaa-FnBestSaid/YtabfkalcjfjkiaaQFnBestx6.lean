-- Written by this session's own program (wip/pp_patch.py, wip/pp.sh) out of the given translation. Not trusted: Lean checks it.
import Derived.Test.YtabfkalcjfjkiaaQFnBestx0
import Derived.Test.YtabfkalcjfjkiaaQFnBestx4
import Derived.Test.YtabfkalcjfjkiaaQFnBestx5
namespace Go.Proofs.Ytabfkalcjfjkiaa.QFnBest
open Go.RowKit Go.Proofs.YtabfkalcjfjkiaaW.PrintWords Go.Proofs.YtabfkalcjfjkiaaW.PrintLast Go.Proofs.YtabfkalcjfjkiaaW.PrintMore
attribute [local go_sem] max2_int min2_int max_two min_two max_three min_three max_four min_four   -- for this text's walks alone
open Go.Proofs.Ytabfkalcjfjkiaa.Ext
attribute [local go_sem high] ext_gtr ext_leq
set_option linter.unusedVariables false
set_option linter.unusedSimpArgs false

/-! ### impl_areRows_1: function 106 -/
def impl_areRows_1.f (k : Nat) (l0 : List (S33)) : Option (Bool) := (impl_GoodRow.f k l0).bind fun t261 => (some (!t261))
theorem impl_areRows_1.mono : ∀ a0 k, LeO (impl_areRows_1.f k a0) (impl_areRows_1.f (k + 1) a0) := by
 intro a0 k
 unfold impl_areRows_1.f
 repeat' first
   | (with_reducible exact impl_GoodRow.mono _ _)
   | (with_reducible exact LeO.refl _)
   | (with_reducible exact LeO.none _)
   | (with_reducible refine LeO.ite ?_ ?_)
   | (with_reducible refine LeO.bind ?_ (fun _ => ?_))
   | exact impl_GoodRow.mono _ _
   | exact LeO.none _
   | refine LeO.ite ?_ ?_
   | refine LeO.bind ?_ (fun _ => ?_)
set_option maxHeartbeats 8000000 in
set_option maxRecDepth 100000 in
theorem impl_areRows_1.calls (k : Nat) (A0 : Option Addr) (c0 : Nat) (l0 : List (S33)) (r : Bool) (w : World) (hr0 : Kd.C k33 w A0 l0.length l0) (hc0 : l0.length ≤ c0) (h : impl_areRows_1.f k l0 = some r) :
  Calls Try.prog 106 #[.slice A0 l0.length c0] w fun e w' => e = .returned (.bool r) ∧ Below w.heap.size w w' := by
 have HR0 := Aside0.mk hr0
 have HC0 := Aside0.mk hc0
 clear hr0 hc0
 have HB := Aside0.mk (Below.refl w.heap.size w)
 have H : ((impl_GoodRow.f k l0).bind fun t261 => (some (!t261))) = some r := h
 clear h
 replace H := Option.bind_eq_some_iff.mp H
 obtain ⟨t261, A20, H⟩ := H
 replace H : (some (!t261)) = some r := H
 have A2 := Aside0.mk A20
 clear A20
 obtain rfl := Option.some.inj H
 go_enter Try.func106, Try.ntmps106
 go_wp2_with (first | ((with_reducible refine gate_callee (f := 20) rfl ?_); refine goesL_ (some 4) rfl rfl Try.func20 (by kernel_rfl) rfl #[.slice A0 l0.length c0] rfl (by (try simp only [List.map_toArray, List.map_cons, List.map_nil]); first | done | rfl | (simp only [List.length_drop, List.length_take]; rfl)) ?_; (with_reducible refine (impl_GoodRow.calls k _ _ l0 t261 _ ?side1 ?side2 A2.out).mono ?_); (case side1 => repeat (first | exact HR0.out | (with_reducible refine Kd.C_alloc ?_ _) | (with_reducible refine Kd.C_drewN ?_ _) | (with_reducible refine Kd.C_drew ?_))); (case side2 => exact HC0.out); rintro e w3 ⟨rfl, hb⟩; refine ⟨_, rfl, ?_⟩; have n0_ := Aside0.mk (below_step sq_b hb); clear HB; have HB := n0_; clear n0_; (try clear hb); (try clear hb2); (try clear hk); (try clear hi)))
 go_ret
 exact ⟨sq_w, sq_b⟩

/-! ### slices_IndexFunc_impl_Score__impl_areRows_1: function 123 -/
def slices_IndexFunc_impl_Score__impl_areRows_1.l0 : Nat → List (List (S33)) → Int → Int → Option (Int)
 | 0, _, _, _ => none
 | k + 1, x0, x7, x8 => if x8 < x7 then (if 0 ≤ x8 then (if x8 < (x0.length : Int) then ((impl_areRows_1.f k (rd_L3 x0 x8)).bind fun t263 => (if t263 = true then (some x8) else (slices_IndexFunc_impl_Score__impl_areRows_1.l0 k x0 x7 (wrap64 (x8 + 1))))) else (none)) else (none)) else (some (-1))
def slices_IndexFunc_impl_Score__impl_areRows_1.f (k : Nat) (l0 : List (List (S33)))  : Option (Int) := slices_IndexFunc_impl_Score__impl_areRows_1.l0 k l0 (l0.length : Int) 0
theorem slices_IndexFunc_impl_Score__impl_areRows_1.mono_l : ∀ k, (∀ y0 y1 y2, LeO (slices_IndexFunc_impl_Score__impl_areRows_1.l0 k y0 y1 y2) (slices_IndexFunc_impl_Score__impl_areRows_1.l0 (k + 1) y0 y1 y2))
 | 0 => fun _ _ _ r h => by simp [slices_IndexFunc_impl_Score__impl_areRows_1.l0] at h
 | k + 1 => by
  have ih0 := slices_IndexFunc_impl_Score__impl_areRows_1.mono_l k
  ·intro y0 y1 y2
   unfold slices_IndexFunc_impl_Score__impl_areRows_1.l0
   repeat' first
   | (with_reducible exact ih0 _ _ _)
   | (with_reducible exact impl_areRows_1.mono _ _)
   | (with_reducible exact LeO.refl _)
   | (with_reducible exact LeO.none _)
   | (with_reducible refine LeO.ite ?_ ?_)
   | (with_reducible refine LeO.bind ?_ (fun _ => ?_))
   | exact ih0 _ _ _
   | exact impl_areRows_1.mono _ _
   | exact LeO.none _
   | refine LeO.ite ?_ ?_
   | refine LeO.bind ?_ (fun _ => ?_)
theorem slices_IndexFunc_impl_Score__impl_areRows_1.mono : ∀ a0 k, LeO (slices_IndexFunc_impl_Score__impl_areRows_1.f k a0) (slices_IndexFunc_impl_Score__impl_areRows_1.f (k + 1) a0) := by
 intro a0 k
 have ih0 := slices_IndexFunc_impl_Score__impl_areRows_1.mono_l k
 unfold slices_IndexFunc_impl_Score__impl_areRows_1.f
 repeat' first
   | (with_reducible exact ih0 _ _ _)
   | (with_reducible exact impl_areRows_1.mono _ _)
   | (with_reducible exact LeO.refl _)
   | (with_reducible exact LeO.none _)
   | (with_reducible refine LeO.ite ?_ ?_)
   | (with_reducible refine LeO.bind ?_ (fun _ => ?_))
   | exact ih0 _ _ _
   | exact impl_areRows_1.mono _ _
   | exact LeO.none _
   | refine LeO.ite ?_ ?_
   | refine LeO.bind ?_ (fun _ => ?_)
set_option maxHeartbeats 8000000 in
set_option maxRecDepth 100000 in
theorem slices_IndexFunc_impl_Score__impl_areRows_1.calls (k : Nat) (A0 : Option Addr) (c0 : Nat) (l0 : List (List (S33)))  (r : Int) (w : World) (hr0 : Kd.C (Kd.slice 33 k33) w A0 l0.length l0) (hc0 : l0.length ≤ c0) (h : slices_IndexFunc_impl_Score__impl_areRows_1.f k l0 = some r) :
  Calls Try.prog 123 #[.slice A0 l0.length c0, .func (.func 106) #[] #[]] w fun e w' => e = .returned (.int .i64 r) ∧ Below w.heap.size w w' := by
 have HR0 := Aside0.mk hr0
 have HC0 := Aside0.mk hc0
 clear hr0 hc0
 have HB := Aside0.mk (Below.refl w.heap.size w)
 have H : (slices_IndexFunc_impl_Score__impl_areRows_1.l0 k l0 (l0.length : Int) 0) = some r := h
 clear h
 have H' := Aside0.mk H
 clear H
 go_enter Try.func123, Try.ntmps123
 go_wp2
 go_loopg [8] k (fun kq v8 w' => ∃ (x8_1 : Int), v8 = .int .i64 x8_1 ∧ Aside0 (slices_IndexFunc_impl_Score__impl_areRows_1.l0 kq l0 (l0.length : Int) x8_1 = some r) ∧ Aside0 (kq ≤ k) ∧ Aside0 (Below w.heap.size w w'))
 case atStart => exact ⟨(0), sq_e, H', ⟨Nat.le_refl _⟩, ⟨sq_b⟩⟩
 case round =>
  clear H'
  try clear p2
  obtain ⟨x8_1, rfl, HA, HK1, HB⟩ := hrel
  cases gk with
  | zero => exact absurd HA.out (by simp [slices_IndexFunc_impl_Score__impl_areRows_1.l0])
  | succ k1 =>
   have H := HA.out
   clear HA
   simp only [slices_IndexFunc_impl_Score__impl_areRows_1.l0] at H
   by_cases c3 : x8_1 < (l0.length : Int)
   ·rw [if_pos c3] at H
    have c3b0 : decide (x8_1 < (l0.length : Int)) = true := decide_eq_true c3
    clear c3
    by_cases c4 : 0 ≤ x8_1
    rotate_left
    ·rw [if_neg c4] at H
     exact absurd H (by simp)
    rw [if_pos c4] at H
    have c4b0 : decide (0 ≤ x8_1) = true := decide_eq_true c4
    clear c4
    by_cases c5 : x8_1 < (l0.length : Int)
    rotate_left
    ·rw [if_neg c5] at H
     exact absurd H (by simp)
    rw [if_pos c5] at H
    have c5b0 : decide (x8_1 < (l0.length : Int)) = true := decide_eq_true c5
    clear c5
    replace H := Option.bind_eq_some_iff.mp H
    obtain ⟨t263, A60, H⟩ := H
    replace H : (if t263 = true then (some x8_1) else (slices_IndexFunc_impl_Score__impl_areRows_1.l0 k1 l0 (l0.length : Int) (wrap64 (x8_1 + 1)))) = some r := H
    have A6 := Aside0.mk A60
    clear A60
    by_cases c7 : t263 = true
    ·subst c7
     have H1 : (some x8_1) = some r := by rw [if_pos rfl] at H; exact H
     clear H
     have H := H1
     clear H1
     obtain rfl := Option.some.inj H
     have p262 : 0 ≤ (x8_1 : Int) := sq_d
     have q262 : x8_1 < (l0.length : Int) := sq_d
     obtain ⟨ad262, A262_0, c262_0, e262, hx262_0, hl262_0, hi262_0⟩ := at_L3 HR0.out x8_1 p262 q262
     cases e262
     replace hx262_0 := (HB.out.cell (World.block_lt_of_cell? w _ hx262_0)).trans hx262_0
     have HR262_0 := Aside0.mk hi262_0
     have HC262_0 := Aside0.mk hl262_0
     clear hi262_0 hl262_0
     replace p262 := eq_true p262
     replace q262 := eq_true q262
     go_wp2_with (first | (go_at_call 106; (with_reducible refine (impl_areRows_1.calls k1 _ _ (rd_L3 l0 x8_1) true _ ?side1 ?side2 A6.out).mono ?_); (case side1 => repeat (first | exact (Kd.C_below HR262_0.out HB.out) | (with_reducible refine Kd.C_alloc ?_ _) | (with_reducible refine Kd.C_drewN ?_ _) | (with_reducible refine Kd.C_drew ?_))); (case side2 => exact HC262_0.out); rintro e w8 ⟨rfl, hb⟩; have n0_ := Aside0.mk (below_step sq_b hb); clear HB; have HB := n0_; clear n0_; (try clear hb); (try clear hb2); (try clear hk); (try clear hi)))
     go_ret
     exact ⟨sq_w, sq_b⟩
    ·replace c7 := Bool.eq_false_iff.mpr c7
     subst c7
     have H1 : (slices_IndexFunc_impl_Score__impl_areRows_1.l0 k1 l0 (l0.length : Int) (wrap64 (x8_1 + 1))) = some r := by rw [if_neg (show ¬ (false = true) by decide)] at H; exact H
     clear H
     have H := H1
     clear H1
     have H' := Aside0.mk H
     clear H
     have p262 : 0 ≤ (x8_1 : Int) := sq_d
     have q262 : x8_1 < (l0.length : Int) := sq_d
     obtain ⟨ad262, A262_0, c262_0, e262, hx262_0, hl262_0, hi262_0⟩ := at_L3 HR0.out x8_1 p262 q262
     cases e262
     replace hx262_0 := (HB.out.cell (World.block_lt_of_cell? w _ hx262_0)).trans hx262_0
     have HR262_0 := Aside0.mk hi262_0
     have HC262_0 := Aside0.mk hl262_0
     clear hi262_0 hl262_0
     replace p262 := eq_true p262
     replace q262 := eq_true q262
     go_wp2_with (first | (go_at_call 106; (with_reducible refine (impl_areRows_1.calls k1 _ _ (rd_L3 l0 x8_1) false _ ?side1 ?side2 A6.out).mono ?_); (case side1 => repeat (first | exact (Kd.C_below HR262_0.out HB.out) | (with_reducible refine Kd.C_alloc ?_ _) | (with_reducible refine Kd.C_drewN ?_ _) | (with_reducible refine Kd.C_drew ?_))); (case side2 => exact HC262_0.out); rintro e w9 ⟨rfl, hb⟩; have n0_ := Aside0.mk (below_step sq_b hb); clear HB; have HB := n0_; clear n0_; (try clear hb); (try clear hb2); (try clear hk); (try clear hi)))
     go_roundg k1
     case measure => have := HK1.out; omega
     case rel => exact ⟨(wrap64 (x8_1 + 1)), sq_e, H', ⟨by have := HK1.out; omega⟩, ⟨sq_b⟩⟩
   ·rw [if_neg c3] at H
    have c3b0 : decide (x8_1 < (l0.length : Int)) = false := decide_eq_false c3
    clear c3
    obtain rfl := Option.some.inj H
    go_wp2
    go_ret
    exact ⟨sq_w, sq_b⟩

/-! ### slices_ContainsFunc_impl_Score__impl_areRows_1: function 105 -/
def slices_ContainsFunc_impl_Score__impl_areRows_1.f (k : Nat) (l0 : List (List (S33)))  : Option (Bool) := (slices_IndexFunc_impl_Score__impl_areRows_1.f k l0).bind fun t264 => (some (decide (t264 ≥ 0)))
theorem slices_ContainsFunc_impl_Score__impl_areRows_1.mono : ∀ a0 k, LeO (slices_ContainsFunc_impl_Score__impl_areRows_1.f k a0) (slices_ContainsFunc_impl_Score__impl_areRows_1.f (k + 1) a0) := by
 intro a0 k
 unfold slices_ContainsFunc_impl_Score__impl_areRows_1.f
 repeat' first
   | (with_reducible exact slices_IndexFunc_impl_Score__impl_areRows_1.mono _ _)
   | (with_reducible exact LeO.refl _)
   | (with_reducible exact LeO.none _)
   | (with_reducible refine LeO.ite ?_ ?_)
   | (with_reducible refine LeO.bind ?_ (fun _ => ?_))
   | exact slices_IndexFunc_impl_Score__impl_areRows_1.mono _ _
   | exact LeO.none _
   | refine LeO.ite ?_ ?_
   | refine LeO.bind ?_ (fun _ => ?_)
set_option maxHeartbeats 8000000 in
set_option maxRecDepth 100000 in
theorem slices_ContainsFunc_impl_Score__impl_areRows_1.calls (k : Nat) (A0 : Option Addr) (c0 : Nat) (l0 : List (List (S33)))  (r : Bool) (w : World) (hr0 : Kd.C (Kd.slice 33 k33) w A0 l0.length l0) (hc0 : l0.length ≤ c0) (h : slices_ContainsFunc_impl_Score__impl_areRows_1.f k l0 = some r) :
  Calls Try.prog 105 #[.slice A0 l0.length c0, .func (.func 106) #[] #[]] w fun e w' => e = .returned (.bool r) ∧ Below w.heap.size w w' := by
 have HR0 := Aside0.mk hr0
 have HC0 := Aside0.mk hc0
 clear hr0 hc0
 have HB := Aside0.mk (Below.refl w.heap.size w)
 have H : ((slices_IndexFunc_impl_Score__impl_areRows_1.f k l0).bind fun t264 => (some (decide (t264 ≥ 0)))) = some r := h
 clear h
 replace H := Option.bind_eq_some_iff.mp H
 obtain ⟨t264, A30, H⟩ := H
 replace H : (some (decide (t264 ≥ 0))) = some r := H
 have A3 := Aside0.mk A30
 clear A30
 obtain rfl := Option.some.inj H
 go_enter Try.func105, Try.ntmps105
 go_wp2_with (first | ((with_reducible refine gate_callee (f := 123) rfl ?_); refine goesL_ (some 7) rfl rfl Try.func123 (by kernel_rfl) rfl #[.slice A0 l0.length c0, .func (.func 106) #[] #[]] rfl (by (try simp only [List.map_toArray, List.map_cons, List.map_nil]); first | done | rfl | (simp only [List.length_drop, List.length_take]; rfl)) ?_; (with_reducible refine (slices_IndexFunc_impl_Score__impl_areRows_1.calls k _ _ l0  t264 _ ?side1 ?side2 A3.out).mono ?_); (case side1 => repeat (first | exact HR0.out | (with_reducible refine Kd.C_alloc ?_ _) | (with_reducible refine Kd.C_drewN ?_ _) | (with_reducible refine Kd.C_drew ?_))); (case side2 => exact HC0.out); rintro e w4 ⟨rfl, hb⟩; refine ⟨_, rfl, ?_⟩; have n0_ := Aside0.mk (below_step sq_b hb); clear HB; have HB := n0_; clear n0_; (try clear hb); (try clear hb2); (try clear hk); (try clear hi)))
 go_ret
 exact ⟨sq_w, sq_b⟩

/-! ### impl_areRows: function 57 -/
def impl_areRows.f (k : Nat) (l0 : List (List (S33))) : Option (Bool) := (impl_within.f (l0.length : Int) 1 4).bind fun t265 => (if t265 = true then ((slices_ContainsFunc_impl_Score__impl_areRows_1.f k l0).bind fun t266 => (some (!t266))) else (some false))
theorem impl_areRows.mono : ∀ a0 k, LeO (impl_areRows.f k a0) (impl_areRows.f (k + 1) a0) := by
 intro a0 k
 unfold impl_areRows.f
 repeat' first
   | (with_reducible exact slices_ContainsFunc_impl_Score__impl_areRows_1.mono _ _)
   | (with_reducible exact LeO.refl _)
   | (with_reducible exact LeO.none _)
   | (with_reducible refine LeO.ite ?_ ?_)
   | (with_reducible refine LeO.bind ?_ (fun _ => ?_))
   | exact slices_ContainsFunc_impl_Score__impl_areRows_1.mono _ _
   | exact LeO.none _
   | refine LeO.ite ?_ ?_
   | refine LeO.bind ?_ (fun _ => ?_)
set_option maxHeartbeats 8000000 in
set_option maxRecDepth 100000 in
theorem impl_areRows.calls (k : Nat) (A0 : Option Addr) (c0 : Nat) (l0 : List (List (S33))) (r : Bool) (w : World) (hr0 : Kd.C (Kd.slice 33 k33) w A0 l0.length l0) (hc0 : l0.length ≤ c0) (h : impl_areRows.f k l0 = some r) :
  Calls Try.prog 57 #[.slice A0 l0.length c0] w fun e w' => e = .returned (.bool r) ∧ Below w.heap.size w w' := by
 have HR0 := Aside0.mk hr0
 have HC0 := Aside0.mk hc0
 clear hr0 hc0
 have HB := Aside0.mk (Below.refl w.heap.size w)
 have H : ((impl_within.f (l0.length : Int) 1 4).bind fun t265 => (if t265 = true then ((slices_ContainsFunc_impl_Score__impl_areRows_1.f k l0).bind fun t266 => (some (!t266))) else (some false))) = some r := h
 clear h
 replace H := Option.bind_eq_some_iff.mp H
 obtain ⟨t265, A20, H⟩ := H
 replace H : (if t265 = true then ((slices_ContainsFunc_impl_Score__impl_areRows_1.f k l0).bind fun t266 => (some (!t266))) else (some false)) = some r := H
 have A2 := Aside0.mk A20
 clear A20
 by_cases c3 : t265 = true
 ·subst c3
  have H1 : ((slices_ContainsFunc_impl_Score__impl_areRows_1.f k l0).bind fun t266 => (some (!t266))) = some r := by rw [if_pos rfl] at H; exact H
  clear H
  have H := H1
  clear H1
  replace H := Option.bind_eq_some_iff.mp H
  obtain ⟨t266, A40, H⟩ := H
  replace H : (some (!t266)) = some r := H
  have A4 := Aside0.mk A40
  clear A40
  obtain rfl := Option.some.inj H
  go_enter Try.func57, Try.ntmps57
  go_wp2_with (first | ((with_reducible refine gate_callee (f := 58) rfl ?_); refine goesL_ (some 5) rfl rfl Try.func58 (by kernel_rfl) rfl #[.int .i64 (l0.length : Int), .int .i64 1, .int .i64 4] rfl (by (try simp only [List.map_toArray, List.map_cons, List.map_nil]); first | done | rfl | (simp only [List.length_drop, List.length_take]; rfl)) ?_; (with_reducible refine (impl_within.calls (l0.length : Int) 1 4 true _ A2.out).mono ?_); rintro e w' ⟨rfl, ⟨nd, rfl⟩⟩; refine ⟨_, rfl, ?_⟩) | (go_at_call 105; (with_reducible refine (slices_ContainsFunc_impl_Score__impl_areRows_1.calls k _ _ l0  t266 _ ?side1 ?side2 A4.out).mono ?_); (case side1 => repeat (first | exact HR0.out | (with_reducible refine Kd.C_alloc ?_ _) | (with_reducible refine Kd.C_drewN ?_ _) | (with_reducible refine Kd.C_drew ?_))); (case side2 => exact HC0.out); rintro e w5 ⟨rfl, hb⟩; have n0_ := Aside0.mk (below_step sq_b hb); clear HB; have HB := n0_; clear n0_; (try clear hb); (try clear hb2); (try clear hk); (try clear hi)))
  go_ret
  exact ⟨sq_w, sq_b⟩
 ·replace c3 := Bool.eq_false_iff.mpr c3
  subst c3
  have H1 : (some false) = some r := by rw [if_neg (show ¬ (false = true) by decide)] at H; exact H
  clear H
  have H := H1
  clear H1
  obtain rfl := Option.some.inj H
  go_enter Try.func57, Try.ntmps57
  go_wp2_with (first | ((with_reducible refine gate_callee (f := 58) rfl ?_); refine goesL_ (some 5) rfl rfl Try.func58 (by kernel_rfl) rfl #[.int .i64 (l0.length : Int), .int .i64 1, .int .i64 4] rfl (by (try simp only [List.map_toArray, List.map_cons, List.map_nil]); first | done | rfl | (simp only [List.length_drop, List.length_take]; rfl)) ?_; (with_reducible refine (impl_within.calls (l0.length : Int) 1 4 false _ A2.out).mono ?_); rintro e w' ⟨rfl, ⟨nd, rfl⟩⟩; refine ⟨_, rfl, ?_⟩))
  go_ret
  exact ⟨sq_w, sq_b⟩

/-! ### impl_bound: function 59 -/
def impl_bound.l0 : Nat → Int → Int → List (List (S33)) → Int → Int → Option (Int)
 | 0, _, _, _, _, _ => none
 | k + 1, x1, x5, x8, x9, x10 => if x10 < x9 then (if 0 ≤ x10 then (if x10 < (x8.length : Int) then (if x1 < ((rd_L3 x8 x10).length : Int) then (if 0 ≤ x1 then (impl_bound.l0 k x1 (wrap64 (x5 + ((rd_T33 (rd_L3 x8 x10) x1).f1))) x8 x9 (wrap64 (x10 + 1))) else (none)) else (impl_bound.l0 k x1 x5 x8 x9 (wrap64 (x10 + 1)))) else (none)) else (none)) else (some x5)
def impl_bound.f (k : Nat) (l0 : List (List (S33))) (a1 : Int) : Option (Int) := impl_bound.l0 k a1 0 l0 (l0.length : Int) 0
theorem impl_bound.mono_l : ∀ k, (∀ y0 y1 y2 y3 y4, LeO (impl_bound.l0 k y0 y1 y2 y3 y4) (impl_bound.l0 (k + 1) y0 y1 y2 y3 y4))
 | 0 => fun _ _ _ _ _ r h => by simp [impl_bound.l0] at h
 | k + 1 => by
  have ih0 := impl_bound.mono_l k
  ·intro y0 y1 y2 y3 y4
   unfold impl_bound.l0
   repeat' first
   | (with_reducible exact ih0 _ _ _ _ _)
   | (with_reducible exact LeO.refl _)
   | (with_reducible exact LeO.none _)
   | (with_reducible refine LeO.ite ?_ ?_)
   | (with_reducible refine LeO.bind ?_ (fun _ => ?_))
   | exact ih0 _ _ _ _ _
   | exact LeO.none _
   | refine LeO.ite ?_ ?_
   | refine LeO.bind ?_ (fun _ => ?_)
theorem impl_bound.mono : ∀ a0 a1 k, LeO (impl_bound.f k a0 a1) (impl_bound.f (k + 1) a0 a1) := by
 intro a0 a1 k
 have ih0 := impl_bound.mono_l k
 unfold impl_bound.f
 repeat' first
   | (with_reducible exact ih0 _ _ _ _ _)
   | (with_reducible exact LeO.refl _)
   | (with_reducible exact LeO.none _)
   | (with_reducible refine LeO.ite ?_ ?_)
   | (with_reducible refine LeO.bind ?_ (fun _ => ?_))
   | exact ih0 _ _ _ _ _
   | exact LeO.none _
   | refine LeO.ite ?_ ?_
   | refine LeO.bind ?_ (fun _ => ?_)
set_option maxHeartbeats 8000000 in
set_option maxRecDepth 100000 in
theorem impl_bound.calls (k : Nat) (A0 : Option Addr) (c0 : Nat) (l0 : List (List (S33))) (a1 : Int) (r : Int) (w : World) (hr0 : Kd.C (Kd.slice 33 k33) w A0 l0.length l0) (hc0 : l0.length ≤ c0) (h : impl_bound.f k l0 a1 = some r) :
  Calls Try.prog 59 #[.slice A0 l0.length c0, .int .i64 a1] w fun e w' => e = .returned (.int .i64 r) ∧ Drawn0 w w' := by
 have HR0 := Aside0.mk hr0
 have HC0 := Aside0.mk hc0
 clear hr0 hc0
 have H : (impl_bound.l0 k a1 0 l0 (l0.length : Int) 0) = some r := h
 clear h
 have H' := Aside0.mk H
 clear H
 go_enter Try.func59, Try.ntmps59
 go_wp2
 go_loopg [5, 10] k (fun kq v5 v10 w' => ∃ (x5_1 : Int) (x10_1 : Int), v5 = .int .i64 x5_1 ∧ v10 = .int .i64 x10_1 ∧ Aside0 (impl_bound.l0 kq a1 x5_1 l0 (l0.length : Int) x10_1 = some r) ∧ Aside0 (kq ≤ k) ∧ Drawn0 w w')
 case atStart => exact ⟨(0), (0), sq_e, sq_e, H', ⟨Nat.le_refl _⟩, by repeat (first | exact Drawn0.refl _ | apply Drawn0.step)⟩
 case round =>
  clear H'
  try clear p2
  obtain ⟨x5_1, x10_1, rfl, rfl, HA, HK1, ⟨m1, rfl⟩⟩ := hrel
  cases gk with
  | zero => exact absurd HA.out (by simp [impl_bound.l0])
  | succ k1 =>
   have H := HA.out
   clear HA
   simp only [impl_bound.l0] at H
   by_cases c3 : x10_1 < (l0.length : Int)
   ·rw [if_pos c3] at H
    have c3b0 : decide (x10_1 < (l0.length : Int)) = true := decide_eq_true c3
    clear c3
    by_cases c4 : 0 ≤ x10_1
    rotate_left
    ·rw [if_neg c4] at H
     exact absurd H (by simp)
    rw [if_pos c4] at H
    have c4b0 : decide (0 ≤ x10_1) = true := decide_eq_true c4
    clear c4
    by_cases c5 : x10_1 < (l0.length : Int)
    rotate_left
    ·rw [if_neg c5] at H
     exact absurd H (by simp)
    rw [if_pos c5] at H
    have c5b0 : decide (x10_1 < (l0.length : Int)) = true := decide_eq_true c5
    clear c5
    by_cases c6 : a1 < ((rd_L3 l0 x10_1).length : Int)
    ·rw [if_pos c6] at H
     have c6b0 : decide (a1 < ((rd_L3 l0 x10_1).length : Int)) = true := decide_eq_true c6
     clear c6
     by_cases c7 : 0 ≤ a1
     rotate_left
     ·rw [if_neg c7] at H
      exact absurd H (by simp)
     rw [if_pos c7] at H
     have c7b0 : decide (0 ≤ a1) = true := decide_eq_true c7
     clear c7
     have H' := Aside0.mk H
     clear H
     have p267 : 0 ≤ (x10_1 : Int) := sq_d
     have q267 : x10_1 < (l0.length : Int) := sq_d
     obtain ⟨ad267, A267_0, c267_0, e267, hx267_0, hl267_0, hi267_0⟩ := at_L3 HR0.out x10_1 p267 q267
     cases e267
     have HR267_0 := Aside0.mk hi267_0
     have HC267_0 := Aside0.mk hl267_0
     clear hi267_0 hl267_0
     replace p267 := eq_true p267
     replace q267 := eq_true q267
     have p268 : 0 ≤ (a1 : Int) := sq_d
     have q268 : a1 < ((rd_L3 l0 x10_1).length : Int) := sq_d
     obtain ⟨ad268, e268, hx268_0, hx268_1⟩ := at_T33 HR267_0.out a1 p268 q268
     cases e268
     replace p268 := eq_true p268
     replace q268 := eq_true q268
     go_wp2
     go_roundg k1
     case measure => have := HK1.out; omega
     case rel => exact ⟨(wrap64 (x5_1 + ((rd_T33 (rd_L3 l0 x10_1) a1).f1))), (wrap64 (x10_1 + 1)), sq_e, sq_e, H', ⟨by have := HK1.out; omega⟩, by repeat (first | exact Drawn0.refl _ | apply Drawn0.step)⟩
    ·rw [if_neg c6] at H
     have c6b0 : decide (a1 < ((rd_L3 l0 x10_1).length : Int)) = false := decide_eq_false c6
     clear c6
     have H' := Aside0.mk H
     clear H
     have p267 : 0 ≤ (x10_1 : Int) := sq_d
     have q267 : x10_1 < (l0.length : Int) := sq_d
     obtain ⟨ad267, A267_0, c267_0, e267, hx267_0, hl267_0, hi267_0⟩ := at_L3 HR0.out x10_1 p267 q267
     cases e267
     have HR267_0 := Aside0.mk hi267_0
     have HC267_0 := Aside0.mk hl267_0
     clear hi267_0 hl267_0
     replace p267 := eq_true p267
     replace q267 := eq_true q267
     go_wp2
     go_roundg k1
     case measure => have := HK1.out; omega
     case rel => exact ⟨(x5_1), (wrap64 (x10_1 + 1)), sq_e, sq_e, H', ⟨by have := HK1.out; omega⟩, by repeat (first | exact Drawn0.refl _ | apply Drawn0.step)⟩
   ·rw [if_neg c3] at H
    have c3b0 : decide (x10_1 < (l0.length : Int)) = false := decide_eq_false c3
    clear c3
    obtain rfl := Option.some.inj H
    go_wp2
    go_ret
    exact ⟨by first | rfl | (simp; done) | (simp [ext_bne_nil, ext_beq_nil]; done) | (simp [*]; done), by repeat (first | exact Drawn0.refl _ | apply Drawn0.step)⟩

/-! ### slices_Clone_impl_Score: function 107 -/
def slices_Clone_impl_Score.f (l0 : List (S33)) : Option ((List (S33))) := (some (([] : List (S33)) : List (S33))).bind fun y269 => (if y269.length + l0.length < 8796093022208 then (some (y269 ++ l0)) else (none))
set_option maxHeartbeats 8000000 in
set_option maxRecDepth 100000 in
theorem slices_Clone_impl_Score.calls_some (ad0_ : Addr) (c0 : Nat) (l0 : List (S33)) (r : List (S33)) (w : World) (hr0 : Kd.C k33 w (some ad0_) l0.length l0) (hc0 : l0.length ≤ c0) (h : slices_Clone_impl_Score.f l0 = some r) :
  Calls Try.prog 107 #[.slice (some ad0_) l0.length c0] w fun e w' => ∃ v0_ : Value, e = .returned (v0_) ∧ Kd.R k33 33 w' w.heap.size (fun _ => True) v0_ r ∧ Below w.heap.size w w' := by
 have hnil : ∀ W, (binOp .eql 26 (.slice (some ad0_) l0.length c0) (.slice none 0 0)).run Try.prog W = .ok (.bool false) W := fun _ => rfl
 have HR0 := Aside0.mk hr0
 have HC0 := Aside0.mk hc0
 clear hr0 hc0
 have HB := Aside0.mk (Below.refl w.heap.size w)
 have H : ((some (([] : List (S33)) : List (S33))).bind fun y269 => (if y269.length + l0.length < 8796093022208 then (some (y269 ++ l0)) else (none))) = some r := h
 clear h
 obtain ⟨y269, hy269⟩ : ∃ y_ : List (S33), y_ = (([] : List (S33))) := ⟨_, rfl⟩
 replace H : (if y269.length + l0.length < 8796093022208 then (some (y269 ++ l0)) else (none)) = some r := by first | (rw [hy269]; with_reducible exact H) | (have H2_ := (Option.bind_some _ _).symm.trans H; rw [hy269]; with_reducible exact H2_) | (have H2_ := (Option.bind_some _ _).symm.trans H; with_reducible exact H2_) | with_reducible exact H | (rw [hy269]; exact H) | exact H
 have Ny269 := Aside0.mk hy269
 clear hy269
 by_cases c2 : y269.length + l0.length < 8796093022208
 rotate_left
 ·rw [if_neg c2] at H
  exact absurd H (by simp)
 rw [if_pos c2] at H
 have LMc2 := Aside0.mk c2
 clear c2
 obtain ⟨y272, hy272⟩ : ∃ y_ : List (S33), y_ = (y269 ++ l0) := ⟨_, rfl⟩
 replace H : (some y272) = some r := by first | (rw [hy272]; with_reducible exact H) | (have H2_ := (Option.bind_some _ _).symm.trans H; rw [hy272]; with_reducible exact H2_) | (have H2_ := (Option.bind_some _ _).symm.trans H; with_reducible exact H2_) | with_reducible exact H | (rw [hy272]; exact H) | exact H
 have Ny272 := Aside0.mk hy272
 clear hy272
 obtain rfl := Option.some.inj H
 go_enter Try.func107, Try.ntmps107
 go_wp2_with (first | ((with_reducible refine gate_dst (N := 5) rfl ?_); refine Kd.R_lit k33 _ 33 ?hg (N := 5) ?hd (xs := ([] : List (S33))) (inner := []) (ok := fun _ => True) (okp := fun _ => True) ?hr ?hp (fun _ hk => hk) trivial (Below.refl _ _) (Nat.le_refl _) (by simp) ?_; (case hd => rfl); (case hg => rfl); (case hr => first | (go_simp; done) | (go_simp; rfl)); (case hp => exact (Reps.none _ _)); intro v270 w3 ho4 hb hg_ hnew_; clear hg_ hnew_; (first | rw [← Ny269.out] at ho4 | (simp only [Int.reduceToNat] at ho4; rw [← Ny269.out] at ho4)); have n0_ := Aside0.mk (Kd.R_lower ho4 (below_size sq_b)); have n1_ := Aside0.mk (below_step sq_b hb); clear HB; have HO271 := n0_; have HB := n1_; clear n0_ n1_; clear hb ho4) | ((with_reducible refine gate_builtin (b := .append) (xs := #[.tmp 5, .tmp 6]) rfl ?_); at_builtin; refine Kd.R_append_rows k33 (w0 := w) w.heap.size rfl (.tmp 5) (.tmp 6) 26 33 (.agg #[(.int .i64 0), (.int .i64 0)]) 16 rfl Try.underlying26 info33 rfl (by decide) (by omega) v270 y269 l0 _ _ _ (fun _ => True) (fun _ => False) rfl rfl ?aO ?aR (fun _ _ h => h) (fun _ h => h.elim) ?aF ?aB ?aS ?aL ?_; (case aR => repeat (first | exact (Kd.C_below HR0.out HB.out) | (with_reducible refine Kd.C_alloc ?_ _) | (with_reducible refine Kd.C_drewN ?_ _) | (with_reducible refine Kd.C_drew ?_))); (case aB => exact sq_b); (case aF => exact (fun _ _ => trivial)); (case aO => exact (sq_r HO271)); (case aS => exact (below_size sq_b)); (case aL => have := LMc2.out; omega); intro v273 w5 ho hb hg hat; rw [← Ny272.out] at ho; have n0_ := Aside0.mk (hb); have n1_ := Aside0.mk (ho); clear HB; clear HO271; have HB := n0_; have HO274 := n1_; clear n0_ n1_; clear ho hb hg hat))
 go_ret
 exact ⟨_, sq_w, sq_r HO274, sq_b⟩
set_option maxHeartbeats 8000000 in
set_option maxRecDepth 100000 in
theorem slices_Clone_impl_Score.calls_none (c0 : Nat) (l0 : List (S33)) (r : List (S33)) (w : World) (hr0 : Kd.C k33 w none l0.length l0) (hc0 : l0.length ≤ c0) (h : slices_Clone_impl_Score.f l0 = some r) :
  Calls Try.prog 107 #[.slice none l0.length c0] w fun e w' => ∃ v0_ : Value, e = .returned (v0_) ∧ Kd.R k33 33 w' w.heap.size (fun _ => True) v0_ r ∧ Below w.heap.size w w' := by
 have hl : l0 = [] := by
  have h1 := hr0.2.2
  cases l0 with
  | nil => rfl
  | cons x l => obtain ⟨ad, e, _⟩ := h1 (by simp); cases e
 subst hl
 have hr : r = [] := by
  simp [slices_Clone_impl_Score.f] at h
  first | exact h.symm | exact h | simp_all
 subst hr
 have hnil : ∀ W, (binOp .eql 26 (.slice none 0 c0) (.slice none 0 0)).run Try.prog W = .ok (.bool true) W := fun _ => rfl
 go_enter Try.func107, Try.ntmps107
 go_wp2
 go_ret
 exact ⟨_, rfl, Kd.R_nil _ _ _ _ _, Below.refl _ _⟩
theorem slices_Clone_impl_Score.calls (A0 : Option Addr) (c0 : Nat) (l0 : List (S33)) (r : List (S33)) (w : World) (hr0 : Kd.C k33 w A0 l0.length l0) (hc0 : l0.length ≤ c0) (h : slices_Clone_impl_Score.f l0 = some r) :
  Calls Try.prog 107 #[.slice A0 l0.length c0] w fun e w' => ∃ v0_ : Value, e = .returned (v0_) ∧ Kd.R k33 33 w' w.heap.size (fun _ => True) v0_ r ∧ Below w.heap.size w w' := by
 cases A0 with
 | none => exact slices_Clone_impl_Score.calls_none c0 l0 r w hr0 hc0 h
 | some ad => exact slices_Clone_impl_Score.calls_some ad c0 l0 r w hr0 hc0 h

/-! ### impl_Score_compare: function 109 -/
def impl_Score_compare.f (a0_0 : Int) (a0_1 : Int) (a1_0 : Int) (a1_1 : Int) : Option (Int) := (impl_Score_isBetter.f a0_0 a0_1 a1_0 a1_1).bind fun t277 => (if t277 = true then (some (-1)) else ((impl_Score_isBetter.f a1_0 a1_1 a0_0 a0_1).bind fun t278 => (if t278 = true then (some 1) else (some 0))))
/-! ### slices_SortFunc_impl_Score__impl_Score_compare: function 108 -/
def slices_SortFunc_impl_Score__impl_Score_compare.bet (x0 x1 y0 y1 : Int) : Bool := decide (y1 < x1) || ((x1 == y1) && decide (x0 < y0))
set_option maxHeartbeats 8000000 in
theorem slices_SortFunc_impl_Score__impl_Score_compare.isBetter_x (x0 x1 y0 y1 : Int) (w : World) : Calls Try.prog 73 #[.agg #[.int .i64 x0, .int .i64 x1], .agg #[.int .i64 y0, .int .i64 y1]] w fun e w' => e = .returned (.bool (slices_SortFunc_impl_Score__impl_Score_compare.bet x0 x1 y0 y1)) ∧ w' = (w.alloc (.cells #[.int .i64 x0, .int .i64 x1] 33)).alloc (.cells #[.int .i64 y0, .int .i64 y1] 33) := by
 by_cases h1 : y1 < x1
 ·have e : slices_SortFunc_impl_Score__impl_Score_compare.bet x0 x1 y0 y1 = true := by simp [slices_SortFunc_impl_Score__impl_Score_compare.bet, h1]
  rw [e]
  have h1b : decide (y1 < x1) = true := decide_eq_true h1
  go_enter Try.func73, Try.ntmps73
  go_wp2
  go_ret
  exact ⟨rfl, rfl⟩
 ·have h1b : decide (y1 < x1) = false := decide_eq_false h1
  by_cases h2 : x1 = y1
  ·subst h2
   have e : slices_SortFunc_impl_Score__impl_Score_compare.bet x0 x1 y0 x1 = decide (x0 < y0) := by simp [slices_SortFunc_impl_Score__impl_Score_compare.bet]
   rw [e]
   have e2 : ((x1 == x1) : Bool) = true := by simp
   go_enter Try.func73, Try.ntmps73
   go_wp2
   go_ret
   exact ⟨rfl, rfl⟩
  ·have e : slices_SortFunc_impl_Score__impl_Score_compare.bet x0 x1 y0 y1 = false := by simp [slices_SortFunc_impl_Score__impl_Score_compare.bet, h1, h2]
   rw [e]
   have h2b : ((x1 == y1) : Bool) = false := by simpa using h2
   go_enter Try.func73, Try.ntmps73
   go_wp2
   go_ret
   exact ⟨rfl, rfl⟩
def slices_SortFunc_impl_Score__impl_Score_compare.cmpS (x0 x1 y0 y1 : Int) : Int := if slices_SortFunc_impl_Score__impl_Score_compare.bet x0 x1 y0 y1 = true then -1 else if slices_SortFunc_impl_Score__impl_Score_compare.bet y0 y1 x0 x1 = true then 1 else 0
def slices_SortFunc_impl_Score__impl_Score_compare.cf (x y : S33) : Int := slices_SortFunc_impl_Score__impl_Score_compare.cmpS x.f0 x.f1 y.f0 y.f1
set_option maxHeartbeats 8000000 in
theorem slices_SortFunc_impl_Score__impl_Score_compare.compare_x (w : World) (x y : S33) : Calls Try.prog 109 (#[.agg #[.int .i64 x.f0, .int .i64 x.f1], .agg #[.int .i64 y.f0, .int .i64 y.f1]] ++ #[]) w fun e w' => e = .returned (.int .i64 (slices_SortFunc_impl_Score__impl_Score_compare.cf x y)) ∧ ∃ q os', w' = Go.Sort.grow (w.drewN q) os' := by
 obtain ⟨x0, x1⟩ := x
 obtain ⟨y0, y1⟩ := y
 unfold slices_SortFunc_impl_Score__impl_Score_compare.cf slices_SortFunc_impl_Score__impl_Score_compare.cmpS
 simp only
 show Calls Try.prog 109 #[.agg #[.int .i64 x0, .int .i64 x1], .agg #[.int .i64 y0, .int .i64 y1]] w _
 by_cases h1 : slices_SortFunc_impl_Score__impl_Score_compare.bet x0 x1 y0 y1 = true
 ·rw [if_pos h1]
  have c := slices_SortFunc_impl_Score__impl_Score_compare.isBetter_x x0 x1 y0 y1
  rw [h1] at c
  go_enter Try.func109, Try.ntmps109
  go_wp2_with (go_at_call 73; (with_reducible refine (c _).mono ?_); rintro e w' ⟨rfl, rfl⟩)
  go_ret
  exact ⟨rfl, 0, #[_, _, _, _], by simp only [Go.Sort.alloc_eq_grow, Go.Sort.grow_grow]; rfl⟩
 ·rw [if_neg h1]
  have h1 : slices_SortFunc_impl_Score__impl_Score_compare.bet x0 x1 y0 y1 = false := by simpa using h1
  have c := slices_SortFunc_impl_Score__impl_Score_compare.isBetter_x x0 x1 y0 y1
  have c2 := slices_SortFunc_impl_Score__impl_Score_compare.isBetter_x y0 y1 x0 x1
  rw [h1] at c
  by_cases h2 : slices_SortFunc_impl_Score__impl_Score_compare.bet y0 y1 x0 x1 = true
  ·rw [if_pos h2]
   rw [h2] at c2
   go_enter Try.func109, Try.ntmps109
   go_wp2_with (first | (go_at_call 73; (with_reducible refine (c _).mono ?_); rintro e w' ⟨rfl, rfl⟩) | (go_at_call 73; (with_reducible refine (c2 _).mono ?_); rintro e w' ⟨rfl, rfl⟩))
   go_ret
   exact ⟨rfl, 0, #[_, _, _, _, _, _], by simp only [Go.Sort.alloc_eq_grow, Go.Sort.grow_grow]; rfl⟩
  ·rw [if_neg h2]
   have h2 : slices_SortFunc_impl_Score__impl_Score_compare.bet y0 y1 x0 x1 = false := by simpa using h2
   rw [h2] at c2
   go_enter Try.func109, Try.ntmps109
   go_wp2_with (first | (go_at_call 73; (with_reducible refine (c _).mono ?_); rintro e w' ⟨rfl, rfl⟩) | (go_at_call 73; (with_reducible refine (c2 _).mono ?_); rintro e w' ⟨rfl, rfl⟩))
   go_ret
   exact ⟨rfl, 0, #[_, _, _, _, _, _], by simp only [Go.Sort.alloc_eq_grow, Go.Sort.grow_grow]; rfl⟩
def slices_SortFunc_impl_Score__impl_Score_compare.lt (x y : S33) : Bool := decide (y.f1 < x.f1) || ((x.f1 == y.f1) && decide (x.f0 < y.f0))
theorem slices_SortFunc_impl_Score__impl_Score_compare.lt_cf (x y : S33) : Go.Proofs.ltOf slices_SortFunc_impl_Score__impl_Score_compare.cf x y = slices_SortFunc_impl_Score__impl_Score_compare.lt x y := by
 show decide (slices_SortFunc_impl_Score__impl_Score_compare.cf x y < 0) = slices_SortFunc_impl_Score__impl_Score_compare.bet x.f0 x.f1 y.f0 y.f1
 unfold slices_SortFunc_impl_Score__impl_Score_compare.cf slices_SortFunc_impl_Score__impl_Score_compare.cmpS
 cases h : slices_SortFunc_impl_Score__impl_Score_compare.bet x.f0 x.f1 y.f0 y.f1 with
 | true => simp
 | false =>
  rw [if_neg (by simp)]
  split <;> simp
theorem slices_SortFunc_impl_Score__impl_Score_compare.swo : Go.Sort.SWO (Go.Proofs.ltOf slices_SortFunc_impl_Score__impl_Score_compare.cf) := by
 have e : Go.Proofs.ltOf slices_SortFunc_impl_Score__impl_Score_compare.cf = slices_SortFunc_impl_Score__impl_Score_compare.lt := funext fun x => funext fun y => slices_SortFunc_impl_Score__impl_Score_compare.lt_cf x y
 rw [e]
 unfold slices_SortFunc_impl_Score__impl_Score_compare.lt
 exact ⟨fun x => by simp, fun x y z h1 h2 => by simp at h1 h2 ⊢; omega, fun x y z h1 h2 => by simp at h1 h2 ⊢; omega⟩
theorem slices_SortFunc_impl_Score__impl_Score_compare.tot (x y : S33) (h1 : Go.Proofs.ltOf slices_SortFunc_impl_Score__impl_Score_compare.cf x y = false) (h2 : Go.Proofs.ltOf slices_SortFunc_impl_Score__impl_Score_compare.cf y x = false) : x = y := by
 rw [slices_SortFunc_impl_Score__impl_Score_compare.lt_cf] at h1 h2
 unfold slices_SortFunc_impl_Score__impl_Score_compare.lt at h1 h2
 simp at h1 h2
 cases x
 cases y
 simp only [S33.mk.injEq] at h1 h2 ⊢
 omega
def slices_SortFunc_impl_Score__impl_Score_compare.f (l0 : List S33) : Option (List S33) := if l0.length < 4611686018427387904 then some (l0.mergeSort fun x y => !(slices_SortFunc_impl_Score__impl_Score_compare.lt y x)) else none
theorem slices_SortFunc_impl_Score__impl_Score_compare.calls (P0_ : Nat → Prop) (u9000_ : Value) (l0 : List S33) (r : List S33) (w0 w : World) (hB : Below w0.heap.size w0 w) (ho0 : Kd.R k33 33 w w0.heap.size P0_ u9000_ l0) (h : slices_SortFunc_impl_Score__impl_Score_compare.f l0 = some r) :
  Calls Try.prog 108 #[u9000_, .func (.func 109) #[] #[]] w fun e w' => e = .returned (.tuple #[]) ∧ Kd.R k33 33 w' w0.heap.size (fun k_ => (P0_ k_ ∨ w.heap.size ≤ k_)) u9000_ r ∧ Below w0.heap.size w0 w' ∧ Kept w w' (fun k_ => P0_ k_) := by
 unfold slices_SortFunc_impl_Score__impl_Score_compare.f at h
 by_cases hl : l0.length < 4611686018427387904
 ·rw [if_pos hl] at h
  obtain rfl := Option.some.inj h
  haveI : Inhabited S33 := ⟨z33⟩
  have e_ : (fun x y : S33 => !(slices_SortFunc_impl_Score__impl_Score_compare.lt y x)) = fun x y => !(Go.Proofs.ltOf slices_SortFunc_impl_Score__impl_Score_compare.cf) y x := funext fun x => funext fun y => by rw [slices_SortFunc_impl_Score__impl_Score_compare.lt_cf]
  rw [e_]
  exact Go.Proofs.Ytabfkalcjfjkiaa.Ext.sortf_calls Go.Proofs.Ytabfkalcjfjkiaa.Ext.laysSortF108 k33 (fun x => [.int .i64 x.f0, .int .i64 x.f1]) (fun w base ok x cs => ⟨fun h => k33_openM h, fun h => by rw [h]; exact k33_mkM w base ok x⟩) Try.isAgg33 Try.sizeOf33 slices_SortFunc_impl_Score__impl_Score_compare.cf slices_SortFunc_impl_Score__impl_Score_compare.swo slices_SortFunc_impl_Score__impl_Score_compare.tot P0_ u9000_ l0 w0 w hB ho0 hl 109 #[] (fun args w => enters_ Try.func109 (by kernel_rfl) rfl args w) (fun W x y => slices_SortFunc_impl_Score__impl_Score_compare.compare_x W x y)
 ·rw [if_neg hl] at h
  exact absurd h (by simp)

/-! ### impl_best: function 60 -/
def impl_best.f (l0 : List (S33)) (a1 : Int) : Option ((List (S33))) := (slices_Clone_impl_Score.f l0).bind fun t279 => ((slices_SortFunc_impl_Score__impl_Score_compare.f t279).bind fun t282 => (if 0 ≤ (mn a1 (t279.length : Int)) then (if (mn a1 (t279.length : Int)) ≤ (t279.length : Int) then (some (t282.take ((mn a1 (t279.length : Int)) : Int).toNat)) else (none)) else (none)))
set_option maxHeartbeats 8000000 in
set_option maxRecDepth 100000 in
theorem impl_best.calls (A0 : Option Addr) (c0 : Nat) (l0 : List (S33)) (a1 : Int) (r : List (S33)) (w : World) (hr0 : Kd.C k33 w A0 l0.length l0) (hc0 : l0.length ≤ c0) (h : impl_best.f l0 a1 = some r) :
  Calls Try.prog 60 #[.slice A0 l0.length c0, .int .i64 a1] w fun e w' => ∃ v0_ : Value, e = .returned (v0_) ∧ Kd.R k33 33 w' w.heap.size (fun _ => True) v0_ r ∧ Below w.heap.size w w' := by
 have HR0 := Aside0.mk hr0
 have HC0 := Aside0.mk hc0
 clear hr0 hc0
 have HB := Aside0.mk (Below.refl w.heap.size w)
 have H : ((slices_Clone_impl_Score.f l0).bind fun t279 => ((slices_SortFunc_impl_Score__impl_Score_compare.f t279).bind fun t282 => (if 0 ≤ (mn a1 (t279.length : Int)) then (if (mn a1 (t279.length : Int)) ≤ (t279.length : Int) then (some (t282.take ((mn a1 (t279.length : Int)) : Int).toNat)) else (none)) else (none)))) = some r := h
 clear h
 replace H := Option.bind_eq_some_iff.mp H
 obtain ⟨t279, A30, H⟩ := H
 replace H : ((slices_SortFunc_impl_Score__impl_Score_compare.f t279).bind fun t282 => (if 0 ≤ (mn a1 (t279.length : Int)) then (if (mn a1 (t279.length : Int)) ≤ (t279.length : Int) then (some (t282.take ((mn a1 (t279.length : Int)) : Int).toNat)) else (none)) else (none))) = some r := H
 have A3 := Aside0.mk A30
 clear A30
 replace H := Option.bind_eq_some_iff.mp H
 obtain ⟨t282, A40, H⟩ := H
 replace H : (if 0 ≤ (mn a1 (t279.length : Int)) then (if (mn a1 (t279.length : Int)) ≤ (t279.length : Int) then (some (t282.take ((mn a1 (t279.length : Int)) : Int).toNat)) else (none)) else (none)) = some r := H
 have A4 := Aside0.mk A40
 clear A40
 obtain ⟨ji5, hji5⟩ : ∃ j_ : Int, (mn a1 (t279.length : Int)) = j_ := ⟨_, rfl⟩
 replace H : (if 0 ≤ (ji5) then (if (ji5) ≤ (t279.length : Int) then (some (t282.take ((ji5) : Int).toNat)) else (none)) else (none)) = some r := by first | (rw [hji5] at H; exact H) | (simp only [hji5] at H ⊢; exact H)
 (try rw [hji5] at A3)
 (try rw [hji5] at A4)
 have hji5_ : (if (t279.length : Int) < a1 then (t279.length : Int) else a1) = ji5 := hji5
 by_cases c6 : 0 ≤ (ji5)
 ·rw [if_pos c6] at H
  have c6b0 := eq_true c6
  have c6b1 : decide (0 ≤ (ji5)) = true := decide_eq_true c6
  clear c6
  by_cases c7 : (ji5) ≤ (t279.length : Int)
  rotate_left
  ·rw [if_neg c7] at H
   exact absurd H (by simp)
  rw [if_pos c7] at H
  have c7b0 := eq_true c7
  have c7b1 : decide ((ji5) ≤ (t279.length : Int)) = true := decide_eq_true c7
  clear c7
  obtain ⟨y283, hy283⟩ : ∃ y_ : List (S33), y_ = (t282.take ((ji5) : Int).toNat) := ⟨_, rfl⟩
  replace H : (some y283) = some r := by first | (rw [hy283]; with_reducible exact H) | (have H2_ := (Option.bind_some _ _).symm.trans H; rw [hy283]; with_reducible exact H2_) | (have H2_ := (Option.bind_some _ _).symm.trans H; with_reducible exact H2_) | with_reducible exact H | (rw [hy283]; exact H) | exact H
  have Ny283 := Aside0.mk hy283
  clear hy283
  obtain rfl := Option.some.inj H
  go_enter Try.func60, Try.ntmps60
  go_wp2_with (first | ((with_reducible refine gate_callee (f := 107) rfl ?_); refine goesL_ (some 7) rfl rfl Try.func107 (by kernel_rfl) rfl #[.slice A0 l0.length c0] rfl (by (try simp only [List.map_toArray, List.map_cons, List.map_nil]); first | done | rfl | (simp only [List.length_drop, List.length_take]; rfl)) ?_; (with_reducible refine (slices_Clone_impl_Score.calls _ _ l0 t279 _ ?side1 ?side2 A3.out).mono ?_); (case side1 => repeat (first | exact HR0.out | (with_reducible refine Kd.C_alloc ?_ _) | (with_reducible refine Kd.C_drewN ?_ _) | (with_reducible refine Kd.C_drew ?_))); (case side2 => exact HC0.out); rintro e w8 ⟨v280, rfl, ho0, hb⟩; refine ⟨_, rfl, ?_⟩; have n0_ := Aside0.mk (Kd.R_lower ho0 (below_size sq_b)); have n1_ := Aside0.mk (below_step sq_b hb); clear HB; have HO281 := n0_; have HB := n1_; clear n0_ n1_; (try clear hb); (try clear hb2); (try clear hk); (try clear hi); (try clear ho0); obtain ⟨Ao9, co9, eo9⟩ := Kd.R_slice HO281.out; subst eo9) | ((with_reducible refine gate_callee (f := 108) rfl ?_); refine goesL_ (some 9) rfl rfl Try.func108 (by kernel_rfl) rfl #[.slice Ao9 t279.length co9, .func (.func 109) #[] #[]] rfl (by (try simp only [List.map_toArray, List.map_cons, List.map_nil]); first | done | rfl | (simp only [List.length_drop, List.length_take]; rfl)) ?_; (with_reducible refine (slices_SortFunc_impl_Score__impl_Score_compare.calls (fun k_ => some k_ = (.slice Ao9 t279.length co9 : Value).ownBlock) (.slice Ao9 t279.length co9) t279  t282 w _ ?side1 ?side2 A4.out).mono ?_); (case side1 => repeat (first | (with_reducible first | exact HB.out | apply below_alloc | apply pw_below_drewN | apply below_drew1) | exact HB.out)); (case side2 => exact Kd.R_tight rfl HO281.out); rintro e w10 ⟨rfl, hy0, hb, hkp⟩; refine ⟨_, rfl, ?_⟩; have n0_ := Aside0.mk (Kd.R_reok rfl hy0 (fun k_ e_ => HO281.out.1 k_ e_)); have n1_ := Aside0.mk (hb); clear HO281; clear HB; have HO281 := n0_; have HB := n1_; clear n0_ n1_; (try clear hb); (try clear hkp); (try clear hy0); have q11 : ((ji5) : Int) ≤ ((t279.length : Int) : Int) := sq_d; obtain ⟨i011, hi011, _, hsz11, _⟩ := info_parts info33; have hcut11 := cut_to (P := Try.prog) 26 33 .i64 Try.underlying26 hi011 Ao9 t279.length co9 (ji5) (sq_d) q11 (Kd.R_reads' HO281.out).2.1; have hr11 := Kd.R_take (m := ((ji5) : Int).toNat) HO281.out (by first | omega | (have e_ := (Kd.R_reads' HO281.out).1; omega)); have hy11 : y283.length = ((ji5) : Int).toNat := (by rw [Ny283.out, List.length_take]; first | omega | (have e_ := (Kd.R_reads' HO281.out).1; omega)); rw [← Ny283.out] at hr11; rw [← hy11] at hr11 hcut11; clear hy11 hi011 hsz11 HO281; have HO285 := Aside0.mk hr11; clear hr11; replace q11 := eq_true q11))
  go_ret
  exact ⟨_, by first | rfl | (simp [errW_none, errW_some] <;> rfl) | (simp only [← hji5]; first | rfl | (simp [errW_none, errW_some] <;> rfl)) | (simp [errW_none, errW_some, ext_bne_nil, ext_beq_nil]; done) | (simp [*, errW_none, errW_some] <;> rfl), sq_r HO285, sq_b⟩
 ·rw [if_neg c6] at H
  exact absurd H (by simp)

/-! ### impl_total: function 62 -/
def impl_total.l0 : Nat → Int → Int → List (List (S33)) → Int → Int → Option (Int)
 | 0, _, _, _, _, _ => none
 | k + 1, x1, x5, x8, x9, x10 => if x10 < x9 then (if 0 ≤ x10 then (if x10 < (x8.length : Int) then ((impl_scoreIn.f k (rd_L3 x8 x10) x1).bind fun t287 => (impl_total.l0 k x1 (wrap64 (x5 + t287)) x8 x9 (wrap64 (x10 + 1)))) else (none)) else (none)) else (some x5)
def impl_total.f (k : Nat) (l0 : List (List (S33))) (a1 : Int) : Option (Int) := impl_total.l0 k a1 0 l0 (l0.length : Int) 0
theorem impl_total.mono_l : ∀ k, (∀ y0 y1 y2 y3 y4, LeO (impl_total.l0 k y0 y1 y2 y3 y4) (impl_total.l0 (k + 1) y0 y1 y2 y3 y4))
 | 0 => fun _ _ _ _ _ r h => by simp [impl_total.l0] at h
 | k + 1 => by
  have ih0 := impl_total.mono_l k
  ·intro y0 y1 y2 y3 y4
   unfold impl_total.l0
   repeat' first
   | (with_reducible exact ih0 _ _ _ _ _)
   | (with_reducible exact impl_scoreIn.mono _ _ _)
   | (with_reducible exact LeO.refl _)
   | (with_reducible exact LeO.none _)
   | (with_reducible refine LeO.ite ?_ ?_)
   | (with_reducible refine LeO.bind ?_ (fun _ => ?_))
   | exact ih0 _ _ _ _ _
   | exact impl_scoreIn.mono _ _ _
   | exact LeO.none _
   | refine LeO.ite ?_ ?_
   | refine LeO.bind ?_ (fun _ => ?_)
theorem impl_total.mono : ∀ a0 a1 k, LeO (impl_total.f k a0 a1) (impl_total.f (k + 1) a0 a1) := by
 intro a0 a1 k
 have ih0 := impl_total.mono_l k
 unfold impl_total.f
 repeat' first
   | (with_reducible exact ih0 _ _ _ _ _)
   | (with_reducible exact impl_scoreIn.mono _ _ _)
   | (with_reducible exact LeO.refl _)
   | (with_reducible exact LeO.none _)
   | (with_reducible refine LeO.ite ?_ ?_)
   | (with_reducible refine LeO.bind ?_ (fun _ => ?_))
   | exact ih0 _ _ _ _ _
   | exact impl_scoreIn.mono _ _ _
   | exact LeO.none _
   | refine LeO.ite ?_ ?_
   | refine LeO.bind ?_ (fun _ => ?_)
set_option maxHeartbeats 8000000 in
set_option maxRecDepth 100000 in
theorem impl_total.calls (k : Nat) (A0 : Option Addr) (c0 : Nat) (l0 : List (List (S33))) (a1 : Int) (r : Int) (w : World) (hr0 : Kd.C (Kd.slice 33 k33) w A0 l0.length l0) (hc0 : l0.length ≤ c0) (h : impl_total.f k l0 a1 = some r) :
  Calls Try.prog 62 #[.slice A0 l0.length c0, .int .i64 a1] w fun e w' => e = .returned (.int .i64 r) ∧ Below w.heap.size w w' := by
 have HR0 := Aside0.mk hr0
 have HC0 := Aside0.mk hc0
 clear hr0 hc0
 have HB := Aside0.mk (Below.refl w.heap.size w)
 have H : (impl_total.l0 k a1 0 l0 (l0.length : Int) 0) = some r := h
 clear h
 have H' := Aside0.mk H
 clear H
 go_enter Try.func62, Try.ntmps62
 go_wp2
 go_loopg [5, 10] k (fun kq v5 v10 w' => ∃ (x5_1 : Int) (x10_1 : Int), v5 = .int .i64 x5_1 ∧ v10 = .int .i64 x10_1 ∧ Aside0 (impl_total.l0 kq a1 x5_1 l0 (l0.length : Int) x10_1 = some r) ∧ Aside0 (kq ≤ k) ∧ Aside0 (Below w.heap.size w w'))
 case atStart => exact ⟨(0), (0), sq_e, sq_e, H', ⟨Nat.le_refl _⟩, ⟨sq_b⟩⟩
 case round =>
  clear H'
  try clear p2
  obtain ⟨x5_1, x10_1, rfl, rfl, HA, HK1, HB⟩ := hrel
  cases gk with
  | zero => exact absurd HA.out (by simp [impl_total.l0])
  | succ k1 =>
   have H := HA.out
   clear HA
   simp only [impl_total.l0] at H
   by_cases c3 : x10_1 < (l0.length : Int)
   ·rw [if_pos c3] at H
    have c3b0 : decide (x10_1 < (l0.length : Int)) = true := decide_eq_true c3
    clear c3
    by_cases c4 : 0 ≤ x10_1
    rotate_left
    ·rw [if_neg c4] at H
     exact absurd H (by simp)
    rw [if_pos c4] at H
    have c4b0 : decide (0 ≤ x10_1) = true := decide_eq_true c4
    clear c4
    by_cases c5 : x10_1 < (l0.length : Int)
    rotate_left
    ·rw [if_neg c5] at H
     exact absurd H (by simp)
    rw [if_pos c5] at H
    have c5b0 : decide (x10_1 < (l0.length : Int)) = true := decide_eq_true c5
    clear c5
    replace H := Option.bind_eq_some_iff.mp H
    obtain ⟨t287, A60, H⟩ := H
    replace H : (impl_total.l0 k1 a1 (wrap64 (x5_1 + t287)) l0 (l0.length : Int) (wrap64 (x10_1 + 1))) = some r := H
    have A6 := Aside0.mk A60
    clear A60
    have H' := Aside0.mk H
    clear H
    have p286 : 0 ≤ (x10_1 : Int) := sq_d
    have q286 : x10_1 < (l0.length : Int) := sq_d
    obtain ⟨ad286, A286_0, c286_0, e286, hx286_0, hl286_0, hi286_0⟩ := at_L3 HR0.out x10_1 p286 q286
    cases e286
    replace hx286_0 := (HB.out.cell (World.block_lt_of_cell? w _ hx286_0)).trans hx286_0
    have HR286_0 := Aside0.mk hi286_0
    have HC286_0 := Aside0.mk hl286_0
    clear hi286_0 hl286_0
    replace p286 := eq_true p286
    replace q286 := eq_true q286
    go_wp2_with (first | ((with_reducible refine gate_callee (f := 61) rfl ?_); refine goesL_ (some 17) rfl rfl Try.func61 (by kernel_rfl) rfl #[.slice A286_0 (rd_L3 l0 x10_1).length c286_0, .int .i64 a1] rfl (by (try simp only [List.map_toArray, List.map_cons, List.map_nil]); first | done | rfl | (simp only [List.length_drop, List.length_take]; rfl)) ?_; (with_reducible refine (impl_scoreIn.calls k1 _ _ (rd_L3 l0 x10_1) a1 t287 _ ?side1 ?side2 A6.out).mono ?_); (case side1 => repeat (first | exact (Kd.C_below HR286_0.out HB.out) | (with_reducible refine Kd.C_alloc ?_ _) | (with_reducible refine Kd.C_drewN ?_ _) | (with_reducible refine Kd.C_drew ?_))); (case side2 => exact HC286_0.out); rintro e w7 ⟨rfl, hb⟩; refine ⟨_, rfl, ?_⟩; have n0_ := Aside0.mk (below_step sq_b hb); clear HB; have HB := n0_; clear n0_; (try clear hb); (try clear hb2); (try clear hk); (try clear hi)))
    go_roundg k1
    case measure => have := HK1.out; omega
    case rel => exact ⟨(wrap64 (x5_1 + t287)), (wrap64 (x10_1 + 1)), sq_e, sq_e, H', ⟨by have := HK1.out; omega⟩, ⟨sq_b⟩⟩
   ·rw [if_neg c3] at H
    have c3b0 : decide (x10_1 < (l0.length : Int)) = false := decide_eq_false c3
    clear c3
    obtain rfl := Option.some.inj H
    go_wp2
    go_ret
    exact ⟨sq_w, sq_b⟩

end Go.Proofs.Ytabfkalcjfjkiaa.QFnBest
