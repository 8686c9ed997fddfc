-- Written by this session's own program (wip/pp_patch.py, wip/pp.sh) out of the given translation. Not trusted: Lean checks it.
import Derived.Test.YtlohhmoaomlieaaQFnExactNearestOfx0
import Derived.Test.YtlohhmoaomlieaaQFnExactNearestOfx1
import Derived.Test.YtlohhmoaomlieaaQFnExactNearestOfx2
import Derived.Test.YtlohhmoaomlieaaQFnExactNearestOfx6
import Derived.Test.YtlohhmoaomlieaaQFnExactNearestOfx7
import Derived.Test.YtlohhmoaomlieaaQFnExactNearestOfx9
import Derived.Test.YtlohhmoaomlieaaQFnExactNearestOfx10
namespace Go.Proofs.Ytlohhmoaomlieaa.QFnExactNearestOf
open Go.RowKit Go.Proofs.YtlohhmoaomlieaaW.PrintWords Go.Proofs.YtlohhmoaomlieaaW.PrintLast Go.Proofs.YtlohhmoaomlieaaW.PrintMore
attribute [local go_sem] max2_int min2_int max_two min_two max_three min_three max_four min_four   -- for this text's walks alone
open Go.Proofs.Ytlohhmoaomlieaa.Ext
attribute [local go_sem high] ext_gtr ext_leq
set_option linter.unusedVariables false
set_option linter.unusedSimpArgs false

/-! ### slices_MinFunc_string__impl_NearestOf_1: function 62 -/
def slices_MinFunc_string__impl_NearestOf_1.l0 : Nat → List ByteArray → ByteArray → Int → ByteArray → Option (ByteArray)
 | 0, _, _, _, _ => none
 | k + 1, x0, x5, x6, x500010 => if x6 < (x0.length : Int) then (if 0 ≤ x6 then ((impl_NearestOf_1.f k (rdOf ByteArray.empty x0 x6) x5 x500010).bind fun t277 => (if t277 < 0 then (slices_MinFunc_string__impl_NearestOf_1.l0 k x0 (rdOf ByteArray.empty x0 x6) (wrap64 (x6 + 1)) x500010) else (slices_MinFunc_string__impl_NearestOf_1.l0 k x0 x5 (wrap64 (x6 + 1)) x500010))) else (none)) else (some x5)
def slices_MinFunc_string__impl_NearestOf_1.f (k : Nat) (l0 : List ByteArray) (a1_0 : ByteArray) : Option (ByteArray) := if (l0.length : Int) < 1 then (none) else (if 0 < (l0.length : Int) then (slices_MinFunc_string__impl_NearestOf_1.l0 k l0 (rdOf ByteArray.empty l0 0) 1 a1_0) else (none))
theorem slices_MinFunc_string__impl_NearestOf_1.mono_l : ∀ k, (∀ y0 y1 y2 y3, LeO (slices_MinFunc_string__impl_NearestOf_1.l0 k y0 y1 y2 y3) (slices_MinFunc_string__impl_NearestOf_1.l0 (k + 1) y0 y1 y2 y3))
 | 0 => fun _ _ _ _ r h => by simp [slices_MinFunc_string__impl_NearestOf_1.l0] at h
 | k + 1 => by
  have ih0 := slices_MinFunc_string__impl_NearestOf_1.mono_l k
  ·intro y0 y1 y2 y3
   unfold slices_MinFunc_string__impl_NearestOf_1.l0
   repeat' first
   | (with_reducible exact ih0 _ _ _ _)
   | (with_reducible exact impl_NearestOf_1.mono _ _ _ _)
   | (with_reducible exact LeO.refl _)
   | (with_reducible exact LeO.none _)
   | (with_reducible refine LeO.ite ?_ ?_)
   | (with_reducible refine LeO.bind ?_ (fun _ => ?_))
   | exact ih0 _ _ _ _
   | exact impl_NearestOf_1.mono _ _ _ _
   | exact LeO.none _
   | refine LeO.ite ?_ ?_
   | refine LeO.bind ?_ (fun _ => ?_)
theorem slices_MinFunc_string__impl_NearestOf_1.mono : ∀ a0 a1 k, LeO (slices_MinFunc_string__impl_NearestOf_1.f k a0 a1) (slices_MinFunc_string__impl_NearestOf_1.f (k + 1) a0 a1) := by
 intro a0 a1 k
 have ih0 := slices_MinFunc_string__impl_NearestOf_1.mono_l k
 unfold slices_MinFunc_string__impl_NearestOf_1.f
 repeat' first
   | (with_reducible exact ih0 _ _ _ _)
   | (with_reducible exact impl_NearestOf_1.mono _ _ _ _)
   | (with_reducible exact LeO.refl _)
   | (with_reducible exact LeO.none _)
   | (with_reducible refine LeO.ite ?_ ?_)
   | (with_reducible refine LeO.bind ?_ (fun _ => ?_))
   | exact ih0 _ _ _ _
   | exact impl_NearestOf_1.mono _ _ _ _
   | exact LeO.none _
   | refine LeO.ite ?_ ?_
   | refine LeO.bind ?_ (fun _ => ?_)
set_option maxHeartbeats 8000000 in
set_option maxRecDepth 100000 in
theorem slices_MinFunc_string__impl_NearestOf_1.calls (k : Nat) (A0 : Option Addr) (c0 : Nat) (l0 : List ByteArray) (a1_0 : ByteArray) (q1_0 : Nat) (r : ByteArray) (w : World) (hr0 : Kd.C Kd.string w A0 l0.length l0) (hc0 : l0.length ≤ c0) (hq1_0 : w.cell? ⟨q1_0, 0, none⟩ = some (.string a1_0)) (h : slices_MinFunc_string__impl_NearestOf_1.f k l0 a1_0 = some r) :
  Calls Try.prog 62 #[.slice A0 l0.length c0, .func (.func 63) #[] #[.pointer (some ⟨q1_0, 0, none⟩)]] w fun e w' => e = .returned (.string r) ∧ Below w.heap.size w w' := by
 have HR0 := Aside0.mk hr0
 have HC0 := Aside0.mk hc0
 clear hr0 hc0
 have HQ1_0 := Aside0.mk hq1_0
 clear hq1_0
 have HB := Aside0.mk (Below.refl w.heap.size w)
 have H : (if (l0.length : Int) < 1 then (none) else (if 0 < (l0.length : Int) then (slices_MinFunc_string__impl_NearestOf_1.l0 k l0 (rdOf ByteArray.empty l0 0) 1 a1_0) else (none))) = some r := h
 clear h
 by_cases c3 : (l0.length : Int) < 1
 ·rw [if_pos c3] at H
  exact absurd H (by simp)
 ·rw [if_neg c3] at H
  have c3b0 : decide ((l0.length : Int) < 1) = false := decide_eq_false c3
  have c3b1 : decide (l0.length < 1) = false := decide_eq_false (by omega)
  clear c3
  by_cases c4 : 0 < (l0.length : Int)
  ·rw [if_pos c4] at H
   have c4b0 : decide (0 < (l0.length : Int)) = true := decide_eq_true c4
   have c4b1 : decide (0 < l0.length) = true := decide_eq_true (by omega)
   clear c4
   have H' := Aside0.mk H
   clear H
   have p275 : 0 ≤ (0 : Int) := (by omega)
   have q275 : 0 < (l0.length : Int) := sq_d
   obtain ⟨ad275, e275, hx275_0⟩ := Kd.at_string HR0.out 0 p275 q275
   cases e275
   have qi275 : (0 < l0.length) = True := eq_true (by omega)
   (try rw [show ((0 : Int)).toNat = 0 from rfl] at hx275_0)
   (try rw [Addr.add_zero'] at hx275_0)
   replace p275 := eq_true p275
   replace q275 := eq_true q275
   go_enter Try.func62, Try.ntmps62
   go_wp2
   go_loopg [5, 6] k (fun kq v5 v6 w' => ∃ (x5_1 : ByteArray) (x6_1 : Int), v5 = .string x5_1 ∧ v6 = .int .i64 x6_1 ∧ Aside0 (slices_MinFunc_string__impl_NearestOf_1.l0 kq l0 x5_1 x6_1 a1_0 = some r) ∧ Aside0 (kq ≤ k) ∧ Aside0 (Below w.heap.size w w'))
   case atStart => exact ⟨(rdOf ByteArray.empty l0 0), (1), sq_e, sq_e, H', ⟨Nat.le_refl _⟩, ⟨sq_b⟩⟩
   case round =>
    clear H'
    (try clear q1); (try clear p2); (try clear q2); (try clear hx2); (try clear qi2); (try clear c3); (try clear c3b0); (try clear c3b1); (try clear c4); (try clear c4b0); (try clear c4b1); (try clear hx275_0); (try clear p275); (try clear q275)
    obtain ⟨x5_1, x6_1, rfl, rfl, HA, HK1, HB⟩ := hrel
    cases gk with
    | zero => exact absurd HA.out (by simp [slices_MinFunc_string__impl_NearestOf_1.l0])
    | succ k1 =>
     have H := HA.out
     clear HA
     simp only [slices_MinFunc_string__impl_NearestOf_1.l0] at H
     by_cases c5 : x6_1 < (l0.length : Int)
     ·rw [if_pos c5] at H
      have c5b0 : decide (x6_1 < (l0.length : Int)) = true := decide_eq_true c5
      clear c5
      by_cases c6 : 0 ≤ x6_1
      rotate_left
      ·rw [if_neg c6] at H
       exact absurd H (by simp)
      rw [if_pos c6] at H
      have c6b0 : decide (0 ≤ x6_1) = true := decide_eq_true c6
      clear c6
      replace H := Option.bind_eq_some_iff.mp H
      obtain ⟨t277, A70, H⟩ := H
      replace H : (if t277 < 0 then (slices_MinFunc_string__impl_NearestOf_1.l0 k1 l0 (rdOf ByteArray.empty l0 x6_1) (wrap64 (x6_1 + 1)) a1_0) else (slices_MinFunc_string__impl_NearestOf_1.l0 k1 l0 x5_1 (wrap64 (x6_1 + 1)) a1_0)) = some r := H
      have A7 := Aside0.mk A70
      clear A70
      by_cases c8 : t277 < 0
      ·rw [if_pos c8] at H
       have c8b0 : decide (t277 < 0) = true := decide_eq_true c8
       clear c8
       have H' := Aside0.mk H
       clear H
       have p276 : 0 ≤ (x6_1 : Int) := sq_d
       have q276 : x6_1 < (l0.length : Int) := sq_d
       obtain ⟨ad276, e276, hx276_0⟩ := Kd.at_string HR0.out x6_1 p276 q276
       obtain rfl : ad275 = ad276 := (by injection e276)
       try replace hx276_0 := (HB.out.cell (World.block_lt_of_cell? w _ hx276_0)).trans hx276_0
       replace p276 := eq_true p276
       replace q276 := eq_true q276
       go_wp2_with (first | (go_at_call 63; (with_reducible refine (impl_NearestOf_1.calls k1 (rdOf ByteArray.empty l0 x6_1) x5_1 a1_0 q1_0 t277 _ ?side1 A7.out).mono ?_); (case side1 => first | exact HQ1_0.out | exact (Below.cell HB.out (World.block_lt_of_cell? w _ HQ1_0.out)).trans HQ1_0.out | exact (Below.cell sq_b (World.block_lt_of_cell? w _ HQ1_0.out)).trans HQ1_0.out | exact (HQ1_0.out.symm ▸ rfl)); rintro e w9 ⟨rfl, hb⟩; have n0_ := Aside0.mk (below_step sq_b hb); clear HB; have HB := n0_; clear n0_; (try clear hb); (try clear hb2); (try clear hk); (try clear hi); have p278 : 0 ≤ (x6_1 : Int) := sq_d; have q278 : x6_1 < (l0.length : Int) := sq_d; obtain ⟨ad278, e278, hx278_0⟩ := Kd.at_string HR0.out x6_1 p278 q278; obtain rfl : ad275 = ad278 := (by injection e278); replace hx278_0 := (HB.out.cell (World.block_lt_of_cell? w _ hx278_0)).trans hx278_0; replace p278 := eq_true p278; replace q278 := eq_true q278))
       go_roundg k1
       case measure => have := HK1.out; omega
       case rel => exact ⟨(rdOf ByteArray.empty l0 x6_1), (wrap64 (x6_1 + 1)), sq_e, sq_e, H', ⟨by have := HK1.out; omega⟩, ⟨sq_b⟩⟩
      ·rw [if_neg c8] at H
       have c8b0 : decide (t277 < 0) = false := decide_eq_false c8
       clear c8
       have H' := Aside0.mk H
       clear H
       have p276 : 0 ≤ (x6_1 : Int) := sq_d
       have q276 : x6_1 < (l0.length : Int) := sq_d
       obtain ⟨ad276, e276, hx276_0⟩ := Kd.at_string HR0.out x6_1 p276 q276
       obtain rfl : ad275 = ad276 := (by injection e276)
       try replace hx276_0 := (HB.out.cell (World.block_lt_of_cell? w _ hx276_0)).trans hx276_0
       replace p276 := eq_true p276
       replace q276 := eq_true q276
       go_wp2_with (first | (go_at_call 63; (with_reducible refine (impl_NearestOf_1.calls k1 (rdOf ByteArray.empty l0 x6_1) x5_1 a1_0 q1_0 t277 _ ?side1 A7.out).mono ?_); (case side1 => first | exact HQ1_0.out | exact (Below.cell HB.out (World.block_lt_of_cell? w _ HQ1_0.out)).trans HQ1_0.out | exact (Below.cell sq_b (World.block_lt_of_cell? w _ HQ1_0.out)).trans HQ1_0.out | exact (HQ1_0.out.symm ▸ rfl)); rintro e w10 ⟨rfl, hb⟩; have n0_ := Aside0.mk (below_step sq_b hb); clear HB; have HB := n0_; clear n0_; (try clear hb); (try clear hb2); (try clear hk); (try clear hi)))
       go_roundg k1
       case measure => have := HK1.out; omega
       case rel => exact ⟨(x5_1), (wrap64 (x6_1 + 1)), sq_e, sq_e, H', ⟨by have := HK1.out; omega⟩, ⟨sq_b⟩⟩
     ·rw [if_neg c5] at H
      have c5b0 : decide (x6_1 < (l0.length : Int)) = false := decide_eq_false c5
      clear c5
      obtain rfl := Option.some.inj H
      go_wp2
      go_ret
      exact ⟨sq_w, sq_b⟩
  ·rw [if_neg c4] at H
   exact absurd H (by simp)

/-! ### impl_NearestOf: function 30 -/
def impl_NearestOf.j0 : Nat → List (S62) → Bool → ByteArray → Option (ByteArray × Int × Bool)
 | 0, _, _, _ => none
 | k + 1, x0, x20, x280000 => if x20 = true then (some ((⟨#[]⟩ : ByteArray), 0, false)) else ((impl_knotWords.f k x0).bind fun t282 => ((slices_MinFunc_string__impl_NearestOf_1.f k t282 x280000).bind fun t285 => ((impl_farOf.f k t285 x280000).bind fun t286 => (some (t285, t286, true)))))
def impl_NearestOf.f (k : Nat) (l0 : List (S62)) (a1 : ByteArray) : Option (ByteArray × Int × Bool) := (impl_GoodKnots.f k l0).bind fun t280 => (if t280 = true then ((impl_isWord.f k a1).bind fun t281 => (if t281 = true then (impl_NearestOf.j0 k l0 ((l0.length : Int) == 0) a1) else (impl_NearestOf.j0 k l0 true a1))) else (impl_NearestOf.j0 k l0 true a1))
theorem impl_NearestOf.mono_l : ∀ k, (∀ y0 y1 y2, LeO (impl_NearestOf.j0 k y0 y1 y2) (impl_NearestOf.j0 (k + 1) y0 y1 y2))
 | 0 => fun _ _ _ r h => by simp [impl_NearestOf.j0] at h
 | k + 1 => by
  have ih0 := impl_NearestOf.mono_l k
  ·intro y0 y1 y2
   unfold impl_NearestOf.j0
   repeat' first
   | (with_reducible exact ih0 _ _ _)
   | (with_reducible exact impl_GoodKnots.mono _ _)
   | (with_reducible exact impl_farOf.mono _ _ _)
   | (with_reducible exact impl_isWord.mono _ _)
   | (with_reducible exact impl_knotWords.mono _ _)
   | (with_reducible exact slices_MinFunc_string__impl_NearestOf_1.mono _ _ _)
   | (with_reducible exact LeO.refl _)
   | (with_reducible exact LeO.none _)
   | (with_reducible refine LeO.ite ?_ ?_)
   | (with_reducible refine LeO.bind ?_ (fun _ => ?_))
   | exact ih0 _ _ _
   | exact impl_GoodKnots.mono _ _
   | exact impl_farOf.mono _ _ _
   | exact impl_isWord.mono _ _
   | exact impl_knotWords.mono _ _
   | exact slices_MinFunc_string__impl_NearestOf_1.mono _ _ _
   | exact LeO.none _
   | refine LeO.ite ?_ ?_
   | refine LeO.bind ?_ (fun _ => ?_)
theorem impl_NearestOf.mono : ∀ a0 a1 k, LeO (impl_NearestOf.f k a0 a1) (impl_NearestOf.f (k + 1) a0 a1) := by
 intro a0 a1 k
 have ih0 := impl_NearestOf.mono_l k
 unfold impl_NearestOf.f
 repeat' first
   | (with_reducible exact ih0 _ _ _)
   | (with_reducible exact impl_GoodKnots.mono _ _)
   | (with_reducible exact impl_farOf.mono _ _ _)
   | (with_reducible exact impl_isWord.mono _ _)
   | (with_reducible exact impl_knotWords.mono _ _)
   | (with_reducible exact slices_MinFunc_string__impl_NearestOf_1.mono _ _ _)
   | (with_reducible exact LeO.refl _)
   | (with_reducible exact LeO.none _)
   | (with_reducible refine LeO.ite ?_ ?_)
   | (with_reducible refine LeO.bind ?_ (fun _ => ?_))
   | exact ih0 _ _ _
   | exact impl_GoodKnots.mono _ _
   | exact impl_farOf.mono _ _ _
   | exact impl_isWord.mono _ _
   | exact impl_knotWords.mono _ _
   | exact slices_MinFunc_string__impl_NearestOf_1.mono _ _ _
   | exact LeO.none _
   | refine LeO.ite ?_ ?_
   | refine LeO.bind ?_ (fun _ => ?_)
set_option maxHeartbeats 8000000 in
set_option maxRecDepth 100000 in
theorem impl_NearestOf.calls (k : Nat) (A0 : Option Addr) (c0 : Nat) (l0 : List (S62)) (a1 : ByteArray) (r1 : ByteArray) (r2 : Int) (r3 : Bool) (w : World) (hr0 : Kd.C k62 w A0 l0.length l0) (hc0 : l0.length ≤ c0) (h : impl_NearestOf.f k l0 a1 = some (r1, r2, r3)) :
  Calls Try.prog 30 #[.slice A0 l0.length c0, .string a1] w fun e w' => e = .returned (.tuple #[.string r1, .int .i64 r2, .bool r3]) ∧ Below w.heap.size w w' := by
 have HR0 := Aside0.mk hr0
 have HC0 := Aside0.mk hc0
 clear hr0 hc0
 have HB := Aside0.mk (Below.refl w.heap.size w)
 have H : ((impl_GoodKnots.f k l0).bind fun t280 => (if t280 = true then ((impl_isWord.f k a1).bind fun t281 => (if t281 = true then (impl_NearestOf.j0 k l0 ((l0.length : Int) == 0) a1) else (impl_NearestOf.j0 k l0 true a1))) else (impl_NearestOf.j0 k l0 true a1))) = some (r1, r2, r3) := h
 clear h
 have HC3 := Aside0.mk H
 clear H
 go_enter Try.func30, Try.ntmps30
 go_upto_region 1 with (first | ((with_reducible refine gate_dst (N := 3) rfl ?_); (try (refine gate_guard (by rfl) ?_; dsimp only)); refine box_event ?hg (N := 3) ?hd (cs := #[.string a1]) (t := 9) ?hr ?_; (case hd => rfl); (case hg => rfl); (case hr => first | (go_simp; done) | (go_simp; rfl)); intro gb279 hg w4 hbox hb; have n0_ := Aside0.mk (below_step sq_b hb); have n1_ := Aside0.mk (hbox); have n2_ := Aside0.mk ((by rw [hg]; exact (below_size sq_b) : w.heap.size ≤ gb279)); have n3_ := Aside0.mk ((by rw [hg]; exact (below_size sq_b) : w.heap.size ≤ gb279)); clear HB; have HB := n0_; have BK279 := n1_; have GW279 := n2_; have GE279 := n3_; clear n0_ n1_ n2_ n3_; clear hb hbox hg))
 (try simp only [Act.put, List.setIfInBounds_toArray, List.set_cons_zero, List.set_cons_succ])
 go_cut [20] (fun v20 wc => ∃ (kq : Nat) (x20_2 : Bool), v20 = .bool x20_2 ∧ Aside0 (impl_NearestOf.j0 kq l0 x20_2 a1 = some (r1, r2, r3)) ∧ Aside0 (kq ≤ k) ∧ Aside0 (wc.heap[gb279]? = some (.cells #[.string a1] 9 (0, 0))) ∧ Aside0 (Below w.heap.size w wc))
 case first =>
  have H := HC3.out
  clear HC3
  replace H := Option.bind_eq_some_iff.mp H
  obtain ⟨t280, A50, H⟩ := H
  replace H : (if t280 = true then ((impl_isWord.f k a1).bind fun t281 => (if t281 = true then (impl_NearestOf.j0 k l0 ((l0.length : Int) == 0) a1) else (impl_NearestOf.j0 k l0 true a1))) else (impl_NearestOf.j0 k l0 true a1)) = some (r1, r2, r3) := H
  have A5 := Aside0.mk A50
  clear A50
  by_cases c6 : t280 = true
  ·subst c6
   have H1 : ((impl_isWord.f k a1).bind fun t281 => (if t281 = true then (impl_NearestOf.j0 k l0 ((l0.length : Int) == 0) a1) else (impl_NearestOf.j0 k l0 true a1))) = some (r1, r2, r3) := by rw [if_pos rfl] at H; exact H
   clear H
   have H := H1
   clear H1
   replace H := Option.bind_eq_some_iff.mp H
   obtain ⟨t281, A70, H⟩ := H
   replace H : (if t281 = true then (impl_NearestOf.j0 k l0 ((l0.length : Int) == 0) a1) else (impl_NearestOf.j0 k l0 true a1)) = some (r1, r2, r3) := H
   have A7 := Aside0.mk A70
   clear A70
   by_cases c8 : t281 = true
   ·subst c8
    have H1 : (impl_NearestOf.j0 k l0 ((l0.length : Int) == 0) a1) = some (r1, r2, r3) := by rw [if_pos rfl] at H; exact H
    clear H
    have H := H1
    clear H1
    have H' := Aside0.mk H
    clear H
    go_wp2_with (first | ((with_reducible refine gate_callee (f := 23) rfl ?_); refine goesL_ (some 9) rfl rfl Try.func23 (by kernel_rfl) rfl #[.slice A0 l0.length c0] rfl (by (try simp only [List.map_toArray, List.map_cons, List.map_nil]); first | done | rfl | (simp only [List.length_drop, List.length_take]; rfl)) ?_; (with_reducible refine (impl_GoodKnots.calls k _ _ l0 true _ ?side1 ?side2 A5.out).mono ?_); (case side1 => repeat (first | exact (Kd.C_below HR0.out HB.out) | (with_reducible refine Kd.C_alloc ?_ _) | (with_reducible refine Kd.C_drewN ?_ _) | (with_reducible refine Kd.C_drew ?_))); (case side2 => exact HC0.out); rintro e w9 ⟨rfl, hb⟩; refine ⟨_, rfl, ?_⟩; have n0_ := Aside0.mk (blk_below (g := gb279) (o := .cells #[.string a1] 9 (0, 0)) (sq_l BK279) hb); have n1_ := Aside0.mk (below_step (by repeat (first | (with_reducible first | exact HB.out | apply below_alloc | apply pw_below_drewN | apply below_drew1 | refine below_set ?_ GE279.out) | exact HB.out)) hb); clear BK279; clear HB; have BK279 := n0_; have HB := n1_; clear n0_ n1_; (try clear hb); (try clear hb2); (try clear hk); (try clear hi); have hcz10_0 : w9.cell? ⟨gb279, 0, none⟩ = some (.string a1) := (blk_cell BK279.out 0).trans rfl; have hfz10_0 := blk_frozen BK279.out 0) | (go_at_call 61; (with_reducible refine (impl_isWord.calls k a1 true _ A7.out).mono ?_); rintro e w' ⟨rfl, ⟨nd, rfl⟩⟩))
    go_meet
    case rel => exact ⟨_, (((l0.length : Int) == 0)), sq_e, H', ⟨by first | omega | exact Nat.le_refl _⟩, ⟨by (with_reducible repeat (first | refine blk_drewN ?_ _ | refine blk_drew ?_ | refine blk_alloc ?_ _)); exact BK279.out⟩, ⟨by repeat (first | (with_reducible first | exact HB.out | apply below_alloc | apply pw_below_drewN | apply below_drew1 | refine below_set ?_ GE279.out) | exact HB.out)⟩⟩
   ·replace c8 := Bool.eq_false_iff.mpr c8
    subst c8
    have H1 : (impl_NearestOf.j0 k l0 true a1) = some (r1, r2, r3) := by rw [if_neg (show ¬ (false = true) by decide)] at H; exact H
    clear H
    have H := H1
    clear H1
    have H' := Aside0.mk H
    clear H
    go_wp2_with (first | ((with_reducible refine gate_callee (f := 23) rfl ?_); refine goesL_ (some 9) rfl rfl Try.func23 (by kernel_rfl) rfl #[.slice A0 l0.length c0] rfl (by (try simp only [List.map_toArray, List.map_cons, List.map_nil]); first | done | rfl | (simp only [List.length_drop, List.length_take]; rfl)) ?_; (with_reducible refine (impl_GoodKnots.calls k _ _ l0 true _ ?side1 ?side2 A5.out).mono ?_); (case side1 => repeat (first | exact (Kd.C_below HR0.out HB.out) | (with_reducible refine Kd.C_alloc ?_ _) | (with_reducible refine Kd.C_drewN ?_ _) | (with_reducible refine Kd.C_drew ?_))); (case side2 => exact HC0.out); rintro e w11 ⟨rfl, hb⟩; refine ⟨_, rfl, ?_⟩; have n0_ := Aside0.mk (blk_below (g := gb279) (o := .cells #[.string a1] 9 (0, 0)) (sq_l BK279) hb); have n1_ := Aside0.mk (below_step (by repeat (first | (with_reducible first | exact HB.out | apply below_alloc | apply pw_below_drewN | apply below_drew1 | refine below_set ?_ GE279.out) | exact HB.out)) hb); clear BK279; clear HB; have BK279 := n0_; have HB := n1_; clear n0_ n1_; (try clear hb); (try clear hb2); (try clear hk); (try clear hi); have hcz12_0 : w11.cell? ⟨gb279, 0, none⟩ = some (.string a1) := (blk_cell BK279.out 0).trans rfl; have hfz12_0 := blk_frozen BK279.out 0) | (go_at_call 61; (with_reducible refine (impl_isWord.calls k a1 false _ A7.out).mono ?_); rintro e w' ⟨rfl, ⟨nd, rfl⟩⟩))
    go_meet
    case rel => exact ⟨_, (true), sq_e, H', ⟨by first | omega | exact Nat.le_refl _⟩, ⟨by (with_reducible repeat (first | refine blk_drewN ?_ _ | refine blk_drew ?_ | refine blk_alloc ?_ _)); exact BK279.out⟩, ⟨by repeat (first | (with_reducible first | exact HB.out | apply below_alloc | apply pw_below_drewN | apply below_drew1 | refine below_set ?_ GE279.out) | exact HB.out)⟩⟩
  ·replace c6 := Bool.eq_false_iff.mpr c6
   subst c6
   have H1 : (impl_NearestOf.j0 k l0 true a1) = some (r1, r2, r3) := by rw [if_neg (show ¬ (false = true) by decide)] at H; exact H
   clear H
   have H := H1
   clear H1
   have H' := Aside0.mk H
   clear H
   go_wp2_with (first | ((with_reducible refine gate_callee (f := 23) rfl ?_); refine goesL_ (some 9) rfl rfl Try.func23 (by kernel_rfl) rfl #[.slice A0 l0.length c0] rfl (by (try simp only [List.map_toArray, List.map_cons, List.map_nil]); first | done | rfl | (simp only [List.length_drop, List.length_take]; rfl)) ?_; (with_reducible refine (impl_GoodKnots.calls k _ _ l0 false _ ?side1 ?side2 A5.out).mono ?_); (case side1 => repeat (first | exact (Kd.C_below HR0.out HB.out) | (with_reducible refine Kd.C_alloc ?_ _) | (with_reducible refine Kd.C_drewN ?_ _) | (with_reducible refine Kd.C_drew ?_))); (case side2 => exact HC0.out); rintro e w13 ⟨rfl, hb⟩; refine ⟨_, rfl, ?_⟩; have n0_ := Aside0.mk (blk_below (g := gb279) (o := .cells #[.string a1] 9 (0, 0)) (sq_l BK279) hb); have n1_ := Aside0.mk (below_step (by repeat (first | (with_reducible first | exact HB.out | apply below_alloc | apply pw_below_drewN | apply below_drew1 | refine below_set ?_ GE279.out) | exact HB.out)) hb); clear BK279; clear HB; have BK279 := n0_; have HB := n1_; clear n0_ n1_; (try clear hb); (try clear hb2); (try clear hk); (try clear hi)))
   go_meet
   case rel => exact ⟨_, (true), sq_e, H', ⟨by first | omega | exact Nat.le_refl _⟩, ⟨by (with_reducible repeat (first | refine blk_drewN ?_ _ | refine blk_drew ?_ | refine blk_alloc ?_ _)); exact BK279.out⟩, ⟨by repeat (first | (with_reducible first | exact HB.out | apply below_alloc | apply pw_below_drewN | apply below_drew1 | refine below_set ?_ GE279.out) | exact HB.out)⟩⟩
 case rest =>
  clear HC3
  (try clear c2); (try clear p2); (try clear c3); (try clear c6); (try clear c8); (try clear hcz10_0); (try clear hcz12_0); (try clear hfz10_0); (try clear hfz12_0)
  obtain ⟨kq, x20_2, rfl, HA, HJ2, BK279, HB⟩ := hcut
  cases kq with
  | zero => exact absurd HA.out (by simp [impl_NearestOf.j0])
  | succ kj2 =>
   have H := HA.out
   clear HA
   simp only [impl_NearestOf.j0] at H
   by_cases c14 : x20_2 = true
   ·subst c14
    have H1 : (some ((⟨#[]⟩ : ByteArray), 0, false)) = some (r1, r2, r3) := by rw [if_pos rfl] at H; exact H
    clear H
    have H := H1
    clear H1
    simp only [Option.some.injEq, Prod.mk.injEq] at H
    obtain ⟨rfl, rfl, rfl⟩ := H
    go_wp2
    go_ret3
    exact ⟨sq_w, by repeat (first | (with_reducible first | exact HB.out | apply below_alloc | apply pw_below_drewN | apply below_drew1 | refine below_set ?_ GE279.out) | exact HB.out)⟩
   ·replace c14 := Bool.eq_false_iff.mpr c14
    subst c14
    have H1 : ((impl_knotWords.f kj2 l0).bind fun t282 => ((slices_MinFunc_string__impl_NearestOf_1.f kj2 t282 a1).bind fun t285 => ((impl_farOf.f kj2 t285 a1).bind fun t286 => (some (t285, t286, true))))) = some (r1, r2, r3) := by rw [if_neg (show ¬ (false = true) by decide)] at H; exact H
    clear H
    have H := H1
    clear H1
    replace H := Option.bind_eq_some_iff.mp H
    obtain ⟨t282, A150, H⟩ := H
    replace H : ((slices_MinFunc_string__impl_NearestOf_1.f kj2 t282 a1).bind fun t285 => ((impl_farOf.f kj2 t285 a1).bind fun t286 => (some (t285, t286, true)))) = some (r1, r2, r3) := H
    have A15 := Aside0.mk A150
    clear A150
    replace H := Option.bind_eq_some_iff.mp H
    obtain ⟨t285, A160, H⟩ := H
    replace H : ((impl_farOf.f kj2 t285 a1).bind fun t286 => (some (t285, t286, true))) = some (r1, r2, r3) := H
    have A16 := Aside0.mk A160
    clear A160
    replace H := Option.bind_eq_some_iff.mp H
    obtain ⟨t286, A170, H⟩ := H
    replace H : (some (t285, t286, true)) = some (r1, r2, r3) := H
    have A17 := Aside0.mk A170
    clear A170
    simp only [Option.some.injEq, Prod.mk.injEq] at H
    obtain ⟨rfl, rfl, rfl⟩ := H
    go_wp2_with (first | ((with_reducible refine gate_callee (f := 54) rfl ?_); refine goesL_ (some 22) rfl rfl Try.func54 (by kernel_rfl) rfl #[.slice A0 l0.length c0] rfl (by (try simp only [List.map_toArray, List.map_cons, List.map_nil]); first | done | rfl | (simp only [List.length_drop, List.length_take]; rfl)) ?_; (with_reducible refine (impl_knotWords.calls kj2 _ _ l0 t282 _ ?side1 ?side2 A15.out).mono ?_); (case side1 => repeat (first | exact (Kd.C_below HR0.out HB.out) | (with_reducible refine Kd.C_alloc ?_ _) | (with_reducible refine Kd.C_drewN ?_ _) | (with_reducible refine Kd.C_drew ?_))); (case side2 => exact HC0.out); rintro e w18 ⟨v283, rfl, ho0, hb⟩; refine ⟨_, rfl, ?_⟩; have n0_ := Aside0.mk (Kd.R_lower (Kd.R_newB ho0 (g := gb279) (o := .cells #[.string a1] 9 (0, 0)) (sq_l BK279)) (below_size (by repeat (first | (with_reducible first | exact HB.out | apply below_alloc | apply pw_below_drewN | apply below_drew1 | refine below_set ?_ GE279.out) | exact HB.out)))); have n1_ := Aside0.mk (blk_below (g := gb279) (o := .cells #[.string a1] 9 (0, 0)) (sq_l BK279) hb); have n2_ := Aside0.mk (below_step (by repeat (first | (with_reducible first | exact HB.out | apply below_alloc | apply pw_below_drewN | apply below_drew1 | refine below_set ?_ GE279.out) | exact HB.out)) hb); clear BK279; clear HB; have HO284 := n0_; have BK279 := n1_; have HB := n2_; clear n0_ n1_ n2_; (try clear hb); (try clear hb2); (try clear hk); (try clear hi); (try clear ho0); obtain ⟨Ao19, co19, eo19⟩ := Kd.R_slice HO284.out; subst eo19) | ((with_reducible refine gate_callee (f := 62) rfl ?_); refine goesL_ (some 24) rfl rfl Try.func62 (by kernel_rfl) rfl #[.slice Ao19 t282.length co19, .func (.func 63) #[] #[.pointer (some ⟨gb279, 0, none⟩)]] rfl (by (try simp only [List.map_toArray, List.map_cons, List.map_nil]); first | done | rfl | (simp only [List.length_drop, List.length_take]; rfl)) ?_; (with_reducible refine (slices_MinFunc_string__impl_NearestOf_1.calls kj2 _ _ t282 a1 gb279 t285 _ ?side1 ?side2 ?side3 A16.out).mono ?_); (case side1 => repeat (first | exact (Kd.R_reads' HO284.out).2.2 | (with_reducible refine Kd.C_alloc ?_ _) | (with_reducible refine Kd.C_drewN ?_ _) | (with_reducible refine Kd.C_drew ?_))); (case side2 => exact (Kd.R_reads' HO284.out).2.1); (case side3 => exact (blk_cell (sq_l BK279) 0).trans rfl); rintro e w20 ⟨rfl, hb⟩; refine ⟨_, rfl, ?_⟩; have n0_ := Aside0.mk (Kd.R_below (sq_r HO284) hb); have n1_ := Aside0.mk (blk_below (g := gb279) (o := .cells #[.string a1] 9 (0, 0)) (sq_l BK279) hb); have n2_ := Aside0.mk (below_step (by repeat (first | (with_reducible first | exact HB.out | apply below_alloc | apply pw_below_drewN | apply below_drew1 | refine below_set ?_ GE279.out) | exact HB.out)) hb); clear HO284; clear BK279; clear HB; have HO284 := n0_; have BK279 := n1_; have HB := n2_; clear n0_ n1_ n2_; (try clear hb); (try clear hb2); (try clear hk); (try clear hi); have hcz21_0 : w20.cell? ⟨gb279, 0, none⟩ = some (.string a1) := (blk_cell BK279.out 0).trans rfl; have hfz21_0 := blk_frozen BK279.out 0) | ((with_reducible refine gate_callee (f := 66) rfl ?_); refine goesL_ (some 28) rfl rfl Try.func66 (by kernel_rfl) rfl #[.string t285, .string a1] rfl (by (try simp only [List.map_toArray, List.map_cons, List.map_nil]); first | done | rfl | (simp only [List.length_drop, List.length_take]; rfl)) ?_; (with_reducible refine (impl_farOf.calls kj2 t285 a1 t286 _ A17.out).mono ?_); rintro e w22 ⟨rfl, hb⟩; refine ⟨_, rfl, ?_⟩; have n0_ := Aside0.mk (Kd.R_below (sq_r HO284) hb); have n1_ := Aside0.mk (blk_below (g := gb279) (o := .cells #[.string a1] 9 (0, 0)) (sq_l BK279) hb); have n2_ := Aside0.mk (below_step (by repeat (first | (with_reducible first | exact HB.out | apply below_alloc | apply pw_below_drewN | apply below_drew1 | refine below_set ?_ GE279.out) | exact HB.out)) hb); clear HO284; clear BK279; clear HB; have HO284 := n0_; have BK279 := n1_; have HB := n2_; clear n0_ n1_ n2_; (try clear hb); (try clear hb2); (try clear hk); (try clear hi)))
    go_ret3
    exact ⟨sq_w, by repeat (first | (with_reducible first | exact HB.out | apply below_alloc | apply pw_below_drewN | apply below_drew1 | refine below_set ?_ GE279.out) | exact HB.out)⟩

/-! ### laws_FnExactNearestOf: function 7 -/
def laws_FnExactNearestOf.j0 : Nat → List (S66) → List (S62) → Bool → Option (Bool)
 | 0, _, _, _ => none
 | k + 1, x0, x9, x50 => if x50 = true then (some false) else ((laws_toKnotS.f k x0).bind fun t300 => ((laws_eqKnotS.f k x9 t300).bind fun t303 => (if t303 = true then (some true) else (some false))))
def laws_FnExactNearestOf.f (k : Nat) (l0 : List (S66)) (a1 : ByteArray) : Option (Bool) := if (a1.size : Int) > 1048576 then (some true) else ((laws_szKnotS.f k l0 1048576).bind fun t287 => (if t287 < 0 then (some true) else ((laws_toKnotS.f k l0).bind fun t288 => ((spec_NearestOf.f k t288 a1).bind fun bt291 => ((laws_toKnotS.f k l0).bind fun t294 => ((impl_NearestOf.f k t294 a1).bind fun bt297 => (if bt297.1.toList = bt291.1.toList then (if bt297.2.1 = bt291.2.1 then (laws_FnExactNearestOf.j0 k l0 t294 (bt297.2.2 != bt291.2.2)) else (laws_FnExactNearestOf.j0 k l0 t294 true)) else (laws_FnExactNearestOf.j0 k l0 t294 true))))))))
theorem laws_FnExactNearestOf.mono_l : ∀ k, (∀ y0 y1 y2, LeO (laws_FnExactNearestOf.j0 k y0 y1 y2) (laws_FnExactNearestOf.j0 (k + 1) y0 y1 y2))
 | 0 => fun _ _ _ r h => by simp [laws_FnExactNearestOf.j0] at h
 | k + 1 => by
  have ih0 := laws_FnExactNearestOf.mono_l k
  ·intro y0 y1 y2
   unfold laws_FnExactNearestOf.j0
   repeat' first
   | (with_reducible exact ih0 _ _ _)
   | (with_reducible exact impl_NearestOf.mono _ _ _)
   | (with_reducible exact laws_eqKnotS.mono _ _ _)
   | (with_reducible exact laws_szKnotS.mono _ _ _)
   | (with_reducible exact laws_toKnotS.mono _ _)
   | (with_reducible exact spec_NearestOf.mono _ _ _)
   | (with_reducible exact LeO.refl _)
   | (with_reducible exact LeO.none _)
   | (with_reducible refine LeO.ite ?_ ?_)
   | (with_reducible refine LeO.bind ?_ (fun _ => ?_))
   | exact ih0 _ _ _
   | exact impl_NearestOf.mono _ _ _
   | exact laws_eqKnotS.mono _ _ _
   | exact laws_szKnotS.mono _ _ _
   | exact laws_toKnotS.mono _ _
   | exact spec_NearestOf.mono _ _ _
   | exact LeO.none _
   | refine LeO.ite ?_ ?_
   | refine LeO.bind ?_ (fun _ => ?_)
theorem laws_FnExactNearestOf.mono : ∀ a0 a1 k, LeO (laws_FnExactNearestOf.f k a0 a1) (laws_FnExactNearestOf.f (k + 1) a0 a1) := by
 intro a0 a1 k
 have ih0 := laws_FnExactNearestOf.mono_l k
 unfold laws_FnExactNearestOf.f
 repeat' first
   | (with_reducible exact ih0 _ _ _)
   | (with_reducible exact impl_NearestOf.mono _ _ _)
   | (with_reducible exact laws_eqKnotS.mono _ _ _)
   | (with_reducible exact laws_szKnotS.mono _ _ _)
   | (with_reducible exact laws_toKnotS.mono _ _)
   | (with_reducible exact spec_NearestOf.mono _ _ _)
   | (with_reducible exact LeO.refl _)
   | (with_reducible exact LeO.none _)
   | (with_reducible refine LeO.ite ?_ ?_)
   | (with_reducible refine LeO.bind ?_ (fun _ => ?_))
   | exact ih0 _ _ _
   | exact impl_NearestOf.mono _ _ _
   | exact laws_eqKnotS.mono _ _ _
   | exact laws_szKnotS.mono _ _ _
   | exact laws_toKnotS.mono _ _
   | exact spec_NearestOf.mono _ _ _
   | exact LeO.none _
   | refine LeO.ite ?_ ?_
   | refine LeO.bind ?_ (fun _ => ?_)
set_option maxHeartbeats 8000000 in
set_option maxRecDepth 100000 in
theorem laws_FnExactNearestOf.calls (k : Nat) (A0 : Option Addr) (c0 : Nat) (l0 : List (S66)) (a1 : ByteArray) (r : Bool) (w : World) (hr0 : Kd.C k66 w A0 l0.length l0) (hc0 : l0.length ≤ c0) (h : laws_FnExactNearestOf.f k l0 a1 = some r) :
  Calls Try.prog 7 #[.slice A0 l0.length c0, .string a1] w fun e w' => e = .returned (.bool r) ∧ Below w.heap.size w w' := by
 have HR0 := Aside0.mk hr0
 have HC0 := Aside0.mk hc0
 clear hr0 hc0
 have HB := Aside0.mk (Below.refl w.heap.size w)
 have H : (if (a1.size : Int) > 1048576 then (some true) else ((laws_szKnotS.f k l0 1048576).bind fun t287 => (if t287 < 0 then (some true) else ((laws_toKnotS.f k l0).bind fun t288 => ((spec_NearestOf.f k t288 a1).bind fun bt291 => ((laws_toKnotS.f k l0).bind fun t294 => ((impl_NearestOf.f k t294 a1).bind fun bt297 => (if bt297.1.toList = bt291.1.toList then (if bt297.2.1 = bt291.2.1 then (laws_FnExactNearestOf.j0 k l0 t294 (bt297.2.2 != bt291.2.2)) else (laws_FnExactNearestOf.j0 k l0 t294 true)) else (laws_FnExactNearestOf.j0 k l0 t294 true))))))))) = some r := h
 clear h
 by_cases c3 : (a1.size : Int) > 1048576
 ·rw [if_pos c3] at H
  have c3b0 : decide (1048576 < (a1.size : Int)) = true := decide_eq_true c3
  have c3b1 : decide (1048576 < a1.size) = true := decide_eq_true (by omega)
  clear c3
  obtain rfl := Option.some.inj H
  go_enter Try.func7, Try.ntmps7
  go_wp2
  go_ret
  exact ⟨sq_w, sq_b⟩
 ·rw [if_neg c3] at H
  have c3b0 : decide (1048576 < (a1.size : Int)) = false := decide_eq_false c3
  have c3b1 : decide (1048576 < a1.size) = false := decide_eq_false (by omega)
  clear c3
  replace H := Option.bind_eq_some_iff.mp H
  obtain ⟨t287, A40, H⟩ := H
  replace H : (if t287 < 0 then (some true) else ((laws_toKnotS.f k l0).bind fun t288 => ((spec_NearestOf.f k t288 a1).bind fun bt291 => ((laws_toKnotS.f k l0).bind fun t294 => ((impl_NearestOf.f k t294 a1).bind fun bt297 => (if bt297.1.toList = bt291.1.toList then (if bt297.2.1 = bt291.2.1 then (laws_FnExactNearestOf.j0 k l0 t294 (bt297.2.2 != bt291.2.2)) else (laws_FnExactNearestOf.j0 k l0 t294 true)) else (laws_FnExactNearestOf.j0 k l0 t294 true))))))) = some r := H
  have A4 := Aside0.mk A40
  clear A40
  by_cases c5 : t287 < 0
  ·rw [if_pos c5] at H
   have c5b0 : decide (t287 < 0) = true := decide_eq_true c5
   clear c5
   obtain rfl := Option.some.inj H
   go_enter Try.func7, Try.ntmps7
   go_wp2_with (first | ((with_reducible refine gate_callee (f := 20) rfl ?_); refine goesL_ (some 18) rfl rfl Try.func20 (by kernel_rfl) rfl #[.slice A0 l0.length c0, .int .i64 1048576] rfl (by (try simp only [List.map_toArray, List.map_cons, List.map_nil]); first | done | rfl | (simp only [List.length_drop, List.length_take]; rfl)) ?_; (with_reducible refine (laws_szKnotS.calls k _ _ l0 1048576 t287 _ ?side1 ?side2 A4.out).mono ?_); (case side1 => repeat (first | exact HR0.out | (with_reducible refine Kd.C_alloc ?_ _) | (with_reducible refine Kd.C_drewN ?_ _) | (with_reducible refine Kd.C_drew ?_))); (case side2 => exact HC0.out); rintro e w6 ⟨rfl, hb⟩; refine ⟨_, rfl, ?_⟩; have n0_ := Aside0.mk (below_step sq_b hb); clear HB; have HB := n0_; clear n0_; (try clear hb); (try clear hb2); (try clear hk); (try clear hi)))
   go_ret
   exact ⟨sq_w, sq_b⟩
  ·rw [if_neg c5] at H
   have c5b0 : decide (t287 < 0) = false := decide_eq_false c5
   clear c5
   replace H := Option.bind_eq_some_iff.mp H
   obtain ⟨t288, A70, H⟩ := H
   replace H : ((spec_NearestOf.f k t288 a1).bind fun bt291 => ((laws_toKnotS.f k l0).bind fun t294 => ((impl_NearestOf.f k t294 a1).bind fun bt297 => (if bt297.1.toList = bt291.1.toList then (if bt297.2.1 = bt291.2.1 then (laws_FnExactNearestOf.j0 k l0 t294 (bt297.2.2 != bt291.2.2)) else (laws_FnExactNearestOf.j0 k l0 t294 true)) else (laws_FnExactNearestOf.j0 k l0 t294 true))))) = some r := H
   have A7 := Aside0.mk A70
   clear A70
   replace H := Option.bind_eq_some_iff.mp H
   obtain ⟨⟨t291, t292, t293⟩, A80, H⟩ := H
   replace H : ((laws_toKnotS.f k l0).bind fun t294 => ((impl_NearestOf.f k t294 a1).bind fun bt297 => (if bt297.1.toList = t291.toList then (if bt297.2.1 = t292 then (laws_FnExactNearestOf.j0 k l0 t294 (bt297.2.2 != t293)) else (laws_FnExactNearestOf.j0 k l0 t294 true)) else (laws_FnExactNearestOf.j0 k l0 t294 true)))) = some r := H
   have A8 := Aside0.mk A80
   clear A80
   replace H := Option.bind_eq_some_iff.mp H
   obtain ⟨t294, A90, H⟩ := H
   replace H : ((impl_NearestOf.f k t294 a1).bind fun bt297 => (if bt297.1.toList = t291.toList then (if bt297.2.1 = t292 then (laws_FnExactNearestOf.j0 k l0 t294 (bt297.2.2 != t293)) else (laws_FnExactNearestOf.j0 k l0 t294 true)) else (laws_FnExactNearestOf.j0 k l0 t294 true))) = some r := H
   have A9 := Aside0.mk A90
   clear A90
   replace H := Option.bind_eq_some_iff.mp H
   obtain ⟨⟨t297, t298, t299⟩, A100, H⟩ := H
   replace H : (if t297.toList = t291.toList then (if t298 = t292 then (laws_FnExactNearestOf.j0 k l0 t294 (t299 != t293)) else (laws_FnExactNearestOf.j0 k l0 t294 true)) else (laws_FnExactNearestOf.j0 k l0 t294 true)) = some r := H
   have A10 := Aside0.mk A100
   clear A100
   have HC11 := Aside0.mk H
   clear H
   go_enter Try.func7, Try.ntmps7
   go_upto_region 10 with (first | ((with_reducible refine gate_callee (f := 20) rfl ?_); refine goesL_ (some 18) rfl rfl Try.func20 (by kernel_rfl) rfl #[.slice A0 l0.length c0, .int .i64 1048576] rfl (by (try simp only [List.map_toArray, List.map_cons, List.map_nil]); first | done | rfl | (simp only [List.length_drop, List.length_take]; rfl)) ?_; (with_reducible refine (laws_szKnotS.calls k _ _ l0 1048576 t287 _ ?side1 ?side2 A4.out).mono ?_); (case side1 => repeat (first | exact HR0.out | (with_reducible refine Kd.C_alloc ?_ _) | (with_reducible refine Kd.C_drewN ?_ _) | (with_reducible refine Kd.C_drew ?_))); (case side2 => exact HC0.out); rintro e w12 ⟨rfl, hb⟩; refine ⟨_, rfl, ?_⟩; have n0_ := Aside0.mk (below_step sq_b hb); clear HB; have HB := n0_; clear n0_; (try clear hb); (try clear hb2); (try clear hk); (try clear hi)) | ((with_reducible refine gate_callee (f := 22) rfl ?_); refine goesL_ (some 23) rfl rfl Try.func22 (by kernel_rfl) rfl #[.slice A0 l0.length c0] rfl (by (try simp only [List.map_toArray, List.map_cons, List.map_nil]); first | done | rfl | (simp only [List.length_drop, List.length_take]; rfl)) ?_; (with_reducible refine (laws_toKnotS.calls k _ _ l0 t288 _ ?side1 ?side2 A7.out).mono ?_); (case side1 => repeat (first | exact (Kd.C_below HR0.out HB.out) | (with_reducible refine Kd.C_alloc ?_ _) | (with_reducible refine Kd.C_drewN ?_ _) | (with_reducible refine Kd.C_drew ?_))); (case side2 => exact HC0.out); rintro e w13 ⟨v289, rfl, ho0, hb⟩; refine ⟨_, rfl, ?_⟩; have n0_ := Aside0.mk (Kd.S_lower ho0 (below_size sq_b)); have n1_ := Aside0.mk (below_step sq_b hb); clear HB; have HO290 := n0_; have HB := n1_; clear n0_ n1_; (try clear hb); (try clear hb2); (try clear hk); (try clear hi); (try clear ho0); obtain ⟨Ao14, co14, eo14⟩ := Kd.S_slice HO290.out; subst eo14) | ((with_reducible refine gate_callee (f := 29) rfl ?_); refine goesL_ (some 25) rfl rfl Try.func29 (by kernel_rfl) rfl #[.slice Ao14 t288.length co14, .string a1] rfl (by (try simp only [List.map_toArray, List.map_cons, List.map_nil]); first | done | rfl | (simp only [List.length_drop, List.length_take]; rfl)) ?_; (with_reducible refine (spec_NearestOf.calls k _ _ t288 a1 t291 t292 t293 _ ?side1 ?side2 A8.out).mono ?_); (case side1 => repeat (first | exact (Kd.S_reads' HO290.out).2.2 | (with_reducible refine Kd.C_alloc ?_ _) | (with_reducible refine Kd.C_drewN ?_ _) | (with_reducible refine Kd.C_drew ?_))); (case side2 => exact (Kd.S_reads' HO290.out).2.1); rintro e w15 ⟨rfl, hb⟩; refine ⟨_, rfl, ?_⟩; have n0_ := Aside0.mk (Kd.S_below (by (with_reducible repeat (first | apply Kd.S_alloc | apply Kd.S_drewN | apply Kd.S_drew)); exact HO290.out) hb); have n1_ := Aside0.mk (below_step sq_b hb); clear HO290; clear HB; have HO290 := n0_; have HB := n1_; clear n0_ n1_; (try clear hb); (try clear hb2); (try clear hk); (try clear hi)) | ((with_reducible refine gate_callee (f := 22) rfl ?_); refine goesL_ (some 30) rfl rfl Try.func22 (by kernel_rfl) rfl #[.slice A0 l0.length c0] rfl (by (try simp only [List.map_toArray, List.map_cons, List.map_nil]); first | done | rfl | (simp only [List.length_drop, List.length_take]; rfl)) ?_; (with_reducible refine (laws_toKnotS.calls k _ _ l0 t294 _ ?side1 ?side2 A9.out).mono ?_); (case side1 => repeat (first | exact (Kd.C_below HR0.out HB.out) | (with_reducible refine Kd.C_alloc ?_ _) | (with_reducible refine Kd.C_drewN ?_ _) | (with_reducible refine Kd.C_drew ?_))); (case side2 => exact HC0.out); rintro e w16 ⟨v295, rfl, ho0, hb⟩; refine ⟨_, rfl, ?_⟩; have n0_ := Aside0.mk (Kd.S_elder' (by (with_reducible repeat (first | apply Kd.S_alloc | apply Kd.S_drewN | apply Kd.S_drew)); exact HO290.out) (Kd.S_base ho0) hb); have n1_ := Aside0.mk (Kd.S_lower (Kd.S_new' ho0 (Kd.S_lt (by (with_reducible repeat (first | apply Kd.S_alloc | apply Kd.S_drewN | apply Kd.S_drew)); exact HO290.out))) (below_size sq_b)); have n2_ := Aside0.mk (below_step sq_b hb); clear HO290; clear HB; have HO290 := n0_; have HO296 := n1_; have HB := n2_; clear n0_ n1_ n2_; (try clear hb); (try clear hb2); (try clear hk); (try clear hi); (try clear ho0); obtain ⟨Ao17, co17, eo17⟩ := Kd.S_slice HO296.out; subst eo17) | ((with_reducible refine gate_callee (f := 30) rfl ?_); refine goesL_ (some 34) rfl rfl Try.func30 (by kernel_rfl) rfl #[.slice Ao17 t294.length co17, .string a1] rfl (by (try simp only [List.map_toArray, List.map_cons, List.map_nil]); first | done | rfl | (simp only [List.length_drop, List.length_take]; rfl)) ?_; (with_reducible refine (impl_NearestOf.calls k _ _ t294 a1 t297 t298 t299 _ ?side1 ?side2 A10.out).mono ?_); (case side1 => repeat (first | exact (Kd.S_reads' HO296.out).2.2 | (with_reducible refine Kd.C_alloc ?_ _) | (with_reducible refine Kd.C_drewN ?_ _) | (with_reducible refine Kd.C_drew ?_))); (case side2 => exact (Kd.S_reads' HO296.out).2.1); rintro e w18 ⟨rfl, hb⟩; refine ⟨_, rfl, ?_⟩; have n0_ := Aside0.mk (Kd.S_below (by (with_reducible repeat (first | apply Kd.S_alloc | apply Kd.S_drewN | apply Kd.S_drew)); exact HO290.out) hb); have n1_ := Aside0.mk (Kd.S_below (by (with_reducible repeat (first | apply Kd.S_alloc | apply Kd.S_drewN | apply Kd.S_drew)); exact HO296.out) hb); have n2_ := Aside0.mk (below_step sq_b hb); clear HO290; clear HO296; clear HB; have HO290 := n0_; have HO296 := n1_; have HB := n2_; clear n0_ n1_ n2_; (try clear hb); (try clear hb2); (try clear hk); (try clear hi)))
   (try simp only [Act.put, List.setIfInBounds_toArray, List.set_cons_zero, List.set_cons_succ])
   go_cut [50] (fun v50 wc => ∃ (kq : Nat) (x50_10 : Bool), v50 = .bool x50_10 ∧ Aside0 (laws_FnExactNearestOf.j0 kq l0 t294 x50_10 = some r) ∧ Aside0 (kq ≤ k) ∧ Aside0 (Kd.S k62 62 wc w.heap.size (fun _ => True) (.slice Ao17 t294.length co17) t294) ∧ Aside0 (Below w.heap.size w wc))
   case first =>
    have H := HC11.out
    clear HC11
    by_cases c19 : t297.toList = t291.toList
    ·rw [if_pos c19] at H
     have c19b0 : (t297.toList == t291.toList) = true := beq_iff_eq.mpr c19
     have c19b1 : (t297.toList != t291.toList) = false := bne_eq_false_iff_eq.mpr c19
     clear c19
     (first | rw [c19b0] | (simp only [i64_w, i32_w]; rw [c19b0]) | skip)
     by_cases c20 : t298 = t292
     ·rw [if_pos c20] at H
      have c20b0 : (t298 == t292) = true := beq_iff_eq.mpr c20
      have c20b1 : (t298 != t292) = false := bne_eq_false_iff_eq.mpr c20
      clear c20
      have H' := Aside0.mk H
      clear H
      go_wp2
      go_meet
      case rel => exact ⟨_, ((t299 != t293)), sq_e, H', ⟨by first | omega | exact Nat.le_refl _⟩, ⟨by (with_reducible repeat (first | apply Kd.S_alloc | apply Kd.S_drewN | apply Kd.S_drew)); exact Kd.S_mono HO296.out (fun _ hk => trivial)⟩, ⟨sq_b⟩⟩
     ·rw [if_neg c20] at H
      have c20b0 : (t298 == t292) = false := beq_eq_false_iff_ne.mpr c20
      have c20b1 : (t298 != t292) = true := bne_iff_ne.mpr c20
      have H' := Aside0.mk H
      clear H
      go_wp2
      go_meet
      case rel => exact ⟨_, (true), sq_e, H', ⟨by first | omega | exact Nat.le_refl _⟩, ⟨by (with_reducible repeat (first | apply Kd.S_alloc | apply Kd.S_drewN | apply Kd.S_drew)); exact Kd.S_mono HO296.out (fun _ hk => trivial)⟩, ⟨sq_b⟩⟩
    ·rw [if_neg c19] at H
     have c19b0 : (t297.toList == t291.toList) = false := beq_eq_false_iff_ne.mpr c19
     have c19b1 : (t297.toList != t291.toList) = true := bne_iff_ne.mpr c19
     (first | rw [c19b0] | (simp only [i64_w, i32_w]; rw [c19b0]) | skip)
     have H' := Aside0.mk H
     clear H
     go_wp2
     go_meet
     case rel => exact ⟨_, (true), sq_e, H', ⟨by first | omega | exact Nat.le_refl _⟩, ⟨by (with_reducible repeat (first | apply Kd.S_alloc | apply Kd.S_drewN | apply Kd.S_drew)); exact Kd.S_mono HO296.out (fun _ hk => trivial)⟩, ⟨sq_b⟩⟩
   case rest =>
    clear HC11
    (try clear c1); (try clear c2); (try clear p2); (try clear c3); (try clear c3b0); (try clear c3b1); (try clear c5); (try clear c5b0); (try clear c7); (try clear c19); (try clear c19b0); (try clear c19b1); (try clear c20); (try clear c20b0); (try clear c20b1)
    obtain ⟨kq, x50_10, rfl, HA, HJ10, HO_9, HB⟩ := hcut
    cases kq with
    | zero => exact absurd HA.out (by simp [laws_FnExactNearestOf.j0])
    | succ kj10 =>
     have H := HA.out
     clear HA
     simp only [laws_FnExactNearestOf.j0] at H
     by_cases c21 : x50_10 = true
     ·subst c21
      have H1 : (some false) = some r := by rw [if_pos rfl] at H; exact H
      clear H
      have H := H1
      clear H1
      obtain rfl := Option.some.inj H
      go_wp2
      go_ret
      exact ⟨sq_w, sq_b⟩
     ·replace c21 := Bool.eq_false_iff.mpr c21
      subst c21
      have H1 : ((laws_toKnotS.f kj10 l0).bind fun t300 => ((laws_eqKnotS.f kj10 t294 t300).bind fun t303 => (if t303 = true then (some true) else (some false)))) = some r := by rw [if_neg (show ¬ (false = true) by decide)] at H; exact H
      clear H
      have H := H1
      clear H1
      replace H := Option.bind_eq_some_iff.mp H
      obtain ⟨t300, A220, H⟩ := H
      replace H : ((laws_eqKnotS.f kj10 t294 t300).bind fun t303 => (if t303 = true then (some true) else (some false))) = some r := H
      have A22 := Aside0.mk A220
      clear A220
      replace H := Option.bind_eq_some_iff.mp H
      obtain ⟨t303, A230, H⟩ := H
      replace H : (if t303 = true then (some true) else (some false)) = some r := H
      have A23 := Aside0.mk A230
      clear A230
      by_cases c24 : t303 = true
      ·subst c24
       have H1 : (some true) = some r := by rw [if_pos rfl] at H; exact H
       clear H
       have H := H1
       clear H1
       obtain rfl := Option.some.inj H
       go_wp2_with (first | ((with_reducible refine gate_callee (f := 22) rfl ?_); refine goesL_ (some 53) rfl rfl Try.func22 (by kernel_rfl) rfl #[.slice A0 l0.length c0] rfl (by (try simp only [List.map_toArray, List.map_cons, List.map_nil]); first | done | rfl | (simp only [List.length_drop, List.length_take]; rfl)) ?_; (with_reducible refine (laws_toKnotS.calls kj10 _ _ l0 t300 _ ?side1 ?side2 A22.out).mono ?_); (case side1 => repeat (first | exact (Kd.C_below HR0.out HB.out) | (with_reducible refine Kd.C_alloc ?_ _) | (with_reducible refine Kd.C_drewN ?_ _) | (with_reducible refine Kd.C_drew ?_))); (case side2 => exact HC0.out); rintro e w25 ⟨v301, rfl, ho0, hb⟩; refine ⟨_, rfl, ?_⟩; have n0_ := Aside0.mk (Kd.S_elder' (by (with_reducible repeat (first | apply Kd.S_alloc | apply Kd.S_drewN | apply Kd.S_drew)); exact HO_9.out) (Kd.S_base ho0) hb); have n1_ := Aside0.mk (Kd.S_lower (Kd.S_new' ho0 (Kd.S_lt (by (with_reducible repeat (first | apply Kd.S_alloc | apply Kd.S_drewN | apply Kd.S_drew)); exact HO_9.out))) (below_size sq_b)); have n2_ := Aside0.mk (below_step sq_b hb); clear HO_9; clear HB; have HO_9 := n0_; have HO302 := n1_; have HB := n2_; clear n0_ n1_ n2_; (try clear hb); (try clear hb2); (try clear hk); (try clear hi); (try clear ho0); obtain ⟨Ao26, co26, eo26⟩ := Kd.S_slice HO302.out; subst eo26) | ((with_reducible refine gate_callee (f := 15) rfl ?_); refine goesL_ (some 54) rfl rfl Try.func15 (by kernel_rfl) rfl #[.slice Ao17 t294.length co17, .slice Ao26 t300.length co26] rfl (by (try simp only [List.map_toArray, List.map_cons, List.map_nil]); first | done | rfl | (simp only [List.length_drop, List.length_take]; rfl)) ?_; (with_reducible refine (laws_eqKnotS.calls kj10 _ _ t294 _ _ t300 true _ ?side1 ?side2 ?side3 ?side4 A23.out).mono ?_); (case side1 => repeat (first | exact (Kd.S_reads' HO_9.out).2.2 | (with_reducible refine Kd.C_alloc ?_ _) | (with_reducible refine Kd.C_drewN ?_ _) | (with_reducible refine Kd.C_drew ?_))); (case side2 => exact (Kd.S_reads' HO_9.out).2.1); (case side3 => repeat (first | exact (Kd.S_reads' HO302.out).2.2 | (with_reducible refine Kd.C_alloc ?_ _) | (with_reducible refine Kd.C_drewN ?_ _) | (with_reducible refine Kd.C_drew ?_))); (case side4 => exact (Kd.S_reads' HO302.out).2.1); rintro e w27 ⟨rfl, hb⟩; refine ⟨_, rfl, ?_⟩; have n0_ := Aside0.mk (Kd.S_below (by (with_reducible repeat (first | apply Kd.S_alloc | apply Kd.S_drewN | apply Kd.S_drew)); exact HO_9.out) hb); have n1_ := Aside0.mk (Kd.S_below (by (with_reducible repeat (first | apply Kd.S_alloc | apply Kd.S_drewN | apply Kd.S_drew)); exact HO302.out) hb); have n2_ := Aside0.mk (below_step sq_b hb); clear HO_9; clear HO302; clear HB; have HO_9 := n0_; have HO302 := n1_; have HB := n2_; clear n0_ n1_ n2_; (try clear hb); (try clear hb2); (try clear hk); (try clear hi)))
       go_ret
       exact ⟨sq_w, sq_b⟩
      ·replace c24 := Bool.eq_false_iff.mpr c24
       subst c24
       have H1 : (some false) = some r := by rw [if_neg (show ¬ (false = true) by decide)] at H; exact H
       clear H
       have H := H1
       clear H1
       obtain rfl := Option.some.inj H
       go_wp2_with (first | ((with_reducible refine gate_callee (f := 22) rfl ?_); refine goesL_ (some 53) rfl rfl Try.func22 (by kernel_rfl) rfl #[.slice A0 l0.length c0] rfl (by (try simp only [List.map_toArray, List.map_cons, List.map_nil]); first | done | rfl | (simp only [List.length_drop, List.length_take]; rfl)) ?_; (with_reducible refine (laws_toKnotS.calls kj10 _ _ l0 t300 _ ?side1 ?side2 A22.out).mono ?_); (case side1 => repeat (first | exact (Kd.C_below HR0.out HB.out) | (with_reducible refine Kd.C_alloc ?_ _) | (with_reducible refine Kd.C_drewN ?_ _) | (with_reducible refine Kd.C_drew ?_))); (case side2 => exact HC0.out); rintro e w28 ⟨v301, rfl, ho0, hb⟩; refine ⟨_, rfl, ?_⟩; have n0_ := Aside0.mk (Kd.S_elder' (by (with_reducible repeat (first | apply Kd.S_alloc | apply Kd.S_drewN | apply Kd.S_drew)); exact HO_9.out) (Kd.S_base ho0) hb); have n1_ := Aside0.mk (Kd.S_lower (Kd.S_new' ho0 (Kd.S_lt (by (with_reducible repeat (first | apply Kd.S_alloc | apply Kd.S_drewN | apply Kd.S_drew)); exact HO_9.out))) (below_size sq_b)); have n2_ := Aside0.mk (below_step sq_b hb); clear HO_9; clear HB; have HO_9 := n0_; have HO302 := n1_; have HB := n2_; clear n0_ n1_ n2_; (try clear hb); (try clear hb2); (try clear hk); (try clear hi); (try clear ho0); obtain ⟨Ao29, co29, eo29⟩ := Kd.S_slice HO302.out; subst eo29) | ((with_reducible refine gate_callee (f := 15) rfl ?_); refine goesL_ (some 54) rfl rfl Try.func15 (by kernel_rfl) rfl #[.slice Ao17 t294.length co17, .slice Ao29 t300.length co29] rfl (by (try simp only [List.map_toArray, List.map_cons, List.map_nil]); first | done | rfl | (simp only [List.length_drop, List.length_take]; rfl)) ?_; (with_reducible refine (laws_eqKnotS.calls kj10 _ _ t294 _ _ t300 false _ ?side1 ?side2 ?side3 ?side4 A23.out).mono ?_); (case side1 => repeat (first | exact (Kd.S_reads' HO_9.out).2.2 | (with_reducible refine Kd.C_alloc ?_ _) | (with_reducible refine Kd.C_drewN ?_ _) | (with_reducible refine Kd.C_drew ?_))); (case side2 => exact (Kd.S_reads' HO_9.out).2.1); (case side3 => repeat (first | exact (Kd.S_reads' HO302.out).2.2 | (with_reducible refine Kd.C_alloc ?_ _) | (with_reducible refine Kd.C_drewN ?_ _) | (with_reducible refine Kd.C_drew ?_))); (case side4 => exact (Kd.S_reads' HO302.out).2.1); rintro e w30 ⟨rfl, hb⟩; refine ⟨_, rfl, ?_⟩; have n0_ := Aside0.mk (Kd.S_below (by (with_reducible repeat (first | apply Kd.S_alloc | apply Kd.S_drewN | apply Kd.S_drew)); exact HO_9.out) hb); have n1_ := Aside0.mk (Kd.S_below (by (with_reducible repeat (first | apply Kd.S_alloc | apply Kd.S_drewN | apply Kd.S_drew)); exact HO302.out) hb); have n2_ := Aside0.mk (below_step sq_b hb); clear HO_9; clear HO302; clear HB; have HO_9 := n0_; have HO302 := n1_; have HB := n2_; clear n0_ n1_ n2_; (try clear hb); (try clear hb2); (try clear hk); (try clear hi)))
       go_ret
       exact ⟨sq_w, sq_b⟩

end Go.Proofs.Ytlohhmoaomlieaa.QFnExactNearestOf
