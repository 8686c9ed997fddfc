-- Written by this session's own program (wip/pp_patch.py, wip/pp.sh) out of the given translation. Not trusted: Lean checks it.
import Derived.Test.YtkoackkimdanjaaQFnExactSuggestx0
import Derived.Test.YtkoackkimdanjaaQFnExactSuggestx4
import Derived.Test.YtkoackkimdanjaaQFnExactSuggestx5
import Derived.Test.YtkoackkimdanjaaQFnExactSuggestx6
namespace Go.Proofs.Ytkoackkimdanjaa.QFnExactSuggest
open Go.RowKit Go.Proofs.YtkoackkimdanjaaW.PrintWords Go.Proofs.YtkoackkimdanjaaW.PrintLast Go.Proofs.YtkoackkimdanjaaW.PrintMore
attribute [local go_sem] max2_int min2_int max_two min_two max_three min_three max_four min_four   -- for this text's walks alone
open Go.Proofs.Ytkoackkimdanjaa.Ext
attribute [local go_sem high] ext_gtr ext_leq
set_option linter.unusedVariables false
set_option linter.unusedSimpArgs false

/-! ### spec_l13Same: function 91 (by hand) -/
def spec_l13Same.l0 : Nat → List (S59) → List (S59) → Int → Int → Option (Bool)
 | 0, _, _, _, _ => none
 | k + 1, x1, x12, x13, x14 => if x14 < x13 then (if 0 ≤ x14 then (if x14 < (x12.length : Int) then (if x14 < (x1.length : Int) then (if ((rd_T59 x12 x14).f0) = ((rd_T59 x1 x14).f0) then (if ((rd_T59 x12 x14).f1) = ((rd_T59 x1 x14).f1) then (if ((rd_T59 x12 x14).f2) = ((rd_T59 x1 x14).f2) then ((spec_l1Same.f k ((rd_T59 x12 x14).f3) ((rd_T59 x1 x14).f3)).bind fun t171 => (if t171 = true then (spec_l13Same.l0 k x1 x12 x13 (wrap64 (x14 + 1))) else (some false))) else (some false)) else (some false)) else (some false)) else (none)) else (none)) else (none)) else (some true)
def spec_l13Same.f (k : Nat) (l0 : List (S59)) (l1 : List (S59)) : Option (Bool) := if (l0.length : Int) = (l1.length : Int) then (spec_l13Same.l0 k l1 l0 (l0.length : Int) 0) else (some false)
theorem spec_l13Same.mono_l : ∀ k, (∀ y0 y1 y2 y3, LeO (spec_l13Same.l0 k y0 y1 y2 y3) (spec_l13Same.l0 (k + 1) y0 y1 y2 y3))
 | 0 => fun _ _ _ _ r h => by simp [spec_l13Same.l0] at h
 | k + 1 => by
  have ih0 := spec_l13Same.mono_l k
  ·intro y0 y1 y2 y3
   unfold spec_l13Same.l0
   repeat' first
   | (with_reducible exact ih0 _ _ _ _)
   | (with_reducible exact spec_l1Same.mono _ _ _)
   | (with_reducible exact LeO.refl _)
   | (with_reducible exact LeO.none _)
   | (with_reducible refine LeO.ite ?_ ?_)
   | (with_reducible refine LeO.bind ?_ (fun _ => ?_))
   | exact ih0 _ _ _ _
   | exact spec_l1Same.mono _ _ _
   | exact LeO.none _
   | refine LeO.ite ?_ ?_
   | refine LeO.bind ?_ (fun _ => ?_)
theorem spec_l13Same.mono : ∀ a0 a1 k, LeO (spec_l13Same.f k a0 a1) (spec_l13Same.f (k + 1) a0 a1) := by
 intro a0 a1 k
 have ih0 := spec_l13Same.mono_l k
 unfold spec_l13Same.f
 repeat' first
   | (with_reducible exact ih0 _ _ _ _)
   | (with_reducible exact spec_l1Same.mono _ _ _)
   | (with_reducible exact LeO.refl _)
   | (with_reducible exact LeO.none _)
   | (with_reducible refine LeO.ite ?_ ?_)
   | (with_reducible refine LeO.bind ?_ (fun _ => ?_))
   | exact ih0 _ _ _ _
   | exact spec_l1Same.mono _ _ _
   | exact LeO.none _
   | refine LeO.ite ?_ ?_
   | refine LeO.bind ?_ (fun _ => ?_)
set_option maxHeartbeats 8000000 in
set_option maxRecDepth 100000 in
theorem spec_l13Same.calls (k : Nat) (A0 : Option Addr) (c0 : Nat) (l0 : List (S59)) (A1 : Option Addr) (c1 : Nat) (l1 : List (S59)) (r : Bool) (w : World) (hr0 : Kd.C k59 w A0 l0.length l0) (hc0 : l0.length ≤ c0) (hr1 : Kd.C k59 w A1 l1.length l1) (hc1 : l1.length ≤ c1) (h : spec_l13Same.f k l0 l1 = some r) :
    Calls Try.prog 91 #[.slice A0 l0.length c0, .slice A1 l1.length c1] w fun e w' => e = .returned (.bool r) ∧ Below w.heap.size w w' := by
  have HR0 := Aside0.mk hr0
  have HR1 := Aside0.mk hr1
  have HMX := Aside0.mk (Kd.C_max hr0)
  clear hr0 hr1 hc0 hc1
  unfold spec_l13Same.f at h
  by_cases hl : (l0.length : Int) = (l1.length : Int)
  rotate_left
  · rw [if_neg hl] at h
    injection h with h
    have HH := Aside0.mk h
    have d1 : ((l0.length : Int) == (l1.length : Int)) = false := beq_eq_false_iff_ne.mpr hl
    have d2 : ((l0.length : Int) != (l1.length : Int)) = true := by rw [bne, d1]; rfl
    have d3 : (l0.length == l1.length) = false := beq_eq_false_iff_ne.mpr (by omega)
    have d4 := eq_false hl
    have d5 := eq_false (show ¬ l0.length = l1.length by omega)
    clear hl h
    go_enter Try.func91, Try.ntmps91
    go_wp2
    go_ret
    rw [← HH.out]
    exact ⟨rfl, Below.refl _ _⟩
  rw [if_pos hl] at h
  have HA0 := Aside0.mk h
  have HL := Aside0.mk (show l0.length = l1.length by omega)
  have d1 : ((l0.length : Int) == (l1.length : Int)) = true := beq_iff_eq.mpr hl
  have d2 : ((l0.length : Int) != (l1.length : Int)) = false := by rw [bne, d1]; rfl
  have d3 : (l0.length == l1.length) = true := beq_iff_eq.mpr (by omega)
  clear hl h
  go_enter Try.func91, Try.ntmps91
  go_wp2_with fail
  clear d1 d2 d3
  go_loopg [14] l0.length (fun kq v14 w' => ∃ (i q : Nat) (x : Int), v14 = .int .i64 x ∧ Aside0 (x = i) ∧ Aside0 (i + kq = l0.length) ∧ Aside0 (spec_l13Same.l0 q l1 l0 (l0.length : Int) x = some r) ∧ Aside0 (q ≤ k) ∧ Aside0 (Below w.heap.size w w'))
  case atStart => exact ⟨0, k, 0, rfl, ⟨rfl⟩, ⟨by simp⟩, HA0, ⟨Nat.le_refl _⟩, ⟨Below.refl _ _⟩⟩
  case round => as_aux_lemma =>
    clear HA0
    obtain ⟨i, q, x, rfl, HX, HI, HA, HQ, HB⟩ := hrel
    cases q with
    | zero => have h := HA.out; simp only [spec_l13Same.l0] at h; cases h
    | succ q =>
      have h := HA.out
      unfold spec_l13Same.l0 at h
      cases gk with
      | zero =>
        have hge : ¬ x < (l0.length : Int) := by have := HX.out; have := HI.out; omega
        rw [if_neg hge] at h
        injection h with h
        have HH := Aside0.mk h
        have c1 : decide (x < (l0.length : Int)) = false := decide_eq_false hge
        clear h hge
        go_wp2
        go_ret
        rw [← HH.out]
        exact ⟨rfl, HB.out⟩
      | succ k1 =>
        have p1 : x < (l0.length : Int) := by have := HX.out; have := HI.out; omega
        have p0 : 0 ≤ x := by have := HX.out; omega
        have p2 : x < (l1.length : Int) := by have := HL.out; omega
        rw [if_pos p1, if_pos p0, if_pos p1, if_pos p2] at h
        have c1 : decide (x < (l0.length : Int)) = true := decide_eq_true p1
        obtain ⟨ad0, B0, b0, rfl, hx0, hx1, hx2, hx3, hcx, hCx⟩ := at_T59 (Kd.C_below HR0.out HB.out) x p0 p1
        obtain ⟨ad1, B1, b1, rfl, hy0, hy1, hy2, hy3, hcy, hCy⟩ := at_T59 (Kd.C_below HR1.out HB.out) x p0 p2
        have HCX := Aside0.mk (And.intro hcx hCx)
        have HCY := Aside0.mk (And.intro hcy hCy)
        obtain ⟨y, hy⟩ : ∃ y, y = rd_T59 l0 x := ⟨_, rfl⟩
        obtain ⟨z, hz⟩ : ∃ z, z = rd_T59 l1 x := ⟨_, rfl⟩
        rw [← hy] at hx0 hx1 hx2 hx3 HCX h
        rw [← hz] at hy0 hy1 hy2 hy3 HCY h
        have HWX := Aside0.mk (show wrap64 (x + 1) = x + 1 from by unfold wrap64; have := HMX.out; omega)
        have e0 := eq_true p0
        have e1 := eq_true p1
        have e2 := eq_true p2
        have da0 : decide (0 ≤ x) = true := decide_eq_true p0
        have da2 : decide (x < (l1.length : Int)) = true := decide_eq_true p2
        have HH := Aside0.mk h
        clear hcx hCx hcy hCy hy hz h
        go_upto_region 6 with (first | ((with_reducible refine gate_dst (N := 6) rfl ?_); refine box_event ?hg (N := 6) ?hd (cs := #[.int .i64 0, .int .i64 0, .int .i64 0, .slice none 0 0]) (t := 59) ?hr ?_; (case hd => rfl); (case hg => rfl); (case hr => first | (go_simp; done) | (go_simp; rfl)); intro g6 hg6 w5 hbox hb5; have G6 := Aside0.mk (show wr.heap.size ≤ g6 from by rw [hg6]; exact Nat.le_refl _); have B5 := Aside0.mk (show Below wr.heap.size wr w5 from hb5); have BK5 := Aside0.mk hbox; have kb0 := (blk_cell BK5.out 0).trans rfl; have kb1 := (blk_cell BK5.out 1).trans rfl; have kb2 := (blk_cell BK5.out 2).trans rfl; have kb3 := (blk_cell BK5.out 3).trans rfl; have kf0 := blk_frozen BK5.out 0; have kf1 := blk_frozen BK5.out 1; have kf2 := blk_frozen BK5.out 2; have kf3 := blk_frozen BK5.out 3; clear hg6 hbox hb5))
        obtain ⟨wC, hwC⟩ : ∃ wC, wC = ((((w5.setCell ⟨g6, 0, none⟩ (.int .i64 y.f0)).setCell ⟨g6, 1, none⟩ (.int .i64 y.f1)).setCell ⟨g6, 2, none⟩ (.int .i64 y.f2)).setCell ⟨g6, 3, none⟩ (.slice B0 y.f3.length b0)) := ⟨_, rfl⟩
        have hBC : Below wr.heap.size wr wC := by rw [hwC]; exact below_set (below_set (below_set (below_set B5.out G6.out) G6.out) G6.out) G6.out
        have hK6 : wC.heap[g6]? = some (.cells #[.int .i64 y.f0, .int .i64 y.f1, .int .i64 y.f2, .slice B0 y.f3.length b0] 59 (0, 0)) := by rw [hwC]; exact blk_put (cs := #[.int .i64 y.f0, .int .i64 y.f1, .int .i64 y.f2, .slice none 0 0]) (blk_put (cs := #[.int .i64 y.f0, .int .i64 y.f1, .int .i64 0, .slice none 0 0]) (blk_put (cs := #[.int .i64 y.f0, .int .i64 0, .int .i64 0, .slice none 0 0]) (blk_put (cs := #[.int .i64 0, .int .i64 0, .int .i64 0, .slice none 0 0]) BK5.out 0 _ rfl) 1 _ rfl) 2 _ rfl) 3 _ rfl
        rw [← hwC]
        replace hx0 := (blk_cell hK6 0).trans rfl
        replace hx1 := (blk_cell hK6 1).trans rfl
        replace hx2 := (blk_cell hK6 2).trans rfl
        replace hx3 := (blk_cell hK6 3).trans rfl
        replace hy0 := (hBC.cell (World.block_lt_of_cell? _ _ hy0)).trans hy0
        replace hy1 := (hBC.cell (World.block_lt_of_cell? _ _ hy1)).trans hy1
        replace hy2 := (hBC.cell (World.block_lt_of_cell? _ _ hy2)).trans hy2
        replace hy3 := (hBC.cell (World.block_lt_of_cell? _ _ hy3)).trans hy3
        replace HB := Aside0.mk (below_step HB.out hBC)
        replace HCX := Aside0.mk (And.intro HCX.out.1 (Kd.C_below HCX.out.2 hBC))
        replace HCY := Aside0.mk (And.intro HCY.out.1 (Kd.C_below HCY.out.2 hBC))
        clear hwC hBC hK6 kb0 kb1 kb2 kb3 kf0 kf1 kf2 kf3 BK5 B5
        by_cases hc0 : y.f0 = z.f0
        rotate_left
        · have h := HH.out
          rw [if_neg hc0] at h
          injection h with h
          have HF := Aside0.mk h
          have n0 : (y.f0 == z.f0) = false := beq_eq_false_iff_ne.mpr hc0
          have m0 : (y.f0 != z.f0) = true := by rw [bne, n0]; rfl
          have o0 := eq_false hc0
          have u0 : decide (y.f0 = z.f0) = false := decide_eq_false hc0
          clear h HH hc0
          go_quiet (fail)
          go_wp2
          go_ret
          rw [← HF.out]
          exact ⟨rfl, pw_below_drewN HB.out _⟩
        by_cases hc1 : y.f1 = z.f1
        rotate_left
        · have h := HH.out
          rw [if_pos hc0, if_neg hc1] at h
          injection h with h
          have HF := Aside0.mk h
          have n1 : (y.f1 == z.f1) = false := beq_eq_false_iff_ne.mpr hc1
          have m1 : (y.f1 != z.f1) = true := by rw [bne, n1]; rfl
          have o1 := eq_false hc1
          have u1 : decide (y.f1 = z.f1) = false := decide_eq_false hc1
          have n0 : (y.f0 == z.f0) = true := beq_iff_eq.mpr hc0
          have m0 : (y.f0 != z.f0) = false := by rw [bne, n0]; rfl
          clear h HH hc0 hc1
          go_quiet (fail)
          go_wp2
          go_ret
          rw [← HF.out]
          exact ⟨rfl, pw_below_drewN HB.out _⟩
        by_cases hc2 : y.f2 = z.f2
        rotate_left
        · have h := HH.out
          rw [if_pos hc0, if_pos hc1, if_neg hc2] at h
          injection h with h
          have HF := Aside0.mk h
          have n2 : (y.f2 == z.f2) = false := beq_eq_false_iff_ne.mpr hc2
          have m2 : (y.f2 != z.f2) = true := by rw [bne, n2]; rfl
          have o2 := eq_false hc2
          have u2 : decide (y.f2 = z.f2) = false := decide_eq_false hc2
          have n0 : (y.f0 == z.f0) = true := beq_iff_eq.mpr hc0
          have m0 : (y.f0 != z.f0) = false := by rw [bne, n0]; rfl
          have n1 : (y.f1 == z.f1) = true := beq_iff_eq.mpr hc1
          have m1 : (y.f1 != z.f1) = false := by rw [bne, n1]; rfl
          clear h HH hc0 hc1 hc2
          go_quiet (fail)
          go_wp2
          go_ret
          rw [← HF.out]
          exact ⟨rfl, pw_below_drewN HB.out _⟩
        have h := HH.out
        rw [if_pos hc0, if_pos hc1, if_pos hc2] at h
        obtain ⟨b, hb, h⟩ := Option.bind_eq_some_iff.mp h
        have HBB := Aside0.mk hb
        have HF := Aside0.mk h
        have n0 : (y.f0 == z.f0) = true := beq_iff_eq.mpr hc0
        have m0 : (y.f0 != z.f0) = false := by rw [bne, n0]; rfl
        have n1 : (y.f1 == z.f1) = true := beq_iff_eq.mpr hc1
        have m1 : (y.f1 != z.f1) = false := by rw [bne, n1]; rfl
        have n2 : (y.f2 == z.f2) = true := beq_iff_eq.mpr hc2
        have m2 : (y.f2 != z.f2) = false := by rw [bne, n2]; rfl
        clear h hb HH hc0 hc1 hc2
        go_quiet (first | (go_at_call 111; refine Calls.quiet_of ((spec_l1Same.calls q B0 b0 y.f3 B1 b1 z.f3 b _ (Kd.C_below HCX.out.2 (pw_below_drewN (Below.refl _ _) _)) HCX.out.1 (Kd.C_below HCY.out.2 (pw_below_drewN (Below.refl _ _) _)) HCY.out.1 HBB.out).mono (fun e w' hh => ⟨hh.1, hh.2.out⟩))))
        cases b with
        | true =>
          have h := HF.out
          rw [if_pos rfl] at h
          have HF2 := Aside0.mk h
          clear h
          go_wp2
          go_roundg k1
          case measure => omega
          case rel => exact ⟨i + 1, q, x + 1, by rw [HWX.out], ⟨by have := HX.out; omega⟩, ⟨by have := HI.out; omega⟩, ⟨by have h := HF2.out; rw [HWX.out] at h; exact h⟩, ⟨by have := HQ.out; omega⟩, ⟨pw_below_drewN HB.out _⟩⟩
        | false =>
          have h := HF.out
          rw [if_neg (by simp)] at h
          injection h with h
          have HF2 := Aside0.mk h
          clear h
          go_wp2
          go_ret
          rw [← HF2.out]
          exact ⟨rfl, pw_below_drewN HB.out _⟩

/-! ### spec_l13Of: function 52 -/
def spec_l13Of.l0 : Nat → List (S59) → List (S59) → Int → Int → Option ((List (S48)) × Bool)
  | 0, _, _, _, _ => none
  | k + 1, x0, x11, x12, x13 => if x13 < x12 then (if 0 ≤ x13 then (if x13 < (x11.length : Int) then ((spec_l1Rising.f k ((rd_T59 x11 x13).f3) (wrap64 (x13 + 1)) (wrap64 ((x0.length : Int) - 1))).bind fun t182 => (if t182 = true then (spec_l13Of.l0 k x0 x11 x12 (wrap64 (x13 + 1))) else (some (([] : List (S48)), false)))) else (none)) else (none)) else ((spec_l13Many.f k x0).bind fun t183 => (if t183 = (wrap64 ((x0.length : Int) - 1)) then ((spec_l13Entries.f k x0 0 (⟨#[]⟩ : ByteArray) ([] : List (S48))).bind fun t184 => ((spec_GoodEntries.f k t184).bind fun t187 => (if t187 = true then ((spec_l13Build.f t184 0 ([] : List (S59))).bind fun t188 => ((spec_l13Same.f k x0 t188).bind fun t191 => (some (t184, t191)))) else (some (t184, false))))) else (some (([] : List (S48)), false))))
def spec_l13Of.f (k : Nat) (l0 : List (S59)) : Option ((List (S48)) × Bool) := (spec_l1In.f (l0.length : Int) 1 120).bind fun t179 => (if t179 = true then (spec_l13Of.l0 k l0 l0 (l0.length : Int) 0) else (some (([] : List (S48)), false)))
theorem spec_l13Of.mono_l : ∀ k, (∀ y0 y1 y2 y3, LeO (spec_l13Of.l0 k y0 y1 y2 y3) (spec_l13Of.l0 (k + 1) y0 y1 y2 y3))
  | 0 => fun _ _ _ _ r h => by simp [spec_l13Of.l0] at h
  | k + 1 => by
    have ih0 := spec_l13Of.mono_l k
    · intro y0 y1 y2 y3
      unfold spec_l13Of.l0
      repeat' first
      | (with_reducible exact ih0 _ _ _ _)
      | (with_reducible exact spec_GoodEntries.mono _ _)
      | (with_reducible exact spec_l13Entries.mono _ _ _ _ _)
      | (with_reducible exact spec_l13Many.mono _ _)
      | (with_reducible exact spec_l13Same.mono _ _ _)
      | (with_reducible exact spec_l1Rising.mono _ _ _ _)
      | (with_reducible exact LeO.refl _)
      | (with_reducible exact LeO.none _)
      | (with_reducible refine LeO.ite ?_ ?_)
      | (with_reducible refine LeO.bind ?_ (fun _ => ?_))
      | exact ih0 _ _ _ _
      | exact spec_GoodEntries.mono _ _
      | exact spec_l13Entries.mono _ _ _ _ _
      | exact spec_l13Many.mono _ _
      | exact spec_l13Same.mono _ _ _
      | exact spec_l1Rising.mono _ _ _ _
      | exact LeO.none _
      | refine LeO.ite ?_ ?_
      | refine LeO.bind ?_ (fun _ => ?_)
theorem spec_l13Of.mono : ∀ a0 k, LeO (spec_l13Of.f k a0) (spec_l13Of.f (k + 1) a0) := by
  intro a0 k
  have ih0 := spec_l13Of.mono_l k
  unfold spec_l13Of.f
  repeat' first
      | (with_reducible exact ih0 _ _ _ _)
      | (with_reducible exact spec_GoodEntries.mono _ _)
      | (with_reducible exact spec_l13Entries.mono _ _ _ _ _)
      | (with_reducible exact spec_l13Many.mono _ _)
      | (with_reducible exact spec_l13Same.mono _ _ _)
      | (with_reducible exact spec_l1Rising.mono _ _ _ _)
      | (with_reducible exact LeO.refl _)
      | (with_reducible exact LeO.none _)
      | (with_reducible refine LeO.ite ?_ ?_)
      | (with_reducible refine LeO.bind ?_ (fun _ => ?_))
      | exact ih0 _ _ _ _
      | exact spec_GoodEntries.mono _ _
      | exact spec_l13Entries.mono _ _ _ _ _
      | exact spec_l13Many.mono _ _
      | exact spec_l13Same.mono _ _ _
      | exact spec_l1Rising.mono _ _ _ _
      | exact LeO.none _
      | refine LeO.ite ?_ ?_
      | refine LeO.bind ?_ (fun _ => ?_)
set_option maxHeartbeats 8000000 in
set_option maxRecDepth 100000 in
theorem spec_l13Of.calls (k : Nat) (A0 : Option Addr) (c0 : Nat) (l0 : List (S59)) (r1 : List (S48)) (r2 : Bool) (w : World) (hr0 : Kd.C k59 w A0 l0.length l0) (hc0 : l0.length ≤ c0) (h : spec_l13Of.f k l0 = some (r1, r2)) :
    Calls Try.prog 52 #[.slice A0 l0.length c0] w fun e w' => ∃ v0_ : Value, e = .returned (.tuple #[v0_, .bool r2]) ∧ Kd.R k48 48 w' w.heap.size (fun _ => True) v0_ r1 ∧ Below w.heap.size w w' := by
  have hu59 := Try.underlying59
  have HR0 := Aside0.mk hr0
  have HC0 := Aside0.mk hc0
  clear hr0 hc0
  have HB := Aside0.mk (Below.refl w.heap.size w)
  have H : ((spec_l1In.f (l0.length : Int) 1 120).bind fun t179 => (if t179 = true then (spec_l13Of.l0 k l0 l0 (l0.length : Int) 0) else (some (([] : List (S48)), false)))) = some (r1, r2) := h
  clear h
  replace H := Option.bind_eq_some_iff.mp H
  obtain ⟨t179, A20, H⟩ := H
  replace H : (if t179 = true then (spec_l13Of.l0 k l0 l0 (l0.length : Int) 0) else (some (([] : List (S48)), false))) = some (r1, r2) := H
  have A2 := Aside0.mk A20
  clear A20
  by_cases c3 : t179 = true
  · subst c3
    have H1 : (spec_l13Of.l0 k l0 l0 (l0.length : Int) 0) = some (r1, r2) := by rw [if_pos rfl] at H; exact H
    clear H
    have H := H1
    clear H1
    have H' := Aside0.mk H
    clear H
    go_enter Try.func52, Try.ntmps52
    go_wp2_with (first | ((with_reducible refine gate_callee (f := 67) rfl ?_); refine goesL_ (some 9) rfl rfl Try.func67 (by kernel_rfl) rfl #[.int .i64 (l0.length : Int), .int .i64 1, .int .i64 120] rfl (by (try simp only [List.map_toArray, List.map_cons, List.map_nil]); first | done | rfl | (simp only [List.length_drop, List.length_take]; rfl)) ?_; (with_reducible refine (spec_l1In.calls (l0.length : Int) 1 120 true _ A2.out).mono ?_); rintro e w' ⟨rfl, ⟨nd, rfl⟩⟩; refine ⟨_, rfl, ?_⟩))
    (try simp only [Act.put, List.setIfInBounds_toArray, List.set_cons_zero, List.set_cons_succ])
    go_loopg [13] k (fun kq v13 w' => ∃ (x13_1 : Int), v13 = .int .i64 x13_1 ∧ Aside0 (spec_l13Of.l0 kq l0 l0 (l0.length : Int) x13_1 = some (r1, r2)) ∧ Aside0 (kq ≤ k) ∧ Aside0 (Below w.heap.size w w'))
    case atStart => exact ⟨(0), sq_e, H', ⟨Nat.le_refl _⟩, ⟨sq_b⟩⟩
    case round =>
      clear H'
      (try clear p2); (try clear c3)
      obtain ⟨x13_1, rfl, HA, HK1, HB⟩ := hrel
      cases gk with
      | zero => exact absurd HA.out (by simp [spec_l13Of.l0])
      | succ k1 =>
        have H := HA.out
        clear HA
        simp only [spec_l13Of.l0] at H
        by_cases c4 : x13_1 < (l0.length : Int)
        · rw [if_pos c4] at H
          have c4b0 : decide (x13_1 < (l0.length : Int)) = true := decide_eq_true c4
          clear c4
          by_cases c5 : 0 ≤ x13_1
          rotate_left
          · rw [if_neg c5] at H
            exact absurd H (by simp)
          rw [if_pos c5] at H
          have c5b0 : decide (0 ≤ x13_1) = true := decide_eq_true c5
          clear c5
          by_cases c6 : x13_1 < (l0.length : Int)
          rotate_left
          · rw [if_neg c6] at H
            exact absurd H (by simp)
          rw [if_pos c6] at H
          have c6b0 : decide (x13_1 < (l0.length : Int)) = true := decide_eq_true c6
          clear c6
          replace H := Option.bind_eq_some_iff.mp H
          obtain ⟨t182, A70, H⟩ := H
          replace H : (if t182 = true then (spec_l13Of.l0 k1 l0 l0 (l0.length : Int) (wrap64 (x13_1 + 1))) else (some (([] : List (S48)), false))) = some (r1, r2) := H
          have A7 := Aside0.mk A70
          clear A70
          by_cases c8 : t182 = true
          · subst c8
            have H1 : (spec_l13Of.l0 k1 l0 l0 (l0.length : Int) (wrap64 (x13_1 + 1))) = some (r1, r2) := by rw [if_pos rfl] at H; exact H
            clear H
            have H := H1
            clear H1
            have H' := Aside0.mk H
            clear H
            have p180 : 0 ≤ (x13_1 : Int) := sq_d
            have q180 : x13_1 < (l0.length : Int) := sq_d
            obtain ⟨ad180, A180_3, c180_3, e180, hx180_0, hx180_1, hx180_2, hx180_3, hl180_3, hi180_3⟩ := at_T59 HR0.out x13_1 p180 q180
            cases e180
            try replace hx180_0 := (HB.out.cell (World.block_lt_of_cell? w _ hx180_0)).trans hx180_0
            try replace hx180_1 := (HB.out.cell (World.block_lt_of_cell? w _ hx180_1)).trans hx180_1
            try replace hx180_2 := (HB.out.cell (World.block_lt_of_cell? w _ hx180_2)).trans hx180_2
            try replace hx180_3 := (HB.out.cell (World.block_lt_of_cell? w _ hx180_3)).trans hx180_3
            have HR180_3 := Aside0.mk hi180_3
            have HC180_3 := Aside0.mk hl180_3
            clear hi180_3 hl180_3
            replace p180 := eq_true p180
            replace q180 := eq_true q180
            go_wp2_with (first | ((with_reducible refine gate_dst (N := 5) rfl ?_); refine box_event ?hg (N := 5) ?hd (cs := #[.int .i64 0, .int .i64 0, .int .i64 0, .slice none 0 0]) (t := 59) ?hr ?_; (case hd => rfl); (case hg => rfl); (case hr => first | (go_simp; done) | (go_simp; rfl)); intro gb181 hg w9 hbox hb; have n0_ := Aside0.mk (below_step sq_b hb); have n1_ := Aside0.mk (hbox); have n2_ := Aside0.mk ((by rw [hg]; exact (below_size sq_b) : w.heap.size ≤ gb181)); have n3_ := Aside0.mk ((by rw [hg]; exact (below_size sq_b) : w.heap.size ≤ gb181)); clear HB; have HB := n0_; have BK181 := n1_; have GW181 := n2_; have GE181 := n3_; clear n0_ n1_ n2_ n3_; clear hb hbox hg; have hcz10_0 : w9.cell? ⟨gb181, 0, none⟩ = some (.int .i64 0) := (blk_cell BK181.out 0).trans rfl; have hcz10_1 : w9.cell? ⟨gb181, 1, none⟩ = some (.int .i64 0) := (blk_cell BK181.out 1).trans rfl; have hcz10_2 : w9.cell? ⟨gb181, 2, none⟩ = some (.int .i64 0) := (blk_cell BK181.out 2).trans rfl; have hcz10_3 : w9.cell? ⟨gb181, 3, none⟩ = some (.slice none 0 0) := (blk_cell BK181.out 3).trans rfl; have hfz10_0 := blk_frozen BK181.out 0; have hfz10_1 := blk_frozen BK181.out 1; have hfz10_2 := blk_frozen BK181.out 2; have hfz10_3 := blk_frozen BK181.out 3) | ((with_reducible refine gate_callee (f := 88) rfl ?_); refine goesL_ (some 25) rfl rfl Try.func88 (by kernel_rfl) rfl #[.slice A180_3 ((rd_T59 l0 x13_1).f3).length c180_3, .int .i64 (wrap64 (x13_1 + 1)), .int .i64 (wrap64 ((l0.length : Int) - 1))] rfl (by (try simp only [List.map_toArray, List.map_cons, List.map_nil]); first | done | rfl | (simp only [List.length_drop, List.length_take]; rfl)) ?_; (with_reducible refine (spec_l1Rising.calls k1 _ _ ((rd_T59 l0 x13_1).f3) (wrap64 (x13_1 + 1)) (wrap64 ((l0.length : Int) - 1)) true _ ?side1 ?side2 A7.out).mono ?_); (case side1 => exact Kd.C_below HR180_3.out (by repeat (first | (with_reducible first | exact HB.out | apply below_alloc | apply pw_below_drewN | apply below_drew1 | refine below_set ?_ GE181.out) | exact HB.out))); (case side2 => exact HC180_3.out); rintro e w' ⟨rfl, ⟨nd, rfl⟩⟩; refine ⟨_, rfl, ?_⟩))
            go_roundg k1
            case measure => have := HK1.out; omega
            case rel => exact ⟨(wrap64 (x13_1 + 1)), sq_e, H', ⟨by have := HK1.out; omega⟩, ⟨by repeat (first | (with_reducible first | exact HB.out | apply below_alloc | apply pw_below_drewN | apply below_drew1 | refine below_set ?_ GE181.out) | exact HB.out)⟩⟩
          · replace c8 := Bool.eq_false_iff.mpr c8
            subst c8
            have H1 : (some (([] : List (S48)), false)) = some (r1, r2) := by rw [if_neg (show ¬ (false = true) by decide)] at H; exact H
            clear H
            have H := H1
            clear H1
            simp only [Option.some.injEq, Prod.mk.injEq] at H
            obtain ⟨rfl, rfl⟩ := H
            have p180 : 0 ≤ (x13_1 : Int) := sq_d
            have q180 : x13_1 < (l0.length : Int) := sq_d
            obtain ⟨ad180, A180_3, c180_3, e180, hx180_0, hx180_1, hx180_2, hx180_3, hl180_3, hi180_3⟩ := at_T59 HR0.out x13_1 p180 q180
            cases e180
            try replace hx180_0 := (HB.out.cell (World.block_lt_of_cell? w _ hx180_0)).trans hx180_0
            try replace hx180_1 := (HB.out.cell (World.block_lt_of_cell? w _ hx180_1)).trans hx180_1
            try replace hx180_2 := (HB.out.cell (World.block_lt_of_cell? w _ hx180_2)).trans hx180_2
            try replace hx180_3 := (HB.out.cell (World.block_lt_of_cell? w _ hx180_3)).trans hx180_3
            have HR180_3 := Aside0.mk hi180_3
            have HC180_3 := Aside0.mk hl180_3
            clear hi180_3 hl180_3
            replace p180 := eq_true p180
            replace q180 := eq_true q180
            go_wp2_with (first | ((with_reducible refine gate_dst (N := 5) rfl ?_); refine box_event ?hg (N := 5) ?hd (cs := #[.int .i64 0, .int .i64 0, .int .i64 0, .slice none 0 0]) (t := 59) ?hr ?_; (case hd => rfl); (case hg => rfl); (case hr => first | (go_simp; done) | (go_simp; rfl)); intro gb181 hg w11 hbox hb; have n0_ := Aside0.mk (below_step sq_b hb); have n1_ := Aside0.mk (hbox); have n2_ := Aside0.mk ((by rw [hg]; exact (below_size sq_b) : w.heap.size ≤ gb181)); have n3_ := Aside0.mk ((by rw [hg]; exact (below_size sq_b) : w.heap.size ≤ gb181)); clear HB; have HB := n0_; have BK181 := n1_; have GW181 := n2_; have GE181 := n3_; clear n0_ n1_ n2_ n3_; clear hb hbox hg; have hcz12_0 : w11.cell? ⟨gb181, 0, none⟩ = some (.int .i64 0) := (blk_cell BK181.out 0).trans rfl; have hcz12_1 : w11.cell? ⟨gb181, 1, none⟩ = some (.int .i64 0) := (blk_cell BK181.out 1).trans rfl; have hcz12_2 : w11.cell? ⟨gb181, 2, none⟩ = some (.int .i64 0) := (blk_cell BK181.out 2).trans rfl; have hcz12_3 : w11.cell? ⟨gb181, 3, none⟩ = some (.slice none 0 0) := (blk_cell BK181.out 3).trans rfl; have hfz12_0 := blk_frozen BK181.out 0; have hfz12_1 := blk_frozen BK181.out 1; have hfz12_2 := blk_frozen BK181.out 2; have hfz12_3 := blk_frozen BK181.out 3) | ((with_reducible refine gate_callee (f := 88) rfl ?_); refine goesL_ (some 25) rfl rfl Try.func88 (by kernel_rfl) rfl #[.slice A180_3 ((rd_T59 l0 x13_1).f3).length c180_3, .int .i64 (wrap64 (x13_1 + 1)), .int .i64 (wrap64 ((l0.length : Int) - 1))] rfl (by (try simp only [List.map_toArray, List.map_cons, List.map_nil]); first | done | rfl | (simp only [List.length_drop, List.length_take]; rfl)) ?_; (with_reducible refine (spec_l1Rising.calls k1 _ _ ((rd_T59 l0 x13_1).f3) (wrap64 (x13_1 + 1)) (wrap64 ((l0.length : Int) - 1)) false _ ?side1 ?side2 A7.out).mono ?_); (case side1 => exact Kd.C_below HR180_3.out (by repeat (first | (with_reducible first | exact HB.out | apply below_alloc | apply pw_below_drewN | apply below_drew1 | refine below_set ?_ GE181.out) | exact HB.out))); (case side2 => exact HC180_3.out); rintro e w' ⟨rfl, ⟨nd, rfl⟩⟩; refine ⟨_, rfl, ?_⟩))
            go_ret2
            exact ⟨_, sq_w, by first | exact Kd.R_nil _ _ _ _ _ | exact Kd.N_nil _ _ _ _ _ | exact Kd.V_nil _ _ _ _ _ | exact Kd.Q_nil _ _ _ _ _ | exact Kd.S_nil _ _ _ _ _, by repeat (first | (with_reducible first | exact HB.out | apply below_alloc | apply pw_below_drewN | apply below_drew1 | refine below_set ?_ GE181.out) | exact HB.out)⟩
        · rw [if_neg c4] at H
          have c4b0 : decide (x13_1 < (l0.length : Int)) = false := decide_eq_false c4
          clear c4
          replace H := Option.bind_eq_some_iff.mp H
          obtain ⟨t183, A130, H⟩ := H
          replace H : (if t183 = (wrap64 ((l0.length : Int) - 1)) then ((spec_l13Entries.f k1 l0 0 (⟨#[]⟩ : ByteArray) ([] : List (S48))).bind fun t184 => ((spec_GoodEntries.f k1 t184).bind fun t187 => (if t187 = true then ((spec_l13Build.f t184 0 ([] : List (S59))).bind fun t188 => ((spec_l13Same.f k1 l0 t188).bind fun t191 => (some (t184, t191)))) else (some (t184, false))))) else (some (([] : List (S48)), false))) = some (r1, r2) := H
          have A13 := Aside0.mk A130
          clear A130
          by_cases c14 : t183 = (wrap64 ((l0.length : Int) - 1))
          · rw [if_pos c14] at H
            have c14b0 : (t183 == (wrap64 ((l0.length : Int) - 1))) = true := beq_iff_eq.mpr c14
            have c14b1 : (t183 != (wrap64 ((l0.length : Int) - 1))) = false := bne_eq_false_iff_eq.mpr c14
            clear c14
            replace H := Option.bind_eq_some_iff.mp H
            obtain ⟨t184, A150, H⟩ := H
            replace H : ((spec_GoodEntries.f k1 t184).bind fun t187 => (if t187 = true then ((spec_l13Build.f t184 0 ([] : List (S59))).bind fun t188 => ((spec_l13Same.f k1 l0 t188).bind fun t191 => (some (t184, t191)))) else (some (t184, false)))) = some (r1, r2) := H
            have A15 := Aside0.mk A150
            clear A150
            replace H := Option.bind_eq_some_iff.mp H
            obtain ⟨t187, A160, H⟩ := H
            replace H : (if t187 = true then ((spec_l13Build.f t184 0 ([] : List (S59))).bind fun t188 => ((spec_l13Same.f k1 l0 t188).bind fun t191 => (some (t184, t191)))) else (some (t184, false))) = some (r1, r2) := H
            have A16 := Aside0.mk A160
            clear A160
            by_cases c17 : t187 = true
            · subst c17
              have H1 : ((spec_l13Build.f t184 0 ([] : List (S59))).bind fun t188 => ((spec_l13Same.f k1 l0 t188).bind fun t191 => (some (t184, t191)))) = some (r1, r2) := by rw [if_pos rfl] at H; exact H
              clear H
              have H := H1
              clear H1
              replace H := Option.bind_eq_some_iff.mp H
              obtain ⟨t188, A180, H⟩ := H
              replace H : ((spec_l13Same.f k1 l0 t188).bind fun t191 => (some (t184, t191))) = some (r1, r2) := H
              have A18 := Aside0.mk A180
              clear A180
              replace H := Option.bind_eq_some_iff.mp H
              obtain ⟨t191, A190, H⟩ := H
              replace H : (some (t184, t191)) = some (r1, r2) := H
              have A19 := Aside0.mk A190
              clear A190
              simp only [Option.some.injEq, Prod.mk.injEq] at H
              obtain ⟨rfl, rfl⟩ := H
              go_wp2_with (first | ((with_reducible refine gate_callee (f := 89) rfl ?_); refine goesL_ (some 29) rfl rfl Try.func89 (by kernel_rfl) rfl #[.slice A0 l0.length c0] rfl (by (try simp only [List.map_toArray, List.map_cons, List.map_nil]); first | done | rfl | (simp only [List.length_drop, List.length_take]; rfl)) ?_; (with_reducible refine (spec_l13Many.calls k1 _ _ l0 t183 _ ?side1 ?side2 A13.out).mono ?_); (case side1 => repeat (first | exact (Kd.C_below HR0.out HB.out) | (with_reducible refine Kd.C_alloc ?_ _) | (with_reducible refine Kd.C_drewN ?_ _) | (with_reducible refine Kd.C_drew ?_))); (case side2 => exact HC0.out); rintro e w20 ⟨rfl, hb⟩; refine ⟨_, rfl, ?_⟩; have n0_ := Aside0.mk (below_step sq_b hb); clear HB; have HB := n0_; clear n0_; (try clear hb); (try clear hb2); (try clear hk); (try clear hi)) | ((with_reducible refine gate_callee (f := 90) rfl ?_); refine goesL_ (some 35) rfl rfl Try.func90 (by kernel_rfl) rfl #[.slice A0 l0.length c0, .int .i64 0, .string (⟨#[]⟩ : ByteArray), .slice none 0 0] rfl (by (try simp only [List.map_toArray, List.map_cons, List.map_nil]); first | done | rfl | (simp only [List.length_drop, List.length_take]; rfl)) ?_; (refine (spec_l13Entries.calls k1 _ _ l0 0 (⟨#[]⟩ : ByteArray) (fun k_ => some k_ = (.slice none 0 0 : Value).ownBlock) (.slice none 0 0) ([] : List (S48)) t184 w _ ?side1 ?side2 ?side3 ?side4 A15.out).mono ?_); (case side1 => repeat (first | (with_reducible first | exact HB.out | apply below_alloc | apply pw_below_drewN | apply below_drew1) | exact HB.out)); (case side2 => exact Kd.C_kept_came k59_heap HR0.out sq_b (fun k_ hs_ => (fun e_ => by simp [Value.ownBlock] at e_) hs_)); (case side3 => exact HC0.out); (case side4 => first | exact Kd.R_nil _ _ _ _ _ | exact Kd.S_nil _ _ _ _ _); rintro e w21 ⟨v185, rfl, ho0, hb, hkp⟩; refine ⟨_, rfl, ?_⟩; have n0_ := Aside0.mk (Kd.R_mono (ok' := fun k_ => True) ho0 (fun k_ hk_ => trivial)); have n1_ := Aside0.mk (hb); clear HB; have HO186 := n0_; have HB := n1_; clear n0_ n1_; (try clear hb); (try clear hkp); (try clear ho0); obtain ⟨Ao22, co22, eo22⟩ := Kd.R_slice HO186.out; subst eo22) | ((with_reducible refine gate_callee (f := 36) rfl ?_); refine goesL_ (some 38) rfl rfl Try.func36 (by kernel_rfl) rfl #[.slice Ao22 t184.length co22] rfl (by (try simp only [List.map_toArray, List.map_cons, List.map_nil]); first | done | rfl | (simp only [List.length_drop, List.length_take]; rfl)) ?_; (with_reducible refine (spec_GoodEntries.calls k1 _ _ t184 true _ ?side1 ?side2 A16.out).mono ?_); (case side1 => repeat (first | exact (Kd.R_reads' HO186.out).2.2 | (with_reducible refine Kd.C_alloc ?_ _) | (with_reducible refine Kd.C_drewN ?_ _) | (with_reducible refine Kd.C_drew ?_))); (case side2 => exact (Kd.R_reads' HO186.out).2.1); rintro e w23 ⟨rfl, hb⟩; refine ⟨_, rfl, ?_⟩; have n0_ := Aside0.mk (Kd.R_below (sq_r HO186) hb); have n1_ := Aside0.mk (below_step sq_b hb); clear HO186; clear HB; have HO186 := n0_; have HB := n1_; clear n0_ n1_; (try clear hb); (try clear hb2); (try clear hk); (try clear hi)) | (go_at_call 44; (refine (spec_l13Build.calls _ _ t184 0 (fun k_ => some k_ = (.slice none 0 0 : Value).ownBlock) (.slice none 0 0) ([] : List (S59)) t188 w _ ?side1 ?side2 ?side3 ?side4 A18.out).mono ?_); (case side1 => repeat (first | (with_reducible first | exact HB.out | apply below_alloc | apply pw_below_drewN | apply below_drew1) | exact HB.out)); (case side2 => exact Kd.C_kept_own (HO186.out) (fun k_ hk_ hs_ => (fun e_ => by simp [Value.ownBlock] at e_) hs_)); (case side3 => exact (Kd.R_reads' HO186.out).2.1); (case side4 => first | exact Kd.R_nil _ _ _ _ _ | exact Kd.S_nil _ _ _ _ _); rintro e w24 ⟨v189, rfl, ho0, hb, hkp⟩; have n0_ := Aside0.mk (Kd.R_mono (ok' := fun k_ => True) (Kd.R_keptB (HO186.out) hkp (fun k_ hk_ hs_ => (fun e_ => by simp [Value.ownBlock] at e_) hs_)) (fun k_ hk_ => trivial)); have n1_ := Aside0.mk (Kd.S_mono (ok' := fun k_ => True) ho0 (fun k_ hk_ => trivial)); have n2_ := Aside0.mk (hb); clear HO186; clear HB; have HO186 := n0_; have HO190 := n1_; have HB := n2_; clear n0_ n1_ n2_; (try clear hb); (try clear hkp); (try clear ho0); obtain ⟨Ao25, co25, eo25⟩ := Kd.S_slice HO190.out; subst eo25) | (go_at_call 91; (with_reducible refine (spec_l13Same.calls k1 _ _ l0 _ _ t188 t191 _ ?side1 ?side2 ?side3 ?side4 A19.out).mono ?_); (case side1 => repeat (first | exact (Kd.C_below HR0.out HB.out) | (with_reducible refine Kd.C_alloc ?_ _) | (with_reducible refine Kd.C_drewN ?_ _) | (with_reducible refine Kd.C_drew ?_))); (case side2 => exact HC0.out); (case side3 => repeat (first | exact (Kd.S_reads' HO190.out).2.2 | (with_reducible refine Kd.C_alloc ?_ _) | (with_reducible refine Kd.C_drewN ?_ _) | (with_reducible refine Kd.C_drew ?_))); (case side4 => exact (Kd.S_reads' HO190.out).2.1); rintro e w26 ⟨rfl, hb⟩; have n0_ := Aside0.mk (Kd.R_below (sq_r HO186) hb); have n1_ := Aside0.mk (Kd.S_below (by (with_reducible repeat (first | apply Kd.S_alloc | apply Kd.S_drewN | apply Kd.S_drew)); exact HO190.out) hb); have n2_ := Aside0.mk (below_step sq_b hb); clear HO186; clear HO190; clear HB; have HO186 := n0_; have HO190 := n1_; have HB := n2_; clear n0_ n1_ n2_; (try clear hb); (try clear hb2); (try clear hk); (try clear hi)))
              go_ret2
              exact ⟨_, sq_w, sq_r HO186, sq_b⟩
            · replace c17 := Bool.eq_false_iff.mpr c17
              subst c17
              have H1 : (some (t184, false)) = some (r1, r2) := by rw [if_neg (show ¬ (false = true) by decide)] at H; exact H
              clear H
              have H := H1
              clear H1
              simp only [Option.some.injEq, Prod.mk.injEq] at H
              obtain ⟨rfl, rfl⟩ := H
              go_wp2_with (first | ((with_reducible refine gate_callee (f := 89) rfl ?_); refine goesL_ (some 29) rfl rfl Try.func89 (by kernel_rfl) rfl #[.slice A0 l0.length c0] rfl (by (try simp only [List.map_toArray, List.map_cons, List.map_nil]); first | done | rfl | (simp only [List.length_drop, List.length_take]; rfl)) ?_; (with_reducible refine (spec_l13Many.calls k1 _ _ l0 t183 _ ?side1 ?side2 A13.out).mono ?_); (case side1 => repeat (first | exact (Kd.C_below HR0.out HB.out) | (with_reducible refine Kd.C_alloc ?_ _) | (with_reducible refine Kd.C_drewN ?_ _) | (with_reducible refine Kd.C_drew ?_))); (case side2 => exact HC0.out); rintro e w27 ⟨rfl, hb⟩; refine ⟨_, rfl, ?_⟩; have n0_ := Aside0.mk (below_step sq_b hb); clear HB; have HB := n0_; clear n0_; (try clear hb); (try clear hb2); (try clear hk); (try clear hi)) | ((with_reducible refine gate_callee (f := 90) rfl ?_); refine goesL_ (some 35) rfl rfl Try.func90 (by kernel_rfl) rfl #[.slice A0 l0.length c0, .int .i64 0, .string (⟨#[]⟩ : ByteArray), .slice none 0 0] rfl (by (try simp only [List.map_toArray, List.map_cons, List.map_nil]); first | done | rfl | (simp only [List.length_drop, List.length_take]; rfl)) ?_; (refine (spec_l13Entries.calls k1 _ _ l0 0 (⟨#[]⟩ : ByteArray) (fun k_ => some k_ = (.slice none 0 0 : Value).ownBlock) (.slice none 0 0) ([] : List (S48)) t184 w _ ?side1 ?side2 ?side3 ?side4 A15.out).mono ?_); (case side1 => repeat (first | (with_reducible first | exact HB.out | apply below_alloc | apply pw_below_drewN | apply below_drew1) | exact HB.out)); (case side2 => exact Kd.C_kept_came k59_heap HR0.out sq_b (fun k_ hs_ => (fun e_ => by simp [Value.ownBlock] at e_) hs_)); (case side3 => exact HC0.out); (case side4 => first | exact Kd.R_nil _ _ _ _ _ | exact Kd.S_nil _ _ _ _ _); rintro e w28 ⟨v185, rfl, ho0, hb, hkp⟩; refine ⟨_, rfl, ?_⟩; have n0_ := Aside0.mk (Kd.R_mono (ok' := fun k_ => True) ho0 (fun k_ hk_ => trivial)); have n1_ := Aside0.mk (hb); clear HB; have HO186 := n0_; have HB := n1_; clear n0_ n1_; (try clear hb); (try clear hkp); (try clear ho0); obtain ⟨Ao29, co29, eo29⟩ := Kd.R_slice HO186.out; subst eo29) | ((with_reducible refine gate_callee (f := 36) rfl ?_); refine goesL_ (some 38) rfl rfl Try.func36 (by kernel_rfl) rfl #[.slice Ao29 t184.length co29] rfl (by (try simp only [List.map_toArray, List.map_cons, List.map_nil]); first | done | rfl | (simp only [List.length_drop, List.length_take]; rfl)) ?_; (with_reducible refine (spec_GoodEntries.calls k1 _ _ t184 false _ ?side1 ?side2 A16.out).mono ?_); (case side1 => repeat (first | exact (Kd.R_reads' HO186.out).2.2 | (with_reducible refine Kd.C_alloc ?_ _) | (with_reducible refine Kd.C_drewN ?_ _) | (with_reducible refine Kd.C_drew ?_))); (case side2 => exact (Kd.R_reads' HO186.out).2.1); rintro e w30 ⟨rfl, hb⟩; refine ⟨_, rfl, ?_⟩; have n0_ := Aside0.mk (Kd.R_below (sq_r HO186) hb); have n1_ := Aside0.mk (below_step sq_b hb); clear HO186; clear HB; have HO186 := n0_; have HB := n1_; clear n0_ n1_; (try clear hb); (try clear hb2); (try clear hk); (try clear hi)))
              go_ret2
              exact ⟨_, sq_w, sq_r HO186, sq_b⟩
          · rw [if_neg c14] at H
            have c14b0 : (t183 == (wrap64 ((l0.length : Int) - 1))) = false := beq_eq_false_iff_ne.mpr c14
            have c14b1 : (t183 != (wrap64 ((l0.length : Int) - 1))) = true := bne_iff_ne.mpr c14
            simp only [Option.some.injEq, Prod.mk.injEq] at H
            obtain ⟨rfl, rfl⟩ := H
            go_wp2_with (first | ((with_reducible refine gate_callee (f := 89) rfl ?_); refine goesL_ (some 29) rfl rfl Try.func89 (by kernel_rfl) rfl #[.slice A0 l0.length c0] rfl (by (try simp only [List.map_toArray, List.map_cons, List.map_nil]); first | done | rfl | (simp only [List.length_drop, List.length_take]; rfl)) ?_; (with_reducible refine (spec_l13Many.calls k1 _ _ l0 t183 _ ?side1 ?side2 A13.out).mono ?_); (case side1 => repeat (first | exact (Kd.C_below HR0.out HB.out) | (with_reducible refine Kd.C_alloc ?_ _) | (with_reducible refine Kd.C_drewN ?_ _) | (with_reducible refine Kd.C_drew ?_))); (case side2 => exact HC0.out); rintro e w31 ⟨rfl, hb⟩; refine ⟨_, rfl, ?_⟩; have n0_ := Aside0.mk (below_step sq_b hb); clear HB; have HB := n0_; clear n0_; (try clear hb); (try clear hb2); (try clear hk); (try clear hi)))
            go_ret2
            exact ⟨_, sq_w, by first | exact Kd.R_nil _ _ _ _ _ | exact Kd.N_nil _ _ _ _ _ | exact Kd.V_nil _ _ _ _ _ | exact Kd.Q_nil _ _ _ _ _ | exact Kd.S_nil _ _ _ _ _, sq_b⟩
  · replace c3 := Bool.eq_false_iff.mpr c3
    subst c3
    have H1 : (some (([] : List (S48)), false)) = some (r1, r2) := by rw [if_neg (show ¬ (false = true) by decide)] at H; exact H
    clear H
    have H := H1
    clear H1
    simp only [Option.some.injEq, Prod.mk.injEq] at H
    obtain ⟨rfl, rfl⟩ := H
    go_enter Try.func52, Try.ntmps52
    go_wp2_with (first | ((with_reducible refine gate_callee (f := 67) rfl ?_); refine goesL_ (some 9) rfl rfl Try.func67 (by kernel_rfl) rfl #[.int .i64 (l0.length : Int), .int .i64 1, .int .i64 120] rfl (by (try simp only [List.map_toArray, List.map_cons, List.map_nil]); first | done | rfl | (simp only [List.length_drop, List.length_take]; rfl)) ?_; (with_reducible refine (spec_l1In.calls (l0.length : Int) 1 120 false _ A2.out).mono ?_); rintro e w' ⟨rfl, ⟨nd, rfl⟩⟩; refine ⟨_, rfl, ?_⟩))
    go_ret2
    exact ⟨_, sq_w, by first | exact Kd.R_nil _ _ _ _ _ | exact Kd.N_nil _ _ _ _ _ | exact Kd.V_nil _ _ _ _ _ | exact Kd.Q_nil _ _ _ _ _ | exact Kd.S_nil _ _ _ _ _, sq_b⟩

/-! ### spec_l13Begin: function 55 -/
def spec_l13Begin.f (k : Nat) (a0 : ByteArray) : Option (Bool) := if a0.toList = ([] : List UInt8) then (some true) else ((spec_l9Word.f k a0).bind fun t192 => (some t192))
theorem spec_l13Begin.mono : ∀ a0 k, LeO (spec_l13Begin.f k a0) (spec_l13Begin.f (k + 1) a0) := by
  intro a0 k
  unfold spec_l13Begin.f
  repeat' first
      | (with_reducible exact spec_l9Word.mono _ _)
      | (with_reducible exact LeO.refl _)
      | (with_reducible exact LeO.none _)
      | (with_reducible refine LeO.ite ?_ ?_)
      | (with_reducible refine LeO.bind ?_ (fun _ => ?_))
      | exact spec_l9Word.mono _ _
      | exact LeO.none _
      | refine LeO.ite ?_ ?_
      | refine LeO.bind ?_ (fun _ => ?_)
set_option maxHeartbeats 8000000 in
set_option maxRecDepth 100000 in
theorem spec_l13Begin.calls (k : Nat) (a0 : ByteArray) (r : Bool) (w : World) (h : spec_l13Begin.f k a0 = some r) :
    Calls Try.prog 55 #[.string a0] w fun e w' => e = .returned (.bool r) ∧ Drawn0 w w' := by
  have H : (if a0.toList = ([] : List UInt8) then (some true) else ((spec_l9Word.f k a0).bind fun t192 => (some t192))) = some r := h
  clear h
  by_cases c2 : a0.toList = ([] : List UInt8)
  · rw [if_pos c2] at H
    have c2b0 : (a0.toList == ([] : List UInt8)) = true := beq_iff_eq.mpr c2
    have c2b1 : (a0.toList != ([] : List UInt8)) = false := bne_eq_false_iff_eq.mpr c2
    clear c2
    obtain rfl := Option.some.inj H
    go_enter Try.func55, Try.ntmps55
    go_wp2
    go_ret
    exact ⟨by first | rfl | (simp; done) | (simp [ext_bne_nil, ext_beq_nil]; done) | (simp [*]; done), by repeat (first | exact Drawn0.refl _ | apply Drawn0.step)⟩
  · rw [if_neg c2] at H
    have c2b0 : (a0.toList == ([] : List UInt8)) = false := beq_eq_false_iff_ne.mpr c2
    have c2b1 : (a0.toList != ([] : List UInt8)) = true := bne_iff_ne.mpr c2
    replace H := Option.bind_eq_some_iff.mp H
    obtain ⟨t192, A30, H⟩ := H
    replace H : (some t192) = some r := H
    have A3 := Aside0.mk A30
    clear A30
    obtain rfl := Option.some.inj H
    go_enter Try.func55, Try.ntmps55
    go_wp2_with (first | (go_at_call 66; (with_reducible refine (spec_l9Word.calls k a0 t192 _ A3.out).mono ?_); rintro e w' ⟨rfl, ⟨nd, rfl⟩⟩))
    go_ret
    exact ⟨by first | rfl | (simp; done) | (simp [ext_bne_nil, ext_beq_nil]; done) | (simp [*]; done), by repeat (first | exact Drawn0.refl _ | apply Drawn0.step)⟩

/-! ### spec_l1Least: function 73 -/
def spec_l1Least.f (a0 : Int) (a1 : Int) : Option (Int) := if a0 < a1 then (some a0) else (some a1)
set_option maxHeartbeats 8000000 in
set_option maxRecDepth 100000 in
theorem spec_l1Least.calls (a0 : Int) (a1 : Int) (r : Int) (w : World) (h : spec_l1Least.f a0 a1 = some r) :
    Calls Try.prog 73 #[.int .i64 a0, .int .i64 a1] w fun e w' => e = .returned (.int .i64 r) ∧ Drawn0 w w' := by
  have H : (if a0 < a1 then (some a0) else (some a1)) = some r := h
  clear h
  by_cases c3 : a0 < a1
  · rw [if_pos c3] at H
    have c3b0 : decide (a0 < a1) = true := decide_eq_true c3
    clear c3
    obtain rfl := Option.some.inj H
    go_enter Try.func73, Try.ntmps73
    go_wp2
    go_ret
    exact ⟨by first | rfl | (simp; done) | (simp [ext_bne_nil, ext_beq_nil]; done) | (simp [*]; done), by repeat (first | exact Drawn0.refl _ | apply Drawn0.step)⟩
  · rw [if_neg c3] at H
    have c3b0 : decide (a0 < a1) = false := decide_eq_false c3
    clear c3
    obtain rfl := Option.some.inj H
    go_enter Try.func73, Try.ntmps73
    go_wp2
    go_ret
    exact ⟨by first | rfl | (simp; done) | (simp [ext_bne_nil, ext_beq_nil]; done) | (simp [*]; done), by repeat (first | exact Drawn0.refl _ | apply Drawn0.step)⟩

end Go.Proofs.Ytkoackkimdanjaa.QFnExactSuggest
