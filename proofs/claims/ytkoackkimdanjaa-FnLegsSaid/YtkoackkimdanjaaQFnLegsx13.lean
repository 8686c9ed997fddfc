-- Written by this session's own program (wip/pp_patch.py, wip/pp.sh) out of the given translation. Not trusted: Lean checks it.
import Derived.Test.YtkoackkimdanjaaQFnLegsx0
import Derived.Test.YtkoackkimdanjaaQFnLegsx12
namespace Go.Proofs.Ytkoackkimdanjaa.QFnLegs
open Go.RowKit Go.Proofs.YtkoackkimdanjaaW.PrintWords Go.Proofs.YtkoackkimdanjaaW.PrintLast Go.Proofs.YtkoackkimdanjaaW.PrintMore
attribute [local go_sem] max2_int min2_int max_two min_two max_three min_three max_four min_four   -- for this text's walks alone
open Go.Proofs.Ytkoackkimdanjaa.Ext
attribute [local go_sem high] ext_gtr ext_leq
set_option linter.unusedVariables false
set_option linter.unusedSimpArgs false

/-! ### spec_l1Cur_entries: function 100 -/
mutual
def spec_l1Cur_entries.l0 : Nat → List ByteArray → Int → List Int → Int → Int → Option ((List (S48)) × Int × Int)
  | 0, _, _, _, _, _ => none
  | k + 1, x4, x5, x1000, x1001, x1002 => if x5 > 0 then ((spec_l1Cur_near.f x1000 x1001 x1002).bind fun bt299 => ((spec_l9Put.f k x4 bt299.1).bind fun t302 => (spec_l1Cur_entries.l0 k t302 (wrap64 (x5 - 1)) x1000 bt299.2.1 bt299.2.2))) else (spec_l1Cur_entries.l1 k ([] : List (S48)) x4 (x4.length : Int) 0 x1000 x1001 x1002)
def spec_l1Cur_entries.l1 : Nat → List (S48) → List ByteArray → Int → Int → List Int → Int → Int → Option ((List (S48)) × Int × Int)
  | 0, _, _, _, _, _, _, _ => none
  | k + 1, x3, x18, x19, x20, x1000, x1001, x1002 => if x20 < x19 then (if 0 ≤ x20 then (if x20 < (x18.length : Int) then ((spec_l1Cur_pick.f x1000 x1001 x1002 5).bind fun bt306 => (if x3.length < 5864062014805 then (spec_l1Cur_entries.l1 k (x3 ++ [(⟨rdOf ByteArray.empty x18 x20, wrap64 (1 + bt306.1)⟩ : S48)]) x18 x19 (wrap64 (x20 + 1)) x1000 bt306.2.1 bt306.2.2) else (none))) else (none)) else (none)) else (if (x3.length : Int) > 0 then ((spec_l1Cur_one.f x1000 x1001 x1002 20).bind fun bt312 => (spec_l1Cur_entries.j2 k x3 bt312.1 x1000 bt312.2.1 bt312.2.2)) else (spec_l1Cur_entries.j2 k x3 false x1000 x1001 x1002))
def spec_l1Cur_entries.j2 : Nat → List (S48) → Bool → List Int → Int → Int → Option ((List (S48)) × Int × Int)
  | 0, _, _, _, _, _ => none
  | k + 1, x3, x39, x1000, x1001, x1002 => if x39 = true then ((spec_l1Cur_of.f x1000 x1001 x1002 (([(⟨#[]⟩ : ByteArray), (⟨#[122, 122]⟩ : ByteArray), (⟨#[65]⟩ : ByteArray)] : List ByteArray))).bind fun bt318 => ((spec_l1Cur_among.f x1000 bt318.2.1 bt318.2.2 (([0, 1000, 1001] : List Int))).bind fun bt324 => (if 0 < (x3.length : Int) then (some ((x3.set (0 : Int).toNat (⟨bt318.1, bt324.1⟩ : S48)), bt324.2.1, bt324.2.2)) else (none)))) else (some (x3, x1001, x1002))
end
def spec_l1Cur_entries.f (k : Nat) (s0_0 : List Int) (s0_1 : Int) (s0_2 : Int) : Option ((List (S48)) × Int × Int) := (spec_l1Cur_pick.f s0_0 s0_1 s0_2 10).bind fun bt296 => (spec_l1Cur_entries.l0 k ([] : List ByteArray) bt296.1 s0_0 bt296.2.1 bt296.2.2)
theorem spec_l1Cur_entries.mono_l : ∀ k, (∀ y0 y1 y2 y3 y4, LeO (spec_l1Cur_entries.l0 k y0 y1 y2 y3 y4) (spec_l1Cur_entries.l0 (k + 1) y0 y1 y2 y3 y4)) ∧ (∀ y0 y1 y2 y3 y4 y5 y6, LeO (spec_l1Cur_entries.l1 k y0 y1 y2 y3 y4 y5 y6) (spec_l1Cur_entries.l1 (k + 1) y0 y1 y2 y3 y4 y5 y6)) ∧ (∀ y0 y1 y2 y3 y4, LeO (spec_l1Cur_entries.j2 k y0 y1 y2 y3 y4) (spec_l1Cur_entries.j2 (k + 1) y0 y1 y2 y3 y4))
  | 0 => ⟨fun _ _ _ _ _ r h => by simp [spec_l1Cur_entries.l0] at h, fun _ _ _ _ _ _ _ r h => by simp [spec_l1Cur_entries.l1] at h, fun _ _ _ _ _ r h => by simp [spec_l1Cur_entries.j2] at h⟩
  | k + 1 => by
    obtain ⟨ih0, ih1, ih2⟩ := spec_l1Cur_entries.mono_l k
    refine ⟨?_, ?_, ?_⟩
    · intro y0 y1 y2 y3 y4
      unfold spec_l1Cur_entries.l0
      repeat' first
      | (with_reducible exact ih0 _ _ _ _ _)
      | (with_reducible exact ih1 _ _ _ _ _ _ _)
      | (with_reducible exact ih2 _ _ _ _ _)
      | (with_reducible exact spec_l9Put.mono _ _ _)
      | (with_reducible exact LeO.refl _)
      | (with_reducible exact LeO.none _)
      | (with_reducible refine LeO.ite ?_ ?_)
      | (with_reducible refine LeO.bind ?_ (fun _ => ?_))
      | exact ih0 _ _ _ _ _
      | exact ih1 _ _ _ _ _ _ _
      | exact ih2 _ _ _ _ _
      | exact spec_l9Put.mono _ _ _
      | exact LeO.none _
      | refine LeO.ite ?_ ?_
      | refine LeO.bind ?_ (fun _ => ?_)
    · intro y0 y1 y2 y3 y4 y5 y6
      unfold spec_l1Cur_entries.l1
      repeat' first
      | (with_reducible exact ih0 _ _ _ _ _)
      | (with_reducible exact ih1 _ _ _ _ _ _ _)
      | (with_reducible exact ih2 _ _ _ _ _)
      | (with_reducible exact spec_l9Put.mono _ _ _)
      | (with_reducible exact LeO.refl _)
      | (with_reducible exact LeO.none _)
      | (with_reducible refine LeO.ite ?_ ?_)
      | (with_reducible refine LeO.bind ?_ (fun _ => ?_))
      | exact ih0 _ _ _ _ _
      | exact ih1 _ _ _ _ _ _ _
      | exact ih2 _ _ _ _ _
      | exact spec_l9Put.mono _ _ _
      | exact LeO.none _
      | refine LeO.ite ?_ ?_
      | refine LeO.bind ?_ (fun _ => ?_)
    · intro y0 y1 y2 y3 y4
      unfold spec_l1Cur_entries.j2
      repeat' first
      | (with_reducible exact ih0 _ _ _ _ _)
      | (with_reducible exact ih1 _ _ _ _ _ _ _)
      | (with_reducible exact ih2 _ _ _ _ _)
      | (with_reducible exact spec_l9Put.mono _ _ _)
      | (with_reducible exact LeO.refl _)
      | (with_reducible exact LeO.none _)
      | (with_reducible refine LeO.ite ?_ ?_)
      | (with_reducible refine LeO.bind ?_ (fun _ => ?_))
      | exact ih0 _ _ _ _ _
      | exact ih1 _ _ _ _ _ _ _
      | exact ih2 _ _ _ _ _
      | exact spec_l9Put.mono _ _ _
      | exact LeO.none _
      | refine LeO.ite ?_ ?_
      | refine LeO.bind ?_ (fun _ => ?_)
theorem spec_l1Cur_entries.mono : ∀ a0 a1 a2 k, LeO (spec_l1Cur_entries.f k a0 a1 a2) (spec_l1Cur_entries.f (k + 1) a0 a1 a2) := by
  intro a0 a1 a2 k
  obtain ⟨ih0, ih1, ih2⟩ := spec_l1Cur_entries.mono_l k
  unfold spec_l1Cur_entries.f
  repeat' first
      | (with_reducible exact ih0 _ _ _ _ _)
      | (with_reducible exact ih1 _ _ _ _ _ _ _)
      | (with_reducible exact ih2 _ _ _ _ _)
      | (with_reducible exact spec_l9Put.mono _ _ _)
      | (with_reducible exact LeO.refl _)
      | (with_reducible exact LeO.none _)
      | (with_reducible refine LeO.ite ?_ ?_)
      | (with_reducible refine LeO.bind ?_ (fun _ => ?_))
      | exact ih0 _ _ _ _ _
      | exact ih1 _ _ _ _ _ _ _
      | exact ih2 _ _ _ _ _
      | exact spec_l9Put.mono _ _ _
      | exact LeO.none _
      | refine LeO.ite ?_ ?_
      | refine LeO.bind ?_ (fun _ => ?_)
set_option maxHeartbeats 8000000 in
set_option maxRecDepth 100000 in
theorem spec_l1Cur_entries.calls (k : Nat) (g : Nat) (s0_0 : List Int) (s0_1 : Int) (s0_2 : Int) (r1 : List (S48)) (r2 : Int) (r3 : Int) (w0 w : World) (hI : IsS88 w0 w g s0_0 s0_1 s0_2) (hB : Below w0.heap.size w0 w) (h : spec_l1Cur_entries.f k s0_0 s0_1 s0_2 = some (r1, r2, r3)) :
    Calls Try.prog 100 #[.pointer (some ⟨g, 0, none⟩)] w fun e w' => ∃ v0_ : Value, e = .returned (v0_) ∧ Kd.R k48 48 w' w.heap.size (fun _ => True) v0_ r1 ∧ IsS88 w0 w' g s0_0 r2 r3 ∧ Below w0.heap.size w0 w' ∧ KeepBut w w' g none := by
  have hu48 := Try.underlying48
  have HI0 := mk_ hI
  have HK := mk_ (KeepBut.refl w g none)
  have HL := mk_ hB.size
  clear hI
  have HW0 := mk_ hB.size
  have HB := mk_ hB
  clear hB
  have H : ((spec_l1Cur_pick.f s0_0 s0_1 s0_2 10).bind fun bt296 => (spec_l1Cur_entries.l0 k ([] : List ByteArray) bt296.1 s0_0 bt296.2.1 bt296.2.2)) = some (r1, r2, r3) := h
  clear h
  replace H := Option.bind_eq_some_iff.mp H
  obtain ⟨⟨t296, t297, t298⟩, A20, H⟩ := H
  replace H : (spec_l1Cur_entries.l0 k ([] : List ByteArray) t296 s0_0 t297 t298) = some (r1, r2, r3) := H
  have A2 := mk_ A20
  clear A20
  have H' := mk_ H
  clear H
  go_enter Try.func100, Try.ntmps100
  go_wp2_with (first | ((with_reducible refine gate_callee (f := 103) rfl ?_); refine goesL_ (some 9) rfl rfl Try.func103 (by kernel_rfl) rfl #[.pointer (some ⟨g, 0, none⟩), .int .i64 10] rfl sq_a ?_; (with_reducible refine (spec_l1Cur_pick.calls g s0_0 s0_1 s0_2 10 t296 t297 t298 w0 _ ?side1 ?side2 A2.out).mono ?_); (case side1 => repeat (first | (with_reducible first | exact HI0.out | apply IsS88.alloc | apply IsS88.drewN | apply IsS88.drew | apply IsS88.set_1 | apply IsS88.set_2) | exact HI0.out)); (case side2 => exact sq_g (IsS88.ge HI0.out)); rintro e w3 ⟨rfl, hi, hb, hk⟩; refine ⟨_, rfl, ?_⟩; have n0_ := mk_ (KeepBut.trans (by repeat (first | (with_reducible first | exact HK.out | apply KeepBut.set_ | apply keep_drewN | apply keep_drew | apply keep_alloc) | exact HK.out)) hk (.inl rfl)); have n1_ := mk_ (hb); have n2_ := mk_ (hi); clear HK HB HI0; have HK := n0_; have HB := n1_; have HI0 := n2_; clear n0_ n1_ n2_; (try clear hb); (try clear hk); (try clear hi)))
  (try simp only [Act.put, List.setIfInBounds_toArray, List.set_cons_zero, List.set_cons_succ])
  go_loopg [4, 5] k (fun kq v4 v5 w' => ∃ (x4_1 : List ByteArray) (x5_1 : Int) (x1001_1 : Int) (x1002_1 : Int), v5 = .int .i64 x5_1 ∧ Aside0 (spec_l1Cur_entries.l0 kq x4_1 x5_1 s0_0 x1001_1 x1002_1 = some (r1, r2, r3)) ∧ Aside0 (kq ≤ k) ∧ Aside0 (Kd.R Kd.string 9 w' w.heap.size (fun _ => True) v4 x4_1) ∧ Aside0 (IsS88 w0 w' g s0_0 x1001_1 x1002_1) ∧ Aside0 (KeepBut w w' g none) ∧ Aside0 (Below w0.heap.size w0 w'))
  case atStart => exact ⟨(([] : List ByteArray)), (t296), (t297), (t298), sq_e, H', ⟨Nat.le_refl _⟩, ⟨by first | exact Kd.R_nil _ _ _ _ _ | exact Kd.N_nil _ _ _ _ _ | exact Kd.V_nil _ _ _ _ _ | exact Kd.Q_nil _ _ _ _ _ | exact Kd.S_nil _ _ _ _ _⟩, ⟨by repeat (first | (with_reducible first | exact HI0.out | apply IsS88.alloc | apply IsS88.drewN | apply IsS88.drew | apply IsS88.set_1 | apply IsS88.set_2) | exact HI0.out)⟩, ⟨by repeat (first | (with_reducible first | exact HK.out | apply KeepBut.set_ | apply keep_drewN | apply keep_drew | apply keep_alloc) | exact HK.out)⟩, ⟨sq_g (IsS88.ge HI0.out)⟩⟩
  case round =>
    clear H'
    (try clear c1); (try clear p2)
    obtain ⟨x4_1, x5_1, x1001_1, x1002_1, rfl, HA, HK1, HO_4, HI0, HK, HB⟩ := hrel
    cases gk with
    | zero => exact absurd HA.out (by simp [spec_l1Cur_entries.l0])
    | succ k1 =>
      have H := HA.out
      clear HA
      simp only [spec_l1Cur_entries.l0] at H
      by_cases c4 : x5_1 > 0
      · rw [if_pos c4] at H
        have c4b0 : decide (0 < x5_1) = true := decide_eq_true c4
        clear c4
        replace H := Option.bind_eq_some_iff.mp H
        obtain ⟨⟨t299, t300, t301⟩, A50, H⟩ := H
        replace H : ((spec_l9Put.f k1 x4_1 t299).bind fun t302 => (spec_l1Cur_entries.l0 k1 t302 (wrap64 (x5_1 - 1)) s0_0 t300 t301)) = some (r1, r2, r3) := H
        have A5 := mk_ A50
        clear A50
        replace H := Option.bind_eq_some_iff.mp H
        obtain ⟨t302, A60, H⟩ := H
        replace H : (spec_l1Cur_entries.l0 k1 t302 (wrap64 (x5_1 - 1)) s0_0 t300 t301) = some (r1, r2, r3) := H
        have A6 := mk_ A60
        clear A60
        have H' := mk_ H
        clear H
        go_wp2_with (first | ((with_reducible refine gate_callee (f := 71) rfl ?_); refine goesL_ (some 16) rfl rfl Try.func71 (by kernel_rfl) rfl #[.pointer (some ⟨g, 0, none⟩)] rfl sq_a ?_; (with_reducible refine (spec_l1Cur_near.calls g s0_0 x1001_1 x1002_1 t299 t300 t301 w0 _ ?side1 ?side2 A5.out).mono ?_); (case side1 => repeat (first | (with_reducible first | exact HI0.out | apply IsS88.alloc | apply IsS88.drewN | apply IsS88.drew | apply IsS88.set_1 | apply IsS88.set_2) | exact HI0.out)); (case side2 => exact sq_g (IsS88.ge HI0.out)); rintro e w7 ⟨rfl, hi, hb, hk⟩; refine ⟨_, rfl, ?_⟩; have n0_ := mk_ (Kd.R_mono (Kd.R_keep (IsS88.apart (show IsS88 w0 _ g s0_0 x1001_1 x1002_1 from by repeat (first | (with_reducible first | exact HI0.out | apply IsS88.alloc | apply IsS88.drewN | apply IsS88.drew | apply IsS88.set_1 | apply IsS88.set_2) | exact HI0.out)) (sq_r HO_4) (by decide)) hk (fun _ h => h.2)) (fun _ h => h.1)); have n1_ := mk_ (KeepBut.trans (by repeat (first | (with_reducible first | exact HK.out | apply KeepBut.set_ | apply keep_drewN | apply keep_drew | apply keep_alloc) | exact HK.out)) hk (.inl rfl)); have n2_ := mk_ (hb); have n3_ := mk_ (hi); clear HO_4 HK HB HI0; have HO_4 := n0_; have HK := n1_; have HB := n2_; have HI0 := n3_; clear n0_ n1_ n2_ n3_; (try clear hb); (try clear hk); (try clear hi); obtain ⟨Ao8, co8, eo8⟩ := Kd.R_slice HO_4.out; subst eo8) | ((with_reducible refine gate_callee (f := 114) rfl ?_); refine goesL_ (some 17) rfl rfl Try.func114 (by kernel_rfl) rfl #[.slice Ao8 x4_1.length co8, .string t299] rfl sq_a ?_; (with_reducible refine (spec_l9Put.calls k1 (fun k_ => some k_ = (.slice Ao8 x4_1.length co8 : Value).ownBlock) (.slice Ao8 x4_1.length co8) x4_1 t299 t302 w0 _ ?side1 ?side2 A6.out).mono ?_); (case side1 => exact sq_g (IsS88.ge HI0.out)); (case side2 => exact Kd.R_lower (Kd.R_tight rfl HO_4.out) HL.out); rintro e w9 ⟨v303, rfl, ho0, hb, hkp⟩; refine ⟨_, rfl, ?_⟩; have n0_ := mk_ (IsS88.kept (by repeat (first | (with_reducible first | exact HI0.out | apply IsS88.alloc | apply IsS88.drewN | apply IsS88.drew | apply IsS88.set_1 | apply IsS88.set_2) | exact HI0.out)) hkp (fun hs_ => (fun e_ => (IsS88.own_ne HI0.out HO_4.out (by decide)) e_) hs_)); have n1_ := mk_ (Kd.R_mono (ok' := fun k_ => True) (Kd.R_raise (d := Kd.string) (b := w0.heap.size) (b' := w.heap.size) (fun _ _ _ _ h_ => h_) ho0 (fun k_ e_ => Or.elim (ho0.1 k_ e_) (fun hs_ => (fun e_ => Kd.R_base HO_4.out k_ e_.symm) hs_) (fun hn_ => Nat.le_trans (keep_size (w := w) (g := g) (row := none) (by repeat (first | (with_reducible first | exact HK.out | apply KeepBut.set_ | apply keep_drewN | apply keep_drew | apply keep_alloc) | exact HK.out))) hn_))) (fun k_ hk_ => trivial)); have n2_ := mk_ (Kept.keepG (by repeat (first | (with_reducible first | exact HK.out | apply KeepBut.set_ | apply keep_drewN | apply keep_drew | apply keep_alloc) | exact HK.out)) hkp (fun k_ hs_ => (fun e_ => .inr (Kd.R_base HO_4.out k_ e_.symm)) hs_)); have n3_ := mk_ (hb); clear HI0 HK HB HO_4; have HI0 := n0_; have HO304 := n1_; have HK := n2_; have HB := n3_; clear n0_ n1_ n2_ n3_; (try clear hb); (try clear hkp); (try clear ho0)))
        go_roundg k1
        case measure => have := HK1.out; omega
        case rel => exact ⟨(t302), (wrap64 (x5_1 - 1)), (t300), (t301), sq_e, H', ⟨by have := HK1.out; omega⟩, ⟨by (with_reducible repeat (first | apply Kd.R_alloc | apply Kd.R_drewN | apply Kd.R_drew)); exact HO304.out⟩, ⟨by repeat (first | (with_reducible first | exact HI0.out | apply IsS88.alloc | apply IsS88.drewN | apply IsS88.drew | apply IsS88.set_1 | apply IsS88.set_2) | exact HI0.out)⟩, ⟨by repeat (first | (with_reducible first | exact HK.out | apply KeepBut.set_ | apply keep_drewN | apply keep_drew | apply keep_alloc) | exact HK.out)⟩, ⟨sq_g (IsS88.ge HI0.out)⟩⟩
      · rw [if_neg c4] at H
        have c4b0 : decide (0 < x5_1) = false := decide_eq_false c4
        clear c4
        have H' := mk_ H
        clear H
        obtain ⟨Ao10, co10, eo10⟩ := Kd.R_slice HO_4.out
        subst eo10
        go_wp2
        go_loopg [3, 20] k1 (fun kq v3 v20 w' => ∃ (x3_2 : List (S48)) (x20_2 : Int) (x1001_2 : Int) (x1002_2 : Int), v20 = .int .i64 x20_2 ∧ Aside0 (spec_l1Cur_entries.l1 kq x3_2 x4_1 (x4_1.length : Int) x20_2 s0_0 x1001_2 x1002_2 = some (r1, r2, r3)) ∧ Aside0 (kq ≤ k1) ∧ Aside0 (Kd.R k48 48 w' w.heap.size (fun _ => True) v3 x3_2) ∧ Aside0 (Kd.R Kd.string 9 w' w.heap.size (fun _ => True) (.slice Ao10 x4_1.length co10) x4_1) ∧ Aside0 (IsS88 w0 w' g s0_0 x1001_2 x1002_2) ∧ Aside0 (KeepBut w w' g none) ∧ Aside0 (Below w0.heap.size w0 w'))
        case atStart => exact ⟨(([] : List (S48))), (0), (x1001_1), (x1002_1), sq_e, H', ⟨Nat.le_refl _⟩, ⟨by first | exact Kd.R_nil _ _ _ _ _ | exact Kd.N_nil _ _ _ _ _ | exact Kd.V_nil _ _ _ _ _ | exact Kd.Q_nil _ _ _ _ _ | exact Kd.S_nil _ _ _ _ _⟩, ⟨by (with_reducible repeat (first | apply Kd.R_alloc | apply Kd.R_drewN | apply Kd.R_drew)); exact HO_4.out⟩, ⟨by repeat (first | (with_reducible first | exact HI0.out | apply IsS88.alloc | apply IsS88.drewN | apply IsS88.drew | apply IsS88.set_1 | apply IsS88.set_2) | exact HI0.out)⟩, ⟨by repeat (first | (with_reducible first | exact HK.out | apply KeepBut.set_ | apply keep_drewN | apply keep_drew | apply keep_alloc) | exact HK.out)⟩, ⟨sq_g (IsS88.ge HI0.out)⟩⟩
        case round =>
          clear H'
          (try clear c1); (try clear p2); (try clear c4); (try clear c4b0); (try clear p6); (try clear c7); (try clear c10); (try clear p2)
          obtain ⟨x3_2, x20_2, x1001_2, x1002_2, rfl, HA, HK2, HO_3, HO_18, HI0, HK, HB⟩ := hrel
          cases gk with
          | zero => exact absurd HA.out (by simp [spec_l1Cur_entries.l1])
          | succ k2 =>
            have H := HA.out
            clear HA
            simp only [spec_l1Cur_entries.l1] at H
            by_cases c11 : x20_2 < (x4_1.length : Int)
            · rw [if_pos c11] at H
              have c11b0 : decide (x20_2 < (x4_1.length : Int)) = true := decide_eq_true c11
              clear c11
              by_cases c12 : 0 ≤ x20_2
              rotate_left
              · rw [if_neg c12] at H
                exact absurd H (by simp)
              rw [if_pos c12] at H
              have c12b0 : decide (0 ≤ x20_2) = true := decide_eq_true c12
              clear c12
              by_cases c13 : x20_2 < (x4_1.length : Int)
              rotate_left
              · rw [if_neg c13] at H
                exact absurd H (by simp)
              rw [if_pos c13] at H
              have c13b0 : decide (x20_2 < (x4_1.length : Int)) = true := decide_eq_true c13
              clear c13
              replace H := Option.bind_eq_some_iff.mp H
              obtain ⟨⟨t306, t307, t308⟩, A140, H⟩ := H
              replace H : (if x3_2.length < 5864062014805 then (spec_l1Cur_entries.l1 k2 (x3_2 ++ [(⟨rdOf ByteArray.empty x4_1 x20_2, wrap64 (1 + t306)⟩ : S48)]) x4_1 (x4_1.length : Int) (wrap64 (x20_2 + 1)) s0_0 t307 t308) else (none)) = some (r1, r2, r3) := H
              have A14 := mk_ A140
              clear A140
              by_cases c15 : x3_2.length < 5864062014805
              rotate_left
              · rw [if_neg c15] at H
                exact absurd H (by simp)
              rw [if_pos c15] at H
              have LMc15 := mk_ c15
              clear c15
              obtain ⟨y309, hy309⟩ : ∃ y_ : List (S48), y_ = (x3_2 ++ [(⟨rdOf ByteArray.empty x4_1 x20_2, wrap64 (1 + t306)⟩ : S48)]) := ⟨_, rfl⟩
              replace H : (spec_l1Cur_entries.l1 k2 y309 x4_1 (x4_1.length : Int) (wrap64 (x20_2 + 1)) s0_0 t307 t308) = some (r1, r2, r3) := by first | (rw [hy309]; with_reducible exact H) | (have H2_ := (Option.bind_some _ _).symm.trans H; rw [hy309]; with_reducible exact H2_) | (have H2_ := (Option.bind_some _ _).symm.trans H; with_reducible exact H2_) | with_reducible exact H | (rw [hy309]; exact H) | exact H
              have Ny309 := mk_ hy309
              clear hy309
              have H' := mk_ H
              clear H
              have p305 : 0 ≤ (x20_2 : Int) := sq_d
              have q305 : x20_2 < (x4_1.length : Int) := sq_d
              obtain ⟨ad305, e305, hx305_0⟩ := Kd.at_string (Kd.R_reads' HO_18.out).2.2 x20_2 p305 q305
              cases e305
              replace p305 := eq_true p305
              replace q305 := eq_true q305
              go_wp2_with (first | ((with_reducible refine gate_callee (f := 103) rfl ?_); refine goesL_ (some 27) rfl rfl Try.func103 (by kernel_rfl) rfl #[.pointer (some ⟨g, 0, none⟩), .int .i64 5] rfl sq_a ?_; (with_reducible refine (spec_l1Cur_pick.calls g s0_0 x1001_2 x1002_2 5 t306 t307 t308 w0 _ ?side1 ?side2 A14.out).mono ?_); (case side1 => repeat (first | (with_reducible first | exact HI0.out | apply IsS88.alloc | apply IsS88.drewN | apply IsS88.drew | apply IsS88.set_1 | apply IsS88.set_2) | exact HI0.out)); (case side2 => exact sq_g (IsS88.ge HI0.out)); rintro e w16 ⟨rfl, hi, hb, hk⟩; refine ⟨_, rfl, ?_⟩; have n0_ := mk_ (Kd.R_mono (Kd.R_keep (IsS88.apart (show IsS88 w0 _ g s0_0 x1001_2 x1002_2 from by repeat (first | (with_reducible first | exact HI0.out | apply IsS88.alloc | apply IsS88.drewN | apply IsS88.drew | apply IsS88.set_1 | apply IsS88.set_2) | exact HI0.out)) (sq_r HO_3) (by decide)) hk (fun _ h => h.2)) (fun _ h => h.1)); have n1_ := mk_ (Kd.R_mono (Kd.R_keep (IsS88.apart (show IsS88 w0 _ g s0_0 x1001_2 x1002_2 from by repeat (first | (with_reducible first | exact HI0.out | apply IsS88.alloc | apply IsS88.drewN | apply IsS88.drew | apply IsS88.set_1 | apply IsS88.set_2) | exact HI0.out)) (sq_r HO_18) (by decide)) hk (fun _ h => h.2)) (fun _ h => h.1)); have n2_ := mk_ (KeepBut.trans (by repeat (first | (with_reducible first | exact HK.out | apply KeepBut.set_ | apply keep_drewN | apply keep_drew | apply keep_alloc) | exact HK.out)) hk (.inl rfl)); have n3_ := mk_ (hb); have n4_ := mk_ (hi); clear HO_3 HO_18 HK HB HI0; have HO_3 := n0_; have HO_18 := n1_; have HK := n2_; have HB := n3_; have HI0 := n4_; clear n0_ n1_ n2_ n3_ n4_; (try clear hb); (try clear hk); (try clear hi)) | ((with_reducible refine gate_builtin (b := .append) (xs := #[.tmp 24, .tmp 30]) rfl ?_); at_builtin; refine Kd.R_append k48 w.heap.size rfl (.tmp 24) (.tmp 30) 27 48 (.agg #[(.string ⟨#[]⟩), (.int .i64 0)]) 24 rfl Try.underlying27 info48 rfl (by decide) (by omega) u3 x3_2 (⟨rdOf ByteArray.empty x4_1 x20_2, wrap64 (1 + t306)⟩ : S48) [.string (rdOf ByteArray.empty x4_1 x20_2), .int .i64 (wrap64 (1 + t306))] (fun _ => True) (fun _ => False) rfl rfl ?aP (fun _ hk => hk.elim) ?aF ?aO (Below.refl _ _) ?aS ?aL ?_; (case aP => exact k48_mkM _ _ _ (⟨rdOf ByteArray.empty x4_1 x20_2, wrap64 (1 + t306)⟩ : S48)); (case aF => exact (fun _ _ => trivial)); (case aO => exact (sq_r HO_3)); (case aS => exact (keep_size (w := w) (g := g) (row := none) (by repeat (first | (with_reducible first | exact HK.out | apply KeepBut.set_ | apply keep_drewN | apply keep_drew | apply keep_alloc) | exact HK.out)))); (case aL => have := LMc15.out; omega); intro v310 w17 ho hb hg hat; rw [← Ny309.out] at ho; have n0_ := mk_ (Kd.R_over' (sq_r HO_18) (Kd.R_typed (sq_r HO_3)) (by decide) hg); have n1_ := mk_ (IsS88.grown (by repeat (first | (with_reducible first | exact HI0.out | apply IsS88.alloc | apply IsS88.drewN | apply IsS88.drew | apply IsS88.set_1 | apply IsS88.set_2) | exact HI0.out)) hg (IsS88.own_ne HI0.out HO_3.out (by decide))); have n2_ := mk_ (below_weaken (sq_g (IsS88.ge HI0.out)) HL.out hb); have n3_ := mk_ (KeepBut.trans (by repeat (first | (with_reducible first | exact HK.out | apply KeepBut.set_ | apply keep_drewN | apply keep_drew | apply keep_alloc) | exact HK.out)) (KeepBut.of_grown hg g) (Kd.R_base2 HO_3.out)); have n4_ := mk_ (ho); clear HO_18 HI0 HB HK HO_3; have HO_18 := n0_; have HI0 := n1_; have HB := n2_; have HK := n3_; have HO311 := n4_; clear n0_ n1_ n2_ n3_ n4_; clear ho hb hg hat))
              go_roundg k2
              case measure => have := HK1.out; have := HK2.out; omega
              case rel => exact ⟨(y309), (wrap64 (x20_2 + 1)), (t307), (t308), sq_e, H', ⟨by have := HK1.out; have := HK2.out; omega⟩, ⟨by (with_reducible repeat (first | apply Kd.R_alloc | apply Kd.R_drewN | apply Kd.R_drew)); exact HO311.out⟩, ⟨by (with_reducible repeat (first | apply Kd.R_alloc | apply Kd.R_drewN | apply Kd.R_drew)); exact HO_18.out⟩, ⟨by repeat (first | (with_reducible first | exact HI0.out | apply IsS88.alloc | apply IsS88.drewN | apply IsS88.drew | apply IsS88.set_1 | apply IsS88.set_2) | exact HI0.out)⟩, ⟨by repeat (first | (with_reducible first | exact HK.out | apply KeepBut.set_ | apply keep_drewN | apply keep_drew | apply keep_alloc) | exact HK.out)⟩, ⟨sq_g (IsS88.ge HI0.out)⟩⟩
            · rw [if_neg c11] at H
              have c11b0 : decide (x20_2 < (x4_1.length : Int)) = false := decide_eq_false c11
              clear c11
              have HC18 := mk_ H
              clear H
              go_upto_region 12 with (fail)
              go_cut [39] (fun v39 wc => ∃ (kq : Nat) (x39_17 : Bool) (x1001_17 : Int) (x1002_17 : Int), v39 = .bool x39_17 ∧ Aside0 (spec_l1Cur_entries.j2 kq x3_2 x39_17 s0_0 x1001_17 x1002_17 = some (r1, r2, r3)) ∧ Aside0 (kq ≤ k2) ∧ Aside0 (Kd.R k48 48 wc w.heap.size (fun _ => True) u3 x3_2) ∧ Aside0 (IsS88 w0 wc g s0_0 x1001_17 x1002_17) ∧ Aside0 (KeepBut w wc g none) ∧ Aside0 (Below w0.heap.size w0 wc))
              case first =>
                have H := HC18.out
                clear HC18
                by_cases c19 : (x3_2.length : Int) > 0
                · rw [if_pos c19] at H
                  have c19b0 : decide (0 < (x3_2.length : Int)) = true := decide_eq_true c19
                  have c19b1 : decide (0 < x3_2.length) = true := decide_eq_true (by omega)
                  clear c19
                  (first | rw [c19b0] | (simp only [i64_w, i32_w]; rw [c19b0]) | skip)
                  replace H := Option.bind_eq_some_iff.mp H
                  obtain ⟨⟨t312, t313, t314⟩, A200, H⟩ := H
                  replace H : (spec_l1Cur_entries.j2 k2 x3_2 t312 s0_0 t313 t314) = some (r1, r2, r3) := H
                  have A20 := mk_ A200
                  clear A200
                  have H' := mk_ H
                  clear H
                  obtain ⟨Ao21, co21, eo21⟩ := Kd.R_slice HO_3.out
                  subst eo21
                  go_wp2_with (first | (go_at_call 102; (with_reducible refine (spec_l1Cur_one.calls g s0_0 x1001_2 x1002_2 20 t312 t313 t314 w0 _ ?side1 ?side2 A20.out).mono ?_); (case side1 => repeat (first | (with_reducible first | exact HI0.out | apply IsS88.alloc | apply IsS88.drewN | apply IsS88.drew | apply IsS88.set_1 | apply IsS88.set_2) | exact HI0.out)); (case side2 => exact sq_g (IsS88.ge HI0.out)); rintro e w22 ⟨rfl, hi, hb, hk⟩; have n0_ := mk_ (Kd.R_mono (Kd.R_keep (IsS88.apart (show IsS88 w0 _ g s0_0 x1001_2 x1002_2 from by repeat (first | (with_reducible first | exact HI0.out | apply IsS88.alloc | apply IsS88.drewN | apply IsS88.drew | apply IsS88.set_1 | apply IsS88.set_2) | exact HI0.out)) (sq_r HO_3) (by decide)) hk (fun _ h => h.2)) (fun _ h => h.1)); have n1_ := mk_ (Kd.R_mono (Kd.R_keep (IsS88.apart (show IsS88 w0 _ g s0_0 x1001_2 x1002_2 from by repeat (first | (with_reducible first | exact HI0.out | apply IsS88.alloc | apply IsS88.drewN | apply IsS88.drew | apply IsS88.set_1 | apply IsS88.set_2) | exact HI0.out)) (sq_r HO_18) (by decide)) hk (fun _ h => h.2)) (fun _ h => h.1)); have n2_ := mk_ (KeepBut.trans (by repeat (first | (with_reducible first | exact HK.out | apply KeepBut.set_ | apply keep_drewN | apply keep_drew | apply keep_alloc) | exact HK.out)) hk (.inl rfl)); have n3_ := mk_ (hb); have n4_ := mk_ (hi); clear HO_3 HO_18 HK HB HI0; have HO_3 := n0_; have HO_18 := n1_; have HK := n2_; have HB := n3_; have HI0 := n4_; clear n0_ n1_ n2_ n3_ n4_; (try clear hb); (try clear hk); (try clear hi)))
                  go_meet
                  case rel => exact ⟨_, (t312), (t313), (t314), sq_e, H', ⟨by have := HK1.out; have := HK2.out; first | omega | exact Nat.le_refl _⟩, ⟨by (with_reducible repeat (first | apply Kd.R_alloc | apply Kd.R_drewN | apply Kd.R_drew)); exact HO_3.out⟩, ⟨by repeat (first | (with_reducible first | exact HI0.out | apply IsS88.alloc | apply IsS88.drewN | apply IsS88.drew | apply IsS88.set_1 | apply IsS88.set_2) | exact HI0.out)⟩, ⟨by repeat (first | (with_reducible first | exact HK.out | apply KeepBut.set_ | apply keep_drewN | apply keep_drew | apply keep_alloc) | exact HK.out)⟩, ⟨sq_g (IsS88.ge HI0.out)⟩⟩
                · rw [if_neg c19] at H
                  have c19b0 : decide (0 < (x3_2.length : Int)) = false := decide_eq_false c19
                  have c19b1 : decide (0 < x3_2.length) = false := decide_eq_false (by omega)
                  clear c19
                  (first | rw [c19b0] | (simp only [i64_w, i32_w]; rw [c19b0]) | skip)
                  have H' := mk_ H
                  clear H
                  obtain ⟨Ao23, co23, eo23⟩ := Kd.R_slice HO_3.out
                  subst eo23
                  go_wp2
                  go_meet
                  case rel => exact ⟨_, (false), (x1001_2), (x1002_2), sq_e, H', ⟨by have := HK1.out; have := HK2.out; first | omega | exact Nat.le_refl _⟩, ⟨by (with_reducible repeat (first | apply Kd.R_alloc | apply Kd.R_drewN | apply Kd.R_drew)); exact HO_3.out⟩, ⟨by repeat (first | (with_reducible first | exact HI0.out | apply IsS88.alloc | apply IsS88.drewN | apply IsS88.drew | apply IsS88.set_1 | apply IsS88.set_2) | exact HI0.out)⟩, ⟨by repeat (first | (with_reducible first | exact HK.out | apply KeepBut.set_ | apply keep_drewN | apply keep_drew | apply keep_alloc) | exact HK.out)⟩, ⟨sq_g (IsS88.ge HI0.out)⟩⟩
              case rest =>
                clear HC18
                (try clear c1); (try clear p2); (try clear p3); (try clear q3); (try clear hx3); (try clear c4); (try clear c4b0); (try clear p6); (try clear c7); (try clear c10); (try clear c11); (try clear c11b0); (try clear c12); (try clear c12b0); (try clear c13); (try clear c13b0); (try clear c15); (try clear c19); (try clear c19b0); (try clear c19b1); (try clear hx305_0); (try clear p2); (try clear p305)
                (try clear p6); (try clear q305)
                obtain ⟨kq, x39_17, x1001_17, x1002_17, rfl, HA, HJ17, HO_3, HI0, HK, HB⟩ := hcut
                cases kq with
                | zero => exact absurd HA.out (by simp [spec_l1Cur_entries.j2])
                | succ kj17 =>
                  have H := HA.out
                  clear HA
                  simp only [spec_l1Cur_entries.j2] at H
                  by_cases c24 : x39_17 = true
                  · subst c24
                    have H1 : ((spec_l1Cur_of.f s0_0 x1001_17 x1002_17 (([(⟨#[]⟩ : ByteArray), (⟨#[122, 122]⟩ : ByteArray), (⟨#[65]⟩ : ByteArray)] : List ByteArray))).bind fun bt318 => ((spec_l1Cur_among.f s0_0 bt318.2.1 bt318.2.2 (([0, 1000, 1001] : List Int))).bind fun bt324 => (if 0 < (x3_2.length : Int) then (some ((x3_2.set (0 : Int).toNat (⟨bt318.1, bt324.1⟩ : S48)), bt324.2.1, bt324.2.2)) else (none)))) = some (r1, r2, r3) := by rw [if_pos rfl] at H; exact H
                    clear H
                    have H := H1
                    clear H1
                    obtain ⟨y315, hy315⟩ : ∃ y_ : List ByteArray, y_ = (([(⟨#[]⟩ : ByteArray), (⟨#[122, 122]⟩ : ByteArray), (⟨#[65]⟩ : ByteArray)] : List ByteArray)) := ⟨_, rfl⟩
                    replace H : ((spec_l1Cur_of.f s0_0 x1001_17 x1002_17 y315).bind fun bt318 => ((spec_l1Cur_among.f s0_0 bt318.2.1 bt318.2.2 (([0, 1000, 1001] : List Int))).bind fun bt324 => (if 0 < (x3_2.length : Int) then (some ((x3_2.set (0 : Int).toNat (⟨bt318.1, bt324.1⟩ : S48)), bt324.2.1, bt324.2.2)) else (none)))) = some (r1, r2, r3) := by first | (rw [hy315]; with_reducible exact H) | (have H2_ := (Option.bind_some _ _).symm.trans H; rw [hy315]; with_reducible exact H2_) | (have H2_ := (Option.bind_some _ _).symm.trans H; with_reducible exact H2_) | with_reducible exact H | (rw [hy315]; exact H) | exact H
                    have Ny315 := mk_ hy315
                    clear hy315
                    replace H := Option.bind_eq_some_iff.mp H
                    obtain ⟨⟨t318, t319, t320⟩, A250, H⟩ := H
                    replace H : ((spec_l1Cur_among.f s0_0 t319 t320 (([0, 1000, 1001] : List Int))).bind fun bt324 => (if 0 < (x3_2.length : Int) then (some ((x3_2.set (0 : Int).toNat (⟨t318, bt324.1⟩ : S48)), bt324.2.1, bt324.2.2)) else (none))) = some (r1, r2, r3) := H
                    have A25 := mk_ A250
                    clear A250
                    obtain ⟨y321, hy321⟩ : ∃ y_ : List Int, y_ = (([0, 1000, 1001] : List Int)) := ⟨_, rfl⟩
                    replace H : ((spec_l1Cur_among.f s0_0 t319 t320 y321).bind fun bt324 => (if 0 < (x3_2.length : Int) then (some ((x3_2.set (0 : Int).toNat (⟨t318, bt324.1⟩ : S48)), bt324.2.1, bt324.2.2)) else (none))) = some (r1, r2, r3) := by first | (rw [hy321]; with_reducible exact H) | (have H2_ := (Option.bind_some _ _).symm.trans H; rw [hy321]; with_reducible exact H2_) | (have H2_ := (Option.bind_some _ _).symm.trans H; with_reducible exact H2_) | with_reducible exact H | (rw [hy321]; exact H) | exact H
                    have Ny321 := mk_ hy321
                    clear hy321
                    replace H := Option.bind_eq_some_iff.mp H
                    obtain ⟨⟨t324, t325, t326⟩, A260, H⟩ := H
                    replace H : (if 0 < (x3_2.length : Int) then (some ((x3_2.set (0 : Int).toNat (⟨t318, t324⟩ : S48)), t325, t326)) else (none)) = some (r1, r2, r3) := H
                    have A26 := mk_ A260
                    clear A260
                    by_cases c27 : 0 < (x3_2.length : Int)
                    rotate_left
                    · rw [if_neg c27] at H
                      exact absurd H (by simp)
                    rw [if_pos c27] at H
                    have c27b0 : decide (0 < (x3_2.length : Int)) = true := decide_eq_true c27
                    have c27b1 : decide (0 < x3_2.length) = true := decide_eq_true (by omega)
                    clear c27
                    obtain ⟨y327, hy327⟩ : ∃ y_ : List (S48), y_ = (x3_2.set (0 : Int).toNat (⟨t318, t324⟩ : S48)) := ⟨_, rfl⟩
                    replace H : (some (y327, t325, t326)) = some (r1, r2, r3) := by first | (rw [hy327]; with_reducible exact H) | (have H2_ := (Option.bind_some _ _).symm.trans H; rw [hy327]; with_reducible exact H2_) | (have H2_ := (Option.bind_some _ _).symm.trans H; with_reducible exact H2_) | with_reducible exact H | (rw [hy327]; exact H) | exact H
                    have Ny327 := mk_ hy327
                    clear hy327
                    simp only [Option.some.injEq, Prod.mk.injEq] at H
                    obtain ⟨rfl, rfl, rfl⟩ := H
                    go_wp2_with (first | ((with_reducible refine gate_dst (N := 42) rfl ?_); refine Kd.R_lit Kd.string _ 9 sq_0 (N := 42) sq_0 (xs := ([(⟨#[]⟩ : ByteArray), (⟨#[122, 122]⟩ : ByteArray), (⟨#[65]⟩ : ByteArray)] : List ByteArray)) (inner := [.string (⟨#[]⟩ : ByteArray), .string (⟨#[122, 122]⟩ : ByteArray), .string (⟨#[65]⟩ : ByteArray)]) (ok := fun _ => True) (okp := fun _ => True) sq_h ?hp (fun _ hk => hk) trivial (Below.refl _ _) (Nat.le_refl _) (by simp) ?_; (case hp => exact (Reps.one (show Kd.M Kd.string _ _ _ (⟨#[]⟩ : ByteArray) [.string (⟨#[]⟩ : ByteArray)] from rfl) (Reps.one (show Kd.M Kd.string _ _ _ (⟨#[122, 122]⟩ : ByteArray) [.string (⟨#[122, 122]⟩ : ByteArray)] from rfl) (Reps.one (show Kd.M Kd.string _ _ _ (⟨#[65]⟩ : ByteArray) [.string (⟨#[65]⟩ : ByteArray)] from rfl) (Reps.none _ _))))); intro v316 w29 ho30 hb hg_ hnew_; clear hg_ hnew_; (first | rw [← Ny315.out] at ho30 | (simp only [Int.reduceToNat] at ho30; rw [← Ny315.out] at ho30)); have n0_ := mk_ (Kd.R_below (sq_r HO_3) hb); have n1_ := mk_ (Kd.R_lower ho30 (keep_size (w := w) (g := g) (row := none) (by repeat (first | (with_reducible first | exact HK.out | apply KeepBut.set_ | apply keep_drewN | apply keep_drew | apply keep_alloc) | exact HK.out)))); have n2_ := mk_ (IsS88.below (by repeat (first | (with_reducible first | exact HI0.out | apply IsS88.alloc | apply IsS88.drewN | apply IsS88.drew | apply IsS88.set_1 | apply IsS88.set_2) | exact HI0.out)) hb); have n3_ := mk_ (KeepBut.trans (by repeat (first | (with_reducible first | exact HK.out | apply KeepBut.set_ | apply keep_drewN | apply keep_drew | apply keep_alloc) | exact HK.out)) (KeepBut.of_below hb g none) (.inl rfl)); have n4_ := mk_ (below_step (sq_g (IsS88.ge HI0.out)) hb); clear HO_3 HI0 HK HB; have HO_3 := n0_; have HO317 := n1_; have HI0 := n2_; have HK := n3_; have HB := n4_; clear n0_ n1_ n2_ n3_ n4_; clear hb ho30; obtain ⟨Ao31, co31, eo31⟩ := Kd.R_slice HO317.out; subst eo31) | ((with_reducible refine gate_callee (f := 70) rfl ?_); refine goesL_ (some 43) rfl rfl Try.func70 (by kernel_rfl) rfl #[.pointer (some ⟨g, 0, none⟩), .slice Ao31 y315.length co31] rfl sq_a ?_; (with_reducible refine (spec_l1Cur_of.calls g s0_0 x1001_17 x1002_17 _ _ y315 t318 t319 t320 w0 _ ?side1 ?side2 ?side3 ?side4 ?side5 A25.out).mono ?_); (case side1 => repeat (first | (with_reducible first | exact HI0.out | apply IsS88.alloc | apply IsS88.drewN | apply IsS88.drew | apply IsS88.set_1 | apply IsS88.set_2) | exact HI0.out)); (case side2 => exact sq_g (IsS88.ge HI0.out)); (case side3 => exact sq_c (Kd.R_reads' HO317.out).2.2); (case side4 => exact (Kd.R_reads' HO317.out).2.1); (case side5 => exact far_slice (IsS88.own_ne HI0.out HO317.out (by decide))); rintro e w32 ⟨rfl, hi, hb, hk⟩; refine ⟨_, rfl, ?_⟩; have n0_ := mk_ (Kd.R_mono (Kd.R_keep (IsS88.apart (show IsS88 w0 _ g s0_0 x1001_17 x1002_17 from by repeat (first | (with_reducible first | exact HI0.out | apply IsS88.alloc | apply IsS88.drewN | apply IsS88.drew | apply IsS88.set_1 | apply IsS88.set_2) | exact HI0.out)) (sq_r HO_3) (by decide)) hk (fun _ h => h.2)) (fun _ h => h.1)); have n1_ := mk_ (Kd.R_mono (Kd.R_keep (IsS88.apart (show IsS88 w0 _ g s0_0 x1001_17 x1002_17 from by repeat (first | (with_reducible first | exact HI0.out | apply IsS88.alloc | apply IsS88.drewN | apply IsS88.drew | apply IsS88.set_1 | apply IsS88.set_2) | exact HI0.out)) (sq_r HO317) (by decide)) hk (fun _ h => h.2)) (fun _ h => h.1)); have n2_ := mk_ (KeepBut.trans (by repeat (first | (with_reducible first | exact HK.out | apply KeepBut.set_ | apply keep_drewN | apply keep_drew | apply keep_alloc) | exact HK.out)) hk (.inl rfl)); have n3_ := mk_ (hb); have n4_ := mk_ (hi); clear HO_3 HO317 HK HB HI0; have HO_3 := n0_; have HO317 := n1_; have HK := n2_; have HB := n3_; have HI0 := n4_; clear n0_ n1_ n2_ n3_ n4_; (try clear hb); (try clear hk); (try clear hi)) | ((with_reducible refine gate_dst (N := 45) rfl ?_); refine Kd.R_lit (Kd.int .i64) _ 3 sq_0 (N := 45) sq_0 (xs := ([0, 1000, 1001] : List Int)) (inner := [.int .i64 0, .int .i64 1000, .int .i64 1001]) (ok := fun _ => True) (okp := fun _ => True) sq_h ?hp (fun _ hk => hk) trivial (Below.refl _ _) (Nat.le_refl _) (by simp) ?_; (case hp => exact (Reps.one (show Kd.M (Kd.int .i64) _ _ _ 0 [.int .i64 0] from rfl) (Reps.one (show Kd.M (Kd.int .i64) _ _ _ 1000 [.int .i64 1000] from rfl) (Reps.one (show Kd.M (Kd.int .i64) _ _ _ 1001 [.int .i64 1001] from rfl) (Reps.none _ _))))); intro v322 w33 ho34 hb hg_ hnew_; clear hg_ hnew_; (first | rw [← Ny321.out] at ho34 | (simp only [Int.reduceToNat] at ho34; rw [← Ny321.out] at ho34)); have n0_ := mk_ (Kd.R_below (sq_r HO_3) hb); have n1_ := mk_ (Kd.R_below (sq_r HO317) hb); have n2_ := mk_ (Kd.R_lower ho34 (keep_size (w := w) (g := g) (row := none) (by repeat (first | (with_reducible first | exact HK.out | apply KeepBut.set_ | apply keep_drewN | apply keep_drew | apply keep_alloc) | exact HK.out)))); have n3_ := mk_ (IsS88.below (by repeat (first | (with_reducible first | exact HI0.out | apply IsS88.alloc | apply IsS88.drewN | apply IsS88.drew | apply IsS88.set_1 | apply IsS88.set_2) | exact HI0.out)) hb); have n4_ := mk_ (KeepBut.trans (by repeat (first | (with_reducible first | exact HK.out | apply KeepBut.set_ | apply keep_drewN | apply keep_drew | apply keep_alloc) | exact HK.out)) (KeepBut.of_below hb g none) (.inl rfl)); have n5_ := mk_ (below_step (sq_g (IsS88.ge HI0.out)) hb); clear HO_3 HO317 HI0 HK HB; have HO_3 := n0_; have HO317 := n1_; have HO323 := n2_; have HI0 := n3_; have HK := n4_; have HB := n5_; clear n0_ n1_ n2_ n3_ n4_ n5_; clear hb ho34; obtain ⟨Ao35, co35, eo35⟩ := Kd.R_slice HO323.out; subst eo35) | ((with_reducible refine gate_callee (f := 72) rfl ?_); refine goesL_ (some 46) rfl rfl Try.func72 (by kernel_rfl) rfl #[.pointer (some ⟨g, 0, none⟩), .slice Ao35 y321.length co35] rfl sq_a ?_; (with_reducible refine (spec_l1Cur_among.calls g s0_0 t319 t320 _ _ y321 t324 t325 t326 w0 _ ?side1 ?side2 ?side3 ?side4 ?side5 A26.out).mono ?_); (case side1 => repeat (first | (with_reducible first | exact HI0.out | apply IsS88.alloc | apply IsS88.drewN | apply IsS88.drew | apply IsS88.set_1 | apply IsS88.set_2) | exact HI0.out)); (case side2 => exact sq_g (IsS88.ge HI0.out)); (case side3 => exact sq_c (Kd.R_reads' HO323.out).2.2); (case side4 => exact (Kd.R_reads' HO323.out).2.1); (case side5 => exact far_slice (IsS88.own_ne HI0.out HO323.out (by decide))); rintro e w36 ⟨rfl, hi, hb, hk⟩; refine ⟨_, rfl, ?_⟩; have n0_ := mk_ (Kd.R_mono (Kd.R_keep (IsS88.apart (show IsS88 w0 _ g s0_0 t319 t320 from by repeat (first | (with_reducible first | exact HI0.out | apply IsS88.alloc | apply IsS88.drewN | apply IsS88.drew | apply IsS88.set_1 | apply IsS88.set_2) | exact HI0.out)) (sq_r HO_3) (by decide)) hk (fun _ h => h.2)) (fun _ h => h.1)); have n1_ := mk_ (Kd.R_mono (Kd.R_keep (IsS88.apart (show IsS88 w0 _ g s0_0 t319 t320 from by repeat (first | (with_reducible first | exact HI0.out | apply IsS88.alloc | apply IsS88.drewN | apply IsS88.drew | apply IsS88.set_1 | apply IsS88.set_2) | exact HI0.out)) (sq_r HO317) (by decide)) hk (fun _ h => h.2)) (fun _ h => h.1)); have n2_ := mk_ (Kd.R_mono (Kd.R_keep (IsS88.apart (show IsS88 w0 _ g s0_0 t319 t320 from by repeat (first | (with_reducible first | exact HI0.out | apply IsS88.alloc | apply IsS88.drewN | apply IsS88.drew | apply IsS88.set_1 | apply IsS88.set_2) | exact HI0.out)) (sq_r HO323) (by decide)) hk (fun _ h => h.2)) (fun _ h => h.1)); have n3_ := mk_ (KeepBut.trans (by repeat (first | (with_reducible first | exact HK.out | apply KeepBut.set_ | apply keep_drewN | apply keep_drew | apply keep_alloc) | exact HK.out)) hk (.inl rfl)); have n4_ := mk_ (hb); have n5_ := mk_ (hi); clear HO_3 HO317 HO323 HK HB HI0; have HO_3 := n0_; have HO317 := n1_; have HO323 := n2_; have HK := n3_; have HB := n4_; have HI0 := n5_; clear n0_ n1_ n2_ n3_ n4_ n5_; (try clear hb); (try clear hk); (try clear hi); have p28 : 0 ≤ (0 : Int) := (by omega); have q28 : (0 : Int) < ((x3_2.length : Int) : Int) := sq_d; have qi28 : (0 < x3_2.length) = True := eq_true (by omega); obtain ⟨go28, co28, eo28, gb28, gl28, cl28, HG28⟩ := Kd.R_form HO_3.out (by omega); (first | cases eo28 | (injection eo28 with ea_ en_ ec_; (first | subst ea_ | (injection ea_ with ea_; subst ea_)); subst ec_; clear en_)); have GB28 := mk_ gb28; have GG28 := mk_ HG28; clear gb28 gl28 HG28; obtain ⟨ce28, hcl28, hM28, hcc28, hfr28⟩ := Kd.R_elem HO_3.out z48 (0 : Int) p28 q28; obtain rfl := k48_openM hM28; have hx28_0 : w36.cell? ⟨go28, (0 : Int).toNat * 2, none⟩ = some (.string ((rd_T48 x3_2 0).f0)) := hcc28 0 _ rfl; have hx28_1 : w36.cell? ⟨go28, (0 : Int).toNat * 2 + 1, none⟩ = some (.int .i64 ((rd_T48 x3_2 0).f1)) := hcc28 1 _ rfl; have hf28_0 : w36.frozen? ⟨go28, (0 : Int).toNat * 2, none⟩ = false := hfr28 0; have hf28_1 : w36.frozen? ⟨go28, (0 : Int).toNat * 2 + 1, none⟩ = false := hfr28 1; clear hcl28 hcc28 hfr28; (try clear hM28); (try rw [show ((0 : Int)).toNat = 0 from rfl] at hx28_0); (try simp only [Nat.reduceMul, Nat.zero_mul, Nat.zero_add, Nat.reduceAdd] at hx28_0); (try rw [show ((0 : Int)).toNat = 0 from rfl] at hf28_0); (try simp only [Nat.reduceMul, Nat.zero_mul, Nat.zero_add, Nat.reduceAdd] at hf28_0); (try rw [show ((0 : Int)).toNat = 0 from rfl] at hx28_1); (try simp only [Nat.reduceMul, Nat.zero_mul, Nat.zero_add, Nat.reduceAdd] at hx28_1); (try rw [show ((0 : Int)).toNat = 0 from rfl] at hf28_1); (try simp only [Nat.reduceMul, Nat.zero_mul, Nat.zero_add, Nat.reduceAdd] at hf28_1); replace p28 := eq_true p28; replace q28 := eq_true q28; have HX37 := mk_ (show Kd.R k48 48 w36 w.heap.size (fun _ => True) (.slice (some ⟨go28, 0, none⟩) x3_2.length co28) x3_2 from (sq_r HO_3)); obtain ⟨ce37, hcl37, hM37, hcc37, hfr37⟩ := Kd.R_elem HX37.out z48 (0 : Int) (by omega) (by have h_ : (0 : Int) < ((x3_2.length : Int) : Int) := sq_d; first | exact h_ | (have e_ := (Kd.R_reads' HO_3.out).1; omega) | simpa using h_); obtain rfl := k48_openM hM37; have HP37 := Kd.R_seg HX37.out (0 : Int) (by omega) (by have h_ : (0 : Int) < ((x3_2.length : Int) : Int) := sq_d; first | exact h_ | (have e_ := (Kd.R_reads' HO_3.out).1; omega) | simpa using h_) (seg := [.string t318, .int .i64 t324]) (j := 0) hcl37 hcc37 (show 2 ≤ 2 from by decide) (x' := (⟨t318, t324⟩ : S48)) (k48_mkM _ _ _ (⟨t318, t324⟩ : S48) ) (fun _ hk => hk); have hx37_0 := hcc37 0 _ rfl; (try simp only [show (k48).sz = 2 from rfl, Nat.mul_one, Nat.add_zero] at hx37_0); (try rw [show ((0 : Int)).toNat = 0 from rfl] at hx37_0); (try simp only [Nat.reduceMul, Nat.zero_mul, Nat.zero_add, Nat.reduceAdd] at hx37_0); have hf37_0 := hfr37 0; (try simp only [show (k48).sz = 2 from rfl, Nat.mul_one, Nat.add_zero] at hf37_0); (try rw [show ((0 : Int)).toNat = 0 from rfl] at hf37_0); (try simp only [Nat.reduceMul, Nat.zero_mul, Nat.zero_add, Nat.reduceAdd] at hf37_0); have hx37_1 := hcc37 1 _ rfl; (try simp only [show (k48).sz = 2 from rfl, Nat.mul_one, Nat.add_zero] at hx37_1); (try rw [show ((0 : Int)).toNat = 0 from rfl] at hx37_1); (try simp only [Nat.reduceMul, Nat.zero_mul, Nat.zero_add, Nat.reduceAdd] at hx37_1); have hf37_1 := hfr37 1; (try simp only [show (k48).sz = 2 from rfl, Nat.mul_one, Nat.add_zero] at hf37_1); (try rw [show ((0 : Int)).toNat = 0 from rfl] at hf37_1); (try simp only [Nat.reduceMul, Nat.zero_mul, Nat.zero_add, Nat.reduceAdd] at hf37_1); clear hcl37 hcc37 hfr37; (try clear hM37)) | ((with_reducible refine gate_store (t := 48) (p := 48) rfl ?_); refine store_event (t := 48) (p := 48) (v := ?vo_w38) (w1 := ((w36.setCell ⟨go28, 0, none⟩ (.string t318)).setCell ⟨go28, 1, none⟩ (.int .i64 t324))) ?hg ?ho ?hn ?hr ?_; (case ho => rfl); (case hg => rfl); (case hn => rfl); (case hr => first | (go_simp; done) | (go_simp; rfl)); intro w38 hw; have hg : w36.grownBy w38 (some go28) := (by rw [hw]; exact HP37.2); have hp_ : Kd.R k48 48 w38 w.heap.size (fun _ => True) (.slice (some ⟨go28, 0, none⟩) x3_2.length co28) y327 := (by rw [hw, Ny327.out]; exact HP37.1); clear HP37; have n0_ := mk_ (hp_); have n1_ := mk_ (IsS88.grown (by repeat (first | (with_reducible first | exact HI0.out | apply IsS88.alloc | apply IsS88.drewN | apply IsS88.drew | apply IsS88.set_1 | apply IsS88.set_2) | exact HI0.out)) hg (IsS88.own_ne HI0.out HO_3.out (by decide))); have n2_ := mk_ (Kd.R_over' (v := (.slice (some ⟨go28, 0, none⟩) x3_2.length co28)) (sq_r HO317) (Kd.R_typed HO_3.out) (by decide) hg); have n3_ := mk_ (Kd.R_over' (v := (.slice (some ⟨go28, 0, none⟩) x3_2.length co28)) (sq_r HO323) (Kd.R_typed HO_3.out) (by decide) hg); have n4_ := mk_ ((by rw [hw]; exact below_set (below_set (HB.out) (Nat.le_trans HL.out GB28.out)) (Nat.le_trans HL.out GB28.out) : Below w0.heap.size w0 w38)); have n5_ := mk_ (KeepBut.trans (by repeat (first | (with_reducible first | exact HK.out | apply KeepBut.set_ | apply keep_drewN | apply keep_drew | apply keep_alloc) | exact HK.out)) (KeepBut.of_grown hg g) (Kd.R_base2 HO_3.out)); clear HO_3 HI0 HO317 HO323 HB HK; have HO_3 := n0_; have HI0 := n1_; have HO317 := n2_; have HO323 := n3_; have HB := n4_; have HK := n5_; clear n0_ n1_ n2_ n3_ n4_ n5_; clear hg hw hp_))
                    go_ret
                    exact ⟨_, sq_w, sq_r HO_3, by repeat (first | (with_reducible first | exact HI0.out | apply IsS88.alloc | apply IsS88.drewN | apply IsS88.drew | apply IsS88.set_1 | apply IsS88.set_2) | exact HI0.out), sq_g (IsS88.ge HI0.out), by repeat (first | (with_reducible first | exact HK.out | apply KeepBut.set_ | apply keep_drewN | apply keep_drew | apply keep_alloc) | exact HK.out)⟩
                  · replace c24 := Bool.eq_false_iff.mpr c24
                    subst c24
                    have H1 : (some (x3_2, x1001_17, x1002_17)) = some (r1, r2, r3) := by rw [if_neg (show ¬ (false = true) by decide)] at H; exact H
                    clear H
                    have H := H1
                    clear H1
                    simp only [Option.some.injEq, Prod.mk.injEq] at H
                    obtain ⟨rfl, rfl, rfl⟩ := H
                    go_wp2
                    go_ret
                    exact ⟨_, sq_w, sq_r HO_3, by repeat (first | (with_reducible first | exact HI0.out | apply IsS88.alloc | apply IsS88.drewN | apply IsS88.drew | apply IsS88.set_1 | apply IsS88.set_2) | exact HI0.out), sq_g (IsS88.ge HI0.out), by repeat (first | (with_reducible first | exact HK.out | apply KeepBut.set_ | apply keep_drewN | apply keep_drew | apply keep_alloc) | exact HK.out)⟩

/-! ### spec_DrawGoodEntries: function 63 -/
def spec_DrawGoodEntries.f (k : Nat) (l0 : List Int) : Option ((List (S48))) := (spec_l1Cur_entries.f k l0 0 0).bind fun bt329 => (some bt329.1)
theorem spec_DrawGoodEntries.mono : ∀ a0 k, LeO (spec_DrawGoodEntries.f k a0) (spec_DrawGoodEntries.f (k + 1) a0) := by
  intro a0 k
  unfold spec_DrawGoodEntries.f
  repeat' first
      | (with_reducible exact spec_l1Cur_entries.mono _ _ _ _)
      | (with_reducible exact LeO.refl _)
      | (with_reducible exact LeO.none _)
      | (with_reducible refine LeO.ite ?_ ?_)
      | (with_reducible refine LeO.bind ?_ (fun _ => ?_))
      | exact spec_l1Cur_entries.mono _ _ _ _
      | exact LeO.none _
      | refine LeO.ite ?_ ?_
      | refine LeO.bind ?_ (fun _ => ?_)
set_option maxHeartbeats 8000000 in
set_option maxRecDepth 100000 in
theorem spec_DrawGoodEntries.calls (k : Nat) (A0 : Option Addr) (c0 : Nat) (l0 : List Int) (r : List (S48)) (w : World) (hr0 : Kd.C (Kd.int .u8) w A0 l0.length l0) (hc0 : l0.length ≤ c0) (h : spec_DrawGoodEntries.f k l0 = some r) :
    Calls Try.prog 63 #[.slice A0 l0.length c0] w fun e w' => ∃ v0_ : Value, e = .returned (v0_) ∧ Kd.R k48 48 w' w.heap.size (fun _ => True) v0_ r ∧ Below w.heap.size w w' := by
  have hu88 := Try.underlying88
  have HR0 := mk_ hr0
  have HC0 := mk_ hc0
  clear hr0 hc0
  have HB := mk_ (Below.refl w.heap.size w)
  have H : ((spec_l1Cur_entries.f k l0 0 0).bind fun bt329 => (some bt329.1)) = some r := h
  clear h
  replace H := Option.bind_eq_some_iff.mp H
  obtain ⟨⟨t329, t332, t333⟩, A20, H⟩ := H
  replace H : (some t329) = some r := H
  have A2 := mk_ A20
  clear A20
  obtain rfl := Option.some.inj H
  go_enter Try.func63, Try.ntmps63
  go_wp2_with (first | ((with_reducible refine gate_dst (N := 6) rfl ?_); refine box_event sq_0 (N := 6) sq_0 (cs := #[.slice A0 l0.length c0, .int .i64 0, .int .u64 0]) (t := 88) sq_h ?_; intro gb328 hg w3 hbox hb; have n0_ := mk_ (below_step sq_b hb); have n1_ := mk_ (hbox); have n2_ := mk_ ((by rw [hg]; exact (below_size sq_b) : w.heap.size ≤ gb328)); have n3_ := mk_ ((by rw [hg]; exact (below_size sq_b) : w.heap.size ≤ gb328)); clear HB; have HB := n0_; have BK328 := n1_; have GW328 := n2_; have GE328 := n3_; clear n0_ n1_ n2_ n3_; clear hb hbox hg; have HI328 := mk_ (show IsS88 w w3 gb328 l0 0 0 from ⟨_, _, BK328.out, GE328.out, HR0.out⟩); clear BK328) | ((with_reducible refine gate_callee (f := 100) rfl ?_); refine goesL_ (some 8) rfl rfl Try.func100 (by kernel_rfl) rfl #[.pointer (some ⟨gb328, 0, none⟩)] rfl sq_a ?_; (with_reducible refine (spec_l1Cur_entries.calls k gb328 l0 0 0 t329 t332 t333 w _ ?side1 ?side2 A2.out).mono ?_); (case side1 => repeat (first | (with_reducible first | exact HI328.out | apply IsS88.alloc | apply IsS88.drewN | apply IsS88.drew | apply IsS88.set_1 | apply IsS88.set_2) | exact HI328.out)); (case side2 => exact sq_g (IsS88.ge HI328.out)); rintro e w4 ⟨v330, rfl, ho0, hi, hb, hk⟩; refine ⟨_, rfl, ?_⟩; have n0_ := mk_ (Kd.R_lower ho0 (below_size (sq_g (IsS88.ge HI328.out)))); have n1_ := mk_ (hb); have n2_ := mk_ (hi); clear HB HI328; have HO331 := n0_; have HB := n1_; have HI328 := n2_; clear n0_ n1_ n2_; (try clear hb); (try clear hk); (try clear hi); (try clear ho0)))
  go_ret
  exact ⟨_, sq_w, sq_r HO331, sq_g (IsS88.ge HI328.out)⟩

/-! ### spec_DrawBuildLegs: function 33 -/
def spec_DrawBuildLegs.f (k : Nat) (l0 : List Int) : Option ((List (S48))) := (spec_DrawGoodEntries.f k l0).bind fun t334 => (some t334)
theorem spec_DrawBuildLegs.mono : ∀ a0 k, LeO (spec_DrawBuildLegs.f k a0) (spec_DrawBuildLegs.f (k + 1) a0) := by
  intro a0 k
  unfold spec_DrawBuildLegs.f
  repeat' first
      | (with_reducible exact spec_DrawGoodEntries.mono _ _)
      | (with_reducible exact LeO.refl _)
      | (with_reducible exact LeO.none _)
      | (with_reducible refine LeO.ite ?_ ?_)
      | (with_reducible refine LeO.bind ?_ (fun _ => ?_))
      | exact spec_DrawGoodEntries.mono _ _
      | exact LeO.none _
      | refine LeO.ite ?_ ?_
      | refine LeO.bind ?_ (fun _ => ?_)
set_option maxHeartbeats 8000000 in
set_option maxRecDepth 100000 in
theorem spec_DrawBuildLegs.calls (k : Nat) (A0 : Option Addr) (c0 : Nat) (l0 : List Int) (r : List (S48)) (w : World) (hr0 : Kd.C (Kd.int .u8) w A0 l0.length l0) (hc0 : l0.length ≤ c0) (h : spec_DrawBuildLegs.f k l0 = some r) :
    Calls Try.prog 33 #[.slice A0 l0.length c0] w fun e w' => ∃ v0_ : Value, e = .returned (v0_) ∧ Kd.R k48 48 w' w.heap.size (fun _ => True) v0_ r ∧ Below w.heap.size w w' := by
  have HR0 := mk_ hr0
  have HC0 := mk_ hc0
  clear hr0 hc0
  have HB := mk_ (Below.refl w.heap.size w)
  have H : ((spec_DrawGoodEntries.f k l0).bind fun t334 => (some t334)) = some r := h
  clear h
  replace H := Option.bind_eq_some_iff.mp H
  obtain ⟨t334, A20, H⟩ := H
  replace H : (some t334) = some r := H
  have A2 := mk_ A20
  clear A20
  obtain rfl := Option.some.inj H
  go_enter Try.func33, Try.ntmps33
  go_wp2_with (first | ((with_reducible refine gate_callee (f := 63) rfl ?_); refine goesL_ (some 4) rfl rfl Try.func63 (by kernel_rfl) rfl #[.slice A0 l0.length c0] rfl sq_a ?_; (with_reducible refine (spec_DrawGoodEntries.calls k _ _ l0 t334 _ ?side1 ?side2 A2.out).mono ?_); (case side1 => exact sq_c HR0.out); (case side2 => exact HC0.out); rintro e w3 ⟨v335, rfl, ho0, hb⟩; refine ⟨_, rfl, ?_⟩; have n0_ := mk_ (Kd.R_lower ho0 (below_size sq_b)); have n1_ := mk_ (below_step sq_b hb); clear HB; have HO336 := n0_; have HB := n1_; clear n0_ n1_; (try clear hb); (try clear ho0)))
  go_ret
  exact ⟨_, sq_w, sq_r HO336, sq_b⟩

/-! ### laws_sameInts: function 64 -/
def laws_sameInts.l0 : Nat → List Int → List Int → Int → Int → Option (Bool)
  | 0, _, _, _, _ => none
  | k + 1, x0, x1, x12, x13 => if x13 < x12 then (if 0 ≤ x13 then (if x13 < (x0.length : Int) then (if x13 < (x1.length : Int) then (if (rd x0 x13) = (rd x1 x13) then (laws_sameInts.l0 k x0 x1 x12 (wrap64 (x13 + 1))) else (some false)) else (none)) else (none)) else (none)) else (some true)
def laws_sameInts.f (k : Nat) (l0 : List Int) (l1 : List Int) : Option (Bool) := if (l0.length : Int) = (l1.length : Int) then (laws_sameInts.l0 k l0 l1 (l0.length : Int) 0) else (some false)
theorem laws_sameInts.mono_l : ∀ k, (∀ y0 y1 y2 y3, LeO (laws_sameInts.l0 k y0 y1 y2 y3) (laws_sameInts.l0 (k + 1) y0 y1 y2 y3))
  | 0 => fun _ _ _ _ r h => by simp [laws_sameInts.l0] at h
  | k + 1 => by
    have ih0 := laws_sameInts.mono_l k
    · intro y0 y1 y2 y3
      unfold laws_sameInts.l0
      repeat' first
      | (with_reducible exact ih0 _ _ _ _)
      | (with_reducible exact LeO.refl _)
      | (with_reducible exact LeO.none _)
      | (with_reducible refine LeO.ite ?_ ?_)
      | (with_reducible refine LeO.bind ?_ (fun _ => ?_))
      | exact ih0 _ _ _ _
      | exact LeO.none _
      | refine LeO.ite ?_ ?_
      | refine LeO.bind ?_ (fun _ => ?_)
theorem laws_sameInts.mono : ∀ a0 a1 k, LeO (laws_sameInts.f k a0 a1) (laws_sameInts.f (k + 1) a0 a1) := by
  intro a0 a1 k
  have ih0 := laws_sameInts.mono_l k
  unfold laws_sameInts.f
  repeat' first
      | (with_reducible exact ih0 _ _ _ _)
      | (with_reducible exact LeO.refl _)
      | (with_reducible exact LeO.none _)
      | (with_reducible refine LeO.ite ?_ ?_)
      | (with_reducible refine LeO.bind ?_ (fun _ => ?_))
      | exact ih0 _ _ _ _
      | exact LeO.none _
      | refine LeO.ite ?_ ?_
      | refine LeO.bind ?_ (fun _ => ?_)
set_option maxHeartbeats 8000000 in
set_option maxRecDepth 100000 in
theorem laws_sameInts.calls (k : Nat) (A0 : Option Addr) (c0 : Nat) (l0 : List Int) (A1 : Option Addr) (c1 : Nat) (l1 : List Int) (r : Bool) (w : World) (hr0 : Kd.C (Kd.int .i64) w A0 l0.length l0) (hc0 : l0.length ≤ c0) (hr1 : Kd.C (Kd.int .i64) w A1 l1.length l1) (hc1 : l1.length ≤ c1) (h : laws_sameInts.f k l0 l1 = some r) :
    Calls Try.prog 64 #[.slice A0 l0.length c0, .slice A1 l1.length c1] w fun e w' => e = .returned (.bool r) ∧ Drawn0 w w' := by
  have HR0 := mk_ hr0
  have HC0 := mk_ hc0
  clear hr0 hc0
  have HR1 := mk_ hr1
  have HC1 := mk_ hc1
  clear hr1 hc1
  have H : (if (l0.length : Int) = (l1.length : Int) then (laws_sameInts.l0 k l0 l1 (l0.length : Int) 0) else (some false)) = some r := h
  clear h
  by_cases c3 : (l0.length : Int) = (l1.length : Int)
  · rw [if_pos c3] at H
    have c3b0 : ((l0.length : Int) == (l1.length : Int)) = true := beq_iff_eq.mpr c3
    have c3b1 : ((l0.length : Int) != (l1.length : Int)) = false := bne_eq_false_iff_eq.mpr c3
    have c3b2 : (l0.length == l1.length) = true := by first | simpa using c3 | (simp at c3 ⊢; omega)
    clear c3
    have H' := mk_ H
    clear H
    go_enter Try.func64, Try.ntmps64
    go_wp2
    repeat (go_quiet (fail); try go_wp2)
    go_loopg [13] k (fun kq v13 w' => ∃ (x13_1 : Int), v13 = .int .i64 x13_1 ∧ Aside0 (laws_sameInts.l0 kq l0 l1 (l0.length : Int) x13_1 = some r) ∧ Aside0 (kq ≤ k) ∧ Drawn0 w w')
    case atStart => exact ⟨(0), sq_e, H', ⟨Nat.le_refl _⟩, by repeat (first | exact Drawn0.refl _ | apply Drawn0.step)⟩
    case round =>
      clear H'
      (try clear c1); (try clear p2); (try clear c3); (try clear c3b0); (try clear c3b1); (try clear c3b2)
      obtain ⟨x13_1, rfl, HA, HK1, ⟨m1, rfl⟩⟩ := hrel
      cases gk with
      | zero => exact absurd HA.out (by simp [laws_sameInts.l0])
      | succ k1 =>
        have H := HA.out
        clear HA
        simp only [laws_sameInts.l0] at H
        by_cases c4 : x13_1 < (l0.length : Int)
        · rw [if_pos c4] at H
          have c4b0 : decide (x13_1 < (l0.length : Int)) = true := decide_eq_true c4
          clear c4
          by_cases c5 : 0 ≤ x13_1
          rotate_left
          · rw [if_neg c5] at H
            exact absurd H (by simp)
          rw [if_pos c5] at H
          have c5b0 : decide (0 ≤ x13_1) = true := decide_eq_true c5
          clear c5
          by_cases c6 : x13_1 < (l0.length : Int)
          rotate_left
          · rw [if_neg c6] at H
            exact absurd H (by simp)
          rw [if_pos c6] at H
          have c6b0 : decide (x13_1 < (l0.length : Int)) = true := decide_eq_true c6
          clear c6
          by_cases c7 : x13_1 < (l1.length : Int)
          rotate_left
          · rw [if_neg c7] at H
            exact absurd H (by simp)
          rw [if_pos c7] at H
          have c7b0 : decide (x13_1 < (l1.length : Int)) = true := decide_eq_true c7
          clear c7
          by_cases c8 : (rd l0 x13_1) = (rd l1 x13_1)
          · rw [if_pos c8] at H
            have c8b0 : ((rd l0 x13_1) == (rd l1 x13_1)) = true := beq_iff_eq.mpr c8
            have c8b1 : ((rd l0 x13_1) != (rd l1 x13_1)) = false := bne_eq_false_iff_eq.mpr c8
            clear c8
            have H' := mk_ H
            clear H
            have p337 : 0 ≤ (x13_1 : Int) := sq_d
            have q337 : x13_1 < (l0.length : Int) := sq_d
            obtain ⟨ad337, e337, hx337_0⟩ := Kd.at_int HR0.out x13_1 p337 q337
            cases e337
            replace p337 := eq_true p337
            replace q337 := eq_true q337
            have p338 : 0 ≤ (x13_1 : Int) := sq_d
            have q338 : x13_1 < (l1.length : Int) := sq_d
            obtain ⟨ad338, e338, hx338_0⟩ := Kd.at_int HR1.out x13_1 p338 q338
            cases e338
            replace p338 := eq_true p338
            replace q338 := eq_true q338
            go_wp2
            repeat (go_quiet (fail); try go_wp2)
            go_roundg k1
            case measure => have := HK1.out; omega
            case rel => exact ⟨(wrap64 (x13_1 + 1)), sq_e, H', ⟨by have := HK1.out; omega⟩, by repeat (first | exact Drawn0.refl _ | apply Drawn0.step)⟩
          · rw [if_neg c8] at H
            have c8b0 : ((rd l0 x13_1) == (rd l1 x13_1)) = false := beq_eq_false_iff_ne.mpr c8
            have c8b1 : ((rd l0 x13_1) != (rd l1 x13_1)) = true := bne_iff_ne.mpr c8
            obtain rfl := Option.some.inj H
            have p337 : 0 ≤ (x13_1 : Int) := sq_d
            have q337 : x13_1 < (l0.length : Int) := sq_d
            obtain ⟨ad337, e337, hx337_0⟩ := Kd.at_int HR0.out x13_1 p337 q337
            cases e337
            replace p337 := eq_true p337
            replace q337 := eq_true q337
            have p338 : 0 ≤ (x13_1 : Int) := sq_d
            have q338 : x13_1 < (l1.length : Int) := sq_d
            obtain ⟨ad338, e338, hx338_0⟩ := Kd.at_int HR1.out x13_1 p338 q338
            cases e338
            replace p338 := eq_true p338
            replace q338 := eq_true q338
            go_wp2
            repeat (go_quiet (fail); try go_wp2)
            go_ret
            exact ⟨sq_e, by repeat (first | exact Drawn0.refl _ | apply Drawn0.step)⟩
        · rw [if_neg c4] at H
          have c4b0 : decide (x13_1 < (l0.length : Int)) = false := decide_eq_false c4
          clear c4
          obtain rfl := Option.some.inj H
          go_wp2
          repeat (go_quiet (fail); try go_wp2)
          go_ret
          exact ⟨sq_e, by repeat (first | exact Drawn0.refl _ | apply Drawn0.step)⟩
  · rw [if_neg c3] at H
    have c3b0 : ((l0.length : Int) == (l1.length : Int)) = false := beq_eq_false_iff_ne.mpr c3
    have c3b1 : ((l0.length : Int) != (l1.length : Int)) = true := bne_iff_ne.mpr c3
    have c3b2 : (l0.length == l1.length) = false := by first | simpa using c3 | (simp at c3 ⊢; omega)
    obtain rfl := Option.some.inj H
    go_enter Try.func64, Try.ntmps64
    go_wp2
    repeat (go_quiet (fail); try go_wp2)
    go_ret
    exact ⟨sq_e, by repeat (first | exact Drawn0.refl _ | apply Drawn0.step)⟩

/-! ### laws_sameLegs: function 34 (by hand) -/
def laws_sameLegs.l0 : Nat → List (S59) → List (S59) → Int → Int → Option (Bool)
 | 0, _, _, _, _ => none
 | k + 1, x0, x1, x12, x13 => if x13 < x12 then (if 0 ≤ x13 then (if x13 < (x0.length : Int) then (if x13 < (x1.length : Int) then (if ((rd_T59 x0 x13).f0) = ((rd_T59 x1 x13).f0) then (if ((rd_T59 x0 x13).f1) = ((rd_T59 x1 x13).f1) then (if ((rd_T59 x0 x13).f2) = ((rd_T59 x1 x13).f2) then ((laws_sameInts.f k ((rd_T59 x0 x13).f3) ((rd_T59 x1 x13).f3)).bind fun t354 => (if t354 = true then (laws_sameLegs.l0 k x0 x1 x12 (wrap64 (x13 + 1))) else (some false))) else (some false)) else (some false)) else (some false)) else (none)) else (none)) else (none)) else (some true)
def laws_sameLegs.f (k : Nat) (l0 : List (S59)) (l1 : List (S59)) : Option (Bool) := if (l0.length : Int) = (l1.length : Int) then (laws_sameLegs.l0 k l0 l1 (l0.length : Int) 0) else (some false)
theorem laws_sameLegs.mono_l : ∀ k, (∀ y0 y1 y2 y3, LeO (laws_sameLegs.l0 k y0 y1 y2 y3) (laws_sameLegs.l0 (k + 1) y0 y1 y2 y3))
 | 0 => fun _ _ _ _ r h => by simp [laws_sameLegs.l0] at h
 | k + 1 => by
  have ih0 := laws_sameLegs.mono_l k
  ·intro y0 y1 y2 y3
   unfold laws_sameLegs.l0
   repeat' first
   | (with_reducible exact ih0 _ _ _ _)
   | (with_reducible exact laws_sameInts.mono _ _ _)
   | (with_reducible exact LeO.refl _)
   | (with_reducible exact LeO.none _)
   | (with_reducible refine LeO.ite ?_ ?_)
   | (with_reducible refine LeO.bind ?_ (fun _ => ?_))
   | exact ih0 _ _ _ _
   | exact laws_sameInts.mono _ _ _
   | exact LeO.none _
   | refine LeO.ite ?_ ?_
   | refine LeO.bind ?_ (fun _ => ?_)
theorem laws_sameLegs.mono : ∀ a0 a1 k, LeO (laws_sameLegs.f k a0 a1) (laws_sameLegs.f (k + 1) a0 a1) := by
 intro a0 a1 k
 have ih0 := laws_sameLegs.mono_l k
 unfold laws_sameLegs.f
 repeat' first
   | (with_reducible exact ih0 _ _ _ _)
   | (with_reducible exact laws_sameInts.mono _ _ _)
   | (with_reducible exact LeO.refl _)
   | (with_reducible exact LeO.none _)
   | (with_reducible refine LeO.ite ?_ ?_)
   | (with_reducible refine LeO.bind ?_ (fun _ => ?_))
   | exact ih0 _ _ _ _
   | exact laws_sameInts.mono _ _ _
   | exact LeO.none _
   | refine LeO.ite ?_ ?_
   | refine LeO.bind ?_ (fun _ => ?_)
set_option maxHeartbeats 8000000 in
set_option maxRecDepth 100000 in
theorem laws_sameLegs.calls (k : Nat) (A0 : Option Addr) (c0 : Nat) (l0 : List (S59)) (A1 : Option Addr) (c1 : Nat) (l1 : List (S59)) (r : Bool) (w : World) (hr0 : Kd.C k59 w A0 l0.length l0) (hc0 : l0.length ≤ c0) (hr1 : Kd.C k59 w A1 l1.length l1) (hc1 : l1.length ≤ c1) (h : laws_sameLegs.f k l0 l1 = some r) :
    Calls Try.prog 34 #[.slice A0 l0.length c0, .slice A1 l1.length c1] w fun e w' => e = .returned (.bool r) ∧ Below w.heap.size w w' := by
  have HR0 := mk_ hr0
  have HR1 := mk_ hr1
  have HMX := mk_ (Kd.C_max hr0)
  clear hr0 hr1 hc0 hc1
  unfold laws_sameLegs.f at h
  by_cases hl : (l0.length : Int) = (l1.length : Int)
  rotate_left
  · rw [if_neg hl] at h
    injection h with h
    have HH := mk_ h
    have d1 : ((l0.length : Int) == (l1.length : Int)) = false := beq_eq_false_iff_ne.mpr hl
    have d2 : ((l0.length : Int) != (l1.length : Int)) = true := by rw [bne, d1]; rfl
    have d3 : (l0.length == l1.length) = false := beq_eq_false_iff_ne.mpr (by omega)
    have d4 := eq_false hl
    have d5 := eq_false (show ¬ l0.length = l1.length by omega)
    clear hl h
    go_enter Try.func34, Try.ntmps34
    go_wp2
    go_ret
    rw [← HH.out]
    exact ⟨rfl, Below.refl _ _⟩
  rw [if_pos hl] at h
  have HA0 := mk_ h
  have HL := mk_ (show l0.length = l1.length by omega)
  have d1 : ((l0.length : Int) == (l1.length : Int)) = true := beq_iff_eq.mpr hl
  have d2 : ((l0.length : Int) != (l1.length : Int)) = false := by rw [bne, d1]; rfl
  have d3 : (l0.length == l1.length) = true := beq_iff_eq.mpr (by omega)
  clear hl h
  go_enter Try.func34, Try.ntmps34
  go_wp2_with fail
  clear d1 d2 d3
  go_loopg [13] l0.length (fun kq v13 w' => ∃ (i q : Nat) (x : Int), v13 = .int .i64 x ∧ Aside0 (x = i) ∧ Aside0 (i + kq = l0.length) ∧ Aside0 (laws_sameLegs.l0 q l0 l1 (l0.length : Int) x = some r) ∧ Aside0 (q ≤ k) ∧ Aside0 (Below w.heap.size w w'))
  case atStart => exact ⟨0, k, 0, rfl, ⟨rfl⟩, ⟨by simp⟩, HA0, ⟨Nat.le_refl _⟩, ⟨Below.refl _ _⟩⟩
  case round => as_aux_lemma =>
    clear HA0
    obtain ⟨i, q, x, rfl, HX, HI, HA, HQ, HB⟩ := hrel
    cases q with
    | zero => have h := HA.out; simp only [laws_sameLegs.l0] at h; cases h
    | succ q =>
      have h := HA.out
      unfold laws_sameLegs.l0 at h
      cases gk with
      | zero =>
        have hge : ¬ x < (l0.length : Int) := by have := HX.out; have := HI.out; omega
        rw [if_neg hge] at h
        injection h with h
        have HH := mk_ h
        have c1 : decide (x < (l0.length : Int)) = false := decide_eq_false hge
        clear h hge
        go_wp2
        go_ret
        rw [← HH.out]
        exact ⟨rfl, HB.out⟩
      | succ k1 =>
        have p1 : x < (l0.length : Int) := by have := HX.out; have := HI.out; omega
        have p0 : 0 ≤ x := by have := HX.out; omega
        have p2 : x < (l1.length : Int) := by have := HL.out; omega
        rw [if_pos p1, if_pos p0, if_pos p1, if_pos p2] at h
        have c1 : decide (x < (l0.length : Int)) = true := decide_eq_true p1
        obtain ⟨ad0, B0, b0, rfl, hx0, hx1, hx2, hx3, hcx, hCx⟩ := at_T59 (Kd.C_below HR0.out HB.out) x p0 p1
        obtain ⟨ad1, B1, b1, rfl, hy0, hy1, hy2, hy3, hcy, hCy⟩ := at_T59 (Kd.C_below HR1.out HB.out) x p0 p2
        have HCX := mk_ (And.intro hcx hCx)
        have HCY := mk_ (And.intro hcy hCy)
        obtain ⟨y, hy⟩ : ∃ y, y = rd_T59 l0 x := ⟨_, rfl⟩
        obtain ⟨z, hz⟩ : ∃ z, z = rd_T59 l1 x := ⟨_, rfl⟩
        rw [← hy] at hx0 hx1 hx2 hx3 HCX h
        rw [← hz] at hy0 hy1 hy2 hy3 HCY h
        have HWX := mk_ (show wrap64 (x + 1) = x + 1 from by unfold wrap64; have := HMX.out; omega)
        have e0 := eq_true p0
        have e1 := eq_true p1
        have e2 := eq_true p2
        have da0 : decide (0 ≤ x) = true := decide_eq_true p0
        have da2 : decide (x < (l1.length : Int)) = true := decide_eq_true p2
        have HH := mk_ h
        clear hcx hCx hcy hCy hy hz h
        by_cases hc0 : y.f0 = z.f0
        rotate_left
        · have h := HH.out
          rw [if_neg hc0] at h
          injection h with h
          have HF := mk_ h
          have n0 : (y.f0 == z.f0) = false := beq_eq_false_iff_ne.mpr hc0
          have m0 : (y.f0 != z.f0) = true := by rw [bne, n0]; rfl
          have o0 := eq_false hc0
          have u0 : decide (y.f0 = z.f0) = false := decide_eq_false hc0
          clear h HH hc0
          go_wp2_with fail
          go_quiet (fail)
          go_wp2
          go_ret
          rw [← HF.out]
          exact ⟨rfl, pw_below_drewN HB.out _⟩
        by_cases hc1 : y.f1 = z.f1
        rotate_left
        · have h := HH.out
          rw [if_pos hc0, if_neg hc1] at h
          injection h with h
          have HF := mk_ h
          have n1 : (y.f1 == z.f1) = false := beq_eq_false_iff_ne.mpr hc1
          have m1 : (y.f1 != z.f1) = true := by rw [bne, n1]; rfl
          have o1 := eq_false hc1
          have u1 : decide (y.f1 = z.f1) = false := decide_eq_false hc1
          have n0 : (y.f0 == z.f0) = true := beq_iff_eq.mpr hc0
          have m0 : (y.f0 != z.f0) = false := by rw [bne, n0]; rfl
          clear h HH hc0 hc1
          go_wp2_with fail
          go_quiet (fail)
          go_wp2
          go_ret
          rw [← HF.out]
          exact ⟨rfl, pw_below_drewN HB.out _⟩
        by_cases hc2 : y.f2 = z.f2
        rotate_left
        · have h := HH.out
          rw [if_pos hc0, if_pos hc1, if_neg hc2] at h
          injection h with h
          have HF := mk_ h
          have n2 : (y.f2 == z.f2) = false := beq_eq_false_iff_ne.mpr hc2
          have m2 : (y.f2 != z.f2) = true := by rw [bne, n2]; rfl
          have o2 := eq_false hc2
          have u2 : decide (y.f2 = z.f2) = false := decide_eq_false hc2
          have n0 : (y.f0 == z.f0) = true := beq_iff_eq.mpr hc0
          have m0 : (y.f0 != z.f0) = false := by rw [bne, n0]; rfl
          have n1 : (y.f1 == z.f1) = true := beq_iff_eq.mpr hc1
          have m1 : (y.f1 != z.f1) = false := by rw [bne, n1]; rfl
          clear h HH hc0 hc1 hc2
          go_wp2_with fail
          go_quiet (fail)
          go_wp2
          go_ret
          rw [← HF.out]
          exact ⟨rfl, pw_below_drewN HB.out _⟩
        have h := HH.out
        rw [if_pos hc0, if_pos hc1, if_pos hc2] at h
        obtain ⟨b, hb, h⟩ := Option.bind_eq_some_iff.mp h
        have HBB := mk_ hb
        have HF := mk_ h
        have n0 : (y.f0 == z.f0) = true := beq_iff_eq.mpr hc0
        have m0 : (y.f0 != z.f0) = false := by rw [bne, n0]; rfl
        have n1 : (y.f1 == z.f1) = true := beq_iff_eq.mpr hc1
        have m1 : (y.f1 != z.f1) = false := by rw [bne, n1]; rfl
        have n2 : (y.f2 == z.f2) = true := beq_iff_eq.mpr hc2
        have m2 : (y.f2 != z.f2) = false := by rw [bne, n2]; rfl
        clear h hb HH hc0 hc1 hc2
        go_wp2_with fail
        go_quiet (first | (go_at_call 64; refine Calls.quiet_of ((laws_sameInts.calls q B0 b0 y.f3 B1 b1 z.f3 b _ (Kd.C_below HCX.out.2 (pw_below_drewN (Below.refl _ _) _)) HCX.out.1 (Kd.C_below HCY.out.2 (pw_below_drewN (Below.refl _ _) _)) HCY.out.1 HBB.out).mono (fun e w' hh => ⟨hh.1, hh.2.out⟩))))
        cases b with
        | true =>
          have h := HF.out
          rw [if_pos rfl] at h
          have HF2 := mk_ h
          clear h
          go_wp2
          go_roundg k1
          case measure => omega
          case rel => exact ⟨i + 1, q, x + 1, by rw [HWX.out], ⟨by have := HX.out; omega⟩, ⟨by have := HI.out; omega⟩, ⟨by have h := HF2.out; rw [HWX.out] at h; exact h⟩, ⟨by have := HQ.out; omega⟩, ⟨pw_below_drewN HB.out _⟩⟩
        | false =>
          have h := HF.out
          rw [if_neg (by simp)] at h
          injection h with h
          have HF2 := mk_ h
          clear h
          go_wp2
          go_ret
          rw [← HF2.out]
          exact ⟨rfl, pw_below_drewN HB.out _⟩

end Go.Proofs.Ytkoackkimdanjaa.QFnLegs
