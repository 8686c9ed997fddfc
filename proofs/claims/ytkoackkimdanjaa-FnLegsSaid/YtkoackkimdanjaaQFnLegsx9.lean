-- Written by this session's own program (wip/pp_patch.py, wip/pp.sh) out of the given translation. Not trusted: Lean checks it.
import Derived.Test.YtkoackkimdanjaaQFnLegsx0
import Derived.Test.YtkoackkimdanjaaQFnLegsx2
namespace Go.Proofs.Ytkoackkimdanjaa.QFnLegs
open Go.RowKit Go.Proofs.YtkoackkimdanjaaW.PrintWords Go.Proofs.YtkoackkimdanjaaW.PrintLast Go.Proofs.YtkoackkimdanjaaW.PrintMore
attribute [local go_sem] max2_int min2_int max_two min_two max_three min_three max_four min_four   -- for this text's walks alone
open Go.Proofs.Ytkoackkimdanjaa.Ext
attribute [local go_sem high] ext_gtr ext_leq
set_option linter.unusedVariables false
set_option linter.unusedSimpArgs false

theorem kids_x9 {w wc wr : World} {S : Nat → Prop} {ad : Addr} {n : Nat} {xs : List S59} (h : ∀ W_, Kept w W_ S → Kd.C k59 W_ (some ad) n xs) (i : Int) (h0 : 0 ≤ i) (h1 : i < n) (hk1 : Kept w wc S) (hk2 : Kept w wr S) {A : Option Addr} {c : Nat}
    (hc : wc.cell? ⟨(ad.add (i.toNat * 4)).block, (ad.add (i.toNat * 4)).off + 3, none⟩ = some (.slice A (rd_T59 xs i).f3.length c)) : (Kd.int .i64).C wr A (rd_T59 xs i).f3.length (rd_T59 xs i).f3 := by
  have hn : 0 < n := by omega
  have hb : ¬ S ad.block := Kd.foot_neS h hn (by decide)
  have hlt : ad.block < w.heap.size := Kd.foot_ltS h hn (by decide)
  have he : wr.heap[ad.block]? = wc.heap[ad.block]? := (hk2.2 _ hlt hb).trans (hk1.2 _ hlt hb).symm
  obtain ⟨ad', A', c', e, _, _, _, h3, _, hC⟩ := at_T59 (h wr hk2) i h0 h1
  injection e with e
  subst e
  have hb2 : ∀ m, (ad.add m).block = ad.block := fun m => by first | exact add_block _ _ | exact Kd.add_block _ _ | (rw [add_block])
  have hcc : wr.cell? ⟨(ad.add (i.toNat * 4)).block, (ad.add (i.toNat * 4)).off + 3, none⟩ = wc.cell? ⟨(ad.add (i.toNat * 4)).block, (ad.add (i.toNat * 4)).off + 3, none⟩ := by
    simp only [hb2]
    unfold World.cell?
    simp only [he]
  rw [hcc, hc] at h3
  injection h3 with h3
  injection h3 with h3 _ _
  rw [h3]
  exact hC
/-! ### spec_l13Entries: function 90 -/
mutual
def spec_l13Entries.j0 : Nat → List (S59) → Int → ByteArray → List (S48) → Option ((List (S48)))
  | 0, _, _, _, _ => none
  | k + 1, x0, x1, x2, x3 => if 0 ≤ x1 then (if x1 < (x0.length : Int) then (spec_l13Entries.l0 k x0 x1 x2 x3 ((rd_T59 x0 x1).f3) (((rd_T59 x0 x1).f3).length : Int) 0) else (none)) else (none)
def spec_l13Entries.l0 : Nat → List (S59) → Int → ByteArray → List (S48) → List Int → Int → Int → Option ((List (S48)))
  | 0, _, _, _, _, _, _, _ => none
  | k + 1, x0, x1, x2, x3, x31, x32, x33 => if x33 < x32 then (if 0 ≤ x33 then (if x33 < (x31.length : Int) then (if (rd x31 x33) > x1 then (if (rd x31 x33) < (x0.length : Int) then (if (x3.length : Int) ≤ 20 then (if (x2.size : Int) < 12 then (if 0 ≤ (rd x31 x33) then ((spec_l1In.f ((rd_T59 x0 (rd x31 x33)).f0) 0 25).bind fun t155 => (if t155 = true then ((some (([(wrap64 (97 + ((rd_T59 x0 (rd x31 x33)).f0))) % 256] : List Int) : List Int)).bind fun y157 => (if x2.size + (strOfNums y157).size ≤ 9223372036854775807 then ((spec_l13Entries.f k x0 (rd x31 x33) (x2 ++ (strOfNums y157)) x3).bind fun t160 => (spec_l13Entries.l0 k x0 x1 x2 t160 x31 x32 (wrap64 (x33 + 1)))) else (none))) else (spec_l13Entries.l0 k x0 x1 x2 x3 x31 x32 (wrap64 (x33 + 1))))) else (none)) else (spec_l13Entries.l0 k x0 x1 x2 x3 x31 x32 (wrap64 (x33 + 1)))) else (spec_l13Entries.l0 k x0 x1 x2 x3 x31 x32 (wrap64 (x33 + 1)))) else (spec_l13Entries.l0 k x0 x1 x2 x3 x31 x32 (wrap64 (x33 + 1)))) else (spec_l13Entries.l0 k x0 x1 x2 x3 x31 x32 (wrap64 (x33 + 1)))) else (none)) else (none)) else (some x3)
def spec_l13Entries.f : Nat → List (S59) → Int → ByteArray → List (S48) → Option ((List (S48)))
  | 0, _, _, _, _ => none
  | k + 1, l0, a1, a2, l3 => if 0 ≤ a1 then (if a1 < (l0.length : Int) then (if ((rd_T59 l0 a1).f1) > 0 then (if l3.length < 5864062014805 then (spec_l13Entries.j0 k l0 a1 a2 (l3 ++ [(⟨a2, (rd_T59 l0 a1).f1⟩ : S48)])) else (none)) else (spec_l13Entries.j0 k l0 a1 a2 l3)) else (none)) else (none)
end
theorem spec_l13Entries.mono_l : ∀ k, (∀ y0 y1 y2 y3, LeO (spec_l13Entries.f k y0 y1 y2 y3) (spec_l13Entries.f (k + 1) y0 y1 y2 y3)) ∧ (∀ y0 y1 y2 y3, LeO (spec_l13Entries.j0 k y0 y1 y2 y3) (spec_l13Entries.j0 (k + 1) y0 y1 y2 y3)) ∧ (∀ y0 y1 y2 y3 y4 y5 y6, LeO (spec_l13Entries.l0 k y0 y1 y2 y3 y4 y5 y6) (spec_l13Entries.l0 (k + 1) y0 y1 y2 y3 y4 y5 y6))
  | 0 => ⟨fun _ _ _ _ r h => by simp [spec_l13Entries.f] at h, fun _ _ _ _ r h => by simp [spec_l13Entries.j0] at h, fun _ _ _ _ _ _ _ r h => by simp [spec_l13Entries.l0] at h⟩
  | k + 1 => by
    obtain ⟨ih0, ih1, ih2⟩ := spec_l13Entries.mono_l k
    refine ⟨?_, ?_, ?_⟩
    · intro y0 y1 y2 y3
      unfold spec_l13Entries.f
      repeat' first
      | (with_reducible exact ih0 _ _ _ _)
      | (with_reducible exact ih1 _ _ _ _)
      | (with_reducible exact ih2 _ _ _ _ _ _ _)
      | (with_reducible exact LeO.refl _)
      | (with_reducible exact LeO.none _)
      | (with_reducible refine LeO.ite ?_ ?_)
      | (with_reducible refine LeO.bind ?_ (fun _ => ?_))
      | exact ih0 _ _ _ _
      | exact ih1 _ _ _ _
      | exact ih2 _ _ _ _ _ _ _
      | exact LeO.none _
      | refine LeO.ite ?_ ?_
      | refine LeO.bind ?_ (fun _ => ?_)
    · intro y0 y1 y2 y3
      unfold spec_l13Entries.j0
      repeat' first
      | (with_reducible exact ih0 _ _ _ _)
      | (with_reducible exact ih1 _ _ _ _)
      | (with_reducible exact ih2 _ _ _ _ _ _ _)
      | (with_reducible exact LeO.refl _)
      | (with_reducible exact LeO.none _)
      | (with_reducible refine LeO.ite ?_ ?_)
      | (with_reducible refine LeO.bind ?_ (fun _ => ?_))
      | exact ih0 _ _ _ _
      | exact ih1 _ _ _ _
      | exact ih2 _ _ _ _ _ _ _
      | exact LeO.none _
      | refine LeO.ite ?_ ?_
      | refine LeO.bind ?_ (fun _ => ?_)
    · intro y0 y1 y2 y3 y4 y5 y6
      unfold spec_l13Entries.l0
      repeat' first
      | (with_reducible exact ih0 _ _ _ _)
      | (with_reducible exact ih1 _ _ _ _)
      | (with_reducible exact ih2 _ _ _ _ _ _ _)
      | (with_reducible exact LeO.refl _)
      | (with_reducible exact LeO.none _)
      | (with_reducible refine LeO.ite ?_ ?_)
      | (with_reducible refine LeO.bind ?_ (fun _ => ?_))
      | exact ih0 _ _ _ _
      | exact ih1 _ _ _ _
      | exact ih2 _ _ _ _ _ _ _
      | exact LeO.none _
      | refine LeO.ite ?_ ?_
      | refine LeO.bind ?_ (fun _ => ?_)
theorem spec_l13Entries.mono : ∀ a0 a1 a2 a3 k, LeO (spec_l13Entries.f k a0 a1 a2 a3) (spec_l13Entries.f (k + 1) a0 a1 a2 a3) := by
  intro a0 a1 a2 a3 k
  obtain ⟨ih0, ih1, ih2⟩ := spec_l13Entries.mono_l k
  exact ih0 a0 a1 a2 a3
set_option maxHeartbeats 8000000 in
set_option maxRecDepth 100000 in
theorem spec_l13Entries.calls (k : Nat) : ∀ (A0 : Option Addr) (c0 : Nat) (l0 : List (S59)) (a1 : Int) (a2 : ByteArray) (P3_ : Nat → Prop) (u9000_ : Value) (l3 : List (S48)) (r : List (S48)) (w0 w : World) (hB : Below w0.heap.size w0 w) (hr0 : ∀ W_, Kept w W_ (fun k_ => P3_ k_) → Kd.C k59 W_ A0 l0.length l0) (hc0 : l0.length ≤ c0) (ho3 : Kd.R k48 48 w w0.heap.size P3_ u9000_ l3) (h : spec_l13Entries.f k l0 a1 a2 l3 = some r),
    Calls Try.prog 90 #[.slice A0 l0.length c0, .int .i64 a1, .string a2, u9000_] w fun e w' => ∃ v0_ : Value, e = .returned (v0_) ∧ Kd.R k48 48 w' w0.heap.size (fun k_ => (P3_ k_ ∨ w.heap.size ≤ k_)) v0_ r ∧ Below w0.heap.size w0 w' ∧ Kept w w' (fun k_ => P3_ k_) := by
  induction k using Nat.strongRecOn with
  | _ k ih =>
  intro A0 c0 l0 a1 a2 P3_ u9000_ l3 r w0 w hB hr0 hc0 ho3 h
  cases k with
  | zero => exact absurd h (by simp [spec_l13Entries.f])
  | succ k =>
  simp only [spec_l13Entries.f] at h
  have hu48 := Try.underlying48
  have HR0 := mk_ hr0
  have HC0 := mk_ hc0
  clear hr0 hc0
  have HO3 := mk_ (show Kd.R k48 48 w w0.heap.size (fun k_ => (P3_ k_ ∨ w.heap.size ≤ k_)) u9000_ l3 from Kd.R_mono ho3 (fun k_ hk => (.inl hk)))
  have HK := mk_ (Kept.refl w (fun k_ => P3_ k_))
  have HW0 := mk_ hB.size
  have HB := mk_ hB
  clear hB
  have H : (if 0 ≤ a1 then (if a1 < (l0.length : Int) then (if ((rd_T59 l0 a1).f1) > 0 then (if l3.length < 5864062014805 then (spec_l13Entries.j0 k l0 a1 a2 (l3 ++ [(⟨a2, (rd_T59 l0 a1).f1⟩ : S48)])) else (none)) else (spec_l13Entries.j0 k l0 a1 a2 l3)) else (none)) else (none)) = some r := h
  clear h
  by_cases c5 : 0 ≤ a1
  · rw [if_pos c5] at H
    have c5b0 : decide (0 ≤ a1) = true := decide_eq_true c5
    clear c5
    by_cases c6 : a1 < (l0.length : Int)
    rotate_left
    · rw [if_neg c6] at H
      exact absurd H (by simp)
    rw [if_pos c6] at H
    have c6b0 : decide (a1 < (l0.length : Int)) = true := decide_eq_true c6
    clear c6
    have HC7 := mk_ H
    clear H
    have p147 : 0 ≤ (a1 : Int) := sq_d
    have q147 : a1 < (l0.length : Int) := sq_d
    obtain ⟨ad147, A147_3, c147_3, e147, hx147_0, hx147_1, hx147_2, hx147_3, hl147_3, hi147_3⟩ := at_T59 (Kd.C_kept_now HR0.out HK.out) a1 p147 q147
    cases e147
    have HR147_3 := mk_ hi147_3
    have HC147_3 := mk_ hl147_3
    clear hi147_3 hl147_3
    replace p147 := eq_true p147
    replace q147 := eq_true q147
    go_enter Try.func90, Try.ntmps90
    go_upto_if 16 with (fail)
    go_cut [3] (fun v3 wc => ∃ (kq : Nat) (x3_6 : List (S48)), Aside0 (spec_l13Entries.j0 kq l0 a1 a2 x3_6 = some r) ∧ Aside0 (kq ≤ k) ∧ Aside0 (Kd.R k48 48 wc w0.heap.size (fun k_ => (P3_ k_ ∨ w.heap.size ≤ k_)) v3 x3_6) ∧ Aside0 (Kept w wc (fun k_ => P3_ k_)) ∧ Aside0 (Below w0.heap.size w0 wc))
    case first =>
      have H := HC7.out
      clear HC7
      by_cases c8 : ((rd_T59 l0 a1).f1) > 0
      · rw [if_pos c8] at H
        have c8b0 : decide (0 < ((rd_T59 l0 a1).f1)) = true := decide_eq_true c8
        clear c8
        (first | rw [c8b0] | (simp only [i64_w, i32_w]; rw [c8b0]) | skip)
        by_cases c9 : l3.length < 5864062014805
        rotate_left
        · rw [if_neg c9] at H
          exact absurd H (by simp)
        rw [if_pos c9] at H
        have LMc9 := mk_ c9
        clear c9
        obtain ⟨y149, hy149⟩ : ∃ y_ : List (S48), y_ = (l3 ++ [(⟨a2, (rd_T59 l0 a1).f1⟩ : S48)]) := ⟨_, rfl⟩
        replace H : (spec_l13Entries.j0 k l0 a1 a2 y149) = some r := by first | (rw [hy149]; with_reducible exact H) | (have H2_ := (Option.bind_some _ _).symm.trans H; rw [hy149]; with_reducible exact H2_) | (have H2_ := (Option.bind_some _ _).symm.trans H; with_reducible exact H2_) | with_reducible exact H | (rw [hy149]; exact H) | exact H
        have Ny149 := mk_ hy149
        clear hy149
        have H' := mk_ H
        clear H
        have p148 : 0 ≤ (a1 : Int) := sq_d
        have q148 : a1 < (l0.length : Int) := sq_d
        obtain ⟨ad148, A148_3, c148_3, e148, hx148_0, hx148_1, hx148_2, hx148_3, hl148_3, hi148_3⟩ := at_T59 (Kd.C_kept_now HR0.out HK.out) a1 p148 q148
        obtain rfl : ad147 = ad148 := (by injection e148)
        have HR148_3 := mk_ hi148_3
        have HC148_3 := mk_ hl148_3
        clear hi148_3 hl148_3
        replace p148 := eq_true p148
        replace q148 := eq_true q148
        go_wp2_with (first | ((with_reducible refine gate_builtin (b := .append) (xs := #[.tmp 17, .tmp 25]) rfl ?_); (try (refine gate_guard (by rfl) ?_; dsimp only)); at_builtin; refine Kd.R_append k48 (w0 := w0) w0.heap.size rfl (.tmp 17) (.tmp 25) 27 48 (.agg #[(.string ⟨#[]⟩), (.int .i64 0)]) 24 rfl Try.underlying27 info48 rfl (by decide) (by omega) u9000_ l3 (⟨a2, (rd_T59 l0 a1).f1⟩ : S48) [.string a2, .int .i64 ((rd_T59 l0 a1).f1)] (fun k_ => (P3_ k_ ∨ w.heap.size ≤ k_)) (fun _ => False) rfl rfl ?aP (fun _ hk => hk.elim) ?aF ?aO ?aB ?aS ?aL ?_; (case aP => exact k48_mkM _ _ _ (⟨a2, (rd_T59 l0 a1).f1⟩ : S48)); (case aB => exact sq_b); (case aF => exact (fun k_ hk => (.inr (Nat.le_trans (by first | exact HK.out.1 | exact (show Kept w _ (fun k_ => P3_ k_) from by repeat (first | (with_reducible first | exact HK.out | apply Kept.alloc | apply Kept.drewN | apply Kept.drew) | exact HK.out)).1) hk)))); (case aO => exact (sq_r HO3)); (case aS => exact (below_size sq_b)); (case aL => have := LMc9.out; omega); intro v150 w10 ho hb hg hat; rw [← Ny149.out] at ho; have n0_ := mk_ (hb); have n1_ := mk_ (Kept.of_grown (S := (fun k_ => P3_ k_)) hg sq_k (fun k_ e_ => (HO3.out.1 k_ e_))); have n2_ := mk_ (ho); clear HB HK HO3; have HB := n0_; have HK := n1_; have HO151 := n2_; clear n0_ n1_ n2_; clear ho hb hg hat))
        go_meet
        case rel => exact ⟨_, (y149), H', ⟨by first | omega | exact Nat.le_refl _⟩, ⟨by (with_reducible repeat (first | apply Kd.R_alloc | apply Kd.R_drewN | apply Kd.R_drew)); exact HO151.out⟩, ⟨sq_k⟩, ⟨sq_b⟩⟩
      · rw [if_neg c8] at H
        have c8b0 : decide (0 < ((rd_T59 l0 a1).f1)) = false := decide_eq_false c8
        clear c8
        (first | rw [c8b0] | (simp only [i64_w, i32_w]; rw [c8b0]) | skip)
        have H' := mk_ H
        clear H
        go_wp2
        go_meet
        case rel => exact ⟨_, (l3), H', ⟨by first | omega | exact Nat.le_refl _⟩, ⟨by (with_reducible repeat (first | apply Kd.R_alloc | apply Kd.R_drewN | apply Kd.R_drew)); exact HO3.out⟩, ⟨sq_k⟩, ⟨sq_b⟩⟩
    case rest =>
      clear HC7
      (try clear c1); (try clear p1); (try clear q1); (try clear hx1); (try clear p2); (try clear c5); (try clear c5b0); (try clear c6); (try clear c6b0); (try clear c8); (try clear c8b0); (try clear c9); (try clear hx147_0); (try clear hx147_1); (try clear hx147_2); (try clear hx147_3); (try clear hx148_0); (try clear hx148_1); (try clear hx148_2); (try clear hx148_3); (try clear p147); (try clear p148)
      (try clear q147); (try clear q148)
      obtain ⟨kq, x3_6, HA, HJ6, HO_3, HK, HB⟩ := hcut
      cases kq with
      | zero => exact absurd HA.out (by simp [spec_l13Entries.j0])
      | succ kj6 =>
        have H := HA.out
        clear HA
        simp only [spec_l13Entries.j0] at H
        by_cases c11 : 0 ≤ a1
        rotate_left
        · rw [if_neg c11] at H
          exact absurd H (by simp)
        rw [if_pos c11] at H
        have c11b0 : decide (0 ≤ a1) = true := decide_eq_true c11
        clear c11
        by_cases c12 : a1 < (l0.length : Int)
        rotate_left
        · rw [if_neg c12] at H
          exact absurd H (by simp)
        rw [if_pos c12] at H
        have c12b0 : decide (a1 < (l0.length : Int)) = true := decide_eq_true c12
        clear c12
        have H' := mk_ H
        clear H
        have p152 : 0 ≤ (a1 : Int) := sq_d
        have q152 : a1 < (l0.length : Int) := sq_d
        obtain ⟨ad152, A152_3, c152_3, e152, hx152_0, hx152_1, hx152_2, hx152_3, hl152_3, hi152_3⟩ := at_T59 (Kd.C_kept_now HR0.out HK.out) a1 p152 q152
        have HHX152 := mk_ hx152_3
        have HHK152 := mk_ HK.out
        have HHP152 := mk_ (And.intro p152 q152)
        obtain rfl : ad147 = ad152 := (by injection e152)
        have HR152_3 := mk_ hi152_3
        have HC152_3 := mk_ hl152_3
        clear hi152_3 hl152_3
        replace p152 := eq_true p152
        replace q152 := eq_true q152
        go_wp2
        go_loopg [3, 33] kj6 (fun kq v3 v33 w' => ∃ (x3_2 : List (S48)) (x33_2 : Int), v33 = .int .i64 x33_2 ∧ Aside0 (spec_l13Entries.l0 kq l0 a1 a2 x3_2 ((rd_T59 l0 a1).f3) (((rd_T59 l0 a1).f3).length : Int) x33_2 = some r) ∧ Aside0 (kq ≤ kj6) ∧ Aside0 (Kd.R k48 48 w' w0.heap.size (fun k_ => (P3_ k_ ∨ w.heap.size ≤ k_)) v3 x3_2) ∧ Aside0 (Kept w w' (fun k_ => P3_ k_)) ∧ Aside0 (Below w0.heap.size w0 w'))
        case atStart => exact ⟨(x3_6), (0), sq_e, H', ⟨Nat.le_refl _⟩, ⟨by (with_reducible repeat (first | apply Kd.R_alloc | apply Kd.R_drewN | apply Kd.R_drew)); exact HO_3.out⟩, ⟨sq_k⟩, ⟨sq_b⟩⟩
        case round =>
          clear H'
          (try clear c1); (try clear p1); (try clear q1); (try clear hx1); (try clear p2); (try clear c5); (try clear c5b0); (try clear c6); (try clear c6b0); (try clear c8); (try clear c8b0); (try clear c9); (try clear c11); (try clear c11b0); (try clear c12); (try clear c12b0); (try clear hx147_0); (try clear hx147_1); (try clear hx147_2); (try clear hx147_3); (try clear hx148_0); (try clear hx148_1)
          (try clear hx148_2); (try clear hx148_3); (try clear hx152_0); (try clear hx152_1); (try clear hx152_2); (try clear hx152_3); (try clear p1); (try clear p147); (try clear p148); (try clear p152); (try clear p2); (try clear q1); (try clear q147); (try clear q148); (try clear q152)
          obtain ⟨x3_2, x33_2, rfl, HA, HK2, HO_3, HK, HB⟩ := hrel
          cases gk with
          | zero => exact absurd HA.out (by simp [spec_l13Entries.l0])
          | succ k2 =>
            have H := HA.out
            clear HA
            simp only [spec_l13Entries.l0] at H
            by_cases c13 : x33_2 < (((rd_T59 l0 a1).f3).length : Int)
            · rw [if_pos c13] at H
              have c13b0 : decide (x33_2 < (((rd_T59 l0 a1).f3).length : Int)) = true := decide_eq_true c13
              clear c13
              by_cases c14 : 0 ≤ x33_2
              rotate_left
              · rw [if_neg c14] at H
                exact absurd H (by simp)
              rw [if_pos c14] at H
              have c14b0 : decide (0 ≤ x33_2) = true := decide_eq_true c14
              clear c14
              by_cases c15 : x33_2 < (((rd_T59 l0 a1).f3).length : Int)
              rotate_left
              · rw [if_neg c15] at H
                exact absurd H (by simp)
              rw [if_pos c15] at H
              have c15b0 : decide (x33_2 < (((rd_T59 l0 a1).f3).length : Int)) = true := decide_eq_true c15
              clear c15
              by_cases c16 : (rd ((rd_T59 l0 a1).f3) x33_2) > a1
              · rw [if_pos c16] at H
                have c16b0 : decide (a1 < (rd ((rd_T59 l0 a1).f3) x33_2)) = true := decide_eq_true c16
                clear c16
                by_cases c17 : (rd ((rd_T59 l0 a1).f3) x33_2) < (l0.length : Int)
                · rw [if_pos c17] at H
                  have c17b0 : decide ((rd ((rd_T59 l0 a1).f3) x33_2) < (l0.length : Int)) = true := decide_eq_true c17
                  clear c17
                  by_cases c18 : (x3_2.length : Int) ≤ 20
                  · rw [if_pos c18] at H
                    have c18b0 : decide ((x3_2.length : Int) ≤ 20) = true := decide_eq_true c18
                    have c18b1 : decide (x3_2.length ≤ 20) = true := decide_eq_true (by omega)
                    clear c18
                    by_cases c19 : (a2.size : Int) < 12
                    · rw [if_pos c19] at H
                      have c19b0 : decide ((a2.size : Int) < 12) = true := decide_eq_true c19
                      have c19b1 : decide (a2.size < 12) = true := decide_eq_true (by omega)
                      clear c19
                      by_cases c20 : 0 ≤ (rd ((rd_T59 l0 a1).f3) x33_2)
                      rotate_left
                      · rw [if_neg c20] at H
                        exact absurd H (by simp)
                      rw [if_pos c20] at H
                      have c20b0 : decide (0 ≤ (rd ((rd_T59 l0 a1).f3) x33_2)) = true := decide_eq_true c20
                      clear c20
                      replace H := Option.bind_eq_some_iff.mp H
                      obtain ⟨t155, A210, H⟩ := H
                      replace H : (if t155 = true then ((some (([(wrap64 (97 + ((rd_T59 l0 (rd ((rd_T59 l0 a1).f3) x33_2)).f0))) % 256] : List Int) : List Int)).bind fun y157 => (if a2.size + (strOfNums y157).size ≤ 9223372036854775807 then ((spec_l13Entries.f k2 l0 (rd ((rd_T59 l0 a1).f3) x33_2) (a2 ++ (strOfNums y157)) x3_2).bind fun t160 => (spec_l13Entries.l0 k2 l0 a1 a2 t160 ((rd_T59 l0 a1).f3) (((rd_T59 l0 a1).f3).length : Int) (wrap64 (x33_2 + 1)))) else (none))) else (spec_l13Entries.l0 k2 l0 a1 a2 x3_2 ((rd_T59 l0 a1).f3) (((rd_T59 l0 a1).f3).length : Int) (wrap64 (x33_2 + 1)))) = some r := H
                      have A21 := mk_ A210
                      clear A210
                      by_cases c22 : t155 = true
                      · subst c22
                        have H1 : ((some (([(wrap64 (97 + ((rd_T59 l0 (rd ((rd_T59 l0 a1).f3) x33_2)).f0))) % 256] : List Int) : List Int)).bind fun y157 => (if a2.size + (strOfNums y157).size ≤ 9223372036854775807 then ((spec_l13Entries.f k2 l0 (rd ((rd_T59 l0 a1).f3) x33_2) (a2 ++ (strOfNums y157)) x3_2).bind fun t160 => (spec_l13Entries.l0 k2 l0 a1 a2 t160 ((rd_T59 l0 a1).f3) (((rd_T59 l0 a1).f3).length : Int) (wrap64 (x33_2 + 1)))) else (none))) = some r := by rw [if_pos rfl] at H; exact H
                        clear H
                        have H := H1
                        clear H1
                        obtain ⟨y157, hy157⟩ : ∃ y_ : List Int, y_ = (([(wrap64 (97 + ((rd_T59 l0 (rd ((rd_T59 l0 a1).f3) x33_2)).f0))) % 256] : List Int)) := ⟨_, rfl⟩
                        replace H : (if a2.size + (strOfNums y157).size ≤ 9223372036854775807 then ((spec_l13Entries.f k2 l0 (rd ((rd_T59 l0 a1).f3) x33_2) (a2 ++ (strOfNums y157)) x3_2).bind fun t160 => (spec_l13Entries.l0 k2 l0 a1 a2 t160 ((rd_T59 l0 a1).f3) (((rd_T59 l0 a1).f3).length : Int) (wrap64 (x33_2 + 1)))) else (none)) = some r := by first | (rw [hy157]; with_reducible exact H) | (have H2_ := (Option.bind_some _ _).symm.trans H; rw [hy157]; with_reducible exact H2_) | (have H2_ := (Option.bind_some _ _).symm.trans H; with_reducible exact H2_) | with_reducible exact H | (rw [hy157]; exact H) | exact H
                        have Ny157 := mk_ hy157
                        clear hy157
                        by_cases c23 : a2.size + (strOfNums y157).size ≤ 9223372036854775807
                        rotate_left
                        · rw [if_neg c23] at H
                          exact absurd H (by simp)
                        rw [if_pos c23] at H
                        have c23b0 := eq_true c23
                        have c23b1 : decide (a2.size + (strOfNums y157).size ≤ 9223372036854775807) = true := decide_eq_true c23
                        try have c23b2 : (9223372036854775807 < a2.size + (strOfNums y157).size) = False := eq_false (Nat.not_lt.2 c23)
                        replace H := Option.bind_eq_some_iff.mp H
                        obtain ⟨t160, A240, H⟩ := H
                        replace H : (spec_l13Entries.l0 k2 l0 a1 a2 t160 ((rd_T59 l0 a1).f3) (((rd_T59 l0 a1).f3).length : Int) (wrap64 (x33_2 + 1))) = some r := H
                        have A24 := mk_ A240
                        clear A240
                        have H' := mk_ H
                        clear H
                        have p153 : 0 ≤ (x33_2 : Int) := sq_d
                        have q153 : x33_2 < (((rd_T59 l0 a1).f3).length : Int) := sq_d
                        obtain ⟨ad153, e153, hx153_0⟩ := Kd.at_int (kids_x9 HR0.out a1 HHP152.out.1 HHP152.out.2 HHK152.out HK.out HHX152.out) x33_2 p153 q153
                        cases e153
                        try replace hx153_0 := (HB.out.cell (World.block_lt_of_cell? w _ hx153_0)).trans hx153_0
                        replace p153 := eq_true p153
                        replace q153 := eq_true q153
                        obtain ⟨Ao25, co25, eo25⟩ := Kd.R_slice HO_3.out
                        subst eo25
                        have p154 : 0 ≤ ((rd ((rd_T59 l0 a1).f3) x33_2) : Int) := sq_d
                        have q154 : (rd ((rd_T59 l0 a1).f3) x33_2) < (l0.length : Int) := sq_d
                        obtain ⟨ad154, A154_3, c154_3, e154, hx154_0, hx154_1, hx154_2, hx154_3, hl154_3, hi154_3⟩ := at_T59 (Kd.C_kept_now HR0.out HK.out) (rd ((rd_T59 l0 a1).f3) x33_2) p154 q154
                        obtain rfl : ad147 = ad154 := (by injection e154)
                        have HR154_3 := mk_ hi154_3
                        have HC154_3 := mk_ hl154_3
                        clear hi154_3 hl154_3
                        replace p154 := eq_true p154
                        replace q154 := eq_true q154
                        go_wp2_with (first | (go_at_call 67; (with_reducible refine (spec_l1In.calls ((rd_T59 l0 (rd ((rd_T59 l0 a1).f3) x33_2)).f0) 0 25 true _ A21.out).mono ?_); rintro e w' ⟨rfl, ⟨nd, rfl⟩⟩; have p156 : 0 ≤ ((rd ((rd_T59 l0 a1).f3) x33_2) : Int) := sq_d; have q156 : (rd ((rd_T59 l0 a1).f3) x33_2) < (l0.length : Int) := sq_d; obtain ⟨ad156, A156_3, c156_3, e156, hx156_0, hx156_1, hx156_2, hx156_3, hl156_3, hi156_3⟩ := at_T59 (Kd.C_kept_now HR0.out HK.out) (rd ((rd_T59 l0 a1).f3) x33_2) p156 q156; obtain rfl : ad147 = ad156 := (by injection e156); have HR156_3 := mk_ hi156_3; have HC156_3 := mk_ hl156_3; clear hi156_3 hl156_3; replace p156 := eq_true p156; replace q156 := eq_true q156; have ea_ := Option.some.inj (hx154_3.symm.trans hx156_3); injection ea_ with ea_ en_ ec_; subst ea_; subst ec_; clear en_) | ((with_reducible refine gate_dst (N := 74) rfl ?_); (try (refine gate_guard (by rfl) ?_; dsimp only)); refine Kd.R_lit (Kd.int .u8) _ 5 sq_0 (N := 74) sq_0 (xs := ([(wrap64 (97 + ((rd_T59 l0 (rd ((rd_T59 l0 a1).f3) x33_2)).f0))) % 256] : List Int)) (inner := [.int .u8 ((wrap64 (97 + ((rd_T59 l0 (rd ((rd_T59 l0 a1).f3) x33_2)).f0))) % 256)]) (ok := fun _ => True) (okp := fun _ => True) sq_h ?hp (fun _ hk => hk) trivial (Below.refl _ _) (Nat.le_refl _) (by simp) ?_; (case hp => exact (Reps.one (show Kd.M (Kd.int .u8) _ _ _ ((wrap64 (97 + ((rd_T59 l0 (rd ((rd_T59 l0 a1).f3) x33_2)).f0))) % 256) [.int .u8 ((wrap64 (97 + ((rd_T59 l0 (rd ((rd_T59 l0 a1).f3) x33_2)).f0))) % 256)] from rfl) (Reps.none _ _))); intro v158 w26 ho27 hb hg_ hnew_; clear hg_ hnew_; (first | rw [← Ny157.out] at ho27 | (simp only [Int.reduceToNat] at ho27; rw [← Ny157.out] at ho27)); have n0_ := mk_ (Kd.R_below (sq_r HO_3) hb); have n1_ := mk_ (Kd.R_lower (Kd.R_newM (M := fun k_ => (P3_ k_ ∨ w.heap.size ≤ k_)) ho27 (by first | exact HK.out.1 | exact (show Kept w _ (fun k_ => P3_ k_) from by repeat (first | (with_reducible first | exact HK.out | apply Kept.alloc | apply Kept.drewN | apply Kept.drew) | exact HK.out)).1) (fun k_ h_ => .inr h_)) (below_size sq_b)); have n2_ := mk_ (Kd.C_below (by repeat (first | (with_reducible exact HR154_3.out) | (with_reducible refine Kd.C_alloc ?_ _) | (with_reducible refine Kd.C_drewN ?_ _) | (with_reducible refine Kd.C_drew ?_) | exact HR154_3.out)) hb); have n3_ := mk_ (Kd.C_below (by repeat (first | (with_reducible exact HR156_3.out) | (with_reducible refine Kd.C_alloc ?_ _) | (with_reducible refine Kd.C_drewN ?_ _) | (with_reducible refine Kd.C_drew ?_) | exact HR156_3.out)) hb); have n4_ := mk_ (Kept.below (S := (fun k_ => P3_ k_)) sq_k hb); have n5_ := mk_ (below_step sq_b hb); clear HO_3 HR154_3 HR156_3 HK HB; have HO_3 := n0_; have HO159 := n1_; have HR154_3 := n2_; have HR156_3 := n3_; have HK := n4_; have HB := n5_; clear n0_ n1_ n2_ n3_ n4_ n5_; clear hb ho27; have hcv28 := own_string (P := Try.prog) Try.underlying51 Try.underlying5 Try.underlying9 (Kd.own_of_R HO159.out)) | ((with_reducible refine gate_callee (f := 90) rfl ?_); refine goesL_ (some 78) rfl rfl Try.func90 (by kernel_rfl) rfl #[.slice (some ad147) l0.length c0, .int .i64 (rd ((rd_T59 l0 a1).f3) x33_2), .string (a2 ++ (strOfNums y157)), .slice Ao25 x3_2.length co25] rfl sq_a ?_; (with_reducible refine (ih k2 (by have := HJ6.out; have := HK2.out; omega) _ _ l0 (rd ((rd_T59 l0 a1).f3) x33_2) (a2 ++ (strOfNums y157)) (fun k_ => some k_ = (.slice Ao25 x3_2.length co25 : Value).ownBlock) (.slice Ao25 x3_2.length co25) x3_2 t160 w0 _ ?side1 ?side2 ?side3 ?side4 A24.out).mono ?_); (case side1 => repeat (first | (with_reducible first | exact HB.out | apply below_alloc | apply pw_below_drewN | apply below_drew1) | exact HB.out)); (case side2 => exact Kd.C_kept_call HR0.out sq_k (fun k_ hs_ => (fun e_ => (HO_3.out.1 k_ e_.symm)) hs_)); (case side3 => exact HC0.out); (case side4 => exact Kd.R_tight rfl HO_3.out); rintro e w29 ⟨v161, rfl, ho0, hb, hkp⟩; refine ⟨_, rfl, ?_⟩; have n0_ := mk_ (Kd.R_mono (ok' := fun k_ => (P3_ k_ ∨ w.heap.size ≤ k_)) (Kd.R_keptB ((Kd.R_apart' HO159.out (Kd.R_typed HO_3.out) (by decide))) hkp (fun k_ hk_ hs_ => (hk_.2) hs_)) (fun k_ hk_ => hk_.1.1.1)); have n1_ := mk_ (Kd.R_mono (ok' := fun k_ => (P3_ k_ ∨ w.heap.size ≤ k_)) ho0 (fun k_ hk_ => Or.elim hk_ (fun hs_ => (HO_3.out.1 k_ (hs_).symm)) (fun hn_ => (.inr (Nat.le_trans (by first | exact HK.out.1 | exact (show Kept w _ (fun k_ => P3_ k_) from by repeat (first | (with_reducible first | exact HK.out | apply Kept.alloc | apply Kept.drewN | apply Kept.drew) | exact HK.out)).1) hn_))))); have n2_ := mk_ (Kept.then_ (S := (fun k_ => P3_ k_)) sq_k hkp (fun k_ hs_ => (fun e_ => (HO_3.out.1 k_ e_.symm)) hs_)); have n3_ := mk_ (hb); clear HO159 HK HB HO_3; have HO159 := n0_; have HO162 := n1_; have HK := n2_; have HB := n3_; clear n0_ n1_ n2_ n3_; (try clear hb); (try clear hkp); (try clear ho0)))
                        go_roundg k2
                        case measure => have := HJ6.out; have := HK2.out; omega
                        case rel => exact ⟨(t160), (wrap64 (x33_2 + 1)), sq_e, H', ⟨by have := HJ6.out; have := HK2.out; omega⟩, ⟨by (with_reducible repeat (first | apply Kd.R_alloc | apply Kd.R_drewN | apply Kd.R_drew)); exact HO162.out⟩, ⟨sq_k⟩, ⟨sq_b⟩⟩
                      · replace c22 := Bool.eq_false_iff.mpr c22
                        subst c22
                        have H1 : (spec_l13Entries.l0 k2 l0 a1 a2 x3_2 ((rd_T59 l0 a1).f3) (((rd_T59 l0 a1).f3).length : Int) (wrap64 (x33_2 + 1))) = some r := by rw [if_neg (show ¬ (false = true) by decide)] at H; exact H
                        clear H
                        have H := H1
                        clear H1
                        have H' := mk_ H
                        clear H
                        have p153 : 0 ≤ (x33_2 : Int) := sq_d
                        have q153 : x33_2 < (((rd_T59 l0 a1).f3).length : Int) := sq_d
                        obtain ⟨ad153, e153, hx153_0⟩ := Kd.at_int (kids_x9 HR0.out a1 HHP152.out.1 HHP152.out.2 HHK152.out HK.out HHX152.out) x33_2 p153 q153
                        cases e153
                        try replace hx153_0 := (HB.out.cell (World.block_lt_of_cell? w _ hx153_0)).trans hx153_0
                        replace p153 := eq_true p153
                        replace q153 := eq_true q153
                        obtain ⟨Ao30, co30, eo30⟩ := Kd.R_slice HO_3.out
                        subst eo30
                        have p154 : 0 ≤ ((rd ((rd_T59 l0 a1).f3) x33_2) : Int) := sq_d
                        have q154 : (rd ((rd_T59 l0 a1).f3) x33_2) < (l0.length : Int) := sq_d
                        obtain ⟨ad154, A154_3, c154_3, e154, hx154_0, hx154_1, hx154_2, hx154_3, hl154_3, hi154_3⟩ := at_T59 (Kd.C_kept_now HR0.out HK.out) (rd ((rd_T59 l0 a1).f3) x33_2) p154 q154
                        obtain rfl : ad147 = ad154 := (by injection e154)
                        have HR154_3 := mk_ hi154_3
                        have HC154_3 := mk_ hl154_3
                        clear hi154_3 hl154_3
                        replace p154 := eq_true p154
                        replace q154 := eq_true q154
                        go_wp2_with (first | (go_at_call 67; (with_reducible refine (spec_l1In.calls ((rd_T59 l0 (rd ((rd_T59 l0 a1).f3) x33_2)).f0) 0 25 false _ A21.out).mono ?_); rintro e w' ⟨rfl, ⟨nd, rfl⟩⟩))
                        go_roundg k2
                        case measure => have := HJ6.out; have := HK2.out; omega
                        case rel => exact ⟨(x3_2), (wrap64 (x33_2 + 1)), sq_e, H', ⟨by have := HJ6.out; have := HK2.out; omega⟩, ⟨by (with_reducible repeat (first | apply Kd.R_alloc | apply Kd.R_drewN | apply Kd.R_drew)); exact HO_3.out⟩, ⟨sq_k⟩, ⟨sq_b⟩⟩
                    · rw [if_neg c19] at H
                      have c19b0 : decide ((a2.size : Int) < 12) = false := decide_eq_false c19
                      have c19b1 : decide (a2.size < 12) = false := decide_eq_false (by omega)
                      clear c19
                      have H' := mk_ H
                      clear H
                      have p153 : 0 ≤ (x33_2 : Int) := sq_d
                      have q153 : x33_2 < (((rd_T59 l0 a1).f3).length : Int) := sq_d
                      obtain ⟨ad153, e153, hx153_0⟩ := Kd.at_int (kids_x9 HR0.out a1 HHP152.out.1 HHP152.out.2 HHK152.out HK.out HHX152.out) x33_2 p153 q153
                      cases e153
                      try replace hx153_0 := (HB.out.cell (World.block_lt_of_cell? w _ hx153_0)).trans hx153_0
                      replace p153 := eq_true p153
                      replace q153 := eq_true q153
                      obtain ⟨Ao31, co31, eo31⟩ := Kd.R_slice HO_3.out
                      subst eo31
                      go_wp2
                      go_roundg k2
                      case measure => have := HJ6.out; have := HK2.out; omega
                      case rel => exact ⟨(x3_2), (wrap64 (x33_2 + 1)), sq_e, H', ⟨by have := HJ6.out; have := HK2.out; omega⟩, ⟨by (with_reducible repeat (first | apply Kd.R_alloc | apply Kd.R_drewN | apply Kd.R_drew)); exact HO_3.out⟩, ⟨sq_k⟩, ⟨sq_b⟩⟩
                  · rw [if_neg c18] at H
                    have c18b0 : decide ((x3_2.length : Int) ≤ 20) = false := decide_eq_false c18
                    have c18b1 : decide (x3_2.length ≤ 20) = false := decide_eq_false (by omega)
                    clear c18
                    have H' := mk_ H
                    clear H
                    have p153 : 0 ≤ (x33_2 : Int) := sq_d
                    have q153 : x33_2 < (((rd_T59 l0 a1).f3).length : Int) := sq_d
                    obtain ⟨ad153, e153, hx153_0⟩ := Kd.at_int (kids_x9 HR0.out a1 HHP152.out.1 HHP152.out.2 HHK152.out HK.out HHX152.out) x33_2 p153 q153
                    cases e153
                    try replace hx153_0 := (HB.out.cell (World.block_lt_of_cell? w _ hx153_0)).trans hx153_0
                    replace p153 := eq_true p153
                    replace q153 := eq_true q153
                    obtain ⟨Ao32, co32, eo32⟩ := Kd.R_slice HO_3.out
                    subst eo32
                    go_wp2
                    go_roundg k2
                    case measure => have := HJ6.out; have := HK2.out; omega
                    case rel => exact ⟨(x3_2), (wrap64 (x33_2 + 1)), sq_e, H', ⟨by have := HJ6.out; have := HK2.out; omega⟩, ⟨by (with_reducible repeat (first | apply Kd.R_alloc | apply Kd.R_drewN | apply Kd.R_drew)); exact HO_3.out⟩, ⟨sq_k⟩, ⟨sq_b⟩⟩
                · rw [if_neg c17] at H
                  have c17b0 : decide ((rd ((rd_T59 l0 a1).f3) x33_2) < (l0.length : Int)) = false := decide_eq_false c17
                  clear c17
                  have H' := mk_ H
                  clear H
                  have p153 : 0 ≤ (x33_2 : Int) := sq_d
                  have q153 : x33_2 < (((rd_T59 l0 a1).f3).length : Int) := sq_d
                  obtain ⟨ad153, e153, hx153_0⟩ := Kd.at_int (kids_x9 HR0.out a1 HHP152.out.1 HHP152.out.2 HHK152.out HK.out HHX152.out) x33_2 p153 q153
                  cases e153
                  try replace hx153_0 := (HB.out.cell (World.block_lt_of_cell? w _ hx153_0)).trans hx153_0
                  replace p153 := eq_true p153
                  replace q153 := eq_true q153
                  go_wp2
                  go_roundg k2
                  case measure => have := HJ6.out; have := HK2.out; omega
                  case rel => exact ⟨(x3_2), (wrap64 (x33_2 + 1)), sq_e, H', ⟨by have := HJ6.out; have := HK2.out; omega⟩, ⟨by (with_reducible repeat (first | apply Kd.R_alloc | apply Kd.R_drewN | apply Kd.R_drew)); exact HO_3.out⟩, ⟨sq_k⟩, ⟨sq_b⟩⟩
              · rw [if_neg c16] at H
                have c16b0 : decide (a1 < (rd ((rd_T59 l0 a1).f3) x33_2)) = false := decide_eq_false c16
                clear c16
                have H' := mk_ H
                clear H
                have p153 : 0 ≤ (x33_2 : Int) := sq_d
                have q153 : x33_2 < (((rd_T59 l0 a1).f3).length : Int) := sq_d
                obtain ⟨ad153, e153, hx153_0⟩ := Kd.at_int (kids_x9 HR0.out a1 HHP152.out.1 HHP152.out.2 HHK152.out HK.out HHX152.out) x33_2 p153 q153
                cases e153
                try replace hx153_0 := (HB.out.cell (World.block_lt_of_cell? w _ hx153_0)).trans hx153_0
                replace p153 := eq_true p153
                replace q153 := eq_true q153
                go_wp2
                go_roundg k2
                case measure => have := HJ6.out; have := HK2.out; omega
                case rel => exact ⟨(x3_2), (wrap64 (x33_2 + 1)), sq_e, H', ⟨by have := HJ6.out; have := HK2.out; omega⟩, ⟨by (with_reducible repeat (first | apply Kd.R_alloc | apply Kd.R_drewN | apply Kd.R_drew)); exact HO_3.out⟩, ⟨sq_k⟩, ⟨sq_b⟩⟩
            · rw [if_neg c13] at H
              have c13b0 : decide (x33_2 < (((rd_T59 l0 a1).f3).length : Int)) = false := decide_eq_false c13
              clear c13
              obtain rfl := Option.some.inj H
              go_wp2
              go_ret
              exact ⟨_, sq_w, sq_r HO_3, sq_b, sq_k⟩
  · rw [if_neg c5] at H
    exact absurd H (by simp)

/-! ### spec_l1Same: function 111 -/
def spec_l1Same.l0 : Nat → List Int → List Int → Int → Int → Option (Bool)
  | 0, _, _, _, _ => none
  | k + 1, x0, x1, x12, x13 => if x13 < x12 then (if 0 ≤ x13 then (if x13 < (x0.length : Int) then (if x13 < (x1.length : Int) then (if (rd x0 x13) = (rd x1 x13) then (spec_l1Same.l0 k x0 x1 x12 (wrap64 (x13 + 1))) else (some false)) else (none)) else (none)) else (none)) else (some true)
def spec_l1Same.f (k : Nat) (l0 : List Int) (l1 : List Int) : Option (Bool) := if (l0.length : Int) = (l1.length : Int) then (spec_l1Same.l0 k l0 l1 (l0.length : Int) 0) else (some false)
theorem spec_l1Same.mono_l : ∀ k, (∀ y0 y1 y2 y3, LeO (spec_l1Same.l0 k y0 y1 y2 y3) (spec_l1Same.l0 (k + 1) y0 y1 y2 y3))
  | 0 => fun _ _ _ _ r h => by simp [spec_l1Same.l0] at h
  | k + 1 => by
    have ih0 := spec_l1Same.mono_l k
    · intro y0 y1 y2 y3
      unfold spec_l1Same.l0
      repeat' first
      | (with_reducible exact ih0 _ _ _ _)
      | (with_reducible exact LeO.refl _)
      | (with_reducible exact LeO.none _)
      | (with_reducible refine LeO.ite ?_ ?_)
      | (with_reducible refine LeO.bind ?_ (fun _ => ?_))
      | exact ih0 _ _ _ _
      | exact LeO.none _
      | refine LeO.ite ?_ ?_
      | refine LeO.bind ?_ (fun _ => ?_)
theorem spec_l1Same.mono : ∀ a0 a1 k, LeO (spec_l1Same.f k a0 a1) (spec_l1Same.f (k + 1) a0 a1) := by
  intro a0 a1 k
  have ih0 := spec_l1Same.mono_l k
  unfold spec_l1Same.f
  repeat' first
      | (with_reducible exact ih0 _ _ _ _)
      | (with_reducible exact LeO.refl _)
      | (with_reducible exact LeO.none _)
      | (with_reducible refine LeO.ite ?_ ?_)
      | (with_reducible refine LeO.bind ?_ (fun _ => ?_))
      | exact ih0 _ _ _ _
      | exact LeO.none _
      | refine LeO.ite ?_ ?_
      | refine LeO.bind ?_ (fun _ => ?_)
set_option maxHeartbeats 8000000 in
set_option maxRecDepth 100000 in
theorem spec_l1Same.calls (k : Nat) (A0 : Option Addr) (c0 : Nat) (l0 : List Int) (A1 : Option Addr) (c1 : Nat) (l1 : List Int) (r : Bool) (w : World) (hr0 : Kd.C (Kd.int .i64) w A0 l0.length l0) (hc0 : l0.length ≤ c0) (hr1 : Kd.C (Kd.int .i64) w A1 l1.length l1) (hc1 : l1.length ≤ c1) (h : spec_l1Same.f k l0 l1 = some r) :
    Calls Try.prog 111 #[.slice A0 l0.length c0, .slice A1 l1.length c1] w fun e w' => e = .returned (.bool r) ∧ Drawn0 w w' := by
  have HR0 := mk_ hr0
  have HC0 := mk_ hc0
  clear hr0 hc0
  have HR1 := mk_ hr1
  have HC1 := mk_ hc1
  clear hr1 hc1
  have H : (if (l0.length : Int) = (l1.length : Int) then (spec_l1Same.l0 k l0 l1 (l0.length : Int) 0) else (some false)) = some r := h
  clear h
  by_cases c3 : (l0.length : Int) = (l1.length : Int)
  · rw [if_pos c3] at H
    have c3b0 : ((l0.length : Int) == (l1.length : Int)) = true := beq_iff_eq.mpr c3
    have c3b1 : ((l0.length : Int) != (l1.length : Int)) = false := bne_eq_false_iff_eq.mpr c3
    have c3b2 : (l0.length == l1.length) = true := by first | simpa using c3 | (simp at c3 ⊢; omega)
    clear c3
    have H' := mk_ H
    clear H
    go_enter Try.func111, Try.ntmps111
    go_wp2
    repeat (go_quiet (fail); try go_wp2)
    go_loopg [13] k (fun kq v13 w' => ∃ (x13_1 : Int), v13 = .int .i64 x13_1 ∧ Aside0 (spec_l1Same.l0 kq l0 l1 (l0.length : Int) x13_1 = some r) ∧ Aside0 (kq ≤ k) ∧ Drawn0 w w')
    case atStart => exact ⟨(0), sq_e, H', ⟨Nat.le_refl _⟩, by repeat (first | exact Drawn0.refl _ | apply Drawn0.step)⟩
    case round =>
      clear H'
      (try clear c1); (try clear p2); (try clear c3); (try clear c3b0); (try clear c3b1); (try clear c3b2)
      obtain ⟨x13_1, rfl, HA, HK1, ⟨m1, rfl⟩⟩ := hrel
      cases gk with
      | zero => exact absurd HA.out (by simp [spec_l1Same.l0])
      | succ k1 =>
        have H := HA.out
        clear HA
        simp only [spec_l1Same.l0] at H
        by_cases c4 : x13_1 < (l0.length : Int)
        · rw [if_pos c4] at H
          have c4b0 : decide (x13_1 < (l0.length : Int)) = true := decide_eq_true c4
          clear c4
          by_cases c5 : 0 ≤ x13_1
          rotate_left
          · rw [if_neg c5] at H
            exact absurd H (by simp)
          rw [if_pos c5] at H
          have c5b0 : decide (0 ≤ x13_1) = true := decide_eq_true c5
          clear c5
          by_cases c6 : x13_1 < (l0.length : Int)
          rotate_left
          · rw [if_neg c6] at H
            exact absurd H (by simp)
          rw [if_pos c6] at H
          have c6b0 : decide (x13_1 < (l0.length : Int)) = true := decide_eq_true c6
          clear c6
          by_cases c7 : x13_1 < (l1.length : Int)
          rotate_left
          · rw [if_neg c7] at H
            exact absurd H (by simp)
          rw [if_pos c7] at H
          have c7b0 : decide (x13_1 < (l1.length : Int)) = true := decide_eq_true c7
          clear c7
          by_cases c8 : (rd l0 x13_1) = (rd l1 x13_1)
          · rw [if_pos c8] at H
            have c8b0 : ((rd l0 x13_1) == (rd l1 x13_1)) = true := beq_iff_eq.mpr c8
            have c8b1 : ((rd l0 x13_1) != (rd l1 x13_1)) = false := bne_eq_false_iff_eq.mpr c8
            clear c8
            have H' := mk_ H
            clear H
            have p163 : 0 ≤ (x13_1 : Int) := sq_d
            have q163 : x13_1 < (l0.length : Int) := sq_d
            obtain ⟨ad163, e163, hx163_0⟩ := Kd.at_int HR0.out x13_1 p163 q163
            cases e163
            replace p163 := eq_true p163
            replace q163 := eq_true q163
            have p164 : 0 ≤ (x13_1 : Int) := sq_d
            have q164 : x13_1 < (l1.length : Int) := sq_d
            obtain ⟨ad164, e164, hx164_0⟩ := Kd.at_int HR1.out x13_1 p164 q164
            cases e164
            replace p164 := eq_true p164
            replace q164 := eq_true q164
            go_wp2
            repeat (go_quiet (fail); try go_wp2)
            go_roundg k1
            case measure => have := HK1.out; omega
            case rel => exact ⟨(wrap64 (x13_1 + 1)), sq_e, H', ⟨by have := HK1.out; omega⟩, by repeat (first | exact Drawn0.refl _ | apply Drawn0.step)⟩
          · rw [if_neg c8] at H
            have c8b0 : ((rd l0 x13_1) == (rd l1 x13_1)) = false := beq_eq_false_iff_ne.mpr c8
            have c8b1 : ((rd l0 x13_1) != (rd l1 x13_1)) = true := bne_iff_ne.mpr c8
            obtain rfl := Option.some.inj H
            have p163 : 0 ≤ (x13_1 : Int) := sq_d
            have q163 : x13_1 < (l0.length : Int) := sq_d
            obtain ⟨ad163, e163, hx163_0⟩ := Kd.at_int HR0.out x13_1 p163 q163
            cases e163
            replace p163 := eq_true p163
            replace q163 := eq_true q163
            have p164 : 0 ≤ (x13_1 : Int) := sq_d
            have q164 : x13_1 < (l1.length : Int) := sq_d
            obtain ⟨ad164, e164, hx164_0⟩ := Kd.at_int HR1.out x13_1 p164 q164
            cases e164
            replace p164 := eq_true p164
            replace q164 := eq_true q164
            go_wp2
            repeat (go_quiet (fail); try go_wp2)
            go_ret
            exact ⟨sq_e, by repeat (first | exact Drawn0.refl _ | apply Drawn0.step)⟩
        · rw [if_neg c4] at H
          have c4b0 : decide (x13_1 < (l0.length : Int)) = false := decide_eq_false c4
          clear c4
          obtain rfl := Option.some.inj H
          go_wp2
          repeat (go_quiet (fail); try go_wp2)
          go_ret
          exact ⟨sq_e, by repeat (first | exact Drawn0.refl _ | apply Drawn0.step)⟩
  · rw [if_neg c3] at H
    have c3b0 : ((l0.length : Int) == (l1.length : Int)) = false := beq_eq_false_iff_ne.mpr c3
    have c3b1 : ((l0.length : Int) != (l1.length : Int)) = true := bne_iff_ne.mpr c3
    have c3b2 : (l0.length == l1.length) = false := by first | simpa using c3 | (simp at c3 ⊢; omega)
    obtain rfl := Option.some.inj H
    go_enter Try.func111, Try.ntmps111
    go_wp2
    repeat (go_quiet (fail); try go_wp2)
    go_ret
    exact ⟨sq_e, by repeat (first | exact Drawn0.refl _ | apply Drawn0.step)⟩

/-! ### spec_l13Same: function 91 (by hand) -/
def spec_l13Same.l0 : Nat → List (S59) → List (S59) → Int → Int → Option (Bool)
 | 0, _, _, _, _ => none
 | k + 1, x1, x12, x13, x14 => if x14 < x13 then (if 0 ≤ x14 then (if x14 < (x12.length : Int) then (if x14 < (x1.length : Int) then (if ((rd_T59 x12 x14).f0) = ((rd_T59 x1 x14).f0) then (if ((rd_T59 x12 x14).f1) = ((rd_T59 x1 x14).f1) then (if ((rd_T59 x12 x14).f2) = ((rd_T59 x1 x14).f2) then ((spec_l1Same.f k ((rd_T59 x12 x14).f3) ((rd_T59 x1 x14).f3)).bind fun t171 => (if t171 = true then (spec_l13Same.l0 k x1 x12 x13 (wrap64 (x14 + 1))) else (some false))) else (some false)) else (some false)) else (some false)) else (none)) else (none)) else (none)) else (some true)
def spec_l13Same.f (k : Nat) (l0 : List (S59)) (l1 : List (S59)) : Option (Bool) := if (l0.length : Int) = (l1.length : Int) then (spec_l13Same.l0 k l1 l0 (l0.length : Int) 0) else (some false)
theorem spec_l13Same.mono_l : ∀ k, (∀ y0 y1 y2 y3, LeO (spec_l13Same.l0 k y0 y1 y2 y3) (spec_l13Same.l0 (k + 1) y0 y1 y2 y3))
 | 0 => fun _ _ _ _ r h => by simp [spec_l13Same.l0] at h
 | k + 1 => by
  have ih0 := spec_l13Same.mono_l k
  ·intro y0 y1 y2 y3
   unfold spec_l13Same.l0
   repeat' first
   | (with_reducible exact ih0 _ _ _ _)
   | (with_reducible exact spec_l1Same.mono _ _ _)
   | (with_reducible exact LeO.refl _)
   | (with_reducible exact LeO.none _)
   | (with_reducible refine LeO.ite ?_ ?_)
   | (with_reducible refine LeO.bind ?_ (fun _ => ?_))
   | exact ih0 _ _ _ _
   | exact spec_l1Same.mono _ _ _
   | exact LeO.none _
   | refine LeO.ite ?_ ?_
   | refine LeO.bind ?_ (fun _ => ?_)
theorem spec_l13Same.mono : ∀ a0 a1 k, LeO (spec_l13Same.f k a0 a1) (spec_l13Same.f (k + 1) a0 a1) := by
 intro a0 a1 k
 have ih0 := spec_l13Same.mono_l k
 unfold spec_l13Same.f
 repeat' first
   | (with_reducible exact ih0 _ _ _ _)
   | (with_reducible exact spec_l1Same.mono _ _ _)
   | (with_reducible exact LeO.refl _)
   | (with_reducible exact LeO.none _)
   | (with_reducible refine LeO.ite ?_ ?_)
   | (with_reducible refine LeO.bind ?_ (fun _ => ?_))
   | exact ih0 _ _ _ _
   | exact spec_l1Same.mono _ _ _
   | exact LeO.none _
   | refine LeO.ite ?_ ?_
   | refine LeO.bind ?_ (fun _ => ?_)
set_option maxHeartbeats 8000000 in
set_option maxRecDepth 100000 in
theorem spec_l13Same.calls (k : Nat) (A0 : Option Addr) (c0 : Nat) (l0 : List (S59)) (A1 : Option Addr) (c1 : Nat) (l1 : List (S59)) (r : Bool) (w : World) (hr0 : Kd.C k59 w A0 l0.length l0) (hc0 : l0.length ≤ c0) (hr1 : Kd.C k59 w A1 l1.length l1) (hc1 : l1.length ≤ c1) (h : spec_l13Same.f k l0 l1 = some r) :
    Calls Try.prog 91 #[.slice A0 l0.length c0, .slice A1 l1.length c1] w fun e w' => e = .returned (.bool r) ∧ Below w.heap.size w w' := by
  have HR0 := mk_ hr0
  have HR1 := mk_ hr1
  have HMX := mk_ (Kd.C_max hr0)
  clear hr0 hr1 hc0 hc1
  unfold spec_l13Same.f at h
  by_cases hl : (l0.length : Int) = (l1.length : Int)
  rotate_left
  · rw [if_neg hl] at h
    injection h with h
    have HH := mk_ h
    have d1 : ((l0.length : Int) == (l1.length : Int)) = false := beq_eq_false_iff_ne.mpr hl
    have d2 : ((l0.length : Int) != (l1.length : Int)) = true := by rw [bne, d1]; rfl
    have d3 : (l0.length == l1.length) = false := beq_eq_false_iff_ne.mpr (by omega)
    have d4 := eq_false hl
    have d5 := eq_false (show ¬ l0.length = l1.length by omega)
    clear hl h
    go_enter Try.func91, Try.ntmps91
    go_wp2
    go_ret
    rw [← HH.out]
    exact ⟨rfl, Below.refl _ _⟩
  rw [if_pos hl] at h
  have HA0 := mk_ h
  have HL := mk_ (show l0.length = l1.length by omega)
  have d1 : ((l0.length : Int) == (l1.length : Int)) = true := beq_iff_eq.mpr hl
  have d2 : ((l0.length : Int) != (l1.length : Int)) = false := by rw [bne, d1]; rfl
  have d3 : (l0.length == l1.length) = true := beq_iff_eq.mpr (by omega)
  clear hl h
  go_enter Try.func91, Try.ntmps91
  go_wp2_with fail
  clear d1 d2 d3
  go_loopg [14] l0.length (fun kq v14 w' => ∃ (i q : Nat) (x : Int), v14 = .int .i64 x ∧ Aside0 (x = i) ∧ Aside0 (i + kq = l0.length) ∧ Aside0 (spec_l13Same.l0 q l1 l0 (l0.length : Int) x = some r) ∧ Aside0 (q ≤ k) ∧ Aside0 (Below w.heap.size w w'))
  case atStart => exact ⟨0, k, 0, rfl, ⟨rfl⟩, ⟨by simp⟩, HA0, ⟨Nat.le_refl _⟩, ⟨Below.refl _ _⟩⟩
  case round => as_aux_lemma =>
    clear HA0
    obtain ⟨i, q, x, rfl, HX, HI, HA, HQ, HB⟩ := hrel
    cases q with
    | zero => have h := HA.out; simp only [spec_l13Same.l0] at h; cases h
    | succ q =>
      have h := HA.out
      unfold spec_l13Same.l0 at h
      cases gk with
      | zero =>
        have hge : ¬ x < (l0.length : Int) := by have := HX.out; have := HI.out; omega
        rw [if_neg hge] at h
        injection h with h
        have HH := mk_ h
        have c1 : decide (x < (l0.length : Int)) = false := decide_eq_false hge
        clear h hge
        go_wp2
        go_ret
        rw [← HH.out]
        exact ⟨rfl, HB.out⟩
      | succ k1 =>
        have p1 : x < (l0.length : Int) := by have := HX.out; have := HI.out; omega
        have p0 : 0 ≤ x := by have := HX.out; omega
        have p2 : x < (l1.length : Int) := by have := HL.out; omega
        rw [if_pos p1, if_pos p0, if_pos p1, if_pos p2] at h
        have c1 : decide (x < (l0.length : Int)) = true := decide_eq_true p1
        obtain ⟨ad0, B0, b0, rfl, hx0, hx1, hx2, hx3, hcx, hCx⟩ := at_T59 (Kd.C_below HR0.out HB.out) x p0 p1
        obtain ⟨ad1, B1, b1, rfl, hy0, hy1, hy2, hy3, hcy, hCy⟩ := at_T59 (Kd.C_below HR1.out HB.out) x p0 p2
        have HCX := mk_ (And.intro hcx hCx)
        have HCY := mk_ (And.intro hcy hCy)
        obtain ⟨y, hy⟩ : ∃ y, y = rd_T59 l0 x := ⟨_, rfl⟩
        obtain ⟨z, hz⟩ : ∃ z, z = rd_T59 l1 x := ⟨_, rfl⟩
        rw [← hy] at hx0 hx1 hx2 hx3 HCX h
        rw [← hz] at hy0 hy1 hy2 hy3 HCY h
        have HWX := mk_ (show wrap64 (x + 1) = x + 1 from by unfold wrap64; have := HMX.out; omega)
        have e0 := eq_true p0
        have e1 := eq_true p1
        have e2 := eq_true p2
        have da0 : decide (0 ≤ x) = true := decide_eq_true p0
        have da2 : decide (x < (l1.length : Int)) = true := decide_eq_true p2
        have HH := mk_ h
        clear hcx hCx hcy hCy hy hz h
        go_upto_region 6 with (first | ((with_reducible refine gate_dst (N := 6) rfl ?_); refine box_event sq_0 (N := 6) sq_0 (cs := #[.int .i64 0, .int .i64 0, .int .i64 0, .slice none 0 0]) (t := 59) sq_h ?_; intro g6 hg6 w5 hbox hb5; have G6 := mk_ (show wr.heap.size ≤ g6 from by rw [hg6]; exact Nat.le_refl _); have B5 := mk_ (show Below wr.heap.size wr w5 from hb5); have BK5 := mk_ hbox; have kb0 := (blk_cell BK5.out 0).trans rfl; have kb1 := (blk_cell BK5.out 1).trans rfl; have kb2 := (blk_cell BK5.out 2).trans rfl; have kb3 := (blk_cell BK5.out 3).trans rfl; have kf0 := blk_frozen BK5.out 0; have kf1 := blk_frozen BK5.out 1; have kf2 := blk_frozen BK5.out 2; have kf3 := blk_frozen BK5.out 3; clear hg6 hbox hb5))
        obtain ⟨wC, hwC⟩ : ∃ wC, wC = ((((w5.setCell ⟨g6, 0, none⟩ (.int .i64 y.f0)).setCell ⟨g6, 1, none⟩ (.int .i64 y.f1)).setCell ⟨g6, 2, none⟩ (.int .i64 y.f2)).setCell ⟨g6, 3, none⟩ (.slice B0 y.f3.length b0)) := ⟨_, rfl⟩
        have hBC : Below wr.heap.size wr wC := by rw [hwC]; exact below_set (below_set (below_set (below_set B5.out G6.out) G6.out) G6.out) G6.out
        have hK6 : wC.heap[g6]? = some (.cells #[.int .i64 y.f0, .int .i64 y.f1, .int .i64 y.f2, .slice B0 y.f3.length b0] 59 (0, 0)) := by rw [hwC]; exact blk_put (cs := #[.int .i64 y.f0, .int .i64 y.f1, .int .i64 y.f2, .slice none 0 0]) (blk_put (cs := #[.int .i64 y.f0, .int .i64 y.f1, .int .i64 0, .slice none 0 0]) (blk_put (cs := #[.int .i64 y.f0, .int .i64 0, .int .i64 0, .slice none 0 0]) (blk_put (cs := #[.int .i64 0, .int .i64 0, .int .i64 0, .slice none 0 0]) BK5.out 0 _ rfl) 1 _ rfl) 2 _ rfl) 3 _ rfl
        rw [← hwC]
        replace hx0 := (blk_cell hK6 0).trans rfl
        replace hx1 := (blk_cell hK6 1).trans rfl
        replace hx2 := (blk_cell hK6 2).trans rfl
        replace hx3 := (blk_cell hK6 3).trans rfl
        replace hy0 := (hBC.cell (World.block_lt_of_cell? _ _ hy0)).trans hy0
        replace hy1 := (hBC.cell (World.block_lt_of_cell? _ _ hy1)).trans hy1
        replace hy2 := (hBC.cell (World.block_lt_of_cell? _ _ hy2)).trans hy2
        replace hy3 := (hBC.cell (World.block_lt_of_cell? _ _ hy3)).trans hy3
        replace HB := mk_ (below_step HB.out hBC)
        replace HCX := mk_ (And.intro HCX.out.1 (Kd.C_below HCX.out.2 hBC))
        replace HCY := mk_ (And.intro HCY.out.1 (Kd.C_below HCY.out.2 hBC))
        clear hwC hBC hK6 kb0 kb1 kb2 kb3 kf0 kf1 kf2 kf3 BK5 B5
        by_cases hc0 : y.f0 = z.f0
        rotate_left
        · have h := HH.out
          rw [if_neg hc0] at h
          injection h with h
          have HF := mk_ h
          have n0 : (y.f0 == z.f0) = false := beq_eq_false_iff_ne.mpr hc0
          have m0 : (y.f0 != z.f0) = true := by rw [bne, n0]; rfl
          have o0 := eq_false hc0
          have u0 : decide (y.f0 = z.f0) = false := decide_eq_false hc0
          clear h HH hc0
          go_quiet (fail)
          go_wp2
          go_ret
          rw [← HF.out]
          exact ⟨rfl, pw_below_drewN HB.out _⟩
        by_cases hc1 : y.f1 = z.f1
        rotate_left
        · have h := HH.out
          rw [if_pos hc0, if_neg hc1] at h
          injection h with h
          have HF := mk_ h
          have n1 : (y.f1 == z.f1) = false := beq_eq_false_iff_ne.mpr hc1
          have m1 : (y.f1 != z.f1) = true := by rw [bne, n1]; rfl
          have o1 := eq_false hc1
          have u1 : decide (y.f1 = z.f1) = false := decide_eq_false hc1
          have n0 : (y.f0 == z.f0) = true := beq_iff_eq.mpr hc0
          have m0 : (y.f0 != z.f0) = false := by rw [bne, n0]; rfl
          clear h HH hc0 hc1
          go_quiet (fail)
          go_wp2
          go_ret
          rw [← HF.out]
          exact ⟨rfl, pw_below_drewN HB.out _⟩
        by_cases hc2 : y.f2 = z.f2
        rotate_left
        · have h := HH.out
          rw [if_pos hc0, if_pos hc1, if_neg hc2] at h
          injection h with h
          have HF := mk_ h
          have n2 : (y.f2 == z.f2) = false := beq_eq_false_iff_ne.mpr hc2
          have m2 : (y.f2 != z.f2) = true := by rw [bne, n2]; rfl
          have o2 := eq_false hc2
          have u2 : decide (y.f2 = z.f2) = false := decide_eq_false hc2
          have n0 : (y.f0 == z.f0) = true := beq_iff_eq.mpr hc0
          have m0 : (y.f0 != z.f0) = false := by rw [bne, n0]; rfl
          have n1 : (y.f1 == z.f1) = true := beq_iff_eq.mpr hc1
          have m1 : (y.f1 != z.f1) = false := by rw [bne, n1]; rfl
          clear h HH hc0 hc1 hc2
          go_quiet (fail)
          go_wp2
          go_ret
          rw [← HF.out]
          exact ⟨rfl, pw_below_drewN HB.out _⟩
        have h := HH.out
        rw [if_pos hc0, if_pos hc1, if_pos hc2] at h
        obtain ⟨b, hb, h⟩ := Option.bind_eq_some_iff.mp h
        have HBB := mk_ hb
        have HF := mk_ h
        have n0 : (y.f0 == z.f0) = true := beq_iff_eq.mpr hc0
        have m0 : (y.f0 != z.f0) = false := by rw [bne, n0]; rfl
        have n1 : (y.f1 == z.f1) = true := beq_iff_eq.mpr hc1
        have m1 : (y.f1 != z.f1) = false := by rw [bne, n1]; rfl
        have n2 : (y.f2 == z.f2) = true := beq_iff_eq.mpr hc2
        have m2 : (y.f2 != z.f2) = false := by rw [bne, n2]; rfl
        clear h hb HH hc0 hc1 hc2
        go_quiet (first | (go_at_call 111; refine Calls.quiet_of ((spec_l1Same.calls q B0 b0 y.f3 B1 b1 z.f3 b _ (Kd.C_below HCX.out.2 (pw_below_drewN (Below.refl _ _) _)) HCX.out.1 (Kd.C_below HCY.out.2 (pw_below_drewN (Below.refl _ _) _)) HCY.out.1 HBB.out).mono (fun e w' hh => ⟨hh.1, hh.2.out⟩))))
        cases b with
        | true =>
          have h := HF.out
          rw [if_pos rfl] at h
          have HF2 := mk_ h
          clear h
          go_wp2
          go_roundg k1
          case measure => omega
          case rel => exact ⟨i + 1, q, x + 1, by rw [HWX.out], ⟨by have := HX.out; omega⟩, ⟨by have := HI.out; omega⟩, ⟨by have h := HF2.out; rw [HWX.out] at h; exact h⟩, ⟨by have := HQ.out; omega⟩, ⟨pw_below_drewN HB.out _⟩⟩
        | false =>
          have h := HF.out
          rw [if_neg (by simp)] at h
          injection h with h
          have HF2 := mk_ h
          clear h
          go_wp2
          go_ret
          rw [← HF2.out]
          exact ⟨rfl, pw_below_drewN HB.out _⟩

end Go.Proofs.Ytkoackkimdanjaa.QFnLegs
