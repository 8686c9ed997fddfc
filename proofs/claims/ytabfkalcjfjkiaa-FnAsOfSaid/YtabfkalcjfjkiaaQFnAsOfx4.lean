-- Written by this session's own program (wip/pp_patch.py, wip/pp.sh) out of the given translation. Not trusted: Lean checks it.
import Derived.Test.YtabfkalcjfjkiaaQFnAsOfx0
import Derived.Test.YtabfkalcjfjkiaaQFnAsOfx1
import Derived.Test.YtabfkalcjfjkiaaQFnAsOfx2
namespace Go.Proofs.Ytabfkalcjfjkiaa.QFnAsOf
open Go.RowKit Go.Proofs.YtabfkalcjfjkiaaW.PrintWords Go.Proofs.YtabfkalcjfjkiaaW.PrintLast Go.Proofs.YtabfkalcjfjkiaaW.PrintMore
attribute [local go_sem] max2_int min2_int max_two min_two max_three min_three max_four min_four   -- for this text's walks alone
open Go.Proofs.Ytabfkalcjfjkiaa.Ext
attribute [local go_sem high] ext_gtr ext_leq
set_option linter.unusedVariables false
set_option linter.unusedSimpArgs false

attribute [local go_sem high] eqA48
/-! ### spec_l14Put: function 76 -/
def spec_l14Put.l0 : Nat → List (S48) → Int → ByteArray → Int → Bool → ByteArray → Option ((List (S48)) × Bool)
 | 0, _, _, _, _, _, _ => none
 | k + 1, x0, x6, x114000, x114001, x114002, x114003 => if x6 < (x0.length : Int) then (if 0 ≤ x6 then ((spec_l14Less.f ((rd_T48 x0 x6).f0) ((rd_T48 x0 x6).f1) ((rd_T48 x0 x6).f2) ((rd_T48 x0 x6).f3) x114000 x114001 x114002 x114003).bind fun t115 => (if t115 = true then (spec_l14Put.l0 k x0 (wrap64 (x6 + 1)) x114000 x114001 x114002 x114003) else ((spec_l14Less.f x114000 x114001 x114002 x114003 ((rd_T48 x0 x6).f0) ((rd_T48 x0 x6).f1) ((rd_T48 x0 x6).f2) ((rd_T48 x0 x6).f3)).bind fun t117 => (if t117 = true then ((some (([] : List (S48)) : List (S48))).bind fun y118 => (if x6 ≤ (x0.length : Int) then ((some (x0.take (x6 : Int).toNat : List (S48))).bind fun y121 => (if y118.length + y121.length < 2932031007402 then ((some (y118 ++ y121 : List (S48))).bind fun y126 => (if y126.length < 2932031007402 then ((some (y126 ++ [(⟨x114000, x114001, x114002, x114003⟩ : S48)] : List (S48))).bind fun y129 => ((some (x0.drop (x6 : Int).toNat : List (S48))).bind fun y132 => (if y129.length + y132.length < 2932031007402 then (some ((y129 ++ y132), true)) else (none)))) else (none))) else (none))) else (none))) else (some (x0, ((((rd_T48 x0 x6).f0).toList) == x114000.toList && (((rd_T48 x0 x6).f1) == x114001 && (((rd_T48 x0 x6).f2) == x114002 && ((((rd_T48 x0 x6).f3).toList) == x114003.toList)))))))))) else (none)) else ((some (([] : List (S48)) : List (S48))).bind fun y141 => (if 0 ≤ x6 then (if x6 ≤ (x0.length : Int) then ((some (x0.take (x6 : Int).toNat : List (S48))).bind fun y144 => (if y141.length + y144.length < 2932031007402 then ((some (y141 ++ y144 : List (S48))).bind fun y149 => (if y149.length < 2932031007402 then ((some (y149 ++ [(⟨x114000, x114001, x114002, x114003⟩ : S48)] : List (S48))).bind fun y152 => ((some (x0.drop (x6 : Int).toNat : List (S48))).bind fun y155 => (if y152.length + y155.length < 2932031007402 then (some ((y152 ++ y155), true)) else (none)))) else (none))) else (none))) else (none)) else (none)))
def spec_l14Put.f (k : Nat) (l0 : List (S48)) (a1_0 : ByteArray) (a1_1 : Int) (a1_2 : Bool) (a1_3 : ByteArray) : Option ((List (S48)) × Bool) := spec_l14Put.l0 k l0 0 a1_0 a1_1 a1_2 a1_3
theorem spec_l14Put.mono_l : ∀ k, (∀ y0 y1 y2 y3 y4 y5, LeO (spec_l14Put.l0 k y0 y1 y2 y3 y4 y5) (spec_l14Put.l0 (k + 1) y0 y1 y2 y3 y4 y5))
 | 0 => fun _ _ _ _ _ _ r h => by simp [spec_l14Put.l0] at h
 | k + 1 => by
  have ih0 := spec_l14Put.mono_l k
  ·intro y0 y1 y2 y3 y4 y5
   unfold spec_l14Put.l0
   repeat' first
   | (with_reducible exact ih0 _ _ _ _ _ _)
   | (with_reducible exact LeO.refl _)
   | (with_reducible exact LeO.none _)
   | (with_reducible refine LeO.ite ?_ ?_)
   | (with_reducible refine LeO.bind ?_ (fun _ => ?_))
   | exact ih0 _ _ _ _ _ _
   | exact LeO.none _
   | refine LeO.ite ?_ ?_
   | refine LeO.bind ?_ (fun _ => ?_)
theorem spec_l14Put.mono : ∀ a0 a1 a2 a3 a4 k, LeO (spec_l14Put.f k a0 a1 a2 a3 a4) (spec_l14Put.f (k + 1) a0 a1 a2 a3 a4) := by
 intro a0 a1 a2 a3 a4 k
 have ih0 := spec_l14Put.mono_l k
 unfold spec_l14Put.f
 repeat' first
   | (with_reducible exact ih0 _ _ _ _ _ _)
   | (with_reducible exact LeO.refl _)
   | (with_reducible exact LeO.none _)
   | (with_reducible refine LeO.ite ?_ ?_)
   | (with_reducible refine LeO.bind ?_ (fun _ => ?_))
   | exact ih0 _ _ _ _ _ _
   | exact LeO.none _
   | refine LeO.ite ?_ ?_
   | refine LeO.bind ?_ (fun _ => ?_)
def spec_l14Put.T2 : Bool × List (List Nat × List Nat) := (true, [([], []), ([], []), ([1], [1]), ([0, 2], [0, 2]), ([3], [3]), ([4], [4]), ([4], [4]), ([5, 6, 4], [4, 5, 6]), ([7, 4], [4, 7]), ([4], [4]), ([8, 9, 4, 4], [4, 8, 9]), ([4, 10], [4, 10])])
def spec_l14Put.B2 : List Nat := [0, 0, 2, 7, 15, 31, 31, 127, 255, 31, 1023, 2047]
theorem spec_l14Put.tab2 : rtab .any (opsOf Try.f76 2) = spec_l14Put.T2 := by kernel_rfl
theorem spec_l14Put.bits2 : waitsOk spec_l14Put.T2.2 spec_l14Put.B2 = true := by kernel_rfl
def spec_l14Put.T4 : Bool × List (List Nat × List Nat) := (true, [([], []), ([], []), ([1], [1]), ([0, 2], [0, 2]), ([3], [3]), ([4], [4]), ([4], [4]), ([4], [4]), ([6, 7, 4], [4, 6, 7]), ([8, 4], [4, 8]), ([5, 9, 4, 4], [4, 5, 9]), ([10, 4], [4, 10]), ([4, 11], [4, 11])])
def spec_l14Put.B4 : List Nat := [0, 0, 2, 7, 15, 31, 31, 31, 223, 479, 1023, 2047, 4095]
theorem spec_l14Put.tab4 : rtab .any (opsOf Try.f76 4) = spec_l14Put.T4 := by kernel_rfl
theorem spec_l14Put.bits4 : waitsOk spec_l14Put.T4.2 spec_l14Put.B4 = true := by kernel_rfl
def spec_l14Put.T5 : Bool × List (List Nat × List Nat) := (true, [([], []), ([], []), ([], []), ([1, 2], [1, 2]), ([3], [3]), ([], []), ([4, 5], [4, 5]), ([0, 0], [0]), ([6, 7, 0, 1, 2, 3, 4, 5, 6, 7], [6])])
def spec_l14Put.B5 : List Nat := [0, 0, 0, 6, 14, 0, 62, 1, 255]
theorem spec_l14Put.tab5 : rtab .any (opsOf Try.f76 5) = spec_l14Put.T5 := by kernel_rfl
theorem spec_l14Put.bits5 : waitsOk spec_l14Put.T5.2 spec_l14Put.B5 = true := by kernel_rfl
set_option maxHeartbeats 8000000 in
set_option maxRecDepth 100000 in
theorem spec_l14Put.calls (k : Nat) (P0_ : Nat → Prop) (A0 : Option Addr) (c0 : Nat) (l0 : List (S48)) (a1_0 : ByteArray) (a1_1 : Int) (a1_2 : Bool) (a1_3 : ByteArray) (r1 : List (S48)) (r2 : Bool) (w : World) (hs0 : Kd.V k48 48 w w.heap.size (fun k_ => P0_ k_) (.slice A0 l0.length c0) l0) (h : spec_l14Put.f k l0 a1_0 a1_1 a1_2 a1_3 = some (r1, r2)) :
  Calls Try.prog 76 #[.slice A0 l0.length c0, .agg #[.string a1_0, .int .i64 a1_1, .bool a1_2, .string a1_3]] w fun e w' => ∃ v0_ : Value, e = .returned (.tuple #[v0_, .bool r2]) ∧ (Kd.V k48 48 w' w.heap.size (fun k_ => (P0_ k_ ∨ w.heap.size ≤ k_)) v0_ r1 ∧ (r1 = l0 ∨ Kd.R k48 48 w' w.heap.size (fun _ => True) v0_ r1)) ∧ Below w.heap.size w w' := by
 have hu48 := Try.underlying48
 have HO0 := Aside0.mk (show Kd.V k48 48 w w.heap.size (fun k_ => (P0_ k_ ∨ w.heap.size ≤ k_)) (.slice A0 l0.length c0) l0 from Kd.V_mono hs0 (fun k_ hk => .inl hk))
 have HB := Aside0.mk (Below.refl w.heap.size w)
 have H : (spec_l14Put.l0 k l0 0 a1_0 a1_1 a1_2 a1_3) = some (r1, r2) := h
 clear h
 have H' := Aside0.mk H
 clear H
 go_enter Try.func76, Try.ntmps76
 go_wp2_with (first | ((with_reducible refine gate_dst (N := 3) rfl ?_); refine box_event ?hg (N := 3) ?hd (cs := #[.string a1_0, .int .i64 a1_1, .bool a1_2, .string a1_3]) (t := 48) ?hr ?_; (case hd => rfl); (case hg => rfl); (case hr => first | (go_simp; done) | (go_simp; rfl)); intro gb113 hg w3 hbox hb; have n0_ := Aside0.mk (Kd.V_below (Kd.V_elderB (sq_v HO0) gb113 (Nat.le_of_eq hg.symm)) hb); have n1_ := Aside0.mk (below_step sq_b hb); have n2_ := Aside0.mk (hbox); have n3_ := Aside0.mk ((by rw [hg]; exact (below_size sq_b) : w.heap.size ≤ gb113)); have n4_ := Aside0.mk ((by rw [hg]; exact (below_size sq_b) : w.heap.size ≤ gb113)); clear HO0; clear HB; have HO0 := n0_; have HB := n1_; have BK113 := n2_; have GW113 := n3_; have GE113 := n4_; clear n0_ n1_ n2_ n3_ n4_; clear hb hbox hg))
 go_loopg [6] k (fun kq v6 w' => ∃ (x6_1 : Int), v6 = .int .i64 x6_1 ∧ Aside0 (spec_l14Put.l0 kq l0 x6_1 a1_0 a1_1 a1_2 a1_3 = some (r1, r2)) ∧ Aside0 (kq ≤ k) ∧ Aside0 (Kd.V k48 48 w' w.heap.size (fun k_ => (P0_ k_ ∨ w.heap.size ≤ k_) ∧ k_ ≠ gb113) (.slice A0 l0.length c0) l0) ∧ Aside0 (w'.heap[gb113]? = some (.cells #[.string a1_0, .int .i64 a1_1, .bool a1_2, .string a1_3] 48 (0, 0))) ∧ Aside0 (Below w.heap.size w w'))
 case atStart => exact ⟨(0), sq_e, H', ⟨Nat.le_refl _⟩, ⟨by (with_reducible repeat (first | apply Kd.V_alloc | apply Kd.V_drewN | apply Kd.V_drew)); exact HO0.out⟩, ⟨by (with_reducible repeat (first | refine blk_drewN ?_ _ | refine blk_drew ?_ | refine blk_alloc ?_ _)); exact BK113.out⟩, ⟨by repeat (first | (with_reducible first | exact HB.out | apply below_alloc | apply pw_below_drewN | apply below_drew1 | refine below_set ?_ GE113.out) | exact HB.out)⟩⟩
 case round =>
  clear H'
  try clear p2
  obtain ⟨x6_1, rfl, HA, HK1, HO_0, BK113, HB⟩ := hrel
  cases gk with
  | zero => exact absurd HA.out (by simp [spec_l14Put.l0])
  | succ k1 =>
   have H := HA.out
   clear HA
   simp only [spec_l14Put.l0] at H
   by_cases c4 : x6_1 < (l0.length : Int)
   ·rw [if_pos c4] at H
    have c4b0 : decide (x6_1 < (l0.length : Int)) = true := decide_eq_true c4
    clear c4
    by_cases c5 : 0 ≤ x6_1
    rotate_left
    ·rw [if_neg c5] at H
     exact absurd H (by simp)
    rw [if_pos c5] at H
    have c5b0 : decide (0 ≤ x6_1) = true := decide_eq_true c5
    clear c5
    replace H := Option.bind_eq_some_iff.mp H
    obtain ⟨t115, A60, H⟩ := H
    replace H : (if t115 = true then (spec_l14Put.l0 k1 l0 (wrap64 (x6_1 + 1)) a1_0 a1_1 a1_2 a1_3) else ((spec_l14Less.f a1_0 a1_1 a1_2 a1_3 ((rd_T48 l0 x6_1).f0) ((rd_T48 l0 x6_1).f1) ((rd_T48 l0 x6_1).f2) ((rd_T48 l0 x6_1).f3)).bind fun t117 => (if t117 = true then ((some (([] : List (S48)) : List (S48))).bind fun y118 => (if x6_1 ≤ (l0.length : Int) then ((some (l0.take (x6_1 : Int).toNat : List (S48))).bind fun y121 => (if y118.length + y121.length < 2932031007402 then ((some (y118 ++ y121 : List (S48))).bind fun y126 => (if y126.length < 2932031007402 then ((some (y126 ++ [(⟨a1_0, a1_1, a1_2, a1_3⟩ : S48)] : List (S48))).bind fun y129 => ((some (l0.drop (x6_1 : Int).toNat : List (S48))).bind fun y132 => (if y129.length + y132.length < 2932031007402 then (some ((y129 ++ y132), true)) else (none)))) else (none))) else (none))) else (none))) else (some (l0, ((((rd_T48 l0 x6_1).f0).toList) == a1_0.toList && (((rd_T48 l0 x6_1).f1) == a1_1 && (((rd_T48 l0 x6_1).f2) == a1_2 && ((((rd_T48 l0 x6_1).f3).toList) == a1_3.toList))))))))) = some (r1, r2) := H
    have A6 := Aside0.mk A60
    clear A60
    by_cases c7 : t115 = true
    ·subst c7
     have H1 : (spec_l14Put.l0 k1 l0 (wrap64 (x6_1 + 1)) a1_0 a1_1 a1_2 a1_3) = some (r1, r2) := by rw [if_pos rfl] at H; exact H
     clear H
     have H := H1
     clear H1
     have H' := Aside0.mk H
     clear H
     try go_wp2
     have n0_ := Aside0.mk (Kd.V_drew HO_0.out)
     have n1_ := Aside0.mk (blk_drew BK113.out)
     have n2_ := Aside0.mk (below_drew1 HB.out)
     clear HO_0
     clear BK113
     clear HB
     have HO_0 := n0_
     have BK113 := n1_
     have HB := n2_
     clear n0_ n1_ n2_
     have p114 : 0 ≤ (x6_1 : Int) := sq_d
     have q114 : x6_1 < (l0.length : Int) := sq_d
     obtain ⟨ad114, e114, hx114_0, hx114_1, hx114_2, hx114_3⟩ := at_T48 (Kd.V_reads' HO_0.out).2.2 x6_1 p114 q114
     cases e114
     replace p114 := eq_true p114
     replace q114 := eq_true q114
     refine start_ (n := 12) (S := fun w' => w'.cell? ⟨gb113, 0, none⟩ = some (.string a1_0) ∧ w'.cell? ⟨gb113, 1, none⟩ = some (.int .i64 a1_1) ∧ w'.cell? ⟨gb113, 2, none⟩ = some (.bool a1_2) ∧ w'.cell? ⟨gb113, 3, none⟩ = some (.string a1_3) ∧ w'.cell? (ad114.add ((x6_1).toNat * 4)) = some (.string ((rd_T48 l0 x6_1).f0)) ∧ w'.cell? ⟨(ad114.add ((x6_1).toNat * 4)).block, (ad114.add ((x6_1).toNat * 4)).off + 1, none⟩ = some (.int .i64 ((rd_T48 l0 x6_1).f1)) ∧ w'.cell? ⟨(ad114.add ((x6_1).toNat * 4)).block, (ad114.add ((x6_1).toNat * 4)).off + 2, none⟩ = some (.bool ((rd_T48 l0 x6_1).f2)) ∧ w'.cell? ⟨(ad114.add ((x6_1).toNat * 4)).block, (ad114.add ((x6_1).toNat * 4)).off + 3, none⟩ = some (.string ((rd_T48 l0 x6_1).f3))) (ds := []) #[false, false, false, false, false, false, false, false, false, false, false, false] (by kernel_rfl) rfl rfl ⟨(blk_cell BK113.out 0).trans rfl, (blk_cell BK113.out 1).trans rfl, (blk_cell BK113.out 2).trans rfl, (blk_cell BK113.out 3).trans rfl, hx114_0, hx114_1, hx114_2, hx114_3⟩ (fun hHeld => ?_); refine with_tabW spec_l14Put.tab2 spec_l14Put.bits2 (fun HT_ HW_ => ?_)
     generalize wr.drew = w8 at HO_0 BK113 HB hx114_0 hx114_1 hx114_2 hx114_3 hHeld ⊢
     refine pu_ 0 (some 8) #[true, false, false, false, false, false, false, false, false, false, false, false] HT_ ?_
     refine pu_ 1 (some 9) #[true, true, false, false, false, false, false, false, false, false, false, false] HT_ ?_
     refine pu_ 2 (some 10) #[true, true, true, false, false, false, false, false, false, false, false, false] HT_ ?_
     refine pu_ 3 (some 11) #[true, true, true, true, false, false, false, false, false, false, false, false] HT_ ?_
     refine pu_ 4 (some 12) #[true, true, true, true, true, false, false, false, false, false, false, false] HT_ ?_
     refine pu_ 5 (some 13) #[true, true, true, true, true, true, false, false, false, false, false, false] HT_ ?_
     refine pu_ 6 (some 14) #[true, true, true, true, true, true, true, false, false, false, false, false] HT_ ?_
     refine pu_ 7 (some 15) #[true, true, true, true, true, true, true, true, false, false, false, false] HT_ ?_
     refine take_ (i := 8) (N := some 16) (v := ?_) (a' := ?_) #[true, true, true, true, true, true, true, true, true, false, false, false] rfl rfl (take_ofW HT_.out HW_.out (by kernel_rfl)) (fun _ _ _ h => h) (Or.inl ⟨by rfl, ?_⟩) hHeld ?_ ?_
     rotate_left
     ·rintro w' ⟨s0, s1, s2, s3, s4, s5, s6, s7⟩
      go_simp
      with_reducible rfl
     rotate_left
     ·simp only [Act.put, List.setIfInBounds_toArray, List.set_cons_zero, List.set_cons_succ, i64_w, i32_w]
      rfl
     refine take_ (i := 9) (N := some 17) (v := ?_) (a' := ?_) #[true, true, true, true, true, true, true, true, true, true, false, false] rfl rfl (take_ofW HT_.out HW_.out (by kernel_rfl)) (fun _ _ _ h => h) (Or.inl ⟨by rfl, ?_⟩) hHeld ?_ ?_
     rotate_left
     ·rintro w' ⟨s0, s1, s2, s3, s4, s5, s6, s7⟩
      go_simp
      with_reducible rfl
     rotate_left
     ·simp only [Act.put, List.setIfInBounds_toArray, List.set_cons_zero, List.set_cons_succ, i64_w, i32_w]
      rfl
     refine one_ (i := 10) (N := some 18) #[true, true, true, true, true, true, true, true, true, true, true, false] rfl rfl (one_of HT_.out (by kernel_rfl)) (by decide) (fun K hK => ?_)
     refine goes_ Try.func86 (by kernel_rfl) rfl #[.agg #[.string ((rd_T48 l0 x6_1).f0), .int .i64 ((rd_T48 l0 x6_1).f1), .bool ((rd_T48 l0 x6_1).f2), .string ((rd_T48 l0 x6_1).f3)], .agg #[.string a1_0, .int .i64 a1_1, .bool a1_2, .string a1_3]] (by rfl) rfl rfl (by (try simp only [List.map_toArray, List.map_cons, List.map_nil]); first | done | rfl | (simp only [List.length_drop, List.length_take]; rfl)) ?_
     with_reducible refine (spec_l14Less.calls ((rd_T48 l0 x6_1).f0) ((rd_T48 l0 x6_1).f1) ((rd_T48 l0 x6_1).f2) ((rd_T48 l0 x6_1).f3) a1_0 a1_1 a1_2 a1_3 true _ A6.out).mono ?_
     rintro e w9 ⟨rfl, hb⟩
     have HS4_ := (hb.cell (World.block_lt_of_cell? _ _ (hHeld.2.2.2.2.1))).trans (hHeld.2.2.2.2.1)
     have HS5_ := (hb.cell (World.block_lt_of_cell? _ _ (hHeld.2.2.2.2.2.1))).trans (hHeld.2.2.2.2.2.1)
     have HS6_ := (hb.cell (World.block_lt_of_cell? _ _ (hHeld.2.2.2.2.2.2.1))).trans (hHeld.2.2.2.2.2.2.1)
     have HS7_ := (hb.cell (World.block_lt_of_cell? _ _ (hHeld.2.2.2.2.2.2.2))).trans (hHeld.2.2.2.2.2.2.2)
     refine ⟨_, rfl, ?_⟩
     have n0_ := Aside0.mk (Kd.V_below (sq_v HO_0) hb)
     have n1_ := Aside0.mk (blk_below (g := gb113) (o := .cells #[.string a1_0, .int .i64 a1_1, .bool a1_2, .string a1_3] 48 (0, 0)) (sq_l BK113) hb)
     have n2_ := Aside0.mk (below_step (by repeat (first | (with_reducible first | exact HB.out | apply below_alloc | apply pw_below_drewN | apply below_drew1 | refine below_set ?_ GE113.out) | exact HB.out)) hb)
     clear HO_0
     clear BK113
     clear HB
     have HO_0 := n0_
     have BK113 := n1_
     have HB := n2_
     clear n0_ n1_ n2_
     (try clear hb)
     (try clear hb2)
     (try clear hk)
     (try clear hi)
     refine hK.out _ _ ⟨(blk_cell BK113.out 0).trans rfl, (blk_cell BK113.out 1).trans rfl, (blk_cell BK113.out 2).trans rfl, (blk_cell BK113.out 3).trans rfl, HS4_, HS5_, HS6_, HS7_⟩ (fun hHeld => ?_)
     clear hK K
     refine norm_ (a' := ?_) ?_ ?_
     rotate_left
     ·show Act.put _ (some 18) _ = _
      simp only [Act.put, List.setIfInBounds_toArray, List.set_cons_zero, List.set_cons_succ, i64_w, i32_w]
      rfl
     refine pu_ 11 (some 19) #[true, true, true, true, true, true, true, true, true, true, true, true] HT_ ?_
     refine done_ (done_of HT_.out (by kernel_rfl)) ?_
     try go_wp2
     go_roundg k1
     case measure => have := HK1.out; omega
     case rel => exact ⟨(wrap64 (x6_1 + 1)), sq_e, H', ⟨by have := HK1.out; omega⟩, ⟨by (with_reducible repeat (first | apply Kd.V_alloc | apply Kd.V_drewN | apply Kd.V_drew)); exact HO_0.out⟩, ⟨by (with_reducible repeat (first | refine blk_drewN ?_ _ | refine blk_drew ?_ | refine blk_alloc ?_ _)); exact BK113.out⟩, ⟨by repeat (first | (with_reducible first | exact HB.out | apply below_alloc | apply pw_below_drewN | apply below_drew1 | refine below_set ?_ GE113.out) | exact HB.out)⟩⟩
    ·replace c7 := Bool.eq_false_iff.mpr c7
     subst c7
     have H1 : ((spec_l14Less.f a1_0 a1_1 a1_2 a1_3 ((rd_T48 l0 x6_1).f0) ((rd_T48 l0 x6_1).f1) ((rd_T48 l0 x6_1).f2) ((rd_T48 l0 x6_1).f3)).bind fun t117 => (if t117 = true then ((some (([] : List (S48)) : List (S48))).bind fun y118 => (if x6_1 ≤ (l0.length : Int) then ((some (l0.take (x6_1 : Int).toNat : List (S48))).bind fun y121 => (if y118.length + y121.length < 2932031007402 then ((some (y118 ++ y121 : List (S48))).bind fun y126 => (if y126.length < 2932031007402 then ((some (y126 ++ [(⟨a1_0, a1_1, a1_2, a1_3⟩ : S48)] : List (S48))).bind fun y129 => ((some (l0.drop (x6_1 : Int).toNat : List (S48))).bind fun y132 => (if y129.length + y132.length < 2932031007402 then (some ((y129 ++ y132), true)) else (none)))) else (none))) else (none))) else (none))) else (some (l0, ((((rd_T48 l0 x6_1).f0).toList) == a1_0.toList && (((rd_T48 l0 x6_1).f1) == a1_1 && (((rd_T48 l0 x6_1).f2) == a1_2 && ((((rd_T48 l0 x6_1).f3).toList) == a1_3.toList)))))))) = some (r1, r2) := by rw [if_neg (show ¬ (false = true) by decide)] at H; exact H
     clear H
     have H := H1
     clear H1
     replace H := Option.bind_eq_some_iff.mp H
     obtain ⟨t117, A100, H⟩ := H
     replace H : (if t117 = true then ((some (([] : List (S48)) : List (S48))).bind fun y118 => (if x6_1 ≤ (l0.length : Int) then ((some (l0.take (x6_1 : Int).toNat : List (S48))).bind fun y121 => (if y118.length + y121.length < 2932031007402 then ((some (y118 ++ y121 : List (S48))).bind fun y126 => (if y126.length < 2932031007402 then ((some (y126 ++ [(⟨a1_0, a1_1, a1_2, a1_3⟩ : S48)] : List (S48))).bind fun y129 => ((some (l0.drop (x6_1 : Int).toNat : List (S48))).bind fun y132 => (if y129.length + y132.length < 2932031007402 then (some ((y129 ++ y132), true)) else (none)))) else (none))) else (none))) else (none))) else (some (l0, ((((rd_T48 l0 x6_1).f0).toList) == a1_0.toList && (((rd_T48 l0 x6_1).f1) == a1_1 && (((rd_T48 l0 x6_1).f2) == a1_2 && ((((rd_T48 l0 x6_1).f3).toList) == a1_3.toList))))))) = some (r1, r2) := H
     have A10 := Aside0.mk A100
     clear A100
     by_cases c11 : t117 = true
     ·subst c11
      have H1 : ((some (([] : List (S48)) : List (S48))).bind fun y118 => (if x6_1 ≤ (l0.length : Int) then ((some (l0.take (x6_1 : Int).toNat : List (S48))).bind fun y121 => (if y118.length + y121.length < 2932031007402 then ((some (y118 ++ y121 : List (S48))).bind fun y126 => (if y126.length < 2932031007402 then ((some (y126 ++ [(⟨a1_0, a1_1, a1_2, a1_3⟩ : S48)] : List (S48))).bind fun y129 => ((some (l0.drop (x6_1 : Int).toNat : List (S48))).bind fun y132 => (if y129.length + y132.length < 2932031007402 then (some ((y129 ++ y132), true)) else (none)))) else (none))) else (none))) else (none))) = some (r1, r2) := by rw [if_pos rfl] at H; exact H
      clear H
      have H := H1
      clear H1
      obtain ⟨y118, hy118⟩ : ∃ y_ : List (S48), y_ = (([] : List (S48))) := ⟨_, rfl⟩
      replace H : (if x6_1 ≤ (l0.length : Int) then ((some (l0.take (x6_1 : Int).toNat : List (S48))).bind fun y121 => (if y118.length + y121.length < 2932031007402 then ((some (y118 ++ y121 : List (S48))).bind fun y126 => (if y126.length < 2932031007402 then ((some (y126 ++ [(⟨a1_0, a1_1, a1_2, a1_3⟩ : S48)] : List (S48))).bind fun y129 => ((some (l0.drop (x6_1 : Int).toNat : List (S48))).bind fun y132 => (if y129.length + y132.length < 2932031007402 then (some ((y129 ++ y132), true)) else (none)))) else (none))) else (none))) else (none)) = some (r1, r2) := by first | (rw [hy118]; with_reducible exact H) | (have H2_ := (Option.bind_some _ _).symm.trans H; rw [hy118]; with_reducible exact H2_) | (have H2_ := (Option.bind_some _ _).symm.trans H; with_reducible exact H2_) | with_reducible exact H | (rw [hy118]; exact H) | exact H
      have Ny118 := Aside0.mk hy118
      clear hy118
      have c12b0 := eq_true (sq_d : 0 ≤ x6_1)
      by_cases c13 : x6_1 ≤ (l0.length : Int)
      rotate_left
      ·rw [if_neg c13] at H
       exact absurd H (by simp)
      rw [if_pos c13] at H
      have c13b0 := eq_true c13
      have c13b1 : decide (x6_1 ≤ (l0.length : Int)) = true := decide_eq_true c13
      clear c13
      obtain ⟨y121, hy121⟩ : ∃ y_ : List (S48), y_ = (l0.take (x6_1 : Int).toNat) := ⟨_, rfl⟩
      replace H : (if y118.length + y121.length < 2932031007402 then ((some (y118 ++ y121 : List (S48))).bind fun y126 => (if y126.length < 2932031007402 then ((some (y126 ++ [(⟨a1_0, a1_1, a1_2, a1_3⟩ : S48)] : List (S48))).bind fun y129 => ((some (l0.drop (x6_1 : Int).toNat : List (S48))).bind fun y132 => (if y129.length + y132.length < 2932031007402 then (some ((y129 ++ y132), true)) else (none)))) else (none))) else (none)) = some (r1, r2) := by first | (rw [hy121]; with_reducible exact H) | (have H2_ := (Option.bind_some _ _).symm.trans H; rw [hy121]; with_reducible exact H2_) | (have H2_ := (Option.bind_some _ _).symm.trans H; with_reducible exact H2_) | with_reducible exact H | (rw [hy121]; exact H) | exact H
      have Ny121 := Aside0.mk hy121
      clear hy121
      by_cases c14 : y118.length + y121.length < 2932031007402
      rotate_left
      ·rw [if_neg c14] at H
       exact absurd H (by simp)
      rw [if_pos c14] at H
      have LMc14 := Aside0.mk c14
      clear c14
      obtain ⟨y126, hy126⟩ : ∃ y_ : List (S48), y_ = (y118 ++ y121) := ⟨_, rfl⟩
      replace H : (if y126.length < 2932031007402 then ((some (y126 ++ [(⟨a1_0, a1_1, a1_2, a1_3⟩ : S48)] : List (S48))).bind fun y129 => ((some (l0.drop (x6_1 : Int).toNat : List (S48))).bind fun y132 => (if y129.length + y132.length < 2932031007402 then (some ((y129 ++ y132), true)) else (none)))) else (none)) = some (r1, r2) := by first | (rw [hy126]; with_reducible exact H) | (have H2_ := (Option.bind_some _ _).symm.trans H; rw [hy126]; with_reducible exact H2_) | (have H2_ := (Option.bind_some _ _).symm.trans H; with_reducible exact H2_) | with_reducible exact H | (rw [hy126]; exact H) | exact H
      have Ny126 := Aside0.mk hy126
      clear hy126
      by_cases c15 : y126.length < 2932031007402
      rotate_left
      ·rw [if_neg c15] at H
       exact absurd H (by simp)
      rw [if_pos c15] at H
      have LMc15 := Aside0.mk c15
      clear c15
      obtain ⟨y129, hy129⟩ : ∃ y_ : List (S48), y_ = (y126 ++ [(⟨a1_0, a1_1, a1_2, a1_3⟩ : S48)]) := ⟨_, rfl⟩
      replace H : ((some (l0.drop (x6_1 : Int).toNat : List (S48))).bind fun y132 => (if y129.length + y132.length < 2932031007402 then (some ((y129 ++ y132), true)) else (none))) = some (r1, r2) := by first | (rw [hy129]; with_reducible exact H) | (have H2_ := (Option.bind_some _ _).symm.trans H; rw [hy129]; with_reducible exact H2_) | (have H2_ := (Option.bind_some _ _).symm.trans H; with_reducible exact H2_) | with_reducible exact H | (rw [hy129]; exact H) | exact H
      have Ny129 := Aside0.mk hy129
      clear hy129
      have c16b0 := eq_true (sq_d : 0 ≤ x6_1)
      have c17b0 := eq_true (sq_d : x6_1 ≤ (l0.length : Int))
      obtain ⟨y132, hy132⟩ : ∃ y_ : List (S48), y_ = (l0.drop (x6_1 : Int).toNat) := ⟨_, rfl⟩
      replace H : (if y129.length + y132.length < 2932031007402 then (some ((y129 ++ y132), true)) else (none)) = some (r1, r2) := by first | (rw [hy132]; with_reducible exact H) | (have H2_ := (Option.bind_some _ _).symm.trans H; rw [hy132]; with_reducible exact H2_) | (have H2_ := (Option.bind_some _ _).symm.trans H; with_reducible exact H2_) | with_reducible exact H | (rw [hy132]; exact H) | exact H
      have Ny132 := Aside0.mk hy132
      clear hy132
      by_cases c18 : y129.length + y132.length < 2932031007402
      rotate_left
      ·rw [if_neg c18] at H
       exact absurd H (by simp)
      rw [if_pos c18] at H
      have LMc18 := Aside0.mk c18
      clear c18
      obtain ⟨y137, hy137⟩ : ∃ y_ : List (S48), y_ = (y129 ++ y132) := ⟨_, rfl⟩
      replace H : (some (y137, true)) = some (r1, r2) := by first | (rw [hy137]; with_reducible exact H) | (have H2_ := (Option.bind_some _ _).symm.trans H; rw [hy137]; with_reducible exact H2_) | (have H2_ := (Option.bind_some _ _).symm.trans H; with_reducible exact H2_) | with_reducible exact H | (rw [hy137]; exact H) | exact H
      have Ny137 := Aside0.mk hy137
      clear hy137
      simp only [Option.some.injEq, Prod.mk.injEq] at H
      obtain ⟨rfl, rfl⟩ := H
      try go_wp2
      have n0_ := Aside0.mk (Kd.V_drew HO_0.out)
      have n1_ := Aside0.mk (blk_drew BK113.out)
      have n2_ := Aside0.mk (below_drew1 HB.out)
      clear HO_0
      clear BK113
      clear HB
      have HO_0 := n0_
      have BK113 := n1_
      have HB := n2_
      clear n0_ n1_ n2_
      have p114 : 0 ≤ (x6_1 : Int) := sq_d
      have q114 : x6_1 < (l0.length : Int) := sq_d
      obtain ⟨ad114, e114, hx114_0, hx114_1, hx114_2, hx114_3⟩ := at_T48 (Kd.V_reads' HO_0.out).2.2 x6_1 p114 q114
      cases e114
      replace p114 := eq_true p114
      replace q114 := eq_true q114
      refine start_ (n := 12) (S := fun w' => w'.cell? ⟨gb113, 0, none⟩ = some (.string a1_0) ∧ w'.cell? ⟨gb113, 1, none⟩ = some (.int .i64 a1_1) ∧ w'.cell? ⟨gb113, 2, none⟩ = some (.bool a1_2) ∧ w'.cell? ⟨gb113, 3, none⟩ = some (.string a1_3) ∧ w'.cell? (ad114.add ((x6_1).toNat * 4)) = some (.string ((rd_T48 l0 x6_1).f0)) ∧ w'.cell? ⟨(ad114.add ((x6_1).toNat * 4)).block, (ad114.add ((x6_1).toNat * 4)).off + 1, none⟩ = some (.int .i64 ((rd_T48 l0 x6_1).f1)) ∧ w'.cell? ⟨(ad114.add ((x6_1).toNat * 4)).block, (ad114.add ((x6_1).toNat * 4)).off + 2, none⟩ = some (.bool ((rd_T48 l0 x6_1).f2)) ∧ w'.cell? ⟨(ad114.add ((x6_1).toNat * 4)).block, (ad114.add ((x6_1).toNat * 4)).off + 3, none⟩ = some (.string ((rd_T48 l0 x6_1).f3))) (ds := []) #[false, false, false, false, false, false, false, false, false, false, false, false] (by kernel_rfl) rfl rfl ⟨(blk_cell BK113.out 0).trans rfl, (blk_cell BK113.out 1).trans rfl, (blk_cell BK113.out 2).trans rfl, (blk_cell BK113.out 3).trans rfl, hx114_0, hx114_1, hx114_2, hx114_3⟩ (fun hHeld => ?_); refine with_tabW spec_l14Put.tab2 spec_l14Put.bits2 (fun HT_ HW_ => ?_)
      generalize wr.drew = w19 at HO_0 BK113 HB hx114_0 hx114_1 hx114_2 hx114_3 hHeld ⊢
      refine pu_ 0 (some 8) #[true, false, false, false, false, false, false, false, false, false, false, false] HT_ ?_
      refine pu_ 1 (some 9) #[true, true, false, false, false, false, false, false, false, false, false, false] HT_ ?_
      refine pu_ 2 (some 10) #[true, true, true, false, false, false, false, false, false, false, false, false] HT_ ?_
      refine pu_ 3 (some 11) #[true, true, true, true, false, false, false, false, false, false, false, false] HT_ ?_
      refine pu_ 4 (some 12) #[true, true, true, true, true, false, false, false, false, false, false, false] HT_ ?_
      refine pu_ 5 (some 13) #[true, true, true, true, true, true, false, false, false, false, false, false] HT_ ?_
      refine pu_ 6 (some 14) #[true, true, true, true, true, true, true, false, false, false, false, false] HT_ ?_
      refine pu_ 7 (some 15) #[true, true, true, true, true, true, true, true, false, false, false, false] HT_ ?_
      refine take_ (i := 8) (N := some 16) (v := ?_) (a' := ?_) #[true, true, true, true, true, true, true, true, true, false, false, false] rfl rfl (take_ofW HT_.out HW_.out (by kernel_rfl)) (fun _ _ _ h => h) (Or.inl ⟨by rfl, ?_⟩) hHeld ?_ ?_
      rotate_left
      ·rintro w' ⟨s0, s1, s2, s3, s4, s5, s6, s7⟩
       go_simp
       with_reducible rfl
      rotate_left
      ·simp only [Act.put, List.setIfInBounds_toArray, List.set_cons_zero, List.set_cons_succ, i64_w, i32_w]
       rfl
      refine take_ (i := 9) (N := some 17) (v := ?_) (a' := ?_) #[true, true, true, true, true, true, true, true, true, true, false, false] rfl rfl (take_ofW HT_.out HW_.out (by kernel_rfl)) (fun _ _ _ h => h) (Or.inl ⟨by rfl, ?_⟩) hHeld ?_ ?_
      rotate_left
      ·rintro w' ⟨s0, s1, s2, s3, s4, s5, s6, s7⟩
       go_simp
       with_reducible rfl
      rotate_left
      ·simp only [Act.put, List.setIfInBounds_toArray, List.set_cons_zero, List.set_cons_succ, i64_w, i32_w]
       rfl
      refine one_ (i := 10) (N := some 18) #[true, true, true, true, true, true, true, true, true, true, true, false] rfl rfl (one_of HT_.out (by kernel_rfl)) (by decide) (fun K hK => ?_)
      refine goes_ Try.func86 (by kernel_rfl) rfl #[.agg #[.string ((rd_T48 l0 x6_1).f0), .int .i64 ((rd_T48 l0 x6_1).f1), .bool ((rd_T48 l0 x6_1).f2), .string ((rd_T48 l0 x6_1).f3)], .agg #[.string a1_0, .int .i64 a1_1, .bool a1_2, .string a1_3]] (by rfl) rfl rfl (by (try simp only [List.map_toArray, List.map_cons, List.map_nil]); first | done | rfl | (simp only [List.length_drop, List.length_take]; rfl)) ?_
      with_reducible refine (spec_l14Less.calls ((rd_T48 l0 x6_1).f0) ((rd_T48 l0 x6_1).f1) ((rd_T48 l0 x6_1).f2) ((rd_T48 l0 x6_1).f3) a1_0 a1_1 a1_2 a1_3 false _ A6.out).mono ?_
      rintro e w20 ⟨rfl, hb⟩
      have HS4_ := (hb.cell (World.block_lt_of_cell? _ _ (hHeld.2.2.2.2.1))).trans (hHeld.2.2.2.2.1)
      have HS5_ := (hb.cell (World.block_lt_of_cell? _ _ (hHeld.2.2.2.2.2.1))).trans (hHeld.2.2.2.2.2.1)
      have HS6_ := (hb.cell (World.block_lt_of_cell? _ _ (hHeld.2.2.2.2.2.2.1))).trans (hHeld.2.2.2.2.2.2.1)
      have HS7_ := (hb.cell (World.block_lt_of_cell? _ _ (hHeld.2.2.2.2.2.2.2))).trans (hHeld.2.2.2.2.2.2.2)
      refine ⟨_, rfl, ?_⟩
      have n0_ := Aside0.mk (Kd.V_below (sq_v HO_0) hb)
      have n1_ := Aside0.mk (blk_below (g := gb113) (o := .cells #[.string a1_0, .int .i64 a1_1, .bool a1_2, .string a1_3] 48 (0, 0)) (sq_l BK113) hb)
      have n2_ := Aside0.mk (below_step (by repeat (first | (with_reducible first | exact HB.out | apply below_alloc | apply pw_below_drewN | apply below_drew1 | refine below_set ?_ GE113.out) | exact HB.out)) hb)
      clear HO_0
      clear BK113
      clear HB
      have HO_0 := n0_
      have BK113 := n1_
      have HB := n2_
      clear n0_ n1_ n2_
      (try clear hb)
      (try clear hb2)
      (try clear hk)
      (try clear hi)
      refine hK.out _ _ ⟨(blk_cell BK113.out 0).trans rfl, (blk_cell BK113.out 1).trans rfl, (blk_cell BK113.out 2).trans rfl, (blk_cell BK113.out 3).trans rfl, HS4_, HS5_, HS6_, HS7_⟩ (fun hHeld => ?_)
      clear hK K
      refine norm_ (a' := ?_) ?_ ?_
      rotate_left
      ·show Act.put _ (some 18) _ = _
       simp only [Act.put, List.setIfInBounds_toArray, List.set_cons_zero, List.set_cons_succ, i64_w, i32_w]
       rfl
      refine pu_ 11 (some 19) #[true, true, true, true, true, true, true, true, true, true, true, true] HT_ ?_
      refine done_ (done_of HT_.out (by kernel_rfl)) ?_
      try go_wp2
      have n0_ := Aside0.mk (Kd.V_drew HO_0.out)
      have n1_ := Aside0.mk (blk_drew BK113.out)
      have n2_ := Aside0.mk (below_drew1 HB.out)
      clear HO_0
      clear BK113
      clear HB
      have HO_0 := n0_
      have BK113 := n1_
      have HB := n2_
      clear n0_ n1_ n2_
      have p116 : 0 ≤ (x6_1 : Int) := sq_d
      have q116 : x6_1 < (l0.length : Int) := sq_d
      obtain ⟨ad116, e116, hx116_0, hx116_1, hx116_2, hx116_3⟩ := at_T48 (Kd.V_reads' HO_0.out).2.2 x6_1 p116 q116
      obtain rfl : ad114 = ad116 := (by injection e116)
      replace p116 := eq_true p116
      replace q116 := eq_true q116
      refine start_ (n := 13) (S := fun w' => w'.cell? ⟨gb113, 0, none⟩ = some (.string a1_0) ∧ w'.cell? ⟨gb113, 1, none⟩ = some (.int .i64 a1_1) ∧ w'.cell? ⟨gb113, 2, none⟩ = some (.bool a1_2) ∧ w'.cell? ⟨gb113, 3, none⟩ = some (.string a1_3) ∧ w'.cell? (ad114.add ((x6_1).toNat * 4)) = some (.string ((rd_T48 l0 x6_1).f0)) ∧ w'.cell? ⟨(ad114.add ((x6_1).toNat * 4)).block, (ad114.add ((x6_1).toNat * 4)).off + 1, none⟩ = some (.int .i64 ((rd_T48 l0 x6_1).f1)) ∧ w'.cell? ⟨(ad114.add ((x6_1).toNat * 4)).block, (ad114.add ((x6_1).toNat * 4)).off + 2, none⟩ = some (.bool ((rd_T48 l0 x6_1).f2)) ∧ w'.cell? ⟨(ad114.add ((x6_1).toNat * 4)).block, (ad114.add ((x6_1).toNat * 4)).off + 3, none⟩ = some (.string ((rd_T48 l0 x6_1).f3))) (ds := []) #[false, false, false, false, false, false, false, false, false, false, false, false, false] (by kernel_rfl) rfl rfl ⟨(blk_cell BK113.out 0).trans rfl, (blk_cell BK113.out 1).trans rfl, (blk_cell BK113.out 2).trans rfl, (blk_cell BK113.out 3).trans rfl, hx116_0, hx116_1, hx116_2, hx116_3⟩ (fun hHeld => ?_); refine with_tabW spec_l14Put.tab4 spec_l14Put.bits4 (fun HT_ HW_ => ?_)
      generalize w20.drew = w21 at HO_0 BK113 HB hx116_0 hx116_1 hx116_2 hx116_3 hHeld ⊢
      refine pu_ 0 (some 22) #[true, false, false, false, false, false, false, false, false, false, false, false, false] HT_ ?_
      refine pu_ 1 (some 23) #[true, true, false, false, false, false, false, false, false, false, false, false, false] HT_ ?_
      refine pu_ 2 (some 24) #[true, true, true, false, false, false, false, false, false, false, false, false, false] HT_ ?_
      refine pu_ 3 (some 25) #[true, true, true, true, false, false, false, false, false, false, false, false, false] HT_ ?_
      refine pu_ 4 (some 26) #[true, true, true, true, true, false, false, false, false, false, false, false, false] HT_ ?_
      refine pu_ 6 (some 28) #[true, true, true, true, true, false, true, false, false, false, false, false, false] HT_ ?_
      refine pu_ 7 (some 29) #[true, true, true, true, true, false, true, true, false, false, false, false, false] HT_ ?_
      refine pu_ 8 (some 30) #[true, true, true, true, true, false, true, true, true, false, false, false, false] HT_ ?_
      refine take_ (i := 5) (N := some 27) (v := ?_) (a' := ?_) #[true, true, true, true, true, true, true, true, true, false, false, false, false] rfl rfl (take_ofW HT_.out HW_.out (by kernel_rfl)) (fun _ _ _ h => h) (Or.inl ⟨by rfl, ?_⟩) hHeld ?_ ?_
      rotate_left
      ·rintro w' ⟨s0, s1, s2, s3, s4, s5, s6, s7⟩
       go_simp
       with_reducible rfl
      rotate_left
      ·simp only [Act.put, List.setIfInBounds_toArray, List.set_cons_zero, List.set_cons_succ, i64_w, i32_w]
       rfl
      refine take_ (i := 9) (N := some 31) (v := ?_) (a' := ?_) #[true, true, true, true, true, true, true, true, true, true, false, false, false] rfl rfl (take_ofW HT_.out HW_.out (by kernel_rfl)) (fun _ _ _ h => h) (Or.inl ⟨by rfl, ?_⟩) hHeld ?_ ?_
      rotate_left
      ·rintro w' ⟨s0, s1, s2, s3, s4, s5, s6, s7⟩
       go_simp
       with_reducible rfl
      rotate_left
      ·simp only [Act.put, List.setIfInBounds_toArray, List.set_cons_zero, List.set_cons_succ, i64_w, i32_w]
       rfl
      refine one_ (i := 10) (N := some 32) #[true, true, true, true, true, true, true, true, true, true, true, false, false] rfl rfl (one_of HT_.out (by kernel_rfl)) (by decide) (fun K hK => ?_)
      refine goes_ Try.func86 (by kernel_rfl) rfl #[.agg #[.string a1_0, .int .i64 a1_1, .bool a1_2, .string a1_3], .agg #[.string ((rd_T48 l0 x6_1).f0), .int .i64 ((rd_T48 l0 x6_1).f1), .bool ((rd_T48 l0 x6_1).f2), .string ((rd_T48 l0 x6_1).f3)]] (by rfl) rfl rfl (by (try simp only [List.map_toArray, List.map_cons, List.map_nil]); first | done | rfl | (simp only [List.length_drop, List.length_take]; rfl)) ?_
      with_reducible refine (spec_l14Less.calls a1_0 a1_1 a1_2 a1_3 ((rd_T48 l0 x6_1).f0) ((rd_T48 l0 x6_1).f1) ((rd_T48 l0 x6_1).f2) ((rd_T48 l0 x6_1).f3) true _ A10.out).mono ?_
      rintro e w22 ⟨rfl, hb⟩
      have HS4_ := (hb.cell (World.block_lt_of_cell? _ _ (hHeld.2.2.2.2.1))).trans (hHeld.2.2.2.2.1)
      have HS5_ := (hb.cell (World.block_lt_of_cell? _ _ (hHeld.2.2.2.2.2.1))).trans (hHeld.2.2.2.2.2.1)
      have HS6_ := (hb.cell (World.block_lt_of_cell? _ _ (hHeld.2.2.2.2.2.2.1))).trans (hHeld.2.2.2.2.2.2.1)
      have HS7_ := (hb.cell (World.block_lt_of_cell? _ _ (hHeld.2.2.2.2.2.2.2))).trans (hHeld.2.2.2.2.2.2.2)
      refine ⟨_, rfl, ?_⟩
      have n0_ := Aside0.mk (Kd.V_below (sq_v HO_0) hb)
      have n1_ := Aside0.mk (blk_below (g := gb113) (o := .cells #[.string a1_0, .int .i64 a1_1, .bool a1_2, .string a1_3] 48 (0, 0)) (sq_l BK113) hb)
      have n2_ := Aside0.mk (below_step (by repeat (first | (with_reducible first | exact HB.out | apply below_alloc | apply pw_below_drewN | apply below_drew1 | refine below_set ?_ GE113.out) | exact HB.out)) hb)
      clear HO_0
      clear BK113
      clear HB
      have HO_0 := n0_
      have BK113 := n1_
      have HB := n2_
      clear n0_ n1_ n2_
      (try clear hb)
      (try clear hb2)
      (try clear hk)
      (try clear hi)
      refine hK.out _ _ ⟨(blk_cell BK113.out 0).trans rfl, (blk_cell BK113.out 1).trans rfl, (blk_cell BK113.out 2).trans rfl, (blk_cell BK113.out 3).trans rfl, HS4_, HS5_, HS6_, HS7_⟩ (fun hHeld => ?_)
      clear hK K
      refine norm_ (a' := ?_) ?_ ?_
      rotate_left
      ·show Act.put _ (some 32) _ = _
       simp only [Act.put, List.setIfInBounds_toArray, List.set_cons_zero, List.set_cons_succ, i64_w, i32_w]
       rfl
      refine pu_ 11 (some 33) #[true, true, true, true, true, true, true, true, true, true, true, true, false] HT_ ?_
      refine pu_ 12 (some 34) #[true, true, true, true, true, true, true, true, true, true, true, true, true] HT_ ?_
      refine done_ (done_of HT_.out (by kernel_rfl)) ?_
      try go_wp2_with (first | ((with_reducible refine gate_dst (N := 42) rfl ?_); refine Kd.R_lit k48 _ 48 ?hg (N := 42) ?hd (xs := ([] : List (S48))) (inner := []) (ok := fun _ => True) (okp := fun _ => True) ?hr ?hp (fun _ hk => hk) trivial (Below.refl _ _) (Nat.le_refl _) (by simp) ?_; (case hd => rfl); (case hg => rfl); (case hr => first | (go_simp; done) | (go_simp; rfl)); (case hp => exact (Reps.none _ _)); intro v119 w23 ho24 hb hg_ hnew_; clear hg_ hnew_; (first | rw [← Ny118.out] at ho24 | (simp only [Int.reduceToNat] at ho24; rw [← Ny118.out] at ho24)); have n0_ := Aside0.mk (Kd.V_elder' (sq_v HO_0) (Kd.R_base ho24) hb); have n1_ := Aside0.mk (Kd.R_lower (Kd.R_newB (Kd.R_newM (M := fun k_ => (w.heap.size ≤ k_)) ho24 (below_size (by repeat (first | (with_reducible first | exact HB.out | apply below_alloc | apply pw_below_drewN | apply below_drew1 | refine below_set ?_ GE113.out) | exact HB.out))) (fun k_ h_ => h_)) (g := gb113) (o := .cells #[.string a1_0, .int .i64 a1_1, .bool a1_2, .string a1_3] 48 (0, 0)) (sq_l BK113)) (below_size (by repeat (first | (with_reducible first | exact HB.out | apply below_alloc | apply pw_below_drewN | apply below_drew1 | refine below_set ?_ GE113.out) | exact HB.out)))); have n2_ := Aside0.mk (blk_below (g := gb113) (o := .cells #[.string a1_0, .int .i64 a1_1, .bool a1_2, .string a1_3] 48 (0, 0)) (sq_l BK113) hb); have n3_ := Aside0.mk (below_step (by repeat (first | (with_reducible first | exact HB.out | apply below_alloc | apply pw_below_drewN | apply below_drew1 | refine below_set ?_ GE113.out) | exact HB.out)) hb); clear HO_0; clear BK113; clear HB; have HO_0 := n0_; have HO120 := n1_; have BK113 := n2_; have HB := n3_; clear n0_ n1_ n2_ n3_; clear hb ho24; have q25 : (x6_1 : Int) ≤ ((l0.length : Int) : Int) := sq_d; obtain ⟨i025, hi025, _, hsz25, _⟩ := info_parts info48; have hroom25 : l0.length ≤ c0 := (Kd.V_reads' HO_0.out).2.1; have hC25 : Kd.F k48 _ _ (some ad114) l0.length l0 := (Kd.V_at (base := w.heap.size) HO_0.out).2.2; have hcut25 := cut_to (P := Try.prog) 44 48 .i64 Try.underlying44 hi025 (some ad114) l0.length c0 x6_1 (sq_d) q25 hroom25; have hr25 := Kd.F_take (m := (x6_1 : Int).toNat) hC25 (by omega); have hy25 : y121.length = (x6_1 : Int).toNat := (by rw [Ny121.out, List.length_take]; omega); rw [← Ny121.out] at hr25; rw [← hy25] at hcut25; have HO125 := Aside0.mk (show Kd.V k48 48 _ w.heap.size _ (.slice (some ad114) y121.length c0) y121 from Kd.V_mk (by omega) hr25); have HC125 := Aside0.mk (show y121.length ≤ c0 from by omega); clear hr25 hC25 hroom25 hi025 hsz25; have KY25 := Aside0.mk hy25; clear hy25; replace q25 := eq_true q25) | ((with_reducible refine gate_builtin (b := .append) (xs := #[.tmp 42, .tmp 45]) rfl ?_); at_builtin; refine Kd.R_append_rows k48 (w0 := w) w.heap.size rfl (.tmp 42) (.tmp 45) 44 48 (.agg #[(.string ⟨#[]⟩), (.int .i64 0), (.bool false), (.string ⟨#[]⟩)]) 48 rfl Try.underlying44 info48 rfl (by decide) (by omega) v119 y118 y121 _ _ _ (fun k_ => (w.heap.size ≤ k_) ∧ k_ ≠ gb113) (fun _ => False) rfl rfl ?aO ?aR (fun _ _ h => h) (fun _ h => h.elim) ?aF ?aB ?aS ?aL ?_; (case aR => repeat (first | exact (Kd.V_reads' HO125.out).2.2 | (with_reducible refine Kd.C_alloc ?_ _) | (with_reducible refine Kd.C_drewN ?_ _) | (with_reducible refine Kd.C_drew ?_))); (case aB => exact (by repeat (first | (with_reducible first | exact HB.out | apply below_alloc | apply pw_below_drewN | apply below_drew1 | refine below_set ?_ GE113.out) | exact HB.out))); (case aF => exact (fun k_ hk => ⟨(Nat.le_trans (below_size (by repeat (first | (with_reducible first | exact HB.out | apply below_alloc | apply pw_below_drewN | apply below_drew1 | refine below_set ?_ GE113.out) | exact HB.out))) hk), Kd.freshB (g := gb113) (o := .cells #[.string a1_0, .int .i64 a1_1, .bool a1_2, .string a1_3] 48 (0, 0)) (sq_l BK113) k_ hk⟩)); (case aO => exact (by (with_reducible repeat (first | apply Kd.R_alloc | apply Kd.R_drewN | apply Kd.R_drew)); exact Kd.R_mono HO120.out (fun _ hk => ⟨hk.1.1, hk.2⟩))); (case aS => exact (below_size (by repeat (first | (with_reducible first | exact HB.out | apply below_alloc | apply pw_below_drewN | apply below_drew1 | refine below_set ?_ GE113.out) | exact HB.out)))); (case aL => have := LMc14.out; omega); intro v127 w26 ho hb hg hat; rw [← Ny126.out] at ho; have n0_ := Aside0.mk (Kd.V_afterv (ok := (fun k_ => (P0_ k_ ∨ w.heap.size ≤ k_) ∧ k_ ≠ gb113)) (sq_v HO_0) hg hat); have n1_ := Aside0.mk (blk_grown (g := gb113) (o := .cells #[.string a1_0, .int .i64 a1_1, .bool a1_2, .string a1_3] 48 (0, 0)) (sq_l BK113) hg (Kd.R_away HO120.out (fun _ hk => hk.2))); have n2_ := Aside0.mk (Kd.V_afterv (ok := (fun k_ => (P0_ k_ ∨ w.heap.size ≤ k_) ∧ k_ ≠ gb113)) (sq_v HO125) hg hat); have n3_ := Aside0.mk (hb); have n4_ := Aside0.mk (ho); clear HO_0; clear BK113; clear HO125; clear HB; clear HO120; have HO_0 := n0_; have BK113 := n1_; have HO125 := n2_; have HB := n3_; have HO128 := n4_; clear n0_ n1_ n2_ n3_ n4_; clear ho hb hg hat; have hcz27_0 : w26.cell? ⟨gb113, 0, none⟩ = some (.string a1_0) := (blk_cell BK113.out 0).trans rfl; have hcz27_1 : w26.cell? ⟨gb113, 1, none⟩ = some (.int .i64 a1_1) := (blk_cell BK113.out 1).trans rfl; have hcz27_2 : w26.cell? ⟨gb113, 2, none⟩ = some (.bool a1_2) := (blk_cell BK113.out 2).trans rfl; have hcz27_3 : w26.cell? ⟨gb113, 3, none⟩ = some (.string a1_3) := (blk_cell BK113.out 3).trans rfl; have hfz27_0 := blk_frozen BK113.out 0; have hfz27_1 := blk_frozen BK113.out 1; have hfz27_2 := blk_frozen BK113.out 2; have hfz27_3 := blk_frozen BK113.out 3) | ((with_reducible refine gate_builtin (b := .append) (xs := #[.tmp 47, .tmp 49]) rfl ?_); at_builtin; refine Kd.R_append k48 (w0 := w) w.heap.size rfl (.tmp 47) (.tmp 49) 44 48 (.agg #[(.string ⟨#[]⟩), (.int .i64 0), (.bool false), (.string ⟨#[]⟩)]) 48 rfl Try.underlying44 info48 rfl (by decide) (by omega) v127 y126 (⟨a1_0, a1_1, a1_2, a1_3⟩ : S48) [.string a1_0, .int .i64 a1_1, .bool a1_2, .string a1_3] (fun k_ => (w.heap.size ≤ k_) ∧ k_ ≠ gb113) (fun _ => False) rfl rfl ?aP (fun _ hk => hk.elim) ?aF ?aO ?aB ?aS ?aL ?_; (case aP => exact k48_mkM _ _ _ (⟨a1_0, a1_1, a1_2, a1_3⟩ : S48)); (case aB => exact (by repeat (first | (with_reducible first | exact HB.out | apply below_alloc | apply pw_below_drewN | apply below_drew1 | refine below_set ?_ GE113.out) | exact HB.out))); (case aF => exact (fun k_ hk => ⟨(Nat.le_trans (below_size (by repeat (first | (with_reducible first | exact HB.out | apply below_alloc | apply pw_below_drewN | apply below_drew1 | refine below_set ?_ GE113.out) | exact HB.out))) hk), Kd.freshB (g := gb113) (o := .cells #[.string a1_0, .int .i64 a1_1, .bool a1_2, .string a1_3] 48 (0, 0)) (sq_l BK113) k_ hk⟩)); (case aO => exact (sq_r HO128)); (case aS => exact (below_size (by repeat (first | (with_reducible first | exact HB.out | apply below_alloc | apply pw_below_drewN | apply below_drew1 | refine below_set ?_ GE113.out) | exact HB.out)))); (case aL => have := LMc15.out; omega); intro v130 w28 ho hb hg hat; rw [← Ny129.out] at ho; have n0_ := Aside0.mk (Kd.V_afterv (ok := (fun k_ => (P0_ k_ ∨ w.heap.size ≤ k_) ∧ k_ ≠ gb113)) (sq_v HO_0) hg hat); have n1_ := Aside0.mk (blk_grown (g := gb113) (o := .cells #[.string a1_0, .int .i64 a1_1, .bool a1_2, .string a1_3] 48 (0, 0)) (sq_l BK113) hg (Kd.R_away HO128.out (fun _ hk => hk.2))); have n2_ := Aside0.mk (Kd.V_afterv (ok := (fun k_ => (P0_ k_ ∨ w.heap.size ≤ k_) ∧ k_ ≠ gb113)) (sq_v HO125) hg hat); have n3_ := Aside0.mk (hb); have n4_ := Aside0.mk (ho); clear HO_0; clear BK113; clear HO125; clear HB; clear HO128; have HO_0 := n0_; have BK113 := n1_; have HO125 := n2_; have HB := n3_; have HO131 := n4_; clear n0_ n1_ n2_ n3_ n4_; clear ho hb hg hat; have q29 : (x6_1 : Int) ≤ ((l0.length : Int) : Int) := sq_d; obtain ⟨i029, hi029, _, hsz29, _⟩ := info_parts info48; have hroom29 : l0.length ≤ c0 := (Kd.V_reads' HO_0.out).2.1; have hC29 : Kd.F k48 _ _ (some ad114) l0.length l0 := (Kd.V_at (base := w.heap.size) HO_0.out).2.2; have q029 : (0 : Int) ≤ (x6_1 : Int) := sq_d; have hcut29 := cut_from (P := Try.prog) 44 48 .i64 Try.underlying44 hi029 4 hsz29 (some ad114) l0.length c0 x6_1 q029 q29; have hr29 := Kd.F_cut (m := (x6_1 : Int).toNat) (c := c0) hC29 (by omega) hroom29; obtain ⟨A29, hA29⟩ : ∃ A1, A1 = (if c0 = (x6_1 : Int).toNat then (some ad114) else ((some ad114) : Option Addr).map (·.add ((x6_1 : Int).toNat * 4))) := ⟨_, rfl⟩; obtain ⟨c29, hc29⟩ : ∃ c1, c1 = c0 - (x6_1 : Int).toNat := ⟨_, rfl⟩; have hy29 : y132.length = l0.length - (x6_1 : Int).toNat := (by rw [Ny132.out, List.length_drop] <;> omega); rw [show (l0).drop (x6_1 : Int).toNat = y132 from Ny132.out.symm] at hr29; replace hr29 : Kd.F k48 _ _ A29 y132.length y132 := (by rw [hA29]; exact hr29); rw [← hy29, ← hA29, ← hc29] at hcut29; have HO136 := Aside0.mk (show Kd.V k48 48 _ w.heap.size _ (.slice A29 y132.length c29) y132 from Kd.V_mk (by rw [hy29, hc29]; exact Nat.sub_le_sub_right hroom29 _) hr29); have HC136 := Aside0.mk (show y132.length ≤ c29 from by rw [hy29, hc29]; exact Nat.sub_le_sub_right hroom29 _); clear hr29 hC29 hroom29 hi029 hsz29 hc29; have KY29 := Aside0.mk hy29; have KA29 := Aside0.mk hA29; clear hy29 hA29; replace q29 := eq_true q29) | ((with_reducible refine gate_builtin (b := .append) (xs := #[.tmp 51, .tmp 54]) rfl ?_); at_builtin; refine Kd.R_append_rows k48 (w0 := w) w.heap.size rfl (.tmp 51) (.tmp 54) 44 48 (.agg #[(.string ⟨#[]⟩), (.int .i64 0), (.bool false), (.string ⟨#[]⟩)]) 48 rfl Try.underlying44 info48 rfl (by decide) (by omega) v130 y129 y132 _ _ _ (fun k_ => (w.heap.size ≤ k_) ∧ k_ ≠ gb113) (fun _ => False) rfl rfl ?aO ?aR (fun _ _ h => h) (fun _ h => h.elim) ?aF ?aB ?aS ?aL ?_; (case aR => repeat (first | exact (Kd.V_reads' HO136.out).2.2 | (with_reducible refine Kd.C_alloc ?_ _) | (with_reducible refine Kd.C_drewN ?_ _) | (with_reducible refine Kd.C_drew ?_))); (case aB => exact (by repeat (first | (with_reducible first | exact HB.out | apply below_alloc | apply pw_below_drewN | apply below_drew1 | refine below_set ?_ GE113.out) | exact HB.out))); (case aF => exact (fun k_ hk => ⟨(Nat.le_trans (below_size (by repeat (first | (with_reducible first | exact HB.out | apply below_alloc | apply pw_below_drewN | apply below_drew1 | refine below_set ?_ GE113.out) | exact HB.out))) hk), Kd.freshB (g := gb113) (o := .cells #[.string a1_0, .int .i64 a1_1, .bool a1_2, .string a1_3] 48 (0, 0)) (sq_l BK113) k_ hk⟩)); (case aO => exact (sq_r HO131)); (case aS => exact (below_size (by repeat (first | (with_reducible first | exact HB.out | apply below_alloc | apply pw_below_drewN | apply below_drew1 | refine below_set ?_ GE113.out) | exact HB.out)))); (case aL => have := LMc18.out; omega); intro v138 w30 ho hb hg hat; rw [← Ny137.out] at ho; have n0_ := Aside0.mk (Kd.V_afterv (ok := (fun k_ => (P0_ k_ ∨ w.heap.size ≤ k_) ∧ k_ ≠ gb113)) (sq_v HO_0) hg hat); have n1_ := Aside0.mk (blk_grown (g := gb113) (o := .cells #[.string a1_0, .int .i64 a1_1, .bool a1_2, .string a1_3] 48 (0, 0)) (sq_l BK113) hg (Kd.R_away HO131.out (fun _ hk => hk.2))); have n2_ := Aside0.mk (Kd.V_afterv (ok := (fun k_ => (P0_ k_ ∨ w.heap.size ≤ k_) ∧ k_ ≠ gb113)) (sq_v HO125) hg hat); have n3_ := Aside0.mk (Kd.V_afterv (ok := (fun k_ => (P0_ k_ ∨ w.heap.size ≤ k_) ∧ k_ ≠ gb113)) (sq_v HO136) hg hat); have n4_ := Aside0.mk (hb); have n5_ := Aside0.mk (ho); clear HO_0; clear BK113; clear HO125; clear HO136; clear HB; clear HO131; have HO_0 := n0_; have BK113 := n1_; have HO125 := n2_; have HO136 := n3_; have HB := n4_; have HO139 := n5_; clear n0_ n1_ n2_ n3_ n4_ n5_; clear ho hb hg hat))
      go_ret2
      exact ⟨_, sq_w, ⟨Kd.V_mono (Kd.R_V (by (with_reducible repeat (first | apply Kd.R_alloc | apply Kd.R_drewN | apply Kd.R_drew)); exact Kd.R_mono HO139.out (fun _ hk => hk.1))) (fun k_ hk => by first | exact ⟨(.inr (hk.1)), hk.2⟩ | exact (.inr (hk))), .inr (by (with_reducible repeat (first | apply Kd.R_alloc | apply Kd.R_drewN | apply Kd.R_drew)); exact Kd.R_mono HO139.out (fun _ _ => trivial))⟩, by repeat (first | (with_reducible first | exact HB.out | apply below_alloc | apply pw_below_drewN | apply below_drew1 | refine below_set ?_ GE113.out) | exact HB.out)⟩
     ·replace c11 := Bool.eq_false_iff.mpr c11
      subst c11
      have H1 : (some (l0, ((((rd_T48 l0 x6_1).f0).toList) == a1_0.toList && (((rd_T48 l0 x6_1).f1) == a1_1 && (((rd_T48 l0 x6_1).f2) == a1_2 && ((((rd_T48 l0 x6_1).f3).toList) == a1_3.toList)))))) = some (r1, r2) := by rw [if_neg (show ¬ (false = true) by decide)] at H; exact H
      clear H
      have H := H1
      clear H1
      simp only [Option.some.injEq, Prod.mk.injEq] at H
      obtain ⟨rfl, rfl⟩ := H
      try go_wp2
      have n0_ := Aside0.mk (Kd.V_drew HO_0.out)
      have n1_ := Aside0.mk (blk_drew BK113.out)
      have n2_ := Aside0.mk (below_drew1 HB.out)
      clear HO_0
      clear BK113
      clear HB
      have HO_0 := n0_
      have BK113 := n1_
      have HB := n2_
      clear n0_ n1_ n2_
      have p114 : 0 ≤ (x6_1 : Int) := sq_d
      have q114 : x6_1 < (l0.length : Int) := sq_d
      obtain ⟨ad114, e114, hx114_0, hx114_1, hx114_2, hx114_3⟩ := at_T48 (Kd.V_reads' HO_0.out).2.2 x6_1 p114 q114
      cases e114
      replace p114 := eq_true p114
      replace q114 := eq_true q114
      refine start_ (n := 12) (S := fun w' => w'.cell? ⟨gb113, 0, none⟩ = some (.string a1_0) ∧ w'.cell? ⟨gb113, 1, none⟩ = some (.int .i64 a1_1) ∧ w'.cell? ⟨gb113, 2, none⟩ = some (.bool a1_2) ∧ w'.cell? ⟨gb113, 3, none⟩ = some (.string a1_3) ∧ w'.cell? (ad114.add ((x6_1).toNat * 4)) = some (.string ((rd_T48 l0 x6_1).f0)) ∧ w'.cell? ⟨(ad114.add ((x6_1).toNat * 4)).block, (ad114.add ((x6_1).toNat * 4)).off + 1, none⟩ = some (.int .i64 ((rd_T48 l0 x6_1).f1)) ∧ w'.cell? ⟨(ad114.add ((x6_1).toNat * 4)).block, (ad114.add ((x6_1).toNat * 4)).off + 2, none⟩ = some (.bool ((rd_T48 l0 x6_1).f2)) ∧ w'.cell? ⟨(ad114.add ((x6_1).toNat * 4)).block, (ad114.add ((x6_1).toNat * 4)).off + 3, none⟩ = some (.string ((rd_T48 l0 x6_1).f3))) (ds := []) #[false, false, false, false, false, false, false, false, false, false, false, false] (by kernel_rfl) rfl rfl ⟨(blk_cell BK113.out 0).trans rfl, (blk_cell BK113.out 1).trans rfl, (blk_cell BK113.out 2).trans rfl, (blk_cell BK113.out 3).trans rfl, hx114_0, hx114_1, hx114_2, hx114_3⟩ (fun hHeld => ?_); refine with_tabW spec_l14Put.tab2 spec_l14Put.bits2 (fun HT_ HW_ => ?_)
      generalize wr.drew = w31 at HO_0 BK113 HB hx114_0 hx114_1 hx114_2 hx114_3 hHeld ⊢
      refine pu_ 0 (some 8) #[true, false, false, false, false, false, false, false, false, false, false, false] HT_ ?_
      refine pu_ 1 (some 9) #[true, true, false, false, false, false, false, false, false, false, false, false] HT_ ?_
      refine pu_ 2 (some 10) #[true, true, true, false, false, false, false, false, false, false, false, false] HT_ ?_
      refine pu_ 3 (some 11) #[true, true, true, true, false, false, false, false, false, false, false, false] HT_ ?_
      refine pu_ 4 (some 12) #[true, true, true, true, true, false, false, false, false, false, false, false] HT_ ?_
      refine pu_ 5 (some 13) #[true, true, true, true, true, true, false, false, false, false, false, false] HT_ ?_
      refine pu_ 6 (some 14) #[true, true, true, true, true, true, true, false, false, false, false, false] HT_ ?_
      refine pu_ 7 (some 15) #[true, true, true, true, true, true, true, true, false, false, false, false] HT_ ?_
      refine take_ (i := 8) (N := some 16) (v := ?_) (a' := ?_) #[true, true, true, true, true, true, true, true, true, false, false, false] rfl rfl (take_ofW HT_.out HW_.out (by kernel_rfl)) (fun _ _ _ h => h) (Or.inl ⟨by rfl, ?_⟩) hHeld ?_ ?_
      rotate_left
      ·rintro w' ⟨s0, s1, s2, s3, s4, s5, s6, s7⟩
       go_simp
       with_reducible rfl
      rotate_left
      ·simp only [Act.put, List.setIfInBounds_toArray, List.set_cons_zero, List.set_cons_succ, i64_w, i32_w]
       rfl
      refine take_ (i := 9) (N := some 17) (v := ?_) (a' := ?_) #[true, true, true, true, true, true, true, true, true, true, false, false] rfl rfl (take_ofW HT_.out HW_.out (by kernel_rfl)) (fun _ _ _ h => h) (Or.inl ⟨by rfl, ?_⟩) hHeld ?_ ?_
      rotate_left
      ·rintro w' ⟨s0, s1, s2, s3, s4, s5, s6, s7⟩
       go_simp
       with_reducible rfl
      rotate_left
      ·simp only [Act.put, List.setIfInBounds_toArray, List.set_cons_zero, List.set_cons_succ, i64_w, i32_w]
       rfl
      refine one_ (i := 10) (N := some 18) #[true, true, true, true, true, true, true, true, true, true, true, false] rfl rfl (one_of HT_.out (by kernel_rfl)) (by decide) (fun K hK => ?_)
      refine goes_ Try.func86 (by kernel_rfl) rfl #[.agg #[.string ((rd_T48 l0 x6_1).f0), .int .i64 ((rd_T48 l0 x6_1).f1), .bool ((rd_T48 l0 x6_1).f2), .string ((rd_T48 l0 x6_1).f3)], .agg #[.string a1_0, .int .i64 a1_1, .bool a1_2, .string a1_3]] (by rfl) rfl rfl (by (try simp only [List.map_toArray, List.map_cons, List.map_nil]); first | done | rfl | (simp only [List.length_drop, List.length_take]; rfl)) ?_
      with_reducible refine (spec_l14Less.calls ((rd_T48 l0 x6_1).f0) ((rd_T48 l0 x6_1).f1) ((rd_T48 l0 x6_1).f2) ((rd_T48 l0 x6_1).f3) a1_0 a1_1 a1_2 a1_3 false _ A6.out).mono ?_
      rintro e w32 ⟨rfl, hb⟩
      have HS4_ := (hb.cell (World.block_lt_of_cell? _ _ (hHeld.2.2.2.2.1))).trans (hHeld.2.2.2.2.1)
      have HS5_ := (hb.cell (World.block_lt_of_cell? _ _ (hHeld.2.2.2.2.2.1))).trans (hHeld.2.2.2.2.2.1)
      have HS6_ := (hb.cell (World.block_lt_of_cell? _ _ (hHeld.2.2.2.2.2.2.1))).trans (hHeld.2.2.2.2.2.2.1)
      have HS7_ := (hb.cell (World.block_lt_of_cell? _ _ (hHeld.2.2.2.2.2.2.2))).trans (hHeld.2.2.2.2.2.2.2)
      refine ⟨_, rfl, ?_⟩
      have n0_ := Aside0.mk (Kd.V_below (sq_v HO_0) hb)
      have n1_ := Aside0.mk (blk_below (g := gb113) (o := .cells #[.string a1_0, .int .i64 a1_1, .bool a1_2, .string a1_3] 48 (0, 0)) (sq_l BK113) hb)
      have n2_ := Aside0.mk (below_step (by repeat (first | (with_reducible first | exact HB.out | apply below_alloc | apply pw_below_drewN | apply below_drew1 | refine below_set ?_ GE113.out) | exact HB.out)) hb)
      clear HO_0
      clear BK113
      clear HB
      have HO_0 := n0_
      have BK113 := n1_
      have HB := n2_
      clear n0_ n1_ n2_
      (try clear hb)
      (try clear hb2)
      (try clear hk)
      (try clear hi)
      refine hK.out _ _ ⟨(blk_cell BK113.out 0).trans rfl, (blk_cell BK113.out 1).trans rfl, (blk_cell BK113.out 2).trans rfl, (blk_cell BK113.out 3).trans rfl, HS4_, HS5_, HS6_, HS7_⟩ (fun hHeld => ?_)
      clear hK K
      refine norm_ (a' := ?_) ?_ ?_
      rotate_left
      ·show Act.put _ (some 18) _ = _
       simp only [Act.put, List.setIfInBounds_toArray, List.set_cons_zero, List.set_cons_succ, i64_w, i32_w]
       rfl
      refine pu_ 11 (some 19) #[true, true, true, true, true, true, true, true, true, true, true, true] HT_ ?_
      refine done_ (done_of HT_.out (by kernel_rfl)) ?_
      try go_wp2
      have n0_ := Aside0.mk (Kd.V_drew HO_0.out)
      have n1_ := Aside0.mk (blk_drew BK113.out)
      have n2_ := Aside0.mk (below_drew1 HB.out)
      clear HO_0
      clear BK113
      clear HB
      have HO_0 := n0_
      have BK113 := n1_
      have HB := n2_
      clear n0_ n1_ n2_
      have p116 : 0 ≤ (x6_1 : Int) := sq_d
      have q116 : x6_1 < (l0.length : Int) := sq_d
      obtain ⟨ad116, e116, hx116_0, hx116_1, hx116_2, hx116_3⟩ := at_T48 (Kd.V_reads' HO_0.out).2.2 x6_1 p116 q116
      obtain rfl : ad114 = ad116 := (by injection e116)
      replace p116 := eq_true p116
      replace q116 := eq_true q116
      refine start_ (n := 13) (S := fun w' => w'.cell? ⟨gb113, 0, none⟩ = some (.string a1_0) ∧ w'.cell? ⟨gb113, 1, none⟩ = some (.int .i64 a1_1) ∧ w'.cell? ⟨gb113, 2, none⟩ = some (.bool a1_2) ∧ w'.cell? ⟨gb113, 3, none⟩ = some (.string a1_3) ∧ w'.cell? (ad114.add ((x6_1).toNat * 4)) = some (.string ((rd_T48 l0 x6_1).f0)) ∧ w'.cell? ⟨(ad114.add ((x6_1).toNat * 4)).block, (ad114.add ((x6_1).toNat * 4)).off + 1, none⟩ = some (.int .i64 ((rd_T48 l0 x6_1).f1)) ∧ w'.cell? ⟨(ad114.add ((x6_1).toNat * 4)).block, (ad114.add ((x6_1).toNat * 4)).off + 2, none⟩ = some (.bool ((rd_T48 l0 x6_1).f2)) ∧ w'.cell? ⟨(ad114.add ((x6_1).toNat * 4)).block, (ad114.add ((x6_1).toNat * 4)).off + 3, none⟩ = some (.string ((rd_T48 l0 x6_1).f3))) (ds := []) #[false, false, false, false, false, false, false, false, false, false, false, false, false] (by kernel_rfl) rfl rfl ⟨(blk_cell BK113.out 0).trans rfl, (blk_cell BK113.out 1).trans rfl, (blk_cell BK113.out 2).trans rfl, (blk_cell BK113.out 3).trans rfl, hx116_0, hx116_1, hx116_2, hx116_3⟩ (fun hHeld => ?_); refine with_tabW spec_l14Put.tab4 spec_l14Put.bits4 (fun HT_ HW_ => ?_)
      generalize w32.drew = w33 at HO_0 BK113 HB hx116_0 hx116_1 hx116_2 hx116_3 hHeld ⊢
      refine pu_ 0 (some 22) #[true, false, false, false, false, false, false, false, false, false, false, false, false] HT_ ?_
      refine pu_ 1 (some 23) #[true, true, false, false, false, false, false, false, false, false, false, false, false] HT_ ?_
      refine pu_ 2 (some 24) #[true, true, true, false, false, false, false, false, false, false, false, false, false] HT_ ?_
      refine pu_ 3 (some 25) #[true, true, true, true, false, false, false, false, false, false, false, false, false] HT_ ?_
      refine pu_ 4 (some 26) #[true, true, true, true, true, false, false, false, false, false, false, false, false] HT_ ?_
      refine pu_ 6 (some 28) #[true, true, true, true, true, false, true, false, false, false, false, false, false] HT_ ?_
      refine pu_ 7 (some 29) #[true, true, true, true, true, false, true, true, false, false, false, false, false] HT_ ?_
      refine pu_ 8 (some 30) #[true, true, true, true, true, false, true, true, true, false, false, false, false] HT_ ?_
      refine take_ (i := 5) (N := some 27) (v := ?_) (a' := ?_) #[true, true, true, true, true, true, true, true, true, false, false, false, false] rfl rfl (take_ofW HT_.out HW_.out (by kernel_rfl)) (fun _ _ _ h => h) (Or.inl ⟨by rfl, ?_⟩) hHeld ?_ ?_
      rotate_left
      ·rintro w' ⟨s0, s1, s2, s3, s4, s5, s6, s7⟩
       go_simp
       with_reducible rfl
      rotate_left
      ·simp only [Act.put, List.setIfInBounds_toArray, List.set_cons_zero, List.set_cons_succ, i64_w, i32_w]
       rfl
      refine take_ (i := 9) (N := some 31) (v := ?_) (a' := ?_) #[true, true, true, true, true, true, true, true, true, true, false, false, false] rfl rfl (take_ofW HT_.out HW_.out (by kernel_rfl)) (fun _ _ _ h => h) (Or.inl ⟨by rfl, ?_⟩) hHeld ?_ ?_
      rotate_left
      ·rintro w' ⟨s0, s1, s2, s3, s4, s5, s6, s7⟩
       go_simp
       with_reducible rfl
      rotate_left
      ·simp only [Act.put, List.setIfInBounds_toArray, List.set_cons_zero, List.set_cons_succ, i64_w, i32_w]
       rfl
      refine one_ (i := 10) (N := some 32) #[true, true, true, true, true, true, true, true, true, true, true, false, false] rfl rfl (one_of HT_.out (by kernel_rfl)) (by decide) (fun K hK => ?_)
      refine goes_ Try.func86 (by kernel_rfl) rfl #[.agg #[.string a1_0, .int .i64 a1_1, .bool a1_2, .string a1_3], .agg #[.string ((rd_T48 l0 x6_1).f0), .int .i64 ((rd_T48 l0 x6_1).f1), .bool ((rd_T48 l0 x6_1).f2), .string ((rd_T48 l0 x6_1).f3)]] (by rfl) rfl rfl (by (try simp only [List.map_toArray, List.map_cons, List.map_nil]); first | done | rfl | (simp only [List.length_drop, List.length_take]; rfl)) ?_
      with_reducible refine (spec_l14Less.calls a1_0 a1_1 a1_2 a1_3 ((rd_T48 l0 x6_1).f0) ((rd_T48 l0 x6_1).f1) ((rd_T48 l0 x6_1).f2) ((rd_T48 l0 x6_1).f3) false _ A10.out).mono ?_
      rintro e w34 ⟨rfl, hb⟩
      have HS4_ := (hb.cell (World.block_lt_of_cell? _ _ (hHeld.2.2.2.2.1))).trans (hHeld.2.2.2.2.1)
      have HS5_ := (hb.cell (World.block_lt_of_cell? _ _ (hHeld.2.2.2.2.2.1))).trans (hHeld.2.2.2.2.2.1)
      have HS6_ := (hb.cell (World.block_lt_of_cell? _ _ (hHeld.2.2.2.2.2.2.1))).trans (hHeld.2.2.2.2.2.2.1)
      have HS7_ := (hb.cell (World.block_lt_of_cell? _ _ (hHeld.2.2.2.2.2.2.2))).trans (hHeld.2.2.2.2.2.2.2)
      refine ⟨_, rfl, ?_⟩
      have n0_ := Aside0.mk (Kd.V_below (sq_v HO_0) hb)
      have n1_ := Aside0.mk (blk_below (g := gb113) (o := .cells #[.string a1_0, .int .i64 a1_1, .bool a1_2, .string a1_3] 48 (0, 0)) (sq_l BK113) hb)
      have n2_ := Aside0.mk (below_step (by repeat (first | (with_reducible first | exact HB.out | apply below_alloc | apply pw_below_drewN | apply below_drew1 | refine below_set ?_ GE113.out) | exact HB.out)) hb)
      clear HO_0
      clear BK113
      clear HB
      have HO_0 := n0_
      have BK113 := n1_
      have HB := n2_
      clear n0_ n1_ n2_
      (try clear hb)
      (try clear hb2)
      (try clear hk)
      (try clear hi)
      refine hK.out _ _ ⟨(blk_cell BK113.out 0).trans rfl, (blk_cell BK113.out 1).trans rfl, (blk_cell BK113.out 2).trans rfl, (blk_cell BK113.out 3).trans rfl, HS4_, HS5_, HS6_, HS7_⟩ (fun hHeld => ?_)
      clear hK K
      refine norm_ (a' := ?_) ?_ ?_
      rotate_left
      ·show Act.put _ (some 32) _ = _
       simp only [Act.put, List.setIfInBounds_toArray, List.set_cons_zero, List.set_cons_succ, i64_w, i32_w]
       rfl
      refine pu_ 11 (some 33) #[true, true, true, true, true, true, true, true, true, true, true, true, false] HT_ ?_
      refine pu_ 12 (some 34) #[true, true, true, true, true, true, true, true, true, true, true, true, true] HT_ ?_
      refine done_ (done_of HT_.out (by kernel_rfl)) ?_
      try go_wp2
      have n0_ := Aside0.mk (Kd.V_drew HO_0.out)
      have n1_ := Aside0.mk (blk_drew BK113.out)
      have n2_ := Aside0.mk (below_drew1 HB.out)
      clear HO_0
      clear BK113
      clear HB
      have HO_0 := n0_
      have BK113 := n1_
      have HB := n2_
      clear n0_ n1_ n2_
      have p140 : 0 ≤ (x6_1 : Int) := sq_d
      have q140 : x6_1 < (l0.length : Int) := sq_d
      obtain ⟨ad140, e140, hx140_0, hx140_1, hx140_2, hx140_3⟩ := at_T48 (Kd.V_reads' HO_0.out).2.2 x6_1 p140 q140
      obtain rfl : ad114 = ad140 := (by injection e140)
      replace p140 := eq_true p140
      replace q140 := eq_true q140
      refine start_ (n := 9) (S := fun w' => w'.cell? ⟨gb113, 0, none⟩ = some (.string a1_0) ∧ w'.cell? ⟨gb113, 1, none⟩ = some (.int .i64 a1_1) ∧ w'.cell? ⟨gb113, 2, none⟩ = some (.bool a1_2) ∧ w'.cell? ⟨gb113, 3, none⟩ = some (.string a1_3) ∧ w'.cell? (ad114.add ((x6_1).toNat * 4)) = some (.string ((rd_T48 l0 x6_1).f0)) ∧ w'.cell? ⟨(ad114.add ((x6_1).toNat * 4)).block, (ad114.add ((x6_1).toNat * 4)).off + 1, none⟩ = some (.int .i64 ((rd_T48 l0 x6_1).f1)) ∧ w'.cell? ⟨(ad114.add ((x6_1).toNat * 4)).block, (ad114.add ((x6_1).toNat * 4)).off + 2, none⟩ = some (.bool ((rd_T48 l0 x6_1).f2)) ∧ w'.cell? ⟨(ad114.add ((x6_1).toNat * 4)).block, (ad114.add ((x6_1).toNat * 4)).off + 3, none⟩ = some (.string ((rd_T48 l0 x6_1).f3))) (ds := []) #[false, false, false, false, false, false, false, false, false] (by kernel_rfl) rfl rfl ⟨(blk_cell BK113.out 0).trans rfl, (blk_cell BK113.out 1).trans rfl, (blk_cell BK113.out 2).trans rfl, (blk_cell BK113.out 3).trans rfl, hx140_0, hx140_1, hx140_2, hx140_3⟩ (fun hHeld => ?_); refine with_tabW spec_l14Put.tab5 spec_l14Put.bits5 (fun HT_ HW_ => ?_)
      generalize w34.drew = w35 at HO_0 BK113 HB hx140_0 hx140_1 hx140_2 hx140_3 hHeld ⊢
      refine pu_ 0 (some 35) #[true, false, false, false, false, false, false, false, false] HT_ ?_
      refine pu_ 1 (some 36) #[true, true, false, false, false, false, false, false, false] HT_ ?_
      refine pu_ 2 (some 37) #[true, true, true, false, false, false, false, false, false] HT_ ?_
      refine pu_ 3 (some 38) #[true, true, true, true, false, false, false, false, false] HT_ ?_
      refine pu_ 7 (some 4) #[true, true, true, true, false, false, false, true, false] HT_ ?_
      refine take_ (i := 4) (N := some 39) (v := ?_) (a' := ?_) #[true, true, true, true, true, false, false, true, false] rfl rfl (take_ofW HT_.out HW_.out (by kernel_rfl)) (fun _ _ _ h => h) (Or.inl ⟨by rfl, ?_⟩) hHeld ?_ ?_
      rotate_left
      ·rintro w' ⟨s0, s1, s2, s3, s4, s5, s6, s7⟩
       go_simp
       with_reducible rfl
      rotate_left
      ·simp only [Act.put, List.setIfInBounds_toArray, List.set_cons_zero, List.set_cons_succ, i64_w, i32_w]
       rfl
      refine take_ (i := 5) (N := some 40) (v := ?_) (a' := ?_) #[true, true, true, true, true, true, false, true, false] rfl rfl (take_ofW HT_.out HW_.out (by kernel_rfl)) (fun _ _ _ h => h) (Or.inl ⟨by rfl, ?_⟩) hHeld ?_ ?_
      rotate_left
      ·rintro w' ⟨s0, s1, s2, s3, s4, s5, s6, s7⟩
       go_simp
       with_reducible rfl
      rotate_left
      ·simp only [Act.put, List.setIfInBounds_toArray, List.set_cons_zero, List.set_cons_succ, i64_w, i32_w]
       rfl
      refine pu_ 6 (some 41) #[true, true, true, true, true, true, true, true, false] HT_ ?_
      refine pu_ 8 (some 5) #[true, true, true, true, true, true, true, true, true] HT_ ?_
      refine done_ (done_of HT_.out (by kernel_rfl)) ?_
      try go_wp2
      go_ret2
      exact ⟨_, sq_w, (by first | exact (by (with_reducible repeat (first | apply Kd.V_alloc | apply Kd.V_drewN | apply Kd.V_drew)); exact Kd.V_mono HO_0.out (fun _ hk => hk.1)) | exact ⟨(by (with_reducible repeat (first | apply Kd.V_alloc | apply Kd.V_drewN | apply Kd.V_drew)); exact Kd.V_mono HO_0.out (fun _ hk => hk.1)), .inl rfl⟩), by repeat (first | (with_reducible first | exact HB.out | apply below_alloc | apply pw_below_drewN | apply below_drew1 | refine below_set ?_ GE113.out) | exact HB.out)⟩
   ·rw [if_neg c4] at H
    have c4b0 : decide (x6_1 < (l0.length : Int)) = false := decide_eq_false c4
    clear c4
    obtain ⟨y141, hy141⟩ : ∃ y_ : List (S48), y_ = (([] : List (S48))) := ⟨_, rfl⟩
    replace H : (if 0 ≤ x6_1 then (if x6_1 ≤ (l0.length : Int) then ((some (l0.take (x6_1 : Int).toNat : List (S48))).bind fun y144 => (if y141.length + y144.length < 2932031007402 then ((some (y141 ++ y144 : List (S48))).bind fun y149 => (if y149.length < 2932031007402 then ((some (y149 ++ [(⟨a1_0, a1_1, a1_2, a1_3⟩ : S48)] : List (S48))).bind fun y152 => ((some (l0.drop (x6_1 : Int).toNat : List (S48))).bind fun y155 => (if y152.length + y155.length < 2932031007402 then (some ((y152 ++ y155), true)) else (none)))) else (none))) else (none))) else (none)) else (none)) = some (r1, r2) := by first | (rw [hy141]; with_reducible exact H) | (have H2_ := (Option.bind_some _ _).symm.trans H; rw [hy141]; with_reducible exact H2_) | (have H2_ := (Option.bind_some _ _).symm.trans H; with_reducible exact H2_) | with_reducible exact H | (rw [hy141]; exact H) | exact H
    have Ny141 := Aside0.mk hy141
    clear hy141
    by_cases c36 : 0 ≤ x6_1
    ·rw [if_pos c36] at H
     have c36b0 := eq_true c36
     have c36b1 : decide (0 ≤ x6_1) = true := decide_eq_true c36
     clear c36
     by_cases c37 : x6_1 ≤ (l0.length : Int)
     rotate_left
     ·rw [if_neg c37] at H
      exact absurd H (by simp)
     rw [if_pos c37] at H
     have c37b0 := eq_true c37
     have c37b1 : decide (x6_1 ≤ (l0.length : Int)) = true := decide_eq_true c37
     clear c37
     obtain ⟨y144, hy144⟩ : ∃ y_ : List (S48), y_ = (l0.take (x6_1 : Int).toNat) := ⟨_, rfl⟩
     replace H : (if y141.length + y144.length < 2932031007402 then ((some (y141 ++ y144 : List (S48))).bind fun y149 => (if y149.length < 2932031007402 then ((some (y149 ++ [(⟨a1_0, a1_1, a1_2, a1_3⟩ : S48)] : List (S48))).bind fun y152 => ((some (l0.drop (x6_1 : Int).toNat : List (S48))).bind fun y155 => (if y152.length + y155.length < 2932031007402 then (some ((y152 ++ y155), true)) else (none)))) else (none))) else (none)) = some (r1, r2) := by first | (rw [hy144]; with_reducible exact H) | (have H2_ := (Option.bind_some _ _).symm.trans H; rw [hy144]; with_reducible exact H2_) | (have H2_ := (Option.bind_some _ _).symm.trans H; with_reducible exact H2_) | with_reducible exact H | (rw [hy144]; exact H) | exact H
     have Ny144 := Aside0.mk hy144
     clear hy144
     by_cases c38 : y141.length + y144.length < 2932031007402
     rotate_left
     ·rw [if_neg c38] at H
      exact absurd H (by simp)
     rw [if_pos c38] at H
     have LMc38 := Aside0.mk c38
     clear c38
     obtain ⟨y149, hy149⟩ : ∃ y_ : List (S48), y_ = (y141 ++ y144) := ⟨_, rfl⟩
     replace H : (if y149.length < 2932031007402 then ((some (y149 ++ [(⟨a1_0, a1_1, a1_2, a1_3⟩ : S48)] : List (S48))).bind fun y152 => ((some (l0.drop (x6_1 : Int).toNat : List (S48))).bind fun y155 => (if y152.length + y155.length < 2932031007402 then (some ((y152 ++ y155), true)) else (none)))) else (none)) = some (r1, r2) := by first | (rw [hy149]; with_reducible exact H) | (have H2_ := (Option.bind_some _ _).symm.trans H; rw [hy149]; with_reducible exact H2_) | (have H2_ := (Option.bind_some _ _).symm.trans H; with_reducible exact H2_) | with_reducible exact H | (rw [hy149]; exact H) | exact H
     have Ny149 := Aside0.mk hy149
     clear hy149
     by_cases c39 : y149.length < 2932031007402
     rotate_left
     ·rw [if_neg c39] at H
      exact absurd H (by simp)
     rw [if_pos c39] at H
     have LMc39 := Aside0.mk c39
     clear c39
     obtain ⟨y152, hy152⟩ : ∃ y_ : List (S48), y_ = (y149 ++ [(⟨a1_0, a1_1, a1_2, a1_3⟩ : S48)]) := ⟨_, rfl⟩
     replace H : ((some (l0.drop (x6_1 : Int).toNat : List (S48))).bind fun y155 => (if y152.length + y155.length < 2932031007402 then (some ((y152 ++ y155), true)) else (none))) = some (r1, r2) := by first | (rw [hy152]; with_reducible exact H) | (have H2_ := (Option.bind_some _ _).symm.trans H; rw [hy152]; with_reducible exact H2_) | (have H2_ := (Option.bind_some _ _).symm.trans H; with_reducible exact H2_) | with_reducible exact H | (rw [hy152]; exact H) | exact H
     have Ny152 := Aside0.mk hy152
     clear hy152
     have c40b0 := eq_true (sq_d : 0 ≤ x6_1)
     have c41b0 := eq_true (sq_d : x6_1 ≤ (l0.length : Int))
     obtain ⟨y155, hy155⟩ : ∃ y_ : List (S48), y_ = (l0.drop (x6_1 : Int).toNat) := ⟨_, rfl⟩
     replace H : (if y152.length + y155.length < 2932031007402 then (some ((y152 ++ y155), true)) else (none)) = some (r1, r2) := by first | (rw [hy155]; with_reducible exact H) | (have H2_ := (Option.bind_some _ _).symm.trans H; rw [hy155]; with_reducible exact H2_) | (have H2_ := (Option.bind_some _ _).symm.trans H; with_reducible exact H2_) | with_reducible exact H | (rw [hy155]; exact H) | exact H
     have Ny155 := Aside0.mk hy155
     clear hy155
     by_cases c42 : y152.length + y155.length < 2932031007402
     rotate_left
     ·rw [if_neg c42] at H
      exact absurd H (by simp)
     rw [if_pos c42] at H
     have LMc42 := Aside0.mk c42
     clear c42
     obtain ⟨y160, hy160⟩ : ∃ y_ : List (S48), y_ = (y152 ++ y155) := ⟨_, rfl⟩
     replace H : (some (y160, true)) = some (r1, r2) := by first | (rw [hy160]; with_reducible exact H) | (have H2_ := (Option.bind_some _ _).symm.trans H; rw [hy160]; with_reducible exact H2_) | (have H2_ := (Option.bind_some _ _).symm.trans H; with_reducible exact H2_) | with_reducible exact H | (rw [hy160]; exact H) | exact H
     have Ny160 := Aside0.mk hy160
     clear hy160
     simp only [Option.some.injEq, Prod.mk.injEq] at H
     obtain ⟨rfl, rfl⟩ := H
     try go_wp2
     have n0_ := Aside0.mk (Kd.V_drew HO_0.out)
     have n1_ := Aside0.mk (blk_drew BK113.out)
     have n2_ := Aside0.mk (below_drew1 HB.out)
     clear HO_0
     clear BK113
     clear HB
     have HO_0 := n0_
     have BK113 := n1_
     have HB := n2_
     clear n0_ n1_ n2_
     refine start_ (n := 12) (S := fun w' => True) (ds := []) #[false, false, false, false, false, false, false, false, false, false, false, false] (by kernel_rfl) rfl rfl trivial (fun hHeld => ?_); refine with_tabW spec_l14Put.tab2 spec_l14Put.bits2 (fun HT_ HW_ => ?_)
     generalize wr.drew = w43 at HO_0 BK113 HB hHeld ⊢
     refine pu_ 0 (some 8) #[true, false, false, false, false, false, false, false, false, false, false, false] HT_ ?_
     refine pu_ 1 (some 9) #[true, true, false, false, false, false, false, false, false, false, false, false] HT_ ?_
     refine pu_ 2 (some 10) #[true, true, true, false, false, false, false, false, false, false, false, false] HT_ ?_
     refine pu_ 3 (some 11) #[true, true, true, true, false, false, false, false, false, false, false, false] HT_ ?_
     refine pu_ 4 (some 12) #[true, true, true, true, true, false, false, false, false, false, false, false] HT_ ?_
     refine pure_ (i := 5) (N := some 13) (v := undef) (a' := ?_) #[true, true, true, true, true, true, false, false, false, false, false, false] rfl rfl (any_of HT_.out (by kernel_rfl)) (fun _ _ _ h => h) (Or.inr ⟨by rfl, rfl⟩) ?_ ?_
     rotate_left
     ·simp only [Act.put, List.setIfInBounds_toArray, List.set_cons_zero, List.set_cons_succ, i64_w, i32_w]
      rfl
     refine pure_ (i := 6) (N := some 14) (v := undef) (a' := ?_) #[true, true, true, true, true, true, true, false, false, false, false, false] rfl rfl (any_of HT_.out (by kernel_rfl)) (fun _ _ _ h => h) (Or.inr ⟨by rfl, rfl⟩) ?_ ?_
     rotate_left
     ·simp only [Act.put, List.setIfInBounds_toArray, List.set_cons_zero, List.set_cons_succ, i64_w, i32_w]
      rfl
     refine pure_ (i := 7) (N := some 15) (v := undef) (a' := ?_) #[true, true, true, true, true, true, true, true, false, false, false, false] rfl rfl (any_of HT_.out (by kernel_rfl)) (fun _ _ _ h => h) (Or.inr ⟨by rfl, rfl⟩) ?_ ?_
     rotate_left
     ·simp only [Act.put, List.setIfInBounds_toArray, List.set_cons_zero, List.set_cons_succ, i64_w, i32_w]
      rfl
     refine pure_ (i := 8) (N := some 16) (v := undef) (a' := ?_) #[true, true, true, true, true, true, true, true, true, false, false, false] rfl rfl (any_of HT_.out (by kernel_rfl)) (fun _ _ _ h => h) (Or.inr ⟨by rfl, rfl⟩) ?_ ?_
     rotate_left
     ·simp only [Act.put, List.setIfInBounds_toArray, List.set_cons_zero, List.set_cons_succ, i64_w, i32_w]
      rfl
     refine pure_ (i := 9) (N := some 17) (v := undef) (a' := ?_) #[true, true, true, true, true, true, true, true, true, true, false, false] rfl rfl (any_of HT_.out (by kernel_rfl)) (fun _ _ _ h => h) (Or.inr ⟨by rfl, rfl⟩) ?_ ?_
     rotate_left
     ·simp only [Act.put, List.setIfInBounds_toArray, List.set_cons_zero, List.set_cons_succ, i64_w, i32_w]
      rfl
     refine pure_ (i := 10) (N := some 18) (v := undef) (a' := ?_) #[true, true, true, true, true, true, true, true, true, true, true, false] rfl rfl (any_of HT_.out (by kernel_rfl)) (fun _ _ _ h => h) (Or.inr ⟨by rfl, rfl⟩) ?_ ?_
     rotate_left
     ·simp only [Act.put, List.setIfInBounds_toArray, List.set_cons_zero, List.set_cons_succ, i64_w, i32_w]
      rfl
     refine pu_ 11 (some 19) #[true, true, true, true, true, true, true, true, true, true, true, true] HT_ ?_
     refine done_ (done_of HT_.out (by kernel_rfl)) ?_
     try go_wp2
     have n0_ := Aside0.mk (Kd.V_drew HO_0.out)
     have n1_ := Aside0.mk (blk_drew BK113.out)
     have n2_ := Aside0.mk (below_drew1 HB.out)
     clear HO_0
     clear BK113
     clear HB
     have HO_0 := n0_
     have BK113 := n1_
     have HB := n2_
     clear n0_ n1_ n2_
     refine start_ (n := 13) (S := fun w' => True) (ds := []) #[false, false, false, false, false, false, false, false, false, false, false, false, false] (by kernel_rfl) rfl rfl trivial (fun hHeld => ?_); refine with_tabW spec_l14Put.tab4 spec_l14Put.bits4 (fun HT_ HW_ => ?_)
     generalize w43.drew = w44 at HO_0 BK113 HB hHeld ⊢
     refine pu_ 0 (some 22) #[true, false, false, false, false, false, false, false, false, false, false, false, false] HT_ ?_
     refine pu_ 1 (some 23) #[true, true, false, false, false, false, false, false, false, false, false, false, false] HT_ ?_
     refine pu_ 2 (some 24) #[true, true, true, false, false, false, false, false, false, false, false, false, false] HT_ ?_
     refine pu_ 3 (some 25) #[true, true, true, true, false, false, false, false, false, false, false, false, false] HT_ ?_
     refine pu_ 4 (some 26) #[true, true, true, true, true, false, false, false, false, false, false, false, false] HT_ ?_
     refine pure_ (i := 5) (N := some 27) (v := undef) (a' := ?_) #[true, true, true, true, true, true, false, false, false, false, false, false, false] rfl rfl (any_of HT_.out (by kernel_rfl)) (fun _ _ _ h => h) (Or.inr ⟨by rfl, rfl⟩) ?_ ?_
     rotate_left
     ·simp only [Act.put, List.setIfInBounds_toArray, List.set_cons_zero, List.set_cons_succ, i64_w, i32_w]
      rfl
     refine pure_ (i := 6) (N := some 28) (v := undef) (a' := ?_) #[true, true, true, true, true, true, true, false, false, false, false, false, false] rfl rfl (any_of HT_.out (by kernel_rfl)) (fun _ _ _ h => h) (Or.inr ⟨by rfl, rfl⟩) ?_ ?_
     rotate_left
     ·simp only [Act.put, List.setIfInBounds_toArray, List.set_cons_zero, List.set_cons_succ, i64_w, i32_w]
      rfl
     refine pure_ (i := 7) (N := some 29) (v := undef) (a' := ?_) #[true, true, true, true, true, true, true, true, false, false, false, false, false] rfl rfl (any_of HT_.out (by kernel_rfl)) (fun _ _ _ h => h) (Or.inr ⟨by rfl, rfl⟩) ?_ ?_
     rotate_left
     ·simp only [Act.put, List.setIfInBounds_toArray, List.set_cons_zero, List.set_cons_succ, i64_w, i32_w]
      rfl
     refine pure_ (i := 8) (N := some 30) (v := undef) (a' := ?_) #[true, true, true, true, true, true, true, true, true, false, false, false, false] rfl rfl (any_of HT_.out (by kernel_rfl)) (fun _ _ _ h => h) (Or.inr ⟨by rfl, rfl⟩) ?_ ?_
     rotate_left
     ·simp only [Act.put, List.setIfInBounds_toArray, List.set_cons_zero, List.set_cons_succ, i64_w, i32_w]
      rfl
     refine pure_ (i := 9) (N := some 31) (v := undef) (a' := ?_) #[true, true, true, true, true, true, true, true, true, true, false, false, false] rfl rfl (any_of HT_.out (by kernel_rfl)) (fun _ _ _ h => h) (Or.inr ⟨by rfl, rfl⟩) ?_ ?_
     rotate_left
     ·simp only [Act.put, List.setIfInBounds_toArray, List.set_cons_zero, List.set_cons_succ, i64_w, i32_w]
      rfl
     refine pure_ (i := 10) (N := some 32) (v := undef) (a' := ?_) #[true, true, true, true, true, true, true, true, true, true, true, false, false] rfl rfl (any_of HT_.out (by kernel_rfl)) (fun _ _ _ h => h) (Or.inr ⟨by rfl, rfl⟩) ?_ ?_
     rotate_left
     ·simp only [Act.put, List.setIfInBounds_toArray, List.set_cons_zero, List.set_cons_succ, i64_w, i32_w]
      rfl
     refine pure_ (i := 11) (N := some 33) (v := undef) (a' := ?_) #[true, true, true, true, true, true, true, true, true, true, true, true, false] rfl rfl (any_of HT_.out (by kernel_rfl)) (fun _ _ _ h => h) (Or.inr ⟨by rfl, rfl⟩) ?_ ?_
     rotate_left
     ·simp only [Act.put, List.setIfInBounds_toArray, List.set_cons_zero, List.set_cons_succ, i64_w, i32_w]
      rfl
     refine pu_ 12 (some 34) #[true, true, true, true, true, true, true, true, true, true, true, true, true] HT_ ?_
     refine done_ (done_of HT_.out (by kernel_rfl)) ?_
     try go_wp2_with (first | ((with_reducible refine gate_dst (N := 42) rfl ?_); refine Kd.R_lit k48 _ 48 ?hg (N := 42) ?hd (xs := ([] : List (S48))) (inner := []) (ok := fun _ => True) (okp := fun _ => True) ?hr ?hp (fun _ hk => hk) trivial (Below.refl _ _) (Nat.le_refl _) (by simp) ?_; (case hd => rfl); (case hg => rfl); (case hr => first | (go_simp; done) | (go_simp; rfl)); (case hp => exact (Reps.none _ _)); intro v142 w45 ho46 hb hg_ hnew_; clear hg_ hnew_; (first | rw [← Ny141.out] at ho46 | (simp only [Int.reduceToNat] at ho46; rw [← Ny141.out] at ho46)); have n0_ := Aside0.mk (Kd.V_elder' (sq_v HO_0) (Kd.R_base ho46) hb); have n1_ := Aside0.mk (Kd.R_lower (Kd.R_newB (Kd.R_newM (M := fun k_ => (w.heap.size ≤ k_)) ho46 (below_size (by repeat (first | (with_reducible first | exact HB.out | apply below_alloc | apply pw_below_drewN | apply below_drew1 | refine below_set ?_ GE113.out) | exact HB.out))) (fun k_ h_ => h_)) (g := gb113) (o := .cells #[.string a1_0, .int .i64 a1_1, .bool a1_2, .string a1_3] 48 (0, 0)) (sq_l BK113)) (below_size (by repeat (first | (with_reducible first | exact HB.out | apply below_alloc | apply pw_below_drewN | apply below_drew1 | refine below_set ?_ GE113.out) | exact HB.out)))); have n2_ := Aside0.mk (blk_below (g := gb113) (o := .cells #[.string a1_0, .int .i64 a1_1, .bool a1_2, .string a1_3] 48 (0, 0)) (sq_l BK113) hb); have n3_ := Aside0.mk (below_step (by repeat (first | (with_reducible first | exact HB.out | apply below_alloc | apply pw_below_drewN | apply below_drew1 | refine below_set ?_ GE113.out) | exact HB.out)) hb); clear HO_0; clear BK113; clear HB; have HO_0 := n0_; have HO143 := n1_; have BK113 := n2_; have HB := n3_; clear n0_ n1_ n2_ n3_; clear hb ho46; have q47 : (x6_1 : Int) ≤ ((l0.length : Int) : Int) := sq_d; obtain ⟨i047, hi047, _, hsz47, _⟩ := info_parts info48; have hroom47 : l0.length ≤ c0 := (Kd.V_reads' HO_0.out).2.1; have hC47 : Kd.F k48 _ _ A0 l0.length l0 := (Kd.V_at (base := w.heap.size) HO_0.out).2.2; have hcut47 := cut_to (P := Try.prog) 44 48 .i64 Try.underlying44 hi047 A0 l0.length c0 x6_1 (sq_d) q47 hroom47; have hr47 := Kd.F_take (m := (x6_1 : Int).toNat) hC47 (by omega); have hy47 : y144.length = (x6_1 : Int).toNat := (by rw [Ny144.out, List.length_take]; omega); rw [← Ny144.out] at hr47; rw [← hy47] at hcut47; have HO148 := Aside0.mk (show Kd.V k48 48 _ w.heap.size _ (.slice A0 y144.length c0) y144 from Kd.V_mk (by omega) hr47); have HC148 := Aside0.mk (show y144.length ≤ c0 from by omega); clear hr47 hC47 hroom47 hi047 hsz47; have KY47 := Aside0.mk hy47; clear hy47; replace q47 := eq_true q47) | ((with_reducible refine gate_builtin (b := .append) (xs := #[.tmp 42, .tmp 45]) rfl ?_); at_builtin; refine Kd.R_append_rows k48 (w0 := w) w.heap.size rfl (.tmp 42) (.tmp 45) 44 48 (.agg #[(.string ⟨#[]⟩), (.int .i64 0), (.bool false), (.string ⟨#[]⟩)]) 48 rfl Try.underlying44 info48 rfl (by decide) (by omega) v142 y141 y144 _ _ _ (fun k_ => (w.heap.size ≤ k_) ∧ k_ ≠ gb113) (fun _ => False) rfl rfl ?aO ?aR (fun _ _ h => h) (fun _ h => h.elim) ?aF ?aB ?aS ?aL ?_; (case aR => repeat (first | exact (Kd.V_reads' HO148.out).2.2 | (with_reducible refine Kd.C_alloc ?_ _) | (with_reducible refine Kd.C_drewN ?_ _) | (with_reducible refine Kd.C_drew ?_))); (case aB => exact (by repeat (first | (with_reducible first | exact HB.out | apply below_alloc | apply pw_below_drewN | apply below_drew1 | refine below_set ?_ GE113.out) | exact HB.out))); (case aF => exact (fun k_ hk => ⟨(Nat.le_trans (below_size (by repeat (first | (with_reducible first | exact HB.out | apply below_alloc | apply pw_below_drewN | apply below_drew1 | refine below_set ?_ GE113.out) | exact HB.out))) hk), Kd.freshB (g := gb113) (o := .cells #[.string a1_0, .int .i64 a1_1, .bool a1_2, .string a1_3] 48 (0, 0)) (sq_l BK113) k_ hk⟩)); (case aO => exact (by (with_reducible repeat (first | apply Kd.R_alloc | apply Kd.R_drewN | apply Kd.R_drew)); exact Kd.R_mono HO143.out (fun _ hk => ⟨hk.1.1, hk.2⟩))); (case aS => exact (below_size (by repeat (first | (with_reducible first | exact HB.out | apply below_alloc | apply pw_below_drewN | apply below_drew1 | refine below_set ?_ GE113.out) | exact HB.out)))); (case aL => have := LMc38.out; omega); intro v150 w48 ho hb hg hat; rw [← Ny149.out] at ho; have n0_ := Aside0.mk (Kd.V_afterv (ok := (fun k_ => (P0_ k_ ∨ w.heap.size ≤ k_) ∧ k_ ≠ gb113)) (sq_v HO_0) hg hat); have n1_ := Aside0.mk (blk_grown (g := gb113) (o := .cells #[.string a1_0, .int .i64 a1_1, .bool a1_2, .string a1_3] 48 (0, 0)) (sq_l BK113) hg (Kd.R_away HO143.out (fun _ hk => hk.2))); have n2_ := Aside0.mk (Kd.V_afterv (ok := (fun k_ => (P0_ k_ ∨ w.heap.size ≤ k_) ∧ k_ ≠ gb113)) (sq_v HO148) hg hat); have n3_ := Aside0.mk (hb); have n4_ := Aside0.mk (ho); clear HO_0; clear BK113; clear HO148; clear HB; clear HO143; have HO_0 := n0_; have BK113 := n1_; have HO148 := n2_; have HB := n3_; have HO151 := n4_; clear n0_ n1_ n2_ n3_ n4_; clear ho hb hg hat; have hcz49_0 : w48.cell? ⟨gb113, 0, none⟩ = some (.string a1_0) := (blk_cell BK113.out 0).trans rfl; have hcz49_1 : w48.cell? ⟨gb113, 1, none⟩ = some (.int .i64 a1_1) := (blk_cell BK113.out 1).trans rfl; have hcz49_2 : w48.cell? ⟨gb113, 2, none⟩ = some (.bool a1_2) := (blk_cell BK113.out 2).trans rfl; have hcz49_3 : w48.cell? ⟨gb113, 3, none⟩ = some (.string a1_3) := (blk_cell BK113.out 3).trans rfl; have hfz49_0 := blk_frozen BK113.out 0; have hfz49_1 := blk_frozen BK113.out 1; have hfz49_2 := blk_frozen BK113.out 2; have hfz49_3 := blk_frozen BK113.out 3) | ((with_reducible refine gate_builtin (b := .append) (xs := #[.tmp 47, .tmp 49]) rfl ?_); at_builtin; refine Kd.R_append k48 (w0 := w) w.heap.size rfl (.tmp 47) (.tmp 49) 44 48 (.agg #[(.string ⟨#[]⟩), (.int .i64 0), (.bool false), (.string ⟨#[]⟩)]) 48 rfl Try.underlying44 info48 rfl (by decide) (by omega) v150 y149 (⟨a1_0, a1_1, a1_2, a1_3⟩ : S48) [.string a1_0, .int .i64 a1_1, .bool a1_2, .string a1_3] (fun k_ => (w.heap.size ≤ k_) ∧ k_ ≠ gb113) (fun _ => False) rfl rfl ?aP (fun _ hk => hk.elim) ?aF ?aO ?aB ?aS ?aL ?_; (case aP => exact k48_mkM _ _ _ (⟨a1_0, a1_1, a1_2, a1_3⟩ : S48)); (case aB => exact (by repeat (first | (with_reducible first | exact HB.out | apply below_alloc | apply pw_below_drewN | apply below_drew1 | refine below_set ?_ GE113.out) | exact HB.out))); (case aF => exact (fun k_ hk => ⟨(Nat.le_trans (below_size (by repeat (first | (with_reducible first | exact HB.out | apply below_alloc | apply pw_below_drewN | apply below_drew1 | refine below_set ?_ GE113.out) | exact HB.out))) hk), Kd.freshB (g := gb113) (o := .cells #[.string a1_0, .int .i64 a1_1, .bool a1_2, .string a1_3] 48 (0, 0)) (sq_l BK113) k_ hk⟩)); (case aO => exact (sq_r HO151)); (case aS => exact (below_size (by repeat (first | (with_reducible first | exact HB.out | apply below_alloc | apply pw_below_drewN | apply below_drew1 | refine below_set ?_ GE113.out) | exact HB.out)))); (case aL => have := LMc39.out; omega); intro v153 w50 ho hb hg hat; rw [← Ny152.out] at ho; have n0_ := Aside0.mk (Kd.V_afterv (ok := (fun k_ => (P0_ k_ ∨ w.heap.size ≤ k_) ∧ k_ ≠ gb113)) (sq_v HO_0) hg hat); have n1_ := Aside0.mk (blk_grown (g := gb113) (o := .cells #[.string a1_0, .int .i64 a1_1, .bool a1_2, .string a1_3] 48 (0, 0)) (sq_l BK113) hg (Kd.R_away HO151.out (fun _ hk => hk.2))); have n2_ := Aside0.mk (Kd.V_afterv (ok := (fun k_ => (P0_ k_ ∨ w.heap.size ≤ k_) ∧ k_ ≠ gb113)) (sq_v HO148) hg hat); have n3_ := Aside0.mk (hb); have n4_ := Aside0.mk (ho); clear HO_0; clear BK113; clear HO148; clear HB; clear HO151; have HO_0 := n0_; have BK113 := n1_; have HO148 := n2_; have HB := n3_; have HO154 := n4_; clear n0_ n1_ n2_ n3_ n4_; clear ho hb hg hat; have q51 : (x6_1 : Int) ≤ ((l0.length : Int) : Int) := sq_d; obtain ⟨i051, hi051, _, hsz51, _⟩ := info_parts info48; have hroom51 : l0.length ≤ c0 := (Kd.V_reads' HO_0.out).2.1; have hC51 : Kd.F k48 _ _ A0 l0.length l0 := (Kd.V_at (base := w.heap.size) HO_0.out).2.2; have q051 : (0 : Int) ≤ (x6_1 : Int) := sq_d; have hcut51 := cut_from (P := Try.prog) 44 48 .i64 Try.underlying44 hi051 4 hsz51 A0 l0.length c0 x6_1 q051 q51; have hr51 := Kd.F_cut (m := (x6_1 : Int).toNat) (c := c0) hC51 (by omega) hroom51; obtain ⟨A51, hA51⟩ : ∃ A1, A1 = (if c0 = (x6_1 : Int).toNat then A0 else (A0 : Option Addr).map (·.add ((x6_1 : Int).toNat * 4))) := ⟨_, rfl⟩; obtain ⟨c51, hc51⟩ : ∃ c1, c1 = c0 - (x6_1 : Int).toNat := ⟨_, rfl⟩; have hy51 : y155.length = l0.length - (x6_1 : Int).toNat := (by rw [Ny155.out, List.length_drop] <;> omega); rw [show (l0).drop (x6_1 : Int).toNat = y155 from Ny155.out.symm] at hr51; replace hr51 : Kd.F k48 _ _ A51 y155.length y155 := (by rw [hA51]; exact hr51); rw [← hy51, ← hA51, ← hc51] at hcut51; have HO159 := Aside0.mk (show Kd.V k48 48 _ w.heap.size _ (.slice A51 y155.length c51) y155 from Kd.V_mk (by rw [hy51, hc51]; exact Nat.sub_le_sub_right hroom51 _) hr51); have HC159 := Aside0.mk (show y155.length ≤ c51 from by rw [hy51, hc51]; exact Nat.sub_le_sub_right hroom51 _); clear hr51 hC51 hroom51 hi051 hsz51 hc51; have KY51 := Aside0.mk hy51; have KA51 := Aside0.mk hA51; clear hy51 hA51; replace q51 := eq_true q51) | ((with_reducible refine gate_builtin (b := .append) (xs := #[.tmp 51, .tmp 54]) rfl ?_); at_builtin; refine Kd.R_append_rows k48 (w0 := w) w.heap.size rfl (.tmp 51) (.tmp 54) 44 48 (.agg #[(.string ⟨#[]⟩), (.int .i64 0), (.bool false), (.string ⟨#[]⟩)]) 48 rfl Try.underlying44 info48 rfl (by decide) (by omega) v153 y152 y155 _ _ _ (fun k_ => (w.heap.size ≤ k_) ∧ k_ ≠ gb113) (fun _ => False) rfl rfl ?aO ?aR (fun _ _ h => h) (fun _ h => h.elim) ?aF ?aB ?aS ?aL ?_; (case aR => repeat (first | exact (Kd.V_reads' HO159.out).2.2 | (with_reducible refine Kd.C_alloc ?_ _) | (with_reducible refine Kd.C_drewN ?_ _) | (with_reducible refine Kd.C_drew ?_))); (case aB => exact (by repeat (first | (with_reducible first | exact HB.out | apply below_alloc | apply pw_below_drewN | apply below_drew1 | refine below_set ?_ GE113.out) | exact HB.out))); (case aF => exact (fun k_ hk => ⟨(Nat.le_trans (below_size (by repeat (first | (with_reducible first | exact HB.out | apply below_alloc | apply pw_below_drewN | apply below_drew1 | refine below_set ?_ GE113.out) | exact HB.out))) hk), Kd.freshB (g := gb113) (o := .cells #[.string a1_0, .int .i64 a1_1, .bool a1_2, .string a1_3] 48 (0, 0)) (sq_l BK113) k_ hk⟩)); (case aO => exact (sq_r HO154)); (case aS => exact (below_size (by repeat (first | (with_reducible first | exact HB.out | apply below_alloc | apply pw_below_drewN | apply below_drew1 | refine below_set ?_ GE113.out) | exact HB.out)))); (case aL => have := LMc42.out; omega); intro v161 w52 ho hb hg hat; rw [← Ny160.out] at ho; have n0_ := Aside0.mk (Kd.V_afterv (ok := (fun k_ => (P0_ k_ ∨ w.heap.size ≤ k_) ∧ k_ ≠ gb113)) (sq_v HO_0) hg hat); have n1_ := Aside0.mk (blk_grown (g := gb113) (o := .cells #[.string a1_0, .int .i64 a1_1, .bool a1_2, .string a1_3] 48 (0, 0)) (sq_l BK113) hg (Kd.R_away HO154.out (fun _ hk => hk.2))); have n2_ := Aside0.mk (Kd.V_afterv (ok := (fun k_ => (P0_ k_ ∨ w.heap.size ≤ k_) ∧ k_ ≠ gb113)) (sq_v HO148) hg hat); have n3_ := Aside0.mk (Kd.V_afterv (ok := (fun k_ => (P0_ k_ ∨ w.heap.size ≤ k_) ∧ k_ ≠ gb113)) (sq_v HO159) hg hat); have n4_ := Aside0.mk (hb); have n5_ := Aside0.mk (ho); clear HO_0; clear BK113; clear HO148; clear HO159; clear HB; clear HO154; have HO_0 := n0_; have BK113 := n1_; have HO148 := n2_; have HO159 := n3_; have HB := n4_; have HO162 := n5_; clear n0_ n1_ n2_ n3_ n4_ n5_; clear ho hb hg hat))
     go_ret2
     exact ⟨_, sq_w, ⟨Kd.V_mono (Kd.R_V (by (with_reducible repeat (first | apply Kd.R_alloc | apply Kd.R_drewN | apply Kd.R_drew)); exact Kd.R_mono HO162.out (fun _ hk => hk.1))) (fun k_ hk => by first | exact ⟨(.inr (hk.1)), hk.2⟩ | exact (.inr (hk))), .inr (by (with_reducible repeat (first | apply Kd.R_alloc | apply Kd.R_drewN | apply Kd.R_drew)); exact Kd.R_mono HO162.out (fun _ _ => trivial))⟩, by repeat (first | (with_reducible first | exact HB.out | apply below_alloc | apply pw_below_drewN | apply below_drew1 | refine below_set ?_ GE113.out) | exact HB.out)⟩
    ·rw [if_neg c36] at H
     exact absurd H (by simp)

end Go.Proofs.Ytabfkalcjfjkiaa.QFnAsOf
