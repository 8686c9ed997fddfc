-- Written by this session's own program (wip/pp_patch.py, wip/pp.sh) out of the given translation. Not trusted: Lean checks it.
import Derived.Test.YtpfjlnfgekeobaaQFnExactMergeVersionsx0
import Derived.Test.YtpfjlnfgekeobaaQFnExactMergeVersionsx1
import Derived.Test.YtpfjlnfgekeobaaQFnExactMergeVersionsx5
namespace Go.Proofs.Ytpfjlnfgekeobaa.QFnExactMergeVersions
open Go.RowKit Go.Proofs.YtpfjlnfgekeobaaW.PrintWords Go.Proofs.YtpfjlnfgekeobaaW.PrintLast Go.Proofs.YtpfjlnfgekeobaaW.PrintMore
attribute [local go_sem] max2_int min2_int max_two min_two max_three min_three max_four min_four   -- for this text's walks alone
open Go.Proofs.Ytpfjlnfgekeobaa.Ext
attribute [local go_sem high] ext_gtr ext_leq
set_option linter.unusedVariables false
set_option linter.unusedSimpArgs false

attribute [local go_sem high] eqA42
/-! ### spec_l14Put: function 45 -/
def spec_l14Put.l0 : Nat → List (S42) → Int → ByteArray → Int → Bool → ByteArray → Option ((List (S42)) × Bool)
 | 0, _, _, _, _, _, _ => none
 | k + 1, x0, x6, x149000, x149001, x149002, x149003 => if x6 < (x0.length : Int) then (if 0 ≤ x6 then ((spec_l14Less.f ((rd_T42 x0 x6).f0) ((rd_T42 x0 x6).f1) ((rd_T42 x0 x6).f2) ((rd_T42 x0 x6).f3) x149000 x149001 x149002 x149003).bind fun t150 => (if t150 = true then (spec_l14Put.l0 k x0 (wrap64 (x6 + 1)) x149000 x149001 x149002 x149003) else ((spec_l14Less.f x149000 x149001 x149002 x149003 ((rd_T42 x0 x6).f0) ((rd_T42 x0 x6).f1) ((rd_T42 x0 x6).f2) ((rd_T42 x0 x6).f3)).bind fun t152 => (if t152 = true then ((some (([] : List (S42)) : List (S42))).bind fun y153 => (if x6 ≤ (x0.length : Int) then ((some (x0.take (x6 : Int).toNat : List (S42))).bind fun y156 => (if y153.length + y156.length < 2932031007402 then ((some (y153 ++ y156 : List (S42))).bind fun y160 => (if y160.length < 2932031007402 then ((some (y160 ++ [(⟨x149000, x149001, x149002, x149003⟩ : S42)] : List (S42))).bind fun y163 => ((some (x0.drop (x6 : Int).toNat : List (S42))).bind fun y166 => (if y163.length + y166.length < 2932031007402 then (some ((y163 ++ y166), true)) else (none)))) else (none))) else (none))) else (none))) else (some (x0, ((((rd_T42 x0 x6).f0).toList) == x149000.toList && (((rd_T42 x0 x6).f1) == x149001 && (((rd_T42 x0 x6).f2) == x149002 && ((((rd_T42 x0 x6).f3).toList) == x149003.toList)))))))))) else (none)) else ((some (([] : List (S42)) : List (S42))).bind fun y174 => (if 0 ≤ x6 then (if x6 ≤ (x0.length : Int) then ((some (x0.take (x6 : Int).toNat : List (S42))).bind fun y177 => (if y174.length + y177.length < 2932031007402 then ((some (y174 ++ y177 : List (S42))).bind fun y181 => (if y181.length < 2932031007402 then ((some (y181 ++ [(⟨x149000, x149001, x149002, x149003⟩ : S42)] : List (S42))).bind fun y184 => ((some (x0.drop (x6 : Int).toNat : List (S42))).bind fun y187 => (if y184.length + y187.length < 2932031007402 then (some ((y184 ++ y187), true)) else (none)))) else (none))) else (none))) else (none)) else (none)))
def spec_l14Put.f (k : Nat) (l0 : List (S42)) (a1_0 : ByteArray) (a1_1 : Int) (a1_2 : Bool) (a1_3 : ByteArray) : Option ((List (S42)) × Bool) := spec_l14Put.l0 k l0 0 a1_0 a1_1 a1_2 a1_3
theorem spec_l14Put.mono_l : ∀ k, (∀ y0 y1 y2 y3 y4 y5, LeO (spec_l14Put.l0 k y0 y1 y2 y3 y4 y5) (spec_l14Put.l0 (k + 1) y0 y1 y2 y3 y4 y5))
 | 0 => fun _ _ _ _ _ _ r h => by simp [spec_l14Put.l0] at h
 | k + 1 => by
  have ih0 := spec_l14Put.mono_l k
  ·intro y0 y1 y2 y3 y4 y5
   unfold spec_l14Put.l0
   repeat' first
   | (with_reducible exact ih0 _ _ _ _ _ _)
   | (with_reducible exact LeO.refl _)
   | (with_reducible exact LeO.none _)
   | (with_reducible refine LeO.ite ?_ ?_)
   | (with_reducible refine LeO.bind ?_ (fun _ => ?_))
   | exact ih0 _ _ _ _ _ _
   | exact LeO.none _
   | refine LeO.ite ?_ ?_
   | refine LeO.bind ?_ (fun _ => ?_)
theorem spec_l14Put.mono : ∀ a0 a1 a2 a3 a4 k, LeO (spec_l14Put.f k a0 a1 a2 a3 a4) (spec_l14Put.f (k + 1) a0 a1 a2 a3 a4) := by
 intro a0 a1 a2 a3 a4 k
 have ih0 := spec_l14Put.mono_l k
 unfold spec_l14Put.f
 repeat' first
   | (with_reducible exact ih0 _ _ _ _ _ _)
   | (with_reducible exact LeO.refl _)
   | (with_reducible exact LeO.none _)
   | (with_reducible refine LeO.ite ?_ ?_)
   | (with_reducible refine LeO.bind ?_ (fun _ => ?_))
   | exact ih0 _ _ _ _ _ _
   | exact LeO.none _
   | refine LeO.ite ?_ ?_
   | refine LeO.bind ?_ (fun _ => ?_)
def spec_l14Put.T2 : Bool × List (List Nat × List Nat) := (true, [([], []), ([], []), ([1], [1]), ([0, 2], [0, 2]), ([3], [3]), ([4], [4]), ([4], [4]), ([5, 6, 4], [4, 5, 6]), ([7, 4], [4, 7]), ([4], [4]), ([8, 9, 4, 4], [4, 8, 9]), ([4, 10], [4, 10])])
def spec_l14Put.B2 : List Nat := [0, 0, 2, 7, 15, 31, 31, 127, 255, 31, 1023, 2047]
theorem spec_l14Put.tab2 : rtab .any (opsOf Try.f45 2) = spec_l14Put.T2 := by kernel_rfl
theorem spec_l14Put.bits2 : waitsOk spec_l14Put.T2.2 spec_l14Put.B2 = true := by kernel_rfl
def spec_l14Put.T4 : Bool × List (List Nat × List Nat) := (true, [([], []), ([], []), ([1], [1]), ([0, 2], [0, 2]), ([3], [3]), ([4], [4]), ([4], [4]), ([4], [4]), ([6, 7, 4], [4, 6, 7]), ([8, 4], [4, 8]), ([5, 9, 4, 4], [4, 5, 9]), ([10, 4], [4, 10]), ([4, 11], [4, 11])])
def spec_l14Put.B4 : List Nat := [0, 0, 2, 7, 15, 31, 31, 31, 223, 479, 1023, 2047, 4095]
theorem spec_l14Put.tab4 : rtab .any (opsOf Try.f45 4) = spec_l14Put.T4 := by kernel_rfl
theorem spec_l14Put.bits4 : waitsOk spec_l14Put.T4.2 spec_l14Put.B4 = true := by kernel_rfl
def spec_l14Put.T5 : Bool × List (List Nat × List Nat) := (true, [([], []), ([], []), ([], []), ([1, 2], [1, 2]), ([3], [3]), ([], []), ([4, 5], [4, 5]), ([0, 0], [0]), ([6, 7, 0, 1, 2, 3, 4, 5, 6, 7], [6])])
def spec_l14Put.B5 : List Nat := [0, 0, 0, 6, 14, 0, 62, 1, 255]
theorem spec_l14Put.tab5 : rtab .any (opsOf Try.f45 5) = spec_l14Put.T5 := by kernel_rfl
theorem spec_l14Put.bits5 : waitsOk spec_l14Put.T5.2 spec_l14Put.B5 = true := by kernel_rfl
set_option maxHeartbeats 8000000 in
set_option maxRecDepth 100000 in
theorem spec_l14Put.calls (k : Nat) (P0_ : Nat → Prop) (u9000_ : Value) (l0 : List (S42)) (a1_0 : ByteArray) (a1_1 : Int) (a1_2 : Bool) (a1_3 : ByteArray) (r1 : List (S42)) (r2 : Bool) (w0 w : World) (hB : Below w0.heap.size w0 w) (ho0 : Kd.R k42 42 w w0.heap.size P0_ u9000_ l0) (h : spec_l14Put.f k l0 a1_0 a1_1 a1_2 a1_3 = some (r1, r2)) :
  Calls Try.prog 45 #[u9000_, .agg #[.string a1_0, .int .i64 a1_1, .bool a1_2, .string a1_3]] w fun e w' => ∃ v0_ : Value, e = .returned (.tuple #[v0_, .bool r2]) ∧ Kd.R k42 42 w' w0.heap.size (fun k_ => (P0_ k_ ∨ w.heap.size ≤ k_)) v0_ r1 ∧ Below w0.heap.size w0 w' ∧ Kept w w' (fun k_ => P0_ k_) := by
 have hu42 := Try.underlying42
 have HO0 := Aside0.mk (show Kd.R k42 42 w w0.heap.size (fun k_ => (P0_ k_ ∨ w.heap.size ≤ k_)) u9000_ l0 from Kd.R_mono ho0 (fun k_ hk => (.inl hk)))
 have HK := Aside0.mk (Kept.refl w (fun k_ => P0_ k_))
 have HW0 := Aside0.mk hB.size
 have HB := Aside0.mk hB
 clear hB
 have H : (spec_l14Put.l0 k l0 0 a1_0 a1_1 a1_2 a1_3) = some (r1, r2) := h
 clear h
 have H' := Aside0.mk H
 clear H
 go_enter Try.func45, Try.ntmps45
 go_wp2_with (first | ((with_reducible refine gate_dst (N := 3) rfl ?_); refine box_event ?hg (N := 3) ?hd (cs := #[.string a1_0, .int .i64 a1_1, .bool a1_2, .string a1_3]) (t := 42) ?hr ?_; (case hd => rfl); (case hg => rfl); (case hr => first | (go_simp; done) | (go_simp; rfl)); intro gb148 hg w3 hbox hb; have n0_ := Aside0.mk (Kd.R_below (Kd.R_elderB (sq_r HO0) gb148 (Nat.le_of_eq hg.symm)) hb); have n1_ := Aside0.mk (Kept.below (S := (fun k_ => P0_ k_)) sq_k hb); have n2_ := Aside0.mk (below_step sq_b hb); have n3_ := Aside0.mk (hbox); have n4_ := Aside0.mk ((by rw [hg]; exact (by first | exact HK.out.1 | exact (show Kept w _ (fun k_ => P0_ k_) from by repeat (first | (with_reducible first | exact HK.out | apply Kept.alloc | apply Kept.drewN | apply Kept.drew) | exact HK.out)).1) : w.heap.size ≤ gb148)); have n5_ := Aside0.mk ((by rw [hg]; exact (below_size sq_b) : w0.heap.size ≤ gb148)); clear HO0; clear HK; clear HB; have HO0 := n0_; have HK := n1_; have HB := n2_; have BK148 := n3_; have GW148 := n4_; have GE148 := n5_; clear n0_ n1_ n2_ n3_ n4_ n5_; clear hb hbox hg))
 go_loopg [6] k (fun kq v6 w' => ∃ (x6_1 : Int), v6 = .int .i64 x6_1 ∧ Aside0 (spec_l14Put.l0 kq l0 x6_1 a1_0 a1_1 a1_2 a1_3 = some (r1, r2)) ∧ Aside0 (kq ≤ k) ∧ Aside0 (Kd.R k42 42 w' w0.heap.size (fun k_ => (P0_ k_ ∨ w.heap.size ≤ k_) ∧ k_ ≠ gb148) u9000_ l0) ∧ Aside0 (w'.heap[gb148]? = some (.cells #[.string a1_0, .int .i64 a1_1, .bool a1_2, .string a1_3] 42 (0, 0))) ∧ Aside0 (Kept w w' (fun k_ => P0_ k_)) ∧ Aside0 (Below w0.heap.size w0 w'))
 case atStart => exact ⟨(0), sq_e, H', ⟨Nat.le_refl _⟩, ⟨by (with_reducible repeat (first | apply Kd.R_alloc | apply Kd.R_drewN | apply Kd.R_drew)); exact HO0.out⟩, ⟨by (with_reducible repeat (first | refine blk_drewN ?_ _ | refine blk_drew ?_ | refine blk_alloc ?_ _)); exact BK148.out⟩, ⟨by repeat (first | (with_reducible first | exact HK.out | apply Kept.alloc | apply Kept.drewN | apply Kept.drew | refine Kept.setCell ?_ (.inr GW148.out) _) | exact HK.out)⟩, ⟨by repeat (first | (with_reducible first | exact HB.out | apply below_alloc | apply pw_below_drewN | apply below_drew1 | refine below_set ?_ GE148.out) | exact HB.out)⟩⟩
 case round =>
  clear H'
  try clear p2
  obtain ⟨x6_1, rfl, HA, HK1, HO_0, BK148, HK, HB⟩ := hrel
  cases gk with
  | zero => exact absurd HA.out (by simp [spec_l14Put.l0])
  | succ k1 =>
   have H := HA.out
   clear HA
   simp only [spec_l14Put.l0] at H
   by_cases c4 : x6_1 < (l0.length : Int)
   ·rw [if_pos c4] at H
    have c4b0 : decide (x6_1 < (l0.length : Int)) = true := decide_eq_true c4
    clear c4
    by_cases c5 : 0 ≤ x6_1
    rotate_left
    ·rw [if_neg c5] at H
     exact absurd H (by simp)
    rw [if_pos c5] at H
    have c5b0 : decide (0 ≤ x6_1) = true := decide_eq_true c5
    clear c5
    replace H := Option.bind_eq_some_iff.mp H
    obtain ⟨t150, A60, H⟩ := H
    replace H : (if t150 = true then (spec_l14Put.l0 k1 l0 (wrap64 (x6_1 + 1)) a1_0 a1_1 a1_2 a1_3) else ((spec_l14Less.f a1_0 a1_1 a1_2 a1_3 ((rd_T42 l0 x6_1).f0) ((rd_T42 l0 x6_1).f1) ((rd_T42 l0 x6_1).f2) ((rd_T42 l0 x6_1).f3)).bind fun t152 => (if t152 = true then ((some (([] : List (S42)) : List (S42))).bind fun y153 => (if x6_1 ≤ (l0.length : Int) then ((some (l0.take (x6_1 : Int).toNat : List (S42))).bind fun y156 => (if y153.length + y156.length < 2932031007402 then ((some (y153 ++ y156 : List (S42))).bind fun y160 => (if y160.length < 2932031007402 then ((some (y160 ++ [(⟨a1_0, a1_1, a1_2, a1_3⟩ : S42)] : List (S42))).bind fun y163 => ((some (l0.drop (x6_1 : Int).toNat : List (S42))).bind fun y166 => (if y163.length + y166.length < 2932031007402 then (some ((y163 ++ y166), true)) else (none)))) else (none))) else (none))) else (none))) else (some (l0, ((((rd_T42 l0 x6_1).f0).toList) == a1_0.toList && (((rd_T42 l0 x6_1).f1) == a1_1 && (((rd_T42 l0 x6_1).f2) == a1_2 && ((((rd_T42 l0 x6_1).f3).toList) == a1_3.toList))))))))) = some (r1, r2) := H
    have A6 := Aside0.mk A60
    clear A60
    by_cases c7 : t150 = true
    ·subst c7
     have H1 : (spec_l14Put.l0 k1 l0 (wrap64 (x6_1 + 1)) a1_0 a1_1 a1_2 a1_3) = some (r1, r2) := by rw [if_pos rfl] at H; exact H
     clear H
     have H := H1
     clear H1
     have H' := Aside0.mk H
     clear H
     try go_wp2
     have n0_ := Aside0.mk (Kd.R_drew HO_0.out)
     have n1_ := Aside0.mk (blk_drew BK148.out)
     have n2_ := Aside0.mk (Kept.drew HK.out)
     have n3_ := Aside0.mk (below_drew1 HB.out)
     clear HO_0
     clear BK148
     clear HK
     clear HB
     have HO_0 := n0_
     have BK148 := n1_
     have HK := n2_
     have HB := n3_
     clear n0_ n1_ n2_ n3_
     obtain ⟨Ao9, co9, eo9⟩ := Kd.R_slice HO_0.out
     (first | subst eo9 | (injection eo9 with f1_ f2_ f3_; have f4_ := f1_.symm; have f5_ := f3_.symm; clear f1_ f2_ f3_; subst f4_; subst f5_))
     have p149 : 0 ≤ (x6_1 : Int) := sq_d
     have q149 : x6_1 < (l0.length : Int) := sq_d
     obtain ⟨ad149, e149, hx149_0, hx149_1, hx149_2, hx149_3⟩ := at_T42 (Kd.R_reads' HO_0.out).2.2 x6_1 p149 q149
     cases e149
     replace p149 := eq_true p149
     replace q149 := eq_true q149
     refine start_ (n := 12) (S := fun w' => w'.cell? ⟨gb148, 0, none⟩ = some (.string a1_0) ∧ w'.cell? ⟨gb148, 1, none⟩ = some (.int .i64 a1_1) ∧ w'.cell? ⟨gb148, 2, none⟩ = some (.bool a1_2) ∧ w'.cell? ⟨gb148, 3, none⟩ = some (.string a1_3) ∧ w'.cell? (ad149.add ((x6_1).toNat * 4)) = some (.string ((rd_T42 l0 x6_1).f0)) ∧ w'.cell? ⟨(ad149.add ((x6_1).toNat * 4)).block, (ad149.add ((x6_1).toNat * 4)).off + 1, none⟩ = some (.int .i64 ((rd_T42 l0 x6_1).f1)) ∧ w'.cell? ⟨(ad149.add ((x6_1).toNat * 4)).block, (ad149.add ((x6_1).toNat * 4)).off + 2, none⟩ = some (.bool ((rd_T42 l0 x6_1).f2)) ∧ w'.cell? ⟨(ad149.add ((x6_1).toNat * 4)).block, (ad149.add ((x6_1).toNat * 4)).off + 3, none⟩ = some (.string ((rd_T42 l0 x6_1).f3))) (ds := []) #[false, false, false, false, false, false, false, false, false, false, false, false] (by kernel_rfl) rfl rfl ⟨(blk_cell BK148.out 0).trans rfl, (blk_cell BK148.out 1).trans rfl, (blk_cell BK148.out 2).trans rfl, (blk_cell BK148.out 3).trans rfl, hx149_0, hx149_1, hx149_2, hx149_3⟩ (fun hHeld => ?_); refine with_tabW spec_l14Put.tab2 spec_l14Put.bits2 (fun HT_ HW_ => ?_)
     generalize wr.drew = w8 at HO_0 BK148 HK HB hx149_0 hx149_1 hx149_2 hx149_3 hHeld ⊢
     refine pu_ 0 (some 8) #[true, false, false, false, false, false, false, false, false, false, false, false] HT_ ?_
     refine pu_ 1 (some 9) #[true, true, false, false, false, false, false, false, false, false, false, false] HT_ ?_
     refine pu_ 2 (some 10) #[true, true, true, false, false, false, false, false, false, false, false, false] HT_ ?_
     refine pu_ 3 (some 11) #[true, true, true, true, false, false, false, false, false, false, false, false] HT_ ?_
     refine pu_ 4 (some 12) #[true, true, true, true, true, false, false, false, false, false, false, false] HT_ ?_
     refine pu_ 5 (some 13) #[true, true, true, true, true, true, false, false, false, false, false, false] HT_ ?_
     refine pu_ 6 (some 14) #[true, true, true, true, true, true, true, false, false, false, false, false] HT_ ?_
     refine pu_ 7 (some 15) #[true, true, true, true, true, true, true, true, false, false, false, false] HT_ ?_
     refine take_ (i := 8) (N := some 16) (v := ?_) (a' := ?_) #[true, true, true, true, true, true, true, true, true, false, false, false] rfl rfl (take_ofW HT_.out HW_.out (by kernel_rfl)) (fun _ _ _ h => h) (Or.inl ⟨by rfl, ?_⟩) hHeld ?_ ?_
     rotate_left
     ·rintro w' ⟨s0, s1, s2, s3, s4, s5, s6, s7⟩
      go_simp
      with_reducible rfl
     rotate_left
     ·simp only [Act.put, List.setIfInBounds_toArray, List.set_cons_zero, List.set_cons_succ, i64_w, i32_w]
      rfl
     refine take_ (i := 9) (N := some 17) (v := ?_) (a' := ?_) #[true, true, true, true, true, true, true, true, true, true, false, false] rfl rfl (take_ofW HT_.out HW_.out (by kernel_rfl)) (fun _ _ _ h => h) (Or.inl ⟨by rfl, ?_⟩) hHeld ?_ ?_
     rotate_left
     ·rintro w' ⟨s0, s1, s2, s3, s4, s5, s6, s7⟩
      go_simp
      with_reducible rfl
     rotate_left
     ·simp only [Act.put, List.setIfInBounds_toArray, List.set_cons_zero, List.set_cons_succ, i64_w, i32_w]
      rfl
     refine one_ (i := 10) (N := some 18) #[true, true, true, true, true, true, true, true, true, true, true, false] rfl rfl (one_of HT_.out (by kernel_rfl)) (by decide) (fun K hK => ?_)
     refine goes_ Try.func59 (by kernel_rfl) rfl #[.agg #[.string ((rd_T42 l0 x6_1).f0), .int .i64 ((rd_T42 l0 x6_1).f1), .bool ((rd_T42 l0 x6_1).f2), .string ((rd_T42 l0 x6_1).f3)], .agg #[.string a1_0, .int .i64 a1_1, .bool a1_2, .string a1_3]] (by rfl) rfl rfl (by (try simp only [List.map_toArray, List.map_cons, List.map_nil]); first | done | rfl | (simp only [List.length_drop, List.length_take]; rfl)) ?_
     with_reducible refine (spec_l14Less.calls ((rd_T42 l0 x6_1).f0) ((rd_T42 l0 x6_1).f1) ((rd_T42 l0 x6_1).f2) ((rd_T42 l0 x6_1).f3) a1_0 a1_1 a1_2 a1_3 true _ A6.out).mono ?_
     rintro e w10 ⟨rfl, hb⟩
     have HS4_ := (hb.cell (World.block_lt_of_cell? _ _ (hHeld.2.2.2.2.1))).trans (hHeld.2.2.2.2.1)
     have HS5_ := (hb.cell (World.block_lt_of_cell? _ _ (hHeld.2.2.2.2.2.1))).trans (hHeld.2.2.2.2.2.1)
     have HS6_ := (hb.cell (World.block_lt_of_cell? _ _ (hHeld.2.2.2.2.2.2.1))).trans (hHeld.2.2.2.2.2.2.1)
     have HS7_ := (hb.cell (World.block_lt_of_cell? _ _ (hHeld.2.2.2.2.2.2.2))).trans (hHeld.2.2.2.2.2.2.2)
     refine ⟨_, rfl, ?_⟩
     have n0_ := Aside0.mk (Kd.R_below (sq_r HO_0) hb)
     have n1_ := Aside0.mk (blk_below (g := gb148) (o := .cells #[.string a1_0, .int .i64 a1_1, .bool a1_2, .string a1_3] 42 (0, 0)) (sq_l BK148) hb)
     have n2_ := Aside0.mk (Kept.below (S := (fun k_ => P0_ k_)) (by repeat (first | (with_reducible first | exact HK.out | apply Kept.alloc | apply Kept.drewN | apply Kept.drew | refine Kept.setCell ?_ (.inr GW148.out) _) | exact HK.out)) hb)
     have n3_ := Aside0.mk (below_step (by repeat (first | (with_reducible first | exact HB.out | apply below_alloc | apply pw_below_drewN | apply below_drew1 | refine below_set ?_ GE148.out) | exact HB.out)) hb)
     clear HO_0
     clear BK148
     clear HK
     clear HB
     have HO_0 := n0_
     have BK148 := n1_
     have HK := n2_
     have HB := n3_
     clear n0_ n1_ n2_ n3_
     (try clear hb)
     (try clear hb2)
     (try clear hk)
     (try clear hi)
     refine hK.out _ _ ⟨(blk_cell BK148.out 0).trans rfl, (blk_cell BK148.out 1).trans rfl, (blk_cell BK148.out 2).trans rfl, (blk_cell BK148.out 3).trans rfl, HS4_, HS5_, HS6_, HS7_⟩ (fun hHeld => ?_)
     clear hK K
     refine norm_ (a' := ?_) ?_ ?_
     rotate_left
     ·show Act.put _ (some 18) _ = _
      simp only [Act.put, List.setIfInBounds_toArray, List.set_cons_zero, List.set_cons_succ, i64_w, i32_w]
      rfl
     refine pu_ 11 (some 19) #[true, true, true, true, true, true, true, true, true, true, true, true] HT_ ?_
     refine done_ (done_of HT_.out (by kernel_rfl)) ?_
     try go_wp2
     go_roundg k1
     case measure => have := HK1.out; omega
     case rel => exact ⟨(wrap64 (x6_1 + 1)), sq_e, H', ⟨by have := HK1.out; omega⟩, ⟨by (with_reducible repeat (first | apply Kd.R_alloc | apply Kd.R_drewN | apply Kd.R_drew)); exact HO_0.out⟩, ⟨by (with_reducible repeat (first | refine blk_drewN ?_ _ | refine blk_drew ?_ | refine blk_alloc ?_ _)); exact BK148.out⟩, ⟨by repeat (first | (with_reducible first | exact HK.out | apply Kept.alloc | apply Kept.drewN | apply Kept.drew | refine Kept.setCell ?_ (.inr GW148.out) _) | exact HK.out)⟩, ⟨by repeat (first | (with_reducible first | exact HB.out | apply below_alloc | apply pw_below_drewN | apply below_drew1 | refine below_set ?_ GE148.out) | exact HB.out)⟩⟩
    ·replace c7 := Bool.eq_false_iff.mpr c7
     subst c7
     have H1 : ((spec_l14Less.f a1_0 a1_1 a1_2 a1_3 ((rd_T42 l0 x6_1).f0) ((rd_T42 l0 x6_1).f1) ((rd_T42 l0 x6_1).f2) ((rd_T42 l0 x6_1).f3)).bind fun t152 => (if t152 = true then ((some (([] : List (S42)) : List (S42))).bind fun y153 => (if x6_1 ≤ (l0.length : Int) then ((some (l0.take (x6_1 : Int).toNat : List (S42))).bind fun y156 => (if y153.length + y156.length < 2932031007402 then ((some (y153 ++ y156 : List (S42))).bind fun y160 => (if y160.length < 2932031007402 then ((some (y160 ++ [(⟨a1_0, a1_1, a1_2, a1_3⟩ : S42)] : List (S42))).bind fun y163 => ((some (l0.drop (x6_1 : Int).toNat : List (S42))).bind fun y166 => (if y163.length + y166.length < 2932031007402 then (some ((y163 ++ y166), true)) else (none)))) else (none))) else (none))) else (none))) else (some (l0, ((((rd_T42 l0 x6_1).f0).toList) == a1_0.toList && (((rd_T42 l0 x6_1).f1) == a1_1 && (((rd_T42 l0 x6_1).f2) == a1_2 && ((((rd_T42 l0 x6_1).f3).toList) == a1_3.toList)))))))) = some (r1, r2) := by rw [if_neg (show ¬ (false = true) by decide)] at H; exact H
     clear H
     have H := H1
     clear H1
     replace H := Option.bind_eq_some_iff.mp H
     obtain ⟨t152, A110, H⟩ := H
     replace H : (if t152 = true then ((some (([] : List (S42)) : List (S42))).bind fun y153 => (if x6_1 ≤ (l0.length : Int) then ((some (l0.take (x6_1 : Int).toNat : List (S42))).bind fun y156 => (if y153.length + y156.length < 2932031007402 then ((some (y153 ++ y156 : List (S42))).bind fun y160 => (if y160.length < 2932031007402 then ((some (y160 ++ [(⟨a1_0, a1_1, a1_2, a1_3⟩ : S42)] : List (S42))).bind fun y163 => ((some (l0.drop (x6_1 : Int).toNat : List (S42))).bind fun y166 => (if y163.length + y166.length < 2932031007402 then (some ((y163 ++ y166), true)) else (none)))) else (none))) else (none))) else (none))) else (some (l0, ((((rd_T42 l0 x6_1).f0).toList) == a1_0.toList && (((rd_T42 l0 x6_1).f1) == a1_1 && (((rd_T42 l0 x6_1).f2) == a1_2 && ((((rd_T42 l0 x6_1).f3).toList) == a1_3.toList))))))) = some (r1, r2) := H
     have A11 := Aside0.mk A110
     clear A110
     by_cases c12 : t152 = true
     ·subst c12
      have H1 : ((some (([] : List (S42)) : List (S42))).bind fun y153 => (if x6_1 ≤ (l0.length : Int) then ((some (l0.take (x6_1 : Int).toNat : List (S42))).bind fun y156 => (if y153.length + y156.length < 2932031007402 then ((some (y153 ++ y156 : List (S42))).bind fun y160 => (if y160.length < 2932031007402 then ((some (y160 ++ [(⟨a1_0, a1_1, a1_2, a1_3⟩ : S42)] : List (S42))).bind fun y163 => ((some (l0.drop (x6_1 : Int).toNat : List (S42))).bind fun y166 => (if y163.length + y166.length < 2932031007402 then (some ((y163 ++ y166), true)) else (none)))) else (none))) else (none))) else (none))) = some (r1, r2) := by rw [if_pos rfl] at H; exact H
      clear H
      have H := H1
      clear H1
      obtain ⟨y153, hy153⟩ : ∃ y_ : List (S42), y_ = (([] : List (S42))) := ⟨_, rfl⟩
      replace H : (if x6_1 ≤ (l0.length : Int) then ((some (l0.take (x6_1 : Int).toNat : List (S42))).bind fun y156 => (if y153.length + y156.length < 2932031007402 then ((some (y153 ++ y156 : List (S42))).bind fun y160 => (if y160.length < 2932031007402 then ((some (y160 ++ [(⟨a1_0, a1_1, a1_2, a1_3⟩ : S42)] : List (S42))).bind fun y163 => ((some (l0.drop (x6_1 : Int).toNat : List (S42))).bind fun y166 => (if y163.length + y166.length < 2932031007402 then (some ((y163 ++ y166), true)) else (none)))) else (none))) else (none))) else (none)) = some (r1, r2) := by first | (rw [hy153]; with_reducible exact H) | (have H2_ := (Option.bind_some _ _).symm.trans H; rw [hy153]; with_reducible exact H2_) | (have H2_ := (Option.bind_some _ _).symm.trans H; with_reducible exact H2_) | with_reducible exact H | (rw [hy153]; exact H) | exact H
      have Ny153 := Aside0.mk hy153
      clear hy153
      have c13b0 := eq_true (sq_d : 0 ≤ x6_1)
      by_cases c14 : x6_1 ≤ (l0.length : Int)
      rotate_left
      ·rw [if_neg c14] at H
       exact absurd H (by simp)
      rw [if_pos c14] at H
      have c14b0 := eq_true c14
      have c14b1 : decide (x6_1 ≤ (l0.length : Int)) = true := decide_eq_true c14
      clear c14
      obtain ⟨y156, hy156⟩ : ∃ y_ : List (S42), y_ = (l0.take (x6_1 : Int).toNat) := ⟨_, rfl⟩
      replace H : (if y153.length + y156.length < 2932031007402 then ((some (y153 ++ y156 : List (S42))).bind fun y160 => (if y160.length < 2932031007402 then ((some (y160 ++ [(⟨a1_0, a1_1, a1_2, a1_3⟩ : S42)] : List (S42))).bind fun y163 => ((some (l0.drop (x6_1 : Int).toNat : List (S42))).bind fun y166 => (if y163.length + y166.length < 2932031007402 then (some ((y163 ++ y166), true)) else (none)))) else (none))) else (none)) = some (r1, r2) := by first | (rw [hy156]; with_reducible exact H) | (have H2_ := (Option.bind_some _ _).symm.trans H; rw [hy156]; with_reducible exact H2_) | (have H2_ := (Option.bind_some _ _).symm.trans H; with_reducible exact H2_) | with_reducible exact H | (rw [hy156]; exact H) | exact H
      have Ny156 := Aside0.mk hy156
      clear hy156
      by_cases c15 : y153.length + y156.length < 2932031007402
      rotate_left
      ·rw [if_neg c15] at H
       exact absurd H (by simp)
      rw [if_pos c15] at H
      have LMc15 := Aside0.mk c15
      clear c15
      obtain ⟨y160, hy160⟩ : ∃ y_ : List (S42), y_ = (y153 ++ y156) := ⟨_, rfl⟩
      replace H : (if y160.length < 2932031007402 then ((some (y160 ++ [(⟨a1_0, a1_1, a1_2, a1_3⟩ : S42)] : List (S42))).bind fun y163 => ((some (l0.drop (x6_1 : Int).toNat : List (S42))).bind fun y166 => (if y163.length + y166.length < 2932031007402 then (some ((y163 ++ y166), true)) else (none)))) else (none)) = some (r1, r2) := by first | (rw [hy160]; with_reducible exact H) | (have H2_ := (Option.bind_some _ _).symm.trans H; rw [hy160]; with_reducible exact H2_) | (have H2_ := (Option.bind_some _ _).symm.trans H; with_reducible exact H2_) | with_reducible exact H | (rw [hy160]; exact H) | exact H
      have Ny160 := Aside0.mk hy160
      clear hy160
      by_cases c16 : y160.length < 2932031007402
      rotate_left
      ·rw [if_neg c16] at H
       exact absurd H (by simp)
      rw [if_pos c16] at H
      have LMc16 := Aside0.mk c16
      clear c16
      obtain ⟨y163, hy163⟩ : ∃ y_ : List (S42), y_ = (y160 ++ [(⟨a1_0, a1_1, a1_2, a1_3⟩ : S42)]) := ⟨_, rfl⟩
      replace H : ((some (l0.drop (x6_1 : Int).toNat : List (S42))).bind fun y166 => (if y163.length + y166.length < 2932031007402 then (some ((y163 ++ y166), true)) else (none))) = some (r1, r2) := by first | (rw [hy163]; with_reducible exact H) | (have H2_ := (Option.bind_some _ _).symm.trans H; rw [hy163]; with_reducible exact H2_) | (have H2_ := (Option.bind_some _ _).symm.trans H; with_reducible exact H2_) | with_reducible exact H | (rw [hy163]; exact H) | exact H
      have Ny163 := Aside0.mk hy163
      clear hy163
      have c17b0 := eq_true (sq_d : 0 ≤ x6_1)
      have c18b0 := eq_true (sq_d : x6_1 ≤ (l0.length : Int))
      obtain ⟨y166, hy166⟩ : ∃ y_ : List (S42), y_ = (l0.drop (x6_1 : Int).toNat) := ⟨_, rfl⟩
      replace H : (if y163.length + y166.length < 2932031007402 then (some ((y163 ++ y166), true)) else (none)) = some (r1, r2) := by first | (rw [hy166]; with_reducible exact H) | (have H2_ := (Option.bind_some _ _).symm.trans H; rw [hy166]; with_reducible exact H2_) | (have H2_ := (Option.bind_some _ _).symm.trans H; with_reducible exact H2_) | with_reducible exact H | (rw [hy166]; exact H) | exact H
      have Ny166 := Aside0.mk hy166
      clear hy166
      by_cases c19 : y163.length + y166.length < 2932031007402
      rotate_left
      ·rw [if_neg c19] at H
       exact absurd H (by simp)
      rw [if_pos c19] at H
      have LMc19 := Aside0.mk c19
      clear c19
      obtain ⟨y170, hy170⟩ : ∃ y_ : List (S42), y_ = (y163 ++ y166) := ⟨_, rfl⟩
      replace H : (some (y170, true)) = some (r1, r2) := by first | (rw [hy170]; with_reducible exact H) | (have H2_ := (Option.bind_some _ _).symm.trans H; rw [hy170]; with_reducible exact H2_) | (have H2_ := (Option.bind_some _ _).symm.trans H; with_reducible exact H2_) | with_reducible exact H | (rw [hy170]; exact H) | exact H
      have Ny170 := Aside0.mk hy170
      clear hy170
      simp only [Option.some.injEq, Prod.mk.injEq] at H
      obtain ⟨rfl, rfl⟩ := H
      try go_wp2
      have n0_ := Aside0.mk (Kd.R_drew HO_0.out)
      have n1_ := Aside0.mk (blk_drew BK148.out)
      have n2_ := Aside0.mk (Kept.drew HK.out)
      have n3_ := Aside0.mk (below_drew1 HB.out)
      clear HO_0
      clear BK148
      clear HK
      clear HB
      have HO_0 := n0_
      have BK148 := n1_
      have HK := n2_
      have HB := n3_
      clear n0_ n1_ n2_ n3_
      obtain ⟨Ao21, co21, eo21⟩ := Kd.R_slice HO_0.out
      (first | subst eo21 | (injection eo21 with f1_ f2_ f3_; have f4_ := f1_.symm; have f5_ := f3_.symm; clear f1_ f2_ f3_; subst f4_; subst f5_))
      have p149 : 0 ≤ (x6_1 : Int) := sq_d
      have q149 : x6_1 < (l0.length : Int) := sq_d
      obtain ⟨ad149, e149, hx149_0, hx149_1, hx149_2, hx149_3⟩ := at_T42 (Kd.R_reads' HO_0.out).2.2 x6_1 p149 q149
      cases e149
      replace p149 := eq_true p149
      replace q149 := eq_true q149
      refine start_ (n := 12) (S := fun w' => w'.cell? ⟨gb148, 0, none⟩ = some (.string a1_0) ∧ w'.cell? ⟨gb148, 1, none⟩ = some (.int .i64 a1_1) ∧ w'.cell? ⟨gb148, 2, none⟩ = some (.bool a1_2) ∧ w'.cell? ⟨gb148, 3, none⟩ = some (.string a1_3) ∧ w'.cell? (ad149.add ((x6_1).toNat * 4)) = some (.string ((rd_T42 l0 x6_1).f0)) ∧ w'.cell? ⟨(ad149.add ((x6_1).toNat * 4)).block, (ad149.add ((x6_1).toNat * 4)).off + 1, none⟩ = some (.int .i64 ((rd_T42 l0 x6_1).f1)) ∧ w'.cell? ⟨(ad149.add ((x6_1).toNat * 4)).block, (ad149.add ((x6_1).toNat * 4)).off + 2, none⟩ = some (.bool ((rd_T42 l0 x6_1).f2)) ∧ w'.cell? ⟨(ad149.add ((x6_1).toNat * 4)).block, (ad149.add ((x6_1).toNat * 4)).off + 3, none⟩ = some (.string ((rd_T42 l0 x6_1).f3))) (ds := []) #[false, false, false, false, false, false, false, false, false, false, false, false] (by kernel_rfl) rfl rfl ⟨(blk_cell BK148.out 0).trans rfl, (blk_cell BK148.out 1).trans rfl, (blk_cell BK148.out 2).trans rfl, (blk_cell BK148.out 3).trans rfl, hx149_0, hx149_1, hx149_2, hx149_3⟩ (fun hHeld => ?_); refine with_tabW spec_l14Put.tab2 spec_l14Put.bits2 (fun HT_ HW_ => ?_)
      generalize wr.drew = w20 at HO_0 BK148 HK HB hx149_0 hx149_1 hx149_2 hx149_3 hHeld ⊢
      refine pu_ 0 (some 8) #[true, false, false, false, false, false, false, false, false, false, false, false] HT_ ?_
      refine pu_ 1 (some 9) #[true, true, false, false, false, false, false, false, false, false, false, false] HT_ ?_
      refine pu_ 2 (some 10) #[true, true, true, false, false, false, false, false, false, false, false, false] HT_ ?_
      refine pu_ 3 (some 11) #[true, true, true, true, false, false, false, false, false, false, false, false] HT_ ?_
      refine pu_ 4 (some 12) #[true, true, true, true, true, false, false, false, false, false, false, false] HT_ ?_
      refine pu_ 5 (some 13) #[true, true, true, true, true, true, false, false, false, false, false, false] HT_ ?_
      refine pu_ 6 (some 14) #[true, true, true, true, true, true, true, false, false, false, false, false] HT_ ?_
      refine pu_ 7 (some 15) #[true, true, true, true, true, true, true, true, false, false, false, false] HT_ ?_
      refine take_ (i := 8) (N := some 16) (v := ?_) (a' := ?_) #[true, true, true, true, true, true, true, true, true, false, false, false] rfl rfl (take_ofW HT_.out HW_.out (by kernel_rfl)) (fun _ _ _ h => h) (Or.inl ⟨by rfl, ?_⟩) hHeld ?_ ?_
      rotate_left
      ·rintro w' ⟨s0, s1, s2, s3, s4, s5, s6, s7⟩
       go_simp
       with_reducible rfl
      rotate_left
      ·simp only [Act.put, List.setIfInBounds_toArray, List.set_cons_zero, List.set_cons_succ, i64_w, i32_w]
       rfl
      refine take_ (i := 9) (N := some 17) (v := ?_) (a' := ?_) #[true, true, true, true, true, true, true, true, true, true, false, false] rfl rfl (take_ofW HT_.out HW_.out (by kernel_rfl)) (fun _ _ _ h => h) (Or.inl ⟨by rfl, ?_⟩) hHeld ?_ ?_
      rotate_left
      ·rintro w' ⟨s0, s1, s2, s3, s4, s5, s6, s7⟩
       go_simp
       with_reducible rfl
      rotate_left
      ·simp only [Act.put, List.setIfInBounds_toArray, List.set_cons_zero, List.set_cons_succ, i64_w, i32_w]
       rfl
      refine one_ (i := 10) (N := some 18) #[true, true, true, true, true, true, true, true, true, true, true, false] rfl rfl (one_of HT_.out (by kernel_rfl)) (by decide) (fun K hK => ?_)
      refine goes_ Try.func59 (by kernel_rfl) rfl #[.agg #[.string ((rd_T42 l0 x6_1).f0), .int .i64 ((rd_T42 l0 x6_1).f1), .bool ((rd_T42 l0 x6_1).f2), .string ((rd_T42 l0 x6_1).f3)], .agg #[.string a1_0, .int .i64 a1_1, .bool a1_2, .string a1_3]] (by rfl) rfl rfl (by (try simp only [List.map_toArray, List.map_cons, List.map_nil]); first | done | rfl | (simp only [List.length_drop, List.length_take]; rfl)) ?_
      with_reducible refine (spec_l14Less.calls ((rd_T42 l0 x6_1).f0) ((rd_T42 l0 x6_1).f1) ((rd_T42 l0 x6_1).f2) ((rd_T42 l0 x6_1).f3) a1_0 a1_1 a1_2 a1_3 false _ A6.out).mono ?_
      rintro e w22 ⟨rfl, hb⟩
      have HS4_ := (hb.cell (World.block_lt_of_cell? _ _ (hHeld.2.2.2.2.1))).trans (hHeld.2.2.2.2.1)
      have HS5_ := (hb.cell (World.block_lt_of_cell? _ _ (hHeld.2.2.2.2.2.1))).trans (hHeld.2.2.2.2.2.1)
      have HS6_ := (hb.cell (World.block_lt_of_cell? _ _ (hHeld.2.2.2.2.2.2.1))).trans (hHeld.2.2.2.2.2.2.1)
      have HS7_ := (hb.cell (World.block_lt_of_cell? _ _ (hHeld.2.2.2.2.2.2.2))).trans (hHeld.2.2.2.2.2.2.2)
      refine ⟨_, rfl, ?_⟩
      have n0_ := Aside0.mk (Kd.R_below (sq_r HO_0) hb)
      have n1_ := Aside0.mk (blk_below (g := gb148) (o := .cells #[.string a1_0, .int .i64 a1_1, .bool a1_2, .string a1_3] 42 (0, 0)) (sq_l BK148) hb)
      have n2_ := Aside0.mk (Kept.below (S := (fun k_ => P0_ k_)) (by repeat (first | (with_reducible first | exact HK.out | apply Kept.alloc | apply Kept.drewN | apply Kept.drew | refine Kept.setCell ?_ (.inr GW148.out) _) | exact HK.out)) hb)
      have n3_ := Aside0.mk (below_step (by repeat (first | (with_reducible first | exact HB.out | apply below_alloc | apply pw_below_drewN | apply below_drew1 | refine below_set ?_ GE148.out) | exact HB.out)) hb)
      clear HO_0
      clear BK148
      clear HK
      clear HB
      have HO_0 := n0_
      have BK148 := n1_
      have HK := n2_
      have HB := n3_
      clear n0_ n1_ n2_ n3_
      (try clear hb)
      (try clear hb2)
      (try clear hk)
      (try clear hi)
      refine hK.out _ _ ⟨(blk_cell BK148.out 0).trans rfl, (blk_cell BK148.out 1).trans rfl, (blk_cell BK148.out 2).trans rfl, (blk_cell BK148.out 3).trans rfl, HS4_, HS5_, HS6_, HS7_⟩ (fun hHeld => ?_)
      clear hK K
      refine norm_ (a' := ?_) ?_ ?_
      rotate_left
      ·show Act.put _ (some 18) _ = _
       simp only [Act.put, List.setIfInBounds_toArray, List.set_cons_zero, List.set_cons_succ, i64_w, i32_w]
       rfl
      refine pu_ 11 (some 19) #[true, true, true, true, true, true, true, true, true, true, true, true] HT_ ?_
      refine done_ (done_of HT_.out (by kernel_rfl)) ?_
      try go_wp2
      have n0_ := Aside0.mk (Kd.R_drew HO_0.out)
      have n1_ := Aside0.mk (blk_drew BK148.out)
      have n2_ := Aside0.mk (Kept.drew HK.out)
      have n3_ := Aside0.mk (below_drew1 HB.out)
      clear HO_0
      clear BK148
      clear HK
      clear HB
      have HO_0 := n0_
      have BK148 := n1_
      have HK := n2_
      have HB := n3_
      clear n0_ n1_ n2_ n3_
      have p151 : 0 ≤ (x6_1 : Int) := sq_d
      have q151 : x6_1 < (l0.length : Int) := sq_d
      obtain ⟨ad151, e151, hx151_0, hx151_1, hx151_2, hx151_3⟩ := at_T42 (Kd.R_reads' HO_0.out).2.2 x6_1 p151 q151
      obtain rfl : ad149 = ad151 := (by injection e151)
      replace p151 := eq_true p151
      replace q151 := eq_true q151
      refine start_ (n := 13) (S := fun w' => w'.cell? ⟨gb148, 0, none⟩ = some (.string a1_0) ∧ w'.cell? ⟨gb148, 1, none⟩ = some (.int .i64 a1_1) ∧ w'.cell? ⟨gb148, 2, none⟩ = some (.bool a1_2) ∧ w'.cell? ⟨gb148, 3, none⟩ = some (.string a1_3) ∧ w'.cell? (ad149.add ((x6_1).toNat * 4)) = some (.string ((rd_T42 l0 x6_1).f0)) ∧ w'.cell? ⟨(ad149.add ((x6_1).toNat * 4)).block, (ad149.add ((x6_1).toNat * 4)).off + 1, none⟩ = some (.int .i64 ((rd_T42 l0 x6_1).f1)) ∧ w'.cell? ⟨(ad149.add ((x6_1).toNat * 4)).block, (ad149.add ((x6_1).toNat * 4)).off + 2, none⟩ = some (.bool ((rd_T42 l0 x6_1).f2)) ∧ w'.cell? ⟨(ad149.add ((x6_1).toNat * 4)).block, (ad149.add ((x6_1).toNat * 4)).off + 3, none⟩ = some (.string ((rd_T42 l0 x6_1).f3))) (ds := []) #[false, false, false, false, false, false, false, false, false, false, false, false, false] (by kernel_rfl) rfl rfl ⟨(blk_cell BK148.out 0).trans rfl, (blk_cell BK148.out 1).trans rfl, (blk_cell BK148.out 2).trans rfl, (blk_cell BK148.out 3).trans rfl, hx151_0, hx151_1, hx151_2, hx151_3⟩ (fun hHeld => ?_); refine with_tabW spec_l14Put.tab4 spec_l14Put.bits4 (fun HT_ HW_ => ?_)
      generalize w22.drew = w23 at HO_0 BK148 HK HB hx151_0 hx151_1 hx151_2 hx151_3 hHeld ⊢
      refine pu_ 0 (some 22) #[true, false, false, false, false, false, false, false, false, false, false, false, false] HT_ ?_
      refine pu_ 1 (some 23) #[true, true, false, false, false, false, false, false, false, false, false, false, false] HT_ ?_
      refine pu_ 2 (some 24) #[true, true, true, false, false, false, false, false, false, false, false, false, false] HT_ ?_
      refine pu_ 3 (some 25) #[true, true, true, true, false, false, false, false, false, false, false, false, false] HT_ ?_
      refine pu_ 4 (some 26) #[true, true, true, true, true, false, false, false, false, false, false, false, false] HT_ ?_
      refine pu_ 6 (some 28) #[true, true, true, true, true, false, true, false, false, false, false, false, false] HT_ ?_
      refine pu_ 7 (some 29) #[true, true, true, true, true, false, true, true, false, false, false, false, false] HT_ ?_
      refine pu_ 8 (some 30) #[true, true, true, true, true, false, true, true, true, false, false, false, false] HT_ ?_
      refine take_ (i := 5) (N := some 27) (v := ?_) (a' := ?_) #[true, true, true, true, true, true, true, true, true, false, false, false, false] rfl rfl (take_ofW HT_.out HW_.out (by kernel_rfl)) (fun _ _ _ h => h) (Or.inl ⟨by rfl, ?_⟩) hHeld ?_ ?_
      rotate_left
      ·rintro w' ⟨s0, s1, s2, s3, s4, s5, s6, s7⟩
       go_simp
       with_reducible rfl
      rotate_left
      ·simp only [Act.put, List.setIfInBounds_toArray, List.set_cons_zero, List.set_cons_succ, i64_w, i32_w]
       rfl
      refine take_ (i := 9) (N := some 31) (v := ?_) (a' := ?_) #[true, true, true, true, true, true, true, true, true, true, false, false, false] rfl rfl (take_ofW HT_.out HW_.out (by kernel_rfl)) (fun _ _ _ h => h) (Or.inl ⟨by rfl, ?_⟩) hHeld ?_ ?_
      rotate_left
      ·rintro w' ⟨s0, s1, s2, s3, s4, s5, s6, s7⟩
       go_simp
       with_reducible rfl
      rotate_left
      ·simp only [Act.put, List.setIfInBounds_toArray, List.set_cons_zero, List.set_cons_succ, i64_w, i32_w]
       rfl
      refine one_ (i := 10) (N := some 32) #[true, true, true, true, true, true, true, true, true, true, true, false, false] rfl rfl (one_of HT_.out (by kernel_rfl)) (by decide) (fun K hK => ?_)
      refine goes_ Try.func59 (by kernel_rfl) rfl #[.agg #[.string a1_0, .int .i64 a1_1, .bool a1_2, .string a1_3], .agg #[.string ((rd_T42 l0 x6_1).f0), .int .i64 ((rd_T42 l0 x6_1).f1), .bool ((rd_T42 l0 x6_1).f2), .string ((rd_T42 l0 x6_1).f3)]] (by rfl) rfl rfl (by (try simp only [List.map_toArray, List.map_cons, List.map_nil]); first | done | rfl | (simp only [List.length_drop, List.length_take]; rfl)) ?_
      with_reducible refine (spec_l14Less.calls a1_0 a1_1 a1_2 a1_3 ((rd_T42 l0 x6_1).f0) ((rd_T42 l0 x6_1).f1) ((rd_T42 l0 x6_1).f2) ((rd_T42 l0 x6_1).f3) true _ A11.out).mono ?_
      rintro e w24 ⟨rfl, hb⟩
      have HS4_ := (hb.cell (World.block_lt_of_cell? _ _ (hHeld.2.2.2.2.1))).trans (hHeld.2.2.2.2.1)
      have HS5_ := (hb.cell (World.block_lt_of_cell? _ _ (hHeld.2.2.2.2.2.1))).trans (hHeld.2.2.2.2.2.1)
      have HS6_ := (hb.cell (World.block_lt_of_cell? _ _ (hHeld.2.2.2.2.2.2.1))).trans (hHeld.2.2.2.2.2.2.1)
      have HS7_ := (hb.cell (World.block_lt_of_cell? _ _ (hHeld.2.2.2.2.2.2.2))).trans (hHeld.2.2.2.2.2.2.2)
      refine ⟨_, rfl, ?_⟩
      have n0_ := Aside0.mk (Kd.R_below (sq_r HO_0) hb)
      have n1_ := Aside0.mk (blk_below (g := gb148) (o := .cells #[.string a1_0, .int .i64 a1_1, .bool a1_2, .string a1_3] 42 (0, 0)) (sq_l BK148) hb)
      have n2_ := Aside0.mk (Kept.below (S := (fun k_ => P0_ k_)) (by repeat (first | (with_reducible first | exact HK.out | apply Kept.alloc | apply Kept.drewN | apply Kept.drew | refine Kept.setCell ?_ (.inr GW148.out) _) | exact HK.out)) hb)
      have n3_ := Aside0.mk (below_step (by repeat (first | (with_reducible first | exact HB.out | apply below_alloc | apply pw_below_drewN | apply below_drew1 | refine below_set ?_ GE148.out) | exact HB.out)) hb)
      clear HO_0
      clear BK148
      clear HK
      clear HB
      have HO_0 := n0_
      have BK148 := n1_
      have HK := n2_
      have HB := n3_
      clear n0_ n1_ n2_ n3_
      (try clear hb)
      (try clear hb2)
      (try clear hk)
      (try clear hi)
      refine hK.out _ _ ⟨(blk_cell BK148.out 0).trans rfl, (blk_cell BK148.out 1).trans rfl, (blk_cell BK148.out 2).trans rfl, (blk_cell BK148.out 3).trans rfl, HS4_, HS5_, HS6_, HS7_⟩ (fun hHeld => ?_)
      clear hK K
      refine norm_ (a' := ?_) ?_ ?_
      rotate_left
      ·show Act.put _ (some 32) _ = _
       simp only [Act.put, List.setIfInBounds_toArray, List.set_cons_zero, List.set_cons_succ, i64_w, i32_w]
       rfl
      refine pu_ 11 (some 33) #[true, true, true, true, true, true, true, true, true, true, true, true, false] HT_ ?_
      refine pu_ 12 (some 34) #[true, true, true, true, true, true, true, true, true, true, true, true, true] HT_ ?_
      refine done_ (done_of HT_.out (by kernel_rfl)) ?_
      try go_wp2_with (first | ((with_reducible refine gate_dst (N := 42) rfl ?_); refine Kd.R_lit k42 _ 42 ?hg (N := 42) ?hd (xs := ([] : List (S42))) (inner := []) (ok := fun _ => True) (okp := fun _ => True) ?hr ?hp (fun _ hk => hk) trivial (Below.refl _ _) (Nat.le_refl _) (by simp) ?_; (case hd => rfl); (case hg => rfl); (case hr => first | (go_simp; done) | (go_simp; rfl)); (case hp => exact (Reps.none _ _)); intro v154 w25 ho26 hb hg_ hnew_; clear hg_ hnew_; (first | rw [← Ny153.out] at ho26 | (simp only [Int.reduceToNat] at ho26; rw [← Ny153.out] at ho26)); have n0_ := Aside0.mk (Kd.R_elder' (sq_r HO_0) (Kd.R_base ho26) hb); have n1_ := Aside0.mk (Kd.R_lower (Kd.R_newB (Kd.R_new' (Kd.R_newM (M := fun k_ => (P0_ k_ ∨ w.heap.size ≤ k_)) ho26 (by first | exact HK.out.1 | exact (show Kept w _ (fun k_ => P0_ k_) from by repeat (first | (with_reducible first | exact HK.out | apply Kept.alloc | apply Kept.drewN | apply Kept.drew | refine Kept.setCell ?_ (.inr GW148.out) _) | exact HK.out)).1) (fun k_ h_ => .inr h_)) (Kd.R_lt (sq_r HO_0))) (g := gb148) (o := .cells #[.string a1_0, .int .i64 a1_1, .bool a1_2, .string a1_3] 42 (0, 0)) (sq_l BK148)) (below_size (by repeat (first | (with_reducible first | exact HB.out | apply below_alloc | apply pw_below_drewN | apply below_drew1 | refine below_set ?_ GE148.out) | exact HB.out)))); have n2_ := Aside0.mk (blk_below (g := gb148) (o := .cells #[.string a1_0, .int .i64 a1_1, .bool a1_2, .string a1_3] 42 (0, 0)) (sq_l BK148) hb); have n3_ := Aside0.mk (Kept.below (S := (fun k_ => P0_ k_)) (by repeat (first | (with_reducible first | exact HK.out | apply Kept.alloc | apply Kept.drewN | apply Kept.drew | refine Kept.setCell ?_ (.inr GW148.out) _) | exact HK.out)) hb); have n4_ := Aside0.mk (below_step (by repeat (first | (with_reducible first | exact HB.out | apply below_alloc | apply pw_below_drewN | apply below_drew1 | refine below_set ?_ GE148.out) | exact HB.out)) hb); clear HO_0; clear BK148; clear HK; clear HB; have HO_0 := n0_; have HO155 := n1_; have BK148 := n2_; have HK := n3_; have HB := n4_; clear n0_ n1_ n2_ n3_ n4_; clear hb ho26; have q27 : (x6_1 : Int) ≤ ((l0.length : Int) : Int) := sq_d; obtain ⟨i027, hi027, _, hsz27, _⟩ := info_parts info42; have hroom27 : l0.length ≤ co21 := (Kd.R_reads' HO_0.out).2.1; have hC27 : Kd.C k42 _ (some ad149) l0.length l0 := (Kd.R_reads' HO_0.out).2.2; have hcut27 := cut_to (P := Try.prog) 24 42 .i64 Try.underlying24 hi027 (some ad149) l0.length co21 x6_1 (sq_d) q27 hroom27; have hr27 := Kd.C_take (m := (x6_1 : Int).toNat) hC27 (by omega); have hy27 : y156.length = (x6_1 : Int).toNat := (by rw [Ny156.out, List.length_take]; omega); rw [← Ny156.out] at hr27; rw [← hy27] at hcut27; have HR159 := Aside0.mk hr27; have HC159 := Aside0.mk (show y156.length ≤ co21 from by omega); clear hr27 hC27 hroom27 hi027 hsz27; have KY27 := Aside0.mk hy27; clear hy27; have KL27 := Aside0.mk (show (x6_1 : Int).toNat ≤ l0.length from by omega); replace q27 := eq_true q27) | ((with_reducible refine gate_builtin (b := .append) (xs := #[.tmp 42, .tmp 45]) rfl ?_); at_builtin; refine Kd.R_append_rows k42 (w0 := w0) w0.heap.size rfl (.tmp 42) (.tmp 45) 24 42 (.agg #[(.string ⟨#[]⟩), (.int .i64 0), (.bool false), (.string ⟨#[]⟩)]) 48 rfl Try.underlying24 info42 rfl (by decide) (by omega) v154 y153 y156 _ _ _ (fun k_ => (P0_ k_ ∨ w.heap.size ≤ k_) ∧ some k_ ≠ (.slice (some ad149) l0.length co21 : Value).ownBlock ∧ k_ ≠ gb148) (fun _ => False) rfl rfl ?aO ?aR (fun _ _ h => h) (fun _ h => h.elim) ?aF ?aB ?aS ?aL ?_; (case aR => repeat (first | exact (by repeat (first | (with_reducible exact HR159.out) | (with_reducible refine Kd.C_alloc ?_ _) | (with_reducible refine Kd.C_drewN ?_ _) | (with_reducible refine Kd.C_drew ?_) | exact HR159.out)) | (with_reducible refine Kd.C_alloc ?_ _) | (with_reducible refine Kd.C_drewN ?_ _) | (with_reducible refine Kd.C_drew ?_))); (case aB => exact (by repeat (first | (with_reducible first | exact HB.out | apply below_alloc | apply pw_below_drewN | apply below_drew1 | refine below_set ?_ GE148.out) | exact HB.out))); (case aF => exact (fun k_ hk => ⟨(.inr (Nat.le_trans (by first | exact HK.out.1 | exact (show Kept w _ (fun k_ => P0_ k_) from by repeat (first | (with_reducible first | exact HK.out | apply Kept.alloc | apply Kept.drewN | apply Kept.drew | refine Kept.setCell ?_ (.inr GW148.out) _) | exact HK.out)).1) hk)), Kd.fresh' (Kd.R_lt (sq_r HO_0)) k_ hk, Kd.freshB (g := gb148) (o := .cells #[.string a1_0, .int .i64 a1_1, .bool a1_2, .string a1_3] 42 (0, 0)) (sq_l BK148) k_ hk⟩)); (case aO => exact (by (with_reducible repeat (first | apply Kd.R_alloc | apply Kd.R_drewN | apply Kd.R_drew)); exact Kd.R_mono HO155.out (fun _ hk => ⟨hk.1.1.1, ⟨hk.1.2, hk.2⟩⟩))); (case aS => exact (below_size (by repeat (first | (with_reducible first | exact HB.out | apply below_alloc | apply pw_below_drewN | apply below_drew1 | refine below_set ?_ GE148.out) | exact HB.out)))); (case aL => have := LMc15.out; omega); intro v161 w28 ho hb hg hat; rw [← Ny160.out] at ho; have n0_ := Aside0.mk (Kd.R_after (ok := (fun k_ => (P0_ k_ ∨ w.heap.size ≤ k_) ∧ k_ ≠ gb148)) (sq_r HO_0) hg hat); have n1_ := Aside0.mk (blk_grown (g := gb148) (o := .cells #[.string a1_0, .int .i64 a1_1, .bool a1_2, .string a1_3] 42 (0, 0)) (sq_l BK148) hg (Kd.R_away HO155.out (fun _ hk => hk.2))); have n2_ := Aside0.mk (hb); have n3_ := Aside0.mk (Kept.of_grown (S := (fun k_ => P0_ k_)) hg (by repeat (first | (with_reducible first | exact HK.out | apply Kept.alloc | apply Kept.drewN | apply Kept.drew | refine Kept.setCell ?_ (.inr GW148.out) _) | exact HK.out)) (fun k_ e_ => (HO155.out.1 k_ e_).1.1.1)); have n4_ := Aside0.mk ((show Kd.C k42 w28 (some ad149) y156.length y156 from by rw [Ny156.out]; exact Kd.C_take (m := (x6_1 : Int).toNat) ((Kd.R_reads' (Kd.R_after (ok := (fun k_ => (P0_ k_ ∨ w.heap.size ≤ k_) ∧ k_ ≠ gb148)) (sq_r HO_0) hg hat)).2.2) KL27.out)); have n5_ := Aside0.mk (ho); clear HO_0; clear BK148; clear HB; clear HK; clear HR159; clear HO155; have HO_0 := n0_; have BK148 := n1_; have HB := n2_; have HK := n3_; have HR159 := n4_; have HO162 := n5_; clear n0_ n1_ n2_ n3_ n4_ n5_; clear ho hb hg hat; have hcz29_0 : w28.cell? ⟨gb148, 0, none⟩ = some (.string a1_0) := (blk_cell BK148.out 0).trans rfl; have hcz29_1 : w28.cell? ⟨gb148, 1, none⟩ = some (.int .i64 a1_1) := (blk_cell BK148.out 1).trans rfl; have hcz29_2 : w28.cell? ⟨gb148, 2, none⟩ = some (.bool a1_2) := (blk_cell BK148.out 2).trans rfl; have hcz29_3 : w28.cell? ⟨gb148, 3, none⟩ = some (.string a1_3) := (blk_cell BK148.out 3).trans rfl; have hfz29_0 := blk_frozen BK148.out 0; have hfz29_1 := blk_frozen BK148.out 1; have hfz29_2 := blk_frozen BK148.out 2; have hfz29_3 := blk_frozen BK148.out 3) | ((with_reducible refine gate_builtin (b := .append) (xs := #[.tmp 47, .tmp 49]) rfl ?_); at_builtin; refine Kd.R_append k42 (w0 := w0) w0.heap.size rfl (.tmp 47) (.tmp 49) 24 42 (.agg #[(.string ⟨#[]⟩), (.int .i64 0), (.bool false), (.string ⟨#[]⟩)]) 48 rfl Try.underlying24 info42 rfl (by decide) (by omega) v161 y160 (⟨a1_0, a1_1, a1_2, a1_3⟩ : S42) [.string a1_0, .int .i64 a1_1, .bool a1_2, .string a1_3] (fun k_ => (P0_ k_ ∨ w.heap.size ≤ k_) ∧ some k_ ≠ (.slice (some ad149) l0.length co21 : Value).ownBlock ∧ k_ ≠ gb148) (fun _ => False) rfl rfl ?aP (fun _ hk => hk.elim) ?aF ?aO ?aB ?aS ?aL ?_; (case aP => exact k42_mkM _ _ _ (⟨a1_0, a1_1, a1_2, a1_3⟩ : S42)); (case aB => exact (by repeat (first | (with_reducible first | exact HB.out | apply below_alloc | apply pw_below_drewN | apply below_drew1 | refine below_set ?_ GE148.out) | exact HB.out))); (case aF => exact (fun k_ hk => ⟨(.inr (Nat.le_trans (by first | exact HK.out.1 | exact (show Kept w _ (fun k_ => P0_ k_) from by repeat (first | (with_reducible first | exact HK.out | apply Kept.alloc | apply Kept.drewN | apply Kept.drew | refine Kept.setCell ?_ (.inr GW148.out) _) | exact HK.out)).1) hk)), Kd.fresh' (Kd.R_lt (sq_r HO_0)) k_ hk, Kd.freshB (g := gb148) (o := .cells #[.string a1_0, .int .i64 a1_1, .bool a1_2, .string a1_3] 42 (0, 0)) (sq_l BK148) k_ hk⟩)); (case aO => exact (sq_r HO162)); (case aS => exact (below_size (by repeat (first | (with_reducible first | exact HB.out | apply below_alloc | apply pw_below_drewN | apply below_drew1 | refine below_set ?_ GE148.out) | exact HB.out)))); (case aL => have := LMc16.out; omega); intro v164 w30 ho hb hg hat; rw [← Ny163.out] at ho; have n0_ := Aside0.mk (Kd.R_after (ok := (fun k_ => (P0_ k_ ∨ w.heap.size ≤ k_) ∧ k_ ≠ gb148)) (sq_r HO_0) hg hat); have n1_ := Aside0.mk (blk_grown (g := gb148) (o := .cells #[.string a1_0, .int .i64 a1_1, .bool a1_2, .string a1_3] 42 (0, 0)) (sq_l BK148) hg (Kd.R_away HO162.out (fun _ hk => hk.2.2))); have n2_ := Aside0.mk (hb); have n3_ := Aside0.mk (Kept.of_grown (S := (fun k_ => P0_ k_)) hg (by repeat (first | (with_reducible first | exact HK.out | apply Kept.alloc | apply Kept.drewN | apply Kept.drew | refine Kept.setCell ?_ (.inr GW148.out) _) | exact HK.out)) (fun k_ e_ => (HO162.out.1 k_ e_).1)); have n4_ := Aside0.mk ((show Kd.C k42 w30 (some ad149) y156.length y156 from by rw [Ny156.out]; exact Kd.C_take (m := (x6_1 : Int).toNat) ((Kd.R_reads' (Kd.R_after (ok := (fun k_ => (P0_ k_ ∨ w.heap.size ≤ k_) ∧ k_ ≠ gb148)) (sq_r HO_0) hg hat)).2.2) KL27.out)); have n5_ := Aside0.mk (ho); clear HO_0; clear BK148; clear HB; clear HK; clear HR159; clear HO162; have HO_0 := n0_; have BK148 := n1_; have HB := n2_; have HK := n3_; have HR159 := n4_; have HO165 := n5_; clear n0_ n1_ n2_ n3_ n4_ n5_; clear ho hb hg hat; have q31 : (x6_1 : Int) ≤ ((l0.length : Int) : Int) := sq_d; obtain ⟨i031, hi031, _, hsz31, _⟩ := info_parts info42; have hroom31 : l0.length ≤ co21 := (Kd.R_reads' HO_0.out).2.1; have hC31 : Kd.C k42 _ (some ad149) l0.length l0 := (Kd.R_reads' HO_0.out).2.2; have q031 : (0 : Int) ≤ (x6_1 : Int) := sq_d; have hcut31 := cut_from (P := Try.prog) 24 42 .i64 Try.underlying24 hi031 4 hsz31 (some ad149) l0.length co21 x6_1 q031 q31; have hr31 := Kd.C_drop (m := (x6_1 : Int).toNat) (c := co21) hC31 (by omega) hroom31; obtain ⟨A31, hA31⟩ : ∃ A1, A1 = (if co21 = (x6_1 : Int).toNat then (some ad149) else ((some ad149) : Option Addr).map (·.add ((x6_1 : Int).toNat * 4))) := ⟨_, rfl⟩; obtain ⟨c31, hc31⟩ : ∃ c1, c1 = co21 - (x6_1 : Int).toNat := ⟨_, rfl⟩; have hy31 : y166.length = l0.length - (x6_1 : Int).toNat := (by rw [Ny166.out, List.length_drop] <;> omega); rw [show (l0).drop (x6_1 : Int).toNat = y166 from Ny166.out.symm] at hr31; replace hr31 : Kd.C k42 _ A31 y166.length y166 := (by rw [hA31]; exact hr31); rw [← hy31, ← hA31, ← hc31] at hcut31; have HR169 := Aside0.mk hr31; have HC169 := Aside0.mk (show y166.length ≤ c31 from by rw [hy31, hc31]; exact Nat.sub_le_sub_right hroom31 _); clear hr31 hC31 hroom31 hi031 hsz31 hc31; have KY31 := Aside0.mk hy31; have KA31 := Aside0.mk hA31; clear hy31 hA31; have KL31 := Aside0.mk (show (x6_1 : Int).toNat ≤ l0.length from by omega); replace q31 := eq_true q31) | ((with_reducible refine gate_builtin (b := .append) (xs := #[.tmp 51, .tmp 54]) rfl ?_); at_builtin; refine Kd.R_append_rows k42 (w0 := w0) w0.heap.size rfl (.tmp 51) (.tmp 54) 24 42 (.agg #[(.string ⟨#[]⟩), (.int .i64 0), (.bool false), (.string ⟨#[]⟩)]) 48 rfl Try.underlying24 info42 rfl (by decide) (by omega) v164 y163 y166 _ _ _ (fun k_ => (P0_ k_ ∨ w.heap.size ≤ k_) ∧ some k_ ≠ (.slice (some ad149) l0.length co21 : Value).ownBlock ∧ k_ ≠ gb148) (fun _ => False) rfl rfl ?aO ?aR (fun _ _ h => h) (fun _ h => h.elim) ?aF ?aB ?aS ?aL ?_; (case aR => repeat (first | exact (by repeat (first | (with_reducible exact HR169.out) | (with_reducible refine Kd.C_alloc ?_ _) | (with_reducible refine Kd.C_drewN ?_ _) | (with_reducible refine Kd.C_drew ?_) | exact HR169.out)) | (with_reducible refine Kd.C_alloc ?_ _) | (with_reducible refine Kd.C_drewN ?_ _) | (with_reducible refine Kd.C_drew ?_))); (case aB => exact (by repeat (first | (with_reducible first | exact HB.out | apply below_alloc | apply pw_below_drewN | apply below_drew1 | refine below_set ?_ GE148.out) | exact HB.out))); (case aF => exact (fun k_ hk => ⟨(.inr (Nat.le_trans (by first | exact HK.out.1 | exact (show Kept w _ (fun k_ => P0_ k_) from by repeat (first | (with_reducible first | exact HK.out | apply Kept.alloc | apply Kept.drewN | apply Kept.drew | refine Kept.setCell ?_ (.inr GW148.out) _) | exact HK.out)).1) hk)), Kd.fresh' (Kd.R_lt (sq_r HO_0)) k_ hk, Kd.freshB (g := gb148) (o := .cells #[.string a1_0, .int .i64 a1_1, .bool a1_2, .string a1_3] 42 (0, 0)) (sq_l BK148) k_ hk⟩)); (case aO => exact (sq_r HO165)); (case aS => exact (below_size (by repeat (first | (with_reducible first | exact HB.out | apply below_alloc | apply pw_below_drewN | apply below_drew1 | refine below_set ?_ GE148.out) | exact HB.out)))); (case aL => have := LMc19.out; omega); intro v171 w32 ho hb hg hat; rw [← Ny170.out] at ho; have n0_ := Aside0.mk (Kd.R_after (ok := (fun k_ => (P0_ k_ ∨ w.heap.size ≤ k_) ∧ k_ ≠ gb148)) (sq_r HO_0) hg hat); have n1_ := Aside0.mk (blk_grown (g := gb148) (o := .cells #[.string a1_0, .int .i64 a1_1, .bool a1_2, .string a1_3] 42 (0, 0)) (sq_l BK148) hg (Kd.R_away HO165.out (fun _ hk => hk.2.2))); have n2_ := Aside0.mk (hb); have n3_ := Aside0.mk (Kept.of_grown (S := (fun k_ => P0_ k_)) hg (by repeat (first | (with_reducible first | exact HK.out | apply Kept.alloc | apply Kept.drewN | apply Kept.drew | refine Kept.setCell ?_ (.inr GW148.out) _) | exact HK.out)) (fun k_ e_ => (HO165.out.1 k_ e_).1)); have n4_ := Aside0.mk ((show Kd.C k42 w32 (some ad149) y156.length y156 from by rw [Ny156.out]; exact Kd.C_take (m := (x6_1 : Int).toNat) ((Kd.R_reads' (Kd.R_after (ok := (fun k_ => (P0_ k_ ∨ w.heap.size ≤ k_) ∧ k_ ≠ gb148)) (sq_r HO_0) hg hat)).2.2) KL27.out)); have n5_ := Aside0.mk ((show Kd.C k42 w32 A31 y166.length y166 from by rw [Ny166.out, KA31.out]; exact Kd.C_drop (m := (x6_1 : Int).toNat) (c := co21) ((Kd.R_reads' (Kd.R_after (ok := (fun k_ => (P0_ k_ ∨ w.heap.size ≤ k_) ∧ k_ ≠ gb148)) (sq_r HO_0) hg hat)).2.2) KL31.out ((Kd.R_reads' (Kd.R_after (ok := (fun k_ => (P0_ k_ ∨ w.heap.size ≤ k_) ∧ k_ ≠ gb148)) (sq_r HO_0) hg hat)).2.1))); have n6_ := Aside0.mk (ho); clear HO_0; clear BK148; clear HB; clear HK; clear HR159; clear HR169; clear HO165; have HO_0 := n0_; have BK148 := n1_; have HB := n2_; have HK := n3_; have HR159 := n4_; have HR169 := n5_; have HO172 := n6_; clear n0_ n1_ n2_ n3_ n4_ n5_ n6_; clear ho hb hg hat))
      go_ret2
      exact ⟨_, sq_w, by (with_reducible repeat (first | apply Kd.R_alloc | apply Kd.R_drewN | apply Kd.R_drew)); exact Kd.R_mono HO172.out (fun _ hk => hk.1), by repeat (first | (with_reducible first | exact HB.out | apply below_alloc | apply pw_below_drewN | apply below_drew1 | refine below_set ?_ GE148.out) | exact HB.out), by repeat (first | (with_reducible first | exact HK.out | apply Kept.alloc | apply Kept.drewN | apply Kept.drew | refine Kept.setCell ?_ (.inr GW148.out) _) | exact HK.out)⟩
     ·replace c12 := Bool.eq_false_iff.mpr c12
      subst c12
      have H1 : (some (l0, ((((rd_T42 l0 x6_1).f0).toList) == a1_0.toList && (((rd_T42 l0 x6_1).f1) == a1_1 && (((rd_T42 l0 x6_1).f2) == a1_2 && ((((rd_T42 l0 x6_1).f3).toList) == a1_3.toList)))))) = some (r1, r2) := by rw [if_neg (show ¬ (false = true) by decide)] at H; exact H
      clear H
      have H := H1
      clear H1
      simp only [Option.some.injEq, Prod.mk.injEq] at H
      obtain ⟨rfl, rfl⟩ := H
      try go_wp2
      have n0_ := Aside0.mk (Kd.R_drew HO_0.out)
      have n1_ := Aside0.mk (blk_drew BK148.out)
      have n2_ := Aside0.mk (Kept.drew HK.out)
      have n3_ := Aside0.mk (below_drew1 HB.out)
      clear HO_0
      clear BK148
      clear HK
      clear HB
      have HO_0 := n0_
      have BK148 := n1_
      have HK := n2_
      have HB := n3_
      clear n0_ n1_ n2_ n3_
      obtain ⟨Ao34, co34, eo34⟩ := Kd.R_slice HO_0.out
      (first | subst eo34 | (injection eo34 with f1_ f2_ f3_; have f4_ := f1_.symm; have f5_ := f3_.symm; clear f1_ f2_ f3_; subst f4_; subst f5_))
      have p149 : 0 ≤ (x6_1 : Int) := sq_d
      have q149 : x6_1 < (l0.length : Int) := sq_d
      obtain ⟨ad149, e149, hx149_0, hx149_1, hx149_2, hx149_3⟩ := at_T42 (Kd.R_reads' HO_0.out).2.2 x6_1 p149 q149
      cases e149
      replace p149 := eq_true p149
      replace q149 := eq_true q149
      refine start_ (n := 12) (S := fun w' => w'.cell? ⟨gb148, 0, none⟩ = some (.string a1_0) ∧ w'.cell? ⟨gb148, 1, none⟩ = some (.int .i64 a1_1) ∧ w'.cell? ⟨gb148, 2, none⟩ = some (.bool a1_2) ∧ w'.cell? ⟨gb148, 3, none⟩ = some (.string a1_3) ∧ w'.cell? (ad149.add ((x6_1).toNat * 4)) = some (.string ((rd_T42 l0 x6_1).f0)) ∧ w'.cell? ⟨(ad149.add ((x6_1).toNat * 4)).block, (ad149.add ((x6_1).toNat * 4)).off + 1, none⟩ = some (.int .i64 ((rd_T42 l0 x6_1).f1)) ∧ w'.cell? ⟨(ad149.add ((x6_1).toNat * 4)).block, (ad149.add ((x6_1).toNat * 4)).off + 2, none⟩ = some (.bool ((rd_T42 l0 x6_1).f2)) ∧ w'.cell? ⟨(ad149.add ((x6_1).toNat * 4)).block, (ad149.add ((x6_1).toNat * 4)).off + 3, none⟩ = some (.string ((rd_T42 l0 x6_1).f3))) (ds := []) #[false, false, false, false, false, false, false, false, false, false, false, false] (by kernel_rfl) rfl rfl ⟨(blk_cell BK148.out 0).trans rfl, (blk_cell BK148.out 1).trans rfl, (blk_cell BK148.out 2).trans rfl, (blk_cell BK148.out 3).trans rfl, hx149_0, hx149_1, hx149_2, hx149_3⟩ (fun hHeld => ?_); refine with_tabW spec_l14Put.tab2 spec_l14Put.bits2 (fun HT_ HW_ => ?_)
      generalize wr.drew = w33 at HO_0 BK148 HK HB hx149_0 hx149_1 hx149_2 hx149_3 hHeld ⊢
      refine pu_ 0 (some 8) #[true, false, false, false, false, false, false, false, false, false, false, false] HT_ ?_
      refine pu_ 1 (some 9) #[true, true, false, false, false, false, false, false, false, false, false, false] HT_ ?_
      refine pu_ 2 (some 10) #[true, true, true, false, false, false, false, false, false, false, false, false] HT_ ?_
      refine pu_ 3 (some 11) #[true, true, true, true, false, false, false, false, false, false, false, false] HT_ ?_
      refine pu_ 4 (some 12) #[true, true, true, true, true, false, false, false, false, false, false, false] HT_ ?_
      refine pu_ 5 (some 13) #[true, true, true, true, true, true, false, false, false, false, false, false] HT_ ?_
      refine pu_ 6 (some 14) #[true, true, true, true, true, true, true, false, false, false, false, false] HT_ ?_
      refine pu_ 7 (some 15) #[true, true, true, true, true, true, true, true, false, false, false, false] HT_ ?_
      refine take_ (i := 8) (N := some 16) (v := ?_) (a' := ?_) #[true, true, true, true, true, true, true, true, true, false, false, false] rfl rfl (take_ofW HT_.out HW_.out (by kernel_rfl)) (fun _ _ _ h => h) (Or.inl ⟨by rfl, ?_⟩) hHeld ?_ ?_
      rotate_left
      ·rintro w' ⟨s0, s1, s2, s3, s4, s5, s6, s7⟩
       go_simp
       with_reducible rfl
      rotate_left
      ·simp only [Act.put, List.setIfInBounds_toArray, List.set_cons_zero, List.set_cons_succ, i64_w, i32_w]
       rfl
      refine take_ (i := 9) (N := some 17) (v := ?_) (a' := ?_) #[true, true, true, true, true, true, true, true, true, true, false, false] rfl rfl (take_ofW HT_.out HW_.out (by kernel_rfl)) (fun _ _ _ h => h) (Or.inl ⟨by rfl, ?_⟩) hHeld ?_ ?_
      rotate_left
      ·rintro w' ⟨s0, s1, s2, s3, s4, s5, s6, s7⟩
       go_simp
       with_reducible rfl
      rotate_left
      ·simp only [Act.put, List.setIfInBounds_toArray, List.set_cons_zero, List.set_cons_succ, i64_w, i32_w]
       rfl
      refine one_ (i := 10) (N := some 18) #[true, true, true, true, true, true, true, true, true, true, true, false] rfl rfl (one_of HT_.out (by kernel_rfl)) (by decide) (fun K hK => ?_)
      refine goes_ Try.func59 (by kernel_rfl) rfl #[.agg #[.string ((rd_T42 l0 x6_1).f0), .int .i64 ((rd_T42 l0 x6_1).f1), .bool ((rd_T42 l0 x6_1).f2), .string ((rd_T42 l0 x6_1).f3)], .agg #[.string a1_0, .int .i64 a1_1, .bool a1_2, .string a1_3]] (by rfl) rfl rfl (by (try simp only [List.map_toArray, List.map_cons, List.map_nil]); first | done | rfl | (simp only [List.length_drop, List.length_take]; rfl)) ?_
      with_reducible refine (spec_l14Less.calls ((rd_T42 l0 x6_1).f0) ((rd_T42 l0 x6_1).f1) ((rd_T42 l0 x6_1).f2) ((rd_T42 l0 x6_1).f3) a1_0 a1_1 a1_2 a1_3 false _ A6.out).mono ?_
      rintro e w35 ⟨rfl, hb⟩
      have HS4_ := (hb.cell (World.block_lt_of_cell? _ _ (hHeld.2.2.2.2.1))).trans (hHeld.2.2.2.2.1)
      have HS5_ := (hb.cell (World.block_lt_of_cell? _ _ (hHeld.2.2.2.2.2.1))).trans (hHeld.2.2.2.2.2.1)
      have HS6_ := (hb.cell (World.block_lt_of_cell? _ _ (hHeld.2.2.2.2.2.2.1))).trans (hHeld.2.2.2.2.2.2.1)
      have HS7_ := (hb.cell (World.block_lt_of_cell? _ _ (hHeld.2.2.2.2.2.2.2))).trans (hHeld.2.2.2.2.2.2.2)
      refine ⟨_, rfl, ?_⟩
      have n0_ := Aside0.mk (Kd.R_below (sq_r HO_0) hb)
      have n1_ := Aside0.mk (blk_below (g := gb148) (o := .cells #[.string a1_0, .int .i64 a1_1, .bool a1_2, .string a1_3] 42 (0, 0)) (sq_l BK148) hb)
      have n2_ := Aside0.mk (Kept.below (S := (fun k_ => P0_ k_)) (by repeat (first | (with_reducible first | exact HK.out | apply Kept.alloc | apply Kept.drewN | apply Kept.drew | refine Kept.setCell ?_ (.inr GW148.out) _) | exact HK.out)) hb)
      have n3_ := Aside0.mk (below_step (by repeat (first | (with_reducible first | exact HB.out | apply below_alloc | apply pw_below_drewN | apply below_drew1 | refine below_set ?_ GE148.out) | exact HB.out)) hb)
      clear HO_0
      clear BK148
      clear HK
      clear HB
      have HO_0 := n0_
      have BK148 := n1_
      have HK := n2_
      have HB := n3_
      clear n0_ n1_ n2_ n3_
      (try clear hb)
      (try clear hb2)
      (try clear hk)
      (try clear hi)
      refine hK.out _ _ ⟨(blk_cell BK148.out 0).trans rfl, (blk_cell BK148.out 1).trans rfl, (blk_cell BK148.out 2).trans rfl, (blk_cell BK148.out 3).trans rfl, HS4_, HS5_, HS6_, HS7_⟩ (fun hHeld => ?_)
      clear hK K
      refine norm_ (a' := ?_) ?_ ?_
      rotate_left
      ·show Act.put _ (some 18) _ = _
       simp only [Act.put, List.setIfInBounds_toArray, List.set_cons_zero, List.set_cons_succ, i64_w, i32_w]
       rfl
      refine pu_ 11 (some 19) #[true, true, true, true, true, true, true, true, true, true, true, true] HT_ ?_
      refine done_ (done_of HT_.out (by kernel_rfl)) ?_
      try go_wp2
      have n0_ := Aside0.mk (Kd.R_drew HO_0.out)
      have n1_ := Aside0.mk (blk_drew BK148.out)
      have n2_ := Aside0.mk (Kept.drew HK.out)
      have n3_ := Aside0.mk (below_drew1 HB.out)
      clear HO_0
      clear BK148
      clear HK
      clear HB
      have HO_0 := n0_
      have BK148 := n1_
      have HK := n2_
      have HB := n3_
      clear n0_ n1_ n2_ n3_
      have p151 : 0 ≤ (x6_1 : Int) := sq_d
      have q151 : x6_1 < (l0.length : Int) := sq_d
      obtain ⟨ad151, e151, hx151_0, hx151_1, hx151_2, hx151_3⟩ := at_T42 (Kd.R_reads' HO_0.out).2.2 x6_1 p151 q151
      obtain rfl : ad149 = ad151 := (by injection e151)
      replace p151 := eq_true p151
      replace q151 := eq_true q151
      refine start_ (n := 13) (S := fun w' => w'.cell? ⟨gb148, 0, none⟩ = some (.string a1_0) ∧ w'.cell? ⟨gb148, 1, none⟩ = some (.int .i64 a1_1) ∧ w'.cell? ⟨gb148, 2, none⟩ = some (.bool a1_2) ∧ w'.cell? ⟨gb148, 3, none⟩ = some (.string a1_3) ∧ w'.cell? (ad149.add ((x6_1).toNat * 4)) = some (.string ((rd_T42 l0 x6_1).f0)) ∧ w'.cell? ⟨(ad149.add ((x6_1).toNat * 4)).block, (ad149.add ((x6_1).toNat * 4)).off + 1, none⟩ = some (.int .i64 ((rd_T42 l0 x6_1).f1)) ∧ w'.cell? ⟨(ad149.add ((x6_1).toNat * 4)).block, (ad149.add ((x6_1).toNat * 4)).off + 2, none⟩ = some (.bool ((rd_T42 l0 x6_1).f2)) ∧ w'.cell? ⟨(ad149.add ((x6_1).toNat * 4)).block, (ad149.add ((x6_1).toNat * 4)).off + 3, none⟩ = some (.string ((rd_T42 l0 x6_1).f3))) (ds := []) #[false, false, false, false, false, false, false, false, false, false, false, false, false] (by kernel_rfl) rfl rfl ⟨(blk_cell BK148.out 0).trans rfl, (blk_cell BK148.out 1).trans rfl, (blk_cell BK148.out 2).trans rfl, (blk_cell BK148.out 3).trans rfl, hx151_0, hx151_1, hx151_2, hx151_3⟩ (fun hHeld => ?_); refine with_tabW spec_l14Put.tab4 spec_l14Put.bits4 (fun HT_ HW_ => ?_)
      generalize w35.drew = w36 at HO_0 BK148 HK HB hx151_0 hx151_1 hx151_2 hx151_3 hHeld ⊢
      refine pu_ 0 (some 22) #[true, false, false, false, false, false, false, false, false, false, false, false, false] HT_ ?_
      refine pu_ 1 (some 23) #[true, true, false, false, false, false, false, false, false, false, false, false, false] HT_ ?_
      refine pu_ 2 (some 24) #[true, true, true, false, false, false, false, false, false, false, false, false, false] HT_ ?_
      refine pu_ 3 (some 25) #[true, true, true, true, false, false, false, false, false, false, false, false, false] HT_ ?_
      refine pu_ 4 (some 26) #[true, true, true, true, true, false, false, false, false, false, false, false, false] HT_ ?_
      refine pu_ 6 (some 28) #[true, true, true, true, true, false, true, false, false, false, false, false, false] HT_ ?_
      refine pu_ 7 (some 29) #[true, true, true, true, true, false, true, true, false, false, false, false, false] HT_ ?_
      refine pu_ 8 (some 30) #[true, true, true, true, true, false, true, true, true, false, false, false, false] HT_ ?_
      refine take_ (i := 5) (N := some 27) (v := ?_) (a' := ?_) #[true, true, true, true, true, true, true, true, true, false, false, false, false] rfl rfl (take_ofW HT_.out HW_.out (by kernel_rfl)) (fun _ _ _ h => h) (Or.inl ⟨by rfl, ?_⟩) hHeld ?_ ?_
      rotate_left
      ·rintro w' ⟨s0, s1, s2, s3, s4, s5, s6, s7⟩
       go_simp
       with_reducible rfl
      rotate_left
      ·simp only [Act.put, List.setIfInBounds_toArray, List.set_cons_zero, List.set_cons_succ, i64_w, i32_w]
       rfl
      refine take_ (i := 9) (N := some 31) (v := ?_) (a' := ?_) #[true, true, true, true, true, true, true, true, true, true, false, false, false] rfl rfl (take_ofW HT_.out HW_.out (by kernel_rfl)) (fun _ _ _ h => h) (Or.inl ⟨by rfl, ?_⟩) hHeld ?_ ?_
      rotate_left
      ·rintro w' ⟨s0, s1, s2, s3, s4, s5, s6, s7⟩
       go_simp
       with_reducible rfl
      rotate_left
      ·simp only [Act.put, List.setIfInBounds_toArray, List.set_cons_zero, List.set_cons_succ, i64_w, i32_w]
       rfl
      refine one_ (i := 10) (N := some 32) #[true, true, true, true, true, true, true, true, true, true, true, false, false] rfl rfl (one_of HT_.out (by kernel_rfl)) (by decide) (fun K hK => ?_)
      refine goes_ Try.func59 (by kernel_rfl) rfl #[.agg #[.string a1_0, .int .i64 a1_1, .bool a1_2, .string a1_3], .agg #[.string ((rd_T42 l0 x6_1).f0), .int .i64 ((rd_T42 l0 x6_1).f1), .bool ((rd_T42 l0 x6_1).f2), .string ((rd_T42 l0 x6_1).f3)]] (by rfl) rfl rfl (by (try simp only [List.map_toArray, List.map_cons, List.map_nil]); first | done | rfl | (simp only [List.length_drop, List.length_take]; rfl)) ?_
      with_reducible refine (spec_l14Less.calls a1_0 a1_1 a1_2 a1_3 ((rd_T42 l0 x6_1).f0) ((rd_T42 l0 x6_1).f1) ((rd_T42 l0 x6_1).f2) ((rd_T42 l0 x6_1).f3) false _ A11.out).mono ?_
      rintro e w37 ⟨rfl, hb⟩
      have HS4_ := (hb.cell (World.block_lt_of_cell? _ _ (hHeld.2.2.2.2.1))).trans (hHeld.2.2.2.2.1)
      have HS5_ := (hb.cell (World.block_lt_of_cell? _ _ (hHeld.2.2.2.2.2.1))).trans (hHeld.2.2.2.2.2.1)
      have HS6_ := (hb.cell (World.block_lt_of_cell? _ _ (hHeld.2.2.2.2.2.2.1))).trans (hHeld.2.2.2.2.2.2.1)
      have HS7_ := (hb.cell (World.block_lt_of_cell? _ _ (hHeld.2.2.2.2.2.2.2))).trans (hHeld.2.2.2.2.2.2.2)
      refine ⟨_, rfl, ?_⟩
      have n0_ := Aside0.mk (Kd.R_below (sq_r HO_0) hb)
      have n1_ := Aside0.mk (blk_below (g := gb148) (o := .cells #[.string a1_0, .int .i64 a1_1, .bool a1_2, .string a1_3] 42 (0, 0)) (sq_l BK148) hb)
      have n2_ := Aside0.mk (Kept.below (S := (fun k_ => P0_ k_)) (by repeat (first | (with_reducible first | exact HK.out | apply Kept.alloc | apply Kept.drewN | apply Kept.drew | refine Kept.setCell ?_ (.inr GW148.out) _) | exact HK.out)) hb)
      have n3_ := Aside0.mk (below_step (by repeat (first | (with_reducible first | exact HB.out | apply below_alloc | apply pw_below_drewN | apply below_drew1 | refine below_set ?_ GE148.out) | exact HB.out)) hb)
      clear HO_0
      clear BK148
      clear HK
      clear HB
      have HO_0 := n0_
      have BK148 := n1_
      have HK := n2_
      have HB := n3_
      clear n0_ n1_ n2_ n3_
      (try clear hb)
      (try clear hb2)
      (try clear hk)
      (try clear hi)
      refine hK.out _ _ ⟨(blk_cell BK148.out 0).trans rfl, (blk_cell BK148.out 1).trans rfl, (blk_cell BK148.out 2).trans rfl, (blk_cell BK148.out 3).trans rfl, HS4_, HS5_, HS6_, HS7_⟩ (fun hHeld => ?_)
      clear hK K
      refine norm_ (a' := ?_) ?_ ?_
      rotate_left
      ·show Act.put _ (some 32) _ = _
       simp only [Act.put, List.setIfInBounds_toArray, List.set_cons_zero, List.set_cons_succ, i64_w, i32_w]
       rfl
      refine pu_ 11 (some 33) #[true, true, true, true, true, true, true, true, true, true, true, true, false] HT_ ?_
      refine pu_ 12 (some 34) #[true, true, true, true, true, true, true, true, true, true, true, true, true] HT_ ?_
      refine done_ (done_of HT_.out (by kernel_rfl)) ?_
      try go_wp2
      have n0_ := Aside0.mk (Kd.R_drew HO_0.out)
      have n1_ := Aside0.mk (blk_drew BK148.out)
      have n2_ := Aside0.mk (Kept.drew HK.out)
      have n3_ := Aside0.mk (below_drew1 HB.out)
      clear HO_0
      clear BK148
      clear HK
      clear HB
      have HO_0 := n0_
      have BK148 := n1_
      have HK := n2_
      have HB := n3_
      clear n0_ n1_ n2_ n3_
      have p173 : 0 ≤ (x6_1 : Int) := sq_d
      have q173 : x6_1 < (l0.length : Int) := sq_d
      obtain ⟨ad173, e173, hx173_0, hx173_1, hx173_2, hx173_3⟩ := at_T42 (Kd.R_reads' HO_0.out).2.2 x6_1 p173 q173
      obtain rfl : ad149 = ad173 := (by injection e173)
      replace p173 := eq_true p173
      replace q173 := eq_true q173
      refine start_ (n := 9) (S := fun w' => w'.cell? ⟨gb148, 0, none⟩ = some (.string a1_0) ∧ w'.cell? ⟨gb148, 1, none⟩ = some (.int .i64 a1_1) ∧ w'.cell? ⟨gb148, 2, none⟩ = some (.bool a1_2) ∧ w'.cell? ⟨gb148, 3, none⟩ = some (.string a1_3) ∧ w'.cell? (ad149.add ((x6_1).toNat * 4)) = some (.string ((rd_T42 l0 x6_1).f0)) ∧ w'.cell? ⟨(ad149.add ((x6_1).toNat * 4)).block, (ad149.add ((x6_1).toNat * 4)).off + 1, none⟩ = some (.int .i64 ((rd_T42 l0 x6_1).f1)) ∧ w'.cell? ⟨(ad149.add ((x6_1).toNat * 4)).block, (ad149.add ((x6_1).toNat * 4)).off + 2, none⟩ = some (.bool ((rd_T42 l0 x6_1).f2)) ∧ w'.cell? ⟨(ad149.add ((x6_1).toNat * 4)).block, (ad149.add ((x6_1).toNat * 4)).off + 3, none⟩ = some (.string ((rd_T42 l0 x6_1).f3))) (ds := []) #[false, false, false, false, false, false, false, false, false] (by kernel_rfl) rfl rfl ⟨(blk_cell BK148.out 0).trans rfl, (blk_cell BK148.out 1).trans rfl, (blk_cell BK148.out 2).trans rfl, (blk_cell BK148.out 3).trans rfl, hx173_0, hx173_1, hx173_2, hx173_3⟩ (fun hHeld => ?_); refine with_tabW spec_l14Put.tab5 spec_l14Put.bits5 (fun HT_ HW_ => ?_)
      generalize w37.drew = w38 at HO_0 BK148 HK HB hx173_0 hx173_1 hx173_2 hx173_3 hHeld ⊢
      refine pu_ 0 (some 35) #[true, false, false, false, false, false, false, false, false] HT_ ?_
      refine pu_ 1 (some 36) #[true, true, false, false, false, false, false, false, false] HT_ ?_
      refine pu_ 2 (some 37) #[true, true, true, false, false, false, false, false, false] HT_ ?_
      refine pu_ 3 (some 38) #[true, true, true, true, false, false, false, false, false] HT_ ?_
      refine pu_ 7 (some 4) #[true, true, true, true, false, false, false, true, false] HT_ ?_
      refine take_ (i := 4) (N := some 39) (v := ?_) (a' := ?_) #[true, true, true, true, true, false, false, true, false] rfl rfl (take_ofW HT_.out HW_.out (by kernel_rfl)) (fun _ _ _ h => h) (Or.inl ⟨by rfl, ?_⟩) hHeld ?_ ?_
      rotate_left
      ·rintro w' ⟨s0, s1, s2, s3, s4, s5, s6, s7⟩
       go_simp
       with_reducible rfl
      rotate_left
      ·simp only [Act.put, List.setIfInBounds_toArray, List.set_cons_zero, List.set_cons_succ, i64_w, i32_w]
       rfl
      refine take_ (i := 5) (N := some 40) (v := ?_) (a' := ?_) #[true, true, true, true, true, true, false, true, false] rfl rfl (take_ofW HT_.out HW_.out (by kernel_rfl)) (fun _ _ _ h => h) (Or.inl ⟨by rfl, ?_⟩) hHeld ?_ ?_
      rotate_left
      ·rintro w' ⟨s0, s1, s2, s3, s4, s5, s6, s7⟩
       go_simp
       with_reducible rfl
      rotate_left
      ·simp only [Act.put, List.setIfInBounds_toArray, List.set_cons_zero, List.set_cons_succ, i64_w, i32_w]
       rfl
      refine pu_ 6 (some 41) #[true, true, true, true, true, true, true, true, false] HT_ ?_
      refine pu_ 8 (some 5) #[true, true, true, true, true, true, true, true, true] HT_ ?_
      refine done_ (done_of HT_.out (by kernel_rfl)) ?_
      try go_wp2
      go_ret2
      exact ⟨_, sq_w, by (with_reducible repeat (first | apply Kd.R_alloc | apply Kd.R_drewN | apply Kd.R_drew)); exact Kd.R_mono HO_0.out (fun _ hk => hk.1), by repeat (first | (with_reducible first | exact HB.out | apply below_alloc | apply pw_below_drewN | apply below_drew1 | refine below_set ?_ GE148.out) | exact HB.out), by repeat (first | (with_reducible first | exact HK.out | apply Kept.alloc | apply Kept.drewN | apply Kept.drew | refine Kept.setCell ?_ (.inr GW148.out) _) | exact HK.out)⟩
   ·rw [if_neg c4] at H
    have c4b0 : decide (x6_1 < (l0.length : Int)) = false := decide_eq_false c4
    clear c4
    obtain ⟨y174, hy174⟩ : ∃ y_ : List (S42), y_ = (([] : List (S42))) := ⟨_, rfl⟩
    replace H : (if 0 ≤ x6_1 then (if x6_1 ≤ (l0.length : Int) then ((some (l0.take (x6_1 : Int).toNat : List (S42))).bind fun y177 => (if y174.length + y177.length < 2932031007402 then ((some (y174 ++ y177 : List (S42))).bind fun y181 => (if y181.length < 2932031007402 then ((some (y181 ++ [(⟨a1_0, a1_1, a1_2, a1_3⟩ : S42)] : List (S42))).bind fun y184 => ((some (l0.drop (x6_1 : Int).toNat : List (S42))).bind fun y187 => (if y184.length + y187.length < 2932031007402 then (some ((y184 ++ y187), true)) else (none)))) else (none))) else (none))) else (none)) else (none)) = some (r1, r2) := by first | (rw [hy174]; with_reducible exact H) | (have H2_ := (Option.bind_some _ _).symm.trans H; rw [hy174]; with_reducible exact H2_) | (have H2_ := (Option.bind_some _ _).symm.trans H; with_reducible exact H2_) | with_reducible exact H | (rw [hy174]; exact H) | exact H
    have Ny174 := Aside0.mk hy174
    clear hy174
    by_cases c39 : 0 ≤ x6_1
    ·rw [if_pos c39] at H
     have c39b0 := eq_true c39
     have c39b1 : decide (0 ≤ x6_1) = true := decide_eq_true c39
     clear c39
     by_cases c40 : x6_1 ≤ (l0.length : Int)
     rotate_left
     ·rw [if_neg c40] at H
      exact absurd H (by simp)
     rw [if_pos c40] at H
     have c40b0 := eq_true c40
     have c40b1 : decide (x6_1 ≤ (l0.length : Int)) = true := decide_eq_true c40
     clear c40
     obtain ⟨y177, hy177⟩ : ∃ y_ : List (S42), y_ = (l0.take (x6_1 : Int).toNat) := ⟨_, rfl⟩
     replace H : (if y174.length + y177.length < 2932031007402 then ((some (y174 ++ y177 : List (S42))).bind fun y181 => (if y181.length < 2932031007402 then ((some (y181 ++ [(⟨a1_0, a1_1, a1_2, a1_3⟩ : S42)] : List (S42))).bind fun y184 => ((some (l0.drop (x6_1 : Int).toNat : List (S42))).bind fun y187 => (if y184.length + y187.length < 2932031007402 then (some ((y184 ++ y187), true)) else (none)))) else (none))) else (none)) = some (r1, r2) := by first | (rw [hy177]; with_reducible exact H) | (have H2_ := (Option.bind_some _ _).symm.trans H; rw [hy177]; with_reducible exact H2_) | (have H2_ := (Option.bind_some _ _).symm.trans H; with_reducible exact H2_) | with_reducible exact H | (rw [hy177]; exact H) | exact H
     have Ny177 := Aside0.mk hy177
     clear hy177
     by_cases c41 : y174.length + y177.length < 2932031007402
     rotate_left
     ·rw [if_neg c41] at H
      exact absurd H (by simp)
     rw [if_pos c41] at H
     have LMc41 := Aside0.mk c41
     clear c41
     obtain ⟨y181, hy181⟩ : ∃ y_ : List (S42), y_ = (y174 ++ y177) := ⟨_, rfl⟩
     replace H : (if y181.length < 2932031007402 then ((some (y181 ++ [(⟨a1_0, a1_1, a1_2, a1_3⟩ : S42)] : List (S42))).bind fun y184 => ((some (l0.drop (x6_1 : Int).toNat : List (S42))).bind fun y187 => (if y184.length + y187.length < 2932031007402 then (some ((y184 ++ y187), true)) else (none)))) else (none)) = some (r1, r2) := by first | (rw [hy181]; with_reducible exact H) | (have H2_ := (Option.bind_some _ _).symm.trans H; rw [hy181]; with_reducible exact H2_) | (have H2_ := (Option.bind_some _ _).symm.trans H; with_reducible exact H2_) | with_reducible exact H | (rw [hy181]; exact H) | exact H
     have Ny181 := Aside0.mk hy181
     clear hy181
     by_cases c42 : y181.length < 2932031007402
     rotate_left
     ·rw [if_neg c42] at H
      exact absurd H (by simp)
     rw [if_pos c42] at H
     have LMc42 := Aside0.mk c42
     clear c42
     obtain ⟨y184, hy184⟩ : ∃ y_ : List (S42), y_ = (y181 ++ [(⟨a1_0, a1_1, a1_2, a1_3⟩ : S42)]) := ⟨_, rfl⟩
     replace H : ((some (l0.drop (x6_1 : Int).toNat : List (S42))).bind fun y187 => (if y184.length + y187.length < 2932031007402 then (some ((y184 ++ y187), true)) else (none))) = some (r1, r2) := by first | (rw [hy184]; with_reducible exact H) | (have H2_ := (Option.bind_some _ _).symm.trans H; rw [hy184]; with_reducible exact H2_) | (have H2_ := (Option.bind_some _ _).symm.trans H; with_reducible exact H2_) | with_reducible exact H | (rw [hy184]; exact H) | exact H
     have Ny184 := Aside0.mk hy184
     clear hy184
     have c43b0 := eq_true (sq_d : 0 ≤ x6_1)
     have c44b0 := eq_true (sq_d : x6_1 ≤ (l0.length : Int))
     obtain ⟨y187, hy187⟩ : ∃ y_ : List (S42), y_ = (l0.drop (x6_1 : Int).toNat) := ⟨_, rfl⟩
     replace H : (if y184.length + y187.length < 2932031007402 then (some ((y184 ++ y187), true)) else (none)) = some (r1, r2) := by first | (rw [hy187]; with_reducible exact H) | (have H2_ := (Option.bind_some _ _).symm.trans H; rw [hy187]; with_reducible exact H2_) | (have H2_ := (Option.bind_some _ _).symm.trans H; with_reducible exact H2_) | with_reducible exact H | (rw [hy187]; exact H) | exact H
     have Ny187 := Aside0.mk hy187
     clear hy187
     by_cases c45 : y184.length + y187.length < 2932031007402
     rotate_left
     ·rw [if_neg c45] at H
      exact absurd H (by simp)
     rw [if_pos c45] at H
     have LMc45 := Aside0.mk c45
     clear c45
     obtain ⟨y191, hy191⟩ : ∃ y_ : List (S42), y_ = (y184 ++ y187) := ⟨_, rfl⟩
     replace H : (some (y191, true)) = some (r1, r2) := by first | (rw [hy191]; with_reducible exact H) | (have H2_ := (Option.bind_some _ _).symm.trans H; rw [hy191]; with_reducible exact H2_) | (have H2_ := (Option.bind_some _ _).symm.trans H; with_reducible exact H2_) | with_reducible exact H | (rw [hy191]; exact H) | exact H
     have Ny191 := Aside0.mk hy191
     clear hy191
     simp only [Option.some.injEq, Prod.mk.injEq] at H
     obtain ⟨rfl, rfl⟩ := H
     try go_wp2
     have n0_ := Aside0.mk (Kd.R_drew HO_0.out)
     have n1_ := Aside0.mk (blk_drew BK148.out)
     have n2_ := Aside0.mk (Kept.drew HK.out)
     have n3_ := Aside0.mk (below_drew1 HB.out)
     clear HO_0
     clear BK148
     clear HK
     clear HB
     have HO_0 := n0_
     have BK148 := n1_
     have HK := n2_
     have HB := n3_
     clear n0_ n1_ n2_ n3_
     obtain ⟨Ao47, co47, eo47⟩ := Kd.R_slice HO_0.out
     (first | subst eo47 | (injection eo47 with f1_ f2_ f3_; have f4_ := f1_.symm; have f5_ := f3_.symm; clear f1_ f2_ f3_; subst f4_; subst f5_))
     refine start_ (n := 12) (S := fun w' => True) (ds := []) #[false, false, false, false, false, false, false, false, false, false, false, false] (by kernel_rfl) rfl rfl trivial (fun hHeld => ?_); refine with_tabW spec_l14Put.tab2 spec_l14Put.bits2 (fun HT_ HW_ => ?_)
     generalize wr.drew = w46 at HO_0 BK148 HK HB hHeld ⊢
     refine pu_ 0 (some 8) #[true, false, false, false, false, false, false, false, false, false, false, false] HT_ ?_
     refine pu_ 1 (some 9) #[true, true, false, false, false, false, false, false, false, false, false, false] HT_ ?_
     refine pu_ 2 (some 10) #[true, true, true, false, false, false, false, false, false, false, false, false] HT_ ?_
     refine pu_ 3 (some 11) #[true, true, true, true, false, false, false, false, false, false, false, false] HT_ ?_
     refine pu_ 4 (some 12) #[true, true, true, true, true, false, false, false, false, false, false, false] HT_ ?_
     refine pure_ (i := 5) (N := some 13) (v := undef) (a' := ?_) #[true, true, true, true, true, true, false, false, false, false, false, false] rfl rfl (any_of HT_.out (by kernel_rfl)) (fun _ _ _ h => h) (Or.inr ⟨by rfl, rfl⟩) ?_ ?_
     rotate_left
     ·simp only [Act.put, List.setIfInBounds_toArray, List.set_cons_zero, List.set_cons_succ, i64_w, i32_w]
      rfl
     refine pure_ (i := 6) (N := some 14) (v := undef) (a' := ?_) #[true, true, true, true, true, true, true, false, false, false, false, false] rfl rfl (any_of HT_.out (by kernel_rfl)) (fun _ _ _ h => h) (Or.inr ⟨by rfl, rfl⟩) ?_ ?_
     rotate_left
     ·simp only [Act.put, List.setIfInBounds_toArray, List.set_cons_zero, List.set_cons_succ, i64_w, i32_w]
      rfl
     refine pure_ (i := 7) (N := some 15) (v := undef) (a' := ?_) #[true, true, true, true, true, true, true, true, false, false, false, false] rfl rfl (any_of HT_.out (by kernel_rfl)) (fun _ _ _ h => h) (Or.inr ⟨by rfl, rfl⟩) ?_ ?_
     rotate_left
     ·simp only [Act.put, List.setIfInBounds_toArray, List.set_cons_zero, List.set_cons_succ, i64_w, i32_w]
      rfl
     refine pure_ (i := 8) (N := some 16) (v := undef) (a' := ?_) #[true, true, true, true, true, true, true, true, true, false, false, false] rfl rfl (any_of HT_.out (by kernel_rfl)) (fun _ _ _ h => h) (Or.inr ⟨by rfl, rfl⟩) ?_ ?_
     rotate_left
     ·simp only [Act.put, List.setIfInBounds_toArray, List.set_cons_zero, List.set_cons_succ, i64_w, i32_w]
      rfl
     refine pure_ (i := 9) (N := some 17) (v := undef) (a' := ?_) #[true, true, true, true, true, true, true, true, true, true, false, false] rfl rfl (any_of HT_.out (by kernel_rfl)) (fun _ _ _ h => h) (Or.inr ⟨by rfl, rfl⟩) ?_ ?_
     rotate_left
     ·simp only [Act.put, List.setIfInBounds_toArray, List.set_cons_zero, List.set_cons_succ, i64_w, i32_w]
      rfl
     refine pure_ (i := 10) (N := some 18) (v := undef) (a' := ?_) #[true, true, true, true, true, true, true, true, true, true, true, false] rfl rfl (any_of HT_.out (by kernel_rfl)) (fun _ _ _ h => h) (Or.inr ⟨by rfl, rfl⟩) ?_ ?_
     rotate_left
     ·simp only [Act.put, List.setIfInBounds_toArray, List.set_cons_zero, List.set_cons_succ, i64_w, i32_w]
      rfl
     refine pu_ 11 (some 19) #[true, true, true, true, true, true, true, true, true, true, true, true] HT_ ?_
     refine done_ (done_of HT_.out (by kernel_rfl)) ?_
     try go_wp2
     have n0_ := Aside0.mk (Kd.R_drew HO_0.out)
     have n1_ := Aside0.mk (blk_drew BK148.out)
     have n2_ := Aside0.mk (Kept.drew HK.out)
     have n3_ := Aside0.mk (below_drew1 HB.out)
     clear HO_0
     clear BK148
     clear HK
     clear HB
     have HO_0 := n0_
     have BK148 := n1_
     have HK := n2_
     have HB := n3_
     clear n0_ n1_ n2_ n3_
     refine start_ (n := 13) (S := fun w' => True) (ds := []) #[false, false, false, false, false, false, false, false, false, false, false, false, false] (by kernel_rfl) rfl rfl trivial (fun hHeld => ?_); refine with_tabW spec_l14Put.tab4 spec_l14Put.bits4 (fun HT_ HW_ => ?_)
     generalize w46.drew = w48 at HO_0 BK148 HK HB hHeld ⊢
     refine pu_ 0 (some 22) #[true, false, false, false, false, false, false, false, false, false, false, false, false] HT_ ?_
     refine pu_ 1 (some 23) #[true, true, false, false, false, false, false, false, false, false, false, false, false] HT_ ?_
     refine pu_ 2 (some 24) #[true, true, true, false, false, false, false, false, false, false, false, false, false] HT_ ?_
     refine pu_ 3 (some 25) #[true, true, true, true, false, false, false, false, false, false, false, false, false] HT_ ?_
     refine pu_ 4 (some 26) #[true, true, true, true, true, false, false, false, false, false, false, false, false] HT_ ?_
     refine pure_ (i := 5) (N := some 27) (v := undef) (a' := ?_) #[true, true, true, true, true, true, false, false, false, false, false, false, false] rfl rfl (any_of HT_.out (by kernel_rfl)) (fun _ _ _ h => h) (Or.inr ⟨by rfl, rfl⟩) ?_ ?_
     rotate_left
     ·simp only [Act.put, List.setIfInBounds_toArray, List.set_cons_zero, List.set_cons_succ, i64_w, i32_w]
      rfl
     refine pure_ (i := 6) (N := some 28) (v := undef) (a' := ?_) #[true, true, true, true, true, true, true, false, false, false, false, false, false] rfl rfl (any_of HT_.out (by kernel_rfl)) (fun _ _ _ h => h) (Or.inr ⟨by rfl, rfl⟩) ?_ ?_
     rotate_left
     ·simp only [Act.put, List.setIfInBounds_toArray, List.set_cons_zero, List.set_cons_succ, i64_w, i32_w]
      rfl
     refine pure_ (i := 7) (N := some 29) (v := undef) (a' := ?_) #[true, true, true, true, true, true, true, true, false, false, false, false, false] rfl rfl (any_of HT_.out (by kernel_rfl)) (fun _ _ _ h => h) (Or.inr ⟨by rfl, rfl⟩) ?_ ?_
     rotate_left
     ·simp only [Act.put, List.setIfInBounds_toArray, List.set_cons_zero, List.set_cons_succ, i64_w, i32_w]
      rfl
     refine pure_ (i := 8) (N := some 30) (v := undef) (a' := ?_) #[true, true, true, true, true, true, true, true, true, false, false, false, false] rfl rfl (any_of HT_.out (by kernel_rfl)) (fun _ _ _ h => h) (Or.inr ⟨by rfl, rfl⟩) ?_ ?_
     rotate_left
     ·simp only [Act.put, List.setIfInBounds_toArray, List.set_cons_zero, List.set_cons_succ, i64_w, i32_w]
      rfl
     refine pure_ (i := 9) (N := some 31) (v := undef) (a' := ?_) #[true, true, true, true, true, true, true, true, true, true, false, false, false] rfl rfl (any_of HT_.out (by kernel_rfl)) (fun _ _ _ h => h) (Or.inr ⟨by rfl, rfl⟩) ?_ ?_
     rotate_left
     ·simp only [Act.put, List.setIfInBounds_toArray, List.set_cons_zero, List.set_cons_succ, i64_w, i32_w]
      rfl
     refine pure_ (i := 10) (N := some 32) (v := undef) (a' := ?_) #[true, true, true, true, true, true, true, true, true, true, true, false, false] rfl rfl (any_of HT_.out (by kernel_rfl)) (fun _ _ _ h => h) (Or.inr ⟨by rfl, rfl⟩) ?_ ?_
     rotate_left
     ·simp only [Act.put, List.setIfInBounds_toArray, List.set_cons_zero, List.set_cons_succ, i64_w, i32_w]
      rfl
     refine pure_ (i := 11) (N := some 33) (v := undef) (a' := ?_) #[true, true, true, true, true, true, true, true, true, true, true, true, false] rfl rfl (any_of HT_.out (by kernel_rfl)) (fun _ _ _ h => h) (Or.inr ⟨by rfl, rfl⟩) ?_ ?_
     rotate_left
     ·simp only [Act.put, List.setIfInBounds_toArray, List.set_cons_zero, List.set_cons_succ, i64_w, i32_w]
      rfl
     refine pu_ 12 (some 34) #[true, true, true, true, true, true, true, true, true, true, true, true, true] HT_ ?_
     refine done_ (done_of HT_.out (by kernel_rfl)) ?_
     try go_wp2_with (first | ((with_reducible refine gate_dst (N := 42) rfl ?_); refine Kd.R_lit k42 _ 42 ?hg (N := 42) ?hd (xs := ([] : List (S42))) (inner := []) (ok := fun _ => True) (okp := fun _ => True) ?hr ?hp (fun _ hk => hk) trivial (Below.refl _ _) (Nat.le_refl _) (by simp) ?_; (case hd => rfl); (case hg => rfl); (case hr => first | (go_simp; done) | (go_simp; rfl)); (case hp => exact (Reps.none _ _)); intro v175 w49 ho50 hb hg_ hnew_; clear hg_ hnew_; (first | rw [← Ny174.out] at ho50 | (simp only [Int.reduceToNat] at ho50; rw [← Ny174.out] at ho50)); have n0_ := Aside0.mk (Kd.R_elder' (sq_r HO_0) (Kd.R_base ho50) hb); have n1_ := Aside0.mk (Kd.R_lower (Kd.R_newB (Kd.R_new' (Kd.R_newM (M := fun k_ => (P0_ k_ ∨ w.heap.size ≤ k_)) ho50 (by first | exact HK.out.1 | exact (show Kept w _ (fun k_ => P0_ k_) from by repeat (first | (with_reducible first | exact HK.out | apply Kept.alloc | apply Kept.drewN | apply Kept.drew | refine Kept.setCell ?_ (.inr GW148.out) _) | exact HK.out)).1) (fun k_ h_ => .inr h_)) (Kd.R_lt (sq_r HO_0))) (g := gb148) (o := .cells #[.string a1_0, .int .i64 a1_1, .bool a1_2, .string a1_3] 42 (0, 0)) (sq_l BK148)) (below_size (by repeat (first | (with_reducible first | exact HB.out | apply below_alloc | apply pw_below_drewN | apply below_drew1 | refine below_set ?_ GE148.out) | exact HB.out)))); have n2_ := Aside0.mk (blk_below (g := gb148) (o := .cells #[.string a1_0, .int .i64 a1_1, .bool a1_2, .string a1_3] 42 (0, 0)) (sq_l BK148) hb); have n3_ := Aside0.mk (Kept.below (S := (fun k_ => P0_ k_)) (by repeat (first | (with_reducible first | exact HK.out | apply Kept.alloc | apply Kept.drewN | apply Kept.drew | refine Kept.setCell ?_ (.inr GW148.out) _) | exact HK.out)) hb); have n4_ := Aside0.mk (below_step (by repeat (first | (with_reducible first | exact HB.out | apply below_alloc | apply pw_below_drewN | apply below_drew1 | refine below_set ?_ GE148.out) | exact HB.out)) hb); clear HO_0; clear BK148; clear HK; clear HB; have HO_0 := n0_; have HO176 := n1_; have BK148 := n2_; have HK := n3_; have HB := n4_; clear n0_ n1_ n2_ n3_ n4_; clear hb ho50; have q51 : (x6_1 : Int) ≤ ((l0.length : Int) : Int) := sq_d; obtain ⟨i051, hi051, _, hsz51, _⟩ := info_parts info42; have hroom51 : l0.length ≤ co47 := (Kd.R_reads' HO_0.out).2.1; have hC51 : Kd.C k42 _ Ao47 l0.length l0 := (Kd.R_reads' HO_0.out).2.2; have hcut51 := cut_to (P := Try.prog) 24 42 .i64 Try.underlying24 hi051 Ao47 l0.length co47 x6_1 (sq_d) q51 hroom51; have hr51 := Kd.C_take (m := (x6_1 : Int).toNat) hC51 (by omega); have hy51 : y177.length = (x6_1 : Int).toNat := (by rw [Ny177.out, List.length_take]; omega); rw [← Ny177.out] at hr51; rw [← hy51] at hcut51; have HR180 := Aside0.mk hr51; have HC180 := Aside0.mk (show y177.length ≤ co47 from by omega); clear hr51 hC51 hroom51 hi051 hsz51; have KY51 := Aside0.mk hy51; clear hy51; have KL51 := Aside0.mk (show (x6_1 : Int).toNat ≤ l0.length from by omega); replace q51 := eq_true q51) | ((with_reducible refine gate_builtin (b := .append) (xs := #[.tmp 42, .tmp 45]) rfl ?_); at_builtin; refine Kd.R_append_rows k42 (w0 := w0) w0.heap.size rfl (.tmp 42) (.tmp 45) 24 42 (.agg #[(.string ⟨#[]⟩), (.int .i64 0), (.bool false), (.string ⟨#[]⟩)]) 48 rfl Try.underlying24 info42 rfl (by decide) (by omega) v175 y174 y177 _ _ _ (fun k_ => (P0_ k_ ∨ w.heap.size ≤ k_) ∧ some k_ ≠ (.slice Ao47 l0.length co47 : Value).ownBlock ∧ k_ ≠ gb148) (fun _ => False) rfl rfl ?aO ?aR (fun _ _ h => h) (fun _ h => h.elim) ?aF ?aB ?aS ?aL ?_; (case aR => repeat (first | exact (by repeat (first | (with_reducible exact HR180.out) | (with_reducible refine Kd.C_alloc ?_ _) | (with_reducible refine Kd.C_drewN ?_ _) | (with_reducible refine Kd.C_drew ?_) | exact HR180.out)) | (with_reducible refine Kd.C_alloc ?_ _) | (with_reducible refine Kd.C_drewN ?_ _) | (with_reducible refine Kd.C_drew ?_))); (case aB => exact (by repeat (first | (with_reducible first | exact HB.out | apply below_alloc | apply pw_below_drewN | apply below_drew1 | refine below_set ?_ GE148.out) | exact HB.out))); (case aF => exact (fun k_ hk => ⟨(.inr (Nat.le_trans (by first | exact HK.out.1 | exact (show Kept w _ (fun k_ => P0_ k_) from by repeat (first | (with_reducible first | exact HK.out | apply Kept.alloc | apply Kept.drewN | apply Kept.drew | refine Kept.setCell ?_ (.inr GW148.out) _) | exact HK.out)).1) hk)), Kd.fresh' (Kd.R_lt (sq_r HO_0)) k_ hk, Kd.freshB (g := gb148) (o := .cells #[.string a1_0, .int .i64 a1_1, .bool a1_2, .string a1_3] 42 (0, 0)) (sq_l BK148) k_ hk⟩)); (case aO => exact (by (with_reducible repeat (first | apply Kd.R_alloc | apply Kd.R_drewN | apply Kd.R_drew)); exact Kd.R_mono HO176.out (fun _ hk => ⟨hk.1.1.1, ⟨hk.1.2, hk.2⟩⟩))); (case aS => exact (below_size (by repeat (first | (with_reducible first | exact HB.out | apply below_alloc | apply pw_below_drewN | apply below_drew1 | refine below_set ?_ GE148.out) | exact HB.out)))); (case aL => have := LMc41.out; omega); intro v182 w52 ho hb hg hat; rw [← Ny181.out] at ho; have n0_ := Aside0.mk (Kd.R_after (ok := (fun k_ => (P0_ k_ ∨ w.heap.size ≤ k_) ∧ k_ ≠ gb148)) (sq_r HO_0) hg hat); have n1_ := Aside0.mk (blk_grown (g := gb148) (o := .cells #[.string a1_0, .int .i64 a1_1, .bool a1_2, .string a1_3] 42 (0, 0)) (sq_l BK148) hg (Kd.R_away HO176.out (fun _ hk => hk.2))); have n2_ := Aside0.mk (hb); have n3_ := Aside0.mk (Kept.of_grown (S := (fun k_ => P0_ k_)) hg (by repeat (first | (with_reducible first | exact HK.out | apply Kept.alloc | apply Kept.drewN | apply Kept.drew | refine Kept.setCell ?_ (.inr GW148.out) _) | exact HK.out)) (fun k_ e_ => (HO176.out.1 k_ e_).1.1.1)); have n4_ := Aside0.mk ((show Kd.C k42 w52 Ao47 y177.length y177 from by rw [Ny177.out]; exact Kd.C_take (m := (x6_1 : Int).toNat) ((Kd.R_reads' (Kd.R_after (ok := (fun k_ => (P0_ k_ ∨ w.heap.size ≤ k_) ∧ k_ ≠ gb148)) (sq_r HO_0) hg hat)).2.2) KL51.out)); have n5_ := Aside0.mk (ho); clear HO_0; clear BK148; clear HB; clear HK; clear HR180; clear HO176; have HO_0 := n0_; have BK148 := n1_; have HB := n2_; have HK := n3_; have HR180 := n4_; have HO183 := n5_; clear n0_ n1_ n2_ n3_ n4_ n5_; clear ho hb hg hat; have hcz53_0 : w52.cell? ⟨gb148, 0, none⟩ = some (.string a1_0) := (blk_cell BK148.out 0).trans rfl; have hcz53_1 : w52.cell? ⟨gb148, 1, none⟩ = some (.int .i64 a1_1) := (blk_cell BK148.out 1).trans rfl; have hcz53_2 : w52.cell? ⟨gb148, 2, none⟩ = some (.bool a1_2) := (blk_cell BK148.out 2).trans rfl; have hcz53_3 : w52.cell? ⟨gb148, 3, none⟩ = some (.string a1_3) := (blk_cell BK148.out 3).trans rfl; have hfz53_0 := blk_frozen BK148.out 0; have hfz53_1 := blk_frozen BK148.out 1; have hfz53_2 := blk_frozen BK148.out 2; have hfz53_3 := blk_frozen BK148.out 3) | ((with_reducible refine gate_builtin (b := .append) (xs := #[.tmp 47, .tmp 49]) rfl ?_); at_builtin; refine Kd.R_append k42 (w0 := w0) w0.heap.size rfl (.tmp 47) (.tmp 49) 24 42 (.agg #[(.string ⟨#[]⟩), (.int .i64 0), (.bool false), (.string ⟨#[]⟩)]) 48 rfl Try.underlying24 info42 rfl (by decide) (by omega) v182 y181 (⟨a1_0, a1_1, a1_2, a1_3⟩ : S42) [.string a1_0, .int .i64 a1_1, .bool a1_2, .string a1_3] (fun k_ => (P0_ k_ ∨ w.heap.size ≤ k_) ∧ some k_ ≠ (.slice Ao47 l0.length co47 : Value).ownBlock ∧ k_ ≠ gb148) (fun _ => False) rfl rfl ?aP (fun _ hk => hk.elim) ?aF ?aO ?aB ?aS ?aL ?_; (case aP => exact k42_mkM _ _ _ (⟨a1_0, a1_1, a1_2, a1_3⟩ : S42)); (case aB => exact (by repeat (first | (with_reducible first | exact HB.out | apply below_alloc | apply pw_below_drewN | apply below_drew1 | refine below_set ?_ GE148.out) | exact HB.out))); (case aF => exact (fun k_ hk => ⟨(.inr (Nat.le_trans (by first | exact HK.out.1 | exact (show Kept w _ (fun k_ => P0_ k_) from by repeat (first | (with_reducible first | exact HK.out | apply Kept.alloc | apply Kept.drewN | apply Kept.drew | refine Kept.setCell ?_ (.inr GW148.out) _) | exact HK.out)).1) hk)), Kd.fresh' (Kd.R_lt (sq_r HO_0)) k_ hk, Kd.freshB (g := gb148) (o := .cells #[.string a1_0, .int .i64 a1_1, .bool a1_2, .string a1_3] 42 (0, 0)) (sq_l BK148) k_ hk⟩)); (case aO => exact (sq_r HO183)); (case aS => exact (below_size (by repeat (first | (with_reducible first | exact HB.out | apply below_alloc | apply pw_below_drewN | apply below_drew1 | refine below_set ?_ GE148.out) | exact HB.out)))); (case aL => have := LMc42.out; omega); intro v185 w54 ho hb hg hat; rw [← Ny184.out] at ho; have n0_ := Aside0.mk (Kd.R_after (ok := (fun k_ => (P0_ k_ ∨ w.heap.size ≤ k_) ∧ k_ ≠ gb148)) (sq_r HO_0) hg hat); have n1_ := Aside0.mk (blk_grown (g := gb148) (o := .cells #[.string a1_0, .int .i64 a1_1, .bool a1_2, .string a1_3] 42 (0, 0)) (sq_l BK148) hg (Kd.R_away HO183.out (fun _ hk => hk.2.2))); have n2_ := Aside0.mk (hb); have n3_ := Aside0.mk (Kept.of_grown (S := (fun k_ => P0_ k_)) hg (by repeat (first | (with_reducible first | exact HK.out | apply Kept.alloc | apply Kept.drewN | apply Kept.drew | refine Kept.setCell ?_ (.inr GW148.out) _) | exact HK.out)) (fun k_ e_ => (HO183.out.1 k_ e_).1)); have n4_ := Aside0.mk ((show Kd.C k42 w54 Ao47 y177.length y177 from by rw [Ny177.out]; exact Kd.C_take (m := (x6_1 : Int).toNat) ((Kd.R_reads' (Kd.R_after (ok := (fun k_ => (P0_ k_ ∨ w.heap.size ≤ k_) ∧ k_ ≠ gb148)) (sq_r HO_0) hg hat)).2.2) KL51.out)); have n5_ := Aside0.mk (ho); clear HO_0; clear BK148; clear HB; clear HK; clear HR180; clear HO183; have HO_0 := n0_; have BK148 := n1_; have HB := n2_; have HK := n3_; have HR180 := n4_; have HO186 := n5_; clear n0_ n1_ n2_ n3_ n4_ n5_; clear ho hb hg hat; have q55 : (x6_1 : Int) ≤ ((l0.length : Int) : Int) := sq_d; obtain ⟨i055, hi055, _, hsz55, _⟩ := info_parts info42; have hroom55 : l0.length ≤ co47 := (Kd.R_reads' HO_0.out).2.1; have hC55 : Kd.C k42 _ Ao47 l0.length l0 := (Kd.R_reads' HO_0.out).2.2; have q055 : (0 : Int) ≤ (x6_1 : Int) := sq_d; have hcut55 := cut_from (P := Try.prog) 24 42 .i64 Try.underlying24 hi055 4 hsz55 Ao47 l0.length co47 x6_1 q055 q55; have hr55 := Kd.C_drop (m := (x6_1 : Int).toNat) (c := co47) hC55 (by omega) hroom55; obtain ⟨A55, hA55⟩ : ∃ A1, A1 = (if co47 = (x6_1 : Int).toNat then Ao47 else (Ao47 : Option Addr).map (·.add ((x6_1 : Int).toNat * 4))) := ⟨_, rfl⟩; obtain ⟨c55, hc55⟩ : ∃ c1, c1 = co47 - (x6_1 : Int).toNat := ⟨_, rfl⟩; have hy55 : y187.length = l0.length - (x6_1 : Int).toNat := (by rw [Ny187.out, List.length_drop] <;> omega); rw [show (l0).drop (x6_1 : Int).toNat = y187 from Ny187.out.symm] at hr55; replace hr55 : Kd.C k42 _ A55 y187.length y187 := (by rw [hA55]; exact hr55); rw [← hy55, ← hA55, ← hc55] at hcut55; have HR190 := Aside0.mk hr55; have HC190 := Aside0.mk (show y187.length ≤ c55 from by rw [hy55, hc55]; exact Nat.sub_le_sub_right hroom55 _); clear hr55 hC55 hroom55 hi055 hsz55 hc55; have KY55 := Aside0.mk hy55; have KA55 := Aside0.mk hA55; clear hy55 hA55; have KL55 := Aside0.mk (show (x6_1 : Int).toNat ≤ l0.length from by omega); replace q55 := eq_true q55) | ((with_reducible refine gate_builtin (b := .append) (xs := #[.tmp 51, .tmp 54]) rfl ?_); at_builtin; refine Kd.R_append_rows k42 (w0 := w0) w0.heap.size rfl (.tmp 51) (.tmp 54) 24 42 (.agg #[(.string ⟨#[]⟩), (.int .i64 0), (.bool false), (.string ⟨#[]⟩)]) 48 rfl Try.underlying24 info42 rfl (by decide) (by omega) v185 y184 y187 _ _ _ (fun k_ => (P0_ k_ ∨ w.heap.size ≤ k_) ∧ some k_ ≠ (.slice Ao47 l0.length co47 : Value).ownBlock ∧ k_ ≠ gb148) (fun _ => False) rfl rfl ?aO ?aR (fun _ _ h => h) (fun _ h => h.elim) ?aF ?aB ?aS ?aL ?_; (case aR => repeat (first | exact (by repeat (first | (with_reducible exact HR190.out) | (with_reducible refine Kd.C_alloc ?_ _) | (with_reducible refine Kd.C_drewN ?_ _) | (with_reducible refine Kd.C_drew ?_) | exact HR190.out)) | (with_reducible refine Kd.C_alloc ?_ _) | (with_reducible refine Kd.C_drewN ?_ _) | (with_reducible refine Kd.C_drew ?_))); (case aB => exact (by repeat (first | (with_reducible first | exact HB.out | apply below_alloc | apply pw_below_drewN | apply below_drew1 | refine below_set ?_ GE148.out) | exact HB.out))); (case aF => exact (fun k_ hk => ⟨(.inr (Nat.le_trans (by first | exact HK.out.1 | exact (show Kept w _ (fun k_ => P0_ k_) from by repeat (first | (with_reducible first | exact HK.out | apply Kept.alloc | apply Kept.drewN | apply Kept.drew | refine Kept.setCell ?_ (.inr GW148.out) _) | exact HK.out)).1) hk)), Kd.fresh' (Kd.R_lt (sq_r HO_0)) k_ hk, Kd.freshB (g := gb148) (o := .cells #[.string a1_0, .int .i64 a1_1, .bool a1_2, .string a1_3] 42 (0, 0)) (sq_l BK148) k_ hk⟩)); (case aO => exact (sq_r HO186)); (case aS => exact (below_size (by repeat (first | (with_reducible first | exact HB.out | apply below_alloc | apply pw_below_drewN | apply below_drew1 | refine below_set ?_ GE148.out) | exact HB.out)))); (case aL => have := LMc45.out; omega); intro v192 w56 ho hb hg hat; rw [← Ny191.out] at ho; have n0_ := Aside0.mk (Kd.R_after (ok := (fun k_ => (P0_ k_ ∨ w.heap.size ≤ k_) ∧ k_ ≠ gb148)) (sq_r HO_0) hg hat); have n1_ := Aside0.mk (blk_grown (g := gb148) (o := .cells #[.string a1_0, .int .i64 a1_1, .bool a1_2, .string a1_3] 42 (0, 0)) (sq_l BK148) hg (Kd.R_away HO186.out (fun _ hk => hk.2.2))); have n2_ := Aside0.mk (hb); have n3_ := Aside0.mk (Kept.of_grown (S := (fun k_ => P0_ k_)) hg (by repeat (first | (with_reducible first | exact HK.out | apply Kept.alloc | apply Kept.drewN | apply Kept.drew | refine Kept.setCell ?_ (.inr GW148.out) _) | exact HK.out)) (fun k_ e_ => (HO186.out.1 k_ e_).1)); have n4_ := Aside0.mk ((show Kd.C k42 w56 Ao47 y177.length y177 from by rw [Ny177.out]; exact Kd.C_take (m := (x6_1 : Int).toNat) ((Kd.R_reads' (Kd.R_after (ok := (fun k_ => (P0_ k_ ∨ w.heap.size ≤ k_) ∧ k_ ≠ gb148)) (sq_r HO_0) hg hat)).2.2) KL51.out)); have n5_ := Aside0.mk ((show Kd.C k42 w56 A55 y187.length y187 from by rw [Ny187.out, KA55.out]; exact Kd.C_drop (m := (x6_1 : Int).toNat) (c := co47) ((Kd.R_reads' (Kd.R_after (ok := (fun k_ => (P0_ k_ ∨ w.heap.size ≤ k_) ∧ k_ ≠ gb148)) (sq_r HO_0) hg hat)).2.2) KL55.out ((Kd.R_reads' (Kd.R_after (ok := (fun k_ => (P0_ k_ ∨ w.heap.size ≤ k_) ∧ k_ ≠ gb148)) (sq_r HO_0) hg hat)).2.1))); have n6_ := Aside0.mk (ho); clear HO_0; clear BK148; clear HB; clear HK; clear HR180; clear HR190; clear HO186; have HO_0 := n0_; have BK148 := n1_; have HB := n2_; have HK := n3_; have HR180 := n4_; have HR190 := n5_; have HO193 := n6_; clear n0_ n1_ n2_ n3_ n4_ n5_ n6_; clear ho hb hg hat))
     go_ret2
     exact ⟨_, sq_w, by (with_reducible repeat (first | apply Kd.R_alloc | apply Kd.R_drewN | apply Kd.R_drew)); exact Kd.R_mono HO193.out (fun _ hk => hk.1), by repeat (first | (with_reducible first | exact HB.out | apply below_alloc | apply pw_below_drewN | apply below_drew1 | refine below_set ?_ GE148.out) | exact HB.out), by repeat (first | (with_reducible first | exact HK.out | apply Kept.alloc | apply Kept.drewN | apply Kept.drew | refine Kept.setCell ?_ (.inr GW148.out) _) | exact HK.out)⟩
    ·rw [if_neg c39] at H
     exact absurd H (by simp)

end Go.Proofs.Ytpfjlnfgekeobaa.QFnExactMergeVersions
