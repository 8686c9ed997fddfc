-- Written by this session's own program (wip/pp_patch.py, wip/pp.sh) out of the given translation. Not trusted: Lean checks it.
import Derived.Test.YtkoackkimdanjaaQFnExactPutEntryx0
import Derived.Test.YtkoackkimdanjaaQFnExactPutEntryx9
import Derived.Test.YtkoackkimdanjaaQFnExactPutEntryx10
namespace Go.Proofs.Ytkoackkimdanjaa.QFnExactPutEntry
open Go.RowKit Go.Proofs.YtkoackkimdanjaaW.PrintWords Go.Proofs.YtkoackkimdanjaaW.PrintLast Go.Proofs.YtkoackkimdanjaaW.PrintMore
attribute [local go_sem] max2_int min2_int max_two min_two max_three min_three max_four min_four   -- for this text's walks alone
open Go.Proofs.Ytkoackkimdanjaa.Ext
attribute [local go_sem high] ext_gtr ext_leq
set_option linter.unusedVariables false
set_option linter.unusedSimpArgs false

/-! ### bytealg_CompareString: function 97 -/
def bytealg_CompareString.f (a0 : ByteArray) (a1 : ByteArray) : Option (Int) := some (cmpB a0 a1)
set_option maxHeartbeats 8000000 in
set_option maxRecDepth 100000 in
theorem bytealg_CompareString.calls (a0 : ByteArray) (a1 : ByteArray) (r : Int) (w : World) (h : bytealg_CompareString.f a0 a1 = some r) :
  Calls Try.prog 97 #[.string a0, .string a1] w fun e w' => e = .returned (.int .i64 r) ∧ Drawn0 w w' := by
 obtain rfl := Option.some.inj h
 go_enter Try.func97, Try.ntmps97
 go_wp2
 rw [run_callFunc_extern Try.func112 (by kernel_rfl) (by kernel_rfl) (by kernel_rfl) (e := Extern.BytealgCompare.compare) (by kernel_rfl), Lib.run_compareString]
 simp only [Result.andThen]
 rw [Oper.upon_value]
 go_wp2
 go_ret
 exact ⟨rfl, Drawn0.refl _⟩

/-! ### strings_Compare: function 61 -/
def strings_Compare.f (a0 : ByteArray) (a1 : ByteArray) : Option (Int) := (bytealg_CompareString.f a0 a1).bind fun t249 => (some t249)
set_option maxHeartbeats 8000000 in
set_option maxRecDepth 100000 in
theorem strings_Compare.calls (a0 : ByteArray) (a1 : ByteArray) (r : Int) (w : World) (h : strings_Compare.f a0 a1 = some r) :
  Calls Try.prog 61 #[.string a0, .string a1] w fun e w' => e = .returned (.int .i64 r) ∧ Drawn0 w w' := by
 have H : ((bytealg_CompareString.f a0 a1).bind fun t249 => (some t249)) = some r := h
 clear h
 replace H := Option.bind_eq_some_iff.mp H
 obtain ⟨t249, A30, H⟩ := H
 replace H : (some t249) = some r := H
 have A3 := Aside0.mk A30
 clear A30
 obtain rfl := Option.some.inj H
 go_enter Try.func61, Try.ntmps61
 go_wp2_with (first | ((with_reducible refine gate_callee (f := 97) rfl ?_); refine goesL_ (some 7) rfl rfl Try.func97 (by kernel_rfl) rfl #[.string a0, .string a1] rfl (by (try simp only [List.map_toArray, List.map_cons, List.map_nil]); first | done | rfl | (simp only [List.length_drop, List.length_take]; rfl)) ?_; (with_reducible refine (bytealg_CompareString.calls a0 a1 t249 _ A3.out).mono ?_); rintro e w' ⟨rfl, ⟨nd, rfl⟩⟩; refine ⟨_, rfl, ?_⟩))
 go_ret
 exact ⟨by first | rfl | (simp; done) | (simp [ext_bne_nil, ext_beq_nil]; done) | (simp [*]; done), by repeat (first | exact Drawn0.refl _ | apply Drawn0.step)⟩

/-! ### impl_PutEntry_1: function 60 -/
def impl_PutEntry_1.f (a0_0 : ByteArray) (a0_1 : Int) (a1 : ByteArray) : Option (Int) := (strings_Compare.f a0_0 a1).bind fun t251 => (some t251)
set_option maxHeartbeats 8000000 in
set_option maxRecDepth 100000 in
theorem impl_PutEntry_1.calls (a0_0 : ByteArray) (a0_1 : Int) (a1 : ByteArray) (r : Int) (w : World) (h : impl_PutEntry_1.f a0_0 a0_1 a1 = some r) :
  Calls Try.prog 60 #[.agg #[.string a0_0, .int .i64 a0_1], .string a1] w fun e w' => e = .returned (.int .i64 r) ∧ Below w.heap.size w w' := by
 have hu48 := Try.underlying48
 have HB := Aside0.mk (Below.refl w.heap.size w)
 have H : ((strings_Compare.f a0_0 a1).bind fun t251 => (some t251)) = some r := h
 clear h
 replace H := Option.bind_eq_some_iff.mp H
 obtain ⟨t251, A30, H⟩ := H
 replace H : (some t251) = some r := H
 have A3 := Aside0.mk A30
 clear A30
 obtain rfl := Option.some.inj H
 go_enter Try.func60, Try.ntmps60
 go_wp2_with (first | ((with_reducible refine gate_dst (N := 2) rfl ?_); refine box_event ?hg (N := 2) ?hd (cs := #[.string a0_0, .int .i64 a0_1]) (t := 48) ?hr ?_; (case hd => rfl); (case hg => rfl); (case hr => first | (go_simp; done) | (go_simp; rfl)); intro gb250 hg w4 hbox hb; have n0_ := Aside0.mk (below_step sq_b hb); have n1_ := Aside0.mk (hbox); have n2_ := Aside0.mk ((by rw [hg]; exact (below_size sq_b) : w.heap.size ≤ gb250)); have n3_ := Aside0.mk ((by rw [hg]; exact (below_size sq_b) : w.heap.size ≤ gb250)); clear HB; have HB := n0_; have BK250 := n1_; have GW250 := n2_; have GE250 := n3_; clear n0_ n1_ n2_ n3_; clear hb hbox hg; have hcz5_0 : w4.cell? ⟨gb250, 0, none⟩ = some (.string a0_0) := (blk_cell BK250.out 0).trans rfl; have hcz5_1 : w4.cell? ⟨gb250, 1, none⟩ = some (.int .i64 a0_1) := (blk_cell BK250.out 1).trans rfl; have hfz5_0 := blk_frozen BK250.out 0; have hfz5_1 := blk_frozen BK250.out 1) | ((with_reducible refine gate_callee (f := 61) rfl ?_); refine goesL_ (some 8) rfl rfl Try.func61 (by kernel_rfl) rfl #[.string a0_0, .string a1] rfl (by (try simp only [List.map_toArray, List.map_cons, List.map_nil]); first | done | rfl | (simp only [List.length_drop, List.length_take]; rfl)) ?_; (with_reducible refine (strings_Compare.calls a0_0 a1 t251 _ A3.out).mono ?_); rintro e w' ⟨rfl, ⟨nd, rfl⟩⟩; refine ⟨_, rfl, ?_⟩))
 go_ret
 exact ⟨sq_w, by repeat (first | (with_reducible first | exact HB.out | apply below_alloc | apply pw_below_drewN | apply below_drew1 | refine below_set ?_ GE250.out) | exact HB.out)⟩

-- NOT PRINTED: function 98 (slices_overlaps_impl_Entry)

/-! ### slices_Reverse_impl_Entry: function 126 -/
def slices_Reverse_impl_Entry.l0 : Nat → List (S48) → Int → Int → Option ((List (S48)))
 | 0, _, _, _ => none
 | k + 1, x0, x2, x3 => if x2 < x3 then (if 0 ≤ x3 then (if x3 < (x0.length : Int) then (if 0 ≤ x2 then (if x2 < (x0.length : Int) then (slices_Reverse_impl_Entry.l0 k ((x0.set (x2 : Int).toNat (⟨(rd_T48 x0 x3).f0, (rd_T48 x0 x3).f1⟩ : S48)).set (x3 : Int).toNat (⟨(rd_T48 x0 x2).f0, (rd_T48 x0 x2).f1⟩ : S48)) (wrap64 (x2 + 1)) (wrap64 (x3 - 1))) else (none)) else (none)) else (none)) else (none)) else (some x0)
def slices_Reverse_impl_Entry.f (k : Nat) (l0 : List (S48)) : Option ((List (S48))) := slices_Reverse_impl_Entry.l0 k l0 0 (wrap64 ((l0.length : Int) - 1))
theorem slices_Reverse_impl_Entry.mono_l : ∀ k, (∀ y0 y1 y2, LeO (slices_Reverse_impl_Entry.l0 k y0 y1 y2) (slices_Reverse_impl_Entry.l0 (k + 1) y0 y1 y2))
 | 0 => fun _ _ _ r h => by simp [slices_Reverse_impl_Entry.l0] at h
 | k + 1 => by
  have ih0 := slices_Reverse_impl_Entry.mono_l k
  ·intro y0 y1 y2
   unfold slices_Reverse_impl_Entry.l0
   repeat' first
   | (with_reducible exact ih0 _ _ _)
   | (with_reducible exact LeO.refl _)
   | (with_reducible exact LeO.none _)
   | (with_reducible refine LeO.ite ?_ ?_)
   | (with_reducible refine LeO.bind ?_ (fun _ => ?_))
   | exact ih0 _ _ _
   | exact LeO.none _
   | refine LeO.ite ?_ ?_
   | refine LeO.bind ?_ (fun _ => ?_)
theorem slices_Reverse_impl_Entry.mono : ∀ a0 k, LeO (slices_Reverse_impl_Entry.f k a0) (slices_Reverse_impl_Entry.f (k + 1) a0) := by
 intro a0 k
 have ih0 := slices_Reverse_impl_Entry.mono_l k
 unfold slices_Reverse_impl_Entry.f
 repeat' first
   | (with_reducible exact ih0 _ _ _)
   | (with_reducible exact LeO.refl _)
   | (with_reducible exact LeO.none _)
   | (with_reducible refine LeO.ite ?_ ?_)
   | (with_reducible refine LeO.bind ?_ (fun _ => ?_))
   | exact ih0 _ _ _
   | exact LeO.none _
   | refine LeO.ite ?_ ?_
   | refine LeO.bind ?_ (fun _ => ?_)
def slices_Reverse_impl_Entry.T3 : Bool × List (List Nat × List Nat) := (true, [([], []), ([], []), ([], []), ([], []), ([], []), ([], []), ([4, 5], [4, 5]), ([6], [6]), ([], []), ([], []), ([8, 9], [8, 9]), ([10], [10]), ([0, 1, 0, 1, 4, 5, 6, 7, 11], [0, 1]), ([12, 7, 0, 1, 4, 5, 6, 7, 11], [7, 12]), ([2, 3, 0, 1, 2, 3, 4, 5, 6, 7, 8, 9, 10, 11, 12, 13], [2, 3]), ([14, 11, 13, 0, 1, 2, 3, 4, 5, 6, 7, 8, 9, 10, 11, 12, 13], [11, 14])])
def slices_Reverse_impl_Entry.B3 : List Nat := [0, 0, 0, 0, 0, 0, 48, 112, 0, 0, 768, 1792, 4083, 8179, 16383, 32767]
theorem slices_Reverse_impl_Entry.tab3 : rtab .any (opsOf Try.f126 3) = slices_Reverse_impl_Entry.T3 := by kernel_rfl
theorem slices_Reverse_impl_Entry.bits3 : waitsOk slices_Reverse_impl_Entry.T3.2 slices_Reverse_impl_Entry.B3 = true := by kernel_rfl
set_option maxHeartbeats 8000000 in
set_option maxRecDepth 100000 in
theorem slices_Reverse_impl_Entry.calls (k : Nat) (P0_ : Nat → Prop) (u9000_ : Value) (l0 : List (S48)) (r : List (S48)) (w0 w : World) (hB : Below w0.heap.size w0 w) (ho0 : Kd.R k48 48 w w0.heap.size P0_ u9000_ l0) (h : slices_Reverse_impl_Entry.f k l0 = some r) :
  Calls Try.prog 126 #[u9000_] w fun e w' => e = .returned (.tuple #[]) ∧ Kd.R k48 48 w' w0.heap.size (fun k_ => (P0_ k_ ∨ w.heap.size ≤ k_)) u9000_ r ∧ Below w0.heap.size w0 w' ∧ Kept w w' (fun k_ => P0_ k_) := by
 have hu48 := Try.underlying48
 have HO0 := Aside0.mk (show Kd.R k48 48 w w0.heap.size (fun k_ => (P0_ k_ ∨ w.heap.size ≤ k_)) u9000_ l0 from Kd.R_mono ho0 (fun k_ hk => (.inl hk)))
 have HK := Aside0.mk (Kept.refl w (fun k_ => P0_ k_))
 have HW0 := Aside0.mk hB.size
 have HB := Aside0.mk hB
 clear hB
 have H : (slices_Reverse_impl_Entry.l0 k l0 0 (wrap64 ((l0.length : Int) - 1))) = some r := h
 clear h
 have H' := Aside0.mk H
 clear H
 obtain ⟨Ao2, co2, eo2⟩ := Kd.R_slice HO0.out
 subst eo2
 go_enter Try.func126, Try.ntmps126
 go_wp2
 go_loopg [2, 3] k (fun kq v2 v3 w' => ∃ (x0_1 : List (S48)) (x2_1 : Int) (x3_1 : Int), v2 = .int .i64 x2_1 ∧ v3 = .int .i64 x3_1 ∧ Aside0 (slices_Reverse_impl_Entry.l0 kq x0_1 x2_1 x3_1 = some r) ∧ Aside0 (kq ≤ k) ∧ Aside0 (Kd.R k48 48 w' w0.heap.size (fun k_ => (P0_ k_ ∨ w.heap.size ≤ k_)) (.slice Ao2 l0.length co2) x0_1) ∧ Aside0 (Kept w w' (fun k_ => P0_ k_)) ∧ Aside0 (Below w0.heap.size w0 w'))
 case atStart => exact ⟨(l0), (0), (wrap64 ((l0.length : Int) - 1)), sq_e, sq_e, H', ⟨Nat.le_refl _⟩, ⟨by (with_reducible repeat (first | apply Kd.R_alloc | apply Kd.R_drewN | apply Kd.R_drew)); exact HO0.out⟩, ⟨sq_k⟩, ⟨sq_b⟩⟩
 case round =>
  clear H'
  (try clear c1); (try clear p2)
  obtain ⟨x0_1, x2_1, x3_1, rfl, rfl, HA, HK1, HO_0, HK, HB⟩ := hrel
  have hl0_1 := (Kd.R_reads' HO_0.out).1
  rw [hl0_1] at HO_0
  (try simp only [hl0_1])
  cases gk with
  | zero => exact absurd HA.out (by simp [slices_Reverse_impl_Entry.l0])
  | succ k1 =>
   have H := HA.out
   clear HA
   simp only [slices_Reverse_impl_Entry.l0] at H
   by_cases c3 : x2_1 < x3_1
   ·rw [if_pos c3] at H
    have c3b0 : decide (x2_1 < x3_1) = true := decide_eq_true c3
    clear c3
    by_cases c4 : 0 ≤ x3_1
    rotate_left
    ·rw [if_neg c4] at H
     exact absurd H (by simp)
    rw [if_pos c4] at H
    have c4b0 : decide (0 ≤ x3_1) = true := decide_eq_true c4
    clear c4
    by_cases c5 : x3_1 < (x0_1.length : Int)
    rotate_left
    ·rw [if_neg c5] at H
     exact absurd H (by simp)
    rw [if_pos c5] at H
    have c5b0 : decide (x3_1 < (x0_1.length : Int)) = true := decide_eq_true c5
    (try (have c5h0 := c5b0; simp only [hl0_1] at c5h0))
    clear c5
    by_cases c6 : 0 ≤ x2_1
    rotate_left
    ·rw [if_neg c6] at H
     exact absurd H (by simp)
    rw [if_pos c6] at H
    have c6b0 : decide (0 ≤ x2_1) = true := decide_eq_true c6
    clear c6
    by_cases c7 : x2_1 < (x0_1.length : Int)
    rotate_left
    ·rw [if_neg c7] at H
     exact absurd H (by simp)
    rw [if_pos c7] at H
    have c7b0 : decide (x2_1 < (x0_1.length : Int)) = true := decide_eq_true c7
    (try (have c7h0 := c7b0; simp only [hl0_1] at c7h0))
    clear c7
    obtain ⟨y254, hy254⟩ : ∃ y_ : List (S48), y_ = (x0_1.set (x2_1 : Int).toNat (⟨(rd_T48 x0_1 x3_1).f0, (rd_T48 x0_1 x3_1).f1⟩ : S48)) := ⟨_, rfl⟩
    replace H : (slices_Reverse_impl_Entry.l0 k1 (y254.set (x3_1 : Int).toNat (⟨(rd_T48 x0_1 x2_1).f0, (rd_T48 x0_1 x2_1).f1⟩ : S48)) (wrap64 (x2_1 + 1)) (wrap64 (x3_1 - 1))) = some r := by first | (rw [hy254]; with_reducible exact H) | (have H2_ := (Option.bind_some _ _).symm.trans H; rw [hy254]; with_reducible exact H2_) | (have H2_ := (Option.bind_some _ _).symm.trans H; with_reducible exact H2_) | with_reducible exact H | (rw [hy254]; exact H) | exact H
    have Ny254 := Aside0.mk hy254
    clear hy254
    obtain ⟨y255, hy255⟩ : ∃ y_ : List (S48), y_ = (y254.set (x3_1 : Int).toNat (⟨(rd_T48 x0_1 x2_1).f0, (rd_T48 x0_1 x2_1).f1⟩ : S48)) := ⟨_, rfl⟩
    replace H : (slices_Reverse_impl_Entry.l0 k1 y255 (wrap64 (x2_1 + 1)) (wrap64 (x3_1 - 1))) = some r := by first | (rw [hy255]; with_reducible exact H) | (have H2_ := (Option.bind_some _ _).symm.trans H; rw [hy255]; with_reducible exact H2_) | (have H2_ := (Option.bind_some _ _).symm.trans H; with_reducible exact H2_) | with_reducible exact H | (rw [hy255]; exact H) | exact H
    have Ny255 := Aside0.mk hy255
    clear hy255
    have H' := Aside0.mk H
    clear H
    try go_wp2
    have n0_ := Aside0.mk (Kd.R_drew HO_0.out)
    have n1_ := Aside0.mk (Kept.drew HK.out)
    have n2_ := Aside0.mk (below_drew1 HB.out)
    clear HO_0
    clear HK
    clear HB
    have HO_0 := n0_
    have HK := n1_
    have HB := n2_
    clear n0_ n1_ n2_
    have p252 : 0 ≤ (x3_1 : Int) := sq_d
    have q252 : x3_1 < (x0_1.length : Int) := sq_d
    obtain ⟨ad252, e252, hx252_0, hx252_1⟩ := at_T48 (Kd.R_reads' HO_0.out).2.2 x3_1 p252 q252
    cases e252
    replace p252 := eq_true p252
    replace q252 := eq_true q252
    have p253 : 0 ≤ (x2_1 : Int) := sq_d
    have q253 : x2_1 < (x0_1.length : Int) := sq_d
    obtain ⟨ad253, e253, hx253_0, hx253_1⟩ := at_T48 (Kd.R_reads' HO_0.out).2.2 x2_1 p253 q253
    obtain rfl : ad252 = ad253 := (by injection e253)
    replace p253 := eq_true p253
    replace q253 := eq_true q253
    have p8 : 0 ≤ (x2_1 : Int) := sq_d
    have q8 : (x2_1 : Int) < ((x0_1.length : Int) : Int) := sq_d
    obtain ⟨go8, co8, eo8, gb8, gl8, cl8, HG8⟩ := Kd.R_form HO_0.out (by omega)
    (first | cases eo8 | (injection eo8 with ea_ en_ ec_; (first | subst ea_ | (injection ea_ with ea_; subst ea_)); subst ec_; clear en_))
    have GB8 := Aside0.mk gb8
    have GG8 := Aside0.mk HG8
    clear gb8 gl8 HG8
    have HMgo8 := Aside0.mk (show (P0_ go8 ∨ w.heap.size ≤ go8) from (HO_0.out.1 _ rfl))
    (first | simp only [add_plain] at hx252_0 | skip)
    (first | simp only [add_plain] at hx252_1 | skip)
    (first | simp only [add_plain] at hx253_0 | skip)
    (first | simp only [add_plain] at hx253_1 | skip)
    obtain ⟨ce8, hcl8, hM8, hcc8, hfr8⟩ := Kd.R_elem HO_0.out z48 (x2_1 : Int) p8 q8
    obtain rfl := k48_openM hM8
    have hx8_0 : World.cell? _ ⟨go8, (x2_1 : Int).toNat * 2, none⟩ = some (.string ((rd_T48 x0_1 x2_1).f0)) := hcc8 0 _ rfl
    have hx8_1 : World.cell? _ ⟨go8, (x2_1 : Int).toNat * 2 + 1, none⟩ = some (.int .i64 ((rd_T48 x0_1 x2_1).f1)) := hcc8 1 _ rfl
    have hf8_0 : World.frozen? _ ⟨go8, (x2_1 : Int).toNat * 2, none⟩ = false := hfr8 0
    have hf8_1 : World.frozen? _ ⟨go8, (x2_1 : Int).toNat * 2 + 1, none⟩ = false := hfr8 1
    clear hcl8 hcc8 hfr8; (try clear hM8)
    replace p8 := eq_true p8
    replace q8 := eq_true q8
    obtain ⟨ce11, hcl11, hM11, hcc11, hfr11⟩ := Kd.R_elem HO_0.out z48 (x2_1 : Int) (sq_d) (by have h_ : (x2_1 : Int) < ((x0_1.length : Int) : Int) := sq_d; first | exact h_ | (have e_ := (Kd.R_reads' HO_0.out).1; omega) | simpa using h_)
    obtain rfl := k48_openM hM11
    have HP11 := (Kd.R_seg HO_0.out (x2_1 : Int) (sq_d) (by have h_ : (x2_1 : Int) < ((x0_1.length : Int) : Int) := sq_d; first | exact h_ | (have e_ := (Kd.R_reads' HO_0.out).1; omega) | simpa using h_) (seg := [.string ((rd_T48 x0_1 x3_1).f0), .int .i64 ((rd_T48 x0_1 x3_1).f1)]) (j := 0) hcl11 hcc11 (show 2 ≤ 2 from by decide) (x' := (⟨(rd_T48 x0_1 x3_1).f0, (rd_T48 x0_1 x3_1).f1⟩ : S48)) (k48_mkM _ _ _ (⟨(rd_T48 x0_1 x3_1).f0, (rd_T48 x0_1 x3_1).f1⟩ : S48) ) (fun _ hk => hk)).1
    rw [← Ny254.out] at HP11
    have HQ11 := Aside0.mk HP11
    clear hcl11 hcc11 hfr11 HP11; (try clear hM11)
    have p9 : 0 ≤ (x3_1 : Int) := sq_d
    have q9 : (x3_1 : Int) < ((x0_1.length : Int) : Int) := sq_d
    obtain ⟨ce9, hcl9, hM9, hcc9, hfr9⟩ := Kd.R_elem HQ11.out z48 (x3_1 : Int) p9 q9
    obtain rfl := k48_openM hM9
    have hx9_0 : World.cell? _ ⟨go8, (x3_1 : Int).toNat * 2, none⟩ = some (.string ((rd_T48 y254 x3_1).f0)) := hcc9 0 _ rfl
    have hx9_1 : World.cell? _ ⟨go8, (x3_1 : Int).toNat * 2 + 1, none⟩ = some (.int .i64 ((rd_T48 y254 x3_1).f1)) := hcc9 1 _ rfl
    have hf9_0 : World.frozen? _ ⟨go8, (x3_1 : Int).toNat * 2, none⟩ = false := hfr9 0
    have hf9_1 : World.frozen? _ ⟨go8, (x3_1 : Int).toNat * 2 + 1, none⟩ = false := hfr9 1
    clear hcl9 hcc9 hfr9; (try clear hM9)
    replace p9 := eq_true p9
    replace q9 := eq_true q9
    obtain ⟨ce12, hcl12, hM12, hcc12, hfr12⟩ := Kd.R_elem HQ11.out z48 (x3_1 : Int) (sq_d) (by have h_ : (x3_1 : Int) < ((x0_1.length : Int) : Int) := sq_d; first | exact h_ | (have e_ := (Kd.R_reads' HO_0.out).1; omega) | simpa using h_)
    obtain rfl := k48_openM hM12
    have HP12 := (Kd.R_seg HQ11.out (x3_1 : Int) (sq_d) (by have h_ : (x3_1 : Int) < ((x0_1.length : Int) : Int) := sq_d; first | exact h_ | (have e_ := (Kd.R_reads' HO_0.out).1; omega) | simpa using h_) (seg := [.string ((rd_T48 x0_1 x2_1).f0), .int .i64 ((rd_T48 x0_1 x2_1).f1)]) (j := 0) hcl12 hcc12 (show 2 ≤ 2 from by decide) (x' := (⟨(rd_T48 x0_1 x2_1).f0, (rd_T48 x0_1 x2_1).f1⟩ : S48)) (k48_mkM _ _ _ (⟨(rd_T48 x0_1 x2_1).f0, (rd_T48 x0_1 x2_1).f1⟩ : S48) ) (fun _ hk => hk)).1
    rw [← Ny255.out] at HP12
    have HQ12 := Aside0.mk HP12
    clear hcl12 hcc12 hfr12 HP12; (try clear hM12)
    refine start_ (n := 16) (S := fun w' => w'.cell? ⟨go8, ((x3_1).toNat * 2), none⟩ = some (.string ((rd_T48 x0_1 x3_1).f0)) ∧ w'.cell? ⟨go8, ((x3_1).toNat * 2) + 1, none⟩ = some (.int .i64 ((rd_T48 x0_1 x3_1).f1)) ∧ w'.cell? ⟨go8, ((x2_1).toNat * 2), none⟩ = some (.string ((rd_T48 x0_1 x2_1).f0)) ∧ w'.cell? ⟨go8, ((x2_1).toNat * 2) + 1, none⟩ = some (.int .i64 ((rd_T48 x0_1 x2_1).f1))) (ds := [13, 15]) #[false, false, false, false, false, false, false, false, false, false, false, false, false, false, false, false] (by kernel_rfl) rfl rfl ⟨hx252_0, hx252_1, hx253_0, hx253_1⟩ (fun hHeld => ?_); refine with_tabW slices_Reverse_impl_Entry.tab3 slices_Reverse_impl_Entry.bits3 (fun HT_ HW_ => ?_)
    generalize wr.drew = w10 at HO_0 HK HB GG8 HQ11 HQ12 hf8_0 hf8_1 hf9_0 hf9_1 hx252_0 hx252_1 hx253_0 hx253_1 hx8_0 hx8_1 hx9_0 hx9_1 hHeld ⊢
    (try (have hzf8_0 := hf8_0; simp [go_sem, World.setCells, show k48.sz = 2 from rfl] at hzf8_0))
    (try (have hzf8_1 := hf8_1; simp [go_sem, World.setCells, show k48.sz = 2 from rfl] at hzf8_1))
    (try (have hzf9_0 := hf9_0; simp [go_sem, World.setCells, show k48.sz = 2 from rfl] at hzf9_0))
    (try (have hzf9_1 := hf9_1; simp [go_sem, World.setCells, show k48.sz = 2 from rfl] at hzf9_1))
    (try (have hzx8_0 := hx8_0; simp [go_sem, World.setCells, show k48.sz = 2 from rfl] at hzx8_0))
    (try (have hzx8_1 := hx8_1; simp [go_sem, World.setCells, show k48.sz = 2 from rfl] at hzx8_1))
    (try (have hzx9_0 := hx9_0; simp [go_sem, World.setCells, show k48.sz = 2 from rfl] at hzx9_0))
    (try (have hzx9_1 := hx9_1; simp [go_sem, World.setCells, show k48.sz = 2 from rfl] at hzx9_1))
    refine pu_ 0 (some 14) #[true, false, false, false, false, false, false, false, false, false, false, false, false, false, false, false] HT_ ?_
    refine pu_ 1 (some 15) #[true, true, false, false, false, false, false, false, false, false, false, false, false, false, false, false] HT_ ?_
    refine pu_ 2 (some 16) #[true, true, true, false, false, false, false, false, false, false, false, false, false, false, false, false] HT_ ?_
    refine pu_ 3 (some 17) #[true, true, true, true, false, false, false, false, false, false, false, false, false, false, false, false] HT_ ?_
    refine pu_ 4 (some 18) #[true, true, true, true, true, false, false, false, false, false, false, false, false, false, false, false] HT_ ?_
    refine pu_ 5 (some 19) #[true, true, true, true, true, true, false, false, false, false, false, false, false, false, false, false] HT_ ?_
    refine pu_ 6 (some 20) #[true, true, true, true, true, true, true, false, false, false, false, false, false, false, false, false] HT_ ?_
    refine pu_ 8 (some 22) #[true, true, true, true, true, true, true, false, true, false, false, false, false, false, false, false] HT_ ?_
    refine pu_ 9 (some 23) #[true, true, true, true, true, true, true, false, true, true, false, false, false, false, false, false] HT_ ?_
    refine pu_ 10 (some 24) #[true, true, true, true, true, true, true, false, true, true, true, false, false, false, false, false] HT_ ?_
    refine take_ (i := 7) (N := some 21) (v := ?_) (a' := ?_) #[true, true, true, true, true, true, true, true, true, true, true, false, false, false, false, false] rfl rfl (take_ofW HT_.out HW_.out (by kernel_rfl)) (fun _ _ _ h => h) (Or.inl ⟨by rfl, ?_⟩) hHeld ?_ ?_
    rotate_left
    ·rintro w' ⟨s0, s1, s2, s3⟩
     go_simp
     with_reducible rfl
    rotate_left
    ·simp only [Act.put, List.setIfInBounds_toArray, List.set_cons_zero, List.set_cons_succ, i64_w, i32_w]
     rfl
    refine take_ (i := 11) (N := some 25) (v := ?_) (a' := ?_) #[true, true, true, true, true, true, true, true, true, true, true, true, false, false, false, false] rfl rfl (take_ofW HT_.out HW_.out (by kernel_rfl)) (fun _ _ _ h => h) (Or.inl ⟨by rfl, ?_⟩) hHeld ?_ ?_
    rotate_left
    ·rintro w' ⟨s0, s1, s2, s3⟩
     go_simp
     with_reducible rfl
    rotate_left
    ·simp only [Act.put, List.setIfInBounds_toArray, List.set_cons_zero, List.set_cons_succ, i64_w, i32_w]
     rfl
    refine pu_ 12 (some 26) #[true, true, true, true, true, true, true, true, true, true, true, true, true, false, false, false] HT_ ?_
    refine last_ (i := 13) (N := none) #[true, true, true, true, true, true, true, true, true, true, true, true, true, true, false, false] rfl rfl (one_of HT_.out (by kernel_rfl)) (by decide) (fun K hK => ?_)
    refine skip_ (w1 := ?_) (by rfl) rfl ?_ ?_
    rotate_left
    ·go_simp
     rfl
    refine hK.out _ _ ?_
    clear hK K
    refine pu_ 14 (some 27) #[true, true, true, true, true, true, true, true, true, true, true, true, true, true, true, false] HT_ ?_
    refine last_ (i := 15) (N := none) #[true, true, true, true, true, true, true, true, true, true, true, true, true, true, true, true] rfl rfl (one_of HT_.out (by kernel_rfl)) (by decide) (fun K hK => ?_)
    refine skip_ (w1 := ?_) (by rfl) rfl ?_ ?_
    rotate_left
    ·go_simp
     rfl
    refine hK.out _ _ ?_
    clear hK K
    refine done_ (done_of HT_.out (by kernel_rfl)) ?_
    try go_wp2
    (try simp only [← hl0_1])
    go_roundg k1
    case measure => have := HK1.out; omega
    case rel => exact ⟨(y255), (wrap64 (x2_1 + 1)), (wrap64 (x3_1 - 1)), sq_e, sq_e, H', ⟨by have := HK1.out; omega⟩, ⟨by (try simp only [hl0_1]); (with_reducible repeat (first | apply Kd.R_alloc | apply Kd.R_drewN | apply Kd.R_drew)); exact HQ12.out⟩, ⟨by repeat (first | (with_reducible first | exact HK.out | apply Kept.alloc | apply Kept.drewN | apply Kept.drew | refine Kept.setCell ?_ HMgo8.out _ | refine Kept.setCell ?_ HMgo8.out _ | refine Kept.setCell ?_ HMgo8.out _ | refine Kept.setCell ?_ HMgo8.out _) | exact HK.out)⟩, ⟨by repeat (first | (with_reducible first | exact HB.out | apply below_alloc | apply pw_below_drewN | apply below_drew1 | refine below_set ?_ GB8.out | refine below_set ?_ GB8.out | refine below_set ?_ GB8.out | refine below_set ?_ GB8.out) | exact HB.out)⟩⟩
   ·rw [if_neg c3] at H
    have c3b0 : decide (x2_1 < x3_1) = false := decide_eq_false c3
    clear c3
    obtain rfl := Option.some.inj H
    go_wp2
    first | go_end0 | ((try simp only [Exit.inBlock, Exit.then]); refine bodyPost_ret (results_none rfl _ _ _) rfl ?_)
    exact ⟨sq_w, (by first | exact (sq_r HO_0) | (simp only [hl0_1]; exact (sq_r HO_0))), sq_b, sq_k⟩

-- NOT PRINTED: function 113 (slices_rotateLeft_impl_Entry)

-- NOT PRINTED: function 99 (slices_rotateRight_impl_Entry)

/-! ### slices_Insert_impl_Entry: function 62 (by hand) -/
def slices_Insert_impl_Entry.f (l0 : List S48) (a1 : Int) (l2 : List S48) : Option (List S48) := if 0 ≤ a1 ∧ a1 ≤ l0.length ∧ l0.length < 1000000 then (match l2 with | [x] => some (l0.take a1.toNat ++ [x] ++ l0.drop a1.toNat) | _ => none) else none
set_option maxHeartbeats 8000000 in
set_option maxRecDepth 100000 in
theorem slices_Insert_impl_Entry.calls (P0_ : Nat → Prop) (u9000_ : Value) (l0 : List S48) (a1 : Int) (A2 : Option Addr) (c2 : Nat) (l2 : List S48) (r : List S48) (w0 w : World) (hB : Below w0.heap.size w0 w) (ho0 : Kd.R k48 48 w w0.heap.size P0_ u9000_ l0) (hr2 : ∀ W_, Kept w W_ (fun k_ => P0_ k_) → Kd.C k48 W_ A2 l2.length l2) (hc2 : l2.length ≤ c2) (h : slices_Insert_impl_Entry.f l0 a1 l2 = some r) :
  Calls Try.prog 62 #[u9000_, .int .i64 a1, .slice A2 l2.length c2] w fun e w' => ∃ v0_ : Value, e = .returned (v0_) ∧ Kd.R k48 48 w' w0.heap.size (fun k_ => (P0_ k_ ∨ w.heap.size ≤ k_)) v0_ r ∧ Below w0.heap.size w0 w' ∧ Kept w w' (fun k_ => P0_ k_) := by
 obtain ⟨enc, henc⟩ : ∃ enc : S48 → List Value, enc = (fun x => [.string x.f0, .int .i64 x.f1]) := ⟨_, rfl⟩
 have hM : ∀ w base ok x cs, Kd.M k48 w base ok x cs ↔ cs = enc x := by subst henc; exact (fun w base ok x cs => ⟨fun h => k48_openM h, fun h => by rw [h]; exact k48_mkM w base ok x⟩)
 have hKo : ∀ w x cs, Kd.K k48 w x cs → cs = enc x := by subst henc; exact (fun w x cs h => k48_open h)
 have hke : ∀ x, (enc x).length = 2 := by subst henc; exact fun _ => rfl
 have hone : ∀ x, ∀ v ∈ enc x, v.oneCell' = true := by intro x; exact k48.K_one (k48.K_of_M ((hM w 0 (fun _ => True) x (enc x)).2 rfl))
 have honeL : ∀ l : List S48, ∀ v ∈ l.flatMap enc, v.oneCell' = true := fun l v hv => by
  obtain ⟨x, _, hx⟩ := List.mem_flatMap.1 hv
  exact hone x v hx
 unfold slices_Insert_impl_Entry.f at h
 by_cases hc : 0 ≤ a1 ∧ a1 ≤ l0.length ∧ l0.length < 1000000
 rotate_left
 ·rw [if_neg hc] at h
  exact absurd h (by simp)
 rw [if_pos hc] at h
 obtain ⟨x, rfl, rfl⟩ : ∃ x, l2 = [x] ∧ r = l0.take a1.toNat ++ [x] ++ l0.drop a1.toNat := by
  match l2, h with
  | [x], h => exact ⟨x, rfl, (Option.some.inj h).symm⟩
  | [], h => exact absurd h (by simp)
  | _ :: _ :: _, h => exact absurd h (by simp)
 obtain ⟨hi1, hi2, hi3⟩ := hc
 obtain ⟨i, rfl⟩ : ∃ i : Nat, a1 = (i : Int) := ⟨a1.toNat, by omega⟩
 rw [Int.toNat_natCast]
 clear h
 -- the new element's cells
 have hC := hr2 w (Kept.refl _ _)
 obtain ⟨ad, rfl, hca⟩ := hC.2.2 (by simp)
 have hadP : ¬ P0_ ad.block := Kd.foot_neS hr2 (by simp) (by decide)
 have hadlt : ad.block < w.heap.size := Kd.foot_ltS hr2 (by simp) (by decide)
 obtain ⟨cx, _, hKx, hcell⟩ := hca 0 x (by simp)
 obtain rfl := hKo _ _ _ hKx
 have hbk : ∀ j, (ad.add j).block = ad.block := fun j => by unfold Addr.add; split <;> rfl
 have hsrc : ∀ W : World, (∀ q, q < w.heap.size → ¬ P0_ q → W.heap[q]? = w.heap[q]?) → ∀ j v, (enc x)[j]? = some v → W.cell? (ad.add j) = some v := fun W hW j v hv => by
  have h1 := hcell j v hv
  rw [Nat.zero_mul, Nat.zero_add] at h1
  have h2 := hW ad.block hadlt hadP
  unfold World.cell? at h1 ⊢
  rw [hbk] at h1 ⊢
  rw [h2]; exact h1
 have mixed : Try.prog.follows Departure.mixedOrders = true := by kernel_rfl
 have HX := Aside0.mk hsrc
 have HCC := Aside0.mk hC
 have HB := Aside0.mk hB
 have HO := Aside0.mk ho0
 have HC2 := Aside0.mk hc2
 clear hsrc hcell hca hC hr2 hB hKx hbk
 have hlen : (([x] : List S48).length : Int) = 1 := rfl
 have hsum : wrap64 ((l0.length : Int) + 1) = (l0.length : Int) + 1 := by unfold wrap64; omega
 have hsumi : wrap64 ((i : Int) + 1) = (i : Int) + 1 := by unfold wrap64; omega
 by_cases hin : i = l0.length
 ·-- at the end
  subst hin
  rw [List.take_length, List.drop_length, List.append_nil]
  rcases R_block hM (by intro x; rw [hke]; rfl) (by decide) HO.out with ⟨rfl, rfl⟩ | ⟨g, c, cur, rfl, hbg, hok, hh, hcap, hcm, hcs, htk⟩
  ·rw [List.nil_append]
   go_enter Try.func62, Try.ntmps62
   go_wp2_with (first | ((with_reducible refine gate_builtin (b := .append) (xs := #[.tmp 23, .tmp 24]) rfl ?_); at_builtin; refine Kd.R_append_rows k48 (Rr := Kd.K k48 w) (w0 := w0) w0.heap.size rfl (.tmp 23) (.tmp 24) 27 48 (.agg #[(.string ⟨#[]⟩), (.int .i64 0)]) 24 rfl Try.underlying27 info48 rfl (by decide) (by omega) (.slice none 0 0) [] [x] (some ad) 1 c2 (fun k => P0_ k ∨ w.heap.size ≤ k) (fun _ => False) rfl rfl ?aO ?aR ?aK (fun _ h => h.elim) ?aF HB.out HB.out.size ?aL ?_; (case aO => exact Kd.R_mono HO.out (fun _ h => .inl h)); (case aR => exact HCC.out); (case aK => exact fun y cs h => (hM _ _ _ _ _).2 (hKo _ _ _ h)); (case aF => exact fun k hk => .inr hk); (case aL => decide); intro v1 w1 ho hb hg hat; have HN := Aside0.mk ho; have HNB := Aside0.mk hb; have HNG := Aside0.mk hg; clear ho hb hg hat))
   go_ret
   exact ⟨_, rfl, HN.out, HNB.out, Kept.of_grown HNG.out (Kept.refl _ _) (fun k hk => .inl (HO.out.1 k hk))⟩
  ·have hcm2 : c ≤ 9223372036854775807 := by simpa [maxLen] using hcm
   go_enter Try.func62, Try.ntmps62
   go_wp2_with (first | ((with_reducible refine gate_builtin (b := .append) (xs := #[.tmp 23, .tmp 24]) rfl ?_); at_builtin; refine Kd.R_append_rows k48 (Rr := Kd.K k48 w) (w0 := w0) w0.heap.size rfl (.tmp 23) (.tmp 24) 27 48 (.agg #[(.string ⟨#[]⟩), (.int .i64 0)]) 24 rfl Try.underlying27 info48 rfl (by decide) (by omega) (.slice (some ⟨g, 0, none⟩) l0.length c) l0 [x] (some ad) 1 c2 (fun k => P0_ k ∨ w.heap.size ≤ k) (fun _ => False) rfl rfl ?aO ?aR ?aK (fun _ h => h.elim) ?aF HB.out HB.out.size ?aL ?_; (case aO => exact Kd.R_mono HO.out (fun _ h => .inl h)); (case aR => exact HCC.out); (case aK => exact fun y cs h => (hM _ _ _ _ _).2 (hKo _ _ _ h)); (case aF => exact fun k hk => .inr hk); (case aL => omega); intro v1 w1 ho hb hg hat; have HN := Aside0.mk ho; have HNB := Aside0.mk hb; have HNG := Aside0.mk hg; clear ho hb hg hat))
   all_goals
    go_ret
    exact ⟨_, rfl, HN.out, HNB.out, Kept.of_grown HNG.out (Kept.refl _ _) (fun k hk => .inl (HO.out.1 k hk))⟩
 ·obtain ⟨g, c, cur, rfl, hbg, hok, hh, hcap, hcm, hcs, htk⟩ := (R_block hM (by intro x; rw [hke]; rfl) (by decide) HO.out).resolve_left (fun h => by rw [h.2] at hin hi2; simp at hin hi2; omega)
  have hil : i < l0.length := by omega
  have hci : ¬ (c = i) := by omega
  have hii : (i : Int) ≤ (l0.length : Int) + 1 := by omega
  have hne : ad.block ≠ g := fun e => hadP (by rw [e]; exact hok)
  have hcm2 : c ≤ 9223372036854775807 := by simpa [maxLen] using hcm
  obtain ⟨A, hA⟩ : ∃ A, A = (l0.take i).flatMap enc := ⟨_, rfl⟩
  obtain ⟨B, hBv⟩ : ∃ B, B = (l0.drop i).flatMap enc := ⟨_, rfl⟩
  obtain ⟨T, hT⟩ : ∃ T, T = cur.toList.drop (l0.length * 2) := ⟨_, rfl⟩
  have hAl : A.length = i * 2 := by rw [hA, flatMap_len hke, List.length_take, Nat.min_eq_left (by omega)]
  have hBl : B.length = (l0.length - i) * 2 := by rw [hBv, flatMap_len hke, List.length_drop]
  have hAB : cur.toList = A ++ B ++ T := by
   rw [hA, hBv, ← List.flatMap_append, List.take_append_drop, ← htk, hT]
   exact (List.take_append_drop _ _).symm
  have hTl : T.length = c * 2 - l0.length * 2 := by rw [hT, List.length_drop, Array.length_toList, hcs]; rfl
  have hB1 : ∀ v ∈ B, v.oneCell' = true := by rw [hBv]; exact honeL _
  have hcurB : ∀ j v, B[j]? = some v → cur[i * 2 + j]? = some v := fun j v hv => by
   rw [← Array.getElem?_toList, hAB, List.append_assoc, List.getElem?_append_right (by omega), hAl, Nat.add_sub_cancel_left, List.getElem?_append_left (List.getElem?_eq_some_iff.1 hv).1]
   exact hv
  have hsz : (Try.prog.info? 48).map (·.size) = some 2 := by
   obtain ⟨i0, h1, hz⟩ := Option.map_eq_some_iff.1 info48
   rw [h1]
   injection hz with _ hz
   injection hz with hz _
   simp [hz]
  have hEx : (enc x).length = 2 := hke x
  have hfin : (l0.take i ++ [x] ++ l0.drop i).flatMap enc = A ++ enc x ++ B := by rw [List.flatMap_append, List.flatMap_append, ← hA, ← hBv]; simp
  have hrl : (l0.take i ++ [x] ++ l0.drop i).length = l0.length + 1 := by simp only [List.length_append, List.length_take, List.length_drop, List.length_singleton]; omega
  have HBl := Aside0.mk hBl
  have HAl := Aside0.mk hAl
  have HTl := Aside0.mk hTl
  have HAB := Aside0.mk hAB
  have HB1 := Aside0.mk hB1
  have HCB := Aside0.mk hcurB
  have HSZ := Aside0.mk hsz
  have HEX := Aside0.mk hEx
  have HFIN := Aside0.mk hfin
  have HRL := Aside0.mk hrl
  have HH := Aside0.mk hh
  have HCS := Aside0.mk (show cur.size = c * 2 from hcs)
  have HMC := Aside0.mk hcm
  have HBG := Aside0.mk hbg
  have HOK := Aside0.mk hok
  have HM := Aside0.mk hM
  have HKE := Aside0.mk hke
  have HON := Aside0.mk hone
  have HLEN : (l0.take i ++ x :: l0.drop i) = (l0.take i ++ [x] ++ l0.drop i) := by simp
  have HLE := Aside0.mk HLEN
  have HNE := Aside0.mk hne
  clear hBl hAl hTl hAB hB1 hcurB hsz hEx hfin hrl hh hcs hcm hbg hok hM hKo hke hone honeL HLEN htk hA hBv hT henc hlen
  by_cases hroom : l0.length + 1 ≤ c
  ·have hr1 : (l0.length : Int) + 1 ≤ (c : Int) := by omega
   have hci1 : ¬ (c = i + 1) := by omega
   have HTK := Aside0.mk (show 2 ≤ T.length by have := HTl.out; omega)
   have hov : (callFunc 98 #[.slice (some ad) 1 c2, .slice (some ⟨g, (i + 1) * 2, none⟩) (l0.length - i) (c - (i + 1))]).run Try.prog w = .ok (.value (.bool false)) w := by
    rw [run_callFunc_extern Try.func98 (by kernel_rfl) (by kernel_rfl) (by kernel_rfl) (e := Extern.SlicesOverlaps.overlaps #[27, 27] #[4]) (by kernel_rfl)]
    obtain ⟨v0, hv0⟩ : ∃ v, w.cell? ad = some v := by
     have h1 := HX.out w (fun _ _ _ => rfl) 0 ((enc x)[0]'(by rw [HEX.out]; decide)) (List.getElem?_eq_getElem _)
     rw [Addr.add_zero'] at h1
     exact ⟨_, h1⟩
    rw [run_overlaps_own w 27 4 48 Try.underlying27 2 (fun W => by obtain ⟨i0, h1, hz⟩ := Option.map_eq_some_iff.1 info48; injection hz with _ hz; injection hz with hz _; simp [Go.sizeOf, typeInfo, h1, hz]) ad ⟨g, (i + 1) * 2, none⟩ 1 c2 (l0.length - i) (c - (i + 1)) HNE.out hv0 HH.out (by rw [HCS.out]; show 0 < c * 2; omega)]
    rfl
   go_enter Try.func62, Try.ntmps62
   go_wp2_with (simp only [hov])
   have hqw : IntKind.i64.wrap ((i : Int) + 1) = (i : Int) + 1 := by rw [IntKind.wrap_i64]; omega
   have hqb : (0 : Int) ≤ (i : Int) + 1 := by omega
   have hqn : ((i : Int) + 1).toNat = i + 1 := by omega
   have hqi : (i : Int) + 1 ≤ (l0.length : Int) + 1 := by omega
   go_region_law (refine copy_block_step rfl (.tmp 73) (.tmp 76) 27 27 48 rfl 2 (l0.length - i) g ((i + 1) * 2) (l0.length - i) (c - (i + 1)) ⟨g, i * 2, none⟩ (l0.length + 1 - i) (c - i) (by simp [Act.eval, Act.put]) (by simp [Act.eval, Act.put]) cur 48 B Try.underlying27 HSZ.out HH.out (by simp only [Nat.min_def]; split <;> omega) HBl.out (fun j v hv => by rw [add_at]; exact (blk_cell (w := w.drew) HH.out _).trans (HCB.out j v hv)) (by rw [HCS.out, HBl.out]; show (i + 1) * 2 + (l0.length - i) * 2 ≤ c * 2; omega) HB1.out ?_; intro w1 hw1 hg1)
   have HW1 := Aside0.mk hw1
   have HG1 := Aside0.mk (show w.grownBy w1 (some g) from ⟨hg1.os, hg1.tape, hg1.output, hg1.size, hg1.block⟩)
   clear hw1 hg1 hov hqw hqb hqn
   go_wp2_with ((with_reducible refine gate_builtin (b := .copy) (xs := #[.tmp 80, .tmp 81]) rfl ?_); refine copy_block rfl (.tmp 80) (.tmp 81) 27 27 48 rfl 2 1 g (i * 2) (l0.length + 1 - i) (c - i) ad 1 c2 rfl rfl _ 48 (enc x) Try.underlying27 HSZ.out HW1.out (by simp only [Nat.min_def]; split <;> omega) (by rw [HEX.out]) (HX.out w1 (fun q hq hP => HG1.out.block q hq (fun e => hP (by injection e with e; rw [e]; exact HOK.out)))) ?fit (HON.out x) ?_; (case fit => simp only [List.size_toArray, List.length_append, List.length_take, List.length_drop, Array.length_toList, HCS.out, HBl.out, HEX.out]; show _ ≤ _; omega); intro w2 hw2 hg2; have HW2 := Aside0.mk hw2; have HG2 := Aside0.mk hg2; clear hw2 hg2)
   go_ret
   have hg12 := World.grownBy.trans HG1.out HG2.out
   have hsh := shift_list (A := A) (B := B) (T := T) (E := enc x) HAl.out HBl.out HEX.out HTK.out
   refine ⟨_, rfl, ?_, HB.out.grown hg12 HB.out.size (fun k hk => by injection hk with hk; rw [← hk]; exact HBG.out), Kept.of_grown hg12 (Kept.refl _ _) (fun k hk => .inl (by injection hk with hk; rw [← hk]; exact HOK.out))⟩
   rw [HLE.out]
   refine R_of_block HM.out (by intro x; rw [HKE.out]; rfl) HBG.out (.inl HOK.out) HW2.out (by rw [HRL.out]) hroom HMC.out ?_ ?_
   ·simp only [List.size_toArray, List.length_append, List.length_take, List.length_drop, Array.length_toList, HCS.out, HBl.out, HEX.out, List.toList_toArray]
    show _ = c * 2
    omega
   ·show List.take ((l0.length + 1) * 2) _ = _
    have e1 : (i + 1) * 2 = i * 2 + 2 := by omega
    rw [HFIN.out]
    simp only [List.toList_toArray, HEX.out, e1, HAB.out, HBl.out]
    rw [hsh]
    exact List.take_left' (by simp only [List.length_append]; have := HAl.out; have := HBl.out; have := HEX.out; omega)
  ·have hr1 : ¬ ((l0.length : Int) + 1 ≤ (c : Int)) := by omega
   have hr2 : (c : Int) < (l0.length : Int) + 1 := by omega
   have hqk : (l0.length : Int) + 1 - (i : Int) = ((l0.length + 1 - i : Nat) : Int) := by omega
   have HQK := Aside0.mk hqk
   clear hqk
   go_enter Try.func62, Try.ntmps62
   go_wp2_with (first | ((with_reducible refine gate_builtin (b := .append) (xs := #[.tmp 34, .tmp 39]) rfl ?_); refine zeros_new rfl (.tmp 34) (.tmp 39) 27 3 48 rfl .i64 .i64 (.agg #[(.string ⟨#[]⟩), (.int .i64 0)]) 2 24 Try.underlying27 Try.underlying3 info48 rfl (by decide) (by decide) g i c (l0.length + 1 - i) (l0.length + 1) (by omega) A rfl (congrArg (Value.int .i64) HQK.out) HAl.out ?cells (by omega) (by omega) (by omega) ?_; (case cells => exact fun j v hv => by rw [blk_cell HH.out, ← Array.getElem?_toList, HAB.out, List.append_assoc, List.getElem?_append_left (List.getElem?_eq_some_iff.1 hv).1]; exact hv); intro w1 G R hw1 hb1 hG1 hG2 hRs hRt; have HW1 := Aside0.mk hw1; have HBW1 := Aside0.mk hb1; have HRS := Aside0.mk hRs; have HRT := Aside0.mk hRt; have HGM := Aside0.mk hG2; have hGi : ¬ (G = i) := (by omega); have hGi1 : ¬ (G = i + 1) := (by omega); have hG3 : G ≤ 9223372036854775807 := (by simpa [maxLen] using hG2); clear hw1 hb1 hRs hRt hG2) | ((with_reducible refine gate_builtin (b := .copy) (xs := #[.tmp 43, .tmp 44]) rfl ?_); refine copy_block rfl (.tmp 43) (.tmp 44) 27 27 48 rfl 2 1 w.heap.size (i * 2) (l0.length + 1 - i) (G - i) ad 1 c2 rfl rfl R 48 (enc x) Try.underlying27 HSZ.out HW1.out (by simp only [Nat.min_def]; split <;> omega) (by rw [HEX.out]) (HX.out w1 (fun q hq _ => HBW1.out.block q hq)) (by rw [HRS.out, HEX.out]; omega) (HON.out x) ?_; intro w2 hw2 hg2; have HW2 := Aside0.mk hw2; have HG2 := Aside0.mk hg2; clear hw2 hg2))
   have HGB := Aside0.mk (show w2.heap[g]? = some (.cells cur 48 (0, 0)) from (HG2.out.block g (Nat.lt_of_lt_of_le (blk_lt HH.out) HBW1.out.size) (fun e => by injection e with e; have := blk_lt HH.out; omega)).trans ((HBW1.out.block g (blk_lt HH.out)).trans HH.out))
   have hqw : IntKind.i64.wrap ((i : Int) + 1) = (i : Int) + 1 := by rw [IntKind.wrap_i64]; omega
   have hqb : (0 : Int) ≤ (i : Int) + 1 := by omega
   have hqn : ((i : Int) + 1).toNat = i + 1 := by omega
   have hqi : (i : Int) + 1 ≤ (l0.length : Int) + 1 := by omega
   go_region_law (refine copy_block_step rfl (.tmp 50) (.tmp 53) 27 27 48 rfl 2 (l0.length - i) w.heap.size ((i + 1) * 2) (l0.length - i) (G - (i + 1)) ⟨g, i * 2, none⟩ (l0.length - i) (c - i) (by simp [Act.eval, Act.put]) (by simp [Act.eval, Act.put]) _ 48 B Try.underlying27 HSZ.out HW2.out (by simp only [Nat.min_def]; split <;> omega) HBl.out (fun j v hv => by rw [add_at]; exact (blk_cell (w := w2.drew) HGB.out _).trans (HCB.out j v hv)) (by simp only [List.size_toArray, List.length_append, List.length_take, List.length_drop, Array.length_toList, HRS.out, HBl.out, HEX.out]; omega) HB1.out ?_; intro w3 hw3 hg3)
   have HW3 := Aside0.mk hw3
   have HG3 := Aside0.mk (show w2.grownBy w3 (some w.heap.size) from ⟨hg3.os, hg3.tape, hg3.output, hg3.size, hg3.block⟩)
   clear hw3 hg3 hqw hqb hqn
   go_wp2
   go_ret
   have hg23 := World.grownBy.trans HG2.out HG3.out
   have hB1w := below_step HB.out HBW1.out
   refine ⟨_, rfl, ?_, hB1w.grown hg23 hB1w.size (fun k hk => by injection hk with hk; rw [← hk]; exact HB.out.size), Kept.of_grown hg23 (Kept.of_below HBW1.out _) (fun k hk => .inr (by injection hk with hk; omega))⟩
   rw [HLE.out]
   have hRL : R.toList.length = G * 2 := by rw [Array.length_toList]; exact HRS.out
   have hgl := grow_list (A := A) (B := B) (E := enc x) (R := R.toList) HRT.out HAl.out HBl.out HEX.out (by omega)
   have e1 : (i + 1) * 2 = i * 2 + 2 := by omega
   refine R_of_block HM.out (by intro x; rw [HKE.out]; rfl) HB.out.size (.inr (Nat.le_refl _)) HW3.out (by rw [HRL.out]) hG1 HGM.out ?_ ?_
   ·show _ = G * 2
    rw [List.size_toArray, ← hRL, ← hgl.2]
    simp only [List.toList_toArray, HEX.out, e1, HBl.out]
   ·show List.take ((l0.length + 1) * 2) _ = _
    rw [HFIN.out, ← hgl.1]
    simp only [List.toList_toArray, HEX.out, e1, HBl.out]
    congr 1
    omega

/-! ### slices_BinarySearchFunc_string__impl_PutEntry_1: function 59 -/
def slices_BinarySearchFunc_string__impl_PutEntry_1.l0 : Nat → List (S48) → ByteArray → Int → Int → Int → Option (Int × Bool)
 | 0, _, _, _, _, _ => none
 | k + 1, x0, x1, x8, x9, x10 => if x9 < x10 then (if 0 ≤ (wrap64 ((IntKind.u64.wrap (wrap64 (x9 + x10))) / 2)) then (if (wrap64 ((IntKind.u64.wrap (wrap64 (x9 + x10))) / 2)) < (x0.length : Int) then ((impl_PutEntry_1.f ((rd_T48 x0 (wrap64 ((IntKind.u64.wrap (wrap64 (x9 + x10))) / 2))).f0) ((rd_T48 x0 (wrap64 ((IntKind.u64.wrap (wrap64 (x9 + x10))) / 2))).f1) x1).bind fun t261 => (if t261 < 0 then (slices_BinarySearchFunc_string__impl_PutEntry_1.l0 k x0 x1 x8 (wrap64 ((wrap64 ((IntKind.u64.wrap (wrap64 (x9 + x10))) / 2)) + 1)) x10) else (slices_BinarySearchFunc_string__impl_PutEntry_1.l0 k x0 x1 x8 x9 (wrap64 ((IntKind.u64.wrap (wrap64 (x9 + x10))) / 2))))) else (none)) else (none)) else (if x9 < x8 then (if 0 ≤ x9 then (if x9 < (x0.length : Int) then ((impl_PutEntry_1.f ((rd_T48 x0 x9).f0) ((rd_T48 x0 x9).f1) x1).bind fun t263 => (some (x9, (t263 == 0)))) else (none)) else (none)) else (some (x9, false)))
def slices_BinarySearchFunc_string__impl_PutEntry_1.f (k : Nat) (l0 : List (S48)) (a1 : ByteArray)  : Option (Int × Bool) := slices_BinarySearchFunc_string__impl_PutEntry_1.l0 k l0 a1 (l0.length : Int) 0 (l0.length : Int)
theorem slices_BinarySearchFunc_string__impl_PutEntry_1.mono_l : ∀ k, (∀ y0 y1 y2 y3 y4, LeO (slices_BinarySearchFunc_string__impl_PutEntry_1.l0 k y0 y1 y2 y3 y4) (slices_BinarySearchFunc_string__impl_PutEntry_1.l0 (k + 1) y0 y1 y2 y3 y4))
 | 0 => fun _ _ _ _ _ r h => by simp [slices_BinarySearchFunc_string__impl_PutEntry_1.l0] at h
 | k + 1 => by
  have ih0 := slices_BinarySearchFunc_string__impl_PutEntry_1.mono_l k
  ·intro y0 y1 y2 y3 y4
   unfold slices_BinarySearchFunc_string__impl_PutEntry_1.l0
   repeat' first
   | (with_reducible exact ih0 _ _ _ _ _)
   | (with_reducible exact LeO.refl _)
   | (with_reducible exact LeO.none _)
   | (with_reducible refine LeO.ite ?_ ?_)
   | (with_reducible refine LeO.bind ?_ (fun _ => ?_))
   | exact ih0 _ _ _ _ _
   | exact LeO.none _
   | refine LeO.ite ?_ ?_
   | refine LeO.bind ?_ (fun _ => ?_)
theorem slices_BinarySearchFunc_string__impl_PutEntry_1.mono : ∀ a0 a1 k, LeO (slices_BinarySearchFunc_string__impl_PutEntry_1.f k a0 a1) (slices_BinarySearchFunc_string__impl_PutEntry_1.f (k + 1) a0 a1) := by
 intro a0 a1 k
 have ih0 := slices_BinarySearchFunc_string__impl_PutEntry_1.mono_l k
 unfold slices_BinarySearchFunc_string__impl_PutEntry_1.f
 repeat' first
   | (with_reducible exact ih0 _ _ _ _ _)
   | (with_reducible exact LeO.refl _)
   | (with_reducible exact LeO.none _)
   | (with_reducible refine LeO.ite ?_ ?_)
   | (with_reducible refine LeO.bind ?_ (fun _ => ?_))
   | exact ih0 _ _ _ _ _
   | exact LeO.none _
   | refine LeO.ite ?_ ?_
   | refine LeO.bind ?_ (fun _ => ?_)
set_option maxHeartbeats 8000000 in
set_option maxRecDepth 100000 in
theorem slices_BinarySearchFunc_string__impl_PutEntry_1.calls (k : Nat) (A0 : Option Addr) (c0 : Nat) (l0 : List (S48)) (a1 : ByteArray)  (r1 : Int) (r2 : Bool) (w : World) (hr0 : Kd.C k48 w A0 l0.length l0) (hc0 : l0.length ≤ c0) (h : slices_BinarySearchFunc_string__impl_PutEntry_1.f k l0 a1 = some (r1, r2)) :
  Calls Try.prog 59 #[.slice A0 l0.length c0, .string a1, .func (.func 60) #[] #[]] w fun e w' => e = .returned (.tuple #[.int .i64 r1, .bool r2]) ∧ Below w.heap.size w w' := by
 have hu48 := Try.underlying48
 have HR0 := Aside0.mk hr0
 have HC0 := Aside0.mk hc0
 clear hr0 hc0
 have HB := Aside0.mk (Below.refl w.heap.size w)
 have H : (slices_BinarySearchFunc_string__impl_PutEntry_1.l0 k l0 a1 (l0.length : Int) 0 (l0.length : Int)) = some (r1, r2) := h
 clear h
 have H' := Aside0.mk H
 clear H
 go_enter Try.func59, Try.ntmps59
 go_wp2
 go_loopg [9, 10] k (fun kq v9 v10 w' => ∃ (x9_1 : Int) (x10_1 : Int), v9 = .int .i64 x9_1 ∧ v10 = .int .i64 x10_1 ∧ Aside0 (slices_BinarySearchFunc_string__impl_PutEntry_1.l0 kq l0 a1 (l0.length : Int) x9_1 x10_1 = some (r1, r2)) ∧ Aside0 (kq ≤ k) ∧ Aside0 (Below w.heap.size w w'))
 case atStart => exact ⟨(0), ((l0.length : Int)), sq_e, sq_e, H', ⟨Nat.le_refl _⟩, ⟨sq_b⟩⟩
 case round =>
  clear H'
  try clear p2
  obtain ⟨x9_1, x10_1, rfl, rfl, HA, HK1, HB⟩ := hrel
  cases gk with
  | zero => exact absurd HA.out (by simp [slices_BinarySearchFunc_string__impl_PutEntry_1.l0])
  | succ k1 =>
   have H := HA.out
   clear HA
   simp only [slices_BinarySearchFunc_string__impl_PutEntry_1.l0] at H
   by_cases c4 : x9_1 < x10_1
   ·rw [if_pos c4] at H
    have c4b0 : decide (x9_1 < x10_1) = true := decide_eq_true c4
    clear c4
    obtain ⟨ji5, hji5⟩ : ∃ j_ : Int, (wrap64 ((IntKind.u64.wrap (wrap64 (x9_1 + x10_1))) / 2)) = j_ := ⟨_, rfl⟩
    replace H : (if 0 ≤ (ji5) then (if (ji5) < (l0.length : Int) then ((impl_PutEntry_1.f ((rd_T48 l0 (ji5)).f0) ((rd_T48 l0 (ji5)).f1) a1).bind fun t261 => (if t261 < 0 then (slices_BinarySearchFunc_string__impl_PutEntry_1.l0 k1 l0 a1 (l0.length : Int) (wrap64 ((ji5) + 1)) x10_1) else (slices_BinarySearchFunc_string__impl_PutEntry_1.l0 k1 l0 a1 (l0.length : Int) x9_1 ji5))) else (none)) else (none)) = some (r1, r2) := by first | (rw [hji5] at H; exact H) | (simp only [hji5] at H ⊢; exact H)
    have hji5w : (IntKind.i64.wrap ((IntKind.u64.wrap (wrap64 (x9_1 + x10_1))) / 2)) = ji5 := (i64_w _).trans hji5
    by_cases c6 : 0 ≤ (ji5)
    rotate_left
    ·rw [if_neg c6] at H
     exact absurd H (by simp)
    rw [if_pos c6] at H
    have c6b0 : decide (0 ≤ (ji5)) = true := decide_eq_true c6
    clear c6
    by_cases c7 : (ji5) < (l0.length : Int)
    rotate_left
    ·rw [if_neg c7] at H
     exact absurd H (by simp)
    rw [if_pos c7] at H
    have c7b0 : decide ((ji5) < (l0.length : Int)) = true := decide_eq_true c7
    clear c7
    replace H := Option.bind_eq_some_iff.mp H
    obtain ⟨t261, A80, H⟩ := H
    replace H : (if t261 < 0 then (slices_BinarySearchFunc_string__impl_PutEntry_1.l0 k1 l0 a1 (l0.length : Int) (wrap64 ((ji5) + 1)) x10_1) else (slices_BinarySearchFunc_string__impl_PutEntry_1.l0 k1 l0 a1 (l0.length : Int) x9_1 ji5)) = some (r1, r2) := H
    have A8 := Aside0.mk A80
    clear A80
    by_cases c9 : t261 < 0
    ·rw [if_pos c9] at H
     have c9b0 : decide (t261 < 0) = true := decide_eq_true c9
     clear c9
     have H' := Aside0.mk H
     clear H
     have p260 : 0 ≤ ((ji5) : Int) := sq_d
     have q260 : (ji5) < (l0.length : Int) := sq_d
     obtain ⟨ad260, e260, hx260_0, hx260_1⟩ := at_T48 HR0.out (ji5) p260 q260
     cases e260
     try replace hx260_0 := (HB.out.cell (World.block_lt_of_cell? w _ hx260_0)).trans hx260_0
     try replace hx260_1 := (HB.out.cell (World.block_lt_of_cell? w _ hx260_1)).trans hx260_1
     replace p260 := eq_true p260
     replace q260 := eq_true q260
     go_wp2_with (first | (go_at_call 60; (with_reducible refine (impl_PutEntry_1.calls ((rd_T48 l0 (ji5)).f0) ((rd_T48 l0 (ji5)).f1) a1 t261 _ A8.out).mono ?_); rintro e w10 ⟨rfl, hb⟩; have n0_ := Aside0.mk (below_step sq_b hb); clear HB; have HB := n0_; clear n0_; (try clear hb); (try clear hb2); (try clear hk); (try clear hi)))
     go_roundg k1
     case measure => have := HK1.out; omega
     case rel => exact ⟨(wrap64 ((ji5) + 1)), (x10_1), (by first | rfl | (simp; done) | (simp [ext_bne_nil, ext_beq_nil]; done) | (simp only [← hji5] <;> (first | rfl | simp)) | (simp [*]; done)), sq_e, H', ⟨by have := HK1.out; omega⟩, ⟨sq_b⟩⟩
    ·rw [if_neg c9] at H
     have c9b0 : decide (t261 < 0) = false := decide_eq_false c9
     clear c9
     have H' := Aside0.mk H
     clear H
     have p260 : 0 ≤ ((ji5) : Int) := sq_d
     have q260 : (ji5) < (l0.length : Int) := sq_d
     obtain ⟨ad260, e260, hx260_0, hx260_1⟩ := at_T48 HR0.out (ji5) p260 q260
     cases e260
     try replace hx260_0 := (HB.out.cell (World.block_lt_of_cell? w _ hx260_0)).trans hx260_0
     try replace hx260_1 := (HB.out.cell (World.block_lt_of_cell? w _ hx260_1)).trans hx260_1
     replace p260 := eq_true p260
     replace q260 := eq_true q260
     go_wp2_with (first | (go_at_call 60; (with_reducible refine (impl_PutEntry_1.calls ((rd_T48 l0 (ji5)).f0) ((rd_T48 l0 (ji5)).f1) a1 t261 _ A8.out).mono ?_); rintro e w11 ⟨rfl, hb⟩; have n0_ := Aside0.mk (below_step sq_b hb); clear HB; have HB := n0_; clear n0_; (try clear hb); (try clear hb2); (try clear hk); (try clear hi)))
     go_roundg k1
     case measure => have := HK1.out; omega
     case rel => exact ⟨(x9_1), (ji5), sq_e, (by first | rfl | (simp; done) | (simp [ext_bne_nil, ext_beq_nil]; done) | (simp only [← hji5] <;> (first | rfl | simp)) | (simp [*]; done)), H', ⟨by have := HK1.out; omega⟩, ⟨sq_b⟩⟩
   ·rw [if_neg c4] at H
    have c4b0 : decide (x9_1 < x10_1) = false := decide_eq_false c4
    clear c4
    by_cases c12 : x9_1 < (l0.length : Int)
    ·rw [if_pos c12] at H
     have c12b0 : decide (x9_1 < (l0.length : Int)) = true := decide_eq_true c12
     clear c12
     by_cases c13 : 0 ≤ x9_1
     rotate_left
     ·rw [if_neg c13] at H
      exact absurd H (by simp)
     rw [if_pos c13] at H
     have c13b0 : decide (0 ≤ x9_1) = true := decide_eq_true c13
     clear c13
     by_cases c14 : x9_1 < (l0.length : Int)
     rotate_left
     ·rw [if_neg c14] at H
      exact absurd H (by simp)
     rw [if_pos c14] at H
     have c14b0 : decide (x9_1 < (l0.length : Int)) = true := decide_eq_true c14
     clear c14
     replace H := Option.bind_eq_some_iff.mp H
     obtain ⟨t263, A150, H⟩ := H
     replace H : (some (x9_1, (t263 == 0))) = some (r1, r2) := H
     have A15 := Aside0.mk A150
     clear A150
     simp only [Option.some.injEq, Prod.mk.injEq] at H
     obtain ⟨rfl, rfl⟩ := H
     have p262 : 0 ≤ (x9_1 : Int) := sq_d
     have q262 : x9_1 < (l0.length : Int) := sq_d
     obtain ⟨ad262, e262, hx262_0, hx262_1⟩ := at_T48 HR0.out x9_1 p262 q262
     cases e262
     try replace hx262_0 := (HB.out.cell (World.block_lt_of_cell? w _ hx262_0)).trans hx262_0
     try replace hx262_1 := (HB.out.cell (World.block_lt_of_cell? w _ hx262_1)).trans hx262_1
     replace p262 := eq_true p262
     replace q262 := eq_true q262
     go_wp2_with (first | (go_at_call 60; (with_reducible refine (impl_PutEntry_1.calls ((rd_T48 l0 x9_1).f0) ((rd_T48 l0 x9_1).f1) a1 t263 _ A15.out).mono ?_); rintro e w16 ⟨rfl, hb⟩; have n0_ := Aside0.mk (below_step sq_b hb); clear HB; have HB := n0_; clear n0_; (try clear hb); (try clear hb2); (try clear hk); (try clear hi)))
     go_ret2
     exact ⟨sq_w, sq_b⟩
    ·rw [if_neg c12] at H
     have c12b0 : decide (x9_1 < (l0.length : Int)) = false := decide_eq_false c12
     clear c12
     simp only [Option.some.injEq, Prod.mk.injEq] at H
     obtain ⟨rfl, rfl⟩ := H
     go_wp2
     go_ret2
     exact ⟨sq_w, sq_b⟩

/-! ### impl_PutEntry: function 32 -/
def impl_PutEntry.f (k : Nat) (l0 : List (S59)) (a1_0 : ByteArray) (a1_1 : Int) : Option ((List (S59)) × Bool) := (impl_entries.f k l0).bind fun bt265 => (if bt265.2 = true then ((slices_BinarySearchFunc_string__impl_PutEntry_1.f k bt265.1 a1_0).bind fun bt269 => (if bt269.2 = true then (if 0 ≤ bt269.1 then (if bt269.1 < (bt265.1.length : Int) then ((impl_build.f k (bt265.1.set (bt269.1 : Int).toNat (⟨a1_0, a1_1⟩ : S48))).bind fun bt272 => (some (bt272.1, bt272.2))) else (none)) else (none)) else ((slices_Insert_impl_Entry.f bt265.1 bt269.1 (([(⟨a1_0, a1_1⟩ : S48)] : List (S48)))).bind fun t279 => ((impl_build.f k t279).bind fun bt282 => (some (bt282.1, bt282.2)))))) else (some (([] : List (S59)), false)))
theorem impl_PutEntry.mono : ∀ a0 a1 a2 k, LeO (impl_PutEntry.f k a0 a1 a2) (impl_PutEntry.f (k + 1) a0 a1 a2) := by
 intro a0 a1 a2 k
 unfold impl_PutEntry.f
 repeat' first
   | (with_reducible exact impl_build.mono _ _)
   | (with_reducible exact impl_entries.mono _ _)
   | (with_reducible exact slices_BinarySearchFunc_string__impl_PutEntry_1.mono _ _ _)
   | (with_reducible exact LeO.refl _)
   | (with_reducible exact LeO.none _)
   | (with_reducible refine LeO.ite ?_ ?_)
   | (with_reducible refine LeO.bind ?_ (fun _ => ?_))
   | exact impl_build.mono _ _
   | exact impl_entries.mono _ _
   | exact slices_BinarySearchFunc_string__impl_PutEntry_1.mono _ _ _
   | exact LeO.none _
   | refine LeO.ite ?_ ?_
   | refine LeO.bind ?_ (fun _ => ?_)
set_option maxHeartbeats 8000000 in
set_option maxRecDepth 100000 in
theorem impl_PutEntry.calls (k : Nat) (A0 : Option Addr) (c0 : Nat) (l0 : List (S59)) (a1_0 : ByteArray) (a1_1 : Int) (r1 : List (S59)) (r2 : Bool) (w : World) (hr0 : Kd.C k59 w A0 l0.length l0) (hc0 : l0.length ≤ c0) (h : impl_PutEntry.f k l0 a1_0 a1_1 = some (r1, r2)) :
  Calls Try.prog 32 #[.slice A0 l0.length c0, .agg #[.string a1_0, .int .i64 a1_1]] w fun e w' => ∃ v0_ : Value, e = .returned (.tuple #[v0_, .bool r2]) ∧ Kd.S k59 59 w' w.heap.size (fun _ => True) v0_ r1 ∧ Below w.heap.size w w' := by
 have hu48 := Try.underlying48
 have HR0 := Aside0.mk hr0
 have HC0 := Aside0.mk hc0
 clear hr0 hc0
 have HB := Aside0.mk (Below.refl w.heap.size w)
 have H : ((impl_entries.f k l0).bind fun bt265 => (if bt265.2 = true then ((slices_BinarySearchFunc_string__impl_PutEntry_1.f k bt265.1 a1_0).bind fun bt269 => (if bt269.2 = true then (if 0 ≤ bt269.1 then (if bt269.1 < (bt265.1.length : Int) then ((impl_build.f k (bt265.1.set (bt269.1 : Int).toNat (⟨a1_0, a1_1⟩ : S48))).bind fun bt272 => (some (bt272.1, bt272.2))) else (none)) else (none)) else ((slices_Insert_impl_Entry.f bt265.1 bt269.1 (([(⟨a1_0, a1_1⟩ : S48)] : List (S48)))).bind fun t279 => ((impl_build.f k t279).bind fun bt282 => (some (bt282.1, bt282.2)))))) else (some (([] : List (S59)), false)))) = some (r1, r2) := h
 clear h
 replace H := Option.bind_eq_some_iff.mp H
 obtain ⟨⟨t265, t266⟩, A30, H⟩ := H
 replace H : (if t266 = true then ((slices_BinarySearchFunc_string__impl_PutEntry_1.f k t265 a1_0).bind fun bt269 => (if bt269.2 = true then (if 0 ≤ bt269.1 then (if bt269.1 < (t265.length : Int) then ((impl_build.f k (t265.set (bt269.1 : Int).toNat (⟨a1_0, a1_1⟩ : S48))).bind fun bt272 => (some (bt272.1, bt272.2))) else (none)) else (none)) else ((slices_Insert_impl_Entry.f t265 bt269.1 (([(⟨a1_0, a1_1⟩ : S48)] : List (S48)))).bind fun t279 => ((impl_build.f k t279).bind fun bt282 => (some (bt282.1, bt282.2)))))) else (some (([] : List (S59)), false))) = some (r1, r2) := H
 have A3 := Aside0.mk A30
 clear A30
 by_cases c4 : t266 = true
 ·subst c4
  have H1 : ((slices_BinarySearchFunc_string__impl_PutEntry_1.f k t265 a1_0).bind fun bt269 => (if bt269.2 = true then (if 0 ≤ bt269.1 then (if bt269.1 < (t265.length : Int) then ((impl_build.f k (t265.set (bt269.1 : Int).toNat (⟨a1_0, a1_1⟩ : S48))).bind fun bt272 => (some (bt272.1, bt272.2))) else (none)) else (none)) else ((slices_Insert_impl_Entry.f t265 bt269.1 (([(⟨a1_0, a1_1⟩ : S48)] : List (S48)))).bind fun t279 => ((impl_build.f k t279).bind fun bt282 => (some (bt282.1, bt282.2)))))) = some (r1, r2) := by rw [if_pos rfl] at H; exact H
  clear H
  have H := H1
  clear H1
  replace H := Option.bind_eq_some_iff.mp H
  obtain ⟨⟨t269, t270⟩, A50, H⟩ := H
  replace H : (if t270 = true then (if 0 ≤ t269 then (if t269 < (t265.length : Int) then ((impl_build.f k (t265.set (t269 : Int).toNat (⟨a1_0, a1_1⟩ : S48))).bind fun bt272 => (some (bt272.1, bt272.2))) else (none)) else (none)) else ((slices_Insert_impl_Entry.f t265 t269 (([(⟨a1_0, a1_1⟩ : S48)] : List (S48)))).bind fun t279 => ((impl_build.f k t279).bind fun bt282 => (some (bt282.1, bt282.2))))) = some (r1, r2) := H
  have A5 := Aside0.mk A50
  clear A50
  by_cases c6 : t270 = true
  ·subst c6
   have H1 : (if 0 ≤ t269 then (if t269 < (t265.length : Int) then ((impl_build.f k (t265.set (t269 : Int).toNat (⟨a1_0, a1_1⟩ : S48))).bind fun bt272 => (some (bt272.1, bt272.2))) else (none)) else (none)) = some (r1, r2) := by rw [if_pos rfl] at H; exact H
   clear H
   have H := H1
   clear H1
   by_cases c7 : 0 ≤ t269
   rotate_left
   ·rw [if_neg c7] at H
    exact absurd H (by simp)
   rw [if_pos c7] at H
   have c7b0 : decide (0 ≤ t269) = true := decide_eq_true c7
   clear c7
   by_cases c8 : t269 < (t265.length : Int)
   rotate_left
   ·rw [if_neg c8] at H
    exact absurd H (by simp)
   rw [if_pos c8] at H
   have c8b0 : decide (t269 < (t265.length : Int)) = true := decide_eq_true c8
   clear c8
   obtain ⟨y271, hy271⟩ : ∃ y_ : List (S48), y_ = (t265.set (t269 : Int).toNat (⟨a1_0, a1_1⟩ : S48)) := ⟨_, rfl⟩
   replace H : ((impl_build.f k y271).bind fun bt272 => (some (bt272.1, bt272.2))) = some (r1, r2) := by first | (rw [hy271]; with_reducible exact H) | (have H2_ := (Option.bind_some _ _).symm.trans H; rw [hy271]; with_reducible exact H2_) | (have H2_ := (Option.bind_some _ _).symm.trans H; with_reducible exact H2_) | with_reducible exact H | (rw [hy271]; exact H) | exact H
   have Ny271 := Aside0.mk hy271
   clear hy271
   replace H := Option.bind_eq_some_iff.mp H
   obtain ⟨⟨t272, t273⟩, A100, H⟩ := H
   replace H : (some (t272, t273)) = some (r1, r2) := H
   have A10 := Aside0.mk A100
   clear A100
   simp only [Option.some.injEq, Prod.mk.injEq] at H
   obtain ⟨rfl, rfl⟩ := H
   go_enter Try.func32, Try.ntmps32
   go_wp2_with (first | ((with_reducible refine gate_dst (N := 3) rfl ?_); refine box_event ?hg (N := 3) ?hd (cs := #[.string a1_0, .int .i64 a1_1]) (t := 48) ?hr ?_; (case hd => rfl); (case hg => rfl); (case hr => first | (go_simp; done) | (go_simp; rfl)); intro gb264 hg w11 hbox hb; have n0_ := Aside0.mk (below_step sq_b hb); have n1_ := Aside0.mk (hbox); have n2_ := Aside0.mk ((by rw [hg]; exact (below_size sq_b) : w.heap.size ≤ gb264)); have n3_ := Aside0.mk ((by rw [hg]; exact (below_size sq_b) : w.heap.size ≤ gb264)); clear HB; have HB := n0_; have BK264 := n1_; have GW264 := n2_; have GE264 := n3_; clear n0_ n1_ n2_ n3_; clear hb hbox hg) | ((with_reducible refine gate_callee (f := 54) rfl ?_); refine goesL_ (some 12) rfl rfl Try.func54 (by kernel_rfl) rfl #[.slice A0 l0.length c0] rfl (by (try simp only [List.map_toArray, List.map_cons, List.map_nil]); first | done | rfl | (simp only [List.length_drop, List.length_take]; rfl)) ?_; (with_reducible refine (impl_entries.calls k _ _ l0 t265 true _ ?side1 ?side2 A3.out).mono ?_); (case side1 => repeat (first | exact (Kd.C_below HR0.out HB.out) | (with_reducible refine Kd.C_alloc ?_ _) | (with_reducible refine Kd.C_drewN ?_ _) | (with_reducible refine Kd.C_drew ?_))); (case side2 => exact HC0.out); rintro e w12 ⟨v267, rfl, ho0, hb⟩; refine ⟨_, rfl, ?_⟩; have n0_ := Aside0.mk (Kd.R_lower (Kd.R_newB ho0 (g := gb264) (o := .cells #[.string a1_0, .int .i64 a1_1] 48 (0, 0)) (sq_l BK264)) (below_size (by repeat (first | (with_reducible first | exact HB.out | apply below_alloc | apply pw_below_drewN | apply below_drew1 | refine below_set ?_ GE264.out) | exact HB.out)))); have n1_ := Aside0.mk (blk_below (g := gb264) (o := .cells #[.string a1_0, .int .i64 a1_1] 48 (0, 0)) (sq_l BK264) hb); have n2_ := Aside0.mk (below_step (by repeat (first | (with_reducible first | exact HB.out | apply below_alloc | apply pw_below_drewN | apply below_drew1 | refine below_set ?_ GE264.out) | exact HB.out)) hb); clear BK264; clear HB; have HO268 := n0_; have BK264 := n1_; have HB := n2_; clear n0_ n1_ n2_; (try clear hb); (try clear hb2); (try clear hk); (try clear hi); (try clear ho0); have hcz13_0 : w12.cell? ⟨gb264, 0, none⟩ = some (.string a1_0) := (blk_cell BK264.out 0).trans rfl; have hcz13_1 : w12.cell? ⟨gb264, 1, none⟩ = some (.int .i64 a1_1) := (blk_cell BK264.out 1).trans rfl; have hfz13_0 := blk_frozen BK264.out 0; have hfz13_1 := blk_frozen BK264.out 1; obtain ⟨Ao14, co14, eo14⟩ := Kd.R_slice HO268.out; subst eo14) | ((with_reducible refine gate_callee (f := 59) rfl ?_); refine goesL_ (some 21) rfl rfl Try.func59 (by kernel_rfl) rfl #[.slice Ao14 t265.length co14, .string a1_0, .func (.func 60) #[] #[]] rfl (by (try simp only [List.map_toArray, List.map_cons, List.map_nil]); first | done | rfl | (simp only [List.length_drop, List.length_take]; rfl)) ?_; (with_reducible refine (slices_BinarySearchFunc_string__impl_PutEntry_1.calls k _ _ t265 a1_0  t269 true _ ?side1 ?side2 A5.out).mono ?_); (case side1 => repeat (first | exact (Kd.R_reads' HO268.out).2.2 | (with_reducible refine Kd.C_alloc ?_ _) | (with_reducible refine Kd.C_drewN ?_ _) | (with_reducible refine Kd.C_drew ?_))); (case side2 => exact (Kd.R_reads' HO268.out).2.1); rintro e w15 ⟨rfl, hb⟩; refine ⟨_, rfl, ?_⟩; have n0_ := Aside0.mk (Kd.R_below (sq_r HO268) hb); have n1_ := Aside0.mk (blk_below (g := gb264) (o := .cells #[.string a1_0, .int .i64 a1_1] 48 (0, 0)) (sq_l BK264) hb); have n2_ := Aside0.mk (below_step (by repeat (first | (with_reducible first | exact HB.out | apply below_alloc | apply pw_below_drewN | apply below_drew1 | refine below_set ?_ GE264.out) | exact HB.out)) hb); clear HO268; clear BK264; clear HB; have HO268 := n0_; have BK264 := n1_; have HB := n2_; clear n0_ n1_ n2_; (try clear hb); (try clear hb2); (try clear hk); (try clear hi); have hcz16_0 : w15.cell? ⟨gb264, 0, none⟩ = some (.string a1_0) := (blk_cell BK264.out 0).trans rfl; have hcz16_1 : w15.cell? ⟨gb264, 1, none⟩ = some (.int .i64 a1_1) := (blk_cell BK264.out 1).trans rfl; have hfz16_0 := blk_frozen BK264.out 0; have hfz16_1 := blk_frozen BK264.out 1; have p9 : 0 ≤ (t269 : Int) := sq_d; have q9 : (t269 : Int) < ((t265.length : Int) : Int) := sq_d; obtain ⟨go9, co9, eo9, gb9, gl9, cl9, HG9⟩ := Kd.R_form HO268.out (by omega); (first | cases eo9 | (injection eo9 with ea_ en_ ec_; (first | subst ea_ | (injection ea_ with ea_; subst ea_)); subst ec_; clear en_)); have GB9 := Aside0.mk gb9; have GG9 := Aside0.mk HG9; clear gb9 gl9 HG9; obtain ⟨ce9, hcl9, hM9, hcc9, hfr9⟩ := Kd.R_elem HO268.out z48 (t269 : Int) p9 q9; obtain rfl := k48_openM hM9; have hx9_0 : w15.cell? ⟨go9, (t269 : Int).toNat * 2, none⟩ = some (.string ((rd_T48 t265 t269).f0)) := hcc9 0 _ rfl; have hx9_1 : w15.cell? ⟨go9, (t269 : Int).toNat * 2 + 1, none⟩ = some (.int .i64 ((rd_T48 t265 t269).f1)) := hcc9 1 _ rfl; have hf9_0 : w15.frozen? ⟨go9, (t269 : Int).toNat * 2, none⟩ = false := hfr9 0; have hf9_1 : w15.frozen? ⟨go9, (t269 : Int).toNat * 2 + 1, none⟩ = false := hfr9 1; clear hcl9 hcc9 hfr9; (try clear hM9); replace p9 := eq_true p9; replace q9 := eq_true q9; have n_ := Aside0.mk (Kd.R_mono (ok' := (fun k_ => k_ ≠ gb264)) HO268.out (fun k_ hk => hk.2)); clear HO268; have HO268 := n_; clear n_; have HX17 := Aside0.mk (show Kd.R k48 48 w15 w.heap.size (fun k_ => k_ ≠ gb264) (.slice (some ⟨go9, 0, none⟩) t265.length co14) t265 from (sq_r HO268)); obtain ⟨ce17, hcl17, hM17, hcc17, hfr17⟩ := Kd.R_elem HX17.out z48 (t269 : Int) (sq_d) (by have h_ : (t269 : Int) < ((t265.length : Int) : Int) := sq_d; first | exact h_ | (have e_ := (Kd.R_reads' HO268.out).1; omega) | simpa using h_); obtain rfl := k48_openM hM17; have HP17 := Kd.R_seg HX17.out (t269 : Int) (sq_d) (by have h_ : (t269 : Int) < ((t265.length : Int) : Int) := sq_d; first | exact h_ | (have e_ := (Kd.R_reads' HO268.out).1; omega) | simpa using h_) (seg := [.string a1_0, .int .i64 a1_1]) (j := 0) hcl17 hcc17 (show 2 ≤ 2 from by decide) (x' := (⟨a1_0, a1_1⟩ : S48)) (k48_mkM _ _ _ (⟨a1_0, a1_1⟩ : S48) ) (fun _ hk => hk); have hx17_0 := hcc17 0 _ rfl; (try simp only [show (k48).sz = 2 from rfl, Nat.mul_one, Nat.add_zero] at hx17_0); have hf17_0 := hfr17 0; (try simp only [show (k48).sz = 2 from rfl, Nat.mul_one, Nat.add_zero] at hf17_0); have hx17_1 := hcc17 1 _ rfl; (try simp only [show (k48).sz = 2 from rfl, Nat.mul_one, Nat.add_zero] at hx17_1); have hf17_1 := hfr17 1; (try simp only [show (k48).sz = 2 from rfl, Nat.mul_one, Nat.add_zero] at hf17_1); clear hcl17 hcc17 hfr17; (try clear hM17)) | ((with_reducible refine gate_store (t := 48) (p := 28) rfl ?_); refine store_event (t := 48) (p := 28) (v := ?vo_w18) (w1 := ((w15.setCell ⟨go9, (t269 : Int).toNat * 2, none⟩ (.string a1_0)).setCell ⟨go9, (t269 : Int).toNat * 2 + 1, none⟩ (.int .i64 a1_1))) ?hg ?ho ?hn ?hr ?_; (case ho => rfl); (case hg => rfl); (case hn => rfl); (case hr => first | (go_simp; done) | (go_simp; rfl)); intro w18 hw; have hg : w15.grownBy w18 (some go9) := (by rw [hw]; exact HP17.2); have hp_ : Kd.R k48 48 w18 w.heap.size (fun k_ => k_ ≠ gb264) (.slice (some ⟨go9, 0, none⟩) t265.length co14) y271 := (by rw [hw, Ny271.out]; exact HP17.1); clear HP17; have n0_ := Aside0.mk (blk_grown (g := gb264) (o := .cells #[.string a1_0, .int .i64 a1_1] 48 (0, 0)) (sq_l BK264) hg (Kd.R_away HO268.out (fun _ hk => hk))); have n1_ := Aside0.mk (hp_); have n2_ := Aside0.mk ((by rw [hw]; exact below_set (below_set (HB.out) GB9.out) GB9.out : Below w.heap.size w w18)); clear BK264; clear HO268; clear HB; have BK264 := n0_; have HO268 := n1_; have HB := n2_; clear n0_ n1_ n2_; clear hg hw hp_) | ((with_reducible refine gate_callee (f := 45) rfl ?_); refine goesL_ (some 35) rfl rfl Try.func45 (by kernel_rfl) rfl #[.slice (some ⟨go9, 0, none⟩) y271.length co14] rfl (by (try simp only [List.map_toArray, List.map_cons, List.map_nil]); first | done | (rw [show y271.length = t265.length from (Kd.R_reads' HO268.out).1.symm] <;> rfl) | rfl | (simp only [List.length_drop, List.length_take]; rfl)) ?_; (with_reducible refine (impl_build.calls k _ _ y271 t272 t273 _ ?side1 ?side2 A10.out).mono ?_); (case side1 => repeat (first | exact (Kd.R_reads' HO268.out).2.2 | (with_reducible refine Kd.C_alloc ?_ _) | (with_reducible refine Kd.C_drewN ?_ _) | (with_reducible refine Kd.C_drew ?_))); (case side2 => rw [show y271.length = t265.length from (Kd.R_reads' HO268.out).1.symm]; exact (Kd.R_reads' HO268.out).2.1); rintro e w19 ⟨v274, rfl, ho0, hb⟩; refine ⟨_, rfl, ?_⟩; have n0_ := Aside0.mk (Kd.R_below (sq_r HO268) hb); have n1_ := Aside0.mk (Kd.S_lower ho0 (below_size (by repeat (first | (with_reducible first | exact HB.out | apply below_alloc | apply pw_below_drewN | apply below_drew1 | refine below_set ?_ GE264.out) | exact HB.out)))); have n2_ := Aside0.mk (blk_below (g := gb264) (o := .cells #[.string a1_0, .int .i64 a1_1] 48 (0, 0)) (sq_l BK264) hb); have n3_ := Aside0.mk (below_step (by repeat (first | (with_reducible first | exact HB.out | apply below_alloc | apply pw_below_drewN | apply below_drew1 | refine below_set ?_ GE264.out) | exact HB.out)) hb); clear HO268; clear BK264; clear HB; have HO268 := n0_; have HO275 := n1_; have BK264 := n2_; have HB := n3_; clear n0_ n1_ n2_ n3_; (try clear hb); (try clear hb2); (try clear hk); (try clear hi); (try clear ho0)))
   go_ret2
   exact ⟨_, sq_w, by (with_reducible repeat (first | apply Kd.S_alloc | apply Kd.S_drewN | apply Kd.S_drew)); exact HO275.out, by repeat (first | (with_reducible first | exact HB.out | apply below_alloc | apply pw_below_drewN | apply below_drew1 | refine below_set ?_ GE264.out) | exact HB.out)⟩
  ·replace c6 := Bool.eq_false_iff.mpr c6
   subst c6
   have H1 : ((slices_Insert_impl_Entry.f t265 t269 (([(⟨a1_0, a1_1⟩ : S48)] : List (S48)))).bind fun t279 => ((impl_build.f k t279).bind fun bt282 => (some (bt282.1, bt282.2)))) = some (r1, r2) := by rw [if_neg (show ¬ (false = true) by decide)] at H; exact H
   clear H
   have H := H1
   clear H1
   obtain ⟨y276, hy276⟩ : ∃ y_ : List (S48), y_ = (([(⟨a1_0, a1_1⟩ : S48)] : List (S48))) := ⟨_, rfl⟩
   replace H : ((slices_Insert_impl_Entry.f t265 t269 y276).bind fun t279 => ((impl_build.f k t279).bind fun bt282 => (some (bt282.1, bt282.2)))) = some (r1, r2) := by first | (rw [hy276]; with_reducible exact H) | (have H2_ := (Option.bind_some _ _).symm.trans H; rw [hy276]; with_reducible exact H2_) | (have H2_ := (Option.bind_some _ _).symm.trans H; with_reducible exact H2_) | with_reducible exact H | (rw [hy276]; exact H) | exact H
   have Ny276 := Aside0.mk hy276
   clear hy276
   replace H := Option.bind_eq_some_iff.mp H
   obtain ⟨t279, A200, H⟩ := H
   replace H : ((impl_build.f k t279).bind fun bt282 => (some (bt282.1, bt282.2))) = some (r1, r2) := H
   have A20 := Aside0.mk A200
   clear A200
   replace H := Option.bind_eq_some_iff.mp H
   obtain ⟨⟨t282, t283⟩, A210, H⟩ := H
   replace H : (some (t282, t283)) = some (r1, r2) := H
   have A21 := Aside0.mk A210
   clear A210
   simp only [Option.some.injEq, Prod.mk.injEq] at H
   obtain ⟨rfl, rfl⟩ := H
   go_enter Try.func32, Try.ntmps32
   go_wp2_with (first | ((with_reducible refine gate_dst (N := 3) rfl ?_); refine box_event ?hg (N := 3) ?hd (cs := #[.string a1_0, .int .i64 a1_1]) (t := 48) ?hr ?_; (case hd => rfl); (case hg => rfl); (case hr => first | (go_simp; done) | (go_simp; rfl)); intro gb264 hg w22 hbox hb; have n0_ := Aside0.mk (below_step sq_b hb); have n1_ := Aside0.mk (hbox); have n2_ := Aside0.mk ((by rw [hg]; exact (below_size sq_b) : w.heap.size ≤ gb264)); have n3_ := Aside0.mk ((by rw [hg]; exact (below_size sq_b) : w.heap.size ≤ gb264)); clear HB; have HB := n0_; have BK264 := n1_; have GW264 := n2_; have GE264 := n3_; clear n0_ n1_ n2_ n3_; clear hb hbox hg) | ((with_reducible refine gate_callee (f := 54) rfl ?_); refine goesL_ (some 12) rfl rfl Try.func54 (by kernel_rfl) rfl #[.slice A0 l0.length c0] rfl (by (try simp only [List.map_toArray, List.map_cons, List.map_nil]); first | done | rfl | (simp only [List.length_drop, List.length_take]; rfl)) ?_; (with_reducible refine (impl_entries.calls k _ _ l0 t265 true _ ?side1 ?side2 A3.out).mono ?_); (case side1 => repeat (first | exact (Kd.C_below HR0.out HB.out) | (with_reducible refine Kd.C_alloc ?_ _) | (with_reducible refine Kd.C_drewN ?_ _) | (with_reducible refine Kd.C_drew ?_))); (case side2 => exact HC0.out); rintro e w23 ⟨v267, rfl, ho0, hb⟩; refine ⟨_, rfl, ?_⟩; have n0_ := Aside0.mk (Kd.R_lower (Kd.R_newB ho0 (g := gb264) (o := .cells #[.string a1_0, .int .i64 a1_1] 48 (0, 0)) (sq_l BK264)) (below_size (by repeat (first | (with_reducible first | exact HB.out | apply below_alloc | apply pw_below_drewN | apply below_drew1 | refine below_set ?_ GE264.out) | exact HB.out)))); have n1_ := Aside0.mk (blk_below (g := gb264) (o := .cells #[.string a1_0, .int .i64 a1_1] 48 (0, 0)) (sq_l BK264) hb); have n2_ := Aside0.mk (below_step (by repeat (first | (with_reducible first | exact HB.out | apply below_alloc | apply pw_below_drewN | apply below_drew1 | refine below_set ?_ GE264.out) | exact HB.out)) hb); clear BK264; clear HB; have HO268 := n0_; have BK264 := n1_; have HB := n2_; clear n0_ n1_ n2_; (try clear hb); (try clear hb2); (try clear hk); (try clear hi); (try clear ho0); have hcz24_0 : w23.cell? ⟨gb264, 0, none⟩ = some (.string a1_0) := (blk_cell BK264.out 0).trans rfl; have hcz24_1 : w23.cell? ⟨gb264, 1, none⟩ = some (.int .i64 a1_1) := (blk_cell BK264.out 1).trans rfl; have hfz24_0 := blk_frozen BK264.out 0; have hfz24_1 := blk_frozen BK264.out 1; obtain ⟨Ao25, co25, eo25⟩ := Kd.R_slice HO268.out; subst eo25) | ((with_reducible refine gate_callee (f := 59) rfl ?_); refine goesL_ (some 21) rfl rfl Try.func59 (by kernel_rfl) rfl #[.slice Ao25 t265.length co25, .string a1_0, .func (.func 60) #[] #[]] rfl (by (try simp only [List.map_toArray, List.map_cons, List.map_nil]); first | done | rfl | (simp only [List.length_drop, List.length_take]; rfl)) ?_; (with_reducible refine (slices_BinarySearchFunc_string__impl_PutEntry_1.calls k _ _ t265 a1_0  t269 false _ ?side1 ?side2 A5.out).mono ?_); (case side1 => repeat (first | exact (Kd.R_reads' HO268.out).2.2 | (with_reducible refine Kd.C_alloc ?_ _) | (with_reducible refine Kd.C_drewN ?_ _) | (with_reducible refine Kd.C_drew ?_))); (case side2 => exact (Kd.R_reads' HO268.out).2.1); rintro e w26 ⟨rfl, hb⟩; refine ⟨_, rfl, ?_⟩; have n0_ := Aside0.mk (Kd.R_below (sq_r HO268) hb); have n1_ := Aside0.mk (blk_below (g := gb264) (o := .cells #[.string a1_0, .int .i64 a1_1] 48 (0, 0)) (sq_l BK264) hb); have n2_ := Aside0.mk (below_step (by repeat (first | (with_reducible first | exact HB.out | apply below_alloc | apply pw_below_drewN | apply below_drew1 | refine below_set ?_ GE264.out) | exact HB.out)) hb); clear HO268; clear BK264; clear HB; have HO268 := n0_; have BK264 := n1_; have HB := n2_; clear n0_ n1_ n2_; (try clear hb); (try clear hb2); (try clear hk); (try clear hi); have hcz27_0 : w26.cell? ⟨gb264, 0, none⟩ = some (.string a1_0) := (blk_cell BK264.out 0).trans rfl; have hcz27_1 : w26.cell? ⟨gb264, 1, none⟩ = some (.int .i64 a1_1) := (blk_cell BK264.out 1).trans rfl; have hfz27_0 := blk_frozen BK264.out 0; have hfz27_1 := blk_frozen BK264.out 1) | ((with_reducible refine gate_dst (N := 32) rfl ?_); refine Kd.R_lit k48 _ 48 ?hg (N := 32) ?hd (xs := ([(⟨a1_0, a1_1⟩ : S48)] : List (S48))) (inner := [.string a1_0, .int .i64 a1_1]) (ok := fun _ => True) (okp := fun _ => True) ?hr ?hp (fun _ hk => hk) trivial (Below.refl _ _) (Nat.le_refl _) (by simp) ?_; (case hd => rfl); (case hg => rfl); (case hr => first | (go_simp; done) | (go_simp; rfl)); (case hp => exact (Reps.c2 (show Kd.M k48 _ _ _ (⟨a1_0, a1_1⟩ : S48) [.string a1_0, .int .i64 a1_1] from (k48_mkM _ _ _ (⟨a1_0, a1_1⟩ : S48) )) (Reps.none _ _))); intro v277 w28 ho29 hb hg_ hnew_; clear hg_ hnew_; (first | rw [← Ny276.out] at ho29 | (simp only [Int.reduceToNat] at ho29; rw [← Ny276.out] at ho29)); have n0_ := Aside0.mk (Kd.R_elder' (sq_r HO268) (Kd.R_base ho29) hb); have n1_ := Aside0.mk (Kd.R_lower (Kd.R_newB (Kd.R_new' ho29 (Kd.R_lt (sq_r HO268))) (g := gb264) (o := .cells #[.string a1_0, .int .i64 a1_1] 48 (0, 0)) (sq_l BK264)) (below_size (by repeat (first | (with_reducible first | exact HB.out | apply below_alloc | apply pw_below_drewN | apply below_drew1 | refine below_set ?_ GE264.out) | exact HB.out)))); have n2_ := Aside0.mk (blk_below (g := gb264) (o := .cells #[.string a1_0, .int .i64 a1_1] 48 (0, 0)) (sq_l BK264) hb); have n3_ := Aside0.mk (below_step (by repeat (first | (with_reducible first | exact HB.out | apply below_alloc | apply pw_below_drewN | apply below_drew1 | refine below_set ?_ GE264.out) | exact HB.out)) hb); clear HO268; clear BK264; clear HB; have HO268 := n0_; have HO278 := n1_; have BK264 := n2_; have HB := n3_; clear n0_ n1_ n2_ n3_; clear hb ho29; obtain ⟨Ao30, co30, eo30⟩ := Kd.R_slice HO278.out; subst eo30) | ((with_reducible refine gate_callee (f := 62) rfl ?_); refine goesL_ (some 33) rfl rfl Try.func62 (by kernel_rfl) rfl #[.slice Ao25 t265.length co25, .int .i64 t269, .slice Ao30 y276.length co30] rfl (by (try simp only [List.map_toArray, List.map_cons, List.map_nil]); first | done | rfl | (simp only [List.length_drop, List.length_take]; rfl)) ?_; (with_reducible refine (slices_Insert_impl_Entry.calls (fun k_ => some k_ = (.slice Ao25 t265.length co25 : Value).ownBlock) (.slice Ao25 t265.length co25) t265 t269 _ _ y276 t279 w _ ?side1 ?side2 ?side3 ?side4 A20.out).mono ?_); (case side1 => repeat (first | (with_reducible first | exact HB.out | apply below_alloc | apply pw_below_drewN | apply below_drew1 | refine below_set ?_ GE264.out) | exact HB.out)); (case side2 => exact Kd.R_tight rfl HO268.out); (case side3 => exact Kd.C_kept_own (HO278.out) (fun k_ hk_ hs_ => (hk_.1.2) hs_)); (case side4 => exact (Kd.R_reads' HO278.out).2.1); rintro e w31 ⟨v280, rfl, ho0, hb, hkp⟩; refine ⟨_, rfl, ?_⟩; have n0_ := Aside0.mk (blk_kept (sq_l BK264) hkp (fun hs_ => (fun e_ => (Kd.R_away HO268.out (fun _ hk => hk.1.2)) e_) hs_)); have n1_ := Aside0.mk (Kd.R_mono (ok' := fun k_ => k_ ≠ gb264 ∧ some k_ ≠ (v280 : Value).ownBlock) (Kd.R_keptB (HO278.out) hkp (fun k_ hk_ hs_ => (hk_.1.2) hs_)) (fun k_ hk_ => ⟨hk_.1.2, fun e_ => Or.elim (ho0.1 k_ e_.symm) (fun hs_ => hk_.2.1 hs_) (fun hn_ => Nat.not_le.2 hk_.2.2 hn_)⟩)); have n2_ := Aside0.mk (Kd.R_mono (ok' := fun k_ => some k_ ≠ (.slice Ao30 y276.length co30 : Value).ownBlock ∧ k_ ≠ gb264) ho0 (fun k_ hk_ => ⟨Or.elim hk_ (fun hs_ => fun e_ => (((HO278.out).1 k_ e_.symm).1.2) hs_) (fun hn_ => (Kd.fresh' (Kd.R_lt (sq_r HO278)) k_ hn_)), Or.elim hk_ (fun hs_ => fun e_ => (Kd.R_away HO268.out (fun _ hk => hk.1.2)) (by rw [← e_]; exact hs_)) (fun hn_ => (Kd.freshB (g := gb264) (o := .cells #[.string a1_0, .int .i64 a1_1] 48 (0, 0)) (sq_l BK264) k_ hn_))⟩)); have n3_ := Aside0.mk (hb); clear BK264; clear HO278; clear HB; clear HO268; have BK264 := n0_; have HO278 := n1_; have HO281 := n2_; have HB := n3_; clear n0_ n1_ n2_ n3_; (try clear hb); (try clear hkp); (try clear ho0); obtain ⟨Ao32, co32, eo32⟩ := Kd.R_slice HO281.out; subst eo32) | ((with_reducible refine gate_callee (f := 45) rfl ?_); refine goesL_ (some 35) rfl rfl Try.func45 (by kernel_rfl) rfl #[.slice Ao32 t279.length co32] rfl (by (try simp only [List.map_toArray, List.map_cons, List.map_nil]); first | done | rfl | (simp only [List.length_drop, List.length_take]; rfl)) ?_; (with_reducible refine (impl_build.calls k _ _ t279 t282 t283 _ ?side1 ?side2 A21.out).mono ?_); (case side1 => repeat (first | exact (Kd.R_reads' HO281.out).2.2 | (with_reducible refine Kd.C_alloc ?_ _) | (with_reducible refine Kd.C_drewN ?_ _) | (with_reducible refine Kd.C_drew ?_))); (case side2 => exact (Kd.R_reads' HO281.out).2.1); rintro e w33 ⟨v284, rfl, ho0, hb⟩; refine ⟨_, rfl, ?_⟩; have n0_ := Aside0.mk (Kd.R_below (sq_r HO278) hb); have n1_ := Aside0.mk (Kd.R_below (sq_r HO281) hb); have n2_ := Aside0.mk (Kd.S_lower ho0 (below_size (by repeat (first | (with_reducible first | exact HB.out | apply below_alloc | apply pw_below_drewN | apply below_drew1 | refine below_set ?_ GE264.out) | exact HB.out)))); have n3_ := Aside0.mk (blk_below (g := gb264) (o := .cells #[.string a1_0, .int .i64 a1_1] 48 (0, 0)) (sq_l BK264) hb); have n4_ := Aside0.mk (below_step (by repeat (first | (with_reducible first | exact HB.out | apply below_alloc | apply pw_below_drewN | apply below_drew1 | refine below_set ?_ GE264.out) | exact HB.out)) hb); clear HO278; clear HO281; clear BK264; clear HB; have HO278 := n0_; have HO281 := n1_; have HO285 := n2_; have BK264 := n3_; have HB := n4_; clear n0_ n1_ n2_ n3_ n4_; (try clear hb); (try clear hb2); (try clear hk); (try clear hi); (try clear ho0)))
   go_ret2
   exact ⟨_, sq_w, by (with_reducible repeat (first | apply Kd.S_alloc | apply Kd.S_drewN | apply Kd.S_drew)); exact HO285.out, by repeat (first | (with_reducible first | exact HB.out | apply below_alloc | apply pw_below_drewN | apply below_drew1 | refine below_set ?_ GE264.out) | exact HB.out)⟩
 ·replace c4 := Bool.eq_false_iff.mpr c4
  subst c4
  have H1 : (some (([] : List (S59)), false)) = some (r1, r2) := by rw [if_neg (show ¬ (false = true) by decide)] at H; exact H
  clear H
  have H := H1
  clear H1
  simp only [Option.some.injEq, Prod.mk.injEq] at H
  obtain ⟨rfl, rfl⟩ := H
  go_enter Try.func32, Try.ntmps32
  go_wp2_with (first | ((with_reducible refine gate_dst (N := 3) rfl ?_); refine box_event ?hg (N := 3) ?hd (cs := #[.string a1_0, .int .i64 a1_1]) (t := 48) ?hr ?_; (case hd => rfl); (case hg => rfl); (case hr => first | (go_simp; done) | (go_simp; rfl)); intro gb264 hg w34 hbox hb; have n0_ := Aside0.mk (below_step sq_b hb); have n1_ := Aside0.mk (hbox); have n2_ := Aside0.mk ((by rw [hg]; exact (below_size sq_b) : w.heap.size ≤ gb264)); have n3_ := Aside0.mk ((by rw [hg]; exact (below_size sq_b) : w.heap.size ≤ gb264)); clear HB; have HB := n0_; have BK264 := n1_; have GW264 := n2_; have GE264 := n3_; clear n0_ n1_ n2_ n3_; clear hb hbox hg) | ((with_reducible refine gate_callee (f := 54) rfl ?_); refine goesL_ (some 12) rfl rfl Try.func54 (by kernel_rfl) rfl #[.slice A0 l0.length c0] rfl (by (try simp only [List.map_toArray, List.map_cons, List.map_nil]); first | done | rfl | (simp only [List.length_drop, List.length_take]; rfl)) ?_; (with_reducible refine (impl_entries.calls k _ _ l0 t265 false _ ?side1 ?side2 A3.out).mono ?_); (case side1 => repeat (first | exact (Kd.C_below HR0.out HB.out) | (with_reducible refine Kd.C_alloc ?_ _) | (with_reducible refine Kd.C_drewN ?_ _) | (with_reducible refine Kd.C_drew ?_))); (case side2 => exact HC0.out); rintro e w35 ⟨v267, rfl, ho0, hb⟩; refine ⟨_, rfl, ?_⟩; have n0_ := Aside0.mk (Kd.R_lower (Kd.R_newB ho0 (g := gb264) (o := .cells #[.string a1_0, .int .i64 a1_1] 48 (0, 0)) (sq_l BK264)) (below_size (by repeat (first | (with_reducible first | exact HB.out | apply below_alloc | apply pw_below_drewN | apply below_drew1 | refine below_set ?_ GE264.out) | exact HB.out)))); have n1_ := Aside0.mk (blk_below (g := gb264) (o := .cells #[.string a1_0, .int .i64 a1_1] 48 (0, 0)) (sq_l BK264) hb); have n2_ := Aside0.mk (below_step (by repeat (first | (with_reducible first | exact HB.out | apply below_alloc | apply pw_below_drewN | apply below_drew1 | refine below_set ?_ GE264.out) | exact HB.out)) hb); clear BK264; clear HB; have HO268 := n0_; have BK264 := n1_; have HB := n2_; clear n0_ n1_ n2_; (try clear hb); (try clear hb2); (try clear hk); (try clear hi); (try clear ho0)))
  go_ret2
  exact ⟨_, sq_w, by first | exact Kd.S_nil _ _ _ _ _ | exact Kd.N_nil _ _ _ _ _ | exact Kd.V_nil _ _ _ _ _ | exact Kd.Q_nil _ _ _ _ _ | exact Kd.R_nil _ _ _ _ _, by repeat (first | (with_reducible first | exact HB.out | apply below_alloc | apply pw_below_drewN | apply below_drew1 | refine below_set ?_ GE264.out) | exact HB.out)⟩

-- NOT PRINTED: function 7 (laws_FnExactPutEntry)

end Go.Proofs.Ytkoackkimdanjaa.QFnExactPutEntry
