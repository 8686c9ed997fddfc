-- Written by this session's own program (wip/pp_patch.py, wip/pp.sh) out of the given translation. Not trusted: Lean checks it.
import Derived.Test.YtlohhmoaomlieaaQFnExactPutWordx0
import Derived.Test.YtlohhmoaomlieaaQFnExactPutWordx1
namespace Go.Proofs.Ytlohhmoaomlieaa.QFnExactPutWord
open Go.RowKit Go.Proofs.YtlohhmoaomlieaaW.PrintWords Go.Proofs.YtlohhmoaomlieaaW.PrintLast Go.Proofs.YtlohhmoaomlieaaW.PrintMore
attribute [local go_sem] max2_int min2_int max_two min_two max_three min_three max_four min_four   -- for this text's walks alone
open Go.Proofs.Ytlohhmoaomlieaa.Ext
attribute [local go_sem high] ext_gtr ext_leq
set_option linter.unusedVariables false
set_option linter.unusedSimpArgs false

/-! ### laws_markKnotS: function 18 (by hand) -/
def laws_markKnotS.l : Nat → List S62 → Int → Option (Int × List S62)
 | _, [], a => some (a, [])
 | k, x :: l, a => (laws_markText.f k a).bind fun s => (laws_markIntS.f k x.f1 (wrap64 (a + 1))).bind fun p => (laws_markIntS.f k x.f2 p.1).bind fun p2 => (laws_markKnotS.l k l p2.1).bind fun q => some (q.1, ⟨s, p.2, p2.2⟩ :: q.2)
def laws_markKnotS.f (k : Nat) (l0 : List S62) (a1 : Int) : Option (Int × List S62) := if l0.length ≤ 1152921504606846976 then laws_markKnotS.l k l0 a1 else none
set_option maxHeartbeats 8000000 in
set_option maxRecDepth 100000 in
theorem laws_markKnotS.calls (k : Nat) (P0_ : Nat → Prop) (u9000_ : Value) (l0 : List S62) (a1 : Int) (r1 : Int) (r2 : List S62) (w0 w : World) (hB : Below w0.heap.size w0 w) (ho0 : Kd.S k62 62 w w0.heap.size P0_ u9000_ l0) (h : laws_markKnotS.f k l0 a1 = some (r1, r2)) :
  Calls Try.prog 18 #[u9000_, .int .i64 a1] w fun e w' => e = .returned (.int .i64 r1) ∧ Kd.S k62 62 w' w0.heap.size P0_ u9000_ r2 ∧ Below w0.heap.size w0 w' ∧ Kept w w' P0_ := by
 obtain ⟨A, c, rfl⟩ := Kd.S_slice ho0
 have hlen : l0.length ≤ 1152921504606846976 := by
  unfold laws_markKnotS.f at h
  split at h
  ·assumption
  ·cases h
 have H := Aside0.mk (show laws_markKnotS.l k l0 a1 = some (r1, r2) from by unfold laws_markKnotS.f at h; rwa [if_pos hlen] at h)
 clear h
 have HS := Aside0.mk ho0
 have HB := Aside0.mk hB
 have HK := Aside0.mk (Kept.refl w P0_)
 clear ho0 hB
 go_enter Try.func18, Try.ntmps18
 go_wp2
 go_loopg [1, 5] l0.length (fun kq v1 v5 w' => ∃ (ys rest : List S62) (a : Int) (x5 : Int), v1 = .int .i64 a ∧ v5 = .int .i64 x5 ∧ Aside0 (x5 = ys.length) ∧ Aside0 (kq = rest.length) ∧ Aside0 (ys.length + rest.length = l0.length) ∧ Aside0 (∃ rest', laws_markKnotS.l k rest a = some (r1, rest') ∧ r2 = ys ++ rest') ∧ Aside0 (Kd.S k62 62 w' w0.heap.size P0_ (.slice A l0.length c) (ys ++ rest)) ∧ Aside0 (Below w0.heap.size w0 w') ∧ Aside0 (Kept w w' P0_))
 case atStart => exact ⟨[], l0, a1, 0, rfl, rfl, ⟨rfl⟩, ⟨rfl⟩, ⟨by simp⟩, ⟨r2, H.out, rfl⟩, ⟨HS.out⟩, ⟨HB.out⟩, ⟨HK.out⟩⟩
 case round =>
  clear H HS HB HK
  obtain ⟨ys, rest, a, x5, rfl, rfl, HX, HQ, HL, HA, HS, HB, HK⟩ := hrel
  cases rest with
  | nil =>
   have c1 : decide (x5 < (l0.length : Int)) = false := decide_eq_false (by have := HX.out; have := HL.out; simp at this; omega)
   go_wp2
   go_ret
   obtain ⟨rest', h1, h2⟩ := HA.out
   simp only [laws_markKnotS.l] at h1
   injection h1 with h1
   injection h1 with h1 h3
   subst h1; subst h3; subst h2
   exact ⟨rfl, HS.out, HB.out, HK.out⟩
  | cons x rest =>
   have hl : ys.length + (rest.length + 1) = l0.length := HL.out
   have c0 : 0 ≤ x5 := by rw [HX.out]; omega
   have c1 : x5 < (l0.length : Int) := by rw [HX.out]; omega
   have hi : x5.toNat = ys.length := by rw [HX.out]; simp
   obtain ⟨rest', h1, h2⟩ := HA.out
   simp only [laws_markKnotS.l] at h1
   obtain ⟨s, hs, h1⟩ := Option.bind_eq_some_iff.mp h1
   obtain ⟨p, hp, h1⟩ := Option.bind_eq_some_iff.mp h1
   obtain ⟨p2, hp2, h1⟩ := Option.bind_eq_some_iff.mp h1
   obtain ⟨q, hq, h1⟩ := Option.bind_eq_some_iff.mp h1
   injection h1 with h1
   injection h1 with h4 h3
   subst h3
   subst h4
   obtain ⟨g, cap, e1, _, _, _⟩ := Kd.S_form HS.out (by simp; omega)
   injection e1 with e1 e3 e2
   clear e3
   subst e1; subst e2
   have HP := Aside0.mk hp
   have HP2 := Aside0.mk hp2
   have HE := Aside0.mk (And.intro hq h2)
   have HI := Aside0.mk hi
   have HC := Aside0.mk (And.intro c0 c1)
   have HW := Aside0.mk (show wrap64 (x5 + 1) = x5 + 1 from by unfold wrap64; omega)
   have d1 : decide (x5 < (l0.length : Int)) = true := decide_eq_true c1
   have d0 : decide (0 ≤ x5) = true := decide_eq_true c0
   have e0 := eq_true c0
   have e1 := eq_true c1
   clear hp hp2 hq h2 hi hl HA
   go_wp2_with fail
   (with_reducible refine (laws_markText.calls k a s _ hs).mono ?_)
   rintro e wA ⟨rfl, hbA⟩
   have HSA := Kd.S_below HS.out hbA
   have HBA := below_step HB.out hbA
   have HKA := Kept.below HK.out hbA
   obtain ⟨oki, cs, _, hM, hcc, hfr, hoki, hH⟩ := Kd.S_elem HSA z62 x5 c0 c1
   rw [get_mid _ _ _ _ _ HI.out] at hM
   obtain ⟨t, v1, v2, rfl, hR1, hR2⟩ := k62_openT hM
   obtain ⟨A1, n1, rfl⟩ := Kd.R_slice hR1
   obtain ⟨A2, n2, rfl⟩ := Kd.R_slice hR2
   simp only [show (k62 : Kd S62).sz = 3 from rfl] at hcc hfr
   have r0 := hcc 0 _ rfl
   have r1_ := hcc 1 _ rfl
   have r2_ := hcc 2 _ rfl
   have f0 := hfr 0
   rw [Nat.add_zero] at r0 f0
   have hg := Kd.S_base HSA _ rfl
   have hPg : P0_ g := (Kd.S_R HSA).1 _ rfl
   have hog : ∀ k_, oki k_ → k_ ≠ g := fun k_ h_ => (hoki k_ h_).2
   obtain ⟨hA, _⟩ := Kd.H_seg hH c0 c1 (seg := [.string s]) (j := 0) (show 0 + 1 ≤ 3 from by decide) (fun q_ hq_ => by obtain rfl := List.mem_singleton.1 hq_; rfl)
   have hR1b := Kd.R_far (p := ⟨g, x5.toNat * 3, none⟩) hR1 (fun k_ h_ => hog k_ h_.1) (.string s)
   have hR2b := Kd.R_far (p := ⟨g, x5.toNat * 3, none⟩) hR2 (fun k_ h_ => hog k_ h_.1) (.string s)
   have hBb := HBA.setCell (p := ⟨g, x5.toNat * 3, none⟩) hg (.string s)
   have hKb := Kept.setCell (p := ⟨g, x5.toNat * 3, none⟩) HKA (Or.inl hPg) (.string s)
   have HHb := Aside0.mk (show Kd.H k62 62 (wA.setCell ⟨g, x5.toNat * 3, none⟩ (.string s)) w0.heap.size P0_ (.slice (some ⟨g, 0, none⟩) l0.length c) (ys ++ x :: rest) x5 oki [.string s, .slice A1 x.f1.length n1, .slice A2 x.f2.length n2] from hA)
   have HR1b := Aside0.mk hR1b
   have HR2b := Aside0.mk hR2b
   have HBb := Aside0.mk hBb
   have HKb := Aside0.mk hKb
   have HOK := Aside0.mk hoki
   clear hA hR1b hR2b hBb hKb hR1 hR2 hM hH hcc hfr HSA HBA HKA hbA HS HB HK hs hoki hg hog
   go_wp2_with fail
   (with_reducible refine (laws_markIntS.calls k (fun k_ => oki k_ ∧ t k_ = false) (.slice A1 x.f1.length n1) x.f1 _ p.1 p.2 w0 _ HBb.out HR1b.out HP.out).mono ?_)
   rintro e w1 ⟨rfl, hr1, hb1, hk1⟩
   have hr1b := Kd.R_reok (ok := fun k_ => oki k_ ∧ t k_ = false) rfl hr1 (fun k_ e_ => HR1b.out.1 k_ e_)
   have hr2b := Kd.R_kept HR2b.out hk1 (fun k_ h_ h2_ => by rw [h_.2] at h2_; exact absurd h2_.2 (by decide))
   have hH1 := Kd.H_step HHb.out (fun k_ _ hn hlt => hk1.2 k_ hlt (fun h_ => hn h_.1))
   have hK1 := Kept.then_ HKb.out hk1 (fun k_ h_ => .inl (HOK.out k_ h_.1).1)
   obtain ⟨h9c, h9f⟩ := Kd.H_at hH1 HC.out.1 HC.out.2
   simp only [show (k62 : Kd S62).sz = 3 from rfl] at h9c h9f
   have r2_ := h9c 2 _ rfl
   have HR1c := Aside0.mk hr1b
   have HR2c := Aside0.mk hr2b
   have HH1 := Aside0.mk hH1
   have HB1 := Aside0.mk hb1
   have HK1 := Aside0.mk hK1
   clear hr1 hr1b hr2b hH1 hK1 hb1 hk1 h9c h9f HR1b HR2b HHb HBb HKb
   go_wp2_with fail
   (with_reducible refine (laws_markIntS.calls k (fun k_ => oki k_ ∧ t k_ = true) (.slice A2 x.f2.length n2) x.f2 _ p2.1 p2.2 w0 _ HB1.out HR2c.out HP2.out).mono ?_)
   rintro e w2 ⟨rfl, hr2, hb2, hk2⟩
   have hr2d := Kd.R_reok (ok := fun k_ => oki k_ ∧ t k_ = true) rfl hr2 (fun k_ e_ => HR2c.out.1 k_ e_)
   have hr1d := Kd.R_kept HR1c.out hk2 (fun k_ h_ h2_ => by rw [h_.2] at h2_; exact absurd h2_.2 (by decide))
   have hH2 := Kd.H_step HH1.out (fun k_ _ hn hlt => hk2.2 k_ hlt (fun h_ => hn h_.1))
   have hp1l : p.2.length = x.f1.length := by obtain ⟨A_, c_, e_⟩ := Kd.R_slice HR1c.out; injection e_ with _ e_ _; exact e_.symm
   have hp2l : p2.2.length = x.f2.length := by obtain ⟨A_, c_, e_⟩ := Kd.R_slice hr2d; injection e_ with _ e_ _; exact e_.symm
   have hS2 := Kd.H_back hH2 (k62_mkT t _ _ _ (⟨s, p.2, p2.2⟩ : S62) hr1d hr2d) (fun _ h_ => h_)
   rw [set_mid _ _ _ _ _ HI.out] at hS2
   have HS1 := Aside0.mk hS2
   have HB2 := Aside0.mk hb2
   have HK2 := Aside0.mk (Kept.then_ HK1.out hk2 (fun k_ h_ => .inl (HOK.out k_ h_.1).1))
   clear hr2 hr2d hr1d hH2 hS2 hb2 hk2 HB1 HK1 HH1 HR1c HR2c hp1l hp2l
   go_wp2
   go_roundg rest.length
   case measure => have := HQ.out; simp at this; omega
   case rel =>
    exact ⟨ys ++ [⟨s, p.2, p2.2⟩], rest, p2.1, x5 + 1, rfl, rfl, ⟨by have := HX.out; simp; omega⟩, ⟨rfl⟩, ⟨by have := HL.out; simp at this ⊢; omega⟩, ⟨q.2, HE.out.1, by simpa using HE.out.2⟩, HS1, HB2, HK2⟩
theorem laws_markKnotS.mono_l : ∀ (l : List S62) (a : Int) (k : Nat), LeO (laws_markKnotS.l k l a) (laws_markKnotS.l (k + 1) l a)
 | [], a, k => LeO.refl _
 | x :: l, a, k => by
  unfold laws_markKnotS.l
  refine LeO.bind (laws_markText.mono _ _) (fun _ => LeO.bind (laws_markIntS.mono _ _ _) (fun _ => LeO.bind (laws_markIntS.mono _ _ _) (fun _ => LeO.bind (laws_markKnotS.mono_l l _ k) (fun _ => LeO.refl _))))
theorem laws_markKnotS.mono : ∀ a0 a1 k, LeO (laws_markKnotS.f k a0 a1) (laws_markKnotS.f (k + 1) a0 a1) := by
 intro a0 a1 k
 unfold laws_markKnotS.f
 exact LeO.ite (laws_markKnotS.mono_l a0 a1 k) (LeO.none _)

/-! ### laws_heldIntS: function 49 -/
def laws_heldIntS.l0 : Nat → List Int → Int → Int → Option (Int)
 | 0, _, _, _ => none
 | k + 1, x0, x1, x5 => if x5 < (x0.length : Int) then (if 0 ≤ x5 then (if (rd x0 x5) = x1 then (laws_heldIntS.l0 k x0 (wrap64 (x1 + 1)) (wrap64 (x5 + 1))) else (some (-1))) else (none)) else (some x1)
def laws_heldIntS.f (k : Nat) (l0 : List Int) (a1 : Int) : Option (Int) := laws_heldIntS.l0 k l0 a1 0
theorem laws_heldIntS.mono_l : ∀ k, (∀ y0 y1 y2, LeO (laws_heldIntS.l0 k y0 y1 y2) (laws_heldIntS.l0 (k + 1) y0 y1 y2))
 | 0 => fun _ _ _ r h => by simp [laws_heldIntS.l0] at h
 | k + 1 => by
  have ih0 := laws_heldIntS.mono_l k
  ·intro y0 y1 y2
   unfold laws_heldIntS.l0
   repeat' first
   | (with_reducible exact ih0 _ _ _)
   | (with_reducible exact LeO.refl _)
   | (with_reducible exact LeO.none _)
   | (with_reducible refine LeO.ite ?_ ?_)
   | (with_reducible refine LeO.bind ?_ (fun _ => ?_))
   | exact ih0 _ _ _
   | exact LeO.none _
   | refine LeO.ite ?_ ?_
   | refine LeO.bind ?_ (fun _ => ?_)
theorem laws_heldIntS.mono : ∀ a0 a1 k, LeO (laws_heldIntS.f k a0 a1) (laws_heldIntS.f (k + 1) a0 a1) := by
 intro a0 a1 k
 have ih0 := laws_heldIntS.mono_l k
 unfold laws_heldIntS.f
 repeat' first
   | (with_reducible exact ih0 _ _ _)
   | (with_reducible exact LeO.refl _)
   | (with_reducible exact LeO.none _)
   | (with_reducible refine LeO.ite ?_ ?_)
   | (with_reducible refine LeO.bind ?_ (fun _ => ?_))
   | exact ih0 _ _ _
   | exact LeO.none _
   | refine LeO.ite ?_ ?_
   | refine LeO.bind ?_ (fun _ => ?_)
set_option maxHeartbeats 8000000 in
set_option maxRecDepth 100000 in
theorem laws_heldIntS.calls (k : Nat) (A0 : Option Addr) (c0 : Nat) (l0 : List Int) (a1 : Int) (r : Int) (w : World) (hr0 : Kd.C (Kd.int .i64) w A0 l0.length l0) (hc0 : l0.length ≤ c0) (h : laws_heldIntS.f k l0 a1 = some r) :
  Calls Try.prog 49 #[.slice A0 l0.length c0, .int .i64 a1] w fun e w' => e = .returned (.int .i64 r) ∧ Drawn0 w w' := by
 have HR0 := Aside0.mk hr0
 have HC0 := Aside0.mk hc0
 clear hr0 hc0
 have H : (laws_heldIntS.l0 k l0 a1 0) = some r := h
 clear h
 have H' := Aside0.mk H
 clear H
 go_enter Try.func49, Try.ntmps49
 go_wp2
 go_loopg [1, 5] k (fun kq v1 v5 w' => ∃ (x1_1 : Int) (x5_1 : Int), v1 = .int .i64 x1_1 ∧ v5 = .int .i64 x5_1 ∧ Aside0 (laws_heldIntS.l0 kq l0 x1_1 x5_1 = some r) ∧ Aside0 (kq ≤ k) ∧ Drawn0 w w')
 case atStart => exact ⟨(a1), (0), sq_e, sq_e, H', ⟨Nat.le_refl _⟩, by repeat (first | exact Drawn0.refl _ | apply Drawn0.step)⟩
 case round =>
  clear H'
  try clear p2
  obtain ⟨x1_1, x5_1, rfl, rfl, HA, HK1, ⟨m1, rfl⟩⟩ := hrel
  cases gk with
  | zero => exact absurd HA.out (by simp [laws_heldIntS.l0])
  | succ k1 =>
   have H := HA.out
   clear HA
   simp only [laws_heldIntS.l0] at H
   by_cases c3 : x5_1 < (l0.length : Int)
   ·rw [if_pos c3] at H
    have c3b0 : decide (x5_1 < (l0.length : Int)) = true := decide_eq_true c3
    clear c3
    by_cases c4 : 0 ≤ x5_1
    rotate_left
    ·rw [if_neg c4] at H
     exact absurd H (by simp)
    rw [if_pos c4] at H
    have c4b0 : decide (0 ≤ x5_1) = true := decide_eq_true c4
    clear c4
    by_cases c5 : (rd l0 x5_1) = x1_1
    ·rw [if_pos c5] at H
     have c5b0 : ((rd l0 x5_1) == x1_1) = true := beq_iff_eq.mpr c5
     have c5b1 : ((rd l0 x5_1) != x1_1) = false := bne_eq_false_iff_eq.mpr c5
     clear c5
     have H' := Aside0.mk H
     clear H
     have p114 : 0 ≤ (x5_1 : Int) := sq_d
     have q114 : x5_1 < (l0.length : Int) := sq_d
     obtain ⟨ad114, e114, hx114_0⟩ := Kd.at_int HR0.out x5_1 p114 q114
     cases e114
     replace p114 := eq_true p114
     replace q114 := eq_true q114
     go_wp2
     go_roundg k1
     case measure => have := HK1.out; omega
     case rel => exact ⟨(wrap64 (x1_1 + 1)), (wrap64 (x5_1 + 1)), sq_e, sq_e, H', ⟨by have := HK1.out; omega⟩, by repeat (first | exact Drawn0.refl _ | apply Drawn0.step)⟩
    ·rw [if_neg c5] at H
     have c5b0 : ((rd l0 x5_1) == x1_1) = false := beq_eq_false_iff_ne.mpr c5
     have c5b1 : ((rd l0 x5_1) != x1_1) = true := bne_iff_ne.mpr c5
     obtain rfl := Option.some.inj H
     have p114 : 0 ≤ (x5_1 : Int) := sq_d
     have q114 : x5_1 < (l0.length : Int) := sq_d
     obtain ⟨ad114, e114, hx114_0⟩ := Kd.at_int HR0.out x5_1 p114 q114
     cases e114
     replace p114 := eq_true p114
     replace q114 := eq_true q114
     go_wp2
     go_ret
     exact ⟨by first | rfl | (simp; done) | (simp [ext_bne_nil, ext_beq_nil]; done) | (simp [*]; done), by repeat (first | exact Drawn0.refl _ | apply Drawn0.step)⟩
   ·rw [if_neg c3] at H
    have c3b0 : decide (x5_1 < (l0.length : Int)) = false := decide_eq_false c3
    clear c3
    obtain rfl := Option.some.inj H
    go_wp2
    go_ret
    exact ⟨by first | rfl | (simp; done) | (simp [ext_bne_nil, ext_beq_nil]; done) | (simp [*]; done), by repeat (first | exact Drawn0.refl _ | apply Drawn0.step)⟩

/-! ### laws_heldKnotS: function 19 -/
def laws_heldKnotS.l0 : Nat → List (S62) → Int → Int → Option (Int)
 | 0, _, _, _ => none
 | k + 1, x0, x1, x5 => if x5 < (x0.length : Int) then (if 0 ≤ x5 then ((laws_markText.f k x1).bind fun t116 => (if ((rd_T62 x0 x5).f0).toList = t116.toList then ((laws_heldIntS.f k ((rd_T62 x0 x5).f1) (wrap64 (x1 + 1))).bind fun t118 => (if t118 < 0 then (some (-1)) else ((laws_heldIntS.f k ((rd_T62 x0 x5).f2) t118).bind fun t120 => (if t120 < 0 then (some (-1)) else (laws_heldKnotS.l0 k x0 t120 (wrap64 (x5 + 1))))))) else (some (-1)))) else (none)) else (some x1)
def laws_heldKnotS.f (k : Nat) (l0 : List (S62)) (a1 : Int) : Option (Int) := laws_heldKnotS.l0 k l0 a1 0
theorem laws_heldKnotS.mono_l : ∀ k, (∀ y0 y1 y2, LeO (laws_heldKnotS.l0 k y0 y1 y2) (laws_heldKnotS.l0 (k + 1) y0 y1 y2))
 | 0 => fun _ _ _ r h => by simp [laws_heldKnotS.l0] at h
 | k + 1 => by
  have ih0 := laws_heldKnotS.mono_l k
  ·intro y0 y1 y2
   unfold laws_heldKnotS.l0
   repeat' first
   | (with_reducible exact ih0 _ _ _)
   | (with_reducible exact laws_heldIntS.mono _ _ _)
   | (with_reducible exact laws_markText.mono _ _)
   | (with_reducible exact LeO.refl _)
   | (with_reducible exact LeO.none _)
   | (with_reducible refine LeO.ite ?_ ?_)
   | (with_reducible refine LeO.bind ?_ (fun _ => ?_))
   | exact ih0 _ _ _
   | exact laws_heldIntS.mono _ _ _
   | exact laws_markText.mono _ _
   | exact LeO.none _
   | refine LeO.ite ?_ ?_
   | refine LeO.bind ?_ (fun _ => ?_)
theorem laws_heldKnotS.mono : ∀ a0 a1 k, LeO (laws_heldKnotS.f k a0 a1) (laws_heldKnotS.f (k + 1) a0 a1) := by
 intro a0 a1 k
 have ih0 := laws_heldKnotS.mono_l k
 unfold laws_heldKnotS.f
 repeat' first
   | (with_reducible exact ih0 _ _ _)
   | (with_reducible exact laws_heldIntS.mono _ _ _)
   | (with_reducible exact laws_markText.mono _ _)
   | (with_reducible exact LeO.refl _)
   | (with_reducible exact LeO.none _)
   | (with_reducible refine LeO.ite ?_ ?_)
   | (with_reducible refine LeO.bind ?_ (fun _ => ?_))
   | exact ih0 _ _ _
   | exact laws_heldIntS.mono _ _ _
   | exact laws_markText.mono _ _
   | exact LeO.none _
   | refine LeO.ite ?_ ?_
   | refine LeO.bind ?_ (fun _ => ?_)
def laws_heldKnotS.T4 : Bool × List (List Nat × List Nat) := (true, [([], []), ([], []), ([0, 1], [0, 1]), ([2], [2]), ([3], [3]), ([], []), ([5], [5]), ([4, 6], [4, 6])])
def laws_heldKnotS.B4 : List Nat := [0, 0, 3, 7, 15, 0, 32, 127]
theorem laws_heldKnotS.tab4 : rtab .any (opsOf Try.f19 4) = laws_heldKnotS.T4 := by kernel_rfl
theorem laws_heldKnotS.bits4 : waitsOk laws_heldKnotS.T4.2 laws_heldKnotS.B4 = true := by kernel_rfl
set_option maxHeartbeats 8000000 in
set_option maxRecDepth 100000 in
theorem laws_heldKnotS.calls (k : Nat) (A0 : Option Addr) (c0 : Nat) (l0 : List (S62)) (a1 : Int) (r : Int) (w : World) (hr0 : Kd.C k62 w A0 l0.length l0) (hc0 : l0.length ≤ c0) (h : laws_heldKnotS.f k l0 a1 = some r) :
  Calls Try.prog 19 #[.slice A0 l0.length c0, .int .i64 a1] w fun e w' => e = .returned (.int .i64 r) ∧ Below w.heap.size w w' := by
 have HR0 := Aside0.mk hr0
 have HC0 := Aside0.mk hc0
 clear hr0 hc0
 have HB := Aside0.mk (Below.refl w.heap.size w)
 have H : (laws_heldKnotS.l0 k l0 a1 0) = some r := h
 clear h
 have H' := Aside0.mk H
 clear H
 go_enter Try.func19, Try.ntmps19
 go_wp2
 go_loopg [1, 5] k (fun kq v1 v5 w' => ∃ (x1_1 : Int) (x5_1 : Int), v1 = .int .i64 x1_1 ∧ v5 = .int .i64 x5_1 ∧ Aside0 (laws_heldKnotS.l0 kq l0 x1_1 x5_1 = some r) ∧ Aside0 (kq ≤ k) ∧ Aside0 (Below w.heap.size w w'))
 case atStart => exact ⟨(a1), (0), sq_e, sq_e, H', ⟨Nat.le_refl _⟩, ⟨sq_b⟩⟩
 case round =>
  clear H'
  (try clear c1); (try clear p2)
  obtain ⟨x1_1, x5_1, rfl, rfl, HA, HK1, HB⟩ := hrel
  cases gk with
  | zero => exact absurd HA.out (by simp [laws_heldKnotS.l0])
  | succ k1 =>
   have H := HA.out
   clear HA
   simp only [laws_heldKnotS.l0] at H
   by_cases c3 : x5_1 < (l0.length : Int)
   ·rw [if_pos c3] at H
    have c3b0 : decide (x5_1 < (l0.length : Int)) = true := decide_eq_true c3
    clear c3
    by_cases c4 : 0 ≤ x5_1
    rotate_left
    ·rw [if_neg c4] at H
     exact absurd H (by simp)
    rw [if_pos c4] at H
    have c4b0 : decide (0 ≤ x5_1) = true := decide_eq_true c4
    clear c4
    replace H := Option.bind_eq_some_iff.mp H
    obtain ⟨t116, A50, H⟩ := H
    replace H : (if ((rd_T62 l0 x5_1).f0).toList = t116.toList then ((laws_heldIntS.f k1 ((rd_T62 l0 x5_1).f1) (wrap64 (x1_1 + 1))).bind fun t118 => (if t118 < 0 then (some (-1)) else ((laws_heldIntS.f k1 ((rd_T62 l0 x5_1).f2) t118).bind fun t120 => (if t120 < 0 then (some (-1)) else (laws_heldKnotS.l0 k1 l0 t120 (wrap64 (x5_1 + 1))))))) else (some (-1))) = some r := H
    have A5 := Aside0.mk A50
    clear A50
    by_cases c6 : ((rd_T62 l0 x5_1).f0).toList = t116.toList
    ·rw [if_pos c6] at H
     have c6b0 : (((rd_T62 l0 x5_1).f0).toList == t116.toList) = true := beq_iff_eq.mpr c6
     have c6b1 : (((rd_T62 l0 x5_1).f0).toList != t116.toList) = false := bne_eq_false_iff_eq.mpr c6
     clear c6
     replace H := Option.bind_eq_some_iff.mp H
     obtain ⟨t118, A70, H⟩ := H
     replace H : (if t118 < 0 then (some (-1)) else ((laws_heldIntS.f k1 ((rd_T62 l0 x5_1).f2) t118).bind fun t120 => (if t120 < 0 then (some (-1)) else (laws_heldKnotS.l0 k1 l0 t120 (wrap64 (x5_1 + 1)))))) = some r := H
     have A7 := Aside0.mk A70
     clear A70
     by_cases c8 : t118 < 0
     ·rw [if_pos c8] at H
      have c8b0 : decide (t118 < 0) = true := decide_eq_true c8
      clear c8
      obtain rfl := Option.some.inj H
      try go_wp2
      have n0_ := Aside0.mk (below_drew1 HB.out)
      clear HB
      have HB := n0_
      clear n0_
      have p115 : 0 ≤ (x5_1 : Int) := sq_d
      have q115 : x5_1 < (l0.length : Int) := sq_d
      obtain ⟨ad115, A115_1, c115_1, A115_2, c115_2, e115, hx115_0, hx115_1, hx115_2, hl115_1, hi115_1, hl115_2, hi115_2⟩ := at_T62 HR0.out x5_1 p115 q115
      have hw115_2 := hx115_2
      have hw115_1 := hx115_1
      have hw115_0 := hx115_0
      cases e115
      try replace hx115_0 := (HB.out.cell (World.block_lt_of_cell? w _ hx115_0)).trans hx115_0
      try replace hx115_1 := (HB.out.cell (World.block_lt_of_cell? w _ hx115_1)).trans hx115_1
      try replace hx115_2 := (HB.out.cell (World.block_lt_of_cell? w _ hx115_2)).trans hx115_2
      have HR115_1 := Aside0.mk hi115_1
      have HC115_1 := Aside0.mk hl115_1
      clear hi115_1 hl115_1
      have HR115_2 := Aside0.mk hi115_2
      have HC115_2 := Aside0.mk hl115_2
      clear hi115_2 hl115_2
      replace p115 := eq_true p115
      replace q115 := eq_true q115
      refine start_ (n := 8) (S := fun w' => w'.cell? (ad115.add ((x5_1).toNat * 3)) = some (.string ((rd_T62 l0 x5_1).f0)) ∧ w'.cell? ⟨(ad115.add ((x5_1).toNat * 3)).block, (ad115.add ((x5_1).toNat * 3)).off + 1, none⟩ = some (.slice A115_1 ((rd_T62 l0 x5_1).f1).length c115_1) ∧ w'.cell? ⟨(ad115.add ((x5_1).toNat * 3)).block, (ad115.add ((x5_1).toNat * 3)).off + 2, none⟩ = some (.slice A115_2 ((rd_T62 l0 x5_1).f2).length c115_2)) (ds := []) #[false, false, false, false, false, false, false, false] (by kernel_rfl) rfl rfl ⟨((HB.out.cell (World.block_lt_of_cell? w _ hw115_0)).trans hw115_0), ((HB.out.cell (World.block_lt_of_cell? w _ hw115_1)).trans hw115_1), ((HB.out.cell (World.block_lt_of_cell? w _ hw115_2)).trans hw115_2)⟩ (fun hHeld => ?_); refine with_tabW laws_heldKnotS.tab4 laws_heldKnotS.bits4 (fun HT_ HW_ => ?_)
      generalize wr.drew = w9 at HB HR115_1 HR115_2 hx115_0 hx115_1 hx115_2 hHeld ⊢
      refine pu_ 0 (some 12) #[true, false, false, false, false, false, false, false] HT_ ?_
      refine pu_ 1 (some 13) #[true, true, false, false, false, false, false, false] HT_ ?_
      refine pu_ 2 (some 14) #[true, true, true, false, false, false, false, false] HT_ ?_
      refine pu_ 3 (some 15) #[true, true, true, true, false, false, false, false] HT_ ?_
      refine pu_ 5 (some 17) #[true, true, true, true, false, true, false, false] HT_ ?_
      refine take_ (i := 4) (N := some 16) (v := ?_) (a' := ?_) #[true, true, true, true, true, true, false, false] rfl rfl (take_ofW HT_.out HW_.out (by kernel_rfl)) (fun _ _ _ h => h) (Or.inl ⟨by rfl, ?_⟩) hHeld ?_ ?_
      rotate_left
      ·rintro w' ⟨s0, s1, s2⟩
       go_simp
       with_reducible rfl
      rotate_left
      ·simp only [Act.put, List.setIfInBounds_toArray, List.set_cons_zero, List.set_cons_succ, i64_w, i32_w]
       rfl
      refine one_ (i := 6) (N := some 18) #[true, true, true, true, true, true, true, false] rfl rfl (one_of HT_.out (by kernel_rfl)) (by decide) (fun K hK => ?_)
      refine goes_ Try.func47 (by kernel_rfl) rfl #[.int .i64 x1_1] (by rfl) rfl rfl (by (try simp only [List.map_toArray, List.map_cons, List.map_nil]); first | done | rfl | (simp only [List.length_drop, List.length_take]; rfl)) ?_
      with_reducible refine (laws_markText.calls k1 x1_1 t116 _ A5.out).mono ?_
      rintro e w10 ⟨rfl, hb⟩
      refine ⟨_, rfl, ?_⟩
      have n0_ := Aside0.mk (below_step sq_b hb)
      clear HB
      have HB := n0_
      clear n0_
      (try clear hb)
      (try clear hb2)
      (try clear hk)
      (try clear hi)
      refine hK.out _ _ ⟨((HB.out.cell (World.block_lt_of_cell? w _ hw115_0)).trans hw115_0), ((HB.out.cell (World.block_lt_of_cell? w _ hw115_1)).trans hw115_1), ((HB.out.cell (World.block_lt_of_cell? w _ hw115_2)).trans hw115_2)⟩ (fun hHeld => ?_)
      clear hK K
      refine norm_ (a' := ?_) ?_ ?_
      rotate_left
      ·show Act.put _ (some 18) _ = _
       simp only [Act.put, List.setIfInBounds_toArray, List.set_cons_zero, List.set_cons_succ, i64_w, i32_w]
       rfl
      refine pu_ 7 (some 19) #[true, true, true, true, true, true, true, true] HT_ ?_
      refine done_ (done_of HT_.out (by kernel_rfl)) ?_
      have p117 : 0 ≤ (x5_1 : Int) := sq_d
      have q117 : x5_1 < (l0.length : Int) := sq_d
      obtain ⟨ad117, A117_1, c117_1, A117_2, c117_2, e117, hx117_0, hx117_1, hx117_2, hl117_1, hi117_1, hl117_2, hi117_2⟩ := at_T62 HR0.out x5_1 p117 q117
      obtain rfl : ad115 = ad117 := (by injection e117)
      try replace hx117_0 := (HB.out.cell (World.block_lt_of_cell? w _ hx117_0)).trans hx117_0
      try replace hx117_1 := (HB.out.cell (World.block_lt_of_cell? w _ hx117_1)).trans hx117_1
      try replace hx117_2 := (HB.out.cell (World.block_lt_of_cell? w _ hx117_2)).trans hx117_2
      have HR117_1 := Aside0.mk hi117_1
      have HC117_1 := Aside0.mk hl117_1
      clear hi117_1 hl117_1
      have HR117_2 := Aside0.mk hi117_2
      have HC117_2 := Aside0.mk hl117_2
      clear hi117_2 hl117_2
      try (have ea_ := Option.some.inj (hx117_1.symm.trans hHeld.2.1); injection ea_ with ea_ en_ ec_; subst ea_; subst ec_; clear en_)
      try (have ea_ := Option.some.inj (hx117_2.symm.trans hHeld.2.2); injection ea_ with ea_ en_ ec_; subst ea_; subst ec_; clear en_)
      replace p117 := eq_true p117
      replace q117 := eq_true q117
      try go_wp2_with (first | ((with_reducible refine gate_callee (f := 49) rfl ?_); refine goesL_ (some 28) rfl rfl Try.func49 (by kernel_rfl) rfl #[.slice A117_1 ((rd_T62 l0 x5_1).f1).length c117_1, .int .i64 (wrap64 (x1_1 + 1))] rfl (by (try simp only [List.map_toArray, List.map_cons, List.map_nil]); first | done | rfl | (simp only [List.length_drop, List.length_take]; rfl)) ?_; (with_reducible refine (laws_heldIntS.calls k1 _ _ ((rd_T62 l0 x5_1).f1) (wrap64 (x1_1 + 1)) t118 _ ?side1 ?side2 A7.out).mono ?_); (case side1 => repeat (first | exact (Kd.C_below HR117_1.out HB.out) | (with_reducible refine Kd.C_alloc ?_ _) | (with_reducible refine Kd.C_drewN ?_ _) | (with_reducible refine Kd.C_drew ?_))); (case side2 => exact HC117_1.out); rintro e w' ⟨rfl, ⟨nd, rfl⟩⟩; refine ⟨_, rfl, ?_⟩))
      go_ret
      exact ⟨sq_w, sq_b⟩
     ·rw [if_neg c8] at H
      have c8b0 : decide (t118 < 0) = false := decide_eq_false c8
      clear c8
      replace H := Option.bind_eq_some_iff.mp H
      obtain ⟨t120, A110, H⟩ := H
      replace H : (if t120 < 0 then (some (-1)) else (laws_heldKnotS.l0 k1 l0 t120 (wrap64 (x5_1 + 1)))) = some r := H
      have A11 := Aside0.mk A110
      clear A110
      by_cases c12 : t120 < 0
      ·rw [if_pos c12] at H
       have c12b0 : decide (t120 < 0) = true := decide_eq_true c12
       clear c12
       obtain rfl := Option.some.inj H
       try go_wp2
       have n0_ := Aside0.mk (below_drew1 HB.out)
       clear HB
       have HB := n0_
       clear n0_
       have p115 : 0 ≤ (x5_1 : Int) := sq_d
       have q115 : x5_1 < (l0.length : Int) := sq_d
       obtain ⟨ad115, A115_1, c115_1, A115_2, c115_2, e115, hx115_0, hx115_1, hx115_2, hl115_1, hi115_1, hl115_2, hi115_2⟩ := at_T62 HR0.out x5_1 p115 q115
       have hw115_2 := hx115_2
       have hw115_1 := hx115_1
       have hw115_0 := hx115_0
       cases e115
       try replace hx115_0 := (HB.out.cell (World.block_lt_of_cell? w _ hx115_0)).trans hx115_0
       try replace hx115_1 := (HB.out.cell (World.block_lt_of_cell? w _ hx115_1)).trans hx115_1
       try replace hx115_2 := (HB.out.cell (World.block_lt_of_cell? w _ hx115_2)).trans hx115_2
       have HR115_1 := Aside0.mk hi115_1
       have HC115_1 := Aside0.mk hl115_1
       clear hi115_1 hl115_1
       have HR115_2 := Aside0.mk hi115_2
       have HC115_2 := Aside0.mk hl115_2
       clear hi115_2 hl115_2
       replace p115 := eq_true p115
       replace q115 := eq_true q115
       refine start_ (n := 8) (S := fun w' => w'.cell? (ad115.add ((x5_1).toNat * 3)) = some (.string ((rd_T62 l0 x5_1).f0)) ∧ w'.cell? ⟨(ad115.add ((x5_1).toNat * 3)).block, (ad115.add ((x5_1).toNat * 3)).off + 1, none⟩ = some (.slice A115_1 ((rd_T62 l0 x5_1).f1).length c115_1) ∧ w'.cell? ⟨(ad115.add ((x5_1).toNat * 3)).block, (ad115.add ((x5_1).toNat * 3)).off + 2, none⟩ = some (.slice A115_2 ((rd_T62 l0 x5_1).f2).length c115_2)) (ds := []) #[false, false, false, false, false, false, false, false] (by kernel_rfl) rfl rfl ⟨((HB.out.cell (World.block_lt_of_cell? w _ hw115_0)).trans hw115_0), ((HB.out.cell (World.block_lt_of_cell? w _ hw115_1)).trans hw115_1), ((HB.out.cell (World.block_lt_of_cell? w _ hw115_2)).trans hw115_2)⟩ (fun hHeld => ?_); refine with_tabW laws_heldKnotS.tab4 laws_heldKnotS.bits4 (fun HT_ HW_ => ?_)
       generalize wr.drew = w13 at HB HR115_1 HR115_2 hx115_0 hx115_1 hx115_2 hHeld ⊢
       refine pu_ 0 (some 12) #[true, false, false, false, false, false, false, false] HT_ ?_
       refine pu_ 1 (some 13) #[true, true, false, false, false, false, false, false] HT_ ?_
       refine pu_ 2 (some 14) #[true, true, true, false, false, false, false, false] HT_ ?_
       refine pu_ 3 (some 15) #[true, true, true, true, false, false, false, false] HT_ ?_
       refine pu_ 5 (some 17) #[true, true, true, true, false, true, false, false] HT_ ?_
       refine take_ (i := 4) (N := some 16) (v := ?_) (a' := ?_) #[true, true, true, true, true, true, false, false] rfl rfl (take_ofW HT_.out HW_.out (by kernel_rfl)) (fun _ _ _ h => h) (Or.inl ⟨by rfl, ?_⟩) hHeld ?_ ?_
       rotate_left
       ·rintro w' ⟨s0, s1, s2⟩
        go_simp
        with_reducible rfl
       rotate_left
       ·simp only [Act.put, List.setIfInBounds_toArray, List.set_cons_zero, List.set_cons_succ, i64_w, i32_w]
        rfl
       refine one_ (i := 6) (N := some 18) #[true, true, true, true, true, true, true, false] rfl rfl (one_of HT_.out (by kernel_rfl)) (by decide) (fun K hK => ?_)
       refine goes_ Try.func47 (by kernel_rfl) rfl #[.int .i64 x1_1] (by rfl) rfl rfl (by (try simp only [List.map_toArray, List.map_cons, List.map_nil]); first | done | rfl | (simp only [List.length_drop, List.length_take]; rfl)) ?_
       with_reducible refine (laws_markText.calls k1 x1_1 t116 _ A5.out).mono ?_
       rintro e w14 ⟨rfl, hb⟩
       refine ⟨_, rfl, ?_⟩
       have n0_ := Aside0.mk (below_step sq_b hb)
       clear HB
       have HB := n0_
       clear n0_
       (try clear hb)
       (try clear hb2)
       (try clear hk)
       (try clear hi)
       refine hK.out _ _ ⟨((HB.out.cell (World.block_lt_of_cell? w _ hw115_0)).trans hw115_0), ((HB.out.cell (World.block_lt_of_cell? w _ hw115_1)).trans hw115_1), ((HB.out.cell (World.block_lt_of_cell? w _ hw115_2)).trans hw115_2)⟩ (fun hHeld => ?_)
       clear hK K
       refine norm_ (a' := ?_) ?_ ?_
       rotate_left
       ·show Act.put _ (some 18) _ = _
        simp only [Act.put, List.setIfInBounds_toArray, List.set_cons_zero, List.set_cons_succ, i64_w, i32_w]
        rfl
       refine pu_ 7 (some 19) #[true, true, true, true, true, true, true, true] HT_ ?_
       refine done_ (done_of HT_.out (by kernel_rfl)) ?_
       have p117 : 0 ≤ (x5_1 : Int) := sq_d
       have q117 : x5_1 < (l0.length : Int) := sq_d
       obtain ⟨ad117, A117_1, c117_1, A117_2, c117_2, e117, hx117_0, hx117_1, hx117_2, hl117_1, hi117_1, hl117_2, hi117_2⟩ := at_T62 HR0.out x5_1 p117 q117
       obtain rfl : ad115 = ad117 := (by injection e117)
       try replace hx117_0 := (HB.out.cell (World.block_lt_of_cell? w _ hx117_0)).trans hx117_0
       try replace hx117_1 := (HB.out.cell (World.block_lt_of_cell? w _ hx117_1)).trans hx117_1
       try replace hx117_2 := (HB.out.cell (World.block_lt_of_cell? w _ hx117_2)).trans hx117_2
       have HR117_1 := Aside0.mk hi117_1
       have HC117_1 := Aside0.mk hl117_1
       clear hi117_1 hl117_1
       have HR117_2 := Aside0.mk hi117_2
       have HC117_2 := Aside0.mk hl117_2
       clear hi117_2 hl117_2
       try (have ea_ := Option.some.inj (hx117_1.symm.trans hHeld.2.1); injection ea_ with ea_ en_ ec_; subst ea_; subst ec_; clear en_)
       try (have ea_ := Option.some.inj (hx117_2.symm.trans hHeld.2.2); injection ea_ with ea_ en_ ec_; subst ea_; subst ec_; clear en_)
       replace p117 := eq_true p117
       replace q117 := eq_true q117
       try go_wp2_with (first | ((with_reducible refine gate_callee (f := 49) rfl ?_); refine goesL_ (some 28) rfl rfl Try.func49 (by kernel_rfl) rfl #[.slice A117_1 ((rd_T62 l0 x5_1).f1).length c117_1, .int .i64 (wrap64 (x1_1 + 1))] rfl (by (try simp only [List.map_toArray, List.map_cons, List.map_nil]); first | done | rfl | (simp only [List.length_drop, List.length_take]; rfl)) ?_; (with_reducible refine (laws_heldIntS.calls k1 _ _ ((rd_T62 l0 x5_1).f1) (wrap64 (x1_1 + 1)) t118 _ ?side1 ?side2 A7.out).mono ?_); (case side1 => repeat (first | exact (Kd.C_below HR117_1.out HB.out) | (with_reducible refine Kd.C_alloc ?_ _) | (with_reducible refine Kd.C_drewN ?_ _) | (with_reducible refine Kd.C_drew ?_))); (case side2 => exact HC117_1.out); rintro e w' ⟨rfl, ⟨nd, rfl⟩⟩; refine ⟨_, rfl, ?_⟩; have p119 : 0 ≤ (x5_1 : Int) := sq_d; have q119 : x5_1 < (l0.length : Int) := sq_d; obtain ⟨ad119, A119_1, c119_1, A119_2, c119_2, e119, hx119_0, hx119_1, hx119_2, hl119_1, hi119_1, hl119_2, hi119_2⟩ := at_T62 HR0.out x5_1 p119 q119; obtain rfl : ad115 = ad119 := (by injection e119); replace hx119_0 := (HB.out.cell (World.block_lt_of_cell? w _ hx119_0)).trans hx119_0; replace hx119_1 := (HB.out.cell (World.block_lt_of_cell? w _ hx119_1)).trans hx119_1; replace hx119_2 := (HB.out.cell (World.block_lt_of_cell? w _ hx119_2)).trans hx119_2; have HR119_1 := Aside0.mk hi119_1; have HC119_1 := Aside0.mk hl119_1; clear hi119_1 hl119_1; have HR119_2 := Aside0.mk hi119_2; have HC119_2 := Aside0.mk hl119_2; clear hi119_2 hl119_2; replace p119 := eq_true p119; replace q119 := eq_true q119; have ea_ := Option.some.inj (hx117_1.symm.trans hx119_1); injection ea_ with ea_ en_ ec_; subst ea_; subst ec_; clear en_; have ea_ := Option.some.inj (hx117_2.symm.trans hx119_2); injection ea_ with ea_ en_ ec_; subst ea_; subst ec_; clear en_) | ((with_reducible refine gate_callee (f := 49) rfl ?_); refine goesL_ (some 37) rfl rfl Try.func49 (by kernel_rfl) rfl #[.slice A117_2 ((rd_T62 l0 x5_1).f2).length c117_2, .int .i64 t118] rfl (by (try simp only [List.map_toArray, List.map_cons, List.map_nil]); first | done | rfl | (simp only [List.length_drop, List.length_take]; rfl)) ?_; (with_reducible refine (laws_heldIntS.calls k1 _ _ ((rd_T62 l0 x5_1).f2) t118 t120 _ ?side1 ?side2 A11.out).mono ?_); (case side1 => repeat (first | exact (Kd.C_below HR119_2.out sq_b) | (with_reducible refine Kd.C_alloc ?_ _) | (with_reducible refine Kd.C_drewN ?_ _) | (with_reducible refine Kd.C_drew ?_))); (case side2 => exact HC119_2.out); rintro e w' ⟨rfl, ⟨nd, rfl⟩⟩; refine ⟨_, rfl, ?_⟩))
       go_ret
       exact ⟨sq_w, sq_b⟩
      ·rw [if_neg c12] at H
       have c12b0 : decide (t120 < 0) = false := decide_eq_false c12
       clear c12
       have H' := Aside0.mk H
       clear H
       try go_wp2
       have n0_ := Aside0.mk (below_drew1 HB.out)
       clear HB
       have HB := n0_
       clear n0_
       have p115 : 0 ≤ (x5_1 : Int) := sq_d
       have q115 : x5_1 < (l0.length : Int) := sq_d
       obtain ⟨ad115, A115_1, c115_1, A115_2, c115_2, e115, hx115_0, hx115_1, hx115_2, hl115_1, hi115_1, hl115_2, hi115_2⟩ := at_T62 HR0.out x5_1 p115 q115
       have hw115_2 := hx115_2
       have hw115_1 := hx115_1
       have hw115_0 := hx115_0
       cases e115
       try replace hx115_0 := (HB.out.cell (World.block_lt_of_cell? w _ hx115_0)).trans hx115_0
       try replace hx115_1 := (HB.out.cell (World.block_lt_of_cell? w _ hx115_1)).trans hx115_1
       try replace hx115_2 := (HB.out.cell (World.block_lt_of_cell? w _ hx115_2)).trans hx115_2
       have HR115_1 := Aside0.mk hi115_1
       have HC115_1 := Aside0.mk hl115_1
       clear hi115_1 hl115_1
       have HR115_2 := Aside0.mk hi115_2
       have HC115_2 := Aside0.mk hl115_2
       clear hi115_2 hl115_2
       replace p115 := eq_true p115
       replace q115 := eq_true q115
       refine start_ (n := 8) (S := fun w' => w'.cell? (ad115.add ((x5_1).toNat * 3)) = some (.string ((rd_T62 l0 x5_1).f0)) ∧ w'.cell? ⟨(ad115.add ((x5_1).toNat * 3)).block, (ad115.add ((x5_1).toNat * 3)).off + 1, none⟩ = some (.slice A115_1 ((rd_T62 l0 x5_1).f1).length c115_1) ∧ w'.cell? ⟨(ad115.add ((x5_1).toNat * 3)).block, (ad115.add ((x5_1).toNat * 3)).off + 2, none⟩ = some (.slice A115_2 ((rd_T62 l0 x5_1).f2).length c115_2)) (ds := []) #[false, false, false, false, false, false, false, false] (by kernel_rfl) rfl rfl ⟨((HB.out.cell (World.block_lt_of_cell? w _ hw115_0)).trans hw115_0), ((HB.out.cell (World.block_lt_of_cell? w _ hw115_1)).trans hw115_1), ((HB.out.cell (World.block_lt_of_cell? w _ hw115_2)).trans hw115_2)⟩ (fun hHeld => ?_); refine with_tabW laws_heldKnotS.tab4 laws_heldKnotS.bits4 (fun HT_ HW_ => ?_)
       generalize wr.drew = w15 at HB HR115_1 HR115_2 hx115_0 hx115_1 hx115_2 hHeld ⊢
       refine pu_ 0 (some 12) #[true, false, false, false, false, false, false, false] HT_ ?_
       refine pu_ 1 (some 13) #[true, true, false, false, false, false, false, false] HT_ ?_
       refine pu_ 2 (some 14) #[true, true, true, false, false, false, false, false] HT_ ?_
       refine pu_ 3 (some 15) #[true, true, true, true, false, false, false, false] HT_ ?_
       refine pu_ 5 (some 17) #[true, true, true, true, false, true, false, false] HT_ ?_
       refine take_ (i := 4) (N := some 16) (v := ?_) (a' := ?_) #[true, true, true, true, true, true, false, false] rfl rfl (take_ofW HT_.out HW_.out (by kernel_rfl)) (fun _ _ _ h => h) (Or.inl ⟨by rfl, ?_⟩) hHeld ?_ ?_
       rotate_left
       ·rintro w' ⟨s0, s1, s2⟩
        go_simp
        with_reducible rfl
       rotate_left
       ·simp only [Act.put, List.setIfInBounds_toArray, List.set_cons_zero, List.set_cons_succ, i64_w, i32_w]
        rfl
       refine one_ (i := 6) (N := some 18) #[true, true, true, true, true, true, true, false] rfl rfl (one_of HT_.out (by kernel_rfl)) (by decide) (fun K hK => ?_)
       refine goes_ Try.func47 (by kernel_rfl) rfl #[.int .i64 x1_1] (by rfl) rfl rfl (by (try simp only [List.map_toArray, List.map_cons, List.map_nil]); first | done | rfl | (simp only [List.length_drop, List.length_take]; rfl)) ?_
       with_reducible refine (laws_markText.calls k1 x1_1 t116 _ A5.out).mono ?_
       rintro e w16 ⟨rfl, hb⟩
       refine ⟨_, rfl, ?_⟩
       have n0_ := Aside0.mk (below_step sq_b hb)
       clear HB
       have HB := n0_
       clear n0_
       (try clear hb)
       (try clear hb2)
       (try clear hk)
       (try clear hi)
       refine hK.out _ _ ⟨((HB.out.cell (World.block_lt_of_cell? w _ hw115_0)).trans hw115_0), ((HB.out.cell (World.block_lt_of_cell? w _ hw115_1)).trans hw115_1), ((HB.out.cell (World.block_lt_of_cell? w _ hw115_2)).trans hw115_2)⟩ (fun hHeld => ?_)
       clear hK K
       refine norm_ (a' := ?_) ?_ ?_
       rotate_left
       ·show Act.put _ (some 18) _ = _
        simp only [Act.put, List.setIfInBounds_toArray, List.set_cons_zero, List.set_cons_succ, i64_w, i32_w]
        rfl
       refine pu_ 7 (some 19) #[true, true, true, true, true, true, true, true] HT_ ?_
       refine done_ (done_of HT_.out (by kernel_rfl)) ?_
       have p117 : 0 ≤ (x5_1 : Int) := sq_d
       have q117 : x5_1 < (l0.length : Int) := sq_d
       obtain ⟨ad117, A117_1, c117_1, A117_2, c117_2, e117, hx117_0, hx117_1, hx117_2, hl117_1, hi117_1, hl117_2, hi117_2⟩ := at_T62 HR0.out x5_1 p117 q117
       obtain rfl : ad115 = ad117 := (by injection e117)
       try replace hx117_0 := (HB.out.cell (World.block_lt_of_cell? w _ hx117_0)).trans hx117_0
       try replace hx117_1 := (HB.out.cell (World.block_lt_of_cell? w _ hx117_1)).trans hx117_1
       try replace hx117_2 := (HB.out.cell (World.block_lt_of_cell? w _ hx117_2)).trans hx117_2
       have HR117_1 := Aside0.mk hi117_1
       have HC117_1 := Aside0.mk hl117_1
       clear hi117_1 hl117_1
       have HR117_2 := Aside0.mk hi117_2
       have HC117_2 := Aside0.mk hl117_2
       clear hi117_2 hl117_2
       try (have ea_ := Option.some.inj (hx117_1.symm.trans hHeld.2.1); injection ea_ with ea_ en_ ec_; subst ea_; subst ec_; clear en_)
       try (have ea_ := Option.some.inj (hx117_2.symm.trans hHeld.2.2); injection ea_ with ea_ en_ ec_; subst ea_; subst ec_; clear en_)
       replace p117 := eq_true p117
       replace q117 := eq_true q117
       try go_wp2_with (first | ((with_reducible refine gate_callee (f := 49) rfl ?_); refine goesL_ (some 28) rfl rfl Try.func49 (by kernel_rfl) rfl #[.slice A117_1 ((rd_T62 l0 x5_1).f1).length c117_1, .int .i64 (wrap64 (x1_1 + 1))] rfl (by (try simp only [List.map_toArray, List.map_cons, List.map_nil]); first | done | rfl | (simp only [List.length_drop, List.length_take]; rfl)) ?_; (with_reducible refine (laws_heldIntS.calls k1 _ _ ((rd_T62 l0 x5_1).f1) (wrap64 (x1_1 + 1)) t118 _ ?side1 ?side2 A7.out).mono ?_); (case side1 => repeat (first | exact (Kd.C_below HR117_1.out HB.out) | (with_reducible refine Kd.C_alloc ?_ _) | (with_reducible refine Kd.C_drewN ?_ _) | (with_reducible refine Kd.C_drew ?_))); (case side2 => exact HC117_1.out); rintro e w' ⟨rfl, ⟨nd, rfl⟩⟩; refine ⟨_, rfl, ?_⟩; have p119 : 0 ≤ (x5_1 : Int) := sq_d; have q119 : x5_1 < (l0.length : Int) := sq_d; obtain ⟨ad119, A119_1, c119_1, A119_2, c119_2, e119, hx119_0, hx119_1, hx119_2, hl119_1, hi119_1, hl119_2, hi119_2⟩ := at_T62 HR0.out x5_1 p119 q119; obtain rfl : ad115 = ad119 := (by injection e119); replace hx119_0 := (HB.out.cell (World.block_lt_of_cell? w _ hx119_0)).trans hx119_0; replace hx119_1 := (HB.out.cell (World.block_lt_of_cell? w _ hx119_1)).trans hx119_1; replace hx119_2 := (HB.out.cell (World.block_lt_of_cell? w _ hx119_2)).trans hx119_2; have HR119_1 := Aside0.mk hi119_1; have HC119_1 := Aside0.mk hl119_1; clear hi119_1 hl119_1; have HR119_2 := Aside0.mk hi119_2; have HC119_2 := Aside0.mk hl119_2; clear hi119_2 hl119_2; replace p119 := eq_true p119; replace q119 := eq_true q119; have ea_ := Option.some.inj (hx117_1.symm.trans hx119_1); injection ea_ with ea_ en_ ec_; subst ea_; subst ec_; clear en_; have ea_ := Option.some.inj (hx117_2.symm.trans hx119_2); injection ea_ with ea_ en_ ec_; subst ea_; subst ec_; clear en_) | ((with_reducible refine gate_callee (f := 49) rfl ?_); refine goesL_ (some 37) rfl rfl Try.func49 (by kernel_rfl) rfl #[.slice A117_2 ((rd_T62 l0 x5_1).f2).length c117_2, .int .i64 t118] rfl (by (try simp only [List.map_toArray, List.map_cons, List.map_nil]); first | done | rfl | (simp only [List.length_drop, List.length_take]; rfl)) ?_; (with_reducible refine (laws_heldIntS.calls k1 _ _ ((rd_T62 l0 x5_1).f2) t118 t120 _ ?side1 ?side2 A11.out).mono ?_); (case side1 => repeat (first | exact (Kd.C_below HR119_2.out sq_b) | (with_reducible refine Kd.C_alloc ?_ _) | (with_reducible refine Kd.C_drewN ?_ _) | (with_reducible refine Kd.C_drew ?_))); (case side2 => exact HC119_2.out); rintro e w' ⟨rfl, ⟨nd, rfl⟩⟩; refine ⟨_, rfl, ?_⟩))
       go_roundg k1
       case measure => have := HK1.out; omega
       case rel => exact ⟨(t120), (wrap64 (x5_1 + 1)), sq_e, sq_e, H', ⟨by have := HK1.out; omega⟩, ⟨sq_b⟩⟩
    ·rw [if_neg c6] at H
     have c6b0 : (((rd_T62 l0 x5_1).f0).toList == t116.toList) = false := beq_eq_false_iff_ne.mpr c6
     have c6b1 : (((rd_T62 l0 x5_1).f0).toList != t116.toList) = true := bne_iff_ne.mpr c6
     obtain rfl := Option.some.inj H
     try go_wp2
     have n0_ := Aside0.mk (below_drew1 HB.out)
     clear HB
     have HB := n0_
     clear n0_
     have p115 : 0 ≤ (x5_1 : Int) := sq_d
     have q115 : x5_1 < (l0.length : Int) := sq_d
     obtain ⟨ad115, A115_1, c115_1, A115_2, c115_2, e115, hx115_0, hx115_1, hx115_2, hl115_1, hi115_1, hl115_2, hi115_2⟩ := at_T62 HR0.out x5_1 p115 q115
     have hw115_2 := hx115_2
     have hw115_1 := hx115_1
     have hw115_0 := hx115_0
     cases e115
     try replace hx115_0 := (HB.out.cell (World.block_lt_of_cell? w _ hx115_0)).trans hx115_0
     try replace hx115_1 := (HB.out.cell (World.block_lt_of_cell? w _ hx115_1)).trans hx115_1
     try replace hx115_2 := (HB.out.cell (World.block_lt_of_cell? w _ hx115_2)).trans hx115_2
     have HR115_1 := Aside0.mk hi115_1
     have HC115_1 := Aside0.mk hl115_1
     clear hi115_1 hl115_1
     have HR115_2 := Aside0.mk hi115_2
     have HC115_2 := Aside0.mk hl115_2
     clear hi115_2 hl115_2
     replace p115 := eq_true p115
     replace q115 := eq_true q115
     refine start_ (n := 8) (S := fun w' => w'.cell? (ad115.add ((x5_1).toNat * 3)) = some (.string ((rd_T62 l0 x5_1).f0)) ∧ w'.cell? ⟨(ad115.add ((x5_1).toNat * 3)).block, (ad115.add ((x5_1).toNat * 3)).off + 1, none⟩ = some (.slice A115_1 ((rd_T62 l0 x5_1).f1).length c115_1) ∧ w'.cell? ⟨(ad115.add ((x5_1).toNat * 3)).block, (ad115.add ((x5_1).toNat * 3)).off + 2, none⟩ = some (.slice A115_2 ((rd_T62 l0 x5_1).f2).length c115_2)) (ds := []) #[false, false, false, false, false, false, false, false] (by kernel_rfl) rfl rfl ⟨((HB.out.cell (World.block_lt_of_cell? w _ hw115_0)).trans hw115_0), ((HB.out.cell (World.block_lt_of_cell? w _ hw115_1)).trans hw115_1), ((HB.out.cell (World.block_lt_of_cell? w _ hw115_2)).trans hw115_2)⟩ (fun hHeld => ?_); refine with_tabW laws_heldKnotS.tab4 laws_heldKnotS.bits4 (fun HT_ HW_ => ?_)
     generalize wr.drew = w17 at HB HR115_1 HR115_2 hx115_0 hx115_1 hx115_2 hHeld ⊢
     refine pu_ 0 (some 12) #[true, false, false, false, false, false, false, false] HT_ ?_
     refine pu_ 1 (some 13) #[true, true, false, false, false, false, false, false] HT_ ?_
     refine pu_ 2 (some 14) #[true, true, true, false, false, false, false, false] HT_ ?_
     refine pu_ 3 (some 15) #[true, true, true, true, false, false, false, false] HT_ ?_
     refine pu_ 5 (some 17) #[true, true, true, true, false, true, false, false] HT_ ?_
     refine take_ (i := 4) (N := some 16) (v := ?_) (a' := ?_) #[true, true, true, true, true, true, false, false] rfl rfl (take_ofW HT_.out HW_.out (by kernel_rfl)) (fun _ _ _ h => h) (Or.inl ⟨by rfl, ?_⟩) hHeld ?_ ?_
     rotate_left
     ·rintro w' ⟨s0, s1, s2⟩
      go_simp
      with_reducible rfl
     rotate_left
     ·simp only [Act.put, List.setIfInBounds_toArray, List.set_cons_zero, List.set_cons_succ, i64_w, i32_w]
      rfl
     refine one_ (i := 6) (N := some 18) #[true, true, true, true, true, true, true, false] rfl rfl (one_of HT_.out (by kernel_rfl)) (by decide) (fun K hK => ?_)
     refine goes_ Try.func47 (by kernel_rfl) rfl #[.int .i64 x1_1] (by rfl) rfl rfl (by (try simp only [List.map_toArray, List.map_cons, List.map_nil]); first | done | rfl | (simp only [List.length_drop, List.length_take]; rfl)) ?_
     with_reducible refine (laws_markText.calls k1 x1_1 t116 _ A5.out).mono ?_
     rintro e w18 ⟨rfl, hb⟩
     refine ⟨_, rfl, ?_⟩
     have n0_ := Aside0.mk (below_step sq_b hb)
     clear HB
     have HB := n0_
     clear n0_
     (try clear hb)
     (try clear hb2)
     (try clear hk)
     (try clear hi)
     refine hK.out _ _ ⟨((HB.out.cell (World.block_lt_of_cell? w _ hw115_0)).trans hw115_0), ((HB.out.cell (World.block_lt_of_cell? w _ hw115_1)).trans hw115_1), ((HB.out.cell (World.block_lt_of_cell? w _ hw115_2)).trans hw115_2)⟩ (fun hHeld => ?_)
     clear hK K
     refine norm_ (a' := ?_) ?_ ?_
     rotate_left
     ·show Act.put _ (some 18) _ = _
      simp only [Act.put, List.setIfInBounds_toArray, List.set_cons_zero, List.set_cons_succ, i64_w, i32_w]
      rfl
     refine pu_ 7 (some 19) #[true, true, true, true, true, true, true, true] HT_ ?_
     refine done_ (done_of HT_.out (by kernel_rfl)) ?_
     try go_wp2
     go_ret
     exact ⟨sq_w, sq_b⟩
   ·rw [if_neg c3] at H
    have c3b0 : decide (x5_1 < (l0.length : Int)) = false := decide_eq_false c3
    clear c3
    obtain rfl := Option.some.inj H
    go_wp2
    go_ret
    exact ⟨sq_w, sq_b⟩

/-! ### laws_szIntS: function 84 -/
def laws_szIntS.f (l0 : List Int) (a1 : Int) : Option (Int) := if (wrap64 (a1 - (l0.length : Int))) < 0 then (some (-1)) else (some (wrap64 (a1 - (l0.length : Int))))
set_option maxHeartbeats 8000000 in
set_option maxRecDepth 100000 in
theorem laws_szIntS.calls (A0 : Option Addr) (c0 : Nat) (l0 : List Int) (a1 : Int) (r : Int) (w : World) (hr0 : Kd.C (Kd.int .i64) w A0 l0.length l0) (hc0 : l0.length ≤ c0) (h : laws_szIntS.f l0 a1 = some r) :
  Calls Try.prog 84 #[.slice A0 l0.length c0, .int .i64 a1] w fun e w' => e = .returned (.int .i64 r) ∧ Drawn0 w w' := by
 have HR0 := Aside0.mk hr0
 have HC0 := Aside0.mk hc0
 clear hr0 hc0
 have H : (if (wrap64 (a1 - (l0.length : Int))) < 0 then (some (-1)) else (some (wrap64 (a1 - (l0.length : Int))))) = some r := h
 clear h
 by_cases c3 : (wrap64 (a1 - (l0.length : Int))) < 0
 ·rw [if_pos c3] at H
  have c3b0 : decide ((wrap64 (a1 - (l0.length : Int))) < 0) = true := decide_eq_true c3
  clear c3
  obtain rfl := Option.some.inj H
  go_enter Try.func84, Try.ntmps84
  go_wp2
  go_ret
  exact ⟨by first | rfl | (simp; done) | (simp [ext_bne_nil, ext_beq_nil]; done) | (simp [*]; done), by repeat (first | exact Drawn0.refl _ | apply Drawn0.step)⟩
 ·rw [if_neg c3] at H
  have c3b0 : decide ((wrap64 (a1 - (l0.length : Int))) < 0) = false := decide_eq_false c3
  clear c3
  obtain rfl := Option.some.inj H
  go_enter Try.func84, Try.ntmps84
  go_wp2
  go_ret
  exact ⟨by first | rfl | (simp; done) | (simp [ext_bne_nil, ext_beq_nil]; done) | (simp [*]; done), by repeat (first | exact Drawn0.refl _ | apply Drawn0.step)⟩

end Go.Proofs.Ytlohhmoaomlieaa.QFnExactPutWord
