-- Written by this session's own program (wip/pp_patch.py, wip/pp.sh) out of the given translation. Not trusted: Lean checks it.
import Derived.Test.YtkoackkimdanjaaQFnLegsx0
import Derived.Test.YtkoackkimdanjaaQFnLegsx2
import Derived.Test.YtkoackkimdanjaaQFnLegsx3
import Derived.Test.YtkoackkimdanjaaQFnLegsx7
namespace Go.Proofs.Ytkoackkimdanjaa.QFnLegs
open Go.RowKit Go.Proofs.YtkoackkimdanjaaW.PrintWords Go.Proofs.YtkoackkimdanjaaW.PrintLast Go.Proofs.YtkoackkimdanjaaW.PrintMore
attribute [local go_sem] max2_int min2_int max_two min_two max_three min_three max_four min_four   -- for this text's walks alone
open Go.Proofs.Ytkoackkimdanjaa.Ext
attribute [local go_sem high] ext_gtr ext_leq
set_option linter.unusedVariables false
set_option linter.unusedSimpArgs false

/-! ### impl_GoodLegs: function 23 -/
def impl_GoodLegs.f (k : Nat) (l0 : List (S59)) : Option (Bool) := (impl_entries.f k l0).bind fun bt138 => (some bt138.2)
theorem impl_GoodLegs.mono : ∀ a0 k, LeO (impl_GoodLegs.f k a0) (impl_GoodLegs.f (k + 1) a0) := by
 intro a0 k
 unfold impl_GoodLegs.f
 repeat' first
   | (with_reducible exact impl_entries.mono _ _)
   | (with_reducible exact LeO.refl _)
   | (with_reducible exact LeO.none _)
   | (with_reducible refine LeO.ite ?_ ?_)
   | (with_reducible refine LeO.bind ?_ (fun _ => ?_))
   | exact impl_entries.mono _ _
   | exact LeO.none _
   | refine LeO.ite ?_ ?_
   | refine LeO.bind ?_ (fun _ => ?_)
set_option maxHeartbeats 8000000 in
set_option maxRecDepth 100000 in
theorem impl_GoodLegs.calls (k : Nat) (A0 : Option Addr) (c0 : Nat) (l0 : List (S59)) (r : Bool) (w : World) (hr0 : Kd.C k59 w A0 l0.length l0) (hc0 : l0.length ≤ c0) (h : impl_GoodLegs.f k l0 = some r) :
  Calls Try.prog 23 #[.slice A0 l0.length c0] w fun e w' => e = .returned (.bool r) ∧ Below w.heap.size w w' := by
 have HR0 := mk_ hr0
 have HC0 := mk_ hc0
 clear hr0 hc0
 have HB := mk_ (Below.refl w.heap.size w)
 have H : ((impl_entries.f k l0).bind fun bt138 => (some bt138.2)) = some r := h
 clear h
 replace H := Option.bind_eq_some_iff.mp H
 obtain ⟨⟨t138, t139⟩, A20, H⟩ := H
 replace H : (some t139) = some r := H
 have A2 := mk_ A20
 clear A20
 obtain rfl := Option.some.inj H
 go_enter Try.func23, Try.ntmps23
 go_wp2_with (first | ((with_reducible refine gate_callee (f := 54) rfl ?_); refine goesL_ (some 7) rfl rfl Try.func54 (by kernel_rfl) rfl #[.slice A0 l0.length c0] rfl sq_a ?_; (with_reducible refine (impl_entries.calls k _ _ l0 t138 t139 _ ?side1 ?side2 A2.out).mono ?_); (case side1 => exact sq_c HR0.out); (case side2 => exact HC0.out); rintro e w3 ⟨v140, rfl, ho0, hb⟩; refine ⟨_, rfl, ?_⟩; have n0_ := mk_ (Kd.R_lower ho0 (below_size sq_b)); have n1_ := mk_ (below_step sq_b hb); clear HB; have HO141 := n0_; have HB := n1_; clear n0_ n1_; (try clear hb); (try clear ho0)))
 go_ret
 exact ⟨sq_w, sq_b⟩

/-! ### slices_IndexFunc_int_int: function 57 (by hand) -/
set_option maxHeartbeats 8000000 in
set_option maxRecDepth 100000 in
theorem slices_IndexFunc_int_int.calls (p : Int → Bool) (c : Nat) (caps : Array Value) (A : Option Addr) (cap : Nat) (xs : List Int) (w : World) (hC : Kd.C (Kd.int .i64) w A xs.length xs) (hent : ∀ args W, (callFunc c args).run Try.prog W = .ok (.enter c args) W)
  (hp : ∀ x, x ∈ xs → ∀ (W : World), Below w.heap.size w W → Calls Try.prog c (#[.int .i64 x] ++ caps) W fun e w' => e = .returned (.bool (p x)) ∧ Below W.heap.size W w') :
  Calls Try.prog 57 #[.slice A xs.length cap, .func (.func c) #[] caps] w fun e w' => e = .returned (.int .i64 (idxF p xs 0)) ∧ Below w.heap.size w w' := by
 have hmax : xs.length ≤ 9223372036854775807 := Kd.C_max hC
 have HP := mk_ hp
 have HS := mk_ hC
 have HM := mk_ hmax
 clear hp hC hmax
 go_enter Try.func57, Try.ntmps57
 go_wp2
 go_loopg [8] xs.length (fun kq v8 w' => ∃ (i : Nat) (x8 : Int), v8 = .int .i64 x8 ∧ Aside0 (x8 = i) ∧ Aside0 (i + kq = xs.length) ∧ Aside0 (idxF p (xs.drop i) i = idxF p xs 0) ∧ Aside0 (Below w.heap.size w w'))
 case atStart => exact ⟨0, 0, rfl, ⟨rfl⟩, ⟨by simp⟩, ⟨by rw [List.drop_zero]⟩, ⟨Below.refl _ _⟩⟩
 case round =>
  obtain ⟨i, x8, rfl, H8, HI, HA, HW⟩ := hrel
  cases gk with
  | zero =>
   have c1 : decide (x8 < (xs.length : Int)) = false := decide_eq_false (by have := HI.out; have := H8.out; omega)
   have HE := mk_ (show idxF p xs 0 = -1 by rw [← HA.out, show i = xs.length by have := HI.out; omega, List.drop_length]; rfl)
   go_wp2
   go_ret
   rw [HE.out]
   exact ⟨rfl, HW.out⟩
  | succ k1 =>
   have hmax := HM.out
   have h8 := H8.out
   have hi : i < xs.length := by have := HI.out; omega
   have p1 : x8 < (xs.length : Int) := by omega
   have p0 : 0 ≤ x8 := by omega
   have c1 : decide (x8 < (xs.length : Int)) = true := decide_eq_true p1
   have c0 : decide (0 ≤ x8) = true := decide_eq_true p0
   obtain ⟨x, hx⟩ : ∃ x, xs[i]? = some x := ⟨_, List.getElem?_eq_getElem hi⟩
   obtain ⟨ad, rfl, hx0⟩ := Kd.at_int (Kd.C_below HS.out HW.out) x8 p0 p1
   have hrd : rd xs x8 = x := by unfold rd; rw [h8, Int.toNat_natCast, List.getD_eq_getElem?_getD, hx]; rfl
   rw [hrd] at hx0
   have HX := mk_ (HP.out x (List.mem_of_getElem? hx) wr HW.out)
   have HD := mk_ (idxF_drop p xs i x (xs.drop (i + 1)) (by obtain ⟨h1, h2⟩ := List.getElem?_eq_some_iff.1 hx; rw [← h2]; exact List.drop_eq_getElem_cons h1))
   have HWr := mk_ (show wrap64 (x8 + 1) = x8 + 1 from by unfold wrap64; omega)
   clear hrd hi hmax hx h8
   go_wp2_with fail
   (with_reducible refine HX.out.mono ?_)
   rintro e w1 ⟨rfl, hb1⟩
   have HW1 := mk_ (below_step HW.out hb1)
   clear hb1 HX HW
   cases hpx : p x with
   | true =>
    have HE := mk_ (show idxF p xs 0 = x8 by rw [← HA.out, HD.out, if_pos hpx, H8.out])
    clear hpx
    go_wp2
    go_ret
    rw [HE.out]
    exact ⟨rfl, HW1.out⟩
   | false =>
    have HE := mk_ (show idxF p (xs.drop (i + 1)) (i + 1) = idxF p xs 0 by rw [← HA.out, HD.out, if_neg (by rw [hpx]; simp)])
    clear hpx
    go_wp2
    go_roundg k1
    case measure => omega
    case rel => exact ⟨i + 1, x8 + 1, by rw [HWr.out], ⟨by have := H8.out; omega⟩, ⟨by have := HI.out; omega⟩, HE, HW1⟩

/-! ### impl_WalkLegs_1: function 58 (by hand) -/
def impl_WalkLegs_1.ltr (s : ByteArray) (i : Nat) : Int := ((bt s i) - 97) % 256
set_option maxHeartbeats 8000000 in
set_option maxRecDepth 100000 in
theorem impl_WalkLegs_1.calls (k : Int) (A : Option Addr) (c : Nat) (l : List S59) (s : ByteArray) (i g1 g2 g3 : Nat) (w : World) (h1 : w.cell? ⟨g1, 0, none⟩ = some (.slice A l.length c)) (h2 : w.cell? ⟨g2, 0, none⟩ = some (.string s)) (h3 : w.cell? ⟨g3, 0, none⟩ = some (.int .i64 i)) (hC : Kd.C k59 w A l.length l) (hk0 : 0 ≤ k) (hk1 : k < (l.length : Int)) (hi : i < s.size) :
  Calls Try.prog 58 #[.int .i64 k, .pointer (some ⟨g1, 0, none⟩), .pointer (some ⟨g2, 0, none⟩), .pointer (some ⟨g3, 0, none⟩)] w fun e w' => e = .returned (.bool (decide ((rd_T59 l k).f0 = impl_WalkLegs_1.ltr s i))) ∧ Below w.heap.size w w' := by
 obtain ⟨ad, A3, c3, rfl, hx0, _, _, _, _, _⟩ := at_T59 hC k hk0 hk1
 have HRES := mk_ (show decide ((rd_T59 l k).f0 = impl_WalkLegs_1.ltr s i) = ((rd_T59 l k).f0 == ((((s[i]'hi).toNat : Int) - 97) % 256)) from by
  have e : ((s[i]'hi).toNat : Int) = bt s (i : Int) := bt_at s (i : Int) hi
  rw [Bool.eq_iff_iff, decide_eq_true_iff, beq_iff_eq, e]; rfl)
 have i0 := eq_true (show (0 : Int) ≤ (i : Int) by omega)
 have i1 := eq_true (show (i : Int) < (s.size : Int) by omega)
 have i2 := eq_true hi
 have i3 := eq_true hk0
 have i4 := eq_true hk1
 clear hC
 go_enter Try.func58, Try.ntmps58
 go_wp2_with fail
 go_quiet (fail)
 go_wp2
 go_ret
 rw [HRES.out]
 exact ⟨rfl, pw_below_drewN (Below.refl _ _) _⟩

/-! ### impl_WalkLegs: function 25 (by hand) -/
def impl_WalkLegs.go (t : List S59) (s : ByteArray) : Nat → Nat → Int → Option (Int × Bool)
 | 0, _, at_ => some (at_, true)
 | n + 1, i, at_ => if (0 ≤ at_ ∧ at_ < (t.length : Int)) ∧ ∀ k ∈ (rd_T59 t at_).f3, 0 ≤ k ∧ k < (t.length : Int) then (if idxF (fun k => decide ((rd_T59 t k).f0 = impl_WalkLegs_1.ltr s i)) (rd_T59 t at_).f3 0 < 0 then some (0, false) else impl_WalkLegs.go t s n (i + 1) (rd (rd_T59 t at_).f3 (idxF (fun k => decide ((rd_T59 t k).f0 = impl_WalkLegs_1.ltr s i)) (rd_T59 t at_).f3 0))) else none
def impl_WalkLegs.f (k : Nat) (l0 : List S59) (a1 : ByteArray) : Option (Int × Bool) := (impl_GoodLegs.f k l0).bind fun b => if b = true then (impl_areLetters.f k a1).bind fun c => if c = true then (if a1.size ≤ 1048576 then impl_WalkLegs.go l0 a1 a1.size 0 0 else none) else some (0, false) else some (0, false)
theorem impl_WalkLegs.mono : ∀ a0 a1 k, LeO (impl_WalkLegs.f k a0 a1) (impl_WalkLegs.f (k + 1) a0 a1) := by
 intro a0 a1 k
 unfold impl_WalkLegs.f
 exact LeO.bind (impl_GoodLegs.mono _ k) (fun b => LeO.ite (LeO.bind (impl_areLetters.mono _ k) (fun _ => LeO.refl _)) (LeO.refl _))
theorem impl_WalkLegs.idx_range {α : Type} (p : α → Bool) (l : List α) : idxF p l 0 = -1 ∨ (0 ≤ idxF p l 0 ∧ idxF p l 0 < (l.length : Int)) := by
 by_cases h : idxF p l 0 = -1
 ·exact .inl h
 ·obtain ⟨k, _, h1, h2, _, _, _⟩ := idxF_some p l 0 h
  refine .inr ?_
  rw [h2]
  omega
set_option maxHeartbeats 8000000 in
set_option maxRecDepth 100000 in
theorem impl_WalkLegs.calls (k : Nat) (A0 : Option Addr) (c0 : Nat) (l0 : List S59) (a1 : ByteArray) (r1 : Int) (r2 : Bool) (w : World) (hr0 : Kd.C k59 w A0 l0.length l0) (hc0 : l0.length ≤ c0) (h : impl_WalkLegs.f k l0 a1 = some (r1, r2)) :
  Calls Try.prog 25 #[.slice A0 l0.length c0, .string a1] w fun e w' => e = .returned (.tuple #[.int .i64 r1, .bool r2]) ∧ Below w.heap.size w w' := by
 have HR0 := mk_ hr0
 have HC0 := mk_ hc0
 have HMX := mk_ (Kd.C_max hr0)
 have H := mk_ h
 clear hr0 hc0 h
 go_enter Try.func25, Try.ntmps25
 go_upto_region 1 with (first | ((with_reducible refine gate_dst (N := 2) rfl ?_); refine box_event sq_0 (N := 2) sq_0 (cs := #[.slice A0 l0.length c0]) (t := 24) sq_h ?_; intro g2 hg2 wA hboxA hbA; have G2 := mk_ (show w.heap.size ≤ g2 from by rw [hg2]; exact Nat.le_refl _); have BA := mk_ hbA; have K2A := mk_ hboxA; clear hg2 hboxA hbA) | ((with_reducible refine gate_dst (N := 3) rfl ?_); refine box_event sq_0 (N := 3) sq_0 (cs := #[.string a1]) (t := 9) sq_h ?_; intro g3 hg3 wB hboxB hbB; have BB := mk_ (below_step BA.out hbB); have K2 := mk_ (blk_below K2A.out hbB); have K3 := mk_ hboxB; clear hg3 hboxB hbB))
 clear G2 K2A
 have HRB := mk_ (Kd.C_below HR0.out BB.out)
 have hl2 := (blk_cell K2.out 0).trans rfl
 have hl3 := (blk_cell K3.out 0).trans rfl
 have h := H.out
 unfold impl_WalkLegs.f at h
 obtain ⟨b, hb, h⟩ := Option.bind_eq_some_iff.mp h
 have HBB := mk_ hb
 cases b with
 | false =>
  rw [if_neg (by simp)] at h
  injection h with h
  injection h with h1 h2
  have H12 := mk_ (And.intro h1 h2)
  clear h1 h2 hb
  go_wp2_with fail
  (with_reducible refine (impl_GoodLegs.calls k A0 c0 l0 false wB HRB.out HC0.out HBB.out).mono ?_)
  rintro e w1 ⟨rfl, hb1⟩
  have HB1 := mk_ (below_step BB.out hb1)
  clear hb1 hl2 hl3
  go_wp2
  go_ret2
  obtain ⟨h1, h2⟩ := H12.out
  subst h1; subst h2
  exact ⟨rfl, HB1.out⟩
 | true =>
  rw [if_pos rfl] at h
  obtain ⟨c, hc, h⟩ := Option.bind_eq_some_iff.mp h
  have HCC := mk_ hc
  have HH := mk_ h
  clear h hc hb
  go_wp2_with fail
  (with_reducible refine (impl_GoodLegs.calls k A0 c0 l0 true wB HRB.out HC0.out HBB.out).mono ?_)
  rintro e w1 ⟨rfl, hb1⟩
  have HB1 := mk_ (below_step BB.out hb1)
  have K21 := mk_ (blk_below K2.out hb1)
  have K31 := mk_ (blk_below K3.out hb1)
  clear hb1 hl2 hl3 K2 K3
  have hl2 := (blk_cell K21.out 0).trans rfl
  have hl3 := (blk_cell K31.out 0).trans rfl
  go_wp2_with fail
  (with_reducible refine (impl_areLetters.calls k a1 c _ HCC.out).mono ?_)
  rintro e w2 ⟨rfl, hd⟩
  have HB2 := mk_ (below_step HB1.out hd.below)
  have K2 := mk_ (blk_below K21.out hd.below)
  have K3 := mk_ (blk_below K31.out hd.below)
  clear hd hl2 hl3 K21 K31
  cases c with
  | false =>
   have h := HH.out
   rw [if_neg (by simp)] at h
   injection h with h
   injection h with h1 h2
   have H12 := mk_ (And.intro h1 h2)
   clear h1 h2
   go_wp2
   go_ret2
   obtain ⟨h1, h2⟩ := H12.out
   subst h1; subst h2
   exact ⟨rfl, HB2.out⟩
  | true =>
   have h := HH.out
   rw [if_pos rfl] at h
   by_cases hsz : a1.size ≤ 1048576
   rotate_left
   ·rw [if_neg hsz] at h; cases h
   rw [if_pos hsz] at h
   have HG := mk_ h
   have HSZ := mk_ hsz
   have hl3 := (blk_cell K3.out 0).trans rfl
   clear h hsz HH
   go_wp2_with fail
   clear hl3
   go_loopg [6, 19] a1.size (fun kq v6 v19 w' => ∃ (i : Nat) (x at_ : Int), v6 = .int .i64 at_ ∧ v19 = .int .i64 x ∧ Aside0 (x = i) ∧ Aside0 (i + kq = a1.size) ∧ Aside0 (impl_WalkLegs.go l0 a1 kq i at_ = some (r1, r2)) ∧ Aside0 (Below w2.heap.size w2 w'))
   case atStart => exact ⟨0, 0, 0, rfl, rfl, ⟨rfl⟩, ⟨by simp⟩, HG, ⟨Below.refl _ _⟩⟩
   case round =>
    obtain ⟨i, x, at_, rfl, rfl, HX, HI, HA, HBW⟩ := hrel
    cases gk with
    | zero =>
     have c1 : decide (x < (a1.size : Int)) = false := decide_eq_false (by have := HX.out; have := HI.out; omega)
     have h : some (at_, true) = some (r1, r2) := HA.out
     injection h with h
     injection h with h1 h2
     have H12 := mk_ (And.intro h1 h2)
     clear h1 h2
     go_wp2
     go_ret2
     obtain ⟨h1, h2⟩ := H12.out
     subst h1; subst h2
     exact ⟨rfl, below_step HB2.out HBW.out⟩
    | succ k1 =>
     have p1 : x < (a1.size : Int) := by have := HX.out; have := HI.out; omega
     have p0 : 0 ≤ x := by have := HX.out; omega
     have c1 : decide (x < (a1.size : Int)) = true := decide_eq_true p1
     have h := HA.out
     unfold impl_WalkLegs.go at h
     by_cases hat : (0 ≤ at_ ∧ at_ < (l0.length : Int)) ∧ ∀ k ∈ (rd_T59 l0 at_).f3, 0 ≤ k ∧ k < (l0.length : Int)
     rotate_left
     ·rw [if_neg hat] at h; cases h
     rw [if_pos hat] at h
     obtain ⟨⟨a0, a1_⟩, hks⟩ := hat
     have HKS := mk_ hks
     obtain ⟨y, hy⟩ : ∃ y, y = rd_T59 l0 at_ := ⟨_, rfl⟩
     rw [← hy] at h
     have HY := mk_ hy
     obtain ⟨j, hj⟩ : ∃ j, j = idxF (fun k => decide ((rd_T59 l0 k).f0 = impl_WalkLegs_1.ltr a1 i)) y.f3 0 := ⟨_, rfl⟩
     rw [← hj] at h
     have HJ := mk_ hj
     have HH := mk_ h
     have HWX := mk_ (show wrap64 (x + 1) = x + 1 from by unfold wrap64; have := HSZ.out; omega)
     have e0 := eq_true a0
     have e1 := eq_true a1_
     have da0 : decide (0 ≤ at_) = true := decide_eq_true a0
     have da1 : decide (at_ < (l0.length : Int)) = true := decide_eq_true a1_
     have K2w := mk_ (blk_below K2.out HBW.out)
     have K3w := mk_ (blk_below K3.out HBW.out)
     have HRw := mk_ (Kd.C_below HR0.out (below_step HB2.out HBW.out))
     clear h hks hy hj
     go_upto_region 7 with (first | ((with_reducible refine gate_dst (N := 7) rfl ?_); refine box_event sq_0 (N := 7) sq_0 (cs := #[.int .i64 0]) (t := 3) sq_h ?_; intro g7 hg7 w5 hbox hb5; have G7 := mk_ (show wr.heap.size ≤ g7 from by rw [hg7]; exact Nat.le_refl _); have B5 := mk_ (show Below wr.heap.size wr w5 from hb5); have BK5 := mk_ hbox; have kb0 := (blk_cell BK5.out 0).trans rfl; have kf0 := blk_frozen BK5.out 0; clear hg7 hbox hb5))
     obtain ⟨wC, hwC⟩ : ∃ wC, wC = w5.setCell ⟨g7, 0, none⟩ (.int .i64 x) := ⟨_, rfl⟩
     have hBC : Below wr.heap.size wr wC := by rw [hwC]; exact below_set B5.out G7.out
     have hK7 : wC.heap[g7]? = some (.cells #[.int .i64 x] 3 (0, 0)) := by rw [hwC]; exact blk_put (cs := #[.int .i64 0]) BK5.out 0 _ rfl
     rw [← hwC]
     have hl7 := (blk_cell hK7 0).trans rfl
     have hl2 := (blk_cell (blk_below K2w.out hBC) 0).trans rfl
     have hl3 := (blk_cell (blk_below K3w.out hBC) 0).trans rfl
     have HRC := mk_ (Kd.C_below HRw.out hBC)
     have HBC := mk_ (below_step HBW.out hBC)
     clear hwC hBC hK7 kb0 kf0 BK5 B5 HBW K2w K3w HRw
     obtain ⟨ad, A3, c3, rfl, hx0, hx1, hx2, hx3, hc3, hCk⟩ := at_T59 HRC.out at_ a0 a1_
     rw [← HY.out] at hx0 hx1 hx2 hx3 hc3 hCk
     have HC3 := mk_ hc3
     have HCK := mk_ hCk
     clear hx0 hx1 hx2 hc3 hCk
     rw [HX.out] at hl7
     go_wp2_with fail
     (with_reducible refine (slices_IndexFunc_int_int.calls (fun k => decide ((rd_T59 l0 k).f0 = impl_WalkLegs_1.ltr a1 i)) 58 #[.pointer (some ⟨g2, 0, none⟩), .pointer (some ⟨g3, 0, none⟩), .pointer (some ⟨g7, 0, none⟩)] A3 c3 y.f3 wC ?s1 ?s2 ?s3).mono ?_)
     case s1 => exact HCK.out
     case s2 => exact fun args W => enters_ Try.func58 (by kernel_rfl) rfl args W
     case s3 =>
      intro k_ hk_ W_ hW_
      have hkk := HKS.out k_ (by rw [← HY.out]; exact hk_)
      refine calls_of_args ?_ (impl_WalkLegs_1.calls k_ (some ad) c0 l0 a1 i g2 g3 g7 W_ ((hW_.cell (World.block_lt_of_cell? wC _ hl2)).trans hl2) ((hW_.cell (World.block_lt_of_cell? wC _ hl3)).trans hl3) ((hW_.cell (World.block_lt_of_cell? wC _ hl7)).trans hl7) (Kd.C_below HRC.out hW_) hkk.1 hkk.2 (by have := HX.out; omega))
      rfl
     rintro e w8 ⟨he, hb8⟩
     rw [← HJ.out] at he
     subst he
     have HB8 := mk_ (below_step HBC.out hb8)
     by_cases hj0 : j < 0
     ·have h := HH.out
      rw [if_pos hj0] at h
      injection h with h
      injection h with h1 h2
      have H12 := mk_ (And.intro h1 h2)
      have dj : decide (j < 0) = true := decide_eq_true hj0
      clear h1 h2 hb8 hl2 hl3 hl7 hx3
      go_wp2
      go_ret2
      obtain ⟨h1, h2⟩ := H12.out
      subst h1; subst h2
      exact ⟨rfl, below_step HB2.out HB8.out⟩
     ·have dj : decide (j < 0) = false := decide_eq_false hj0
      have h := HH.out
      rw [if_neg hj0] at h
      have HH2 := mk_ h
      have j0 : 0 ≤ j := by omega
      have j1 : j < (y.f3.length : Int) := by
       rcases impl_WalkLegs.idx_range (fun k => decide ((rd_T59 l0 k).f0 = impl_WalkLegs_1.ltr a1 i)) y.f3 with h1 | h1
       ·rw [← HJ.out] at h1; omega
       ·rw [← HJ.out] at h1; exact h1.2
      have ej0 := eq_true j0
      have ej1 := eq_true j1
      have dj0 : decide (0 ≤ j) = true := decide_eq_true j0
      have dj1 : decide (j < (y.f3.length : Int)) = true := decide_eq_true j1
      replace hl2 := (hb8.cell (World.block_lt_of_cell? wC _ hl2)).trans hl2
      replace hx3 := (hb8.cell (World.block_lt_of_cell? wC _ hx3)).trans hx3
      obtain ⟨adk, rfl, hck⟩ := Kd.at_int (Kd.C_below HCK.out hb8) j j0 j1
      clear h hj0 hb8 hl3 hl7
      go_wp2
      go_roundg k1
      case measure => omega
      case rel => exact ⟨i + 1, x + 1, rd y.f3 j, rfl, by rw [HWX.out], ⟨by have := HX.out; omega⟩, ⟨by have := HI.out; omega⟩, HH2, HB8⟩

/-! ### spec_l1Rising: function 88 -/
def spec_l1Rising.l0 : Nat → List Int → Int → Int → List Int → Int → Int → Option (Bool)
 | 0, _, _, _, _, _, _ => none
 | k + 1, x0, x1, x2, x9, x10, x11 => if x11 < x10 then (if 0 ≤ x11 then (if x11 < (x9.length : Int) then ((spec_l1In.f (rd x9 x11) x1 x2).bind fun t143 => (if t143 = true then (if x11 > 0 then (if 0 ≤ (wrap64 (x11 - 1)) then (if (wrap64 (x11 - 1)) < (x0.length : Int) then (if (rd x0 (wrap64 (x11 - 1))) ≥ (rd x9 x11) then (some false) else (spec_l1Rising.l0 k x0 x1 x2 x9 x10 (wrap64 (x11 + 1)))) else (none)) else (none)) else (spec_l1Rising.l0 k x0 x1 x2 x9 x10 (wrap64 (x11 + 1)))) else (some false))) else (none)) else (none)) else (some true)
def spec_l1Rising.f (k : Nat) (l0 : List Int) (a1 : Int) (a2 : Int) : Option (Bool) := spec_l1Rising.l0 k l0 a1 a2 l0 (l0.length : Int) 0
theorem spec_l1Rising.mono_l : ∀ k, (∀ y0 y1 y2 y3 y4 y5, LeO (spec_l1Rising.l0 k y0 y1 y2 y3 y4 y5) (spec_l1Rising.l0 (k + 1) y0 y1 y2 y3 y4 y5))
 | 0 => fun _ _ _ _ _ _ r h => by simp [spec_l1Rising.l0] at h
 | k + 1 => by
  have ih0 := spec_l1Rising.mono_l k
  ·intro y0 y1 y2 y3 y4 y5
   unfold spec_l1Rising.l0
   repeat' first
   | (with_reducible exact ih0 _ _ _ _ _ _)
   | (with_reducible exact LeO.refl _)
   | (with_reducible exact LeO.none _)
   | (with_reducible refine LeO.ite ?_ ?_)
   | (with_reducible refine LeO.bind ?_ (fun _ => ?_))
   | exact ih0 _ _ _ _ _ _
   | exact LeO.none _
   | refine LeO.ite ?_ ?_
   | refine LeO.bind ?_ (fun _ => ?_)
theorem spec_l1Rising.mono : ∀ a0 a1 a2 k, LeO (spec_l1Rising.f k a0 a1 a2) (spec_l1Rising.f (k + 1) a0 a1 a2) := by
 intro a0 a1 a2 k
 have ih0 := spec_l1Rising.mono_l k
 unfold spec_l1Rising.f
 repeat' first
   | (with_reducible exact ih0 _ _ _ _ _ _)
   | (with_reducible exact LeO.refl _)
   | (with_reducible exact LeO.none _)
   | (with_reducible refine LeO.ite ?_ ?_)
   | (with_reducible refine LeO.bind ?_ (fun _ => ?_))
   | exact ih0 _ _ _ _ _ _
   | exact LeO.none _
   | refine LeO.ite ?_ ?_
   | refine LeO.bind ?_ (fun _ => ?_)
set_option maxHeartbeats 8000000 in
set_option maxRecDepth 100000 in
theorem spec_l1Rising.calls (k : Nat) (A0 : Option Addr) (c0 : Nat) (l0 : List Int) (a1 : Int) (a2 : Int) (r : Bool) (w : World) (hr0 : Kd.C (Kd.int .i64) w A0 l0.length l0) (hc0 : l0.length ≤ c0) (h : spec_l1Rising.f k l0 a1 a2 = some r) :
  Calls Try.prog 88 #[.slice A0 l0.length c0, .int .i64 a1, .int .i64 a2] w fun e w' => e = .returned (.bool r) ∧ Drawn0 w w' := by
 have HR0 := mk_ hr0
 have HC0 := mk_ hc0
 clear hr0 hc0
 have H : (spec_l1Rising.l0 k l0 a1 a2 l0 (l0.length : Int) 0) = some r := h
 clear h
 have H' := mk_ H
 clear H
 go_enter Try.func88, Try.ntmps88
 go_wp2
 go_loopg [11] k (fun kq v11 w' => ∃ (x11_1 : Int), v11 = .int .i64 x11_1 ∧ Aside0 (spec_l1Rising.l0 kq l0 a1 a2 l0 (l0.length : Int) x11_1 = some r) ∧ Aside0 (kq ≤ k) ∧ Drawn0 w w')
 case atStart => exact ⟨(0), sq_e, H', ⟨Nat.le_refl _⟩, by repeat (first | exact Drawn0.refl _ | apply Drawn0.step)⟩
 case round =>
  clear H'
  try clear p2
  obtain ⟨x11_1, rfl, HA, HK1, ⟨m1, rfl⟩⟩ := hrel
  cases gk with
  | zero => exact absurd HA.out (by simp [spec_l1Rising.l0])
  | succ k1 =>
   have H := HA.out
   clear HA
   simp only [spec_l1Rising.l0] at H
   by_cases c4 : x11_1 < (l0.length : Int)
   ·rw [if_pos c4] at H
    have c4b0 : decide (x11_1 < (l0.length : Int)) = true := decide_eq_true c4
    clear c4
    by_cases c5 : 0 ≤ x11_1
    rotate_left
    ·rw [if_neg c5] at H
     exact absurd H (by simp)
    rw [if_pos c5] at H
    have c5b0 : decide (0 ≤ x11_1) = true := decide_eq_true c5
    clear c5
    by_cases c6 : x11_1 < (l0.length : Int)
    rotate_left
    ·rw [if_neg c6] at H
     exact absurd H (by simp)
    rw [if_pos c6] at H
    have c6b0 : decide (x11_1 < (l0.length : Int)) = true := decide_eq_true c6
    clear c6
    replace H := Option.bind_eq_some_iff.mp H
    obtain ⟨t143, A70, H⟩ := H
    replace H : (if t143 = true then (if x11_1 > 0 then (if 0 ≤ (wrap64 (x11_1 - 1)) then (if (wrap64 (x11_1 - 1)) < (l0.length : Int) then (if (rd l0 (wrap64 (x11_1 - 1))) ≥ (rd l0 x11_1) then (some false) else (spec_l1Rising.l0 k1 l0 a1 a2 l0 (l0.length : Int) (wrap64 (x11_1 + 1)))) else (none)) else (none)) else (spec_l1Rising.l0 k1 l0 a1 a2 l0 (l0.length : Int) (wrap64 (x11_1 + 1)))) else (some false)) = some r := H
    have A7 := mk_ A70
    clear A70
    by_cases c8 : t143 = true
    ·subst c8
     have H1 : (if x11_1 > 0 then (if 0 ≤ (wrap64 (x11_1 - 1)) then (if (wrap64 (x11_1 - 1)) < (l0.length : Int) then (if (rd l0 (wrap64 (x11_1 - 1))) ≥ (rd l0 x11_1) then (some false) else (spec_l1Rising.l0 k1 l0 a1 a2 l0 (l0.length : Int) (wrap64 (x11_1 + 1)))) else (none)) else (none)) else (spec_l1Rising.l0 k1 l0 a1 a2 l0 (l0.length : Int) (wrap64 (x11_1 + 1)))) = some r := by rw [if_pos rfl] at H; exact H
     clear H
     have H := H1
     clear H1
     by_cases c9 : x11_1 > 0
     ·rw [if_pos c9] at H
      have c9b0 : decide (0 < x11_1) = true := decide_eq_true c9
      clear c9
      obtain ⟨ji10, hji10⟩ : ∃ j_ : Int, (wrap64 (x11_1 - 1)) = j_ := ⟨_, rfl⟩
      replace H : (if 0 ≤ (ji10) then (if (ji10) < (l0.length : Int) then (if (rd l0 (ji10)) ≥ (rd l0 x11_1) then (some false) else (spec_l1Rising.l0 k1 l0 a1 a2 l0 (l0.length : Int) (wrap64 (x11_1 + 1)))) else (none)) else (none)) = some r := by first | (rw [hji10] at H; exact H) | (simp only [hji10] at H ⊢; exact H)
      (try rw [hji10] at A7)
      have hji10w : (IntKind.i64.wrap (x11_1 - 1)) = ji10 := (i64_w _).trans hji10
      by_cases c11 : 0 ≤ (ji10)
      rotate_left
      ·rw [if_neg c11] at H
       exact absurd H (by simp)
      rw [if_pos c11] at H
      have c11b0 : decide (0 ≤ (ji10)) = true := decide_eq_true c11
      clear c11
      by_cases c12 : (ji10) < (l0.length : Int)
      rotate_left
      ·rw [if_neg c12] at H
       exact absurd H (by simp)
      rw [if_pos c12] at H
      have c12b0 : decide ((ji10) < (l0.length : Int)) = true := decide_eq_true c12
      clear c12
      by_cases c13 : (rd l0 (ji10)) ≥ (rd l0 x11_1)
      ·rw [if_pos c13] at H
       have c13b0 : decide ((rd l0 x11_1) ≤ (rd l0 (ji10))) = true := decide_eq_true c13
       clear c13
       obtain rfl := Option.some.inj H
       have p142 : 0 ≤ (x11_1 : Int) := sq_d
       have q142 : x11_1 < (l0.length : Int) := sq_d
       obtain ⟨ad142, e142, hx142_0⟩ := Kd.at_int HR0.out x11_1 p142 q142
       cases e142
       replace p142 := eq_true p142
       replace q142 := eq_true q142
       go_wp2_with (first | ((with_reducible refine gate_callee (f := 67) rfl ?_); refine goesL_ (some 19) rfl rfl Try.func67 (by kernel_rfl) rfl #[.int .i64 (rd l0 x11_1), .int .i64 a1, .int .i64 a2] rfl sq_a ?_; (with_reducible refine (spec_l1In.calls (rd l0 x11_1) a1 a2 true _ A7.out).mono ?_); rintro e w' ⟨rfl, ⟨nd, rfl⟩⟩; refine ⟨_, rfl, ?_⟩; have p144 : 0 ≤ ((ji10) : Int) := sq_d; have q144 : (ji10) < (l0.length : Int) := sq_d; obtain ⟨ad144, e144, hx144_0⟩ := Kd.at_int HR0.out (ji10) p144 q144; obtain rfl : ad142 = ad144 := (by injection e144); replace p144 := eq_true p144; replace q144 := eq_true q144))
       go_ret
       exact ⟨by first | rfl | (simp; done) | (simp [ext_bne_nil, ext_beq_nil]; done) | (simp only [← hji10] <;> (first | rfl | simp)) | (simp [*]; done), by repeat (first | exact Drawn0.refl _ | apply Drawn0.step)⟩
      ·rw [if_neg c13] at H
       have c13b0 : decide ((rd l0 x11_1) ≤ (rd l0 (ji10))) = false := decide_eq_false c13
       clear c13
       have H' := mk_ H
       clear H
       have p142 : 0 ≤ (x11_1 : Int) := sq_d
       have q142 : x11_1 < (l0.length : Int) := sq_d
       obtain ⟨ad142, e142, hx142_0⟩ := Kd.at_int HR0.out x11_1 p142 q142
       cases e142
       replace p142 := eq_true p142
       replace q142 := eq_true q142
       go_wp2_with (first | ((with_reducible refine gate_callee (f := 67) rfl ?_); refine goesL_ (some 19) rfl rfl Try.func67 (by kernel_rfl) rfl #[.int .i64 (rd l0 x11_1), .int .i64 a1, .int .i64 a2] rfl sq_a ?_; (with_reducible refine (spec_l1In.calls (rd l0 x11_1) a1 a2 true _ A7.out).mono ?_); rintro e w' ⟨rfl, ⟨nd, rfl⟩⟩; refine ⟨_, rfl, ?_⟩; have p144 : 0 ≤ ((ji10) : Int) := sq_d; have q144 : (ji10) < (l0.length : Int) := sq_d; obtain ⟨ad144, e144, hx144_0⟩ := Kd.at_int HR0.out (ji10) p144 q144; obtain rfl : ad142 = ad144 := (by injection e144); replace p144 := eq_true p144; replace q144 := eq_true q144))
       go_roundg k1
       case measure => have := HK1.out; omega
       case rel => exact ⟨(wrap64 (x11_1 + 1)), sq_e, H', ⟨by have := HK1.out; omega⟩, by repeat (first | exact Drawn0.refl _ | apply Drawn0.step)⟩
     ·rw [if_neg c9] at H
      have c9b0 : decide (0 < x11_1) = false := decide_eq_false c9
      clear c9
      have H' := mk_ H
      clear H
      have p142 : 0 ≤ (x11_1 : Int) := sq_d
      have q142 : x11_1 < (l0.length : Int) := sq_d
      obtain ⟨ad142, e142, hx142_0⟩ := Kd.at_int HR0.out x11_1 p142 q142
      cases e142
      replace p142 := eq_true p142
      replace q142 := eq_true q142
      go_wp2_with (first | ((with_reducible refine gate_callee (f := 67) rfl ?_); refine goesL_ (some 19) rfl rfl Try.func67 (by kernel_rfl) rfl #[.int .i64 (rd l0 x11_1), .int .i64 a1, .int .i64 a2] rfl sq_a ?_; (with_reducible refine (spec_l1In.calls (rd l0 x11_1) a1 a2 true _ A7.out).mono ?_); rintro e w' ⟨rfl, ⟨nd, rfl⟩⟩; refine ⟨_, rfl, ?_⟩))
      go_roundg k1
      case measure => have := HK1.out; omega
      case rel => exact ⟨(wrap64 (x11_1 + 1)), sq_e, H', ⟨by have := HK1.out; omega⟩, by repeat (first | exact Drawn0.refl _ | apply Drawn0.step)⟩
    ·replace c8 := Bool.eq_false_iff.mpr c8
     subst c8
     have H1 : (some false) = some r := by rw [if_neg (show ¬ (false = true) by decide)] at H; exact H
     clear H
     have H := H1
     clear H1
     obtain rfl := Option.some.inj H
     have p142 : 0 ≤ (x11_1 : Int) := sq_d
     have q142 : x11_1 < (l0.length : Int) := sq_d
     obtain ⟨ad142, e142, hx142_0⟩ := Kd.at_int HR0.out x11_1 p142 q142
     cases e142
     replace p142 := eq_true p142
     replace q142 := eq_true q142
     go_wp2_with (first | ((with_reducible refine gate_callee (f := 67) rfl ?_); refine goesL_ (some 19) rfl rfl Try.func67 (by kernel_rfl) rfl #[.int .i64 (rd l0 x11_1), .int .i64 a1, .int .i64 a2] rfl sq_a ?_; (with_reducible refine (spec_l1In.calls (rd l0 x11_1) a1 a2 false _ A7.out).mono ?_); rintro e w' ⟨rfl, ⟨nd, rfl⟩⟩; refine ⟨_, rfl, ?_⟩))
     go_ret
     exact ⟨sq_e, by repeat (first | exact Drawn0.refl _ | apply Drawn0.step)⟩
   ·rw [if_neg c4] at H
    have c4b0 : decide (x11_1 < (l0.length : Int)) = false := decide_eq_false c4
    clear c4
    obtain rfl := Option.some.inj H
    go_wp2
    go_ret
    exact ⟨sq_e, by repeat (first | exact Drawn0.refl _ | apply Drawn0.step)⟩

/-! ### spec_l13Many: function 89 -/
def spec_l13Many.l0 : Nat → Int → List (S59) → Int → Int → Option (Int)
 | 0, _, _, _, _ => none
 | k + 1, x3, x6, x7, x8 => if x8 < x7 then (if 0 ≤ x8 then (if x8 < (x6.length : Int) then (spec_l13Many.l0 k (wrap64 (x3 + (((rd_T59 x6 x8).f3).length : Int))) x6 x7 (wrap64 (x8 + 1))) else (none)) else (none)) else (some x3)
def spec_l13Many.f (k : Nat) (l0 : List (S59)) : Option (Int) := spec_l13Many.l0 k 0 l0 (l0.length : Int) 0
theorem spec_l13Many.mono_l : ∀ k, (∀ y0 y1 y2 y3, LeO (spec_l13Many.l0 k y0 y1 y2 y3) (spec_l13Many.l0 (k + 1) y0 y1 y2 y3))
 | 0 => fun _ _ _ _ r h => by simp [spec_l13Many.l0] at h
 | k + 1 => by
  have ih0 := spec_l13Many.mono_l k
  ·intro y0 y1 y2 y3
   unfold spec_l13Many.l0
   repeat' first
   | (with_reducible exact ih0 _ _ _ _)
   | (with_reducible exact LeO.refl _)
   | (with_reducible exact LeO.none _)
   | (with_reducible refine LeO.ite ?_ ?_)
   | (with_reducible refine LeO.bind ?_ (fun _ => ?_))
   | exact ih0 _ _ _ _
   | exact LeO.none _
   | refine LeO.ite ?_ ?_
   | refine LeO.bind ?_ (fun _ => ?_)
theorem spec_l13Many.mono : ∀ a0 k, LeO (spec_l13Many.f k a0) (spec_l13Many.f (k + 1) a0) := by
 intro a0 k
 have ih0 := spec_l13Many.mono_l k
 unfold spec_l13Many.f
 repeat' first
   | (with_reducible exact ih0 _ _ _ _)
   | (with_reducible exact LeO.refl _)
   | (with_reducible exact LeO.none _)
   | (with_reducible refine LeO.ite ?_ ?_)
   | (with_reducible refine LeO.bind ?_ (fun _ => ?_))
   | exact ih0 _ _ _ _
   | exact LeO.none _
   | refine LeO.ite ?_ ?_
   | refine LeO.bind ?_ (fun _ => ?_)
set_option maxHeartbeats 8000000 in
set_option maxRecDepth 100000 in
theorem spec_l13Many.calls (k : Nat) (A0 : Option Addr) (c0 : Nat) (l0 : List (S59)) (r : Int) (w : World) (hr0 : Kd.C k59 w A0 l0.length l0) (hc0 : l0.length ≤ c0) (h : spec_l13Many.f k l0 = some r) :
  Calls Try.prog 89 #[.slice A0 l0.length c0] w fun e w' => e = .returned (.int .i64 r) ∧ Below w.heap.size w w' := by
 have hu59 := Try.underlying59
 have HR0 := mk_ hr0
 have HC0 := mk_ hc0
 clear hr0 hc0
 have HB := mk_ (Below.refl w.heap.size w)
 have H : (spec_l13Many.l0 k 0 l0 (l0.length : Int) 0) = some r := h
 clear h
 have H' := mk_ H
 clear H
 go_enter Try.func89, Try.ntmps89
 go_wp2
 go_loopg [3, 8] k (fun kq v3 v8 w' => ∃ (x3_1 : Int) (x8_1 : Int), v3 = .int .i64 x3_1 ∧ v8 = .int .i64 x8_1 ∧ Aside0 (spec_l13Many.l0 kq x3_1 l0 (l0.length : Int) x8_1 = some r) ∧ Aside0 (kq ≤ k) ∧ Aside0 (Below w.heap.size w w'))
 case atStart => exact ⟨(0), (0), sq_e, sq_e, H', ⟨Nat.le_refl _⟩, ⟨sq_b⟩⟩
 case round =>
  clear H'
  obtain ⟨x3_1, x8_1, rfl, rfl, HA, HK1, HB⟩ := hrel
  cases gk with
  | zero => exact absurd HA.out (by simp [spec_l13Many.l0])
  | succ k1 =>
   have H := HA.out
   clear HA
   simp only [spec_l13Many.l0] at H
   by_cases c2 : x8_1 < (l0.length : Int)
   ·rw [if_pos c2] at H
    have c2b0 : decide (x8_1 < (l0.length : Int)) = true := decide_eq_true c2
    clear c2
    by_cases c3 : 0 ≤ x8_1
    rotate_left
    ·rw [if_neg c3] at H
     exact absurd H (by simp)
    rw [if_pos c3] at H
    have c3b0 : decide (0 ≤ x8_1) = true := decide_eq_true c3
    clear c3
    by_cases c4 : x8_1 < (l0.length : Int)
    rotate_left
    ·rw [if_neg c4] at H
     exact absurd H (by simp)
    rw [if_pos c4] at H
    have c4b0 : decide (x8_1 < (l0.length : Int)) = true := decide_eq_true c4
    clear c4
    have H' := mk_ H
    clear H
    have p145 : 0 ≤ (x8_1 : Int) := sq_d
    have q145 : x8_1 < (l0.length : Int) := sq_d
    obtain ⟨ad145, A145_3, c145_3, e145, hx145_0, hx145_1, hx145_2, hx145_3, hl145_3, hi145_3⟩ := at_T59 HR0.out x8_1 p145 q145
    cases e145
    try replace hx145_0 := (HB.out.cell (World.block_lt_of_cell? w _ hx145_0)).trans hx145_0
    try replace hx145_1 := (HB.out.cell (World.block_lt_of_cell? w _ hx145_1)).trans hx145_1
    try replace hx145_2 := (HB.out.cell (World.block_lt_of_cell? w _ hx145_2)).trans hx145_2
    try replace hx145_3 := (HB.out.cell (World.block_lt_of_cell? w _ hx145_3)).trans hx145_3
    have HR145_3 := mk_ hi145_3
    have HC145_3 := mk_ hl145_3
    clear hi145_3 hl145_3
    replace p145 := eq_true p145
    replace q145 := eq_true q145
    go_wp2_with (first | ((with_reducible refine gate_dst (N := 5) rfl ?_); refine box_event sq_0 (N := 5) sq_0 (cs := #[.int .i64 0, .int .i64 0, .int .i64 0, .slice none 0 0]) (t := 59) sq_h ?_; intro gb146 hg w5 hbox hb; have n0_ := mk_ (below_step sq_b hb); have n1_ := mk_ (hbox); have n2_ := mk_ ((by rw [hg]; exact (below_size sq_b) : w.heap.size ≤ gb146)); have n3_ := mk_ ((by rw [hg]; exact (below_size sq_b) : w.heap.size ≤ gb146)); clear HB; have HB := n0_; have BK146 := n1_; have GW146 := n2_; have GE146 := n3_; clear n0_ n1_ n2_ n3_; clear hb hbox hg; have hcz6_0 : w5.cell? ⟨gb146, 0, none⟩ = some (.int .i64 0) := (blk_cell BK146.out 0).trans rfl; have hcz6_1 : w5.cell? ⟨gb146, 1, none⟩ = some (.int .i64 0) := (blk_cell BK146.out 1).trans rfl; have hcz6_2 : w5.cell? ⟨gb146, 2, none⟩ = some (.int .i64 0) := (blk_cell BK146.out 2).trans rfl; have hcz6_3 : w5.cell? ⟨gb146, 3, none⟩ = some (.slice none 0 0) := (blk_cell BK146.out 3).trans rfl; have hfz6_0 := blk_frozen BK146.out 0; have hfz6_1 := blk_frozen BK146.out 1; have hfz6_2 := blk_frozen BK146.out 2; have hfz6_3 := blk_frozen BK146.out 3))
    go_roundg k1
    case measure => have := HK1.out; omega
    case rel => exact ⟨(wrap64 (x3_1 + (((rd_T59 l0 x8_1).f3).length : Int))), (wrap64 (x8_1 + 1)), sq_e, sq_e, H', ⟨by have := HK1.out; omega⟩, ⟨sq_g GE146.out⟩⟩
   ·rw [if_neg c2] at H
    have c2b0 : decide (x8_1 < (l0.length : Int)) = false := decide_eq_false c2
    clear c2
    obtain rfl := Option.some.inj H
    go_wp2
    go_ret
    exact ⟨sq_w, sq_b⟩

end Go.Proofs.Ytkoackkimdanjaa.QFnLegs
