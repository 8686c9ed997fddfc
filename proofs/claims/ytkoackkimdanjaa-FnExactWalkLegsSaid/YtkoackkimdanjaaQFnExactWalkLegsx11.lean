-- Written by this session's own program (wip/pp_patch.py, wip/pp.sh) out of the given translation. Not trusted: Lean checks it.
import Derived.Test.YtkoackkimdanjaaQFnExactWalkLegsx0
import Derived.Test.YtkoackkimdanjaaQFnExactWalkLegsx1
import Derived.Test.YtkoackkimdanjaaQFnExactWalkLegsx2
import Derived.Test.YtkoackkimdanjaaQFnExactWalkLegsx6
import Derived.Test.YtkoackkimdanjaaQFnExactWalkLegsx10
namespace Go.Proofs.Ytkoackkimdanjaa.QFnExactWalkLegs
open Go.RowKit Go.Proofs.YtkoackkimdanjaaW.PrintWords Go.Proofs.YtkoackkimdanjaaW.PrintLast Go.Proofs.YtkoackkimdanjaaW.PrintMore
attribute [local go_sem] max2_int min2_int max_two min_two max_three min_three max_four min_four   -- for this text's walks alone
open Go.Proofs.Ytkoackkimdanjaa.Ext
attribute [local go_sem high] ext_gtr ext_leq
set_option linter.unusedVariables false
set_option linter.unusedSimpArgs false

/-! ### impl_GoodLegs: function 23 -/
def impl_GoodLegs.f (k : Nat) (l0 : List (S59)) : Option (Bool) := (impl_entries.f k l0).bind fun bt217 => (some bt217.2)
theorem impl_GoodLegs.mono : ∀ a0 k, LeO (impl_GoodLegs.f k a0) (impl_GoodLegs.f (k + 1) a0) := by
 intro a0 k
 unfold impl_GoodLegs.f
 repeat' first
   | (with_reducible exact impl_entries.mono _ _)
   | (with_reducible exact LeO.refl _)
   | (with_reducible exact LeO.none _)
   | (with_reducible refine LeO.ite ?_ ?_)
   | (with_reducible refine LeO.bind ?_ (fun _ => ?_))
   | exact impl_entries.mono _ _
   | exact LeO.none _
   | refine LeO.ite ?_ ?_
   | refine LeO.bind ?_ (fun _ => ?_)
set_option maxHeartbeats 8000000 in
set_option maxRecDepth 100000 in
theorem impl_GoodLegs.calls (k : Nat) (A0 : Option Addr) (c0 : Nat) (l0 : List (S59)) (r : Bool) (w : World) (hr0 : Kd.C k59 w A0 l0.length l0) (hc0 : l0.length ≤ c0) (h : impl_GoodLegs.f k l0 = some r) :
  Calls Try.prog 23 #[.slice A0 l0.length c0] w fun e w' => e = .returned (.bool r) ∧ Below w.heap.size w w' := by
 have HR0 := Aside0.mk hr0
 have HC0 := Aside0.mk hc0
 clear hr0 hc0
 have HB := Aside0.mk (Below.refl w.heap.size w)
 have H : ((impl_entries.f k l0).bind fun bt217 => (some bt217.2)) = some r := h
 clear h
 replace H := Option.bind_eq_some_iff.mp H
 obtain ⟨⟨t217, t218⟩, A20, H⟩ := H
 replace H : (some t218) = some r := H
 have A2 := Aside0.mk A20
 clear A20
 obtain rfl := Option.some.inj H
 go_enter Try.func23, Try.ntmps23
 go_wp2_with (first | ((with_reducible refine gate_callee (f := 54) rfl ?_); refine goesL_ (some 7) rfl rfl Try.func54 (by kernel_rfl) rfl #[.slice A0 l0.length c0] rfl (by (try simp only [List.map_toArray, List.map_cons, List.map_nil]); first | done | rfl | (simp only [List.length_drop, List.length_take]; rfl)) ?_; (with_reducible refine (impl_entries.calls k _ _ l0 t217 t218 _ ?side1 ?side2 A2.out).mono ?_); (case side1 => repeat (first | exact HR0.out | (with_reducible refine Kd.C_alloc ?_ _) | (with_reducible refine Kd.C_drewN ?_ _) | (with_reducible refine Kd.C_drew ?_))); (case side2 => exact HC0.out); rintro e w3 ⟨v219, rfl, ho0, hb⟩; refine ⟨_, rfl, ?_⟩; have n0_ := Aside0.mk (Kd.R_lower ho0 (below_size sq_b)); have n1_ := Aside0.mk (below_step sq_b hb); clear HB; have HO220 := n0_; have HB := n1_; clear n0_ n1_; (try clear hb); (try clear hb2); (try clear hk); (try clear hi); (try clear ho0)))
 go_ret
 exact ⟨sq_w, sq_b⟩

/-! ### slices_IndexFunc_int_int: function 57 (by hand) -/
set_option maxHeartbeats 8000000 in
set_option maxRecDepth 100000 in
theorem slices_IndexFunc_int_int.calls (p : Int → Bool) (c : Nat) (caps : Array Value) (A : Option Addr) (cap : Nat) (xs : List Int) (w : World) (hC : Kd.C (Kd.int .i64) w A xs.length xs) (hent : ∀ args W, (callFunc c args).run Try.prog W = .ok (.enter c args) W)
  (hp : ∀ x, x ∈ xs → ∀ (W : World), Below w.heap.size w W → Calls Try.prog c (#[.int .i64 x] ++ caps) W fun e w' => e = .returned (.bool (p x)) ∧ Below W.heap.size W w') :
  Calls Try.prog 57 #[.slice A xs.length cap, .func (.func c) #[] caps] w fun e w' => e = .returned (.int .i64 (idxF p xs 0)) ∧ Below w.heap.size w w' := by
 have hmax : xs.length ≤ 9223372036854775807 := Kd.C_max hC
 have HP := Aside0.mk hp
 have HS := Aside0.mk hC
 have HM := Aside0.mk hmax
 clear hp hC hmax
 go_enter Try.func57, Try.ntmps57
 go_wp2
 go_loopg [8] xs.length (fun kq v8 w' => ∃ (i : Nat) (x8 : Int), v8 = .int .i64 x8 ∧ Aside0 (x8 = i) ∧ Aside0 (i + kq = xs.length) ∧ Aside0 (idxF p (xs.drop i) i = idxF p xs 0) ∧ Aside0 (Below w.heap.size w w'))
 case atStart => exact ⟨0, 0, rfl, ⟨rfl⟩, ⟨by simp⟩, ⟨by rw [List.drop_zero]⟩, ⟨Below.refl _ _⟩⟩
 case round =>
  obtain ⟨i, x8, rfl, H8, HI, HA, HW⟩ := hrel
  cases gk with
  | zero =>
   have c1 : decide (x8 < (xs.length : Int)) = false := decide_eq_false (by have := HI.out; have := H8.out; omega)
   have HE := Aside0.mk (show idxF p xs 0 = -1 by rw [← HA.out, show i = xs.length by have := HI.out; omega, List.drop_length]; rfl)
   go_wp2
   go_ret
   rw [HE.out]
   exact ⟨rfl, HW.out⟩
  | succ k1 =>
   have hmax := HM.out
   have h8 := H8.out
   have hi : i < xs.length := by have := HI.out; omega
   have p1 : x8 < (xs.length : Int) := by omega
   have p0 : 0 ≤ x8 := by omega
   have c1 : decide (x8 < (xs.length : Int)) = true := decide_eq_true p1
   have c0 : decide (0 ≤ x8) = true := decide_eq_true p0
   obtain ⟨x, hx⟩ : ∃ x, xs[i]? = some x := ⟨_, List.getElem?_eq_getElem hi⟩
   obtain ⟨ad, rfl, hx0⟩ := Kd.at_int (Kd.C_below HS.out HW.out) x8 p0 p1
   have hrd : rd xs x8 = x := by unfold rd; rw [h8, Int.toNat_natCast, List.getD_eq_getElem?_getD, hx]; rfl
   rw [hrd] at hx0
   have HX := Aside0.mk (HP.out x (List.mem_of_getElem? hx) wr HW.out)
   have HD := Aside0.mk (idxF_drop p xs i x (xs.drop (i + 1)) (by obtain ⟨h1, h2⟩ := List.getElem?_eq_some_iff.1 hx; rw [← h2]; exact List.drop_eq_getElem_cons h1))
   have HWr := Aside0.mk (show wrap64 (x8 + 1) = x8 + 1 from by unfold wrap64; omega)
   clear hrd hi hmax hx h8
   go_wp2_with fail
   (with_reducible refine HX.out.mono ?_)
   rintro e w1 ⟨rfl, hb1⟩
   have HW1 := Aside0.mk (below_step HW.out hb1)
   clear hb1 HX HW
   cases hpx : p x with
   | true =>
    have HE := Aside0.mk (show idxF p xs 0 = x8 by rw [← HA.out, HD.out, if_pos hpx, H8.out])
    clear hpx
    go_wp2
    go_ret
    rw [HE.out]
    exact ⟨rfl, HW1.out⟩
   | false =>
    have HE := Aside0.mk (show idxF p (xs.drop (i + 1)) (i + 1) = idxF p xs 0 by rw [← HA.out, HD.out, if_neg (by rw [hpx]; simp)])
    clear hpx
    go_wp2
    go_roundg k1
    case measure => omega
    case rel => exact ⟨i + 1, x8 + 1, by rw [HWr.out], ⟨by have := H8.out; omega⟩, ⟨by have := HI.out; omega⟩, HE, HW1⟩

/-! ### impl_WalkLegs_1: function 58 (by hand) -/
def impl_WalkLegs_1.ltr (s : ByteArray) (i : Nat) : Int := ((bt s i) - 97) % 256
set_option maxHeartbeats 8000000 in
set_option maxRecDepth 100000 in
theorem impl_WalkLegs_1.calls (k : Int) (A : Option Addr) (c : Nat) (l : List S59) (s : ByteArray) (i g1 g2 g3 : Nat) (w : World) (h1 : w.cell? ⟨g1, 0, none⟩ = some (.slice A l.length c)) (h2 : w.cell? ⟨g2, 0, none⟩ = some (.string s)) (h3 : w.cell? ⟨g3, 0, none⟩ = some (.int .i64 i)) (hC : Kd.C k59 w A l.length l) (hk0 : 0 ≤ k) (hk1 : k < (l.length : Int)) (hi : i < s.size) :
  Calls Try.prog 58 #[.int .i64 k, .pointer (some ⟨g1, 0, none⟩), .pointer (some ⟨g2, 0, none⟩), .pointer (some ⟨g3, 0, none⟩)] w fun e w' => e = .returned (.bool (decide ((rd_T59 l k).f0 = impl_WalkLegs_1.ltr s i))) ∧ Below w.heap.size w w' := by
 obtain ⟨ad, A3, c3, rfl, hx0, _, _, _, _, _⟩ := at_T59 hC k hk0 hk1
 have HRES := Aside0.mk (show decide ((rd_T59 l k).f0 = impl_WalkLegs_1.ltr s i) = ((rd_T59 l k).f0 == ((((s[i]'hi).toNat : Int) - 97) % 256)) from by
  have e : ((s[i]'hi).toNat : Int) = bt s (i : Int) := bt_at s (i : Int) hi
  rw [Bool.eq_iff_iff, decide_eq_true_iff, beq_iff_eq, e]; rfl)
 have i0 := eq_true (show (0 : Int) ≤ (i : Int) by omega)
 have i1 := eq_true (show (i : Int) < (s.size : Int) by omega)
 have i2 := eq_true hi
 have i3 := eq_true hk0
 have i4 := eq_true hk1
 clear hC
 go_enter Try.func58, Try.ntmps58
 go_wp2_with fail
 go_quiet (fail)
 go_wp2
 go_ret
 rw [HRES.out]
 exact ⟨rfl, pw_below_drewN (Below.refl _ _) _⟩

/-! ### impl_WalkLegs: function 25 (by hand) -/
def impl_WalkLegs.go (t : List S59) (s : ByteArray) : Nat → Nat → Int → Option (Int × Bool)
 | 0, _, at_ => some (at_, true)
 | n + 1, i, at_ => if (0 ≤ at_ ∧ at_ < (t.length : Int)) ∧ ∀ k ∈ (rd_T59 t at_).f3, 0 ≤ k ∧ k < (t.length : Int) then (if idxF (fun k => decide ((rd_T59 t k).f0 = impl_WalkLegs_1.ltr s i)) (rd_T59 t at_).f3 0 < 0 then some (0, false) else impl_WalkLegs.go t s n (i + 1) (rd (rd_T59 t at_).f3 (idxF (fun k => decide ((rd_T59 t k).f0 = impl_WalkLegs_1.ltr s i)) (rd_T59 t at_).f3 0))) else none
def impl_WalkLegs.f (k : Nat) (l0 : List S59) (a1 : ByteArray) : Option (Int × Bool) := (impl_GoodLegs.f k l0).bind fun b => if b = true then (impl_areLetters.f k a1).bind fun c => if c = true then (if a1.size ≤ 1048576 then impl_WalkLegs.go l0 a1 a1.size 0 0 else none) else some (0, false) else some (0, false)
theorem impl_WalkLegs.mono : ∀ a0 a1 k, LeO (impl_WalkLegs.f k a0 a1) (impl_WalkLegs.f (k + 1) a0 a1) := by
 intro a0 a1 k
 unfold impl_WalkLegs.f
 exact LeO.bind (impl_GoodLegs.mono _ k) (fun b => LeO.ite (LeO.bind (impl_areLetters.mono _ k) (fun _ => LeO.refl _)) (LeO.refl _))
theorem impl_WalkLegs.idx_range {α : Type} (p : α → Bool) (l : List α) : idxF p l 0 = -1 ∨ (0 ≤ idxF p l 0 ∧ idxF p l 0 < (l.length : Int)) := by
 by_cases h : idxF p l 0 = -1
 ·exact .inl h
 ·obtain ⟨k, _, h1, h2, _, _, _⟩ := idxF_some p l 0 h
  refine .inr ?_
  rw [h2]
  omega
set_option maxHeartbeats 8000000 in
set_option maxRecDepth 100000 in
theorem impl_WalkLegs.calls (k : Nat) (A0 : Option Addr) (c0 : Nat) (l0 : List S59) (a1 : ByteArray) (r1 : Int) (r2 : Bool) (w : World) (hr0 : Kd.C k59 w A0 l0.length l0) (hc0 : l0.length ≤ c0) (h : impl_WalkLegs.f k l0 a1 = some (r1, r2)) :
  Calls Try.prog 25 #[.slice A0 l0.length c0, .string a1] w fun e w' => e = .returned (.tuple #[.int .i64 r1, .bool r2]) ∧ Below w.heap.size w w' := by
 have HR0 := Aside0.mk hr0
 have HC0 := Aside0.mk hc0
 have HMX := Aside0.mk (Kd.C_max hr0)
 have H := Aside0.mk h
 clear hr0 hc0 h
 go_enter Try.func25, Try.ntmps25
 go_upto_region 1 with (first | ((with_reducible refine gate_dst (N := 2) rfl ?_); refine box_event ?hg (N := 2) ?hd (cs := #[.slice A0 l0.length c0]) (t := 24) ?hr ?_; (case hd => rfl); (case hg => rfl); (case hr => first | (go_simp; done) | (go_simp; rfl)); intro g2 hg2 wA hboxA hbA; have G2 := Aside0.mk (show w.heap.size ≤ g2 from by rw [hg2]; exact Nat.le_refl _); have BA := Aside0.mk hbA; have K2A := Aside0.mk hboxA; clear hg2 hboxA hbA) | ((with_reducible refine gate_dst (N := 3) rfl ?_); refine box_event ?hg (N := 3) ?hd (cs := #[.string a1]) (t := 9) ?hr ?_; (case hd => rfl); (case hg => rfl); (case hr => first | (go_simp; done) | (go_simp; rfl)); intro g3 hg3 wB hboxB hbB; have BB := Aside0.mk (below_step BA.out hbB); have K2 := Aside0.mk (blk_below K2A.out hbB); have K3 := Aside0.mk hboxB; clear hg3 hboxB hbB))
 clear G2 K2A
 have HRB := Aside0.mk (Kd.C_below HR0.out BB.out)
 have hl2 := (blk_cell K2.out 0).trans rfl
 have hl3 := (blk_cell K3.out 0).trans rfl
 have h := H.out
 unfold impl_WalkLegs.f at h
 obtain ⟨b, hb, h⟩ := Option.bind_eq_some_iff.mp h
 have HBB := Aside0.mk hb
 cases b with
 | false =>
  rw [if_neg (by simp)] at h
  injection h with h
  injection h with h1 h2
  have H12 := Aside0.mk (And.intro h1 h2)
  clear h1 h2 hb
  go_wp2_with fail
  (with_reducible refine (impl_GoodLegs.calls k A0 c0 l0 false wB HRB.out HC0.out HBB.out).mono ?_)
  rintro e w1 ⟨rfl, hb1⟩
  have HB1 := Aside0.mk (below_step BB.out hb1)
  clear hb1 hl2 hl3
  go_wp2
  go_ret2
  obtain ⟨h1, h2⟩ := H12.out
  subst h1; subst h2
  exact ⟨rfl, HB1.out⟩
 | true =>
  rw [if_pos rfl] at h
  obtain ⟨c, hc, h⟩ := Option.bind_eq_some_iff.mp h
  have HCC := Aside0.mk hc
  have HH := Aside0.mk h
  clear h hc hb
  go_wp2_with fail
  (with_reducible refine (impl_GoodLegs.calls k A0 c0 l0 true wB HRB.out HC0.out HBB.out).mono ?_)
  rintro e w1 ⟨rfl, hb1⟩
  have HB1 := Aside0.mk (below_step BB.out hb1)
  have K21 := Aside0.mk (blk_below K2.out hb1)
  have K31 := Aside0.mk (blk_below K3.out hb1)
  clear hb1 hl2 hl3 K2 K3
  have hl2 := (blk_cell K21.out 0).trans rfl
  have hl3 := (blk_cell K31.out 0).trans rfl
  go_wp2_with fail
  (with_reducible refine (impl_areLetters.calls k a1 c _ HCC.out).mono ?_)
  rintro e w2 ⟨rfl, hd⟩
  have HB2 := Aside0.mk (below_step HB1.out hd.below)
  have K2 := Aside0.mk (blk_below K21.out hd.below)
  have K3 := Aside0.mk (blk_below K31.out hd.below)
  clear hd hl2 hl3 K21 K31
  cases c with
  | false =>
   have h := HH.out
   rw [if_neg (by simp)] at h
   injection h with h
   injection h with h1 h2
   have H12 := Aside0.mk (And.intro h1 h2)
   clear h1 h2
   go_wp2
   go_ret2
   obtain ⟨h1, h2⟩ := H12.out
   subst h1; subst h2
   exact ⟨rfl, HB2.out⟩
  | true =>
   have h := HH.out
   rw [if_pos rfl] at h
   by_cases hsz : a1.size ≤ 1048576
   rotate_left
   ·rw [if_neg hsz] at h; cases h
   rw [if_pos hsz] at h
   have HG := Aside0.mk h
   have HSZ := Aside0.mk hsz
   have hl3 := (blk_cell K3.out 0).trans rfl
   clear h hsz HH
   go_wp2_with fail
   clear hl3
   go_loopg [6, 19] a1.size (fun kq v6 v19 w' => ∃ (i : Nat) (x at_ : Int), v6 = .int .i64 at_ ∧ v19 = .int .i64 x ∧ Aside0 (x = i) ∧ Aside0 (i + kq = a1.size) ∧ Aside0 (impl_WalkLegs.go l0 a1 kq i at_ = some (r1, r2)) ∧ Aside0 (Below w2.heap.size w2 w'))
   case atStart => exact ⟨0, 0, 0, rfl, rfl, ⟨rfl⟩, ⟨by simp⟩, HG, ⟨Below.refl _ _⟩⟩
   case round =>
    obtain ⟨i, x, at_, rfl, rfl, HX, HI, HA, HBW⟩ := hrel
    cases gk with
    | zero =>
     have c1 : decide (x < (a1.size : Int)) = false := decide_eq_false (by have := HX.out; have := HI.out; omega)
     have h : some (at_, true) = some (r1, r2) := HA.out
     injection h with h
     injection h with h1 h2
     have H12 := Aside0.mk (And.intro h1 h2)
     clear h1 h2
     go_wp2
     go_ret2
     obtain ⟨h1, h2⟩ := H12.out
     subst h1; subst h2
     exact ⟨rfl, below_step HB2.out HBW.out⟩
    | succ k1 =>
     have p1 : x < (a1.size : Int) := by have := HX.out; have := HI.out; omega
     have p0 : 0 ≤ x := by have := HX.out; omega
     have c1 : decide (x < (a1.size : Int)) = true := decide_eq_true p1
     have h := HA.out
     unfold impl_WalkLegs.go at h
     by_cases hat : (0 ≤ at_ ∧ at_ < (l0.length : Int)) ∧ ∀ k ∈ (rd_T59 l0 at_).f3, 0 ≤ k ∧ k < (l0.length : Int)
     rotate_left
     ·rw [if_neg hat] at h; cases h
     rw [if_pos hat] at h
     obtain ⟨⟨a0, a1_⟩, hks⟩ := hat
     have HKS := Aside0.mk hks
     obtain ⟨y, hy⟩ : ∃ y, y = rd_T59 l0 at_ := ⟨_, rfl⟩
     rw [← hy] at h
     have HY := Aside0.mk hy
     obtain ⟨j, hj⟩ : ∃ j, j = idxF (fun k => decide ((rd_T59 l0 k).f0 = impl_WalkLegs_1.ltr a1 i)) y.f3 0 := ⟨_, rfl⟩
     rw [← hj] at h
     have HJ := Aside0.mk hj
     have HH := Aside0.mk h
     have HWX := Aside0.mk (show wrap64 (x + 1) = x + 1 from by unfold wrap64; have := HSZ.out; omega)
     have e0 := eq_true a0
     have e1 := eq_true a1_
     have da0 : decide (0 ≤ at_) = true := decide_eq_true a0
     have da1 : decide (at_ < (l0.length : Int)) = true := decide_eq_true a1_
     have K2w := Aside0.mk (blk_below K2.out HBW.out)
     have K3w := Aside0.mk (blk_below K3.out HBW.out)
     have HRw := Aside0.mk (Kd.C_below HR0.out (below_step HB2.out HBW.out))
     clear h hks hy hj
     go_upto_region 7 with (first | ((with_reducible refine gate_dst (N := 7) rfl ?_); refine box_event ?hg (N := 7) ?hd (cs := #[.int .i64 0]) (t := 3) ?hr ?_; (case hd => rfl); (case hg => rfl); (case hr => first | (go_simp; done) | (go_simp; rfl)); intro g7 hg7 w5 hbox hb5; have G7 := Aside0.mk (show wr.heap.size ≤ g7 from by rw [hg7]; exact Nat.le_refl _); have B5 := Aside0.mk (show Below wr.heap.size wr w5 from hb5); have BK5 := Aside0.mk hbox; have kb0 := (blk_cell BK5.out 0).trans rfl; have kf0 := blk_frozen BK5.out 0; clear hg7 hbox hb5))
     obtain ⟨wC, hwC⟩ : ∃ wC, wC = w5.setCell ⟨g7, 0, none⟩ (.int .i64 x) := ⟨_, rfl⟩
     have hBC : Below wr.heap.size wr wC := by rw [hwC]; exact below_set B5.out G7.out
     have hK7 : wC.heap[g7]? = some (.cells #[.int .i64 x] 3 (0, 0)) := by rw [hwC]; exact blk_put (cs := #[.int .i64 0]) BK5.out 0 _ rfl
     rw [← hwC]
     have hl7 := (blk_cell hK7 0).trans rfl
     have hl2 := (blk_cell (blk_below K2w.out hBC) 0).trans rfl
     have hl3 := (blk_cell (blk_below K3w.out hBC) 0).trans rfl
     have HRC := Aside0.mk (Kd.C_below HRw.out hBC)
     have HBC := Aside0.mk (below_step HBW.out hBC)
     clear hwC hBC hK7 kb0 kf0 BK5 B5 HBW K2w K3w HRw
     obtain ⟨ad, A3, c3, rfl, hx0, hx1, hx2, hx3, hc3, hCk⟩ := at_T59 HRC.out at_ a0 a1_
     rw [← HY.out] at hx0 hx1 hx2 hx3 hc3 hCk
     have HC3 := Aside0.mk hc3
     have HCK := Aside0.mk hCk
     clear hx0 hx1 hx2 hc3 hCk
     rw [HX.out] at hl7
     go_wp2_with fail
     (with_reducible refine (slices_IndexFunc_int_int.calls (fun k => decide ((rd_T59 l0 k).f0 = impl_WalkLegs_1.ltr a1 i)) 58 #[.pointer (some ⟨g2, 0, none⟩), .pointer (some ⟨g3, 0, none⟩), .pointer (some ⟨g7, 0, none⟩)] A3 c3 y.f3 wC ?s1 ?s2 ?s3).mono ?_)
     case s1 => exact HCK.out
     case s2 => exact fun args W => enters_ Try.func58 (by kernel_rfl) rfl args W
     case s3 =>
      intro k_ hk_ W_ hW_
      have hkk := HKS.out k_ (by rw [← HY.out]; exact hk_)
      refine calls_of_args ?_ (impl_WalkLegs_1.calls k_ (some ad) c0 l0 a1 i g2 g3 g7 W_ ((hW_.cell (World.block_lt_of_cell? wC _ hl2)).trans hl2) ((hW_.cell (World.block_lt_of_cell? wC _ hl3)).trans hl3) ((hW_.cell (World.block_lt_of_cell? wC _ hl7)).trans hl7) (Kd.C_below HRC.out hW_) hkk.1 hkk.2 (by have := HX.out; omega))
      rfl
     rintro e w8 ⟨he, hb8⟩
     rw [← HJ.out] at he
     subst he
     have HB8 := Aside0.mk (below_step HBC.out hb8)
     by_cases hj0 : j < 0
     ·have h := HH.out
      rw [if_pos hj0] at h
      injection h with h
      injection h with h1 h2
      have H12 := Aside0.mk (And.intro h1 h2)
      have dj : decide (j < 0) = true := decide_eq_true hj0
      clear h1 h2 hb8 hl2 hl3 hl7 hx3
      go_wp2
      go_ret2
      obtain ⟨h1, h2⟩ := H12.out
      subst h1; subst h2
      exact ⟨rfl, below_step HB2.out HB8.out⟩
     ·have dj : decide (j < 0) = false := decide_eq_false hj0
      have h := HH.out
      rw [if_neg hj0] at h
      have HH2 := Aside0.mk h
      have j0 : 0 ≤ j := by omega
      have j1 : j < (y.f3.length : Int) := by
       rcases impl_WalkLegs.idx_range (fun k => decide ((rd_T59 l0 k).f0 = impl_WalkLegs_1.ltr a1 i)) y.f3 with h1 | h1
       ·rw [← HJ.out] at h1; omega
       ·rw [← HJ.out] at h1; exact h1.2
      have ej0 := eq_true j0
      have ej1 := eq_true j1
      have dj0 : decide (0 ≤ j) = true := decide_eq_true j0
      have dj1 : decide (j < (y.f3.length : Int)) = true := decide_eq_true j1
      replace hl2 := (hb8.cell (World.block_lt_of_cell? wC _ hl2)).trans hl2
      replace hx3 := (hb8.cell (World.block_lt_of_cell? wC _ hx3)).trans hx3
      obtain ⟨adk, rfl, hck⟩ := Kd.at_int (Kd.C_below HCK.out hb8) j j0 j1
      clear h hj0 hb8 hl3 hl7
      go_wp2
      go_roundg k1
      case measure => omega
      case rel => exact ⟨i + 1, x + 1, rd y.f3 j, rfl, by rw [HWX.out], ⟨by have := HX.out; omega⟩, ⟨by have := HI.out; omega⟩, HH2, HB8⟩

/-! ### laws_FnExactWalkLegs: function 5 -/
def laws_FnExactWalkLegs.j0 : Nat → List (S73) → List (S59) → Bool → Option (Bool)
 | 0, _, _, _ => none
 | k + 1, x0, x8, x41 => if x41 = true then (some false) else ((laws_toLegS.f k x0).bind fun t232 => ((laws_eqLegS.f k x8 t232).bind fun t235 => (if t235 = true then (some true) else (some false))))
def laws_FnExactWalkLegs.f (k : Nat) (l0 : List (S73)) (a1 : ByteArray) : Option (Bool) := if (a1.size : Int) > 1048576 then (some true) else ((laws_szLegS.f k l0 1048576).bind fun t221 => (if t221 < 0 then (some true) else ((laws_toLegS.f k l0).bind fun t222 => ((spec_WalkLegs.f k t222 a1).bind fun bt225 => ((laws_toLegS.f k l0).bind fun t227 => ((impl_WalkLegs.f k t227 a1).bind fun bt230 => (if bt230.1 = bt225.1 then (laws_FnExactWalkLegs.j0 k l0 t227 (bt230.2 != bt225.2)) else (laws_FnExactWalkLegs.j0 k l0 t227 true))))))))
theorem laws_FnExactWalkLegs.mono_l : ∀ k, (∀ y0 y1 y2, LeO (laws_FnExactWalkLegs.j0 k y0 y1 y2) (laws_FnExactWalkLegs.j0 (k + 1) y0 y1 y2))
 | 0 => fun _ _ _ r h => by simp [laws_FnExactWalkLegs.j0] at h
 | k + 1 => by
  have ih0 := laws_FnExactWalkLegs.mono_l k
  ·intro y0 y1 y2
   unfold laws_FnExactWalkLegs.j0
   repeat' first
   | (with_reducible exact ih0 _ _ _)
   | (with_reducible exact impl_WalkLegs.mono _ _ _)
   | (with_reducible exact laws_eqLegS.mono _ _ _)
   | (with_reducible exact laws_szLegS.mono _ _ _)
   | (with_reducible exact laws_toLegS.mono _ _)
   | (with_reducible exact spec_WalkLegs.mono _ _ _)
   | (with_reducible exact LeO.refl _)
   | (with_reducible exact LeO.none _)
   | (with_reducible refine LeO.ite ?_ ?_)
   | (with_reducible refine LeO.bind ?_ (fun _ => ?_))
   | exact ih0 _ _ _
   | exact impl_WalkLegs.mono _ _ _
   | exact laws_eqLegS.mono _ _ _
   | exact laws_szLegS.mono _ _ _
   | exact laws_toLegS.mono _ _
   | exact spec_WalkLegs.mono _ _ _
   | exact LeO.none _
   | refine LeO.ite ?_ ?_
   | refine LeO.bind ?_ (fun _ => ?_)
theorem laws_FnExactWalkLegs.mono : ∀ a0 a1 k, LeO (laws_FnExactWalkLegs.f k a0 a1) (laws_FnExactWalkLegs.f (k + 1) a0 a1) := by
 intro a0 a1 k
 have ih0 := laws_FnExactWalkLegs.mono_l k
 unfold laws_FnExactWalkLegs.f
 repeat' first
   | (with_reducible exact ih0 _ _ _)
   | (with_reducible exact impl_WalkLegs.mono _ _ _)
   | (with_reducible exact laws_eqLegS.mono _ _ _)
   | (with_reducible exact laws_szLegS.mono _ _ _)
   | (with_reducible exact laws_toLegS.mono _ _)
   | (with_reducible exact spec_WalkLegs.mono _ _ _)
   | (with_reducible exact LeO.refl _)
   | (with_reducible exact LeO.none _)
   | (with_reducible refine LeO.ite ?_ ?_)
   | (with_reducible refine LeO.bind ?_ (fun _ => ?_))
   | exact ih0 _ _ _
   | exact impl_WalkLegs.mono _ _ _
   | exact laws_eqLegS.mono _ _ _
   | exact laws_szLegS.mono _ _ _
   | exact laws_toLegS.mono _ _
   | exact spec_WalkLegs.mono _ _ _
   | exact LeO.none _
   | refine LeO.ite ?_ ?_
   | refine LeO.bind ?_ (fun _ => ?_)
set_option maxHeartbeats 8000000 in
set_option maxRecDepth 100000 in
theorem laws_FnExactWalkLegs.calls (k : Nat) (A0 : Option Addr) (c0 : Nat) (l0 : List (S73)) (a1 : ByteArray) (r : Bool) (w : World) (hr0 : Kd.C k73 w A0 l0.length l0) (hc0 : l0.length ≤ c0) (h : laws_FnExactWalkLegs.f k l0 a1 = some r) :
  Calls Try.prog 5 #[.slice A0 l0.length c0, .string a1] w fun e w' => e = .returned (.bool r) ∧ Below w.heap.size w w' := by
 have HR0 := Aside0.mk hr0
 have HC0 := Aside0.mk hc0
 clear hr0 hc0
 have HB := Aside0.mk (Below.refl w.heap.size w)
 have H : (if (a1.size : Int) > 1048576 then (some true) else ((laws_szLegS.f k l0 1048576).bind fun t221 => (if t221 < 0 then (some true) else ((laws_toLegS.f k l0).bind fun t222 => ((spec_WalkLegs.f k t222 a1).bind fun bt225 => ((laws_toLegS.f k l0).bind fun t227 => ((impl_WalkLegs.f k t227 a1).bind fun bt230 => (if bt230.1 = bt225.1 then (laws_FnExactWalkLegs.j0 k l0 t227 (bt230.2 != bt225.2)) else (laws_FnExactWalkLegs.j0 k l0 t227 true))))))))) = some r := h
 clear h
 by_cases c3 : (a1.size : Int) > 1048576
 ·rw [if_pos c3] at H
  have c3b0 : decide (1048576 < (a1.size : Int)) = true := decide_eq_true c3
  have c3b1 : decide (1048576 < a1.size) = true := decide_eq_true (by omega)
  clear c3
  obtain rfl := Option.some.inj H
  go_enter Try.func5, Try.ntmps5
  go_wp2
  go_ret
  exact ⟨sq_w, sq_b⟩
 ·rw [if_neg c3] at H
  have c3b0 : decide (1048576 < (a1.size : Int)) = false := decide_eq_false c3
  have c3b1 : decide (1048576 < a1.size) = false := decide_eq_false (by omega)
  clear c3
  replace H := Option.bind_eq_some_iff.mp H
  obtain ⟨t221, A40, H⟩ := H
  replace H : (if t221 < 0 then (some true) else ((laws_toLegS.f k l0).bind fun t222 => ((spec_WalkLegs.f k t222 a1).bind fun bt225 => ((laws_toLegS.f k l0).bind fun t227 => ((impl_WalkLegs.f k t227 a1).bind fun bt230 => (if bt230.1 = bt225.1 then (laws_FnExactWalkLegs.j0 k l0 t227 (bt230.2 != bt225.2)) else (laws_FnExactWalkLegs.j0 k l0 t227 true))))))) = some r := H
  have A4 := Aside0.mk A40
  clear A40
  by_cases c5 : t221 < 0
  ·rw [if_pos c5] at H
   have c5b0 : decide (t221 < 0) = true := decide_eq_true c5
   clear c5
   obtain rfl := Option.some.inj H
   go_enter Try.func5, Try.ntmps5
   go_wp2_with (first | ((with_reducible refine gate_callee (f := 20) rfl ?_); refine goesL_ (some 16) rfl rfl Try.func20 (by kernel_rfl) rfl #[.slice A0 l0.length c0, .int .i64 1048576] rfl (by (try simp only [List.map_toArray, List.map_cons, List.map_nil]); first | done | rfl | (simp only [List.length_drop, List.length_take]; rfl)) ?_; (with_reducible refine (laws_szLegS.calls k _ _ l0 1048576 t221 _ ?side1 ?side2 A4.out).mono ?_); (case side1 => repeat (first | exact HR0.out | (with_reducible refine Kd.C_alloc ?_ _) | (with_reducible refine Kd.C_drewN ?_ _) | (with_reducible refine Kd.C_drew ?_))); (case side2 => exact HC0.out); rintro e w6 ⟨rfl, hb⟩; refine ⟨_, rfl, ?_⟩; have n0_ := Aside0.mk (below_step sq_b hb); clear HB; have HB := n0_; clear n0_; (try clear hb); (try clear hb2); (try clear hk); (try clear hi)))
   go_ret
   exact ⟨sq_w, sq_b⟩
  ·rw [if_neg c5] at H
   have c5b0 : decide (t221 < 0) = false := decide_eq_false c5
   clear c5
   replace H := Option.bind_eq_some_iff.mp H
   obtain ⟨t222, A70, H⟩ := H
   replace H : ((spec_WalkLegs.f k t222 a1).bind fun bt225 => ((laws_toLegS.f k l0).bind fun t227 => ((impl_WalkLegs.f k t227 a1).bind fun bt230 => (if bt230.1 = bt225.1 then (laws_FnExactWalkLegs.j0 k l0 t227 (bt230.2 != bt225.2)) else (laws_FnExactWalkLegs.j0 k l0 t227 true))))) = some r := H
   have A7 := Aside0.mk A70
   clear A70
   replace H := Option.bind_eq_some_iff.mp H
   obtain ⟨⟨t225, t226⟩, A80, H⟩ := H
   replace H : ((laws_toLegS.f k l0).bind fun t227 => ((impl_WalkLegs.f k t227 a1).bind fun bt230 => (if bt230.1 = t225 then (laws_FnExactWalkLegs.j0 k l0 t227 (bt230.2 != t226)) else (laws_FnExactWalkLegs.j0 k l0 t227 true)))) = some r := H
   have A8 := Aside0.mk A80
   clear A80
   replace H := Option.bind_eq_some_iff.mp H
   obtain ⟨t227, A90, H⟩ := H
   replace H : ((impl_WalkLegs.f k t227 a1).bind fun bt230 => (if bt230.1 = t225 then (laws_FnExactWalkLegs.j0 k l0 t227 (bt230.2 != t226)) else (laws_FnExactWalkLegs.j0 k l0 t227 true))) = some r := H
   have A9 := Aside0.mk A90
   clear A90
   replace H := Option.bind_eq_some_iff.mp H
   obtain ⟨⟨t230, t231⟩, A100, H⟩ := H
   replace H : (if t230 = t225 then (laws_FnExactWalkLegs.j0 k l0 t227 (t231 != t226)) else (laws_FnExactWalkLegs.j0 k l0 t227 true)) = some r := H
   have A10 := Aside0.mk A100
   clear A100
   have HC11 := Aside0.mk H
   clear H
   go_enter Try.func5, Try.ntmps5
   go_upto_region 10 with (first | ((with_reducible refine gate_callee (f := 20) rfl ?_); refine goesL_ (some 16) rfl rfl Try.func20 (by kernel_rfl) rfl #[.slice A0 l0.length c0, .int .i64 1048576] rfl (by (try simp only [List.map_toArray, List.map_cons, List.map_nil]); first | done | rfl | (simp only [List.length_drop, List.length_take]; rfl)) ?_; (with_reducible refine (laws_szLegS.calls k _ _ l0 1048576 t221 _ ?side1 ?side2 A4.out).mono ?_); (case side1 => repeat (first | exact HR0.out | (with_reducible refine Kd.C_alloc ?_ _) | (with_reducible refine Kd.C_drewN ?_ _) | (with_reducible refine Kd.C_drew ?_))); (case side2 => exact HC0.out); rintro e w12 ⟨rfl, hb⟩; refine ⟨_, rfl, ?_⟩; have n0_ := Aside0.mk (below_step sq_b hb); clear HB; have HB := n0_; clear n0_; (try clear hb); (try clear hb2); (try clear hk); (try clear hi)) | ((with_reducible refine gate_callee (f := 22) rfl ?_); refine goesL_ (some 21) rfl rfl Try.func22 (by kernel_rfl) rfl #[.slice A0 l0.length c0] rfl (by (try simp only [List.map_toArray, List.map_cons, List.map_nil]); first | done | rfl | (simp only [List.length_drop, List.length_take]; rfl)) ?_; (with_reducible refine (laws_toLegS.calls k _ _ l0 t222 _ ?side1 ?side2 A7.out).mono ?_); (case side1 => repeat (first | exact (Kd.C_below HR0.out HB.out) | (with_reducible refine Kd.C_alloc ?_ _) | (with_reducible refine Kd.C_drewN ?_ _) | (with_reducible refine Kd.C_drew ?_))); (case side2 => exact HC0.out); rintro e w13 ⟨v223, rfl, ho0, hb⟩; refine ⟨_, rfl, ?_⟩; have n0_ := Aside0.mk (Kd.S_lower ho0 (below_size sq_b)); have n1_ := Aside0.mk (below_step sq_b hb); clear HB; have HO224 := n0_; have HB := n1_; clear n0_ n1_; (try clear hb); (try clear hb2); (try clear hk); (try clear hi); (try clear ho0); obtain ⟨Ao14, co14, eo14⟩ := Kd.S_slice HO224.out; subst eo14) | ((with_reducible refine gate_callee (f := 24) rfl ?_); refine goesL_ (some 23) rfl rfl Try.func24 (by kernel_rfl) rfl #[.slice Ao14 t222.length co14, .string a1] rfl (by (try simp only [List.map_toArray, List.map_cons, List.map_nil]); first | done | rfl | (simp only [List.length_drop, List.length_take]; rfl)) ?_; (with_reducible refine (spec_WalkLegs.calls k _ _ t222 a1 t225 t226 _ ?side1 ?side2 A8.out).mono ?_); (case side1 => repeat (first | exact (Kd.S_reads' HO224.out).2.2 | (with_reducible refine Kd.C_alloc ?_ _) | (with_reducible refine Kd.C_drewN ?_ _) | (with_reducible refine Kd.C_drew ?_))); (case side2 => exact (Kd.S_reads' HO224.out).2.1); rintro e w15 ⟨rfl, hb⟩; refine ⟨_, rfl, ?_⟩; have n0_ := Aside0.mk (Kd.S_below (by (with_reducible repeat (first | apply Kd.S_alloc | apply Kd.S_drewN | apply Kd.S_drew)); exact HO224.out) hb); have n1_ := Aside0.mk (below_step sq_b hb); clear HO224; clear HB; have HO224 := n0_; have HB := n1_; clear n0_ n1_; (try clear hb); (try clear hb2); (try clear hk); (try clear hi)) | ((with_reducible refine gate_callee (f := 22) rfl ?_); refine goesL_ (some 27) rfl rfl Try.func22 (by kernel_rfl) rfl #[.slice A0 l0.length c0] rfl (by (try simp only [List.map_toArray, List.map_cons, List.map_nil]); first | done | rfl | (simp only [List.length_drop, List.length_take]; rfl)) ?_; (with_reducible refine (laws_toLegS.calls k _ _ l0 t227 _ ?side1 ?side2 A9.out).mono ?_); (case side1 => repeat (first | exact (Kd.C_below HR0.out HB.out) | (with_reducible refine Kd.C_alloc ?_ _) | (with_reducible refine Kd.C_drewN ?_ _) | (with_reducible refine Kd.C_drew ?_))); (case side2 => exact HC0.out); rintro e w16 ⟨v228, rfl, ho0, hb⟩; refine ⟨_, rfl, ?_⟩; have n0_ := Aside0.mk (Kd.S_elder' (by (with_reducible repeat (first | apply Kd.S_alloc | apply Kd.S_drewN | apply Kd.S_drew)); exact HO224.out) (Kd.S_base ho0) hb); have n1_ := Aside0.mk (Kd.S_lower (Kd.S_new' ho0 (Kd.S_lt (by (with_reducible repeat (first | apply Kd.S_alloc | apply Kd.S_drewN | apply Kd.S_drew)); exact HO224.out))) (below_size sq_b)); have n2_ := Aside0.mk (below_step sq_b hb); clear HO224; clear HB; have HO224 := n0_; have HO229 := n1_; have HB := n2_; clear n0_ n1_ n2_; (try clear hb); (try clear hb2); (try clear hk); (try clear hi); (try clear ho0); obtain ⟨Ao17, co17, eo17⟩ := Kd.S_slice HO229.out; subst eo17) | ((with_reducible refine gate_callee (f := 25) rfl ?_); refine goesL_ (some 31) rfl rfl Try.func25 (by kernel_rfl) rfl #[.slice Ao17 t227.length co17, .string a1] rfl (by (try simp only [List.map_toArray, List.map_cons, List.map_nil]); first | done | rfl | (simp only [List.length_drop, List.length_take]; rfl)) ?_; (with_reducible refine (impl_WalkLegs.calls k _ _ t227 a1 t230 t231 _ ?side1 ?side2 A10.out).mono ?_); (case side1 => repeat (first | exact (Kd.S_reads' HO229.out).2.2 | (with_reducible refine Kd.C_alloc ?_ _) | (with_reducible refine Kd.C_drewN ?_ _) | (with_reducible refine Kd.C_drew ?_))); (case side2 => exact (Kd.S_reads' HO229.out).2.1); rintro e w18 ⟨rfl, hb⟩; refine ⟨_, rfl, ?_⟩; have n0_ := Aside0.mk (Kd.S_below (by (with_reducible repeat (first | apply Kd.S_alloc | apply Kd.S_drewN | apply Kd.S_drew)); exact HO224.out) hb); have n1_ := Aside0.mk (Kd.S_below (by (with_reducible repeat (first | apply Kd.S_alloc | apply Kd.S_drewN | apply Kd.S_drew)); exact HO229.out) hb); have n2_ := Aside0.mk (below_step sq_b hb); clear HO224; clear HO229; clear HB; have HO224 := n0_; have HO229 := n1_; have HB := n2_; clear n0_ n1_ n2_; (try clear hb); (try clear hb2); (try clear hk); (try clear hi)))
   (try simp only [Act.put, List.setIfInBounds_toArray, List.set_cons_zero, List.set_cons_succ])
   go_cut [41] (fun v41 wc => ∃ (kq : Nat) (x41_10 : Bool), v41 = .bool x41_10 ∧ Aside0 (laws_FnExactWalkLegs.j0 kq l0 t227 x41_10 = some r) ∧ Aside0 (kq ≤ k) ∧ Aside0 (Kd.S k59 59 wc w.heap.size (fun _ => True) (.slice Ao17 t227.length co17) t227) ∧ Aside0 (Below w.heap.size w wc))
   case first =>
    have H := HC11.out
    clear HC11
    by_cases c19 : t230 = t225
    ·rw [if_pos c19] at H
     have c19b0 : (t230 == t225) = true := beq_iff_eq.mpr c19
     have c19b1 : (t230 != t225) = false := bne_eq_false_iff_eq.mpr c19
     clear c19
     (first | rw [c19b0] | (simp only [i64_w, i32_w]; rw [c19b0]) | skip)
     have H' := Aside0.mk H
     clear H
     go_wp2
     go_meet
     case rel => exact ⟨_, ((t231 != t226)), sq_e, H', ⟨by first | omega | exact Nat.le_refl _⟩, ⟨by (with_reducible repeat (first | apply Kd.S_alloc | apply Kd.S_drewN | apply Kd.S_drew)); exact Kd.S_mono HO229.out (fun _ hk => trivial)⟩, ⟨sq_b⟩⟩
    ·rw [if_neg c19] at H
     have c19b0 : (t230 == t225) = false := beq_eq_false_iff_ne.mpr c19
     have c19b1 : (t230 != t225) = true := bne_iff_ne.mpr c19
     (first | rw [c19b0] | (simp only [i64_w, i32_w]; rw [c19b0]) | skip)
     have H' := Aside0.mk H
     clear H
     go_wp2
     go_meet
     case rel => exact ⟨_, (true), sq_e, H', ⟨by first | omega | exact Nat.le_refl _⟩, ⟨by (with_reducible repeat (first | apply Kd.S_alloc | apply Kd.S_drewN | apply Kd.S_drew)); exact Kd.S_mono HO229.out (fun _ hk => trivial)⟩, ⟨sq_b⟩⟩
   case rest =>
    clear HC11
    (try clear c1); (try clear c2); (try clear p2); (try clear c3); (try clear c3b0); (try clear c3b1); (try clear c5); (try clear c5b0); (try clear c19); (try clear c19b0); (try clear c19b1)
    obtain ⟨kq, x41_10, rfl, HA, HJ10, HO_8, HB⟩ := hcut
    cases kq with
    | zero => exact absurd HA.out (by simp [laws_FnExactWalkLegs.j0])
    | succ kj10 =>
     have H := HA.out
     clear HA
     simp only [laws_FnExactWalkLegs.j0] at H
     by_cases c20 : x41_10 = true
     ·subst c20
      have H1 : (some false) = some r := by rw [if_pos rfl] at H; exact H
      clear H
      have H := H1
      clear H1
      obtain rfl := Option.some.inj H
      go_wp2
      go_ret
      exact ⟨sq_w, sq_b⟩
     ·replace c20 := Bool.eq_false_iff.mpr c20
      subst c20
      have H1 : ((laws_toLegS.f kj10 l0).bind fun t232 => ((laws_eqLegS.f kj10 t227 t232).bind fun t235 => (if t235 = true then (some true) else (some false)))) = some r := by rw [if_neg (show ¬ (false = true) by decide)] at H; exact H
      clear H
      have H := H1
      clear H1
      replace H := Option.bind_eq_some_iff.mp H
      obtain ⟨t232, A210, H⟩ := H
      replace H : ((laws_eqLegS.f kj10 t227 t232).bind fun t235 => (if t235 = true then (some true) else (some false))) = some r := H
      have A21 := Aside0.mk A210
      clear A210
      replace H := Option.bind_eq_some_iff.mp H
      obtain ⟨t235, A220, H⟩ := H
      replace H : (if t235 = true then (some true) else (some false)) = some r := H
      have A22 := Aside0.mk A220
      clear A220
      by_cases c23 : t235 = true
      ·subst c23
       have H1 : (some true) = some r := by rw [if_pos rfl] at H; exact H
       clear H
       have H := H1
       clear H1
       obtain rfl := Option.some.inj H
       go_wp2_with (first | ((with_reducible refine gate_callee (f := 22) rfl ?_); refine goesL_ (some 44) rfl rfl Try.func22 (by kernel_rfl) rfl #[.slice A0 l0.length c0] rfl (by (try simp only [List.map_toArray, List.map_cons, List.map_nil]); first | done | rfl | (simp only [List.length_drop, List.length_take]; rfl)) ?_; (with_reducible refine (laws_toLegS.calls kj10 _ _ l0 t232 _ ?side1 ?side2 A21.out).mono ?_); (case side1 => repeat (first | exact (Kd.C_below HR0.out HB.out) | (with_reducible refine Kd.C_alloc ?_ _) | (with_reducible refine Kd.C_drewN ?_ _) | (with_reducible refine Kd.C_drew ?_))); (case side2 => exact HC0.out); rintro e w24 ⟨v233, rfl, ho0, hb⟩; refine ⟨_, rfl, ?_⟩; have n0_ := Aside0.mk (Kd.S_elder' (by (with_reducible repeat (first | apply Kd.S_alloc | apply Kd.S_drewN | apply Kd.S_drew)); exact HO_8.out) (Kd.S_base ho0) hb); have n1_ := Aside0.mk (Kd.S_lower (Kd.S_new' ho0 (Kd.S_lt (by (with_reducible repeat (first | apply Kd.S_alloc | apply Kd.S_drewN | apply Kd.S_drew)); exact HO_8.out))) (below_size sq_b)); have n2_ := Aside0.mk (below_step sq_b hb); clear HO_8; clear HB; have HO_8 := n0_; have HO234 := n1_; have HB := n2_; clear n0_ n1_ n2_; (try clear hb); (try clear hb2); (try clear hk); (try clear hi); (try clear ho0); obtain ⟨Ao25, co25, eo25⟩ := Kd.S_slice HO234.out; subst eo25) | ((with_reducible refine gate_callee (f := 15) rfl ?_); refine goesL_ (some 45) rfl rfl Try.func15 (by kernel_rfl) rfl #[.slice Ao17 t227.length co17, .slice Ao25 t232.length co25] rfl (by (try simp only [List.map_toArray, List.map_cons, List.map_nil]); first | done | rfl | (simp only [List.length_drop, List.length_take]; rfl)) ?_; (with_reducible refine (laws_eqLegS.calls kj10 _ _ t227 _ _ t232 true _ ?side1 ?side2 ?side3 ?side4 A22.out).mono ?_); (case side1 => repeat (first | exact (Kd.S_reads' HO_8.out).2.2 | (with_reducible refine Kd.C_alloc ?_ _) | (with_reducible refine Kd.C_drewN ?_ _) | (with_reducible refine Kd.C_drew ?_))); (case side2 => exact (Kd.S_reads' HO_8.out).2.1); (case side3 => repeat (first | exact (Kd.S_reads' HO234.out).2.2 | (with_reducible refine Kd.C_alloc ?_ _) | (with_reducible refine Kd.C_drewN ?_ _) | (with_reducible refine Kd.C_drew ?_))); (case side4 => exact (Kd.S_reads' HO234.out).2.1); rintro e w26 ⟨rfl, hb⟩; refine ⟨_, rfl, ?_⟩; have n0_ := Aside0.mk (Kd.S_below (by (with_reducible repeat (first | apply Kd.S_alloc | apply Kd.S_drewN | apply Kd.S_drew)); exact HO_8.out) hb); have n1_ := Aside0.mk (Kd.S_below (by (with_reducible repeat (first | apply Kd.S_alloc | apply Kd.S_drewN | apply Kd.S_drew)); exact HO234.out) hb); have n2_ := Aside0.mk (below_step sq_b hb); clear HO_8; clear HO234; clear HB; have HO_8 := n0_; have HO234 := n1_; have HB := n2_; clear n0_ n1_ n2_; (try clear hb); (try clear hb2); (try clear hk); (try clear hi)))
       go_ret
       exact ⟨sq_w, sq_b⟩
      ·replace c23 := Bool.eq_false_iff.mpr c23
       subst c23
       have H1 : (some false) = some r := by rw [if_neg (show ¬ (false = true) by decide)] at H; exact H
       clear H
       have H := H1
       clear H1
       obtain rfl := Option.some.inj H
       go_wp2_with (first | ((with_reducible refine gate_callee (f := 22) rfl ?_); refine goesL_ (some 44) rfl rfl Try.func22 (by kernel_rfl) rfl #[.slice A0 l0.length c0] rfl (by (try simp only [List.map_toArray, List.map_cons, List.map_nil]); first | done | rfl | (simp only [List.length_drop, List.length_take]; rfl)) ?_; (with_reducible refine (laws_toLegS.calls kj10 _ _ l0 t232 _ ?side1 ?side2 A21.out).mono ?_); (case side1 => repeat (first | exact (Kd.C_below HR0.out HB.out) | (with_reducible refine Kd.C_alloc ?_ _) | (with_reducible refine Kd.C_drewN ?_ _) | (with_reducible refine Kd.C_drew ?_))); (case side2 => exact HC0.out); rintro e w27 ⟨v233, rfl, ho0, hb⟩; refine ⟨_, rfl, ?_⟩; have n0_ := Aside0.mk (Kd.S_elder' (by (with_reducible repeat (first | apply Kd.S_alloc | apply Kd.S_drewN | apply Kd.S_drew)); exact HO_8.out) (Kd.S_base ho0) hb); have n1_ := Aside0.mk (Kd.S_lower (Kd.S_new' ho0 (Kd.S_lt (by (with_reducible repeat (first | apply Kd.S_alloc | apply Kd.S_drewN | apply Kd.S_drew)); exact HO_8.out))) (below_size sq_b)); have n2_ := Aside0.mk (below_step sq_b hb); clear HO_8; clear HB; have HO_8 := n0_; have HO234 := n1_; have HB := n2_; clear n0_ n1_ n2_; (try clear hb); (try clear hb2); (try clear hk); (try clear hi); (try clear ho0); obtain ⟨Ao28, co28, eo28⟩ := Kd.S_slice HO234.out; subst eo28) | ((with_reducible refine gate_callee (f := 15) rfl ?_); refine goesL_ (some 45) rfl rfl Try.func15 (by kernel_rfl) rfl #[.slice Ao17 t227.length co17, .slice Ao28 t232.length co28] rfl (by (try simp only [List.map_toArray, List.map_cons, List.map_nil]); first | done | rfl | (simp only [List.length_drop, List.length_take]; rfl)) ?_; (with_reducible refine (laws_eqLegS.calls kj10 _ _ t227 _ _ t232 false _ ?side1 ?side2 ?side3 ?side4 A22.out).mono ?_); (case side1 => repeat (first | exact (Kd.S_reads' HO_8.out).2.2 | (with_reducible refine Kd.C_alloc ?_ _) | (with_reducible refine Kd.C_drewN ?_ _) | (with_reducible refine Kd.C_drew ?_))); (case side2 => exact (Kd.S_reads' HO_8.out).2.1); (case side3 => repeat (first | exact (Kd.S_reads' HO234.out).2.2 | (with_reducible refine Kd.C_alloc ?_ _) | (with_reducible refine Kd.C_drewN ?_ _) | (with_reducible refine Kd.C_drew ?_))); (case side4 => exact (Kd.S_reads' HO234.out).2.1); rintro e w29 ⟨rfl, hb⟩; refine ⟨_, rfl, ?_⟩; have n0_ := Aside0.mk (Kd.S_below (by (with_reducible repeat (first | apply Kd.S_alloc | apply Kd.S_drewN | apply Kd.S_drew)); exact HO_8.out) hb); have n1_ := Aside0.mk (Kd.S_below (by (with_reducible repeat (first | apply Kd.S_alloc | apply Kd.S_drewN | apply Kd.S_drew)); exact HO234.out) hb); have n2_ := Aside0.mk (below_step sq_b hb); clear HO_8; clear HO234; clear HB; have HO_8 := n0_; have HO234 := n1_; have HB := n2_; clear n0_ n1_ n2_; (try clear hb); (try clear hb2); (try clear hk); (try clear hi)))
       go_ret
       exact ⟨sq_w, sq_b⟩

end Go.Proofs.Ytkoackkimdanjaa.QFnExactWalkLegs
