-- Written by this session's own program (wip/pp_patch.py, wip/pp.sh) out of the given translation. Not trusted: Lean checks it.
import Derived.Test.YtkoackkimdanjaaQFnLegsx0
import Derived.Test.YtkoackkimdanjaaQFnLegsx6
import Derived.Test.YtkoackkimdanjaaQFnLegsx7
import Derived.Test.YtkoackkimdanjaaQFnLegsx10
namespace Go.Proofs.Ytkoackkimdanjaa.QFnLegs
open Go.RowKit Go.Proofs.YtkoackkimdanjaaW.PrintWords Go.Proofs.YtkoackkimdanjaaW.PrintLast Go.Proofs.YtkoackkimdanjaaW.PrintMore
attribute [local go_sem] max2_int min2_int max_two min_two max_three min_three max_four min_four   -- for this text's walks alone
open Go.Proofs.Ytkoackkimdanjaa.Ext
attribute [local go_sem high] ext_gtr ext_leq
set_option linter.unusedVariables false
set_option linter.unusedSimpArgs false

/-! ### slices_Reverse_impl_Entry: function 126 -/
def slices_Reverse_impl_Entry.l0 : Nat → List (S48) → Int → Int → Option ((List (S48)))
 | 0, _, _, _ => none
 | k + 1, x0, x2, x3 => if x2 < x3 then (if 0 ≤ x3 then (if x3 < (x0.length : Int) then (if 0 ≤ x2 then (if x2 < (x0.length : Int) then (slices_Reverse_impl_Entry.l0 k ((x0.set (x2 : Int).toNat (⟨(rd_T48 x0 x3).f0, (rd_T48 x0 x3).f1⟩ : S48)).set (x3 : Int).toNat (⟨(rd_T48 x0 x2).f0, (rd_T48 x0 x2).f1⟩ : S48)) (wrap64 (x2 + 1)) (wrap64 (x3 - 1))) else (none)) else (none)) else (none)) else (none)) else (some x0)
def slices_Reverse_impl_Entry.f (k : Nat) (l0 : List (S48)) : Option ((List (S48))) := slices_Reverse_impl_Entry.l0 k l0 0 (wrap64 ((l0.length : Int) - 1))
theorem slices_Reverse_impl_Entry.mono_l : ∀ k, (∀ y0 y1 y2, LeO (slices_Reverse_impl_Entry.l0 k y0 y1 y2) (slices_Reverse_impl_Entry.l0 (k + 1) y0 y1 y2))
 | 0 => fun _ _ _ r h => by simp [slices_Reverse_impl_Entry.l0] at h
 | k + 1 => by
  have ih0 := slices_Reverse_impl_Entry.mono_l k
  ·intro y0 y1 y2
   unfold slices_Reverse_impl_Entry.l0
   repeat' first
   | (with_reducible exact ih0 _ _ _)
   | (with_reducible exact LeO.refl _)
   | (with_reducible exact LeO.none _)
   | (with_reducible refine LeO.ite ?_ ?_)
   | (with_reducible refine LeO.bind ?_ (fun _ => ?_))
   | exact ih0 _ _ _
   | exact LeO.none _
   | refine LeO.ite ?_ ?_
   | refine LeO.bind ?_ (fun _ => ?_)
theorem slices_Reverse_impl_Entry.mono : ∀ a0 k, LeO (slices_Reverse_impl_Entry.f k a0) (slices_Reverse_impl_Entry.f (k + 1) a0) := by
 intro a0 k
 have ih0 := slices_Reverse_impl_Entry.mono_l k
 unfold slices_Reverse_impl_Entry.f
 repeat' first
   | (with_reducible exact ih0 _ _ _)
   | (with_reducible exact LeO.refl _)
   | (with_reducible exact LeO.none _)
   | (with_reducible refine LeO.ite ?_ ?_)
   | (with_reducible refine LeO.bind ?_ (fun _ => ?_))
   | exact ih0 _ _ _
   | exact LeO.none _
   | refine LeO.ite ?_ ?_
   | refine LeO.bind ?_ (fun _ => ?_)
-- NOT PRINTED: function 113 (slices_rotateLeft_impl_Entry)

-- NOT PRINTED: function 99 (slices_rotateRight_impl_Entry)

/-! ### slices_Insert_impl_Entry: function 62 (by hand) -/
def slices_Insert_impl_Entry.f (l0 : List S48) (a1 : Int) (l2 : List S48) : Option (List S48) := if 0 ≤ a1 ∧ a1 ≤ l0.length ∧ l0.length < 1000000 then (match l2 with | [x] => some (l0.take a1.toNat ++ [x] ++ l0.drop a1.toNat) | _ => none) else none
set_option maxHeartbeats 8000000 in
set_option maxRecDepth 100000 in
theorem slices_Insert_impl_Entry.calls (P0_ : Nat → Prop) (u9000_ : Value) (l0 : List S48) (a1 : Int) (A2 : Option Addr) (c2 : Nat) (l2 : List S48) (r : List S48) (w0 w : World) (hB : Below w0.heap.size w0 w) (ho0 : Kd.R k48 48 w w0.heap.size P0_ u9000_ l0) (hr2 : ∀ W_, Kept w W_ (fun k_ => P0_ k_) → Kd.C k48 W_ A2 l2.length l2) (hc2 : l2.length ≤ c2) (h : slices_Insert_impl_Entry.f l0 a1 l2 = some r) :
  Calls Try.prog 62 #[u9000_, .int .i64 a1, .slice A2 l2.length c2] w fun e w' => ∃ v0_ : Value, e = .returned (v0_) ∧ Kd.R k48 48 w' w0.heap.size (fun k_ => (P0_ k_ ∨ w.heap.size ≤ k_)) v0_ r ∧ Below w0.heap.size w0 w' ∧ Kept w w' (fun k_ => P0_ k_) := by
 obtain ⟨enc, henc⟩ : ∃ enc : S48 → List Value, enc = (fun x => [.string x.f0, .int .i64 x.f1]) := ⟨_, rfl⟩
 have hM : ∀ w base ok x cs, Kd.M k48 w base ok x cs ↔ cs = enc x := by subst henc; exact (fun w base ok x cs => ⟨fun h => k48_openM h, fun h => by rw [h]; exact k48_mkM w base ok x⟩)
 have hKo : ∀ w x cs, Kd.K k48 w x cs → cs = enc x := by subst henc; exact (fun w x cs h => k48_open h)
 have hke : ∀ x, (enc x).length = 2 := by subst henc; exact fun _ => rfl
 have hone : ∀ x, ∀ v ∈ enc x, v.oneCell' = true := by intro x; exact k48.K_one (k48.K_of_M ((hM w 0 (fun _ => True) x (enc x)).2 rfl))
 have honeL : ∀ l : List S48, ∀ v ∈ l.flatMap enc, v.oneCell' = true := fun l v hv => by
  obtain ⟨x, _, hx⟩ := List.mem_flatMap.1 hv
  exact hone x v hx
 unfold slices_Insert_impl_Entry.f at h
 by_cases hc : 0 ≤ a1 ∧ a1 ≤ l0.length ∧ l0.length < 1000000
 rotate_left
 ·rw [if_neg hc] at h
  exact absurd h (by simp)
 rw [if_pos hc] at h
 obtain ⟨x, rfl, rfl⟩ : ∃ x, l2 = [x] ∧ r = l0.take a1.toNat ++ [x] ++ l0.drop a1.toNat := by
  match l2, h with
  | [x], h => exact ⟨x, rfl, (Option.some.inj h).symm⟩
  | [], h => exact absurd h (by simp)
  | _ :: _ :: _, h => exact absurd h (by simp)
 obtain ⟨hi1, hi2, hi3⟩ := hc
 obtain ⟨i, rfl⟩ : ∃ i : Nat, a1 = (i : Int) := ⟨a1.toNat, by omega⟩
 rw [Int.toNat_natCast]
 clear h
 -- the new element's cells
 have hC := hr2 w (Kept.refl _ _)
 obtain ⟨ad, rfl, hca⟩ := hC.2.2 (by simp)
 have hadP : ¬ P0_ ad.block := Kd.foot_neS hr2 (by simp) (by decide)
 have hadlt : ad.block < w.heap.size := Kd.foot_ltS hr2 (by simp) (by decide)
 obtain ⟨cx, _, hKx, hcell⟩ := hca 0 x (by simp)
 obtain rfl := hKo _ _ _ hKx
 have hbk : ∀ j, (ad.add j).block = ad.block := fun j => by unfold Addr.add; split <;> rfl
 have hsrc : ∀ W : World, (∀ q, q < w.heap.size → ¬ P0_ q → W.heap[q]? = w.heap[q]?) → ∀ j v, (enc x)[j]? = some v → W.cell? (ad.add j) = some v := fun W hW j v hv => by
  have h1 := hcell j v hv
  rw [Nat.zero_mul, Nat.zero_add] at h1
  have h2 := hW ad.block hadlt hadP
  unfold World.cell? at h1 ⊢
  rw [hbk] at h1 ⊢
  rw [h2]; exact h1
 have mixed : Try.prog.follows Departure.mixedOrders = true := by kernel_rfl
 have HX := mk_ hsrc
 have HCC := mk_ hC
 have HB := mk_ hB
 have HO := mk_ ho0
 have HC2 := mk_ hc2
 clear hsrc hcell hca hC hr2 hB hKx hbk
 have hlen : (([x] : List S48).length : Int) = 1 := rfl
 have hsum : wrap64 ((l0.length : Int) + 1) = (l0.length : Int) + 1 := by unfold wrap64; omega
 have hsumi : wrap64 ((i : Int) + 1) = (i : Int) + 1 := by unfold wrap64; omega
 by_cases hin : i = l0.length
 ·-- at the end
  subst hin
  rw [List.take_length, List.drop_length, List.append_nil]
  rcases R_block hM (by intro x; rw [hke]; rfl) (by decide) HO.out with ⟨rfl, rfl⟩ | ⟨g, c, cur, rfl, hbg, hok, hh, hcap, hcm, hcs, htk⟩
  ·rw [List.nil_append]
   go_enter Try.func62, Try.ntmps62
   go_wp2_with (first | ((with_reducible refine gate_builtin (b := .append) (xs := #[.tmp 23, .tmp 24]) rfl ?_); at_builtin; refine Kd.R_append_rows k48 (Rr := Kd.K k48 w) (w0 := w0) w0.heap.size rfl (.tmp 23) (.tmp 24) 27 48 (.agg #[(.string ⟨#[]⟩), (.int .i64 0)]) 24 rfl Try.underlying27 info48 rfl (by decide) (by omega) (.slice none 0 0) [] [x] (some ad) 1 c2 (fun k => P0_ k ∨ w.heap.size ≤ k) (fun _ => False) rfl rfl ?aO ?aR ?aK (fun _ h => h.elim) ?aF HB.out HB.out.size ?aL ?_; (case aO => exact Kd.R_mono HO.out (fun _ h => .inl h)); (case aR => exact HCC.out); (case aK => exact fun y cs h => (hM _ _ _ _ _).2 (hKo _ _ _ h)); (case aF => exact fun k hk => .inr hk); (case aL => decide); intro v1 w1 ho hb hg hat; have HN := mk_ ho; have HNB := mk_ hb; have HNG := mk_ hg; clear ho hb hg hat))
   go_ret
   exact ⟨_, rfl, HN.out, HNB.out, Kept.of_grown HNG.out (Kept.refl _ _) (fun k hk => .inl (HO.out.1 k hk))⟩
  ·have hcm2 : c ≤ 9223372036854775807 := by simpa [maxLen] using hcm
   go_enter Try.func62, Try.ntmps62
   go_wp2_with (first | ((with_reducible refine gate_builtin (b := .append) (xs := #[.tmp 23, .tmp 24]) rfl ?_); at_builtin; refine Kd.R_append_rows k48 (Rr := Kd.K k48 w) (w0 := w0) w0.heap.size rfl (.tmp 23) (.tmp 24) 27 48 (.agg #[(.string ⟨#[]⟩), (.int .i64 0)]) 24 rfl Try.underlying27 info48 rfl (by decide) (by omega) (.slice (some ⟨g, 0, none⟩) l0.length c) l0 [x] (some ad) 1 c2 (fun k => P0_ k ∨ w.heap.size ≤ k) (fun _ => False) rfl rfl ?aO ?aR ?aK (fun _ h => h.elim) ?aF HB.out HB.out.size ?aL ?_; (case aO => exact Kd.R_mono HO.out (fun _ h => .inl h)); (case aR => exact HCC.out); (case aK => exact fun y cs h => (hM _ _ _ _ _).2 (hKo _ _ _ h)); (case aF => exact fun k hk => .inr hk); (case aL => omega); intro v1 w1 ho hb hg hat; have HN := mk_ ho; have HNB := mk_ hb; have HNG := mk_ hg; clear ho hb hg hat))
   all_goals
    go_ret
    exact ⟨_, rfl, HN.out, HNB.out, Kept.of_grown HNG.out (Kept.refl _ _) (fun k hk => .inl (HO.out.1 k hk))⟩
 ·obtain ⟨g, c, cur, rfl, hbg, hok, hh, hcap, hcm, hcs, htk⟩ := (R_block hM (by intro x; rw [hke]; rfl) (by decide) HO.out).resolve_left (fun h => by rw [h.2] at hin hi2; simp at hin hi2; omega)
  have hil : i < l0.length := by omega
  have hci : ¬ (c = i) := by omega
  have hii : (i : Int) ≤ (l0.length : Int) + 1 := by omega
  have hne : ad.block ≠ g := fun e => hadP (by rw [e]; exact hok)
  have hcm2 : c ≤ 9223372036854775807 := by simpa [maxLen] using hcm
  obtain ⟨A, hA⟩ : ∃ A, A = (l0.take i).flatMap enc := ⟨_, rfl⟩
  obtain ⟨B, hBv⟩ : ∃ B, B = (l0.drop i).flatMap enc := ⟨_, rfl⟩
  obtain ⟨T, hT⟩ : ∃ T, T = cur.toList.drop (l0.length * 2) := ⟨_, rfl⟩
  have hAl : A.length = i * 2 := by rw [hA, flatMap_len hke, List.length_take, Nat.min_eq_left (by omega)]
  have hBl : B.length = (l0.length - i) * 2 := by rw [hBv, flatMap_len hke, List.length_drop]
  have hAB : cur.toList = A ++ B ++ T := by
   rw [hA, hBv, ← List.flatMap_append, List.take_append_drop, ← htk, hT]
   exact (List.take_append_drop _ _).symm
  have hTl : T.length = c * 2 - l0.length * 2 := by rw [hT, List.length_drop, Array.length_toList, hcs]; rfl
  have hB1 : ∀ v ∈ B, v.oneCell' = true := by rw [hBv]; exact honeL _
  have hcurB : ∀ j v, B[j]? = some v → cur[i * 2 + j]? = some v := fun j v hv => by
   rw [← Array.getElem?_toList, hAB, List.append_assoc, List.getElem?_append_right (by omega), hAl, Nat.add_sub_cancel_left, List.getElem?_append_left (List.getElem?_eq_some_iff.1 hv).1]
   exact hv
  have hsz : (Try.prog.info? 48).map (·.size) = some 2 := by
   obtain ⟨i0, h1, hz⟩ := Option.map_eq_some_iff.1 info48
   rw [h1]
   injection hz with _ hz
   injection hz with hz _
   simp [hz]
  have hEx : (enc x).length = 2 := hke x
  have hfin : (l0.take i ++ [x] ++ l0.drop i).flatMap enc = A ++ enc x ++ B := by rw [List.flatMap_append, List.flatMap_append, ← hA, ← hBv]; simp
  have hrl : (l0.take i ++ [x] ++ l0.drop i).length = l0.length + 1 := by simp only [List.length_append, List.length_take, List.length_drop, List.length_singleton]; omega
  have HBl := mk_ hBl
  have HAl := mk_ hAl
  have HTl := mk_ hTl
  have HAB := mk_ hAB
  have HB1 := mk_ hB1
  have HCB := mk_ hcurB
  have HSZ := mk_ hsz
  have HEX := mk_ hEx
  have HFIN := mk_ hfin
  have HRL := mk_ hrl
  have HH := mk_ hh
  have HCS := mk_ (show cur.size = c * 2 from hcs)
  have HMC := mk_ hcm
  have HBG := mk_ hbg
  have HOK := mk_ hok
  have HM := mk_ hM
  have HKE := mk_ hke
  have HON := mk_ hone
  have HLEN : (l0.take i ++ x :: l0.drop i) = (l0.take i ++ [x] ++ l0.drop i) := by simp
  have HLE := mk_ HLEN
  have HNE := mk_ hne
  clear hBl hAl hTl hAB hB1 hcurB hsz hEx hfin hrl hh hcs hcm hbg hok hM hKo hke hone honeL HLEN htk hA hBv hT henc hlen
  by_cases hroom : l0.length + 1 ≤ c
  ·have hr1 : (l0.length : Int) + 1 ≤ (c : Int) := by omega
   have hci1 : ¬ (c = i + 1) := by omega
   have HTK := mk_ (show 2 ≤ T.length by have := HTl.out; omega)
   have hov : (callFunc 98 #[.slice (some ad) 1 c2, .slice (some ⟨g, (i + 1) * 2, none⟩) (l0.length - i) (c - (i + 1))]).run Try.prog w = .ok (.value (.bool false)) w := by
    rw [run_callFunc_extern Try.func98 (by kernel_rfl) (by kernel_rfl) (by kernel_rfl) (e := Extern.SlicesOverlaps.overlaps #[27, 27] #[4]) (by kernel_rfl)]
    obtain ⟨v0, hv0⟩ : ∃ v, w.cell? ad = some v := by
     have h1 := HX.out w (fun _ _ _ => rfl) 0 ((enc x)[0]'(by rw [HEX.out]; decide)) (List.getElem?_eq_getElem _)
     rw [Addr.add_zero'] at h1
     exact ⟨_, h1⟩
    rw [run_overlaps_own w 27 4 48 Try.underlying27 2 (fun W => by obtain ⟨i0, h1, hz⟩ := Option.map_eq_some_iff.1 info48; injection hz with _ hz; injection hz with hz _; simp [Go.sizeOf, typeInfo, h1, hz]) ad ⟨g, (i + 1) * 2, none⟩ 1 c2 (l0.length - i) (c - (i + 1)) HNE.out hv0 HH.out (by rw [HCS.out]; show 0 < c * 2; omega)]
    rfl
   go_enter Try.func62, Try.ntmps62
   go_wp2_with (simp only [hov])
   have hqw : IntKind.i64.wrap ((i : Int) + 1) = (i : Int) + 1 := by rw [IntKind.wrap_i64]; omega
   have hqb : (0 : Int) ≤ (i : Int) + 1 := by omega
   have hqn : ((i : Int) + 1).toNat = i + 1 := by omega
   have hqi : (i : Int) + 1 ≤ (l0.length : Int) + 1 := by omega
   go_region_law (refine copy_block_step rfl (.tmp 73) (.tmp 76) 27 27 48 rfl 2 (l0.length - i) g ((i + 1) * 2) (l0.length - i) (c - (i + 1)) ⟨g, i * 2, none⟩ (l0.length + 1 - i) (c - i) (by simp [Act.eval, Act.put]) (by simp [Act.eval, Act.put]) cur 48 B Try.underlying27 HSZ.out HH.out (by simp only [Nat.min_def]; split <;> omega) HBl.out (fun j v hv => by rw [add_at]; exact (blk_cell (w := w.drew) HH.out _).trans (HCB.out j v hv)) (by rw [HCS.out, HBl.out]; show (i + 1) * 2 + (l0.length - i) * 2 ≤ c * 2; omega) HB1.out ?_; intro w1 hw1 hg1)
   have HW1 := mk_ hw1
   have HG1 := mk_ (show w.grownBy w1 (some g) from ⟨hg1.os, hg1.tape, hg1.output, hg1.size, hg1.block⟩)
   clear hw1 hg1 hov hqw hqb hqn
   go_wp2_with ((with_reducible refine gate_builtin (b := .copy) (xs := #[.tmp 80, .tmp 81]) rfl ?_); refine copy_block rfl (.tmp 80) (.tmp 81) 27 27 48 rfl 2 1 g (i * 2) (l0.length + 1 - i) (c - i) ad 1 c2 rfl rfl _ 48 (enc x) Try.underlying27 HSZ.out HW1.out (by simp only [Nat.min_def]; split <;> omega) (by rw [HEX.out]) (HX.out w1 (fun q hq hP => HG1.out.block q hq (fun e => hP (by injection e with e; rw [e]; exact HOK.out)))) ?fit (HON.out x) ?_; (case fit => simp only [List.size_toArray, List.length_append, List.length_take, List.length_drop, Array.length_toList, HCS.out, HBl.out, HEX.out]; show _ ≤ _; omega); intro w2 hw2 hg2; have HW2 := mk_ hw2; have HG2 := mk_ hg2; clear hw2 hg2)
   go_ret
   have hg12 := World.grownBy.trans HG1.out HG2.out
   have hsh := shift_list (A := A) (B := B) (T := T) (E := enc x) HAl.out HBl.out HEX.out HTK.out
   refine ⟨_, rfl, ?_, HB.out.grown hg12 HB.out.size (fun k hk => by injection hk with hk; rw [← hk]; exact HBG.out), Kept.of_grown hg12 (Kept.refl _ _) (fun k hk => .inl (by injection hk with hk; rw [← hk]; exact HOK.out))⟩
   rw [HLE.out]
   refine R_of_block HM.out (by intro x; rw [HKE.out]; rfl) HBG.out (.inl HOK.out) HW2.out (by rw [HRL.out]) hroom HMC.out ?_ ?_
   ·simp only [List.size_toArray, List.length_append, List.length_take, List.length_drop, Array.length_toList, HCS.out, HBl.out, HEX.out, List.toList_toArray]
    show _ = c * 2
    omega
   ·show List.take ((l0.length + 1) * 2) _ = _
    have e1 : (i + 1) * 2 = i * 2 + 2 := by omega
    rw [HFIN.out]
    simp only [List.toList_toArray, HEX.out, e1, HAB.out, HBl.out]
    rw [hsh]
    exact List.take_left' (by simp only [List.length_append]; have := HAl.out; have := HBl.out; have := HEX.out; omega)
  ·have hr1 : ¬ ((l0.length : Int) + 1 ≤ (c : Int)) := by omega
   have hr2 : (c : Int) < (l0.length : Int) + 1 := by omega
   have hqk : (l0.length : Int) + 1 - (i : Int) = ((l0.length + 1 - i : Nat) : Int) := by omega
   have HQK := mk_ hqk
   clear hqk
   go_enter Try.func62, Try.ntmps62
   go_wp2_with (first | ((with_reducible refine gate_builtin (b := .append) (xs := #[.tmp 34, .tmp 39]) rfl ?_); refine zeros_new rfl (.tmp 34) (.tmp 39) 27 3 48 rfl .i64 .i64 (.agg #[(.string ⟨#[]⟩), (.int .i64 0)]) 2 24 Try.underlying27 Try.underlying3 info48 rfl (by decide) (by decide) g i c (l0.length + 1 - i) (l0.length + 1) (by omega) A rfl (congrArg (Value.int .i64) HQK.out) HAl.out ?cells (by omega) (by omega) (by omega) ?_; (case cells => exact fun j v hv => by rw [blk_cell HH.out, ← Array.getElem?_toList, HAB.out, List.append_assoc, List.getElem?_append_left (List.getElem?_eq_some_iff.1 hv).1]; exact hv); intro w1 G R hw1 hb1 hG1 hG2 hRs hRt; have HW1 := mk_ hw1; have HBW1 := mk_ hb1; have HRS := mk_ hRs; have HRT := mk_ hRt; have HGM := mk_ hG2; have hGi : ¬ (G = i) := (by omega); have hGi1 : ¬ (G = i + 1) := (by omega); have hG3 : G ≤ 9223372036854775807 := (by simpa [maxLen] using hG2); clear hw1 hb1 hRs hRt hG2) | ((with_reducible refine gate_builtin (b := .copy) (xs := #[.tmp 43, .tmp 44]) rfl ?_); refine copy_block rfl (.tmp 43) (.tmp 44) 27 27 48 rfl 2 1 w.heap.size (i * 2) (l0.length + 1 - i) (G - i) ad 1 c2 rfl rfl R 48 (enc x) Try.underlying27 HSZ.out HW1.out (by simp only [Nat.min_def]; split <;> omega) (by rw [HEX.out]) (HX.out w1 (fun q hq _ => HBW1.out.block q hq)) (by rw [HRS.out, HEX.out]; omega) (HON.out x) ?_; intro w2 hw2 hg2; have HW2 := mk_ hw2; have HG2 := mk_ hg2; clear hw2 hg2))
   have HGB := mk_ (show w2.heap[g]? = some (.cells cur 48 (0, 0)) from (HG2.out.block g (Nat.lt_of_lt_of_le (blk_lt HH.out) HBW1.out.size) (fun e => by injection e with e; have := blk_lt HH.out; omega)).trans ((HBW1.out.block g (blk_lt HH.out)).trans HH.out))
   have hqw : IntKind.i64.wrap ((i : Int) + 1) = (i : Int) + 1 := by rw [IntKind.wrap_i64]; omega
   have hqb : (0 : Int) ≤ (i : Int) + 1 := by omega
   have hqn : ((i : Int) + 1).toNat = i + 1 := by omega
   have hqi : (i : Int) + 1 ≤ (l0.length : Int) + 1 := by omega
   go_region_law (refine copy_block_step rfl (.tmp 50) (.tmp 53) 27 27 48 rfl 2 (l0.length - i) w.heap.size ((i + 1) * 2) (l0.length - i) (G - (i + 1)) ⟨g, i * 2, none⟩ (l0.length - i) (c - i) (by simp [Act.eval, Act.put]) (by simp [Act.eval, Act.put]) _ 48 B Try.underlying27 HSZ.out HW2.out (by simp only [Nat.min_def]; split <;> omega) HBl.out (fun j v hv => by rw [add_at]; exact (blk_cell (w := w2.drew) HGB.out _).trans (HCB.out j v hv)) (by simp only [List.size_toArray, List.length_append, List.length_take, List.length_drop, Array.length_toList, HRS.out, HBl.out, HEX.out]; omega) HB1.out ?_; intro w3 hw3 hg3)
   have HW3 := mk_ hw3
   have HG3 := mk_ (show w2.grownBy w3 (some w.heap.size) from ⟨hg3.os, hg3.tape, hg3.output, hg3.size, hg3.block⟩)
   clear hw3 hg3 hqw hqb hqn
   go_wp2
   go_ret
   have hg23 := World.grownBy.trans HG2.out HG3.out
   have hB1w := below_step HB.out HBW1.out
   refine ⟨_, rfl, ?_, hB1w.grown hg23 hB1w.size (fun k hk => by injection hk with hk; rw [← hk]; exact HB.out.size), Kept.of_grown hg23 (Kept.of_below HBW1.out _) (fun k hk => .inr (by injection hk with hk; omega))⟩
   rw [HLE.out]
   have hRL : R.toList.length = G * 2 := by rw [Array.length_toList]; exact HRS.out
   have hgl := grow_list (A := A) (B := B) (E := enc x) (R := R.toList) HRT.out HAl.out HBl.out HEX.out (by omega)
   have e1 : (i + 1) * 2 = i * 2 + 2 := by omega
   refine R_of_block HM.out (by intro x; rw [HKE.out]; rfl) HB.out.size (.inr (Nat.le_refl _)) HW3.out (by rw [HRL.out]) hG1 HGM.out ?_ ?_
   ·show _ = G * 2
    rw [List.size_toArray, ← hRL, ← hgl.2]
    simp only [List.toList_toArray, HEX.out, e1, HBl.out]
   ·show List.take ((l0.length + 1) * 2) _ = _
    rw [HFIN.out, ← hgl.1]
    simp only [List.toList_toArray, HEX.out, e1, HBl.out]
    congr 1
    omega

/-! ### slices_BinarySearchFunc_string__impl_PutEntry_1: function 59 -/
def slices_BinarySearchFunc_string__impl_PutEntry_1.l0 : Nat → List (S48) → ByteArray → Int → Int → Int → Option (Int × Bool)
 | 0, _, _, _, _, _ => none
 | k + 1, x0, x1, x8, x9, x10 => if x9 < x10 then (if 0 ≤ (wrap64 ((IntKind.u64.wrap (wrap64 (x9 + x10))) / 2)) then (if (wrap64 ((IntKind.u64.wrap (wrap64 (x9 + x10))) / 2)) < (x0.length : Int) then ((impl_PutEntry_1.f ((rd_T48 x0 (wrap64 ((IntKind.u64.wrap (wrap64 (x9 + x10))) / 2))).f0) ((rd_T48 x0 (wrap64 ((IntKind.u64.wrap (wrap64 (x9 + x10))) / 2))).f1) x1).bind fun t225 => (if t225 < 0 then (slices_BinarySearchFunc_string__impl_PutEntry_1.l0 k x0 x1 x8 (wrap64 ((wrap64 ((IntKind.u64.wrap (wrap64 (x9 + x10))) / 2)) + 1)) x10) else (slices_BinarySearchFunc_string__impl_PutEntry_1.l0 k x0 x1 x8 x9 (wrap64 ((IntKind.u64.wrap (wrap64 (x9 + x10))) / 2))))) else (none)) else (none)) else (if x9 < x8 then (if 0 ≤ x9 then (if x9 < (x0.length : Int) then ((impl_PutEntry_1.f ((rd_T48 x0 x9).f0) ((rd_T48 x0 x9).f1) x1).bind fun t227 => (some (x9, (t227 == 0)))) else (none)) else (none)) else (some (x9, false)))
def slices_BinarySearchFunc_string__impl_PutEntry_1.f (k : Nat) (l0 : List (S48)) (a1 : ByteArray)  : Option (Int × Bool) := slices_BinarySearchFunc_string__impl_PutEntry_1.l0 k l0 a1 (l0.length : Int) 0 (l0.length : Int)
theorem slices_BinarySearchFunc_string__impl_PutEntry_1.mono_l : ∀ k, (∀ y0 y1 y2 y3 y4, LeO (slices_BinarySearchFunc_string__impl_PutEntry_1.l0 k y0 y1 y2 y3 y4) (slices_BinarySearchFunc_string__impl_PutEntry_1.l0 (k + 1) y0 y1 y2 y3 y4))
 | 0 => fun _ _ _ _ _ r h => by simp [slices_BinarySearchFunc_string__impl_PutEntry_1.l0] at h
 | k + 1 => by
  have ih0 := slices_BinarySearchFunc_string__impl_PutEntry_1.mono_l k
  ·intro y0 y1 y2 y3 y4
   unfold slices_BinarySearchFunc_string__impl_PutEntry_1.l0
   repeat' first
   | (with_reducible exact ih0 _ _ _ _ _)
   | (with_reducible exact LeO.refl _)
   | (with_reducible exact LeO.none _)
   | (with_reducible refine LeO.ite ?_ ?_)
   | (with_reducible refine LeO.bind ?_ (fun _ => ?_))
   | exact ih0 _ _ _ _ _
   | exact LeO.none _
   | refine LeO.ite ?_ ?_
   | refine LeO.bind ?_ (fun _ => ?_)
theorem slices_BinarySearchFunc_string__impl_PutEntry_1.mono : ∀ a0 a1 k, LeO (slices_BinarySearchFunc_string__impl_PutEntry_1.f k a0 a1) (slices_BinarySearchFunc_string__impl_PutEntry_1.f (k + 1) a0 a1) := by
 intro a0 a1 k
 have ih0 := slices_BinarySearchFunc_string__impl_PutEntry_1.mono_l k
 unfold slices_BinarySearchFunc_string__impl_PutEntry_1.f
 repeat' first
   | (with_reducible exact ih0 _ _ _ _ _)
   | (with_reducible exact LeO.refl _)
   | (with_reducible exact LeO.none _)
   | (with_reducible refine LeO.ite ?_ ?_)
   | (with_reducible refine LeO.bind ?_ (fun _ => ?_))
   | exact ih0 _ _ _ _ _
   | exact LeO.none _
   | refine LeO.ite ?_ ?_
   | refine LeO.bind ?_ (fun _ => ?_)
set_option maxHeartbeats 8000000 in
set_option maxRecDepth 100000 in
theorem slices_BinarySearchFunc_string__impl_PutEntry_1.calls (k : Nat) (A0 : Option Addr) (c0 : Nat) (l0 : List (S48)) (a1 : ByteArray)  (r1 : Int) (r2 : Bool) (w : World) (hr0 : Kd.C k48 w A0 l0.length l0) (hc0 : l0.length ≤ c0) (h : slices_BinarySearchFunc_string__impl_PutEntry_1.f k l0 a1 = some (r1, r2)) :
  Calls Try.prog 59 #[.slice A0 l0.length c0, .string a1, .func (.func 60) #[] #[]] w fun e w' => e = .returned (.tuple #[.int .i64 r1, .bool r2]) ∧ Below w.heap.size w w' := by
 have hu48 := Try.underlying48
 have HR0 := mk_ hr0
 have HC0 := mk_ hc0
 clear hr0 hc0
 have HB := mk_ (Below.refl w.heap.size w)
 have H : (slices_BinarySearchFunc_string__impl_PutEntry_1.l0 k l0 a1 (l0.length : Int) 0 (l0.length : Int)) = some (r1, r2) := h
 clear h
 have H' := mk_ H
 clear H
 go_enter Try.func59, Try.ntmps59
 go_wp2
 go_loopg [9, 10] k (fun kq v9 v10 w' => ∃ (x9_1 : Int) (x10_1 : Int), v9 = .int .i64 x9_1 ∧ v10 = .int .i64 x10_1 ∧ Aside0 (slices_BinarySearchFunc_string__impl_PutEntry_1.l0 kq l0 a1 (l0.length : Int) x9_1 x10_1 = some (r1, r2)) ∧ Aside0 (kq ≤ k) ∧ Aside0 (Below w.heap.size w w'))
 case atStart => exact ⟨(0), ((l0.length : Int)), sq_e, sq_e, H', ⟨Nat.le_refl _⟩, ⟨sq_b⟩⟩
 case round =>
  clear H'
  try clear p2
  obtain ⟨x9_1, x10_1, rfl, rfl, HA, HK1, HB⟩ := hrel
  cases gk with
  | zero => exact absurd HA.out (by simp [slices_BinarySearchFunc_string__impl_PutEntry_1.l0])
  | succ k1 =>
   have H := HA.out
   clear HA
   simp only [slices_BinarySearchFunc_string__impl_PutEntry_1.l0] at H
   by_cases c4 : x9_1 < x10_1
   ·rw [if_pos c4] at H
    have c4b0 : decide (x9_1 < x10_1) = true := decide_eq_true c4
    clear c4
    obtain ⟨ji5, hji5⟩ : ∃ j_ : Int, (wrap64 ((IntKind.u64.wrap (wrap64 (x9_1 + x10_1))) / 2)) = j_ := ⟨_, rfl⟩
    replace H : (if 0 ≤ (ji5) then (if (ji5) < (l0.length : Int) then ((impl_PutEntry_1.f ((rd_T48 l0 (ji5)).f0) ((rd_T48 l0 (ji5)).f1) a1).bind fun t225 => (if t225 < 0 then (slices_BinarySearchFunc_string__impl_PutEntry_1.l0 k1 l0 a1 (l0.length : Int) (wrap64 ((ji5) + 1)) x10_1) else (slices_BinarySearchFunc_string__impl_PutEntry_1.l0 k1 l0 a1 (l0.length : Int) x9_1 ji5))) else (none)) else (none)) = some (r1, r2) := by first | (rw [hji5] at H; exact H) | (simp only [hji5] at H ⊢; exact H)
    have hji5w : (IntKind.i64.wrap ((IntKind.u64.wrap (wrap64 (x9_1 + x10_1))) / 2)) = ji5 := (i64_w _).trans hji5
    by_cases c6 : 0 ≤ (ji5)
    rotate_left
    ·rw [if_neg c6] at H
     exact absurd H (by simp)
    rw [if_pos c6] at H
    have c6b0 : decide (0 ≤ (ji5)) = true := decide_eq_true c6
    clear c6
    by_cases c7 : (ji5) < (l0.length : Int)
    rotate_left
    ·rw [if_neg c7] at H
     exact absurd H (by simp)
    rw [if_pos c7] at H
    have c7b0 : decide ((ji5) < (l0.length : Int)) = true := decide_eq_true c7
    clear c7
    replace H := Option.bind_eq_some_iff.mp H
    obtain ⟨t225, A80, H⟩ := H
    replace H : (if t225 < 0 then (slices_BinarySearchFunc_string__impl_PutEntry_1.l0 k1 l0 a1 (l0.length : Int) (wrap64 ((ji5) + 1)) x10_1) else (slices_BinarySearchFunc_string__impl_PutEntry_1.l0 k1 l0 a1 (l0.length : Int) x9_1 ji5)) = some (r1, r2) := H
    have A8 := mk_ A80
    clear A80
    by_cases c9 : t225 < 0
    ·rw [if_pos c9] at H
     have c9b0 : decide (t225 < 0) = true := decide_eq_true c9
     clear c9
     have H' := mk_ H
     clear H
     have p224 : 0 ≤ ((ji5) : Int) := sq_d
     have q224 : (ji5) < (l0.length : Int) := sq_d
     obtain ⟨ad224, e224, hx224_0, hx224_1⟩ := at_T48 HR0.out (ji5) p224 q224
     cases e224
     try replace hx224_0 := (HB.out.cell (World.block_lt_of_cell? w _ hx224_0)).trans hx224_0
     try replace hx224_1 := (HB.out.cell (World.block_lt_of_cell? w _ hx224_1)).trans hx224_1
     replace p224 := eq_true p224
     replace q224 := eq_true q224
     go_wp2_with (first | (go_at_call 60; (with_reducible refine (impl_PutEntry_1.calls ((rd_T48 l0 (ji5)).f0) ((rd_T48 l0 (ji5)).f1) a1 t225 _ A8.out).mono ?_); rintro e w10 ⟨rfl, hb⟩; have n0_ := mk_ (below_step sq_b hb); clear HB; have HB := n0_; clear n0_; (try clear hb)))
     go_roundg k1
     case measure => have := HK1.out; omega
     case rel => exact ⟨(wrap64 ((ji5) + 1)), (x10_1), (by first | rfl | (simp; done) | (simp [ext_bne_nil, ext_beq_nil]; done) | (simp only [← hji5] <;> (first | rfl | simp)) | (simp [*]; done)), sq_e, H', ⟨by have := HK1.out; omega⟩, ⟨sq_b⟩⟩
    ·rw [if_neg c9] at H
     have c9b0 : decide (t225 < 0) = false := decide_eq_false c9
     clear c9
     have H' := mk_ H
     clear H
     have p224 : 0 ≤ ((ji5) : Int) := sq_d
     have q224 : (ji5) < (l0.length : Int) := sq_d
     obtain ⟨ad224, e224, hx224_0, hx224_1⟩ := at_T48 HR0.out (ji5) p224 q224
     cases e224
     try replace hx224_0 := (HB.out.cell (World.block_lt_of_cell? w _ hx224_0)).trans hx224_0
     try replace hx224_1 := (HB.out.cell (World.block_lt_of_cell? w _ hx224_1)).trans hx224_1
     replace p224 := eq_true p224
     replace q224 := eq_true q224
     go_wp2_with (first | (go_at_call 60; (with_reducible refine (impl_PutEntry_1.calls ((rd_T48 l0 (ji5)).f0) ((rd_T48 l0 (ji5)).f1) a1 t225 _ A8.out).mono ?_); rintro e w11 ⟨rfl, hb⟩; have n0_ := mk_ (below_step sq_b hb); clear HB; have HB := n0_; clear n0_; (try clear hb)))
     go_roundg k1
     case measure => have := HK1.out; omega
     case rel => exact ⟨(x9_1), (ji5), sq_e, (by first | rfl | (simp; done) | (simp [ext_bne_nil, ext_beq_nil]; done) | (simp only [← hji5] <;> (first | rfl | simp)) | (simp [*]; done)), H', ⟨by have := HK1.out; omega⟩, ⟨sq_b⟩⟩
   ·rw [if_neg c4] at H
    have c4b0 : decide (x9_1 < x10_1) = false := decide_eq_false c4
    clear c4
    by_cases c12 : x9_1 < (l0.length : Int)
    ·rw [if_pos c12] at H
     have c12b0 : decide (x9_1 < (l0.length : Int)) = true := decide_eq_true c12
     clear c12
     by_cases c13 : 0 ≤ x9_1
     rotate_left
     ·rw [if_neg c13] at H
      exact absurd H (by simp)
     rw [if_pos c13] at H
     have c13b0 : decide (0 ≤ x9_1) = true := decide_eq_true c13
     clear c13
     by_cases c14 : x9_1 < (l0.length : Int)
     rotate_left
     ·rw [if_neg c14] at H
      exact absurd H (by simp)
     rw [if_pos c14] at H
     have c14b0 : decide (x9_1 < (l0.length : Int)) = true := decide_eq_true c14
     clear c14
     replace H := Option.bind_eq_some_iff.mp H
     obtain ⟨t227, A150, H⟩ := H
     replace H : (some (x9_1, (t227 == 0))) = some (r1, r2) := H
     have A15 := mk_ A150
     clear A150
     simp only [Option.some.injEq, Prod.mk.injEq] at H
     obtain ⟨rfl, rfl⟩ := H
     have p226 : 0 ≤ (x9_1 : Int) := sq_d
     have q226 : x9_1 < (l0.length : Int) := sq_d
     obtain ⟨ad226, e226, hx226_0, hx226_1⟩ := at_T48 HR0.out x9_1 p226 q226
     cases e226
     try replace hx226_0 := (HB.out.cell (World.block_lt_of_cell? w _ hx226_0)).trans hx226_0
     try replace hx226_1 := (HB.out.cell (World.block_lt_of_cell? w _ hx226_1)).trans hx226_1
     replace p226 := eq_true p226
     replace q226 := eq_true q226
     go_wp2_with (first | (go_at_call 60; (with_reducible refine (impl_PutEntry_1.calls ((rd_T48 l0 x9_1).f0) ((rd_T48 l0 x9_1).f1) a1 t227 _ A15.out).mono ?_); rintro e w16 ⟨rfl, hb⟩; have n0_ := mk_ (below_step sq_b hb); clear HB; have HB := n0_; clear n0_; (try clear hb)))
     go_ret2
     exact ⟨sq_w, sq_b⟩
    ·rw [if_neg c12] at H
     have c12b0 : decide (x9_1 < (l0.length : Int)) = false := decide_eq_false c12
     clear c12
     simp only [Option.some.injEq, Prod.mk.injEq] at H
     obtain ⟨rfl, rfl⟩ := H
     go_wp2
     go_ret2
     exact ⟨sq_w, sq_b⟩

/-! ### impl_PutEntry: function 32 -/
def impl_PutEntry.f (k : Nat) (l0 : List (S59)) (a1_0 : ByteArray) (a1_1 : Int) : Option ((List (S59)) × Bool) := (impl_entries.f k l0).bind fun bt229 => (if bt229.2 = true then ((slices_BinarySearchFunc_string__impl_PutEntry_1.f k bt229.1 a1_0).bind fun bt233 => (if bt233.2 = true then (if 0 ≤ bt233.1 then (if bt233.1 < (bt229.1.length : Int) then ((impl_build.f k (bt229.1.set (bt233.1 : Int).toNat (⟨a1_0, a1_1⟩ : S48))).bind fun bt236 => (some (bt236.1, bt236.2))) else (none)) else (none)) else ((slices_Insert_impl_Entry.f bt229.1 bt233.1 (([(⟨a1_0, a1_1⟩ : S48)] : List (S48)))).bind fun t243 => ((impl_build.f k t243).bind fun bt246 => (some (bt246.1, bt246.2)))))) else (some (([] : List (S59)), false)))
theorem impl_PutEntry.mono : ∀ a0 a1 a2 k, LeO (impl_PutEntry.f k a0 a1 a2) (impl_PutEntry.f (k + 1) a0 a1 a2) := by
 intro a0 a1 a2 k
 unfold impl_PutEntry.f
 repeat' first
   | (with_reducible exact impl_build.mono _ _)
   | (with_reducible exact impl_entries.mono _ _)
   | (with_reducible exact slices_BinarySearchFunc_string__impl_PutEntry_1.mono _ _ _)
   | (with_reducible exact LeO.refl _)
   | (with_reducible exact LeO.none _)
   | (with_reducible refine LeO.ite ?_ ?_)
   | (with_reducible refine LeO.bind ?_ (fun _ => ?_))
   | exact impl_build.mono _ _
   | exact impl_entries.mono _ _
   | exact slices_BinarySearchFunc_string__impl_PutEntry_1.mono _ _ _
   | exact LeO.none _
   | refine LeO.ite ?_ ?_
   | refine LeO.bind ?_ (fun _ => ?_)
set_option maxHeartbeats 8000000 in
set_option maxRecDepth 100000 in
theorem impl_PutEntry.calls (k : Nat) (A0 : Option Addr) (c0 : Nat) (l0 : List (S59)) (a1_0 : ByteArray) (a1_1 : Int) (r1 : List (S59)) (r2 : Bool) (w : World) (hr0 : Kd.C k59 w A0 l0.length l0) (hc0 : l0.length ≤ c0) (h : impl_PutEntry.f k l0 a1_0 a1_1 = some (r1, r2)) :
  Calls Try.prog 32 #[.slice A0 l0.length c0, .agg #[.string a1_0, .int .i64 a1_1]] w fun e w' => ∃ v0_ : Value, e = .returned (.tuple #[v0_, .bool r2]) ∧ Kd.S k59 59 w' w.heap.size (fun _ => True) v0_ r1 ∧ Below w.heap.size w w' := by
 have hu48 := Try.underlying48
 have HR0 := mk_ hr0
 have HC0 := mk_ hc0
 clear hr0 hc0
 have HB := mk_ (Below.refl w.heap.size w)
 have H : ((impl_entries.f k l0).bind fun bt229 => (if bt229.2 = true then ((slices_BinarySearchFunc_string__impl_PutEntry_1.f k bt229.1 a1_0).bind fun bt233 => (if bt233.2 = true then (if 0 ≤ bt233.1 then (if bt233.1 < (bt229.1.length : Int) then ((impl_build.f k (bt229.1.set (bt233.1 : Int).toNat (⟨a1_0, a1_1⟩ : S48))).bind fun bt236 => (some (bt236.1, bt236.2))) else (none)) else (none)) else ((slices_Insert_impl_Entry.f bt229.1 bt233.1 (([(⟨a1_0, a1_1⟩ : S48)] : List (S48)))).bind fun t243 => ((impl_build.f k t243).bind fun bt246 => (some (bt246.1, bt246.2)))))) else (some (([] : List (S59)), false)))) = some (r1, r2) := h
 clear h
 replace H := Option.bind_eq_some_iff.mp H
 obtain ⟨⟨t229, t230⟩, A30, H⟩ := H
 replace H : (if t230 = true then ((slices_BinarySearchFunc_string__impl_PutEntry_1.f k t229 a1_0).bind fun bt233 => (if bt233.2 = true then (if 0 ≤ bt233.1 then (if bt233.1 < (t229.length : Int) then ((impl_build.f k (t229.set (bt233.1 : Int).toNat (⟨a1_0, a1_1⟩ : S48))).bind fun bt236 => (some (bt236.1, bt236.2))) else (none)) else (none)) else ((slices_Insert_impl_Entry.f t229 bt233.1 (([(⟨a1_0, a1_1⟩ : S48)] : List (S48)))).bind fun t243 => ((impl_build.f k t243).bind fun bt246 => (some (bt246.1, bt246.2)))))) else (some (([] : List (S59)), false))) = some (r1, r2) := H
 have A3 := mk_ A30
 clear A30
 by_cases c4 : t230 = true
 ·subst c4
  have H1 : ((slices_BinarySearchFunc_string__impl_PutEntry_1.f k t229 a1_0).bind fun bt233 => (if bt233.2 = true then (if 0 ≤ bt233.1 then (if bt233.1 < (t229.length : Int) then ((impl_build.f k (t229.set (bt233.1 : Int).toNat (⟨a1_0, a1_1⟩ : S48))).bind fun bt236 => (some (bt236.1, bt236.2))) else (none)) else (none)) else ((slices_Insert_impl_Entry.f t229 bt233.1 (([(⟨a1_0, a1_1⟩ : S48)] : List (S48)))).bind fun t243 => ((impl_build.f k t243).bind fun bt246 => (some (bt246.1, bt246.2)))))) = some (r1, r2) := by rw [if_pos rfl] at H; exact H
  clear H
  have H := H1
  clear H1
  replace H := Option.bind_eq_some_iff.mp H
  obtain ⟨⟨t233, t234⟩, A50, H⟩ := H
  replace H : (if t234 = true then (if 0 ≤ t233 then (if t233 < (t229.length : Int) then ((impl_build.f k (t229.set (t233 : Int).toNat (⟨a1_0, a1_1⟩ : S48))).bind fun bt236 => (some (bt236.1, bt236.2))) else (none)) else (none)) else ((slices_Insert_impl_Entry.f t229 t233 (([(⟨a1_0, a1_1⟩ : S48)] : List (S48)))).bind fun t243 => ((impl_build.f k t243).bind fun bt246 => (some (bt246.1, bt246.2))))) = some (r1, r2) := H
  have A5 := mk_ A50
  clear A50
  by_cases c6 : t234 = true
  ·subst c6
   have H1 : (if 0 ≤ t233 then (if t233 < (t229.length : Int) then ((impl_build.f k (t229.set (t233 : Int).toNat (⟨a1_0, a1_1⟩ : S48))).bind fun bt236 => (some (bt236.1, bt236.2))) else (none)) else (none)) = some (r1, r2) := by rw [if_pos rfl] at H; exact H
   clear H
   have H := H1
   clear H1
   by_cases c7 : 0 ≤ t233
   rotate_left
   ·rw [if_neg c7] at H
    exact absurd H (by simp)
   rw [if_pos c7] at H
   have c7b0 : decide (0 ≤ t233) = true := decide_eq_true c7
   clear c7
   by_cases c8 : t233 < (t229.length : Int)
   rotate_left
   ·rw [if_neg c8] at H
    exact absurd H (by simp)
   rw [if_pos c8] at H
   have c8b0 : decide (t233 < (t229.length : Int)) = true := decide_eq_true c8
   clear c8
   obtain ⟨y235, hy235⟩ : ∃ y_ : List (S48), y_ = (t229.set (t233 : Int).toNat (⟨a1_0, a1_1⟩ : S48)) := ⟨_, rfl⟩
   replace H : ((impl_build.f k y235).bind fun bt236 => (some (bt236.1, bt236.2))) = some (r1, r2) := by first | (rw [hy235]; with_reducible exact H) | (have H2_ := (Option.bind_some _ _).symm.trans H; rw [hy235]; with_reducible exact H2_) | (have H2_ := (Option.bind_some _ _).symm.trans H; with_reducible exact H2_) | with_reducible exact H | (rw [hy235]; exact H) | exact H
   have Ny235 := mk_ hy235
   clear hy235
   replace H := Option.bind_eq_some_iff.mp H
   obtain ⟨⟨t236, t237⟩, A100, H⟩ := H
   replace H : (some (t236, t237)) = some (r1, r2) := H
   have A10 := mk_ A100
   clear A100
   simp only [Option.some.injEq, Prod.mk.injEq] at H
   obtain ⟨rfl, rfl⟩ := H
   go_enter Try.func32, Try.ntmps32
   go_wp2_with (first | ((with_reducible refine gate_dst (N := 3) rfl ?_); refine box_event sq_0 (N := 3) sq_0 (cs := #[.string a1_0, .int .i64 a1_1]) (t := 48) sq_h ?_; intro gb228 hg w11 hbox hb; have n0_ := mk_ (below_step sq_b hb); have n1_ := mk_ (hbox); have n2_ := mk_ ((by rw [hg]; exact (below_size sq_b) : w.heap.size ≤ gb228)); have n3_ := mk_ ((by rw [hg]; exact (below_size sq_b) : w.heap.size ≤ gb228)); clear HB; have HB := n0_; have BK228 := n1_; have GW228 := n2_; have GE228 := n3_; clear n0_ n1_ n2_ n3_; clear hb hbox hg) | ((with_reducible refine gate_callee (f := 54) rfl ?_); refine goesL_ (some 12) rfl rfl Try.func54 (by kernel_rfl) rfl #[.slice A0 l0.length c0] rfl sq_a ?_; (with_reducible refine (impl_entries.calls k _ _ l0 t229 true _ ?side1 ?side2 A3.out).mono ?_); (case side1 => exact sq_c (Kd.C_below HR0.out HB.out)); (case side2 => exact HC0.out); rintro e w12 ⟨v231, rfl, ho0, hb⟩; refine ⟨_, rfl, ?_⟩; have n0_ := mk_ (Kd.R_lower (Kd.R_newB ho0 (g := gb228) (o := .cells #[.string a1_0, .int .i64 a1_1] 48 (0, 0)) (sq_l BK228)) (below_size (sq_g GE228.out))); have n1_ := mk_ (blk_below (g := gb228) (o := .cells #[.string a1_0, .int .i64 a1_1] 48 (0, 0)) (sq_l BK228) hb); have n2_ := mk_ (below_step (sq_g GE228.out) hb); clear BK228 HB; have HO232 := n0_; have BK228 := n1_; have HB := n2_; clear n0_ n1_ n2_; (try clear hb); (try clear ho0); have hcz13_0 : w12.cell? ⟨gb228, 0, none⟩ = some (.string a1_0) := (blk_cell BK228.out 0).trans rfl; have hcz13_1 : w12.cell? ⟨gb228, 1, none⟩ = some (.int .i64 a1_1) := (blk_cell BK228.out 1).trans rfl; have hfz13_0 := blk_frozen BK228.out 0; have hfz13_1 := blk_frozen BK228.out 1; obtain ⟨Ao14, co14, eo14⟩ := Kd.R_slice HO232.out; subst eo14) | ((with_reducible refine gate_callee (f := 59) rfl ?_); refine goesL_ (some 21) rfl rfl Try.func59 (by kernel_rfl) rfl #[.slice Ao14 t229.length co14, .string a1_0, .func (.func 60) #[] #[]] rfl sq_a ?_; (with_reducible refine (slices_BinarySearchFunc_string__impl_PutEntry_1.calls k _ _ t229 a1_0  t233 true _ ?side1 ?side2 A5.out).mono ?_); (case side1 => exact sq_c (Kd.R_reads' HO232.out).2.2); (case side2 => exact (Kd.R_reads' HO232.out).2.1); rintro e w15 ⟨rfl, hb⟩; refine ⟨_, rfl, ?_⟩; have n0_ := mk_ (Kd.R_below (sq_r HO232) hb); have n1_ := mk_ (blk_below (g := gb228) (o := .cells #[.string a1_0, .int .i64 a1_1] 48 (0, 0)) (sq_l BK228) hb); have n2_ := mk_ (below_step (sq_g GE228.out) hb); clear HO232 BK228 HB; have HO232 := n0_; have BK228 := n1_; have HB := n2_; clear n0_ n1_ n2_; (try clear hb); have hcz16_0 : w15.cell? ⟨gb228, 0, none⟩ = some (.string a1_0) := (blk_cell BK228.out 0).trans rfl; have hcz16_1 : w15.cell? ⟨gb228, 1, none⟩ = some (.int .i64 a1_1) := (blk_cell BK228.out 1).trans rfl; have hfz16_0 := blk_frozen BK228.out 0; have hfz16_1 := blk_frozen BK228.out 1; have p9 : 0 ≤ (t233 : Int) := sq_d; have q9 : (t233 : Int) < ((t229.length : Int) : Int) := sq_d; obtain ⟨go9, co9, eo9, gb9, gl9, cl9, HG9⟩ := Kd.R_form HO232.out (by omega); (first | cases eo9 | (injection eo9 with ea_ en_ ec_; (first | subst ea_ | (injection ea_ with ea_; subst ea_)); subst ec_; clear en_)); have GB9 := mk_ gb9; have GG9 := mk_ HG9; clear gb9 gl9 HG9; obtain ⟨ce9, hcl9, hM9, hcc9, hfr9⟩ := Kd.R_elem HO232.out z48 (t233 : Int) p9 q9; obtain rfl := k48_openM hM9; have hx9_0 : w15.cell? ⟨go9, (t233 : Int).toNat * 2, none⟩ = some (.string ((rd_T48 t229 t233).f0)) := hcc9 0 _ rfl; have hx9_1 : w15.cell? ⟨go9, (t233 : Int).toNat * 2 + 1, none⟩ = some (.int .i64 ((rd_T48 t229 t233).f1)) := hcc9 1 _ rfl; have hf9_0 : w15.frozen? ⟨go9, (t233 : Int).toNat * 2, none⟩ = false := hfr9 0; have hf9_1 : w15.frozen? ⟨go9, (t233 : Int).toNat * 2 + 1, none⟩ = false := hfr9 1; clear hcl9 hcc9 hfr9; (try clear hM9); replace p9 := eq_true p9; replace q9 := eq_true q9; have n_ := mk_ (Kd.R_mono (ok' := (fun k_ => k_ ≠ gb228)) HO232.out (fun k_ hk => hk.2)); clear HO232; have HO232 := n_; clear n_; have HX17 := mk_ (show Kd.R k48 48 w15 w.heap.size (fun k_ => k_ ≠ gb228) (.slice (some ⟨go9, 0, none⟩) t229.length co14) t229 from (sq_r HO232)); obtain ⟨ce17, hcl17, hM17, hcc17, hfr17⟩ := Kd.R_elem HX17.out z48 (t233 : Int) (sq_d) (by have h_ : (t233 : Int) < ((t229.length : Int) : Int) := sq_d; first | exact h_ | (have e_ := (Kd.R_reads' HO232.out).1; omega) | simpa using h_); obtain rfl := k48_openM hM17; have HP17 := Kd.R_seg HX17.out (t233 : Int) (sq_d) (by have h_ : (t233 : Int) < ((t229.length : Int) : Int) := sq_d; first | exact h_ | (have e_ := (Kd.R_reads' HO232.out).1; omega) | simpa using h_) (seg := [.string a1_0, .int .i64 a1_1]) (j := 0) hcl17 hcc17 (show 2 ≤ 2 from by decide) (x' := (⟨a1_0, a1_1⟩ : S48)) (k48_mkM _ _ _ (⟨a1_0, a1_1⟩ : S48) ) (fun _ hk => hk); have hx17_0 := hcc17 0 _ rfl; (try simp only [show (k48).sz = 2 from rfl, Nat.mul_one, Nat.add_zero] at hx17_0); have hf17_0 := hfr17 0; (try simp only [show (k48).sz = 2 from rfl, Nat.mul_one, Nat.add_zero] at hf17_0); have hx17_1 := hcc17 1 _ rfl; (try simp only [show (k48).sz = 2 from rfl, Nat.mul_one, Nat.add_zero] at hx17_1); have hf17_1 := hfr17 1; (try simp only [show (k48).sz = 2 from rfl, Nat.mul_one, Nat.add_zero] at hf17_1); clear hcl17 hcc17 hfr17; (try clear hM17)) | ((with_reducible refine gate_store (t := 48) (p := 28) rfl ?_); refine store_event (t := 48) (p := 28) (v := ?vo_w18) (w1 := ((w15.setCell ⟨go9, (t233 : Int).toNat * 2, none⟩ (.string a1_0)).setCell ⟨go9, (t233 : Int).toNat * 2 + 1, none⟩ (.int .i64 a1_1))) ?hg ?ho ?hn ?hr ?_; (case ho => rfl); (case hg => rfl); (case hn => rfl); (case hr => first | (go_simp; done) | (go_simp; rfl)); intro w18 hw; have hg : w15.grownBy w18 (some go9) := (by rw [hw]; exact HP17.2); have hp_ : Kd.R k48 48 w18 w.heap.size (fun k_ => k_ ≠ gb228) (.slice (some ⟨go9, 0, none⟩) t229.length co14) y235 := (by rw [hw, Ny235.out]; exact HP17.1); clear HP17; have n0_ := mk_ (blk_grown (g := gb228) (o := .cells #[.string a1_0, .int .i64 a1_1] 48 (0, 0)) (sq_l BK228) hg (Kd.R_away HO232.out (fun _ hk => hk))); have n1_ := mk_ (hp_); have n2_ := mk_ ((by rw [hw]; exact below_set (below_set (HB.out) GB9.out) GB9.out : Below w.heap.size w w18)); clear BK228 HO232 HB; have BK228 := n0_; have HO232 := n1_; have HB := n2_; clear n0_ n1_ n2_; clear hg hw hp_) | ((with_reducible refine gate_callee (f := 45) rfl ?_); refine goesL_ (some 35) rfl rfl Try.func45 (by kernel_rfl) rfl #[.slice (some ⟨go9, 0, none⟩) y235.length co14] rfl (by (try simp only [List.map_toArray, List.map_cons, List.map_nil]); first | done | (rw [show y235.length = t229.length from (Kd.R_reads' HO232.out).1.symm] <;> rfl) | rfl | (simp only [List.length_drop, List.length_take]; rfl)) ?_; (with_reducible refine (impl_build.calls k _ _ y235 t236 t237 _ ?side1 ?side2 A10.out).mono ?_); (case side1 => exact sq_c (Kd.R_reads' HO232.out).2.2); (case side2 => rw [show y235.length = t229.length from (Kd.R_reads' HO232.out).1.symm]; exact (Kd.R_reads' HO232.out).2.1); rintro e w19 ⟨v238, rfl, ho0, hb⟩; refine ⟨_, rfl, ?_⟩; have n0_ := mk_ (Kd.R_below (sq_r HO232) hb); have n1_ := mk_ (Kd.S_lower ho0 (below_size (sq_g GE228.out))); have n2_ := mk_ (blk_below (g := gb228) (o := .cells #[.string a1_0, .int .i64 a1_1] 48 (0, 0)) (sq_l BK228) hb); have n3_ := mk_ (below_step (sq_g GE228.out) hb); clear HO232 BK228 HB; have HO232 := n0_; have HO239 := n1_; have BK228 := n2_; have HB := n3_; clear n0_ n1_ n2_ n3_; (try clear hb); (try clear ho0)))
   go_ret2
   exact ⟨_, sq_w, sq_s HO239, sq_g GE228.out⟩
  ·replace c6 := Bool.eq_false_iff.mpr c6
   subst c6
   have H1 : ((slices_Insert_impl_Entry.f t229 t233 (([(⟨a1_0, a1_1⟩ : S48)] : List (S48)))).bind fun t243 => ((impl_build.f k t243).bind fun bt246 => (some (bt246.1, bt246.2)))) = some (r1, r2) := by rw [if_neg (show ¬ (false = true) by decide)] at H; exact H
   clear H
   have H := H1
   clear H1
   obtain ⟨y240, hy240⟩ : ∃ y_ : List (S48), y_ = (([(⟨a1_0, a1_1⟩ : S48)] : List (S48))) := ⟨_, rfl⟩
   replace H : ((slices_Insert_impl_Entry.f t229 t233 y240).bind fun t243 => ((impl_build.f k t243).bind fun bt246 => (some (bt246.1, bt246.2)))) = some (r1, r2) := by first | (rw [hy240]; with_reducible exact H) | (have H2_ := (Option.bind_some _ _).symm.trans H; rw [hy240]; with_reducible exact H2_) | (have H2_ := (Option.bind_some _ _).symm.trans H; with_reducible exact H2_) | with_reducible exact H | (rw [hy240]; exact H) | exact H
   have Ny240 := mk_ hy240
   clear hy240
   replace H := Option.bind_eq_some_iff.mp H
   obtain ⟨t243, A200, H⟩ := H
   replace H : ((impl_build.f k t243).bind fun bt246 => (some (bt246.1, bt246.2))) = some (r1, r2) := H
   have A20 := mk_ A200
   clear A200
   replace H := Option.bind_eq_some_iff.mp H
   obtain ⟨⟨t246, t247⟩, A210, H⟩ := H
   replace H : (some (t246, t247)) = some (r1, r2) := H
   have A21 := mk_ A210
   clear A210
   simp only [Option.some.injEq, Prod.mk.injEq] at H
   obtain ⟨rfl, rfl⟩ := H
   go_enter Try.func32, Try.ntmps32
   go_wp2_with (first | ((with_reducible refine gate_dst (N := 3) rfl ?_); refine box_event sq_0 (N := 3) sq_0 (cs := #[.string a1_0, .int .i64 a1_1]) (t := 48) sq_h ?_; intro gb228 hg w22 hbox hb; have n0_ := mk_ (below_step sq_b hb); have n1_ := mk_ (hbox); have n2_ := mk_ ((by rw [hg]; exact (below_size sq_b) : w.heap.size ≤ gb228)); have n3_ := mk_ ((by rw [hg]; exact (below_size sq_b) : w.heap.size ≤ gb228)); clear HB; have HB := n0_; have BK228 := n1_; have GW228 := n2_; have GE228 := n3_; clear n0_ n1_ n2_ n3_; clear hb hbox hg) | ((with_reducible refine gate_callee (f := 54) rfl ?_); refine goesL_ (some 12) rfl rfl Try.func54 (by kernel_rfl) rfl #[.slice A0 l0.length c0] rfl sq_a ?_; (with_reducible refine (impl_entries.calls k _ _ l0 t229 true _ ?side1 ?side2 A3.out).mono ?_); (case side1 => exact sq_c (Kd.C_below HR0.out HB.out)); (case side2 => exact HC0.out); rintro e w23 ⟨v231, rfl, ho0, hb⟩; refine ⟨_, rfl, ?_⟩; have n0_ := mk_ (Kd.R_lower (Kd.R_newB ho0 (g := gb228) (o := .cells #[.string a1_0, .int .i64 a1_1] 48 (0, 0)) (sq_l BK228)) (below_size (sq_g GE228.out))); have n1_ := mk_ (blk_below (g := gb228) (o := .cells #[.string a1_0, .int .i64 a1_1] 48 (0, 0)) (sq_l BK228) hb); have n2_ := mk_ (below_step (sq_g GE228.out) hb); clear BK228 HB; have HO232 := n0_; have BK228 := n1_; have HB := n2_; clear n0_ n1_ n2_; (try clear hb); (try clear ho0); have hcz24_0 : w23.cell? ⟨gb228, 0, none⟩ = some (.string a1_0) := (blk_cell BK228.out 0).trans rfl; have hcz24_1 : w23.cell? ⟨gb228, 1, none⟩ = some (.int .i64 a1_1) := (blk_cell BK228.out 1).trans rfl; have hfz24_0 := blk_frozen BK228.out 0; have hfz24_1 := blk_frozen BK228.out 1; obtain ⟨Ao25, co25, eo25⟩ := Kd.R_slice HO232.out; subst eo25) | ((with_reducible refine gate_callee (f := 59) rfl ?_); refine goesL_ (some 21) rfl rfl Try.func59 (by kernel_rfl) rfl #[.slice Ao25 t229.length co25, .string a1_0, .func (.func 60) #[] #[]] rfl sq_a ?_; (with_reducible refine (slices_BinarySearchFunc_string__impl_PutEntry_1.calls k _ _ t229 a1_0  t233 false _ ?side1 ?side2 A5.out).mono ?_); (case side1 => exact sq_c (Kd.R_reads' HO232.out).2.2); (case side2 => exact (Kd.R_reads' HO232.out).2.1); rintro e w26 ⟨rfl, hb⟩; refine ⟨_, rfl, ?_⟩; have n0_ := mk_ (Kd.R_below (sq_r HO232) hb); have n1_ := mk_ (blk_below (g := gb228) (o := .cells #[.string a1_0, .int .i64 a1_1] 48 (0, 0)) (sq_l BK228) hb); have n2_ := mk_ (below_step (sq_g GE228.out) hb); clear HO232 BK228 HB; have HO232 := n0_; have BK228 := n1_; have HB := n2_; clear n0_ n1_ n2_; (try clear hb); have hcz27_0 : w26.cell? ⟨gb228, 0, none⟩ = some (.string a1_0) := (blk_cell BK228.out 0).trans rfl; have hcz27_1 : w26.cell? ⟨gb228, 1, none⟩ = some (.int .i64 a1_1) := (blk_cell BK228.out 1).trans rfl; have hfz27_0 := blk_frozen BK228.out 0; have hfz27_1 := blk_frozen BK228.out 1) | ((with_reducible refine gate_dst (N := 32) rfl ?_); refine Kd.R_lit k48 _ 48 sq_0 (N := 32) sq_0 (xs := ([(⟨a1_0, a1_1⟩ : S48)] : List (S48))) (inner := [.string a1_0, .int .i64 a1_1]) (ok := fun _ => True) (okp := fun _ => True) sq_h ?hp (fun _ hk => hk) trivial (Below.refl _ _) (Nat.le_refl _) (by simp) ?_; (case hp => exact (Reps.c2 (show Kd.M k48 _ _ _ (⟨a1_0, a1_1⟩ : S48) [.string a1_0, .int .i64 a1_1] from (k48_mkM _ _ _ (⟨a1_0, a1_1⟩ : S48) )) (Reps.none _ _))); intro v241 w28 ho29 hb hg_ hnew_; clear hg_ hnew_; (first | rw [← Ny240.out] at ho29 | (simp only [Int.reduceToNat] at ho29; rw [← Ny240.out] at ho29)); have n0_ := mk_ (Kd.R_elder' (sq_r HO232) (Kd.R_base ho29) hb); have n1_ := mk_ (Kd.R_lower (Kd.R_newB (Kd.R_new' ho29 (Kd.R_lt (sq_r HO232))) (g := gb228) (o := .cells #[.string a1_0, .int .i64 a1_1] 48 (0, 0)) (sq_l BK228)) (below_size (sq_g GE228.out))); have n2_ := mk_ (blk_below (g := gb228) (o := .cells #[.string a1_0, .int .i64 a1_1] 48 (0, 0)) (sq_l BK228) hb); have n3_ := mk_ (below_step (sq_g GE228.out) hb); clear HO232 BK228 HB; have HO232 := n0_; have HO242 := n1_; have BK228 := n2_; have HB := n3_; clear n0_ n1_ n2_ n3_; clear hb ho29; obtain ⟨Ao30, co30, eo30⟩ := Kd.R_slice HO242.out; subst eo30) | ((with_reducible refine gate_callee (f := 62) rfl ?_); refine goesL_ (some 33) rfl rfl Try.func62 (by kernel_rfl) rfl #[.slice Ao25 t229.length co25, .int .i64 t233, .slice Ao30 y240.length co30] rfl sq_a ?_; (with_reducible refine (slices_Insert_impl_Entry.calls (fun k_ => some k_ = (.slice Ao25 t229.length co25 : Value).ownBlock) (.slice Ao25 t229.length co25) t229 t233 _ _ y240 t243 w _ ?side1 ?side2 ?side3 ?side4 A20.out).mono ?_); (case side1 => exact sq_g GE228.out); (case side2 => exact Kd.R_tight rfl HO232.out); (case side3 => exact Kd.C_kept_own (HO242.out) (fun k_ hk_ hs_ => (hk_.1.2) hs_)); (case side4 => exact (Kd.R_reads' HO242.out).2.1); rintro e w31 ⟨v244, rfl, ho0, hb, hkp⟩; refine ⟨_, rfl, ?_⟩; have n0_ := mk_ (blk_kept (sq_l BK228) hkp (fun hs_ => (fun e_ => (Kd.R_away HO232.out (fun _ hk => hk.1.2)) e_) hs_)); have n1_ := mk_ (Kd.R_mono (ok' := fun k_ => k_ ≠ gb228 ∧ some k_ ≠ (v244 : Value).ownBlock) (Kd.R_keptB (HO242.out) hkp (fun k_ hk_ hs_ => (hk_.1.2) hs_)) (fun k_ hk_ => ⟨hk_.1.2, fun e_ => Or.elim (ho0.1 k_ e_.symm) (fun hs_ => hk_.2.1 hs_) (fun hn_ => Nat.not_le.2 hk_.2.2 hn_)⟩)); have n2_ := mk_ (Kd.R_mono (ok' := fun k_ => some k_ ≠ (.slice Ao30 y240.length co30 : Value).ownBlock ∧ k_ ≠ gb228) ho0 (fun k_ hk_ => ⟨Or.elim hk_ (fun hs_ => fun e_ => (((HO242.out).1 k_ e_.symm).1.2) hs_) (fun hn_ => (Kd.fresh' (Kd.R_lt (sq_r HO242)) k_ hn_)), Or.elim hk_ (fun hs_ => fun e_ => (Kd.R_away HO232.out (fun _ hk => hk.1.2)) (by rw [← e_]; exact hs_)) (fun hn_ => (Kd.freshB (g := gb228) (o := .cells #[.string a1_0, .int .i64 a1_1] 48 (0, 0)) (sq_l BK228) k_ hn_))⟩)); have n3_ := mk_ (hb); clear BK228 HO242 HB HO232; have BK228 := n0_; have HO242 := n1_; have HO245 := n2_; have HB := n3_; clear n0_ n1_ n2_ n3_; (try clear hb); (try clear hkp); (try clear ho0); obtain ⟨Ao32, co32, eo32⟩ := Kd.R_slice HO245.out; subst eo32) | ((with_reducible refine gate_callee (f := 45) rfl ?_); refine goesL_ (some 35) rfl rfl Try.func45 (by kernel_rfl) rfl #[.slice Ao32 t243.length co32] rfl sq_a ?_; (with_reducible refine (impl_build.calls k _ _ t243 t246 t247 _ ?side1 ?side2 A21.out).mono ?_); (case side1 => exact sq_c (Kd.R_reads' HO245.out).2.2); (case side2 => exact (Kd.R_reads' HO245.out).2.1); rintro e w33 ⟨v248, rfl, ho0, hb⟩; refine ⟨_, rfl, ?_⟩; have n0_ := mk_ (Kd.R_below (sq_r HO242) hb); have n1_ := mk_ (Kd.R_below (sq_r HO245) hb); have n2_ := mk_ (Kd.S_lower ho0 (below_size (sq_g GE228.out))); have n3_ := mk_ (blk_below (g := gb228) (o := .cells #[.string a1_0, .int .i64 a1_1] 48 (0, 0)) (sq_l BK228) hb); have n4_ := mk_ (below_step (sq_g GE228.out) hb); clear HO242 HO245 BK228 HB; have HO242 := n0_; have HO245 := n1_; have HO249 := n2_; have BK228 := n3_; have HB := n4_; clear n0_ n1_ n2_ n3_ n4_; (try clear hb); (try clear ho0)))
   go_ret2
   exact ⟨_, sq_w, sq_s HO249, sq_g GE228.out⟩
 ·replace c4 := Bool.eq_false_iff.mpr c4
  subst c4
  have H1 : (some (([] : List (S59)), false)) = some (r1, r2) := by rw [if_neg (show ¬ (false = true) by decide)] at H; exact H
  clear H
  have H := H1
  clear H1
  simp only [Option.some.injEq, Prod.mk.injEq] at H
  obtain ⟨rfl, rfl⟩ := H
  go_enter Try.func32, Try.ntmps32
  go_wp2_with (first | ((with_reducible refine gate_dst (N := 3) rfl ?_); refine box_event sq_0 (N := 3) sq_0 (cs := #[.string a1_0, .int .i64 a1_1]) (t := 48) sq_h ?_; intro gb228 hg w34 hbox hb; have n0_ := mk_ (below_step sq_b hb); have n1_ := mk_ (hbox); have n2_ := mk_ ((by rw [hg]; exact (below_size sq_b) : w.heap.size ≤ gb228)); have n3_ := mk_ ((by rw [hg]; exact (below_size sq_b) : w.heap.size ≤ gb228)); clear HB; have HB := n0_; have BK228 := n1_; have GW228 := n2_; have GE228 := n3_; clear n0_ n1_ n2_ n3_; clear hb hbox hg) | ((with_reducible refine gate_callee (f := 54) rfl ?_); refine goesL_ (some 12) rfl rfl Try.func54 (by kernel_rfl) rfl #[.slice A0 l0.length c0] rfl sq_a ?_; (with_reducible refine (impl_entries.calls k _ _ l0 t229 false _ ?side1 ?side2 A3.out).mono ?_); (case side1 => exact sq_c (Kd.C_below HR0.out HB.out)); (case side2 => exact HC0.out); rintro e w35 ⟨v231, rfl, ho0, hb⟩; refine ⟨_, rfl, ?_⟩; have n0_ := mk_ (Kd.R_lower (Kd.R_newB ho0 (g := gb228) (o := .cells #[.string a1_0, .int .i64 a1_1] 48 (0, 0)) (sq_l BK228)) (below_size (sq_g GE228.out))); have n1_ := mk_ (blk_below (g := gb228) (o := .cells #[.string a1_0, .int .i64 a1_1] 48 (0, 0)) (sq_l BK228) hb); have n2_ := mk_ (below_step (sq_g GE228.out) hb); clear BK228 HB; have HO232 := n0_; have BK228 := n1_; have HB := n2_; clear n0_ n1_ n2_; (try clear hb); (try clear ho0)))
  go_ret2
  exact ⟨_, sq_w, by first | exact Kd.S_nil _ _ _ _ _ | exact Kd.N_nil _ _ _ _ _ | exact Kd.V_nil _ _ _ _ _ | exact Kd.Q_nil _ _ _ _ _ | exact Kd.R_nil _ _ _ _ _, sq_g GE228.out⟩

end Go.Proofs.Ytkoackkimdanjaa.QFnLegs
