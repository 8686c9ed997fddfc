-- Written by this session's own program (wip/pp_patch.py, wip/pp.sh) out of the given translation. Not trusted: Lean checks it.
import Derived.Test.YtlohhmoaomlieaaQFnExactNearestOfx0
import Derived.Test.YtlohhmoaomlieaaQFnExactNearestOfx5
import Derived.Test.YtlohhmoaomlieaaQFnExactNearestOfx6
import Derived.Test.YtlohhmoaomlieaaQFnExactNearestOfx7
import Derived.Test.YtlohhmoaomlieaaQFnExactNearestOfx8
namespace Go.Proofs.Ytlohhmoaomlieaa.QFnExactNearestOf
open Go.RowKit Go.Proofs.YtlohhmoaomlieaaW.PrintWords Go.Proofs.YtlohhmoaomlieaaW.PrintLast Go.Proofs.YtlohhmoaomlieaaW.PrintMore
attribute [local go_sem] max2_int min2_int max_two min_two max_three min_three max_four min_four   -- for this text's walks alone
open Go.Proofs.Ytlohhmoaomlieaa.Ext
attribute [local go_sem high] ext_gtr ext_leq
set_option linter.unusedVariables false
set_option linter.unusedSimpArgs false

/-! ### slices_Insert_int_int: function 82 (by hand) -/
def slices_Insert_int_int.f (l0 : List Int) (a1 : Int) (l2 : List Int) : Option (List Int) := if 0 ≤ a1 ∧ a1 ≤ l0.length ∧ l0.length < 1000000 then (match l2 with | [x] => some (l0.take a1.toNat ++ [x] ++ l0.drop a1.toNat) | _ => none) else none
set_option maxHeartbeats 8000000 in
set_option maxRecDepth 100000 in
theorem slices_Insert_int_int.calls (P0_ : Nat → Prop) (u9000_ : Value) (l0 : List Int) (a1 : Int) (A2 : Option Addr) (c2 : Nat) (l2 : List Int) (r : List Int) (w0 w : World) (hB : Below w0.heap.size w0 w) (ho0 : Kd.R (Kd.int .i64) 3 w w0.heap.size P0_ u9000_ l0) (hr2 : ∀ W_, Kept w W_ (fun k_ => P0_ k_) → Kd.C (Kd.int .i64) W_ A2 l2.length l2) (hc2 : l2.length ≤ c2) (h : slices_Insert_int_int.f l0 a1 l2 = some r) :
  Calls Try.prog 82 #[u9000_, .int .i64 a1, .slice A2 l2.length c2] w fun e w' => ∃ v0_ : Value, e = .returned (v0_) ∧ Kd.R (Kd.int .i64) 3 w' w0.heap.size (fun k_ => (P0_ k_ ∨ w.heap.size ≤ k_)) v0_ r ∧ Below w0.heap.size w0 w' ∧ Kept w w' (fun k_ => P0_ k_) := by
 obtain ⟨enc, henc⟩ : ∃ enc : Int → List Value, enc = (fun x => [.int .i64 x]) := ⟨_, rfl⟩
 have hM : ∀ w base ok x cs, Kd.M (Kd.int .i64) w base ok x cs ↔ cs = enc x := by subst henc; exact (fun w base ok x cs => Iff.rfl)
 have hKo : ∀ w x cs, Kd.K (Kd.int .i64) w x cs → cs = enc x := by subst henc; exact (fun w x cs h => h)
 have hke : ∀ x, (enc x).length = 1 := by subst henc; exact fun _ => rfl
 have hone : ∀ x, ∀ v ∈ enc x, v.oneCell' = true := by intro x; exact (Kd.int .i64).K_one ((Kd.int .i64).K_of_M ((hM w 0 (fun _ => True) x (enc x)).2 rfl))
 have honeL : ∀ l : List Int, ∀ v ∈ l.flatMap enc, v.oneCell' = true := fun l v hv => by
  obtain ⟨x, _, hx⟩ := List.mem_flatMap.1 hv
  exact hone x v hx
 unfold slices_Insert_int_int.f at h
 by_cases hc : 0 ≤ a1 ∧ a1 ≤ l0.length ∧ l0.length < 1000000
 rotate_left
 ·rw [if_neg hc] at h
  exact absurd h (by simp)
 rw [if_pos hc] at h
 obtain ⟨x, rfl, rfl⟩ : ∃ x, l2 = [x] ∧ r = l0.take a1.toNat ++ [x] ++ l0.drop a1.toNat := by
  match l2, h with
  | [x], h => exact ⟨x, rfl, (Option.some.inj h).symm⟩
  | [], h => exact absurd h (by simp)
  | _ :: _ :: _, h => exact absurd h (by simp)
 obtain ⟨hi1, hi2, hi3⟩ := hc
 obtain ⟨i, rfl⟩ : ∃ i : Nat, a1 = (i : Int) := ⟨a1.toNat, by omega⟩
 rw [Int.toNat_natCast]
 clear h
 -- the new element's cells
 have hC := hr2 w (Kept.refl _ _)
 obtain ⟨ad, rfl, hca⟩ := hC.2.2 (by simp)
 have hadP : ¬ P0_ ad.block := Kd.foot_neS hr2 (by simp) (by decide)
 have hadlt : ad.block < w.heap.size := Kd.foot_ltS hr2 (by simp) (by decide)
 obtain ⟨cx, _, hKx, hcell⟩ := hca 0 x (by simp)
 obtain rfl := hKo _ _ _ hKx
 have hbk : ∀ j, (ad.add j).block = ad.block := fun j => by unfold Addr.add; split <;> rfl
 have hsrc : ∀ W : World, (∀ q, q < w.heap.size → ¬ P0_ q → W.heap[q]? = w.heap[q]?) → ∀ j v, (enc x)[j]? = some v → W.cell? (ad.add j) = some v := fun W hW j v hv => by
  have h1 := hcell j v hv
  rw [Nat.zero_mul, Nat.zero_add] at h1
  have h2 := hW ad.block hadlt hadP
  unfold World.cell? at h1 ⊢
  rw [hbk] at h1 ⊢
  rw [h2]; exact h1
 have mixed : Try.prog.follows Departure.mixedOrders = true := by kernel_rfl
 have HX := Aside0.mk hsrc
 have HCC := Aside0.mk hC
 have HB := Aside0.mk hB
 have HO := Aside0.mk ho0
 have HC2 := Aside0.mk hc2
 clear hsrc hcell hca hC hr2 hB hKx hbk
 have hlen : (([x] : List Int).length : Int) = 1 := rfl
 have hsum : wrap64 ((l0.length : Int) + 1) = (l0.length : Int) + 1 := by unfold wrap64; omega
 have hsumi : wrap64 ((i : Int) + 1) = (i : Int) + 1 := by unfold wrap64; omega
 by_cases hin : i = l0.length
 ·-- at the end
  subst hin
  rw [List.take_length, List.drop_length, List.append_nil]
  rcases R_block hM (by intro x; rw [hke]; rfl) (by decide) HO.out with ⟨rfl, rfl⟩ | ⟨g, c, cur, rfl, hbg, hok, hh, hcap, hcm, hcs, htk⟩
  ·rw [List.nil_append]
   go_enter Try.func82, Try.ntmps82
   go_wp2_with (first | ((with_reducible refine gate_builtin (b := .append) (xs := #[.tmp 23, .tmp 24]) rfl ?_); at_builtin; refine Kd.R_append_rows (Kd.int .i64) (Rr := Kd.K (Kd.int .i64) w) (w0 := w0) w0.heap.size rfl (.tmp 23) (.tmp 24) 60 3 (.int .i64 0) 8 rfl Try.underlying60 info3 rfl (by decide) (by omega) (.slice none 0 0) [] [x] (some ad) 1 c2 (fun k => P0_ k ∨ w.heap.size ≤ k) (fun _ => False) rfl rfl ?aO ?aR ?aK (fun _ h => h.elim) ?aF HB.out HB.out.size ?aL ?_; (case aO => exact Kd.R_mono HO.out (fun _ h => .inl h)); (case aR => exact HCC.out); (case aK => exact fun y cs h => (hM _ _ _ _ _).2 (hKo _ _ _ h)); (case aF => exact fun k hk => .inr hk); (case aL => decide); intro v1 w1 ho hb hg hat; have HN := Aside0.mk ho; have HNB := Aside0.mk hb; have HNG := Aside0.mk hg; clear ho hb hg hat))
   go_ret
   exact ⟨_, rfl, HN.out, HNB.out, Kept.of_grown HNG.out (Kept.refl _ _) (fun k hk => .inl (HO.out.1 k hk))⟩
  ·have hcm2 : c ≤ 9223372036854775807 := by simpa [maxLen] using hcm
   go_enter Try.func82, Try.ntmps82
   go_wp2_with (first | ((with_reducible refine gate_builtin (b := .append) (xs := #[.tmp 23, .tmp 24]) rfl ?_); at_builtin; refine Kd.R_append_rows (Kd.int .i64) (Rr := Kd.K (Kd.int .i64) w) (w0 := w0) w0.heap.size rfl (.tmp 23) (.tmp 24) 60 3 (.int .i64 0) 8 rfl Try.underlying60 info3 rfl (by decide) (by omega) (.slice (some ⟨g, 0, none⟩) l0.length c) l0 [x] (some ad) 1 c2 (fun k => P0_ k ∨ w.heap.size ≤ k) (fun _ => False) rfl rfl ?aO ?aR ?aK (fun _ h => h.elim) ?aF HB.out HB.out.size ?aL ?_; (case aO => exact Kd.R_mono HO.out (fun _ h => .inl h)); (case aR => exact HCC.out); (case aK => exact fun y cs h => (hM _ _ _ _ _).2 (hKo _ _ _ h)); (case aF => exact fun k hk => .inr hk); (case aL => omega); intro v1 w1 ho hb hg hat; have HN := Aside0.mk ho; have HNB := Aside0.mk hb; have HNG := Aside0.mk hg; clear ho hb hg hat))
   all_goals
    go_ret
    exact ⟨_, rfl, HN.out, HNB.out, Kept.of_grown HNG.out (Kept.refl _ _) (fun k hk => .inl (HO.out.1 k hk))⟩
 ·obtain ⟨g, c, cur, rfl, hbg, hok, hh, hcap, hcm, hcs, htk⟩ := (R_block hM (by intro x; rw [hke]; rfl) (by decide) HO.out).resolve_left (fun h => by rw [h.2] at hin hi2; simp at hin hi2; omega)
  have hil : i < l0.length := by omega
  have hci : ¬ (c = i) := by omega
  have hii : (i : Int) ≤ (l0.length : Int) + 1 := by omega
  have hne : ad.block ≠ g := fun e => hadP (by rw [e]; exact hok)
  have hcm2 : c ≤ 9223372036854775807 := by simpa [maxLen] using hcm
  obtain ⟨A, hA⟩ : ∃ A, A = (l0.take i).flatMap enc := ⟨_, rfl⟩
  obtain ⟨B, hBv⟩ : ∃ B, B = (l0.drop i).flatMap enc := ⟨_, rfl⟩
  obtain ⟨T, hT⟩ : ∃ T, T = cur.toList.drop (l0.length * 1) := ⟨_, rfl⟩
  have hAl : A.length = i * 1 := by rw [hA, flatMap_len hke, List.length_take, Nat.min_eq_left (by omega)]
  have hBl : B.length = (l0.length - i) * 1 := by rw [hBv, flatMap_len hke, List.length_drop]
  have hAB : cur.toList = A ++ B ++ T := by
   rw [hA, hBv, ← List.flatMap_append, List.take_append_drop, ← htk, hT]
   exact (List.take_append_drop _ _).symm
  have hTl : T.length = c * 1 - l0.length * 1 := by rw [hT, List.length_drop, Array.length_toList, hcs]; rfl
  have hB1 : ∀ v ∈ B, v.oneCell' = true := by rw [hBv]; exact honeL _
  have hcurB : ∀ j v, B[j]? = some v → cur[i * 1 + j]? = some v := fun j v hv => by
   rw [← Array.getElem?_toList, hAB, List.append_assoc, List.getElem?_append_right (by omega), hAl, Nat.add_sub_cancel_left, List.getElem?_append_left (List.getElem?_eq_some_iff.1 hv).1]
   exact hv
  have hsz : (Try.prog.info? 3).map (·.size) = some 1 := by
   obtain ⟨i0, h1, hz⟩ := Option.map_eq_some_iff.1 info3
   rw [h1]
   injection hz with _ hz
   injection hz with hz _
   simp [hz]
  have hEx : (enc x).length = 1 := hke x
  have hfin : (l0.take i ++ [x] ++ l0.drop i).flatMap enc = A ++ enc x ++ B := by rw [List.flatMap_append, List.flatMap_append, ← hA, ← hBv]; simp
  have hrl : (l0.take i ++ [x] ++ l0.drop i).length = l0.length + 1 := by simp only [List.length_append, List.length_take, List.length_drop, List.length_singleton]; omega
  have HBl := Aside0.mk hBl
  have HAl := Aside0.mk hAl
  have HTl := Aside0.mk hTl
  have HAB := Aside0.mk hAB
  have HB1 := Aside0.mk hB1
  have HCB := Aside0.mk hcurB
  have HSZ := Aside0.mk hsz
  have HEX := Aside0.mk hEx
  have HFIN := Aside0.mk hfin
  have HRL := Aside0.mk hrl
  have HH := Aside0.mk hh
  have HCS := Aside0.mk (show cur.size = c * 1 from hcs)
  have HMC := Aside0.mk hcm
  have HBG := Aside0.mk hbg
  have HOK := Aside0.mk hok
  have HM := Aside0.mk hM
  have HKE := Aside0.mk hke
  have HON := Aside0.mk hone
  have HLEN : (l0.take i ++ x :: l0.drop i) = (l0.take i ++ [x] ++ l0.drop i) := by simp
  have HLE := Aside0.mk HLEN
  have HNE := Aside0.mk hne
  clear hBl hAl hTl hAB hB1 hcurB hsz hEx hfin hrl hh hcs hcm hbg hok hM hKo hke hone honeL HLEN htk hA hBv hT henc hlen
  by_cases hroom : l0.length + 1 ≤ c
  ·have hr1 : (l0.length : Int) + 1 ≤ (c : Int) := by omega
   have hci1 : ¬ (c = i + 1) := by omega
   have HTK := Aside0.mk (show 1 ≤ T.length by have := HTl.out; omega)
   have hov : (callFunc 99 #[.slice (some ad) 1 c2, .slice (some ⟨g, (i + 1) * 1, none⟩) (l0.length - i) (c - (i + 1))]).run Try.prog w = .ok (.value (.bool false)) w := by
    rw [run_callFunc_extern Try.func99 (by kernel_rfl) (by kernel_rfl) (by kernel_rfl) (e := Extern.SlicesOverlaps.overlaps #[60, 60] #[4]) (by kernel_rfl)]
    obtain ⟨v0, hv0⟩ : ∃ v, w.cell? ad = some v := by
     have h1 := HX.out w (fun _ _ _ => rfl) 0 ((enc x)[0]'(by rw [HEX.out]; decide)) (List.getElem?_eq_getElem _)
     rw [Addr.add_zero'] at h1
     exact ⟨_, h1⟩
    rw [run_overlaps_own w 60 4 3 Try.underlying60 1 (fun W => by obtain ⟨i0, h1, hz⟩ := Option.map_eq_some_iff.1 info3; injection hz with _ hz; injection hz with hz _; simp [Go.sizeOf, typeInfo, h1, hz]) ad ⟨g, (i + 1) * 1, none⟩ 1 c2 (l0.length - i) (c - (i + 1)) HNE.out hv0 HH.out (by rw [HCS.out]; show 0 < c * 1; omega)]
    rfl
   have hov1 : (callFunc 99 #[.slice (some ad) 1 c2, .slice (some ⟨g, i + 1, none⟩) (l0.length - i) (c - (i + 1))]).run Try.prog w = .ok (.value (.bool false)) w := by have z := hov; rw [Nat.mul_one] at z; exact z
   go_enter Try.func82, Try.ntmps82
   go_wp2_with (first | simp only [hov] | simp only [hov1])
   have hqw : IntKind.i64.wrap ((i : Int) + 1) = (i : Int) + 1 := by rw [IntKind.wrap_i64]; omega
   have hqb : (0 : Int) ≤ (i : Int) + 1 := by omega
   have hqn : ((i : Int) + 1).toNat = i + 1 := by omega
   have hqi : (i : Int) + 1 ≤ (l0.length : Int) + 1 := by omega
   go_region_law_o (refine copy_block_step rfl (.tmp 73) (.tmp 76) 60 60 3 rfl 1 (l0.length - i) g ((i + 1) * 1) (l0.length - i) (c - (i + 1)) ⟨g, i * 1, none⟩ (l0.length + 1 - i) (c - i) (by simp [Act.eval, Act.put]) (by simp [Act.eval, Act.put]) cur 3 B Try.underlying60 HSZ.out HH.out (by simp only [Nat.min_def]; split <;> omega) HBl.out (fun j v hv => by rw [add_at]; exact (blk_cell (w := w.drew) HH.out _).trans (HCB.out j v hv)) (by rw [HCS.out, HBl.out]; show (i + 1) * 1 + (l0.length - i) * 1 ≤ c * 1; omega) HB1.out ?_; intro w1 hw1 hg1)
   have HW1 := Aside0.mk hw1
   have HG1 := Aside0.mk (show w.grownBy w1 (some g) from ⟨hg1.os, hg1.tape, hg1.output, hg1.size, hg1.block⟩)
   clear hw1 hg1 hov hov1 hqw hqb hqn
   go_wp2_with ((with_reducible refine gate_builtin (b := .copy) (xs := #[.tmp 80, .tmp 81]) rfl ?_); refine copy_block rfl (.tmp 80) (.tmp 81) 60 60 3 rfl 1 1 g (i * 1) (l0.length + 1 - i) (c - i) ad 1 c2 (by first | rfl | simp [Act.eval, Act.put]) rfl _ 3 (enc x) Try.underlying60 HSZ.out HW1.out (by simp only [Nat.min_def]; split <;> omega) (by rw [HEX.out]) (HX.out w1 (fun q hq hP => HG1.out.block q hq (fun e => hP (by injection e with e; rw [e]; exact HOK.out)))) ?fit (HON.out x) ?_; (case fit => simp only [List.size_toArray, List.length_append, List.length_take, List.length_drop, Array.length_toList, HCS.out, HBl.out, HEX.out]; show _ ≤ _; omega); intro w2 hw2 hg2; have HW2 := Aside0.mk hw2; have HG2 := Aside0.mk hg2; clear hw2 hg2)
   go_ret
   have hg12 := World.grownBy.trans HG1.out HG2.out
   have hsh := shift_list (A := A) (B := B) (T := T) (E := enc x) HAl.out HBl.out HEX.out HTK.out
   refine ⟨_, rfl, ?_, HB.out.grown hg12 HB.out.size (fun k hk => by injection hk with hk; rw [← hk]; exact HBG.out), Kept.of_grown hg12 (Kept.refl _ _) (fun k hk => .inl (by injection hk with hk; rw [← hk]; exact HOK.out))⟩
   rw [HLE.out]
   refine R_of_block HM.out (by intro x; rw [HKE.out]; rfl) HBG.out (.inl HOK.out) HW2.out (by rw [HRL.out]) hroom HMC.out ?_ ?_
   ·simp only [List.size_toArray, List.length_append, List.length_take, List.length_drop, Array.length_toList, HCS.out, HBl.out, HEX.out, List.toList_toArray]
    show _ = c * 1
    omega
   ·show List.take ((l0.length + 1) * 1) _ = _
    have e1 : (i + 1) * 1 = i * 1 + 1 := by omega
    rw [HFIN.out]
    simp only [List.toList_toArray, HEX.out, e1, HAB.out, HBl.out]
    rw [hsh]
    exact List.take_left' (by simp only [List.length_append]; have := HAl.out; have := HBl.out; have := HEX.out; omega)
  ·have hr1 : ¬ ((l0.length : Int) + 1 ≤ (c : Int)) := by omega
   have hr2 : (c : Int) < (l0.length : Int) + 1 := by omega
   have hqk : (l0.length : Int) + 1 - (i : Int) = ((l0.length + 1 - i : Nat) : Int) := by omega
   have HQK := Aside0.mk hqk
   clear hqk
   go_enter Try.func82, Try.ntmps82
   go_wp2_with (first | ((with_reducible refine gate_builtin (b := .append) (xs := #[.tmp 34, .tmp 39]) rfl ?_); refine zeros_new rfl (.tmp 34) (.tmp 39) 60 3 3 rfl .i64 .i64 (.int .i64 0) 1 8 Try.underlying60 Try.underlying3 info3 rfl (by decide) (by decide) g i c (l0.length + 1 - i) (l0.length + 1) (by omega) A (by first | rfl | simp [Act.eval, Act.put]) (congrArg (Value.int .i64) HQK.out) HAl.out ?cells (by omega) (by omega) (by omega) ?_; (case cells => exact fun j v hv => by rw [blk_cell HH.out, ← Array.getElem?_toList, HAB.out, List.append_assoc, List.getElem?_append_left (List.getElem?_eq_some_iff.1 hv).1]; exact hv); intro w1 G R hw1 hb1 hG1 hG2 hRs hRt; have HW1 := Aside0.mk hw1; have HBW1 := Aside0.mk hb1; have HRS := Aside0.mk hRs; have HRT := Aside0.mk hRt; have HGM := Aside0.mk hG2; have hGi : ¬ (G = i) := (by omega); have hGi1 : ¬ (G = i + 1) := (by omega); have hG3 : G ≤ 9223372036854775807 := (by simpa [maxLen] using hG2); clear hw1 hb1 hRs hRt hG2) | ((with_reducible refine gate_builtin (b := .copy) (xs := #[.tmp 43, .tmp 44]) rfl ?_); refine copy_block rfl (.tmp 43) (.tmp 44) 60 60 3 rfl 1 1 w.heap.size (i * 1) (l0.length + 1 - i) (G - i) ad 1 c2 (by first | rfl | simp [Act.eval, Act.put]) rfl R 3 (enc x) Try.underlying60 HSZ.out HW1.out (by simp only [Nat.min_def]; split <;> omega) (by rw [HEX.out]) (HX.out w1 (fun q hq _ => HBW1.out.block q hq)) (by rw [HRS.out, HEX.out]; omega) (HON.out x) ?_; intro w2 hw2 hg2; have HW2 := Aside0.mk hw2; have HG2 := Aside0.mk hg2; clear hw2 hg2))
   have HGB := Aside0.mk (show w2.heap[g]? = some (.cells cur 3 (0, 0)) from (HG2.out.block g (Nat.lt_of_lt_of_le (blk_lt HH.out) HBW1.out.size) (fun e => by injection e with e; have := blk_lt HH.out; omega)).trans ((HBW1.out.block g (blk_lt HH.out)).trans HH.out))
   have hqw : IntKind.i64.wrap ((i : Int) + 1) = (i : Int) + 1 := by rw [IntKind.wrap_i64]; omega
   have hqb : (0 : Int) ≤ (i : Int) + 1 := by omega
   have hqn : ((i : Int) + 1).toNat = i + 1 := by omega
   have hqi : (i : Int) + 1 ≤ (l0.length : Int) + 1 := by omega
   go_region_law_o (refine copy_block_step rfl (.tmp 50) (.tmp 53) 60 60 3 rfl 1 (l0.length - i) w.heap.size ((i + 1) * 1) (l0.length - i) (G - (i + 1)) ⟨g, i * 1, none⟩ (l0.length - i) (c - i) (by simp [Act.eval, Act.put]) (by simp [Act.eval, Act.put]) _ 3 B Try.underlying60 HSZ.out HW2.out (by simp only [Nat.min_def]; split <;> omega) HBl.out (fun j v hv => by rw [add_at]; exact (blk_cell (w := w2.drew) HGB.out _).trans (HCB.out j v hv)) (by simp only [List.size_toArray, List.length_append, List.length_take, List.length_drop, Array.length_toList, HRS.out, HBl.out, HEX.out]; omega) HB1.out ?_; intro w3 hw3 hg3)
   have HW3 := Aside0.mk hw3
   have HG3 := Aside0.mk (show w2.grownBy w3 (some w.heap.size) from ⟨hg3.os, hg3.tape, hg3.output, hg3.size, hg3.block⟩)
   clear hw3 hg3 hqw hqb hqn
   go_wp2
   go_ret
   have hg23 := World.grownBy.trans HG2.out HG3.out
   have hB1w := below_step HB.out HBW1.out
   refine ⟨_, rfl, ?_, hB1w.grown hg23 hB1w.size (fun k hk => by injection hk with hk; rw [← hk]; exact HB.out.size), Kept.of_grown hg23 (Kept.of_below HBW1.out _) (fun k hk => .inr (by injection hk with hk; omega))⟩
   rw [HLE.out]
   have hRL : R.toList.length = G * 1 := by rw [Array.length_toList]; exact HRS.out
   have hgl := grow_list (A := A) (B := B) (E := enc x) (R := R.toList) HRT.out HAl.out HBl.out HEX.out (by omega)
   have e1 : (i + 1) * 1 = i * 1 + 1 := by omega
   refine R_of_block HM.out (by intro x; rw [HKE.out]; rfl) HB.out.size (.inr (Nat.le_refl _)) HW3.out (by rw [HRL.out]) hG1 HGM.out ?_ ?_
   ·show _ = G * 1
    rw [List.size_toArray, ← hRL, ← hgl.2]
    simp only [List.toList_toArray, HEX.out, e1, HBl.out]
   ·show List.take ((l0.length + 1) * 1) _ = _
    rw [HFIN.out, ← hgl.1]
    simp only [List.toList_toArray, HEX.out, e1, HBl.out]
    congr 1
    omega

/-! ### impl_knots: function 45 (by hand) -/
def impl_knots.go (k : Nat) (l : List S62) (w : ByteArray) (i : Int) : Nat → Int → Option (List S62)
 | 0, _ => none
 | m + 1, at_ => if at_ < i then (if 0 ≤ at_ then (l[at_.toNat]?).bind fun x => (impl_farOf.f k x.f0 w).bind fun d => (slices_BinarySearch_int_int.f k x.f1 d).bind fun p => if p.2 = true then (if 0 ≤ p.1 ∧ p.1 < (x.f2.length : Int) then impl_knots.go k l w i m (rd x.f2 p.1) else none) else (slices_Insert_int_int.f x.f1 p.1 [d]).bind fun fs => (slices_Insert_int_int.f x.f2 p.1 [i]).bind fun ks => some (l.set at_.toNat ⟨x.f0, fs, ks⟩) else none) else some l
def impl_knots.l (k : Nat) (W : List ByteArray) : Nat → List ByteArray → List S62 → Option (List S62 × Bool)
 | _, [], acc => some (acc, true)
 | i, s :: rest, acc => (impl_isWord.f k s).bind fun b => if b = true then (slices_Contains_string_string.f k (W.take i) s).bind fun c => if c = true then some ([], false) else (impl_knots.go k (acc ++ [⟨s, [], []⟩]) s i k 0).bind fun a => impl_knots.l k W (i + 1) rest a else some ([], false)
def impl_knots.f (k : Nat) (l0 : List ByteArray) : Option (List S62 × Bool) := if l0.length > 20 then some ([], false) else impl_knots.l k l0 0 l0 []
theorem impl_knots.go_mono (l : List S62) (w : ByteArray) (i : Int) (k : Nat) : ∀ (m : Nat) (at_ : Int), LeO (impl_knots.go k l w i m at_) (impl_knots.go (k + 1) l w i (m + 1) at_)
 | 0, _ => LeO.none _
 | m + 1, at_ => by
  unfold impl_knots.go
  exact LeO.ite (LeO.ite (LeO.bind (LeO.refl _) (fun x => LeO.bind (impl_farOf.mono _ _ _) (fun d => LeO.bind (slices_BinarySearch_int_int.mono _ _ _) (fun p => LeO.ite (LeO.ite (impl_knots.go_mono l w i k m _) (LeO.none _)) (LeO.refl _))))) (LeO.none _)) (LeO.refl _)
theorem impl_knots.mono_l (k : Nat) (W : List ByteArray) : ∀ (i : Nat) (rest : List ByteArray) (acc : List S62), LeO (impl_knots.l k W i rest acc) (impl_knots.l (k + 1) W i rest acc)
 | _, [], _ => LeO.refl _
 | i, s :: rest, acc => by
  unfold impl_knots.l
  exact LeO.bind (impl_isWord.mono _ _) (fun b => LeO.ite (LeO.bind (slices_Contains_string_string.mono _ _ _) (fun c => LeO.ite (LeO.refl _) (LeO.bind (impl_knots.go_mono _ s i k k 0) (fun a => impl_knots.mono_l k W (i + 1) rest a)))) (LeO.refl _))
theorem impl_knots.mono : ∀ a0 k, LeO (impl_knots.f k a0) (impl_knots.f (k + 1) a0) := by
 intro a0 k
 unfold impl_knots.f
 exact LeO.ite (LeO.refl _) (impl_knots.mono_l k a0 0 a0 [])
set_option maxHeartbeats 8000000 in
set_option maxRecDepth 100000 in
theorem impl_knots.calls (k : Nat) (A0 : Option Addr) (c0 : Nat) (l0 : List ByteArray) (r1 : List S62) (r2 : Bool) (w : World) (hr0 : Kd.C Kd.string w A0 l0.length l0) (hc0 : l0.length ≤ c0) (h : impl_knots.f k l0 = some (r1, r2)) :
  Calls Try.prog 45 #[.slice A0 l0.length c0] w fun e w' => ∃ v0_ : Value, e = .returned (.tuple #[v0_, .bool r2]) ∧ Kd.S k62 62 w' w.heap.size (fun _ => True) v0_ r1 ∧ Below w.heap.size w w' := by
 have HR := Aside0.mk hr0
 have HC := Aside0.mk hc0
 clear hr0 hc0
 unfold impl_knots.f at h
 by_cases hlen : l0.length > 20
 ·rw [if_pos hlen] at h
  have h := Option.some.inj h
  injection h with e1 e2
  subst e1; subst e2
  have d1 : decide ((l0.length : Int) > 20) = true := decide_eq_true (by omega)
  have d1' : decide (20 < (l0.length : Int)) = true := decide_eq_true (by omega)
  have d1n : decide (20 < l0.length) = true := decide_eq_true hlen
  go_enter Try.func45, Try.ntmps45
  go_wp2_with fail
  go_ret2
  exact ⟨_, rfl, Kd.S_nil _ _ _ _ _, Below.refl _ _⟩
 ·rw [if_neg hlen] at h
  have d1 : decide ((l0.length : Int) > 20) = false := decide_eq_false (by omega)
  have d1' : decide (20 < (l0.length : Int)) = false := decide_eq_false (by omega)
  have d1n : decide (20 < l0.length) = false := decide_eq_false hlen
  have H := Aside0.mk h
  have HL := Aside0.mk (show l0.length ≤ 20 from by omega)
  have hinfo3 : (Try.prog.info? 3).map (fun i => (i.zero, i.size, i.bytes)) = some (some (.int .i64 0), 1, 8) := by kernel_rfl
  have hinfoK : (Try.prog.info? 62).map (fun i => (i.zero, i.size, i.bytes)) = some (some (.agg #[.string ⟨#[]⟩, .slice none 0 0, .slice none 0 0]), 3, 64) := by kernel_rfl
  have hinfo9 : (Try.prog.info? 9).map (fun i => (i.zero, i.size, i.bytes)) = some (some (.string ⟨#[]⟩), 1, 16) := by kernel_rfl
  clear h hlen
  go_enter Try.func45, Try.ntmps45
  go_wp2_with fail
  go_loopg [4, 17] l0.length (fun kq v4 v17 w' => ∃ (acc : List S62) (rest : List ByteArray) (i : Nat), v17 = .int .i64 i ∧ Aside0 (l0.drop i = rest) ∧ Aside0 (kq = rest.length) ∧ Aside0 (i ≤ l0.length ∧ acc.length = i) ∧ Aside0 (impl_knots.l k l0 i rest acc = some (r1, r2)) ∧ Aside0 (Kd.S k62 62 w' w.heap.size (fun _ => True) v4 acc) ∧ Aside0 (Below w.heap.size w w'))
  case atStart => exact ⟨[], l0, 0, rfl, ⟨rfl⟩, ⟨rfl⟩, ⟨Nat.zero_le _, rfl⟩, H, ⟨Kd.S_nil _ _ _ _ _⟩, ⟨Below.refl _ _⟩⟩
  case round =>
   clear H d1 d1' d1n
   obtain ⟨acc, rest, i, rfl, HD, HQ, HI, HA, HS, HB⟩ := hrel
   cases rest with
   | nil =>
    have hd := List.drop_eq_nil_iff.1 HD.out
    have c1 : decide ((i : Int) < (l0.length : Int)) = false := decide_eq_false (by omega)
    have c1n : decide (i < l0.length) = false := decide_eq_false (by omega)
    clear hd
    go_wp2_with fail
    go_ret2
    have ha := HA.out
    simp only [impl_knots.l, Option.some.injEq, Prod.mk.injEq] at ha
    obtain ⟨rfl, rfl⟩ := ha
    exact ⟨_, rfl, HS.out, HB.out⟩
   | cons s rest =>
    have hi : i < l0.length := by
     have := congrArg List.length HD.out
     rw [List.length_drop, List.length_cons] at this
     omega
    have e := List.drop_eq_getElem_cons hi
    rw [HD.out] at e
    injection e with e1 e2
    obtain ⟨ad, e3, hc⟩ := Kd.at_string HR.out (i : Int) (by omega) (by omega)
    subst e3
    have hrd : rdOf ByteArray.empty l0 (i : Int) = s := by
     unfold rdOf
     rw [Int.toNat_natCast, List.getD_eq_getElem?_getD, List.getElem?_eq_getElem hi, e1]; rfl
    rw [hrd, Int.toNat_natCast] at hc
    have hc := (HB.out.cell (World.block_lt_of_cell? w _ hc)).trans hc
    obtain ⟨i9, hi9, _, hsz9, _⟩ := info_parts hinfo9
    have hcut := cut_to 22 9 .i64 (P := Try.prog) Try.underlying22 hi9 (some ad) l0.length c0 (i : Int) (by omega) (by omega) HC.out
    rw [Int.toNat_natCast] at hcut
    have HCT := Aside0.mk (Kd.C_take (m := i) HR.out (by omega))
    have HTL := Aside0.mk (show (l0.take i).length = i by rw [List.length_take]; omega)
    have ha := HA.out
    simp only [impl_knots.l] at ha
    obtain ⟨b, hb, ha⟩ := Option.bind_eq_some_iff.mp ha
    have HIL := Aside0.mk hi
    have HE2 := Aside0.mk e2.symm
    have c1 : decide ((i : Int) < (l0.length : Int)) = true := decide_eq_true (by omega)
    have c1n : decide (i < l0.length) = true := decide_eq_true hi
    have d1 := eq_true (show (i : Int) < (l0.length : Int) by omega)
    have d1n := eq_true hi
    have d2 := eq_true (show (i : Int) ≤ (l0.length : Int) by omega)
    have d2n := eq_true (show i ≤ l0.length by omega)
    have d3 := eq_true (show i ≤ c0 by have := HC.out; omega)
    have d3i := eq_true (show (i : Int) ≤ (c0 : Int) by have := HC.out; omega)
    have hwx : wrap64 ((i : Int) + 1) = ((i + 1 : Nat) : Int) := by have := HL.out; unfold wrap64; omega
    have HWX := Aside0.mk hwx
    clear e1 e2 hrd hi HD hi9 hsz9 hwx
    cases b with
    | false =>
     rw [if_neg (by simp)] at ha
     have ha := Option.some.inj ha
     injection ha with e1 e2
     subst e1; subst e2
     go_wp2_with fail
     (with_reducible refine (impl_isWord.calls k s false _ hb).mono ?_)
     rintro e wA ⟨rfl, nd, rfl⟩
     repeat (go_quiet (fail))
     go_wp2_with fail
     go_ret2
     exact ⟨_, rfl, Kd.S_nil _ _ _ _ _, pw_below_drewN HB.out _⟩
    | true =>
     rw [if_pos rfl] at ha
     obtain ⟨c, hc2, ha⟩ := Option.bind_eq_some_iff.mp ha
     have hln : (l0.take i).length = i := HTL.out
     go_wp2_with fail
     (with_reducible refine (impl_isWord.calls k s true _ hb).mono ?_)
     rintro e wA ⟨rfl, nd, rfl⟩
     have hcc := (Below.cell (pw_below_drewN (Below.refl wr.heap.size wr) nd) (World.block_lt_of_cell? wr _ hc)).trans hc
     clear hc
     cases c with
     | true =>
      rw [if_pos rfl] at ha
      have ha := Option.some.inj ha
      injection ha with e1 e2
      subst e1; subst e2
      clear hln
      go_wp2_with ((go_at_call 80; (rw [← HTL.out]); (with_reducible refine (slices_Contains_string_string.calls k (some ad) c0 (l0.take i) s true _ ?sC ?sL hc2).mono ?_); (case sC => exact Kd.C_below (Kd.C_below HCT.out HB.out) (pw_below_drewN (Below.refl _ _) _)); (case sL => rw [HTL.out]; have := HC.out; have := HIL.out; omega); rintro e w' ⟨rfl, nd2, rfl⟩))
      go_ret2
      exact ⟨_, rfl, Kd.S_nil _ _ _ _ _, pw_below_drewN HB.out _⟩
     | false =>
      rw [if_neg (by simp)] at ha
      obtain ⟨a, hgo, ha⟩ := Option.bind_eq_some_iff.mp ha
      have HGO := Aside0.mk hgo
      have HAA := Aside0.mk ha
      clear hln hgo ha
      go_wp2_with (first | (go_at_call 80; (rw [← HTL.out]); (with_reducible refine (slices_Contains_string_string.calls k (some ad) c0 (l0.take i) s false _ ?sC ?sL hc2).mono ?_); (case sC => exact Kd.C_below (Kd.C_below HCT.out HB.out) (pw_below_drewN (Below.refl _ _) _)); (case sL => rw [HTL.out]; have := HC.out; have := HIL.out; omega); rintro e w' ⟨rfl, nd2, rfl⟩; have HSa := Aside0.mk (Kd.S_below HS.out (pw_below_drewN (Below.refl wr.heap.size wr) (nd + nd2))); have HBa := Aside0.mk (pw_below_drewN HB.out (nd + nd2))) | ((with_reducible refine gate_builtin (b := .append) (xs := #[.tmp 32, .tmp 35]) rfl ?_); at_builtin; refine Kd.S_append k62 (w0 := w) w.heap.size rfl (.tmp 32) (.tmp 35) 24 62 (.agg #[.string ⟨#[]⟩, .slice none 0 0, .slice none 0 0]) 64 rfl Try.underlying24 hinfoK rfl (by decide) (by omega) _ acc (⟨s, [], []⟩ : S62) [.string s, .slice none 0 0, .slice none 0 0] (fun _ => True) (fun _ => False) rfl rfl (k62_mk0 _ _ _ s) (fun _ h_ => h_.elim) ?aF ?aO HBa.out HBa.out.size ?aL ?_; (case aF => exact fun _ _ => trivial); (case aO => exact Kd.S_mono HSa.out (fun k_ h_ => ⟨h_, fun e_ => e_⟩)); (case aL => have h1_ := HI.out.2; have h2_ := HL.out; have h3_ := HIL.out; omega); intro v1 w1 ho hb hg hat; have HS1 := Aside0.mk ho; have HB1 := Aside0.mk hb; clear ho hb hg hat))
      obtain ⟨L, hL⟩ : ∃ L : List S62, L = acc ++ [(⟨s, [], []⟩ : S62)] := ⟨_, rfl⟩
      rw [← hL] at HS1 HGO
      have hLl : L.length = i + 1 := by rw [hL, List.length_append, List.length_singleton, HI.out.2]
      obtain ⟨g, cap, e, hgb, _, _⟩ := Kd.S_form HS1.out (by omega)
      subst e
      obtain ⟨N, hN⟩ : ∃ N, N = L.length := ⟨_, rfl⟩
      rw [← hN] at HS1 ⊢
      have HNL := Aside0.mk (show N = L.length ∧ N = i + 1 ∧ i < 20 from ⟨hN, by omega, by have := HIL.out; have := HL.out; omega⟩)
      have HGB := Aside0.mk hgb
      clear hcc HCT hcut hc2 HS HB hL hLl hN hgb HTL hb
      go_loopg [7] k (fun kq v7 w' => ∃ x : Int, v7 = .int .i64 x ∧ Aside0 (∃ m, m ≤ kq ∧ impl_knots.go k L s i m x = some a) ∧ Aside0 (Kd.S k62 62 w' w.heap.size (fun _ => True) (.slice (some ⟨g, 0, none⟩) N cap) L) ∧ Aside0 (Below w.heap.size w w'))
      case atStart => exact ⟨0, rfl, ⟨k, Nat.le_refl _, HGO.out⟩, HS1, HB1⟩
      case round =>
       clear HS1 HB1 HGO
       obtain ⟨x, rfl, HG, HSr, HBr⟩ := hrel
       obtain ⟨m, hm, hgo⟩ := HG.out
       cases m with
       | zero => simp [impl_knots.go] at hgo
       | succ m =>
        simp only [impl_knots.go] at hgo
        by_cases hxi : x < (i : Int)
        ·rw [if_pos hxi] at hgo
         by_cases h0 : 0 ≤ x
         rotate_left
         ·rw [if_neg h0] at hgo; cases hgo
         rw [if_pos h0] at hgo
         obtain ⟨n, rfl⟩ : ∃ n : Nat, x = (n : Int) := ⟨x.toNat, by omega⟩
         rw [Int.toNat_natCast] at hgo
         obtain ⟨y, hy, hgo⟩ := Option.bind_eq_some_iff.mp hgo
         obtain ⟨d, hd, hgo⟩ := Option.bind_eq_some_iff.mp hgo
         obtain ⟨⟨p, there⟩, hp, hgo⟩ := Option.bind_eq_some_iff.mp hgo
         dsimp only at hgo
         have hn : n < L.length := (List.getElem?_eq_some_iff.1 hy).1
         have hC := (Kd.S_reads' HSr.out).2.2
         obtain ⟨A1, c1, A2, c2, r0, r1, r2, l1, C1, l2, C2⟩ := spec_l12Put.at_ hC hy
         have p0 := eq_true (show (n : Int) < (N : Int) by have := HNL.out.1; omega)
         have p0n := eq_true (show n < N by have := HNL.out.1; omega)
         have dx : decide ((n : Int) < (i : Int)) = true := decide_eq_true hxi
         have dxn : decide (n < i) = true := decide_eq_true (by omega)
         have HY := Aside0.mk (And.intro hy (show n < N by have := HNL.out.1; omega))
         have HM := Aside0.mk hm
         have HGG := Aside0.mk hgo
         have C1' := Aside0.mk C1
         have C2' := Aside0.mk C2
         have L1 := Aside0.mk l1
         have L2 := Aside0.mk l2
         clear hm hgo hxi h0 hn hC hy C1 C2 l1 l2 HG
         go_wp2_with fail
         (with_reducible refine (impl_farOf.calls k y.f0 s d _ hd).mono ?_)
         rintro e wA ⟨rfl, hbA⟩
         have r0 := (hbA.cell (World.block_lt_of_cell? wr _ r0)).trans r0
         have r1 := (hbA.cell (World.block_lt_of_cell? wr _ r1)).trans r1
         have r2 := (hbA.cell (World.block_lt_of_cell? wr _ r2)).trans r2
         go_wp2_with fail
         (with_reducible refine (slices_BinarySearch_int_int.calls k A1 c1 y.f1 d p there _ (Kd.C_below C1'.out hbA) L1.out hp).mono ?_)
         rintro e wB ⟨rfl, nd3, rfl⟩
         have BB := Aside0.mk (pw_below_drewN hbA nd3)
         have r0 := (Below.cell (pw_below_drewN (Below.refl wA.heap.size wA) nd3) (World.block_lt_of_cell? wA _ r0)).trans r0
         have r1 := (Below.cell (pw_below_drewN (Below.refl wA.heap.size wA) nd3) (World.block_lt_of_cell? wA _ r1)).trans r1
         have r2 := (Below.cell (pw_below_drewN (Below.refl wA.heap.size wA) nd3) (World.block_lt_of_cell? wA _ r2)).trans r2
         clear hd hp hbA
         cases there with
         | true =>
          have hgo := HGG.out
          rw [if_pos rfl] at hgo
          by_cases hpb : 0 ≤ p ∧ p < (y.f2.length : Int)
          rotate_left
          ·rw [if_neg hpb] at hgo; cases hgo
          rw [if_pos hpb] at hgo
          have HG2 := Aside0.mk hgo
          obtain ⟨ad2, rfl, hcp⟩ := Kd.at_int (Kd.C_below C2'.out BB.out) p hpb.1 hpb.2
          have q0 := eq_true hpb.1
          have q1 := eq_true hpb.2
          clear hgo hpb HGG
          go_wp2_with fail
          go_roundg m
          case measure => have := HM.out; omega
          case rel => exact ⟨_, rfl, ⟨m, Nat.le_refl _, HG2.out⟩, ⟨Kd.S_below HSr.out BB.out⟩, ⟨below_step HBr.out BB.out⟩⟩
         | false =>
          have hgo := HGG.out
          rw [if_neg (by simp)] at hgo
          obtain ⟨fs, hfs, hgo⟩ := Option.bind_eq_some_iff.mp hgo
          obtain ⟨ks, hks, hgo⟩ := Option.bind_eq_some_iff.mp hgo
          have hgo := Option.some.inj hgo
          have HFS := Aside0.mk hfs
          have HKS := Aside0.mk hks
          have HSET := Aside0.mk hgo
          clear hfs hks hgo HGG r0 r1 r2
          obtain ⟨WC, hWC⟩ : ∃ WC, WC = wA.drewN nd3 := ⟨_, rfl⟩
          have HSC := Aside0.mk (show Kd.S k62 62 WC w.heap.size (fun _ => True) (.slice (some ⟨g, 0, none⟩) N cap) L by rw [hWC]; exact Kd.S_below HSr.out BB.out)
          have HBC := Aside0.mk (show Below w.heap.size w WC by rw [hWC]; exact below_step HBr.out BB.out)
          rw [← hWC]
          have t0 : (0 : Int) ≤ (n : Int) := by omega
          have t1 : (n : Int) < (N : Int) := by have := HY.out.2; omega
          obtain ⟨oki, cs, _, hM, hcc, hfr, hoki, hH⟩ := Kd.S_elem (Kd.S_mono (ok' := fun k_ => k_ < WC.heap.size) (Kd.S_bound HSC.out) (fun k_ h_ => h_.2.2.1)) z62 (n : Int) t0 t1
          rw [show L.getD (n : Int).toNat z62 = y by rw [Int.toNat_natCast, List.getD_eq_getElem?_getD, HY.out.1]; rfl] at hM
          obtain ⟨tt, ve1, ve2, rfl, hR1, hR2⟩ := k62_openT hM
          obtain ⟨B1, n1, rfl⟩ := Kd.R_slice hR1
          obtain ⟨B2, n2, rfl⟩ := Kd.R_slice hR2
          simp only [show (k62 : Kd S62).sz = 3 from rfl, Int.toNat_natCast] at hcc hfr
          have r1 := hcc 1 _ rfl
          have r2 := hcc 2 _ rfl
          have f1 := hfr 1
          have f2 := hfr 2
          have HR1 := Aside0.mk hR1
          have HR2 := Aside0.mk hR2
          have HH := Aside0.mk hH
          have HOK := Aside0.mk hoki
          clear hcc hfr hM hR1 hR2 hH hoki hWC p0 p0n dx dxn t0 t1 C1' C2' L1 L2 HSr HBr BB
          have hIns1 : ∀ (W : World) (b : Nat), W.heap[b]? = some (.cells #[.int .i64 d] 3 (0, 0)) → WC.heap.size ≤ b → Below WC.heap.size WC W → Calls Try.prog 82 #[.slice B1 y.f1.length n1, .int .i64 p, .slice (some ⟨b, 0, none⟩) 1 1] W fun e w' => ∃ (A9 : Option Addr) (c9 : Nat), e = .returned (.slice A9 fs.length c9) ∧ Kd.R (Kd.int .i64) 3 w' w.heap.size (fun k_ => (oki k_ ∧ tt k_ = false) ∨ W.heap.size ≤ k_) (.slice A9 fs.length c9) fs ∧ Below w.heap.size w w' ∧ Kept W w' (fun k_ => oki k_ ∧ tt k_ = false) := by
           intro W b hb hle hBW
           have h := slices_Insert_int_int.calls (fun k_ => oki k_ ∧ tt k_ = false) (.slice B1 y.f1.length n1) y.f1 p (some ⟨b, 0, none⟩) 1 [d] fs w W (below_step HBC.out hBW) (Kd.R_below HR1.out hBW) (fun W_ hk_ => C_lit1 hb hk_ (fun h_ => by have h9_ := (HOK.out _ h_.1).1; omega)) (by simp) HFS.out
           refine Calls.mono h ?_
           rintro e w9 ⟨v9, rfl, ho, hb9, hk⟩
           obtain ⟨A9, c9, e9⟩ := Kd.R_slice ho
           subst e9
           exact ⟨A9, c9, rfl, ho, hb9, hk⟩
          have hIns2 : ∀ (W : World) (b : Nat), W.heap[b]? = some (.cells #[.int .i64 (i : Int)] 3 (0, 0)) → WC.heap.size ≤ b → Below w.heap.size w W → Kept WC W (fun k_ => oki k_ ∧ tt k_ = false) → Calls Try.prog 82 #[.slice B2 y.f2.length n2, .int .i64 p, .slice (some ⟨b, 0, none⟩) 1 1] W fun e w' => ∃ (A9 : Option Addr) (c9 : Nat), e = .returned (.slice A9 ks.length c9) ∧ Kd.R (Kd.int .i64) 3 w' w.heap.size (fun k_ => (oki k_ ∧ tt k_ = true) ∨ W.heap.size ≤ k_) (.slice A9 ks.length c9) ks ∧ Below w.heap.size w w' ∧ Kept W w' (fun k_ => oki k_ ∧ tt k_ = true) := by
           intro W b hb hle hBW hkW
           have h := slices_Insert_int_int.calls (fun k_ => oki k_ ∧ tt k_ = true) (.slice B2 y.f2.length n2) y.f2 p (some ⟨b, 0, none⟩) 1 [(i : Int)] ks w W hBW (Kd.R_kept HR2.out hkW (fun k_ h_ h2_ => by rw [h_.2] at h2_; exact absurd h2_.2 (by decide))) (fun W_ hk_ => C_lit1 hb hk_ (fun h_ => by have h9_ := (HOK.out _ h_.1).1; omega)) (by simp) HKS.out
           refine Calls.mono h ?_
           rintro e w9 ⟨v9, rfl, ho, hb9, hk⟩
           obtain ⟨A9, c9, e9⟩ := Kd.R_slice ho
           subst e9
           exact ⟨A9, c9, rfl, ho, hb9, hk⟩
          have HI1 := Aside0.mk hIns1
          have HI2 := Aside0.mk hIns2
          clear hIns1 hIns2
          have al_ : ∀ (W : World) (q : Addr) (u : Value), W.cell? q = some u → ∀ o, (W.alloc o).cell? q = some u := fun W q u h o => (World.cell?_alloc_some W q o (by rw [h]; rfl)).trans h
          have r1a := al_ _ _ _ r1
          have r2a := al_ _ _ _ r2
          have r1b := fun o => al_ _ _ _ (r1a o)
          have r2b := fun o => al_ _ _ _ (r2a o)
          have AL := Aside0.mk al_
          clear al_
          have hEnd : ∀ (w9 W2 w10 : World) (A9 A10 : Option Addr) (c9 c10 : Nat), Kd.R (Kd.int .i64) 3 w9 w.heap.size (fun k_ => (oki k_ ∧ tt k_ = false) ∨ WC.heap.size ≤ k_) (.slice A9 fs.length c9) fs → Kept WC w9 (fun k_ => oki k_ ∧ tt k_ = false) → Below w9.heap.size w9 W2 → Kd.R (Kd.int .i64) 3 w10 w.heap.size (fun k_ => (oki k_ ∧ tt k_ = true) ∨ W2.heap.size ≤ k_) (.slice A10 ks.length c10) ks → Below w.heap.size w w10 → Kept W2 w10 (fun k_ => oki k_ ∧ tt k_ = true) → Kd.S k62 62 ((w10.setCell ⟨g, n * 3 + 1, none⟩ (.slice A9 fs.length c9)).setCell ⟨g, n * 3 + 2, none⟩ (.slice A10 ks.length c10)) w.heap.size (fun _ => True) (.slice (some ⟨g, 0, none⟩) N cap) a ∧ Below w.heap.size w ((w10.setCell ⟨g, n * 3 + 1, none⟩ (.slice A9 fs.length c9)).setCell ⟨g, n * 3 + 2, none⟩ (.slice A10 ks.length c10)) := by
           intro w9 W2 w10 A9 A10 c9 c10 h1 k1 b2 h2 bw k2
           have s9 : WC.heap.size ≤ w9.heap.size := k1.1
           have s2 : w9.heap.size ≤ W2.heap.size := b2.size
           have kw : Kept WC w10 (fun k_ => oki k_) := Kept.then_ (Kept.mono (Kept.below k1 b2) (fun k_ h_ => h_.1)) k2 (fun k_ h_ => Or.inl h_.1)
           have h1' : Kd.R (Kd.int .i64) 3 w10 w.heap.size (fun k_ => ((oki k_ ∧ tt k_ = false) ∨ WC.heap.size ≤ k_) ∧ k_ < w9.heap.size) (.slice A9 fs.length c9) fs := Kd.R_kept (Kd.R_below (Kd.R_mono (Kd.R_bound h1) (fun k_ h_ => ⟨h_.1, h_.2.2.1⟩)) b2) k2 (fun k_ h_ h2_ => by
            rcases h_.1 with h3_ | h3_
            ·rw [h3_.2] at h2_; exact absurd h2_.2 (by decide)
            ·have := (HOK.out k_ h2_.1).1; omega)
           have hne : ∀ k_, some k_ = (Value.slice A9 fs.length c9).ownBlock → some k_ ≠ (Value.slice A10 ks.length c10).ownBlock := fun k_ e1_ e2_ => by
            have q1 := h1'.1 k_ e1_.symm
            have q2 := h2.1 k_ e2_.symm
            rcases q2 with q2 | q2
            ·rcases q1.1 with q3 | q3
             ·rw [q3.2] at q2; exact absurd q2.2 (by decide)
             ·have := (HOK.out k_ q2.1).1; omega
            ·omega
           have hH1 := Kd.H_kept (S := fun k_ => oki k_) (Kd.H_widen (Kd.H_mono (ok' := fun _ => True) HH.out (fun _ _ => trivial))) kw (fun k_ _ hn_ hs_ => hn_ (Or.inl hs_))
           have hM := k62_mkT (fun k_ => decide (some k_ = (Value.slice A10 ks.length c10).ownBlock)) w10 w.heap.size (fun k_ => oki k_ ∨ True ∧ WC.heap.size ≤ k_) (⟨y.f0, fs, ks⟩ : S62) (Kd.R_mono (Kd.R_tight2 rfl h1') (fun k_ h_ => ⟨h_.2.1.elim (fun q_ => Or.inl q_.1) (fun q_ => Or.inr ⟨trivial, q_⟩), decide_eq_false (hne k_ h_.1)⟩)) (Kd.R_mono (Kd.R_tight2 rfl h2) (fun k_ h_ => ⟨h_.2.elim (fun q_ => Or.inl q_.1) (fun q_ => Or.inr ⟨trivial, Nat.le_trans s9 (Nat.le_trans s2 q_)⟩), decide_eq_true h_.1⟩))
           have t0 : (0 : Int) ≤ (n : Int) := by omega
           have t1 : (n : Int) < (N : Int) := by have := HY.out.2; omega
           have hgw : w.heap.size ≤ g := HGB.out
           obtain ⟨hS, _⟩ := Kd.S_seg0 hH1 t0 t1 (seg := [.slice A9 fs.length c9, .slice A10 ks.length c10]) (j := 1) (show 1 + 2 ≤ 3 from by decide) hM (fun _ h_ => h_)
           have hWW : w10.setCells g ((n : Int).toNat * (k62 : Kd S62).sz + 1) [.slice A9 fs.length c9, .slice A10 ks.length c10] = (w10.setCell ⟨g, n * 3 + 1, none⟩ (.slice A9 fs.length c9)).setCell ⟨g, n * 3 + 2, none⟩ (.slice A10 ks.length c10) := rfl
           rw [hWW, Int.toNat_natCast, HSET.out] at hS
           exact ⟨hS, (bw.setCell (p := ⟨g, n * 3 + 1, none⟩) hgw _).setCell (p := ⟨g, n * 3 + 2, none⟩) hgw _⟩
          have HEND := Aside0.mk hEnd
          clear hEnd
          go_upto_region 16 with fail
          go_cut [] (fun wx => Aside0 (Kd.S k62 62 wx w.heap.size (fun _ => True) (.slice (some ⟨g, 0, none⟩) N cap) a) ∧ Aside0 (Below w.heap.size w wx))
          case first =>
           have r2C := r2
           go_region_law (first | (go_simp; (with_reducible refine (HI1.out _ _ ?hb ?hle ?hB).mono ?_); (case hb => with_reducible repeat (first | exact blk_new _ _ | exact blk_new1 _ _ _ | (apply blk_drew) | (apply blk_alloc))); (case hle => (try simp only [alloc_size]); omega); (case hB => with_reducible repeat (first | exact Below.refl _ _ | apply below_drew | apply below_alloc)); rintro e w9 ⟨A9, c9, rfl, ho, hb, hk⟩; have HO1 := Aside0.mk (show Kd.R (Kd.int .i64) 3 w9 w.heap.size (fun k_ => (oki k_ ∧ tt k_ = false) ∨ WC.heap.size ≤ k_) (.slice A9 fs.length c9) fs from Kd.R_mono ho (fun k_ h_ => h_.elim Or.inl (fun h_ => Or.inr (Nat.le_trans (Below.size (by with_reducible repeat (first | exact Below.refl _ _ | apply below_drew | apply below_alloc))) h_)))); have HB1 := Aside0.mk hb; have HK1 := Aside0.mk (show Kept WC w9 (fun k_ => oki k_ ∧ tt k_ = false) from Kept.then_ (Kept.of_below (by with_reducible repeat (first | exact Below.refl _ _ | apply below_drew | apply below_alloc)) _) hk (fun _ h_ => Or.inl h_)); have HKR := Aside0.mk hk; have r2 := cell_kept r2 HK1.out (fun h_ => (HOK.out _ h_.1).2 rfl); have r29 := AL.out _ _ _ r2; clear ho hb hk) | (go_simp; (with_reducible refine (HI2.out _ _ ?hb ?hle ?hB ?hk).mono ?_); (case hb => first | ((with_reducible (repeat (first | exact blk_new _ _ | exact blk_new1 _ _ _ | (apply blk_drew) | (apply blk_alloc)))); done) | exact blk_below (blk_kept (by with_reducible repeat (first | exact blk_new _ _ | exact blk_new1 _ _ _ | (apply blk_drew) | (apply blk_alloc))) HKR.out (fun h_ => by have h9_ := (HOK.out _ h_.1).1; (try simp only [alloc_size] at h9_); omega)) (by with_reducible repeat (first | exact Below.refl _ _ | apply below_drew | apply below_alloc))); (case hle => have hk1_ := HK1.out.1; (try simp only [alloc_size]); omega); (case hB => with_reducible repeat (first | exact HB1.out | apply below_drew | apply below_alloc)); (case hk => exact Kept.below HK1.out (by with_reducible repeat (first | exact Below.refl _ _ | apply below_drew | apply below_alloc))); rintro e w10 ⟨A10, c10, rfl, ho, hb, hk⟩; have hEnd := HEND.out w9 _ w10 A9 A10 c9 c10 HO1.out HK1.out (by with_reducible repeat (first | exact Below.refl _ _ | apply below_drew | apply below_alloc)) ho hb hk; have hkc : Kept WC w10 (fun k_ => oki k_) := Kept.then_ (Kept.mono (Kept.below HK1.out (by with_reducible repeat (first | exact Below.refl _ _ | apply below_drew | apply below_alloc))) (fun k_ h_ => h_.1)) hk (fun k_ h_ => Or.inl h_.1); have r1' := cell_kept r1 hkc (fun h_ => (HOK.out _ h_).2 rfl); have r2' := cell_kept r2C hkc (fun h_ => (HOK.out _ h_).2 rfl); have f1' := frozen_kept f1 r1 hkc (fun h_ => (HOK.out _ h_).2 rfl); have f2' := frozen_kept f2 r2C hkc (fun h_ => (HOK.out _ h_).2 rfl); have HE := Aside0.mk hEnd; clear ho hb hk hkc hEnd))
           all_goals (first | (go_step; go_meet; exact ⟨⟨HE.out.1⟩, ⟨HE.out.2⟩⟩) | (go_wp2_with fail; go_meet; exact ⟨⟨HE.out.1⟩, ⟨HE.out.2⟩⟩))
          case rest =>
           obtain ⟨HSF, HBF⟩ := hcut
           have HWX' := HWX.out
           go_wp2_with fail
           go_roundg rest.length
           case measure => have := HQ.out; rw [List.length_cons] at this; omega
           case rel => exact ⟨a, rest, i + 1, by first | rfl | (rw [HWX']) | (congr 1), ⟨HE2.out⟩, ⟨rfl⟩, ⟨by have := HIL.out; omega, by rw [← HSET.out, List.length_set]; have := HNL.out; omega⟩, HAA, HSF, HBF⟩
        ·rw [if_neg hxi] at hgo
         have hgo := Option.some.inj hgo
         subst hgo
         have dx : decide (x < (i : Int)) = false := decide_eq_false hxi
         have HWX' := HWX.out
         clear hm hxi HG
         go_wp2_with fail
         go_roundg rest.length
         case measure => have := HQ.out; rw [List.length_cons] at this; omega
         case rel => exact ⟨L, rest, i + 1, by first | rfl | (rw [HWX']) | (congr 1), ⟨HE2.out⟩, ⟨rfl⟩, ⟨by have := HIL.out; omega, by have := HNL.out; omega⟩, HAA, HSr, HBr⟩

/-! ### impl_knotWords: function 54 -/
def impl_knotWords.l0 : Nat → List ByteArray → List (S62) → Int → Int → Option (List ByteArray)
 | 0, _, _, _, _ => none
 | k + 1, x3, x6, x7, x8 => if x8 < x7 then (if 0 ≤ x8 then (if x8 < (x6.length : Int) then (if x3.length < 8796093022208 then (impl_knotWords.l0 k (x3 ++ [(rd_T62 x6 x8).f0]) x6 x7 (wrap64 (x8 + 1))) else (none)) else (none)) else (none)) else (some x3)
def impl_knotWords.f (k : Nat) (l0 : List (S62)) : Option (List ByteArray) := impl_knotWords.l0 k ([] : List ByteArray) l0 (l0.length : Int) 0
theorem impl_knotWords.mono_l : ∀ k, (∀ y0 y1 y2 y3, LeO (impl_knotWords.l0 k y0 y1 y2 y3) (impl_knotWords.l0 (k + 1) y0 y1 y2 y3))
 | 0 => fun _ _ _ _ r h => by simp [impl_knotWords.l0] at h
 | k + 1 => by
  have ih0 := impl_knotWords.mono_l k
  ·intro y0 y1 y2 y3
   unfold impl_knotWords.l0
   repeat' first
   | (with_reducible exact ih0 _ _ _ _)
   | (with_reducible exact LeO.refl _)
   | (with_reducible exact LeO.none _)
   | (with_reducible refine LeO.ite ?_ ?_)
   | (with_reducible refine LeO.bind ?_ (fun _ => ?_))
   | exact ih0 _ _ _ _
   | exact LeO.none _
   | refine LeO.ite ?_ ?_
   | refine LeO.bind ?_ (fun _ => ?_)
theorem impl_knotWords.mono : ∀ a0 k, LeO (impl_knotWords.f k a0) (impl_knotWords.f (k + 1) a0) := by
 intro a0 k
 have ih0 := impl_knotWords.mono_l k
 unfold impl_knotWords.f
 repeat' first
   | (with_reducible exact ih0 _ _ _ _)
   | (with_reducible exact LeO.refl _)
   | (with_reducible exact LeO.none _)
   | (with_reducible refine LeO.ite ?_ ?_)
   | (with_reducible refine LeO.bind ?_ (fun _ => ?_))
   | exact ih0 _ _ _ _
   | exact LeO.none _
   | refine LeO.ite ?_ ?_
   | refine LeO.bind ?_ (fun _ => ?_)
set_option maxHeartbeats 8000000 in
set_option maxRecDepth 100000 in
theorem impl_knotWords.calls (k : Nat) (A0 : Option Addr) (c0 : Nat) (l0 : List (S62)) (r : List ByteArray) (w : World) (hr0 : Kd.C k62 w A0 l0.length l0) (hc0 : l0.length ≤ c0) (h : impl_knotWords.f k l0 = some r) :
  Calls Try.prog 54 #[.slice A0 l0.length c0] w fun e w' => ∃ v0_ : Value, e = .returned (v0_) ∧ Kd.R Kd.string 9 w' w.heap.size (fun _ => True) v0_ r ∧ Below w.heap.size w w' := by
 have hu62 := Try.underlying62
 have HR0 := Aside0.mk hr0
 have HC0 := Aside0.mk hc0
 clear hr0 hc0
 have HB := Aside0.mk (Below.refl w.heap.size w)
 have H : (impl_knotWords.l0 k ([] : List ByteArray) l0 (l0.length : Int) 0) = some r := h
 clear h
 have H' := Aside0.mk H
 clear H
 go_enter Try.func54, Try.ntmps54
 go_wp2
 go_loopg [3, 8] k (fun kq v3 v8 w' => ∃ (x3_1 : List ByteArray) (x8_1 : Int), v8 = .int .i64 x8_1 ∧ Aside0 (impl_knotWords.l0 kq x3_1 l0 (l0.length : Int) x8_1 = some r) ∧ Aside0 (kq ≤ k) ∧ Aside0 (Kd.R Kd.string 9 w' w.heap.size (fun _ => True) v3 x3_1) ∧ Aside0 (Below w.heap.size w w'))
 case atStart => exact ⟨(([] : List ByteArray)), (0), sq_e, H', ⟨Nat.le_refl _⟩, ⟨by first | exact Kd.R_nil _ _ _ _ _ | exact Kd.N_nil _ _ _ _ _ | exact Kd.V_nil _ _ _ _ _ | exact Kd.Q_nil _ _ _ _ _ | exact Kd.S_nil _ _ _ _ _⟩, ⟨sq_b⟩⟩
 case round =>
  clear H'
  obtain ⟨x3_1, x8_1, rfl, HA, HK1, HO_3, HB⟩ := hrel
  cases gk with
  | zero => exact absurd HA.out (by simp [impl_knotWords.l0])
  | succ k1 =>
   have H := HA.out
   clear HA
   simp only [impl_knotWords.l0] at H
   by_cases c2 : x8_1 < (l0.length : Int)
   ·rw [if_pos c2] at H
    have c2b0 : decide (x8_1 < (l0.length : Int)) = true := decide_eq_true c2
    clear c2
    by_cases c3 : 0 ≤ x8_1
    rotate_left
    ·rw [if_neg c3] at H
     exact absurd H (by simp)
    rw [if_pos c3] at H
    have c3b0 : decide (0 ≤ x8_1) = true := decide_eq_true c3
    clear c3
    by_cases c4 : x8_1 < (l0.length : Int)
    rotate_left
    ·rw [if_neg c4] at H
     exact absurd H (by simp)
    rw [if_pos c4] at H
    have c4b0 : decide (x8_1 < (l0.length : Int)) = true := decide_eq_true c4
    clear c4
    by_cases c5 : x3_1.length < 8796093022208
    rotate_left
    ·rw [if_neg c5] at H
     exact absurd H (by simp)
    rw [if_pos c5] at H
    have LMc5 := Aside0.mk c5
    clear c5
    obtain ⟨y240, hy240⟩ : ∃ y_ : List ByteArray, y_ = (x3_1 ++ [(rd_T62 l0 x8_1).f0]) := ⟨_, rfl⟩
    replace H : (impl_knotWords.l0 k1 y240 l0 (l0.length : Int) (wrap64 (x8_1 + 1))) = some r := by first | (rw [hy240]; with_reducible exact H) | (have H2_ := (Option.bind_some _ _).symm.trans H; rw [hy240]; with_reducible exact H2_) | (have H2_ := (Option.bind_some _ _).symm.trans H; with_reducible exact H2_) | with_reducible exact H | (rw [hy240]; exact H) | exact H
    have Ny240 := Aside0.mk hy240
    clear hy240
    have H' := Aside0.mk H
    clear H
    have p238 : 0 ≤ (x8_1 : Int) := sq_d
    have q238 : x8_1 < (l0.length : Int) := sq_d
    obtain ⟨ad238, A238_1, c238_1, A238_2, c238_2, e238, hx238_0, hx238_1, hx238_2, hl238_1, hi238_1, hl238_2, hi238_2⟩ := at_T62 HR0.out x8_1 p238 q238
    cases e238
    try replace hx238_0 := (HB.out.cell (World.block_lt_of_cell? w _ hx238_0)).trans hx238_0
    try replace hx238_1 := (HB.out.cell (World.block_lt_of_cell? w _ hx238_1)).trans hx238_1
    try replace hx238_2 := (HB.out.cell (World.block_lt_of_cell? w _ hx238_2)).trans hx238_2
    have HR238_1 := Aside0.mk hi238_1
    have HC238_1 := Aside0.mk hl238_1
    clear hi238_1 hl238_1
    have HR238_2 := Aside0.mk hi238_2
    have HC238_2 := Aside0.mk hl238_2
    clear hi238_2 hl238_2
    replace p238 := eq_true p238
    replace q238 := eq_true q238
    go_wp2_with (first | ((with_reducible refine gate_dst (N := 5) rfl ?_); refine box_event ?hg (N := 5) ?hd (cs := #[.string (⟨#[]⟩ : ByteArray), .slice none 0 0, .slice none 0 0]) (t := 62) ?hr ?_; (case hd => rfl); (case hg => rfl); (case hr => first | (go_simp; done) | (go_simp; rfl)); intro gb239 hg w6 hbox hb; have n0_ := Aside0.mk (Kd.R_below (sq_r HO_3) hb); have n1_ := Aside0.mk (below_step sq_b hb); have n2_ := Aside0.mk (hbox); have n3_ := Aside0.mk ((by rw [hg]; exact (below_size sq_b) : w.heap.size ≤ gb239)); have n4_ := Aside0.mk ((by rw [hg]; exact (below_size sq_b) : w.heap.size ≤ gb239)); clear HO_3; clear HB; have HO_3 := n0_; have HB := n1_; have BK239 := n2_; have GW239 := n3_; have GE239 := n4_; clear n0_ n1_ n2_ n3_ n4_; clear hb hbox hg; have hcz7_0 : w6.cell? ⟨gb239, 0, none⟩ = some (.string (⟨#[]⟩ : ByteArray)) := (blk_cell BK239.out 0).trans rfl; have hcz7_1 : w6.cell? ⟨gb239, 1, none⟩ = some (.slice none 0 0) := (blk_cell BK239.out 1).trans rfl; have hcz7_2 : w6.cell? ⟨gb239, 2, none⟩ = some (.slice none 0 0) := (blk_cell BK239.out 2).trans rfl; have hfz7_0 := blk_frozen BK239.out 0; have hfz7_1 := blk_frozen BK239.out 1; have hfz7_2 := blk_frozen BK239.out 2) | ((with_reducible refine gate_builtin (b := .append) (xs := #[.tmp 12, .tmp 15]) rfl ?_); at_builtin; refine Kd.R_append Kd.string (w0 := w) w.heap.size rfl (.tmp 12) (.tmp 15) 22 9 (.string ⟨#[]⟩) 16 rfl Try.underlying22 info9 rfl (by decide) (by omega) u3 x3_1 ((rd_T62 l0 x8_1).f0) [.string ((rd_T62 l0 x8_1).f0)] (fun _ => True) (fun _ => False) rfl (by first | (go_simp; done) | (go_simp; rfl)) ?aP (fun _ hk => hk.elim) ?aF ?aO ?aB ?aS ?aL ?_; (case aP => exact rfl); (case aB => exact (by repeat (first | (with_reducible first | exact HB.out | apply below_alloc | apply pw_below_drewN | apply below_drew1 | refine below_set ?_ GE239.out) | exact HB.out))); (case aF => exact (fun _ _ => trivial)); (case aO => exact (by (with_reducible repeat (first | apply Kd.R_alloc | apply Kd.R_drewN | apply Kd.R_drew)); exact Kd.R_mono (Kd.R_far (p := ⟨gb239, 2, none⟩) (Kd.R_far (p := ⟨gb239, 1, none⟩) (Kd.R_far (p := ⟨gb239, 0, none⟩) (Kd.R_types HO_3.out BK239.out (by decide)) (fun _ hk => hk.2) (.string ((rd_T62 l0 x8_1).f0))) (fun _ hk => hk.2) (.slice A238_1 ((rd_T62 l0 x8_1).f1).length c238_1)) (fun _ hk => hk.2) (.slice A238_2 ((rd_T62 l0 x8_1).f2).length c238_2)) (fun _ hk => trivial))); (case aS => exact (below_size (by repeat (first | (with_reducible first | exact HB.out | apply below_alloc | apply pw_below_drewN | apply below_drew1 | refine below_set ?_ GE239.out) | exact HB.out)))); (case aL => have := LMc5.out; omega); intro v241 w8 ho hb hg hat; rw [← Ny240.out] at ho; have n0_ := Aside0.mk (blk_grown (g := gb239) (o := .cells #[.string ((rd_T62 l0 x8_1).f0), .slice A238_1 ((rd_T62 l0 x8_1).f1).length c238_1, .slice A238_2 ((rd_T62 l0 x8_1).f2).length c238_2] 62 (0, 0)) (by (with_reducible repeat (first | refine blk_drewN ?_ _ | refine blk_drew ?_ | refine blk_alloc ?_ _)); refine blk_put (cs := #[.string ((rd_T62 l0 x8_1).f0), .slice A238_1 ((rd_T62 l0 x8_1).f1).length c238_1, .slice none 0 0]) ?_ 2 _ rfl; (with_reducible repeat (first | refine blk_drewN ?_ _ | refine blk_drew ?_ | refine blk_alloc ?_ _)); refine blk_put (cs := #[.string ((rd_T62 l0 x8_1).f0), .slice none 0 0, .slice none 0 0]) ?_ 1 _ rfl; (with_reducible repeat (first | refine blk_drewN ?_ _ | refine blk_drew ?_ | refine blk_alloc ?_ _)); refine blk_put (cs := #[.string (⟨#[]⟩ : ByteArray), .slice none 0 0, .slice none 0 0]) ?_ 0 _ rfl; (with_reducible repeat (first | refine blk_drewN ?_ _ | refine blk_drew ?_ | refine blk_alloc ?_ _)); exact BK239.out) hg (Kd.R_ne HO_3.out BK239.out (by decide))); have n1_ := Aside0.mk (hb); have n2_ := Aside0.mk (ho); clear BK239; clear HB; clear HO_3; have BK239 := n0_; have HB := n1_; have HO242 := n2_; clear n0_ n1_ n2_; clear ho hb hg hat))
    go_roundg k1
    case measure => have := HK1.out; omega
    case rel => exact ⟨(y240), (wrap64 (x8_1 + 1)), sq_e, H', ⟨by have := HK1.out; omega⟩, ⟨by (with_reducible repeat (first | apply Kd.R_alloc | apply Kd.R_drewN | apply Kd.R_drew)); exact HO242.out⟩, ⟨by repeat (first | (with_reducible first | exact HB.out | apply below_alloc | apply pw_below_drewN | apply below_drew1 | refine below_set ?_ GE239.out) | exact HB.out)⟩⟩
   ·rw [if_neg c2] at H
    have c2b0 : decide (x8_1 < (l0.length : Int)) = false := decide_eq_false c2
    clear c2
    obtain rfl := Option.some.inj H
    go_wp2
    go_ret
    exact ⟨_, sq_w, sq_r HO_3, sq_b⟩

/-! ### slices_Equal_int_int: function 57 -/
def slices_Equal_int_int.l0 : Nat → List Int → List Int → Int → Int → Option (Bool)
 | 0, _, _, _, _ => none
 | k + 1, x0, x1, x12, x13 => if x13 < x12 then (if 0 ≤ x13 then (if x13 < (x0.length : Int) then (if x13 < (x1.length : Int) then (if (rd x0 x13) = (rd x1 x13) then (slices_Equal_int_int.l0 k x0 x1 x12 (wrap64 (x13 + 1))) else (some false)) else (none)) else (none)) else (none)) else (some true)
def slices_Equal_int_int.f (k : Nat) (l0 : List Int) (l1 : List Int) : Option (Bool) := if (l0.length : Int) = (l1.length : Int) then (slices_Equal_int_int.l0 k l0 l1 (l0.length : Int) 0) else (some false)
theorem slices_Equal_int_int.mono_l : ∀ k, (∀ y0 y1 y2 y3, LeO (slices_Equal_int_int.l0 k y0 y1 y2 y3) (slices_Equal_int_int.l0 (k + 1) y0 y1 y2 y3))
 | 0 => fun _ _ _ _ r h => by simp [slices_Equal_int_int.l0] at h
 | k + 1 => by
  have ih0 := slices_Equal_int_int.mono_l k
  ·intro y0 y1 y2 y3
   unfold slices_Equal_int_int.l0
   repeat' first
   | (with_reducible exact ih0 _ _ _ _)
   | (with_reducible exact LeO.refl _)
   | (with_reducible exact LeO.none _)
   | (with_reducible refine LeO.ite ?_ ?_)
   | (with_reducible refine LeO.bind ?_ (fun _ => ?_))
   | exact ih0 _ _ _ _
   | exact LeO.none _
   | refine LeO.ite ?_ ?_
   | refine LeO.bind ?_ (fun _ => ?_)
theorem slices_Equal_int_int.mono : ∀ a0 a1 k, LeO (slices_Equal_int_int.f k a0 a1) (slices_Equal_int_int.f (k + 1) a0 a1) := by
 intro a0 a1 k
 have ih0 := slices_Equal_int_int.mono_l k
 unfold slices_Equal_int_int.f
 repeat' first
   | (with_reducible exact ih0 _ _ _ _)
   | (with_reducible exact LeO.refl _)
   | (with_reducible exact LeO.none _)
   | (with_reducible refine LeO.ite ?_ ?_)
   | (with_reducible refine LeO.bind ?_ (fun _ => ?_))
   | exact ih0 _ _ _ _
   | exact LeO.none _
   | refine LeO.ite ?_ ?_
   | refine LeO.bind ?_ (fun _ => ?_)
set_option maxHeartbeats 8000000 in
set_option maxRecDepth 100000 in
theorem slices_Equal_int_int.calls (k : Nat) (A0 : Option Addr) (c0 : Nat) (l0 : List Int) (A1 : Option Addr) (c1 : Nat) (l1 : List Int) (r : Bool) (w : World) (hr0 : Kd.C (Kd.int .i64) w A0 l0.length l0) (hc0 : l0.length ≤ c0) (hr1 : Kd.C (Kd.int .i64) w A1 l1.length l1) (hc1 : l1.length ≤ c1) (h : slices_Equal_int_int.f k l0 l1 = some r) :
  Calls Try.prog 57 #[.slice A0 l0.length c0, .slice A1 l1.length c1] w fun e w' => e = .returned (.bool r) ∧ Drawn0 w w' := by
 have HR0 := Aside0.mk hr0
 have HC0 := Aside0.mk hc0
 clear hr0 hc0
 have HR1 := Aside0.mk hr1
 have HC1 := Aside0.mk hc1
 clear hr1 hc1
 have H : (if (l0.length : Int) = (l1.length : Int) then (slices_Equal_int_int.l0 k l0 l1 (l0.length : Int) 0) else (some false)) = some r := h
 clear h
 by_cases c3 : (l0.length : Int) = (l1.length : Int)
 ·rw [if_pos c3] at H
  have c3b0 : ((l0.length : Int) == (l1.length : Int)) = true := beq_iff_eq.mpr c3
  have c3b1 : ((l0.length : Int) != (l1.length : Int)) = false := bne_eq_false_iff_eq.mpr c3
  have c3b2 : (l0.length == l1.length) = true := by first | simpa using c3 | (simp at c3 ⊢; omega)
  clear c3
  have H' := Aside0.mk H
  clear H
  go_enter Try.func57, Try.ntmps57
  go_wp2
  repeat (go_quiet (fail); try go_wp2)
  go_loopg [13] k (fun kq v13 w' => ∃ (x13_1 : Int), v13 = .int .i64 x13_1 ∧ Aside0 (slices_Equal_int_int.l0 kq l0 l1 (l0.length : Int) x13_1 = some r) ∧ Aside0 (kq ≤ k) ∧ Drawn0 w w')
  case atStart => exact ⟨(0), sq_e, H', ⟨Nat.le_refl _⟩, by repeat (first | exact Drawn0.refl _ | apply Drawn0.step)⟩
  case round =>
   clear H'
   (try clear c1); (try clear p2); (try clear c3); (try clear c3b0); (try clear c3b1); (try clear c3b2)
   obtain ⟨x13_1, rfl, HA, HK1, ⟨m1, rfl⟩⟩ := hrel
   cases gk with
   | zero => exact absurd HA.out (by simp [slices_Equal_int_int.l0])
   | succ k1 =>
    have H := HA.out
    clear HA
    simp only [slices_Equal_int_int.l0] at H
    by_cases c4 : x13_1 < (l0.length : Int)
    ·rw [if_pos c4] at H
     have c4b0 : decide (x13_1 < (l0.length : Int)) = true := decide_eq_true c4
     clear c4
     by_cases c5 : 0 ≤ x13_1
     rotate_left
     ·rw [if_neg c5] at H
      exact absurd H (by simp)
     rw [if_pos c5] at H
     have c5b0 : decide (0 ≤ x13_1) = true := decide_eq_true c5
     clear c5
     by_cases c6 : x13_1 < (l0.length : Int)
     rotate_left
     ·rw [if_neg c6] at H
      exact absurd H (by simp)
     rw [if_pos c6] at H
     have c6b0 : decide (x13_1 < (l0.length : Int)) = true := decide_eq_true c6
     clear c6
     by_cases c7 : x13_1 < (l1.length : Int)
     rotate_left
     ·rw [if_neg c7] at H
      exact absurd H (by simp)
     rw [if_pos c7] at H
     have c7b0 : decide (x13_1 < (l1.length : Int)) = true := decide_eq_true c7
     clear c7
     by_cases c8 : (rd l0 x13_1) = (rd l1 x13_1)
     ·rw [if_pos c8] at H
      have c8b0 : ((rd l0 x13_1) == (rd l1 x13_1)) = true := beq_iff_eq.mpr c8
      have c8b1 : ((rd l0 x13_1) != (rd l1 x13_1)) = false := bne_eq_false_iff_eq.mpr c8
      clear c8
      have H' := Aside0.mk H
      clear H
      have p243 : 0 ≤ (x13_1 : Int) := sq_d
      have q243 : x13_1 < (l0.length : Int) := sq_d
      obtain ⟨ad243, e243, hx243_0⟩ := Kd.at_int HR0.out x13_1 p243 q243
      cases e243
      replace p243 := eq_true p243
      replace q243 := eq_true q243
      have p244 : 0 ≤ (x13_1 : Int) := sq_d
      have q244 : x13_1 < (l1.length : Int) := sq_d
      obtain ⟨ad244, e244, hx244_0⟩ := Kd.at_int HR1.out x13_1 p244 q244
      cases e244
      replace p244 := eq_true p244
      replace q244 := eq_true q244
      go_wp2
      repeat (go_quiet (fail); try go_wp2)
      go_roundg k1
      case measure => have := HK1.out; omega
      case rel => exact ⟨(wrap64 (x13_1 + 1)), sq_e, H', ⟨by have := HK1.out; omega⟩, by repeat (first | exact Drawn0.refl _ | apply Drawn0.step)⟩
     ·rw [if_neg c8] at H
      have c8b0 : ((rd l0 x13_1) == (rd l1 x13_1)) = false := beq_eq_false_iff_ne.mpr c8
      have c8b1 : ((rd l0 x13_1) != (rd l1 x13_1)) = true := bne_iff_ne.mpr c8
      obtain rfl := Option.some.inj H
      have p243 : 0 ≤ (x13_1 : Int) := sq_d
      have q243 : x13_1 < (l0.length : Int) := sq_d
      obtain ⟨ad243, e243, hx243_0⟩ := Kd.at_int HR0.out x13_1 p243 q243
      cases e243
      replace p243 := eq_true p243
      replace q243 := eq_true q243
      have p244 : 0 ≤ (x13_1 : Int) := sq_d
      have q244 : x13_1 < (l1.length : Int) := sq_d
      obtain ⟨ad244, e244, hx244_0⟩ := Kd.at_int HR1.out x13_1 p244 q244
      cases e244
      replace p244 := eq_true p244
      replace q244 := eq_true q244
      go_wp2
      repeat (go_quiet (fail); try go_wp2)
      go_ret
      exact ⟨by first | rfl | (simp; done) | (simp [ext_bne_nil, ext_beq_nil]; done) | (simp [*]; done), by repeat (first | exact Drawn0.refl _ | apply Drawn0.step)⟩
    ·rw [if_neg c4] at H
     have c4b0 : decide (x13_1 < (l0.length : Int)) = false := decide_eq_false c4
     clear c4
     obtain rfl := Option.some.inj H
     go_wp2
     repeat (go_quiet (fail); try go_wp2)
     go_ret
     exact ⟨by first | rfl | (simp; done) | (simp [ext_bne_nil, ext_beq_nil]; done) | (simp [*]; done), by repeat (first | exact Drawn0.refl _ | apply Drawn0.step)⟩
 ·rw [if_neg c3] at H
  have c3b0 : ((l0.length : Int) == (l1.length : Int)) = false := beq_eq_false_iff_ne.mpr c3
  have c3b1 : ((l0.length : Int) != (l1.length : Int)) = true := bne_iff_ne.mpr c3
  have c3b2 : (l0.length == l1.length) = false := by first | simpa using c3 | (simp at c3 ⊢; omega)
  obtain rfl := Option.some.inj H
  go_enter Try.func57, Try.ntmps57
  go_wp2
  repeat (go_quiet (fail); try go_wp2)
  go_ret
  exact ⟨by first | rfl | (simp; done) | (simp [ext_bne_nil, ext_beq_nil]; done) | (simp [*]; done), by repeat (first | exact Drawn0.refl _ | apply Drawn0.step)⟩

/-! ### impl_GoodKnots_1: function 56 -/
def impl_GoodKnots_1.f (k : Nat) (a0_0 : ByteArray) (l0_1 : List Int) (l0_2 : List Int) (a1_0 : ByteArray) (l1_1 : List Int) (l1_2 : List Int) : Option (Bool) := if a0_0.toList = a1_0.toList then ((slices_Equal_int_int.f k l0_1 l1_1).bind fun t247 => (if t247 = true then ((slices_Equal_int_int.f k l0_2 l1_2).bind fun t248 => (some t248)) else (some false))) else (some false)
theorem impl_GoodKnots_1.mono : ∀ a0 a1 a2 a3 a4 a5 k, LeO (impl_GoodKnots_1.f k a0 a1 a2 a3 a4 a5) (impl_GoodKnots_1.f (k + 1) a0 a1 a2 a3 a4 a5) := by
 intro a0 a1 a2 a3 a4 a5 k
 unfold impl_GoodKnots_1.f
 repeat' first
   | (with_reducible exact slices_Equal_int_int.mono _ _ _)
   | (with_reducible exact LeO.refl _)
   | (with_reducible exact LeO.none _)
   | (with_reducible refine LeO.ite ?_ ?_)
   | (with_reducible refine LeO.bind ?_ (fun _ => ?_))
   | exact slices_Equal_int_int.mono _ _ _
   | exact LeO.none _
   | refine LeO.ite ?_ ?_
   | refine LeO.bind ?_ (fun _ => ?_)
set_option maxHeartbeats 8000000 in
set_option maxRecDepth 100000 in
theorem impl_GoodKnots_1.calls (k : Nat) (a0_0 : ByteArray) (A0_1 : Option Addr) (c0_1 : Nat) (l0_1 : List Int) (A0_2 : Option Addr) (c0_2 : Nat) (l0_2 : List Int) (a1_0 : ByteArray) (A1_1 : Option Addr) (c1_1 : Nat) (l1_1 : List Int) (A1_2 : Option Addr) (c1_2 : Nat) (l1_2 : List Int) (r : Bool) (w : World) (hr0_1 : Kd.C (Kd.int .i64) w A0_1 l0_1.length l0_1) (hc0_1 : l0_1.length ≤ c0_1) (hr0_2 : Kd.C (Kd.int .i64) w A0_2 l0_2.length l0_2) (hc0_2 : l0_2.length ≤ c0_2) (hr1_1 : Kd.C (Kd.int .i64) w A1_1 l1_1.length l1_1) (hc1_1 : l1_1.length ≤ c1_1) (hr1_2 : Kd.C (Kd.int .i64) w A1_2 l1_2.length l1_2) (hc1_2 : l1_2.length ≤ c1_2) (h : impl_GoodKnots_1.f k a0_0 l0_1 l0_2 a1_0 l1_1 l1_2 = some r) :
  Calls Try.prog 56 #[.agg #[.string a0_0, .slice A0_1 l0_1.length c0_1, .slice A0_2 l0_2.length c0_2], .agg #[.string a1_0, .slice A1_1 l1_1.length c1_1, .slice A1_2 l1_2.length c1_2]] w fun e w' => e = .returned (.bool r) ∧ Below w.heap.size w w' := by
 have hu62 := Try.underlying62
 have HR0_1 := Aside0.mk hr0_1
 have HC0_1 := Aside0.mk hc0_1
 clear hr0_1 hc0_1
 have HR0_2 := Aside0.mk hr0_2
 have HC0_2 := Aside0.mk hc0_2
 clear hr0_2 hc0_2
 have HR1_1 := Aside0.mk hr1_1
 have HC1_1 := Aside0.mk hc1_1
 clear hr1_1 hc1_1
 have HR1_2 := Aside0.mk hr1_2
 have HC1_2 := Aside0.mk hc1_2
 clear hr1_2 hc1_2
 have HB := Aside0.mk (Below.refl w.heap.size w)
 have H : (if a0_0.toList = a1_0.toList then ((slices_Equal_int_int.f k l0_1 l1_1).bind fun t247 => (if t247 = true then ((slices_Equal_int_int.f k l0_2 l1_2).bind fun t248 => (some t248)) else (some false))) else (some false)) = some r := h
 clear h
 by_cases c3 : a0_0.toList = a1_0.toList
 ·rw [if_pos c3] at H
  have c3b0 : (a0_0.toList == a1_0.toList) = true := beq_iff_eq.mpr c3
  have c3b1 : (a0_0.toList != a1_0.toList) = false := bne_eq_false_iff_eq.mpr c3
  clear c3
  replace H := Option.bind_eq_some_iff.mp H
  obtain ⟨t247, A40, H⟩ := H
  replace H : (if t247 = true then ((slices_Equal_int_int.f k l0_2 l1_2).bind fun t248 => (some t248)) else (some false)) = some r := H
  have A4 := Aside0.mk A40
  clear A40
  by_cases c5 : t247 = true
  ·subst c5
   have H1 : ((slices_Equal_int_int.f k l0_2 l1_2).bind fun t248 => (some t248)) = some r := by rw [if_pos rfl] at H; exact H
   clear H
   have H := H1
   clear H1
   replace H := Option.bind_eq_some_iff.mp H
   obtain ⟨t248, A60, H⟩ := H
   replace H : (some t248) = some r := H
   have A6 := Aside0.mk A60
   clear A60
   obtain rfl := Option.some.inj H
   go_enter Try.func56, Try.ntmps56
   go_wp2_with (first | ((with_reducible refine gate_dst (N := 2) rfl ?_); refine box_event ?hg (N := 2) ?hd (cs := #[.string a0_0, .slice A0_1 l0_1.length c0_1, .slice A0_2 l0_2.length c0_2]) (t := 62) ?hr ?_; (case hd => rfl); (case hg => rfl); (case hr => first | (go_simp; done) | (go_simp; rfl)); intro gb245 hg w7 hbox hb; have n0_ := Aside0.mk (below_step sq_b hb); have n1_ := Aside0.mk (hbox); have n2_ := Aside0.mk ((by rw [hg]; exact (below_size sq_b) : w.heap.size ≤ gb245)); have n3_ := Aside0.mk ((by rw [hg]; exact (below_size sq_b) : w.heap.size ≤ gb245)); clear HB; have HB := n0_; have BK245 := n1_; have GW245 := n2_; have GE245 := n3_; clear n0_ n1_ n2_ n3_; clear hb hbox hg) | ((with_reducible refine gate_dst (N := 3) rfl ?_); refine box_event ?hg (N := 3) ?hd (cs := #[.string a1_0, .slice A1_1 l1_1.length c1_1, .slice A1_2 l1_2.length c1_2]) (t := 62) ?hr ?_; (case hd => rfl); (case hg => rfl); (case hr => first | (go_simp; done) | (go_simp; rfl)); intro gb246 hg w8 hbox hb; have n0_ := Aside0.mk (blk_below (g := gb245) (o := .cells #[.string a0_0, .slice A0_1 l0_1.length c0_1, .slice A0_2 l0_2.length c0_2] 62 (0, 0)) (sq_l BK245) hb); have n1_ := Aside0.mk (below_step (by repeat (first | (with_reducible first | exact HB.out | apply below_alloc | apply pw_below_drewN | apply below_drew1 | refine below_set ?_ GE245.out) | exact HB.out)) hb); have n2_ := Aside0.mk (hbox); have n3_ := Aside0.mk ((by rw [hg]; exact (below_size (by repeat (first | (with_reducible first | exact HB.out | apply below_alloc | apply pw_below_drewN | apply below_drew1 | refine below_set ?_ GE245.out) | exact HB.out))) : w.heap.size ≤ gb246)); have n4_ := Aside0.mk ((by rw [hg]; exact (below_size (by repeat (first | (with_reducible first | exact HB.out | apply below_alloc | apply pw_below_drewN | apply below_drew1 | refine below_set ?_ GE245.out) | exact HB.out))) : w.heap.size ≤ gb246)); have n5_ := Aside0.mk ((by rw [hg]; exact Nat.ne_of_lt (blk_lt (g := gb245) (o := .cells #[.string a0_0, .slice A0_1 l0_1.length c0_1, .slice A0_2 l0_2.length c0_2] 62 (0, 0)) (sq_l BK245)) : gb245 ≠ gb246)); have n6_ := Aside0.mk ((by rw [hg]; exact Nat.ne_of_gt (blk_lt (g := gb245) (o := .cells #[.string a0_0, .slice A0_1 l0_1.length c0_1, .slice A0_2 l0_2.length c0_2] 62 (0, 0)) (sq_l BK245)) : gb246 ≠ gb245)); clear BK245; clear HB; have BK245 := n0_; have HB := n1_; have BK246 := n2_; have GW246 := n3_; have GE246 := n4_; have NB245_246 := n5_; have NB246_245 := n6_; clear n0_ n1_ n2_ n3_ n4_ n5_ n6_; clear hb hbox hg; have hnb9 := NB245_246.out; have hnc9 := NB246_245.out; have hcz10_0 : w8.cell? ⟨gb245, 0, none⟩ = some (.string a0_0) := (blk_cell BK245.out 0).trans rfl; have hcz10_1 : w8.cell? ⟨gb245, 1, none⟩ = some (.slice A0_1 l0_1.length c0_1) := (blk_cell BK245.out 1).trans rfl; have hcz10_2 : w8.cell? ⟨gb245, 2, none⟩ = some (.slice A0_2 l0_2.length c0_2) := (blk_cell BK245.out 2).trans rfl; have hfz10_0 := blk_frozen BK245.out 0; have hfz10_1 := blk_frozen BK245.out 1; have hfz10_2 := blk_frozen BK245.out 2; have hcz11_0 : w8.cell? ⟨gb246, 0, none⟩ = some (.string a1_0) := (blk_cell BK246.out 0).trans rfl; have hcz11_1 : w8.cell? ⟨gb246, 1, none⟩ = some (.slice A1_1 l1_1.length c1_1) := (blk_cell BK246.out 1).trans rfl; have hcz11_2 : w8.cell? ⟨gb246, 2, none⟩ = some (.slice A1_2 l1_2.length c1_2) := (blk_cell BK246.out 2).trans rfl; have hfz11_0 := blk_frozen BK246.out 0; have hfz11_1 := blk_frozen BK246.out 1; have hfz11_2 := blk_frozen BK246.out 2) | (go_at_call 57; (with_reducible refine (slices_Equal_int_int.calls k _ _ l0_1 _ _ l1_1 true _ ?side1 ?side2 ?side3 ?side4 A4.out).mono ?_); (case side1 => repeat (first | exact (Kd.C_below HR0_1.out HB.out) | (with_reducible refine Kd.C_alloc ?_ _) | (with_reducible refine Kd.C_drewN ?_ _) | (with_reducible refine Kd.C_drew ?_))); (case side2 => exact HC0_1.out); (case side3 => repeat (first | exact (Kd.C_below HR1_1.out HB.out) | (with_reducible refine Kd.C_alloc ?_ _) | (with_reducible refine Kd.C_drewN ?_ _) | (with_reducible refine Kd.C_drew ?_))); (case side4 => exact HC1_1.out); rintro e w' ⟨rfl, ⟨nd, rfl⟩⟩) | (go_at_call 57; (with_reducible refine (slices_Equal_int_int.calls k _ _ l0_2 _ _ l1_2 t248 _ ?side1 ?side2 ?side3 ?side4 A6.out).mono ?_); (case side1 => repeat (first | exact (Kd.C_below HR0_2.out (by repeat (first | (with_reducible first | exact HB.out | apply below_alloc | apply pw_below_drewN | apply below_drew1 | refine below_set ?_ GE245.out | refine below_set ?_ GE246.out) | exact HB.out))) | (with_reducible refine Kd.C_alloc ?_ _) | (with_reducible refine Kd.C_drewN ?_ _) | (with_reducible refine Kd.C_drew ?_))); (case side2 => exact HC0_2.out); (case side3 => repeat (first | exact (Kd.C_below HR1_2.out (by repeat (first | (with_reducible first | exact HB.out | apply below_alloc | apply pw_below_drewN | apply below_drew1 | refine below_set ?_ GE245.out | refine below_set ?_ GE246.out) | exact HB.out))) | (with_reducible refine Kd.C_alloc ?_ _) | (with_reducible refine Kd.C_drewN ?_ _) | (with_reducible refine Kd.C_drew ?_))); (case side4 => exact HC1_2.out); rintro e w' ⟨rfl, ⟨nd, rfl⟩⟩))
   go_ret
   exact ⟨sq_w, by repeat (first | (with_reducible first | exact HB.out | apply below_alloc | apply pw_below_drewN | apply below_drew1 | refine below_set ?_ GE245.out | refine below_set ?_ GE246.out) | exact HB.out)⟩
  ·replace c5 := Bool.eq_false_iff.mpr c5
   subst c5
   have H1 : (some false) = some r := by rw [if_neg (show ¬ (false = true) by decide)] at H; exact H
   clear H
   have H := H1
   clear H1
   obtain rfl := Option.some.inj H
   go_enter Try.func56, Try.ntmps56
   go_wp2_with (first | ((with_reducible refine gate_dst (N := 2) rfl ?_); refine box_event ?hg (N := 2) ?hd (cs := #[.string a0_0, .slice A0_1 l0_1.length c0_1, .slice A0_2 l0_2.length c0_2]) (t := 62) ?hr ?_; (case hd => rfl); (case hg => rfl); (case hr => first | (go_simp; done) | (go_simp; rfl)); intro gb245 hg w12 hbox hb; have n0_ := Aside0.mk (below_step sq_b hb); have n1_ := Aside0.mk (hbox); have n2_ := Aside0.mk ((by rw [hg]; exact (below_size sq_b) : w.heap.size ≤ gb245)); have n3_ := Aside0.mk ((by rw [hg]; exact (below_size sq_b) : w.heap.size ≤ gb245)); clear HB; have HB := n0_; have BK245 := n1_; have GW245 := n2_; have GE245 := n3_; clear n0_ n1_ n2_ n3_; clear hb hbox hg) | ((with_reducible refine gate_dst (N := 3) rfl ?_); refine box_event ?hg (N := 3) ?hd (cs := #[.string a1_0, .slice A1_1 l1_1.length c1_1, .slice A1_2 l1_2.length c1_2]) (t := 62) ?hr ?_; (case hd => rfl); (case hg => rfl); (case hr => first | (go_simp; done) | (go_simp; rfl)); intro gb246 hg w13 hbox hb; have n0_ := Aside0.mk (blk_below (g := gb245) (o := .cells #[.string a0_0, .slice A0_1 l0_1.length c0_1, .slice A0_2 l0_2.length c0_2] 62 (0, 0)) (sq_l BK245) hb); have n1_ := Aside0.mk (below_step (by repeat (first | (with_reducible first | exact HB.out | apply below_alloc | apply pw_below_drewN | apply below_drew1 | refine below_set ?_ GE245.out) | exact HB.out)) hb); have n2_ := Aside0.mk (hbox); have n3_ := Aside0.mk ((by rw [hg]; exact (below_size (by repeat (first | (with_reducible first | exact HB.out | apply below_alloc | apply pw_below_drewN | apply below_drew1 | refine below_set ?_ GE245.out) | exact HB.out))) : w.heap.size ≤ gb246)); have n4_ := Aside0.mk ((by rw [hg]; exact (below_size (by repeat (first | (with_reducible first | exact HB.out | apply below_alloc | apply pw_below_drewN | apply below_drew1 | refine below_set ?_ GE245.out) | exact HB.out))) : w.heap.size ≤ gb246)); have n5_ := Aside0.mk ((by rw [hg]; exact Nat.ne_of_lt (blk_lt (g := gb245) (o := .cells #[.string a0_0, .slice A0_1 l0_1.length c0_1, .slice A0_2 l0_2.length c0_2] 62 (0, 0)) (sq_l BK245)) : gb245 ≠ gb246)); have n6_ := Aside0.mk ((by rw [hg]; exact Nat.ne_of_gt (blk_lt (g := gb245) (o := .cells #[.string a0_0, .slice A0_1 l0_1.length c0_1, .slice A0_2 l0_2.length c0_2] 62 (0, 0)) (sq_l BK245)) : gb246 ≠ gb245)); clear BK245; clear HB; have BK245 := n0_; have HB := n1_; have BK246 := n2_; have GW246 := n3_; have GE246 := n4_; have NB245_246 := n5_; have NB246_245 := n6_; clear n0_ n1_ n2_ n3_ n4_ n5_ n6_; clear hb hbox hg; have hnb14 := NB245_246.out; have hnc14 := NB246_245.out; have hcz15_0 : w13.cell? ⟨gb245, 0, none⟩ = some (.string a0_0) := (blk_cell BK245.out 0).trans rfl; have hcz15_1 : w13.cell? ⟨gb245, 1, none⟩ = some (.slice A0_1 l0_1.length c0_1) := (blk_cell BK245.out 1).trans rfl; have hcz15_2 : w13.cell? ⟨gb245, 2, none⟩ = some (.slice A0_2 l0_2.length c0_2) := (blk_cell BK245.out 2).trans rfl; have hfz15_0 := blk_frozen BK245.out 0; have hfz15_1 := blk_frozen BK245.out 1; have hfz15_2 := blk_frozen BK245.out 2; have hcz16_0 : w13.cell? ⟨gb246, 0, none⟩ = some (.string a1_0) := (blk_cell BK246.out 0).trans rfl; have hcz16_1 : w13.cell? ⟨gb246, 1, none⟩ = some (.slice A1_1 l1_1.length c1_1) := (blk_cell BK246.out 1).trans rfl; have hcz16_2 : w13.cell? ⟨gb246, 2, none⟩ = some (.slice A1_2 l1_2.length c1_2) := (blk_cell BK246.out 2).trans rfl; have hfz16_0 := blk_frozen BK246.out 0; have hfz16_1 := blk_frozen BK246.out 1; have hfz16_2 := blk_frozen BK246.out 2) | (go_at_call 57; (with_reducible refine (slices_Equal_int_int.calls k _ _ l0_1 _ _ l1_1 false _ ?side1 ?side2 ?side3 ?side4 A4.out).mono ?_); (case side1 => repeat (first | exact (Kd.C_below HR0_1.out HB.out) | (with_reducible refine Kd.C_alloc ?_ _) | (with_reducible refine Kd.C_drewN ?_ _) | (with_reducible refine Kd.C_drew ?_))); (case side2 => exact HC0_1.out); (case side3 => repeat (first | exact (Kd.C_below HR1_1.out HB.out) | (with_reducible refine Kd.C_alloc ?_ _) | (with_reducible refine Kd.C_drewN ?_ _) | (with_reducible refine Kd.C_drew ?_))); (case side4 => exact HC1_1.out); rintro e w' ⟨rfl, ⟨nd, rfl⟩⟩))
   go_ret
   exact ⟨sq_w, by repeat (first | (with_reducible first | exact HB.out | apply below_alloc | apply pw_below_drewN | apply below_drew1 | refine below_set ?_ GE245.out | refine below_set ?_ GE246.out) | exact HB.out)⟩
 ·rw [if_neg c3] at H
  have c3b0 : (a0_0.toList == a1_0.toList) = false := beq_eq_false_iff_ne.mpr c3
  have c3b1 : (a0_0.toList != a1_0.toList) = true := bne_iff_ne.mpr c3
  obtain rfl := Option.some.inj H
  go_enter Try.func56, Try.ntmps56
  go_wp2_with (first | ((with_reducible refine gate_dst (N := 2) rfl ?_); refine box_event ?hg (N := 2) ?hd (cs := #[.string a0_0, .slice A0_1 l0_1.length c0_1, .slice A0_2 l0_2.length c0_2]) (t := 62) ?hr ?_; (case hd => rfl); (case hg => rfl); (case hr => first | (go_simp; done) | (go_simp; rfl)); intro gb245 hg w17 hbox hb; have n0_ := Aside0.mk (below_step sq_b hb); have n1_ := Aside0.mk (hbox); have n2_ := Aside0.mk ((by rw [hg]; exact (below_size sq_b) : w.heap.size ≤ gb245)); have n3_ := Aside0.mk ((by rw [hg]; exact (below_size sq_b) : w.heap.size ≤ gb245)); clear HB; have HB := n0_; have BK245 := n1_; have GW245 := n2_; have GE245 := n3_; clear n0_ n1_ n2_ n3_; clear hb hbox hg) | ((with_reducible refine gate_dst (N := 3) rfl ?_); refine box_event ?hg (N := 3) ?hd (cs := #[.string a1_0, .slice A1_1 l1_1.length c1_1, .slice A1_2 l1_2.length c1_2]) (t := 62) ?hr ?_; (case hd => rfl); (case hg => rfl); (case hr => first | (go_simp; done) | (go_simp; rfl)); intro gb246 hg w18 hbox hb; have n0_ := Aside0.mk (blk_below (g := gb245) (o := .cells #[.string a0_0, .slice A0_1 l0_1.length c0_1, .slice A0_2 l0_2.length c0_2] 62 (0, 0)) (sq_l BK245) hb); have n1_ := Aside0.mk (below_step (by repeat (first | (with_reducible first | exact HB.out | apply below_alloc | apply pw_below_drewN | apply below_drew1 | refine below_set ?_ GE245.out) | exact HB.out)) hb); have n2_ := Aside0.mk (hbox); have n3_ := Aside0.mk ((by rw [hg]; exact (below_size (by repeat (first | (with_reducible first | exact HB.out | apply below_alloc | apply pw_below_drewN | apply below_drew1 | refine below_set ?_ GE245.out) | exact HB.out))) : w.heap.size ≤ gb246)); have n4_ := Aside0.mk ((by rw [hg]; exact (below_size (by repeat (first | (with_reducible first | exact HB.out | apply below_alloc | apply pw_below_drewN | apply below_drew1 | refine below_set ?_ GE245.out) | exact HB.out))) : w.heap.size ≤ gb246)); have n5_ := Aside0.mk ((by rw [hg]; exact Nat.ne_of_lt (blk_lt (g := gb245) (o := .cells #[.string a0_0, .slice A0_1 l0_1.length c0_1, .slice A0_2 l0_2.length c0_2] 62 (0, 0)) (sq_l BK245)) : gb245 ≠ gb246)); have n6_ := Aside0.mk ((by rw [hg]; exact Nat.ne_of_gt (blk_lt (g := gb245) (o := .cells #[.string a0_0, .slice A0_1 l0_1.length c0_1, .slice A0_2 l0_2.length c0_2] 62 (0, 0)) (sq_l BK245)) : gb246 ≠ gb245)); clear BK245; clear HB; have BK245 := n0_; have HB := n1_; have BK246 := n2_; have GW246 := n3_; have GE246 := n4_; have NB245_246 := n5_; have NB246_245 := n6_; clear n0_ n1_ n2_ n3_ n4_ n5_ n6_; clear hb hbox hg; have hnb19 := NB245_246.out; have hnc19 := NB246_245.out; have hcz20_0 : w18.cell? ⟨gb245, 0, none⟩ = some (.string a0_0) := (blk_cell BK245.out 0).trans rfl; have hcz20_1 : w18.cell? ⟨gb245, 1, none⟩ = some (.slice A0_1 l0_1.length c0_1) := (blk_cell BK245.out 1).trans rfl; have hcz20_2 : w18.cell? ⟨gb245, 2, none⟩ = some (.slice A0_2 l0_2.length c0_2) := (blk_cell BK245.out 2).trans rfl; have hfz20_0 := blk_frozen BK245.out 0; have hfz20_1 := blk_frozen BK245.out 1; have hfz20_2 := blk_frozen BK245.out 2; have hcz21_0 : w18.cell? ⟨gb246, 0, none⟩ = some (.string a1_0) := (blk_cell BK246.out 0).trans rfl; have hcz21_1 : w18.cell? ⟨gb246, 1, none⟩ = some (.slice A1_1 l1_1.length c1_1) := (blk_cell BK246.out 1).trans rfl; have hcz21_2 : w18.cell? ⟨gb246, 2, none⟩ = some (.slice A1_2 l1_2.length c1_2) := (blk_cell BK246.out 2).trans rfl; have hfz21_0 := blk_frozen BK246.out 0; have hfz21_1 := blk_frozen BK246.out 1; have hfz21_2 := blk_frozen BK246.out 2))
  go_ret
  exact ⟨sq_w, by repeat (first | (with_reducible first | exact HB.out | apply below_alloc | apply pw_below_drewN | apply below_drew1 | refine below_set ?_ GE245.out | refine below_set ?_ GE246.out) | exact HB.out)⟩

end Go.Proofs.Ytlohhmoaomlieaa.QFnExactNearestOf
