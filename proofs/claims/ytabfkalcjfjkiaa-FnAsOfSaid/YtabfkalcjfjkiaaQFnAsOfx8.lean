-- Written by this session's own program (wip/pp_patch.py, wip/pp.sh) out of the given translation. Not trusted: Lean checks it.
import Derived.Test.YtabfkalcjfjkiaaQFnAsOfx0
namespace Go.Proofs.Ytabfkalcjfjkiaa.QFnAsOf
open Go.RowKit Go.Proofs.YtabfkalcjfjkiaaW.PrintWords Go.Proofs.YtabfkalcjfjkiaaW.PrintLast Go.Proofs.YtabfkalcjfjkiaaW.PrintMore
attribute [local go_sem] max2_int min2_int max_two min_two max_three min_three max_four min_four   -- for this text's walks alone
open Go.Proofs.Ytabfkalcjfjkiaa.Ext
attribute [local go_sem high] ext_gtr ext_leq
set_option linter.unusedVariables false
set_option linter.unusedSimpArgs false

/-! ### slices_Reverse_impl_Version: function 140 -/
def slices_Reverse_impl_Version.l0 : Nat → List (S48) → Int → Int → Option ((List (S48)))
 | 0, _, _, _ => none
 | k + 1, x0, x2, x3 => if x2 < x3 then (if 0 ≤ x3 then (if x3 < (x0.length : Int) then (if 0 ≤ x2 then (if x2 < (x0.length : Int) then (slices_Reverse_impl_Version.l0 k ((x0.set (x2 : Int).toNat (⟨(rd_T48 x0 x3).f0, (rd_T48 x0 x3).f1, (rd_T48 x0 x3).f2, (rd_T48 x0 x3).f3⟩ : S48)).set (x3 : Int).toNat (⟨(rd_T48 x0 x2).f0, (rd_T48 x0 x2).f1, (rd_T48 x0 x2).f2, (rd_T48 x0 x2).f3⟩ : S48)) (wrap64 (x2 + 1)) (wrap64 (x3 - 1))) else (none)) else (none)) else (none)) else (none)) else (some x0)
def slices_Reverse_impl_Version.f (k : Nat) (l0 : List (S48)) : Option ((List (S48))) := slices_Reverse_impl_Version.l0 k l0 0 (wrap64 ((l0.length : Int) - 1))
theorem slices_Reverse_impl_Version.mono_l : ∀ k, (∀ y0 y1 y2, LeO (slices_Reverse_impl_Version.l0 k y0 y1 y2) (slices_Reverse_impl_Version.l0 (k + 1) y0 y1 y2))
 | 0 => fun _ _ _ r h => by simp [slices_Reverse_impl_Version.l0] at h
 | k + 1 => by
  have ih0 := slices_Reverse_impl_Version.mono_l k
  ·intro y0 y1 y2
   unfold slices_Reverse_impl_Version.l0
   repeat' first
   | (with_reducible exact ih0 _ _ _)
   | (with_reducible exact LeO.refl _)
   | (with_reducible exact LeO.none _)
   | (with_reducible refine LeO.ite ?_ ?_)
   | (with_reducible refine LeO.bind ?_ (fun _ => ?_))
   | exact ih0 _ _ _
   | exact LeO.none _
   | refine LeO.ite ?_ ?_
   | refine LeO.bind ?_ (fun _ => ?_)
theorem slices_Reverse_impl_Version.mono : ∀ a0 k, LeO (slices_Reverse_impl_Version.f k a0) (slices_Reverse_impl_Version.f (k + 1) a0) := by
 intro a0 k
 have ih0 := slices_Reverse_impl_Version.mono_l k
 unfold slices_Reverse_impl_Version.f
 repeat' first
   | (with_reducible exact ih0 _ _ _)
   | (with_reducible exact LeO.refl _)
   | (with_reducible exact LeO.none _)
   | (with_reducible refine LeO.ite ?_ ?_)
   | (with_reducible refine LeO.bind ?_ (fun _ => ?_))
   | exact ih0 _ _ _
   | exact LeO.none _
   | refine LeO.ite ?_ ?_
   | refine LeO.bind ?_ (fun _ => ?_)
-- NOT PRINTED: function 126 (slices_rotateLeft_impl_Version)

-- NOT PRINTED: function 115 (slices_rotateRight_impl_Version)

/-! ### slices_Insert_impl_Version: function 79 (by hand) -/
def slices_Insert_impl_Version.f (l0 : List S48) (a1 : Int) (l2 : List S48) : Option (List S48) := if 0 ≤ a1 ∧ a1 ≤ l0.length ∧ l0.length < 1000000 then (match l2 with | [x] => some (l0.take a1.toNat ++ [x] ++ l0.drop a1.toNat) | _ => none) else none
set_option maxHeartbeats 8000000 in
set_option maxRecDepth 100000 in
theorem slices_Insert_impl_Version.calls (P0_ : Nat → Prop) (u9000_ : Value) (l0 : List S48) (a1 : Int) (A2 : Option Addr) (c2 : Nat) (l2 : List S48) (r : List S48) (w0 w : World) (hB : Below w0.heap.size w0 w) (ho0 : Kd.R k48 48 w w0.heap.size P0_ u9000_ l0) (hr2 : ∀ W_, Kept w W_ (fun k_ => P0_ k_) → Kd.C k48 W_ A2 l2.length l2) (hc2 : l2.length ≤ c2) (h : slices_Insert_impl_Version.f l0 a1 l2 = some r) :
  Calls Try.prog 79 #[u9000_, .int .i64 a1, .slice A2 l2.length c2] w fun e w' => ∃ v0_ : Value, e = .returned (v0_) ∧ Kd.R k48 48 w' w0.heap.size (fun k_ => (P0_ k_ ∨ w.heap.size ≤ k_)) v0_ r ∧ Below w0.heap.size w0 w' ∧ Kept w w' (fun k_ => P0_ k_) := by
 obtain ⟨enc, henc⟩ : ∃ enc : S48 → List Value, enc = (fun x => [.string x.f0, .int .i64 x.f1, .bool x.f2, .string x.f3]) := ⟨_, rfl⟩
 have hM : ∀ w base ok x cs, Kd.M k48 w base ok x cs ↔ cs = enc x := by subst henc; exact (fun w base ok x cs => ⟨fun h => k48_openM h, fun h => by rw [h]; exact k48_mkM w base ok x⟩)
 have hKo : ∀ w x cs, Kd.K k48 w x cs → cs = enc x := by subst henc; exact (fun w x cs h => k48_open h)
 have hke : ∀ x, (enc x).length = 4 := by subst henc; exact fun _ => rfl
 have hone : ∀ x, ∀ v ∈ enc x, v.oneCell' = true := by intro x; exact k48.K_one (k48.K_of_M ((hM w 0 (fun _ => True) x (enc x)).2 rfl))
 have honeL : ∀ l : List S48, ∀ v ∈ l.flatMap enc, v.oneCell' = true := fun l v hv => by
  obtain ⟨x, _, hx⟩ := List.mem_flatMap.1 hv
  exact hone x v hx
 unfold slices_Insert_impl_Version.f at h
 by_cases hc : 0 ≤ a1 ∧ a1 ≤ l0.length ∧ l0.length < 1000000
 rotate_left
 ·rw [if_neg hc] at h
  exact absurd h (by simp)
 rw [if_pos hc] at h
 obtain ⟨x, rfl, rfl⟩ : ∃ x, l2 = [x] ∧ r = l0.take a1.toNat ++ [x] ++ l0.drop a1.toNat := by
  match l2, h with
  | [x], h => exact ⟨x, rfl, (Option.some.inj h).symm⟩
  | [], h => exact absurd h (by simp)
  | _ :: _ :: _, h => exact absurd h (by simp)
 obtain ⟨hi1, hi2, hi3⟩ := hc
 obtain ⟨i, rfl⟩ : ∃ i : Nat, a1 = (i : Int) := ⟨a1.toNat, by omega⟩
 rw [Int.toNat_natCast]
 clear h
 -- the new element's cells
 have hC := hr2 w (Kept.refl _ _)
 obtain ⟨ad, rfl, hca⟩ := hC.2.2 (by simp)
 have hadP : ¬ P0_ ad.block := Kd.foot_neS hr2 (by simp) (by decide)
 have hadlt : ad.block < w.heap.size := Kd.foot_ltS hr2 (by simp) (by decide)
 obtain ⟨cx, _, hKx, hcell⟩ := hca 0 x (by simp)
 obtain rfl := hKo _ _ _ hKx
 have hbk : ∀ j, (ad.add j).block = ad.block := fun j => by unfold Addr.add; split <;> rfl
 have hsrc : ∀ W : World, (∀ q, q < w.heap.size → ¬ P0_ q → W.heap[q]? = w.heap[q]?) → ∀ j v, (enc x)[j]? = some v → W.cell? (ad.add j) = some v := fun W hW j v hv => by
  have h1 := hcell j v hv
  rw [Nat.zero_mul, Nat.zero_add] at h1
  have h2 := hW ad.block hadlt hadP
  unfold World.cell? at h1 ⊢
  rw [hbk] at h1 ⊢
  rw [h2]; exact h1
 have mixed : Try.prog.follows Departure.mixedOrders = true := by kernel_rfl
 have HX := Aside0.mk hsrc
 have HCC := Aside0.mk hC
 have HB := Aside0.mk hB
 have HO := Aside0.mk ho0
 have HC2 := Aside0.mk hc2
 clear hsrc hcell hca hC hr2 hB hKx hbk
 have hlen : (([x] : List S48).length : Int) = 1 := rfl
 have hsum : wrap64 ((l0.length : Int) + 1) = (l0.length : Int) + 1 := by unfold wrap64; omega
 have hsumi : wrap64 ((i : Int) + 1) = (i : Int) + 1 := by unfold wrap64; omega
 by_cases hin : i = l0.length
 ·-- at the end
  subst hin
  rw [List.take_length, List.drop_length, List.append_nil]
  rcases R_block hM (by intro x; rw [hke]; rfl) (by decide) HO.out with ⟨rfl, rfl⟩ | ⟨g, c, cur, rfl, hbg, hok, hh, hcap, hcm, hcs, htk⟩
  ·rw [List.nil_append]
   go_enter Try.func79, Try.ntmps79
   go_wp2_with (first | ((with_reducible refine gate_builtin (b := .append) (xs := #[.tmp 23, .tmp 24]) rfl ?_); at_builtin; refine Kd.R_append_rows k48 (Rr := Kd.K k48 w) (w0 := w0) w0.heap.size rfl (.tmp 23) (.tmp 24) 44 48 (.agg #[(.string ⟨#[]⟩), (.int .i64 0), (.bool false), (.string ⟨#[]⟩)]) 48 rfl Try.underlying44 info48 rfl (by decide) (by omega) (.slice none 0 0) [] [x] (some ad) 1 c2 (fun k => P0_ k ∨ w.heap.size ≤ k) (fun _ => False) rfl rfl ?aO ?aR ?aK (fun _ h => h.elim) ?aF HB.out HB.out.size ?aL ?_; (case aO => exact Kd.R_mono HO.out (fun _ h => .inl h)); (case aR => exact HCC.out); (case aK => exact fun y cs h => (hM _ _ _ _ _).2 (hKo _ _ _ h)); (case aF => exact fun k hk => .inr hk); (case aL => decide); intro v1 w1 ho hb hg hat; have HN := Aside0.mk ho; have HNB := Aside0.mk hb; have HNG := Aside0.mk hg; clear ho hb hg hat))
   go_ret
   exact ⟨_, rfl, HN.out, HNB.out, Kept.of_grown HNG.out (Kept.refl _ _) (fun k hk => .inl (HO.out.1 k hk))⟩
  ·have hcm2 : c ≤ 9223372036854775807 := by simpa [maxLen] using hcm
   go_enter Try.func79, Try.ntmps79
   go_wp2_with (first | ((with_reducible refine gate_builtin (b := .append) (xs := #[.tmp 23, .tmp 24]) rfl ?_); at_builtin; refine Kd.R_append_rows k48 (Rr := Kd.K k48 w) (w0 := w0) w0.heap.size rfl (.tmp 23) (.tmp 24) 44 48 (.agg #[(.string ⟨#[]⟩), (.int .i64 0), (.bool false), (.string ⟨#[]⟩)]) 48 rfl Try.underlying44 info48 rfl (by decide) (by omega) (.slice (some ⟨g, 0, none⟩) l0.length c) l0 [x] (some ad) 1 c2 (fun k => P0_ k ∨ w.heap.size ≤ k) (fun _ => False) rfl rfl ?aO ?aR ?aK (fun _ h => h.elim) ?aF HB.out HB.out.size ?aL ?_; (case aO => exact Kd.R_mono HO.out (fun _ h => .inl h)); (case aR => exact HCC.out); (case aK => exact fun y cs h => (hM _ _ _ _ _).2 (hKo _ _ _ h)); (case aF => exact fun k hk => .inr hk); (case aL => omega); intro v1 w1 ho hb hg hat; have HN := Aside0.mk ho; have HNB := Aside0.mk hb; have HNG := Aside0.mk hg; clear ho hb hg hat))
   all_goals
    go_ret
    exact ⟨_, rfl, HN.out, HNB.out, Kept.of_grown HNG.out (Kept.refl _ _) (fun k hk => .inl (HO.out.1 k hk))⟩
 ·obtain ⟨g, c, cur, rfl, hbg, hok, hh, hcap, hcm, hcs, htk⟩ := (R_block hM (by intro x; rw [hke]; rfl) (by decide) HO.out).resolve_left (fun h => by rw [h.2] at hin hi2; simp at hin hi2; omega)
  have hil : i < l0.length := by omega
  have hci : ¬ (c = i) := by omega
  have hii : (i : Int) ≤ (l0.length : Int) + 1 := by omega
  have hne : ad.block ≠ g := fun e => hadP (by rw [e]; exact hok)
  have hcm2 : c ≤ 9223372036854775807 := by simpa [maxLen] using hcm
  obtain ⟨A, hA⟩ : ∃ A, A = (l0.take i).flatMap enc := ⟨_, rfl⟩
  obtain ⟨B, hBv⟩ : ∃ B, B = (l0.drop i).flatMap enc := ⟨_, rfl⟩
  obtain ⟨T, hT⟩ : ∃ T, T = cur.toList.drop (l0.length * 4) := ⟨_, rfl⟩
  have hAl : A.length = i * 4 := by rw [hA, flatMap_len hke, List.length_take, Nat.min_eq_left (by omega)]
  have hBl : B.length = (l0.length - i) * 4 := by rw [hBv, flatMap_len hke, List.length_drop]
  have hAB : cur.toList = A ++ B ++ T := by
   rw [hA, hBv, ← List.flatMap_append, List.take_append_drop, ← htk, hT]
   exact (List.take_append_drop _ _).symm
  have hTl : T.length = c * 4 - l0.length * 4 := by rw [hT, List.length_drop, Array.length_toList, hcs]; rfl
  have hB1 : ∀ v ∈ B, v.oneCell' = true := by rw [hBv]; exact honeL _
  have hcurB : ∀ j v, B[j]? = some v → cur[i * 4 + j]? = some v := fun j v hv => by
   rw [← Array.getElem?_toList, hAB, List.append_assoc, List.getElem?_append_right (by omega), hAl, Nat.add_sub_cancel_left, List.getElem?_append_left (List.getElem?_eq_some_iff.1 hv).1]
   exact hv
  have hsz : (Try.prog.info? 48).map (·.size) = some 4 := by
   obtain ⟨i0, h1, hz⟩ := Option.map_eq_some_iff.1 info48
   rw [h1]
   injection hz with _ hz
   injection hz with hz _
   simp [hz]
  have hEx : (enc x).length = 4 := hke x
  have hfin : (l0.take i ++ [x] ++ l0.drop i).flatMap enc = A ++ enc x ++ B := by rw [List.flatMap_append, List.flatMap_append, ← hA, ← hBv]; simp
  have hrl : (l0.take i ++ [x] ++ l0.drop i).length = l0.length + 1 := by simp only [List.length_append, List.length_take, List.length_drop, List.length_singleton]; omega
  have HBl := Aside0.mk hBl
  have HAl := Aside0.mk hAl
  have HTl := Aside0.mk hTl
  have HAB := Aside0.mk hAB
  have HB1 := Aside0.mk hB1
  have HCB := Aside0.mk hcurB
  have HSZ := Aside0.mk hsz
  have HEX := Aside0.mk hEx
  have HFIN := Aside0.mk hfin
  have HRL := Aside0.mk hrl
  have HH := Aside0.mk hh
  have HCS := Aside0.mk (show cur.size = c * 4 from hcs)
  have HMC := Aside0.mk hcm
  have HBG := Aside0.mk hbg
  have HOK := Aside0.mk hok
  have HM := Aside0.mk hM
  have HKE := Aside0.mk hke
  have HON := Aside0.mk hone
  have HLEN : (l0.take i ++ x :: l0.drop i) = (l0.take i ++ [x] ++ l0.drop i) := by simp
  have HLE := Aside0.mk HLEN
  have HNE := Aside0.mk hne
  clear hBl hAl hTl hAB hB1 hcurB hsz hEx hfin hrl hh hcs hcm hbg hok hM hKo hke hone honeL HLEN htk hA hBv hT henc hlen
  by_cases hroom : l0.length + 1 ≤ c
  ·have hr1 : (l0.length : Int) + 1 ≤ (c : Int) := by omega
   have hci1 : ¬ (c = i + 1) := by omega
   have HTK := Aside0.mk (show 4 ≤ T.length by have := HTl.out; omega)
   have hov : (callFunc 114 #[.slice (some ad) 1 c2, .slice (some ⟨g, (i + 1) * 4, none⟩) (l0.length - i) (c - (i + 1))]).run Try.prog w = .ok (.value (.bool false)) w := by
    rw [run_callFunc_extern Try.func114 (by kernel_rfl) (by kernel_rfl) (by kernel_rfl) (e := Extern.SlicesOverlaps.overlaps #[44, 44] #[4]) (by kernel_rfl)]
    obtain ⟨v0, hv0⟩ : ∃ v, w.cell? ad = some v := by
     have h1 := HX.out w (fun _ _ _ => rfl) 0 ((enc x)[0]'(by rw [HEX.out]; decide)) (List.getElem?_eq_getElem _)
     rw [Addr.add_zero'] at h1
     exact ⟨_, h1⟩
    rw [run_overlaps_own w 44 4 48 Try.underlying44 4 (fun W => by obtain ⟨i0, h1, hz⟩ := Option.map_eq_some_iff.1 info48; injection hz with _ hz; injection hz with hz _; simp [Go.sizeOf, typeInfo, h1, hz]) ad ⟨g, (i + 1) * 4, none⟩ 1 c2 (l0.length - i) (c - (i + 1)) HNE.out hv0 HH.out (by rw [HCS.out]; show 0 < c * 4; omega)]
    rfl
   go_enter Try.func79, Try.ntmps79
   go_wp2_with (simp only [hov])
   have hqw : IntKind.i64.wrap ((i : Int) + 1) = (i : Int) + 1 := by rw [IntKind.wrap_i64]; omega
   have hqb : (0 : Int) ≤ (i : Int) + 1 := by omega
   have hqn : ((i : Int) + 1).toNat = i + 1 := by omega
   have hqi : (i : Int) + 1 ≤ (l0.length : Int) + 1 := by omega
   go_region_law_o (refine copy_block_step rfl (.tmp 73) (.tmp 76) 44 44 48 rfl 4 (l0.length - i) g ((i + 1) * 4) (l0.length - i) (c - (i + 1)) ⟨g, i * 4, none⟩ (l0.length + 1 - i) (c - i) (by simp [Act.eval, Act.put]) (by simp [Act.eval, Act.put]) cur 48 B Try.underlying44 HSZ.out HH.out (by simp only [Nat.min_def]; split <;> omega) HBl.out (fun j v hv => by rw [add_at]; exact (blk_cell (w := w.drew) HH.out _).trans (HCB.out j v hv)) (by rw [HCS.out, HBl.out]; show (i + 1) * 4 + (l0.length - i) * 4 ≤ c * 4; omega) HB1.out ?_; intro w1 hw1 hg1)
   have HW1 := Aside0.mk hw1
   have HG1 := Aside0.mk (show w.grownBy w1 (some g) from ⟨hg1.os, hg1.tape, hg1.output, hg1.size, hg1.block⟩)
   clear hw1 hg1 hov hqw hqb hqn
   go_wp2_with ((with_reducible refine gate_builtin (b := .copy) (xs := #[.tmp 80, .tmp 81]) rfl ?_); refine copy_block rfl (.tmp 80) (.tmp 81) 44 44 48 rfl 4 1 g (i * 4) (l0.length + 1 - i) (c - i) ad 1 c2 rfl rfl _ 48 (enc x) Try.underlying44 HSZ.out HW1.out (by simp only [Nat.min_def]; split <;> omega) (by rw [HEX.out]) (HX.out w1 (fun q hq hP => HG1.out.block q hq (fun e => hP (by injection e with e; rw [e]; exact HOK.out)))) ?fit (HON.out x) ?_; (case fit => simp only [List.size_toArray, List.length_append, List.length_take, List.length_drop, Array.length_toList, HCS.out, HBl.out, HEX.out]; show _ ≤ _; omega); intro w2 hw2 hg2; have HW2 := Aside0.mk hw2; have HG2 := Aside0.mk hg2; clear hw2 hg2)
   go_ret
   have hg12 := World.grownBy.trans HG1.out HG2.out
   have hsh := shift_list (A := A) (B := B) (T := T) (E := enc x) HAl.out HBl.out HEX.out HTK.out
   refine ⟨_, rfl, ?_, HB.out.grown hg12 HB.out.size (fun k hk => by injection hk with hk; rw [← hk]; exact HBG.out), Kept.of_grown hg12 (Kept.refl _ _) (fun k hk => .inl (by injection hk with hk; rw [← hk]; exact HOK.out))⟩
   rw [HLE.out]
   refine R_of_block HM.out (by intro x; rw [HKE.out]; rfl) HBG.out (.inl HOK.out) HW2.out (by rw [HRL.out]) hroom HMC.out ?_ ?_
   ·simp only [List.size_toArray, List.length_append, List.length_take, List.length_drop, Array.length_toList, HCS.out, HBl.out, HEX.out, List.toList_toArray]
    show _ = c * 4
    omega
   ·show List.take ((l0.length + 1) * 4) _ = _
    have e1 : (i + 1) * 4 = i * 4 + 4 := by omega
    rw [HFIN.out]
    simp only [List.toList_toArray, HEX.out, e1, HAB.out, HBl.out]
    rw [hsh]
    exact List.take_left' (by simp only [List.length_append]; have := HAl.out; have := HBl.out; have := HEX.out; omega)
  ·have hr1 : ¬ ((l0.length : Int) + 1 ≤ (c : Int)) := by omega
   have hr2 : (c : Int) < (l0.length : Int) + 1 := by omega
   have hqk : (l0.length : Int) + 1 - (i : Int) = ((l0.length + 1 - i : Nat) : Int) := by omega
   have HQK := Aside0.mk hqk
   clear hqk
   go_enter Try.func79, Try.ntmps79
   go_wp2_with (first | ((with_reducible refine gate_builtin (b := .append) (xs := #[.tmp 34, .tmp 39]) rfl ?_); refine zeros_new rfl (.tmp 34) (.tmp 39) 44 3 48 rfl .i64 .i64 (.agg #[(.string ⟨#[]⟩), (.int .i64 0), (.bool false), (.string ⟨#[]⟩)]) 4 48 Try.underlying44 Try.underlying3 info48 rfl (by decide) (by decide) g i c (l0.length + 1 - i) (l0.length + 1) (by omega) A rfl (congrArg (Value.int .i64) HQK.out) HAl.out ?cells (by omega) (by omega) (by omega) ?_; (case cells => exact fun j v hv => by rw [blk_cell HH.out, ← Array.getElem?_toList, HAB.out, List.append_assoc, List.getElem?_append_left (List.getElem?_eq_some_iff.1 hv).1]; exact hv); intro w1 G R hw1 hb1 hG1 hG2 hRs hRt; have HW1 := Aside0.mk hw1; have HBW1 := Aside0.mk hb1; have HRS := Aside0.mk hRs; have HRT := Aside0.mk hRt; have HGM := Aside0.mk hG2; have hGi : ¬ (G = i) := (by omega); have hGi1 : ¬ (G = i + 1) := (by omega); have hG3 : G ≤ 9223372036854775807 := (by simpa [maxLen] using hG2); clear hw1 hb1 hRs hRt hG2) | ((with_reducible refine gate_builtin (b := .copy) (xs := #[.tmp 43, .tmp 44]) rfl ?_); refine copy_block rfl (.tmp 43) (.tmp 44) 44 44 48 rfl 4 1 w.heap.size (i * 4) (l0.length + 1 - i) (G - i) ad 1 c2 rfl rfl R 48 (enc x) Try.underlying44 HSZ.out HW1.out (by simp only [Nat.min_def]; split <;> omega) (by rw [HEX.out]) (HX.out w1 (fun q hq _ => HBW1.out.block q hq)) (by rw [HRS.out, HEX.out]; omega) (HON.out x) ?_; intro w2 hw2 hg2; have HW2 := Aside0.mk hw2; have HG2 := Aside0.mk hg2; clear hw2 hg2))
   have HGB := Aside0.mk (show w2.heap[g]? = some (.cells cur 48 (0, 0)) from (HG2.out.block g (Nat.lt_of_lt_of_le (blk_lt HH.out) HBW1.out.size) (fun e => by injection e with e; have := blk_lt HH.out; omega)).trans ((HBW1.out.block g (blk_lt HH.out)).trans HH.out))
   have hqw : IntKind.i64.wrap ((i : Int) + 1) = (i : Int) + 1 := by rw [IntKind.wrap_i64]; omega
   have hqb : (0 : Int) ≤ (i : Int) + 1 := by omega
   have hqn : ((i : Int) + 1).toNat = i + 1 := by omega
   have hqi : (i : Int) + 1 ≤ (l0.length : Int) + 1 := by omega
   go_region_law_o (refine copy_block_step rfl (.tmp 50) (.tmp 53) 44 44 48 rfl 4 (l0.length - i) w.heap.size ((i + 1) * 4) (l0.length - i) (G - (i + 1)) ⟨g, i * 4, none⟩ (l0.length - i) (c - i) (by simp [Act.eval, Act.put]) (by simp [Act.eval, Act.put]) _ 48 B Try.underlying44 HSZ.out HW2.out (by simp only [Nat.min_def]; split <;> omega) HBl.out (fun j v hv => by rw [add_at]; exact (blk_cell (w := w2.drew) HGB.out _).trans (HCB.out j v hv)) (by simp only [List.size_toArray, List.length_append, List.length_take, List.length_drop, Array.length_toList, HRS.out, HBl.out, HEX.out]; omega) HB1.out ?_; intro w3 hw3 hg3)
   have HW3 := Aside0.mk hw3
   have HG3 := Aside0.mk (show w2.grownBy w3 (some w.heap.size) from ⟨hg3.os, hg3.tape, hg3.output, hg3.size, hg3.block⟩)
   clear hw3 hg3 hqw hqb hqn
   go_wp2
   go_ret
   have hg23 := World.grownBy.trans HG2.out HG3.out
   have hB1w := below_step HB.out HBW1.out
   refine ⟨_, rfl, ?_, hB1w.grown hg23 hB1w.size (fun k hk => by injection hk with hk; rw [← hk]; exact HB.out.size), Kept.of_grown hg23 (Kept.of_below HBW1.out _) (fun k hk => .inr (by injection hk with hk; omega))⟩
   rw [HLE.out]
   have hRL : R.toList.length = G * 4 := by rw [Array.length_toList]; exact HRS.out
   have hgl := grow_list (A := A) (B := B) (E := enc x) (R := R.toList) HRT.out HAl.out HBl.out HEX.out (by omega)
   have e1 : (i + 1) * 4 = i * 4 + 4 := by omega
   refine R_of_block HM.out (by intro x; rw [HKE.out]; rfl) HB.out.size (.inr (Nat.le_refl _)) HW3.out (by rw [HRL.out]) hG1 HGM.out ?_ ?_
   ·show _ = G * 4
    rw [List.size_toArray, ← hRL, ← hgl.2]
    simp only [List.toList_toArray, HEX.out, e1, HBl.out]
   ·show List.take ((l0.length + 1) * 4) _ = _
    rw [HFIN.out, ← hgl.1]
    simp only [List.toList_toArray, HEX.out, e1, HBl.out]
    congr 1
    omega

/-! ### slices_Clone_impl_Version: function 80 -/
def slices_Clone_impl_Version.f (l0 : List (S48)) : Option ((List (S48))) := (some (([] : List (S48)) : List (S48))).bind fun y208 => (if y208.length + l0.length < 2932031007402 then (some (y208 ++ l0)) else (none))
set_option maxHeartbeats 8000000 in
set_option maxRecDepth 100000 in
theorem slices_Clone_impl_Version.calls_some (ad0_ : Addr) (c0 : Nat) (l0 : List (S48)) (r : List (S48)) (w : World) (hr0 : Kd.C k48 w (some ad0_) l0.length l0) (hc0 : l0.length ≤ c0) (h : slices_Clone_impl_Version.f l0 = some r) :
  Calls Try.prog 80 #[.slice (some ad0_) l0.length c0] w fun e w' => ∃ v0_ : Value, e = .returned (v0_) ∧ Kd.R k48 48 w' w.heap.size (fun _ => True) v0_ r ∧ Below w.heap.size w w' := by
 have hnil : ∀ W, (binOp .eql 44 (.slice (some ad0_) l0.length c0) (.slice none 0 0)).run Try.prog W = .ok (.bool false) W := fun _ => rfl
 have HR0 := Aside0.mk hr0
 have HC0 := Aside0.mk hc0
 clear hr0 hc0
 have HB := Aside0.mk (Below.refl w.heap.size w)
 have H : ((some (([] : List (S48)) : List (S48))).bind fun y208 => (if y208.length + l0.length < 2932031007402 then (some (y208 ++ l0)) else (none))) = some r := h
 clear h
 obtain ⟨y208, hy208⟩ : ∃ y_ : List (S48), y_ = (([] : List (S48))) := ⟨_, rfl⟩
 replace H : (if y208.length + l0.length < 2932031007402 then (some (y208 ++ l0)) else (none)) = some r := by first | (rw [hy208]; with_reducible exact H) | (have H2_ := (Option.bind_some _ _).symm.trans H; rw [hy208]; with_reducible exact H2_) | (have H2_ := (Option.bind_some _ _).symm.trans H; with_reducible exact H2_) | with_reducible exact H | (rw [hy208]; exact H) | exact H
 have Ny208 := Aside0.mk hy208
 clear hy208
 by_cases c2 : y208.length + l0.length < 2932031007402
 rotate_left
 ·rw [if_neg c2] at H
  exact absurd H (by simp)
 rw [if_pos c2] at H
 have LMc2 := Aside0.mk c2
 clear c2
 obtain ⟨y211, hy211⟩ : ∃ y_ : List (S48), y_ = (y208 ++ l0) := ⟨_, rfl⟩
 replace H : (some y211) = some r := by first | (rw [hy211]; with_reducible exact H) | (have H2_ := (Option.bind_some _ _).symm.trans H; rw [hy211]; with_reducible exact H2_) | (have H2_ := (Option.bind_some _ _).symm.trans H; with_reducible exact H2_) | with_reducible exact H | (rw [hy211]; exact H) | exact H
 have Ny211 := Aside0.mk hy211
 clear hy211
 obtain rfl := Option.some.inj H
 go_enter Try.func80, Try.ntmps80
 go_wp2_with (first | ((with_reducible refine gate_dst (N := 5) rfl ?_); refine Kd.R_lit k48 _ 48 ?hg (N := 5) ?hd (xs := ([] : List (S48))) (inner := []) (ok := fun _ => True) (okp := fun _ => True) ?hr ?hp (fun _ hk => hk) trivial (Below.refl _ _) (Nat.le_refl _) (by simp) ?_; (case hd => rfl); (case hg => rfl); (case hr => first | (go_simp; done) | (go_simp; rfl)); (case hp => exact (Reps.none _ _)); intro v209 w3 ho4 hb hg_ hnew_; clear hg_ hnew_; (first | rw [← Ny208.out] at ho4 | (simp only [Int.reduceToNat] at ho4; rw [← Ny208.out] at ho4)); have n0_ := Aside0.mk (Kd.R_lower ho4 (below_size sq_b)); have n1_ := Aside0.mk (below_step sq_b hb); clear HB; have HO210 := n0_; have HB := n1_; clear n0_ n1_; clear hb ho4) | ((with_reducible refine gate_builtin (b := .append) (xs := #[.tmp 5, .tmp 6]) rfl ?_); at_builtin; refine Kd.R_append_rows k48 (w0 := w) w.heap.size rfl (.tmp 5) (.tmp 6) 44 48 (.agg #[(.string ⟨#[]⟩), (.int .i64 0), (.bool false), (.string ⟨#[]⟩)]) 48 rfl Try.underlying44 info48 rfl (by decide) (by omega) v209 y208 l0 _ _ _ (fun _ => True) (fun _ => False) rfl rfl ?aO ?aR (fun _ _ h => h) (fun _ h => h.elim) ?aF ?aB ?aS ?aL ?_; (case aR => repeat (first | exact (Kd.C_below HR0.out HB.out) | (with_reducible refine Kd.C_alloc ?_ _) | (with_reducible refine Kd.C_drewN ?_ _) | (with_reducible refine Kd.C_drew ?_))); (case aB => exact sq_b); (case aF => exact (fun _ _ => trivial)); (case aO => exact (sq_r HO210)); (case aS => exact (below_size sq_b)); (case aL => have := LMc2.out; omega); intro v212 w5 ho hb hg hat; rw [← Ny211.out] at ho; have n0_ := Aside0.mk (hb); have n1_ := Aside0.mk (ho); clear HB; clear HO210; have HB := n0_; have HO213 := n1_; clear n0_ n1_; clear ho hb hg hat))
 go_ret
 exact ⟨_, sq_w, sq_r HO213, sq_b⟩
set_option maxHeartbeats 8000000 in
set_option maxRecDepth 100000 in
theorem slices_Clone_impl_Version.calls_none (c0 : Nat) (l0 : List (S48)) (r : List (S48)) (w : World) (hr0 : Kd.C k48 w none l0.length l0) (hc0 : l0.length ≤ c0) (h : slices_Clone_impl_Version.f l0 = some r) :
  Calls Try.prog 80 #[.slice none l0.length c0] w fun e w' => ∃ v0_ : Value, e = .returned (v0_) ∧ Kd.R k48 48 w' w.heap.size (fun _ => True) v0_ r ∧ Below w.heap.size w w' := by
 have hl : l0 = [] := by
  have h1 := hr0.2.2
  cases l0 with
  | nil => rfl
  | cons x l => obtain ⟨ad, e, _⟩ := h1 (by simp); cases e
 subst hl
 have hr : r = [] := by
  simp [slices_Clone_impl_Version.f] at h
  first | exact h.symm | exact h | simp_all
 subst hr
 have hnil : ∀ W, (binOp .eql 44 (.slice none 0 c0) (.slice none 0 0)).run Try.prog W = .ok (.bool true) W := fun _ => rfl
 go_enter Try.func80, Try.ntmps80
 go_wp2
 go_ret
 exact ⟨_, rfl, Kd.R_nil _ _ _ _ _, Below.refl _ _⟩
theorem slices_Clone_impl_Version.calls (A0 : Option Addr) (c0 : Nat) (l0 : List (S48)) (r : List (S48)) (w : World) (hr0 : Kd.C k48 w A0 l0.length l0) (hc0 : l0.length ≤ c0) (h : slices_Clone_impl_Version.f l0 = some r) :
  Calls Try.prog 80 #[.slice A0 l0.length c0] w fun e w' => ∃ v0_ : Value, e = .returned (v0_) ∧ Kd.R k48 48 w' w.heap.size (fun _ => True) v0_ r ∧ Below w.heap.size w w' := by
 cases A0 with
 | none => exact slices_Clone_impl_Version.calls_none c0 l0 r w hr0 hc0 h
 | some ad => exact slices_Clone_impl_Version.calls_some ad c0 l0 r w hr0 hc0 h

end Go.Proofs.Ytabfkalcjfjkiaa.QFnAsOf
