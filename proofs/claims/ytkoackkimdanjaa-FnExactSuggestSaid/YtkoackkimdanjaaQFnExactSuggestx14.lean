-- Written by this session's own program (wip/pp_patch.py, wip/pp.sh) out of the given translation. Not trusted: Lean checks it.
import Derived.Test.YtkoackkimdanjaaQFnExactSuggestx0
import Derived.Test.YtkoackkimdanjaaQFnExactSuggestx8
import Derived.Test.YtkoackkimdanjaaQFnExactSuggestx12
import Derived.Test.YtkoackkimdanjaaQFnExactSuggestx13
namespace Go.Proofs.Ytkoackkimdanjaa.QFnExactSuggest
open Go.RowKit Go.Proofs.YtkoackkimdanjaaW.PrintWords Go.Proofs.YtkoackkimdanjaaW.PrintLast Go.Proofs.YtkoackkimdanjaaW.PrintMore
attribute [local go_sem] max2_int min2_int max_two min_two max_three min_three max_four min_four   -- for this text's walks alone
open Go.Proofs.Ytkoackkimdanjaa.Ext
attribute [local go_sem high] ext_gtr ext_leq
set_option linter.unusedVariables false
set_option linter.unusedSimpArgs false

/-! ### slices_SortFunc_impl_Entry__impl_Suggest_2: function 78 -/
def slices_SortFunc_impl_Entry__impl_Suggest_2.c1 (x y : S48) : Int := if y.f1 < x.f1 then -1 else if x.f1 < y.f1 then 1 else 0
def slices_SortFunc_impl_Entry__impl_Suggest_2.c2 (x y : S48) : Int := if Op.bytesLess x.f0.toList y.f0.toList = true then -1 else if Op.bytesLess y.f0.toList x.f0.toList = true then 1 else 0
def slices_SortFunc_impl_Entry__impl_Suggest_2.cf (x y : S48) : Int := if slices_SortFunc_impl_Entry__impl_Suggest_2.c1 x y = 0 then slices_SortFunc_impl_Entry__impl_Suggest_2.c2 x y else slices_SortFunc_impl_Entry__impl_Suggest_2.c1 x y
theorem slices_SortFunc_impl_Entry__impl_Suggest_2.c1_eq (x y : S48) : cmp_Compare_int.f y.f1 x.f1 = some (slices_SortFunc_impl_Entry__impl_Suggest_2.c1 x y) := by
 unfold cmp_Compare_int.f cmp_isNaN_int.f slices_SortFunc_impl_Entry__impl_Suggest_2.c1
 by_cases h1 : y.f1 < x.f1
 ·simp [h1]
 ·by_cases h2 : x.f1 < y.f1 <;> simp [h1, h2]
theorem slices_SortFunc_impl_Entry__impl_Suggest_2.c2_eq (x y : S48) : cmp_Compare_string.f x.f0 y.f0 = some (slices_SortFunc_impl_Entry__impl_Suggest_2.c2 x y) := by
 unfold cmp_Compare_string.f cmp_isNaN_string.f slices_SortFunc_impl_Entry__impl_Suggest_2.c2
 by_cases h1 : Op.bytesLess x.f0.toList y.f0.toList = true
 ·simp [h1]
 ·by_cases h2 : Op.bytesLess y.f0.toList x.f0.toList = true <;> simp [h1, h2]
theorem slices_SortFunc_impl_Entry__impl_Suggest_2.or_eq (a b : Int) : cmp_Or_int.f 3 [a, b] = some (if a = 0 then b else a) := by
 unfold cmp_Or_int.f
 have w1 : wrap64 (1 : Int) = 1 := by unfold wrap64; omega
 have w2 : wrap64 (2 : Int) = 2 := by unfold wrap64; omega
 by_cases ha : a = 0
 rotate_left
 ·simp [cmp_Or_int.l0, rd, ha, w1, w2]
 by_cases hb : b = 0
 ·simp [cmp_Or_int.l0, rd, ha, hb, w1, w2]
 ·simp [cmp_Or_int.l0, rd, ha, hb, w1, w2]
theorem slices_SortFunc_impl_Entry__impl_Suggest_2.lit_C (w : World) (g : Nat) (hg : g = w.heap.size) (a b : Int) (t : TypeId) : (Kd.int .i64).C (w.alloc (.cells #[.int .i64 a, .int .i64 b] t)) (some ⟨g, 0, none⟩) [a, b].length [a, b] := by
 subst hg
 have h : (w.alloc (.cells #[.int .i64 a, .int .i64 b] t)).heap[w.heap.size]? = some (.cells #[.int .i64 a, .int .i64 b] t (0, 0)) := blk_new w _
 refine Kd.C_of_reads (enc := Value.int .i64) (d := (0 : Int)) (h1 := fun _ => rfl) ⟨rfl, by simp, fun _ => ⟨_, rfl, fun j hj => ?_⟩⟩
 have hj : j < 2 := hj
 have h2 : j = 0 ∨ j = 1 := by omega
 rcases h2 with rfl | rfl
 ·exact (blk_cell h 0).trans rfl
 ·exact (blk_cell h 1).trans rfl
set_option maxHeartbeats 8000000 in
set_option maxRecDepth 100000 in
theorem slices_SortFunc_impl_Entry__impl_Suggest_2.compare_x (w : World) (x y : S48) : Calls Try.prog 79 (#[.agg #[.string x.f0, .int .i64 x.f1], .agg #[.string y.f0, .int .i64 y.f1]] ++ #[]) w fun e w' => e = .returned (.int .i64 (slices_SortFunc_impl_Entry__impl_Suggest_2.cf x y)) ∧ ∃ q os', w' = Go.Sort.grow (w.drewN q) os' := by
 show Calls Try.prog 79 #[.agg #[.string x.f0, .int .i64 x.f1], .agg #[.string y.f0, .int .i64 y.f1]] w _
 have C1 := slices_SortFunc_impl_Entry__impl_Suggest_2.c1_eq x y
 have C2 := slices_SortFunc_impl_Entry__impl_Suggest_2.c2_eq x y
 have C3 := Aside0.mk (slices_SortFunc_impl_Entry__impl_Suggest_2.or_eq (slices_SortFunc_impl_Entry__impl_Suggest_2.c1 x y) (slices_SortFunc_impl_Entry__impl_Suggest_2.c2 x y))
 have HCF := Aside0.mk (show slices_SortFunc_impl_Entry__impl_Suggest_2.cf x y = if slices_SortFunc_impl_Entry__impl_Suggest_2.c1 x y = 0 then slices_SortFunc_impl_Entry__impl_Suggest_2.c2 x y else slices_SortFunc_impl_Entry__impl_Suggest_2.c1 x y from rfl)
 obtain ⟨A, hA⟩ : ∃ A, A = slices_SortFunc_impl_Entry__impl_Suggest_2.c1 x y := ⟨_, rfl⟩
 obtain ⟨B, hB⟩ : ∃ B, B = slices_SortFunc_impl_Entry__impl_Suggest_2.c2 x y := ⟨_, rfl⟩
 rw [← hA, ← hB] at C3 HCF
 rw [← hA] at C1
 rw [← hB] at C2
 obtain ⟨D, hD⟩ : ∃ D, D = (if A = 0 then B else A) := ⟨_, rfl⟩
 rw [← hD] at C3 HCF
 rw [HCF.out]
 have HC1 := Aside0.mk C1
 have HC2 := Aside0.mk C2
 clear hA hB hD C1 C2 HCF
 go_enter Try.func79, Try.ntmps79
 go_wp2_with fail
 obtain ⟨W1, hW1⟩ : ∃ W1, W1 = (w.alloc (.cells #[.string x.f0, .int .i64 x.f1] 48)).alloc (.cells #[.string y.f0, .int .i64 y.f1] 48) := ⟨_, rfl⟩
 have k20 : W1.cell? ⟨w.heap.size, 0, none⟩ = some (.string x.f0) := by rw [hW1]; simp
 have k21 : W1.cell? ⟨w.heap.size, 1, none⟩ = some (.int .i64 x.f1) := by rw [hW1]; simp
 have k30 : W1.cell? ⟨w.heap.size + 1, 0, none⟩ = some (.string y.f0) := by rw [hW1]; simp
 have k31 : W1.cell? ⟨w.heap.size + 1, 1, none⟩ = some (.int .i64 y.f1) := by rw [hW1]; simp
 rw [← hW1]
 go_region_held3 (fun w' => w'.cell? ⟨w.heap.size, 0, none⟩ = some (.string x.f0) ∧ w'.cell? ⟨w.heap.size, 1, none⟩ = some (.int .i64 x.f1) ∧ w'.cell? ⟨w.heap.size + 1, 0, none⟩ = some (.string y.f0) ∧ w'.cell? ⟨w.heap.size + 1, 1, none⟩ = some (.int .i64 y.f1)) (go_keep)
  (first
   | (go_at_call 81; refine (cmp_Compare_int.calls _ _ A _ HC1.out).mono ?_; rintro e w1 ⟨rfl, hd⟩; obtain ⟨q1, rfl⟩ := hd.out)
   | (go_at_call 82; refine (cmp_Compare_string.calls _ _ B _ HC2.out).mono ?_; rintro e w2 ⟨rfl, hd⟩; obtain ⟨q2, rfl⟩ := hd.out)
   | (go_at_call 80; refine (cmp_Or_int.calls 3 _ _ [A, B] D _ (slices_SortFunc_impl_Entry__impl_Suggest_2.lit_C _ _ (by simp) A B _) (by simp) C3.out).mono ?_; rintro e w3 ⟨rfl, hd⟩; obtain ⟨q3, rfl⟩ := hd.out))
 go_wp2
 go_ret
 have gd : ∀ (W : World) (os : Array Obj) (q : Nat), (Go.Sort.grow W os).drewN q = Go.Sort.grow (W.drewN q) os := fun _ _ _ => rfl
 exact ⟨rfl, 1 + q1 + q2 + q3, #[_, _, _], by simp only [Go.Sort.alloc_eq_grow, gd, Go.Sort.grow_grow, World.drewN_drewN]; rfl⟩
def slices_SortFunc_impl_Entry__impl_Suggest_2.lt (x y : S48) : Bool := decide (y.f1 < x.f1) || ((x.f1 == y.f1) && Op.bytesLess x.f0.toList y.f0.toList)
theorem slices_SortFunc_impl_Entry__impl_Suggest_2.bl_asym : ∀ x y : List UInt8, Op.bytesLess x y = true → Op.bytesLess y x = false
 | [], [], h => by simp [Op.bytesLess] at h
 | [], _ :: _, _ => rfl
 | _ :: _, [], h => by simp [Op.bytesLess] at h
 | a :: x, b :: y, h => by
  simp only [Op.bytesLess, Bool.or_eq_true, decide_eq_true_eq, Bool.and_eq_true, beq_iff_eq] at h
  simp only [Op.bytesLess, Bool.or_eq_false_iff, decide_eq_false_iff_not, Bool.and_eq_false_iff]
  rcases h with h | ⟨h, h'⟩
  ·exact ⟨UInt8.lt_asymm h, .inl (by simpa using (UInt8.ne_of_lt h).symm)⟩
  ·subst h
   exact ⟨UInt8.lt_irrefl _, .inr (slices_SortFunc_impl_Entry__impl_Suggest_2.bl_asym x y h')⟩
theorem slices_SortFunc_impl_Entry__impl_Suggest_2.bl_irr (x : List UInt8) : Op.bytesLess x x = false := by
 cases h : Op.bytesLess x x with
 | false => rfl
 | true => rw [slices_SortFunc_impl_Entry__impl_Suggest_2.bl_asym x x h] at h; cases h
theorem slices_SortFunc_impl_Entry__impl_Suggest_2.bl_trans : ∀ x y z : List UInt8, Op.bytesLess x y = true → Op.bytesLess y z = true → Op.bytesLess x z = true
 | [], [], z, h, _ => by simp [Op.bytesLess] at h
 | [], _ :: _, [], _, k => by simp [Op.bytesLess] at k
 | [], _ :: _, _ :: _, _, _ => rfl
 | _ :: _, [], _, h, _ => by simp [Op.bytesLess] at h
 | _ :: _, _ :: _, [], _, k => by simp [Op.bytesLess] at k
 | a :: x, b :: y, c :: z, h, k => by
  simp only [Op.bytesLess, Bool.or_eq_true, decide_eq_true_eq, Bool.and_eq_true, beq_iff_eq] at h k ⊢
  rcases h with h | ⟨h, h'⟩
  ·rcases k with k | ⟨k, k'⟩
   ·exact .inl (UInt8.lt_trans h k)
   ·exact .inl (k ▸ h)
  ·rcases k with k | ⟨k, k'⟩
   ·exact .inl (h ▸ k)
   ·exact .inr ⟨h.trans k, slices_SortFunc_impl_Entry__impl_Suggest_2.bl_trans x y z h' k'⟩
theorem slices_SortFunc_impl_Entry__impl_Suggest_2.bl_tot : ∀ x y : List UInt8, Op.bytesLess x y = false → Op.bytesLess y x = false → x = y
 | [], [], _, _ => rfl
 | [], b :: y, h, _ => by simp [Op.bytesLess] at h
 | a :: x, [], _, h => by simp [Op.bytesLess] at h
 | a :: x, b :: y, h, k => by
  simp only [Op.bytesLess, Bool.or_eq_false_iff, decide_eq_false_iff_not, Bool.and_eq_false_iff] at h k
  have e : a = b := UInt8.le_antisymm (UInt8.not_lt.1 k.1) (UInt8.not_lt.1 h.1)
  subst e
  have h2 : Op.bytesLess x y = false := h.2.elim (fun h => by simp at h) id
  have k2 : Op.bytesLess y x = false := k.2.elim (fun h => by simp at h) id
  rw [slices_SortFunc_impl_Entry__impl_Suggest_2.bl_tot x y h2 k2]
theorem slices_SortFunc_impl_Entry__impl_Suggest_2.lt_cf (x y : S48) : Go.Proofs.ltOf slices_SortFunc_impl_Entry__impl_Suggest_2.cf x y = slices_SortFunc_impl_Entry__impl_Suggest_2.lt x y := by
 show decide (slices_SortFunc_impl_Entry__impl_Suggest_2.cf x y < 0) = slices_SortFunc_impl_Entry__impl_Suggest_2.lt x y
 unfold slices_SortFunc_impl_Entry__impl_Suggest_2.cf slices_SortFunc_impl_Entry__impl_Suggest_2.c1 slices_SortFunc_impl_Entry__impl_Suggest_2.c2 slices_SortFunc_impl_Entry__impl_Suggest_2.lt
 by_cases h1 : y.f1 < x.f1
 ·simp [h1]
 ·by_cases h2 : x.f1 < y.f1
  ·have h3 : ¬ x.f1 = y.f1 := by omega
   simp [h1, h2, h3]
  ·have h3 : x.f1 = y.f1 := by omega
   by_cases h4 : Op.bytesLess x.f0.toList y.f0.toList = true
   ·simp [h3, h4]
   ·by_cases h5 : Op.bytesLess y.f0.toList x.f0.toList = true <;> simp [h3, h4, h5]
theorem slices_SortFunc_impl_Entry__impl_Suggest_2.swo : Go.Sort.SWO (Go.Proofs.ltOf slices_SortFunc_impl_Entry__impl_Suggest_2.cf) := by
 have e : Go.Proofs.ltOf slices_SortFunc_impl_Entry__impl_Suggest_2.cf = slices_SortFunc_impl_Entry__impl_Suggest_2.lt := funext fun x => funext fun y => slices_SortFunc_impl_Entry__impl_Suggest_2.lt_cf x y
 rw [e]
 unfold slices_SortFunc_impl_Entry__impl_Suggest_2.lt
 refine ⟨fun x => by simp [slices_SortFunc_impl_Entry__impl_Suggest_2.bl_irr], fun x y z h1 h2 => ?_, fun x y z h1 h2 => ?_⟩
 ·simp only [Bool.or_eq_true, decide_eq_true_eq, Bool.and_eq_true, beq_iff_eq] at h1 h2 ⊢
  rcases h1 with h1 | ⟨h1, h1'⟩
  ·rcases h2 with h2 | ⟨h2, _⟩
   ·exact .inl (by omega)
   ·exact .inl (by omega)
  ·rcases h2 with h2 | ⟨h2, h2'⟩
   ·exact .inl (by omega)
   ·exact .inr ⟨by omega, slices_SortFunc_impl_Entry__impl_Suggest_2.bl_trans _ _ _ h1' h2'⟩
 ·simp only [Bool.or_eq_false_iff, decide_eq_false_iff_not, Bool.and_eq_false_iff] at h1 h2 ⊢
  refine ⟨by omega, ?_⟩
  by_cases hxz : x.f1 = z.f1
  rotate_left
  ·exact .inl (by simpa using hxz)
  have hxy : x.f1 = y.f1 := by omega
  have hyz : y.f1 = z.f1 := by omega
  refine .inr ?_
  have a1 : Op.bytesLess x.f0.toList y.f0.toList = false := by
   rcases h1.2 with h | h
   ·exact absurd hxy (by simpa using h)
   ·exact h
  have a2 : Op.bytesLess y.f0.toList z.f0.toList = false := by
   rcases h2.2 with h | h
   ·exact absurd hyz (by simpa using h)
   ·exact h
  cases h : Op.bytesLess x.f0.toList z.f0.toList with
  | false => rfl
  | true =>
   cases h3 : Op.bytesLess y.f0.toList x.f0.toList with
   | true => rw [slices_SortFunc_impl_Entry__impl_Suggest_2.bl_trans _ _ _ h3 h] at a2; cases a2
   | false => rw [slices_SortFunc_impl_Entry__impl_Suggest_2.bl_tot _ _ a1 h3] at h; rw [h] at a2; cases a2
theorem slices_SortFunc_impl_Entry__impl_Suggest_2.data_length (s : ByteArray) : s.data.toList.length = s.size := by rw [Array.length_toList]; rfl
theorem slices_SortFunc_impl_Entry__impl_Suggest_2.toList_loop (s : ByteArray) : ∀ (d i : Nat) (r : List UInt8), i + d = s.size → ByteArray.toList.loop s i r = r.reverse ++ s.data.toList.drop i
 | 0, i, r, h => by
  unfold ByteArray.toList.loop
  rw [if_neg (by omega), List.drop_eq_nil_of_le (by rw [slices_SortFunc_impl_Entry__impl_Suggest_2.data_length]; omega), List.append_nil]
 | d + 1, i, r, h => by
  unfold ByteArray.toList.loop
  have hi : i < s.data.toList.length := by rw [slices_SortFunc_impl_Entry__impl_Suggest_2.data_length]; omega
  rw [if_pos (by omega), slices_SortFunc_impl_Entry__impl_Suggest_2.toList_loop s d (i + 1) _ (by omega), List.drop_eq_getElem_cons hi]
  have e : s.get! i = s.data.toList[i] := by
   have hi2 : i < s.data.size := by rw [← Array.length_toList]; exact hi
   show s.data[i]! = _
   rw [getElem!_pos s.data i hi2]; rfl
  rw [e]; simp
theorem slices_SortFunc_impl_Entry__impl_Suggest_2.toList_data (s : ByteArray) : s.toList = s.data.toList := by
 unfold ByteArray.toList
 rw [slices_SortFunc_impl_Entry__impl_Suggest_2.toList_loop s s.size 0 [] (by omega)]; rfl
theorem slices_SortFunc_impl_Entry__impl_Suggest_2.tot (x y : S48) (h1 : Go.Proofs.ltOf slices_SortFunc_impl_Entry__impl_Suggest_2.cf x y = false) (h2 : Go.Proofs.ltOf slices_SortFunc_impl_Entry__impl_Suggest_2.cf y x = false) : x = y := by
 rw [slices_SortFunc_impl_Entry__impl_Suggest_2.lt_cf] at h1 h2
 unfold slices_SortFunc_impl_Entry__impl_Suggest_2.lt at h1 h2
 simp only [Bool.or_eq_false_iff, decide_eq_false_iff_not, Bool.and_eq_false_iff] at h1 h2
 have e : x.f1 = y.f1 := by omega
 have a1 : Op.bytesLess x.f0.toList y.f0.toList = false := by
  rcases h1.2 with h | h
  ·exact absurd e (by simpa using h)
  ·exact h
 have a2 : Op.bytesLess y.f0.toList x.f0.toList = false := by
  rcases h2.2 with h | h
  ·exact absurd e.symm (by simpa using h)
  ·exact h
 have hb := slices_SortFunc_impl_Entry__impl_Suggest_2.bl_tot _ _ a1 a2
 have hd : x.f0 = y.f0 := by
  rw [slices_SortFunc_impl_Entry__impl_Suggest_2.toList_data, slices_SortFunc_impl_Entry__impl_Suggest_2.toList_data] at hb
  exact ByteArray.ext (Array.toList_inj.1 hb)
 cases x
 cases y
 simp only [S48.mk.injEq] at e hd ⊢
 exact ⟨hd, e⟩
def slices_SortFunc_impl_Entry__impl_Suggest_2.f (l0 : List S48) : Option (List S48) := if l0.length < 4611686018427387904 then some (l0.mergeSort fun x y => !(slices_SortFunc_impl_Entry__impl_Suggest_2.lt y x)) else none
theorem slices_SortFunc_impl_Entry__impl_Suggest_2.calls (P0_ : Nat → Prop) (u9000_ : Value) (l0 : List S48) (r : List S48) (w0 w : World) (hB : Below w0.heap.size w0 w) (ho0 : Kd.R k48 48 w w0.heap.size P0_ u9000_ l0) (h : slices_SortFunc_impl_Entry__impl_Suggest_2.f l0 = some r) :
  Calls Try.prog 78 #[u9000_, .func (.func 79) #[] #[]] w fun e w' => e = .returned (.tuple #[]) ∧ Kd.R k48 48 w' w0.heap.size (fun k_ => (P0_ k_ ∨ w.heap.size ≤ k_)) u9000_ r ∧ Below w0.heap.size w0 w' ∧ Kept w w' (fun k_ => P0_ k_) := by
 unfold slices_SortFunc_impl_Entry__impl_Suggest_2.f at h
 by_cases hl : l0.length < 4611686018427387904
 ·rw [if_pos hl] at h
  obtain rfl := Option.some.inj h
  haveI : Inhabited S48 := ⟨z48⟩
  have e_ : (fun x y : S48 => !(slices_SortFunc_impl_Entry__impl_Suggest_2.lt y x)) = fun x y => !(Go.Proofs.ltOf slices_SortFunc_impl_Entry__impl_Suggest_2.cf) y x := funext fun x => funext fun y => by rw [slices_SortFunc_impl_Entry__impl_Suggest_2.lt_cf]
  rw [e_]
  exact Go.Proofs.Ytkoackkimdanjaa.Ext.sortf_calls Go.Proofs.Ytkoackkimdanjaa.Ext.laysSortF78 k48 (fun x => [.string x.f0, .int .i64 x.f1]) (fun w base ok x cs => ⟨fun h => k48_openM h, fun h => by rw [h]; exact k48_mkM w base ok x⟩) Try.isAgg48 Try.sizeOf48 slices_SortFunc_impl_Entry__impl_Suggest_2.cf slices_SortFunc_impl_Entry__impl_Suggest_2.swo slices_SortFunc_impl_Entry__impl_Suggest_2.tot P0_ u9000_ l0 w0 w hB ho0 hl 79 #[] (fun args w => enters_ Try.func79 (by kernel_rfl) rfl args w) (fun W x y => slices_SortFunc_impl_Entry__impl_Suggest_2.compare_x W x y)
 ·rw [if_neg hl] at h
  exact absurd h (by simp)

/-! ### impl_Suggest: function 41 (by hand) -/
def impl_Suggest.f (k : Nat) (l0 : List S59) (a1 : ByteArray) (a2 : Int) : Option (List S48 × Bool) := (impl_entries.f k l0).bind fun b => if b.2 = true then (impl_areLetters.f k a1).bind fun c => if c = true then (if 1 ≤ a2 ∧ a2 ≤ 10 then (if (∀ x ∈ b.1, (strings_HasPrefix.f x.f0 a1).isSome = true) then (slices_SortFunc_impl_Entry__impl_Suggest_2.f (b.1.filter fun x => !(!(strings_HasPrefix.f x.f0 a1).getD false))).bind fun s => (slices_Clone_impl_Entry.f (s.take a2.toNat)).bind fun t => some (t, true) else none) else some ([], false)) else some ([], false) else some ([], false)
theorem impl_Suggest.mono : ∀ a0 a1 a2 k, LeO (impl_Suggest.f k a0 a1 a2) (impl_Suggest.f (k + 1) a0 a1 a2) := by
 intro a0 a1 a2 k
 unfold impl_Suggest.f
 exact LeO.bind (impl_entries.mono _ k) (fun b => LeO.ite (LeO.bind (impl_areLetters.mono _ k) (fun _ => LeO.refl _)) (LeO.refl _))
set_option maxHeartbeats 8000000 in
set_option maxRecDepth 100000 in
theorem impl_Suggest.calls (k : Nat) (A0 : Option Addr) (c0 : Nat) (l0 : List S59) (a1 : ByteArray) (a2 : Int) (r1 : List S48) (r2 : Bool) (w : World) (hr0 : Kd.C k59 w A0 l0.length l0) (hc0 : l0.length ≤ c0) (h : impl_Suggest.f k l0 a1 a2 = some (r1, r2)) :
  Calls Try.prog 41 #[.slice A0 l0.length c0, .string a1, .int .i64 a2] w fun e w' => ∃ v0_ : Value, e = .returned (.tuple #[v0_, .bool r2]) ∧ Kd.R k48 48 w' w.heap.size (fun _ => True) v0_ r1 ∧ Below w.heap.size w w' := by
 have HR0 := Aside0.mk hr0
 have HC0 := Aside0.mk hc0
 have H := Aside0.mk h
 clear hr0 hc0 h
 go_enter Try.func41, Try.ntmps41
 go_upto_region 1 with (first | ((with_reducible refine gate_dst (N := 4) rfl ?_); refine box_event ?hg (N := 4) ?hd (cs := #[.string a1]) (t := 9) ?hr ?_; (case hd => rfl); (case hg => rfl); (case hr => first | (go_simp; done) | (go_simp; rfl)); intro g4 hg4 wB hboxB hbB; have BB := Aside0.mk (show Below w.heap.size w wB from hbB); have K4 := Aside0.mk hboxB; clear hg4 hboxB hbB))
 have HRB := Aside0.mk (Kd.C_below HR0.out BB.out)
 have h := H.out
 unfold impl_Suggest.f at h
 obtain ⟨b, hb, h⟩ := Option.bind_eq_some_iff.mp h
 obtain ⟨L, ok⟩ := b
 have HBB := Aside0.mk hb
 have HH := Aside0.mk h
 clear hb h H
 go_wp2_with fail
 (with_reducible refine (impl_entries.calls k A0 c0 l0 L ok wB HRB.out HC0.out HBB.out).mono ?_)
 rintro e w1 ⟨v1, rfl, ho1, hb1⟩
 obtain ⟨A1, c1_, rfl⟩ := Kd.R_slice ho1
 have HO1 := Aside0.mk ho1
 have HB1 := Aside0.mk hb1
 have K41 := Aside0.mk (blk_below K4.out hb1)
 clear ho1 hb1
 cases ok with
 | false =>
  have h := HH.out
  rw [if_neg (by simp)] at h
  injection h with h
  injection h with h1 h2
  have H12 := Aside0.mk (And.intro h1 h2)
  clear h1 h2
  go_wp2
  go_ret2
  obtain ⟨h1, h2⟩ := H12.out
  subst h1; subst h2
  exact ⟨_, rfl, Kd.R_nil _ _ _ _ _, below_step BB.out HB1.out⟩
 | true =>
  have h := HH.out
  rw [if_pos rfl] at h
  obtain ⟨c, hc, h⟩ := Option.bind_eq_some_iff.mp h
  have HCC := Aside0.mk hc
  have HH2 := Aside0.mk h
  clear h hc HH
  have hl4 := (blk_cell K41.out 0).trans rfl
  go_wp2_with fail
  (with_reducible refine (impl_areLetters.calls k a1 c _ HCC.out).mono ?_)
  rintro e w2 ⟨rfl, hd⟩
  have HO2 := Aside0.mk (Kd.R_below HO1.out hd.below)
  have HB2 := Aside0.mk (below_step HB1.out hd.below)
  have K42 := Aside0.mk (blk_below K41.out hd.below)
  clear hd hl4 HO1 HB1 K41
  cases c with
  | false =>
   have h := HH2.out
   rw [if_neg (by simp)] at h
   injection h with h
   injection h with h1 h2
   have H12 := Aside0.mk (And.intro h1 h2)
   clear h1 h2
   go_wp2
   go_ret2
   obtain ⟨h1, h2⟩ := H12.out
   subst h1; subst h2
   exact ⟨_, rfl, Kd.R_nil _ _ _ _ _, below_step BB.out HB2.out⟩
  | true =>
   have h := HH2.out
   rw [if_pos rfl] at h
   by_cases hm : 1 ≤ a2 ∧ a2 ≤ 10
   rotate_left
   ·rw [if_neg hm] at h
    injection h with h
    injection h with h1 h2
    have H12 := Aside0.mk (And.intro h1 h2)
    have hf : impl_within.f a2 1 10 = some false := by
     unfold impl_within.f
     split
     ·rw [show decide (a2 ≤ 10) = false from decide_eq_false (by omega)]
     ·rfl
    have HF := Aside0.mk hf
    clear h1 h2 hf hm
    go_wp2_with fail
    (with_reducible refine (impl_within.calls a2 1 10 false _ HF.out).mono ?_)
    rintro e w3 ⟨rfl, hd⟩
    have HB3 := Aside0.mk (below_step HB2.out hd.below)
    clear hd
    go_wp2
    go_ret2
    obtain ⟨h1, h2⟩ := H12.out
    subst h1; subst h2
    exact ⟨_, rfl, Kd.R_nil _ _ _ _ _, below_step BB.out HB3.out⟩
   rw [if_pos hm] at h
   by_cases hp : ∀ x ∈ L, (strings_HasPrefix.f x.f0 a1).isSome = true
   rotate_left
   ·rw [if_neg hp] at h; cases h
   rw [if_pos hp] at h
   obtain ⟨s, hs, h⟩ := Option.bind_eq_some_iff.mp h
   obtain ⟨t, ht, h⟩ := Option.bind_eq_some_iff.mp h
   injection h with h
   injection h with h1 h2
   have H12 := Aside0.mk (And.intro h1 h2)
   have hf : impl_within.f a2 1 10 = some true := by
    unfold impl_within.f
    rw [if_pos (by omega), show decide (a2 ≤ 10) = true from decide_eq_true (by omega)]
   have HF := Aside0.mk hf
   have HM := Aside0.mk hm
   have HP := Aside0.mk hp
   have HSS := Aside0.mk hs
   have HTT := Aside0.mk ht
   clear h1 h2 hf hm hp hs ht HH2
   go_wp2_with fail
   (with_reducible refine (impl_within.calls a2 1 10 true _ HF.out).mono ?_)
   rintro e w3 ⟨rfl, hd⟩
   have HO3 := Aside0.mk (Kd.R_below HO2.out hd.below)
   have HB3 := Aside0.mk (below_step HB2.out hd.below)
   clear hd HO2 HB2 K42
   go_wp2_with fail
   (with_reducible refine (slices_DeleteFunc_impl_Entry.calls (fun x => !(strings_HasPrefix.f x.f0 a1).getD false) 76 #[.pointer (some ⟨g4, 0, none⟩)] (fun _ => True) (.slice A1 L.length c1_) L wB w3 HB3.out HO3.out ?s1 ?s2).mono ?_)
   case s1 => exact fun args W => enters_ Try.func76 (by kernel_rfl) rfl args W
   case s2 =>
    intro x hx W_ _ hW_
    obtain ⟨r, hr⟩ := Option.isSome_iff_exists.mp (HP.out x hx)
    refine calls_of_args ?_ ((impl_Suggest_1.calls x a1 g4 r W_ ((blk_cell (blk_below K4.out hW_) 0).trans rfl) hr).mono ?_)
    ·rfl
    ·rintro e w5 ⟨he, hb5⟩
     refine ⟨?_, hb5⟩
     rw [he, hr]
     rfl
   rintro e w4 ⟨v4, rfl, ho4, hb4, _⟩
   have HO4 := Aside0.mk ho4
   have HB4 := Aside0.mk hb4
   clear ho4 hb4 HO3 HB3
   go_wp2_with fail
   (with_reducible refine (slices_SortFunc_impl_Entry__impl_Suggest_2.calls (fun _ => True) v4 _ s wB w4 HB4.out HO4.out HSS.out).mono ?_)
   rintro e w5 ⟨rfl, ho5, hb5, _⟩
   have HO5 := Aside0.mk (Kd.R_mono (ok' := fun _ => True) ho5 (fun _ _ => trivial))
   have HB5 := Aside0.mk hb5
   clear ho5 hb5 HO4 HB4
   obtain ⟨A5, c5, rfl⟩ := Kd.R_slice HO5.out
   have hcap := (Kd.R_reads' HO5.out).2.1
   clear h
   have hm := HM.out
   have HCAP := Aside0.mk hcap
   by_cases hle : a2 ≤ (s.length : Int)
   ·have p0 : (0 : Int) ≤ a2 := by omega
    have p1 : a2 ≤ (c5 : Int) := by omega
    have d1 : decide (a2 ≤ (s.length : Int)) = true := decide_eq_true hle
    have d2 : decide ((s.length : Int) < a2) = false := decide_eq_false (by omega)
    have m1 : min a2 (s.length : Int) = a2 := Int.min_eq_left hle
    have e0 := eq_true p0
    have e1 := eq_true p1
    have e2 := eq_true hle
    have e3 := eq_false (show ¬ (s.length : Int) < a2 by omega)
    have HT := Aside0.mk (Kd.R_take (m := a2.toNat) HO5.out (by omega))
    have HLE := Aside0.mk hle
    clear hm hcap hle
    go_wp2_with fail
    have hlt : (s.take a2.toNat).length = a2.toNat := by rw [List.length_take]; have := HLE.out; have := HM.out; omega
    have HCL := slices_Clone_impl_Entry.calls A5 c5 (s.take a2.toNat) t w5 (Kd.R_reads' HT.out).2.2 (by rw [hlt]; have := (Kd.R_reads' HT.out).2.1; exact this) HTT.out
    rw [hlt] at HCL
    (with_reducible refine HCL.mono ?_)
    rintro e w6 ⟨v6, rfl, ho6, hb6⟩
    have HO6 := Aside0.mk (Kd.R_lower ho6 (Nat.le_trans BB.out.size HB5.out.size))
    have HB6 := Aside0.mk (below_step (below_step BB.out HB5.out) hb6)
    clear ho6 hb6 HCL hlt
    go_wp2
    go_ret2
    obtain ⟨h1, h2⟩ := H12.out
    subst h1; subst h2
    exact ⟨_, rfl, HO6.out, HB6.out⟩
   ·have p0 : (0 : Int) ≤ (s.length : Int) := by omega
    have p1 : (s.length : Int) ≤ (c5 : Int) := by omega
    have d1 : decide (a2 ≤ (s.length : Int)) = false := decide_eq_false hle
    have d2 : decide ((s.length : Int) < a2) = true := decide_eq_true (by omega)
    have m1 : min a2 (s.length : Int) = (s.length : Int) := Int.min_eq_right (by omega)
    have e0 := eq_true p0
    have e1 := eq_true p1
    have e2 := eq_false hle
    have e3 := eq_true (show (s.length : Int) < a2 by omega)
    have e4 := eq_true hcap
    have hlt : s.take a2.toNat = s := List.take_of_length_le (by omega)
    have HTT2 := Aside0.mk (show slices_Clone_impl_Entry.f s = some t from by have h := HTT.out; rw [hlt] at h; exact h)
    clear hm hcap hle hlt
    go_wp2_with fail
    (with_reducible refine (slices_Clone_impl_Entry.calls A5 c5 s t w5 (Kd.R_reads' HO5.out).2.2 (Kd.R_reads' HO5.out).2.1 HTT2.out).mono ?_)
    rintro e w6 ⟨v6, rfl, ho6, hb6⟩
    have HO6 := Aside0.mk (Kd.R_lower ho6 (Nat.le_trans BB.out.size HB5.out.size))
    have HB6 := Aside0.mk (below_step (below_step BB.out HB5.out) hb6)
    clear ho6 hb6
    go_wp2
    go_ret2
    obtain ⟨h1, h2⟩ := H12.out
    subst h1; subst h2
    exact ⟨_, rfl, HO6.out, HB6.out⟩

-- NOT PRINTED: function 9 (laws_FnExactSuggest)

end Go.Proofs.Ytkoackkimdanjaa.QFnExactSuggest
