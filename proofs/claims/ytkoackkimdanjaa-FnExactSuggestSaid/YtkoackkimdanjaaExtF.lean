/- This session's own words for printed walks, the sixth lot: slices.SortFunc on a row of structs of the call's own, by the library's contract. No conditions. -/
import Derived.Test.YtkoackkimdanjaaExtB
import Derived.Test.YtkoackkimdanjaaWKept
import Derived.Test.YtkoackkimdanjaaWMore
import Derived.Shelf.SlSortCmp.NoneTotal
namespace Go.Proofs.Ytkoackkimdanjaa.Ext
open Go.Sort Go.Shelf Go.RowKit Go.Proofs.YtkoackkimdanjaaW.PrintWords
set_option linter.unusedSimpArgs false
set_option linter.unusedVariables false
section
variable {α : Type} [Inhabited α]
theorem reps_flat {enc : α → List Value} {k : Nat} {l : List α} {inner : List Value} (h : Reps (fun x cs => cs = enc x) k l inner) : flatK enc k l.toArray = inner.toArray := by
 have hl : inner.length = l.length * k := h.1
 refine ext_get! (by simp [hl]) fun t ht => ?_
 have ht' : t < l.length * k := by simpa using ht
 have k0 : 0 < k := Nat.pos_of_ne_zero fun h0 => by subst h0; simp at ht'
 have hq : t / k < l.length := (Nat.div_lt_iff_lt_mul k0).2 ht'
 have hr := h.2 (t / k) _ (List.getElem?_eq_getElem hq)
 have hm : t % k < k := Nat.mod_lt _ k0
 have hd : t / k * k + t % k = t := by rw [Nat.mul_comm]; exact Nat.div_add_mod t k
 rw [get_flatK _ _ _ _ (by simpa using ht')]
 have e1 : l.toArray[t / k]! = l[t / k] := by simp [hq]
 rw [e1, ← hr]
 have hlt : t < inner.length := by omega
 simp only [List.getElem!_eq_getElem?_getD, List.getElem?_take_of_lt hm, List.getElem?_drop, hd]
 simp [hlt]
theorem flat_reps {enc : α → List Value} {k : Nat} (hk : ∀ x, (enc x).length = k) (l : List α) : Reps (fun x cs => cs = enc x) k l (flatK enc k l.toArray).toList := by
 refine ⟨by simp, fun j p hj => ?_⟩
 have hjl : j < l.length := (List.getElem?_eq_some_iff.1 hj).1
 have hp : l[j] = p := (List.getElem?_eq_some_iff.1 hj).2
 have hsz : (flatK enc k l.toArray).toList.length = l.length * k := by simp
 have hle : j * k + k ≤ l.length * k := by
  have := Nat.mul_le_mul_right k (show j + 1 ≤ l.length by omega)
  rwa [Nat.add_mul, Nat.one_mul] at this
 apply List.ext_getElem?
 intro i
 by_cases hi : i < k
 ·have k0 : 0 < k := by omega
  have h1 : (j * k + i) / k = j := by rw [Nat.mul_comm, Nat.mul_add_div k0, Nat.div_eq_of_lt hi]; rfl
  have h2 : (j * k + i) % k = i := by rw [Nat.mul_comm, Nat.mul_add_mod, Nat.mod_eq_of_lt hi]
  have hg := get_flatK enc k l.toArray (j * k + i) (by simp; omega)
  rw [h1, h2] at hg
  have hlt : j * k + i < (flatK enc k l.toArray).size := by simp; omega
  rw [List.getElem?_take_of_lt hi, List.getElem?_drop, Array.getElem?_toList, Array.getElem?_eq_getElem hlt, List.getElem?_eq_getElem (by rw [hk]; exact hi)]
  rw [getElem!_pos (flatK enc k l.toArray) (j * k + i) hlt] at hg
  rw [hg]
  simp [hjl, hp, hk, hi]
 ·rw [List.getElem?_take_eq_none (by omega), List.getElem?_eq_none (by rw [hk]; omega)]
end
theorem holds_id {w : World} {g : Nat} {cur : Array Value} {e : TypeId} {F : List Value} (hb : w.heap[g]? = some (.cells cur e (0, 0))) (ht : cur.toList.take F.length = F) : Holds id w g 0 F.toArray := by
 intro j hj
 have hj' : j < F.length := by simpa using hj
 refine ⟨?_, by simp [World.frozen?, hb]⟩
 have h1 : (cur.toList.take F.length)[j]? = F[j]? := by rw [ht]
 rw [List.getElem?_take_of_lt hj'] at h1
 simp only [World.cell?, hb, Nat.zero_add]
 simp only [Option.isSome_none, Bool.false_eq_true, if_false]
 rw [← Array.getElem?_toList, h1]
 simp [hj']
theorem heap_putId {w : World} {g n : Nat} {os : Array Obj} {cur : Array Value} {e : TypeId} {fr : Nat × Nat} (F : Array Value) (hb : w.heap[g]? = some (.cells cur e fr)) :
  (grow (putRow id (Sort.ahead w n) g 0 F) os).heap[g]? = some (.cells (putCells id 0 F cur) e fr) := by
 have hg : g < w.heap.size := (Array.getElem?_eq_some_iff.1 hb).1
 rw [heap_grow_old _ _ (by simpa using hg)]
 simp [putRow, mapBlock, Sort.ahead, Array.getElem?_modify, hb, onCells]
theorem grownBy_putId {w : World} {g n : Nat} {os : Array Obj} (F : Array Value) : w.grownBy (grow (putRow id (Sort.ahead w n) g 0 F) os) (some g) := by
 refine ⟨rfl, rfl, rfl, by simp, fun k hk hne => ?_⟩
 rw [heap_grow_old _ _ (by simpa using hk)]
 have : g ≠ k := fun e => hne (by rw [e])
 simp [putRow, mapBlock, Sort.ahead, Array.getElem?_modify, this]
theorem take_putId (cur : Array Value) (F : List Value) (h : F.length ≤ cur.size) : (putCells id 0 F.toArray cur).toList.take F.length = F := by
 apply List.ext_getElem?
 intro j
 by_cases hj : j < F.length
 ·rw [List.getElem?_take_of_lt hj, Array.getElem?_toList]
  simp [putCells, hj, show j < cur.size by omega]
 ·rw [List.getElem?_take_eq_none (by omega), List.getElem?_eq_none (by omega)]
variable {P : Program} {ρ : Ren}
/-- slices.SortFunc with a comparison that parts whatever two that are not one. -/
theorem sortf_calls (L : SlLaysF0.n6 P ρ) {α : Type} [Inhabited α] (d : Kd α) (enc : α → List Value) (hM : ∀ w base ok x cs, d.M w base ok x cs ↔ cs = enc x) (aE : ∀ w, (isAgg (ρ.t 24)).run P w = .ok true w) (zE : ∀ w, (Go.sizeOf (ρ.t 24)).run P w = .ok d.sz w)
  (cf : α → α → Int) (hO : SWO (ltOf cf)) (hT : ∀ x y, (ltOf cf) x y = false → (ltOf cf) y x = false → x = y) {e : Nat} (P0_ : Nat → Prop) (v : Value) (l0 : List α) (w0 w : World) (hB : Below w0.heap.size w0 w) (ho0 : Kd.R d e w w0.heap.size P0_ v l0) (hsz : l0.length < 4611686018427387904)
  (g : Nat) (cb : Array Value) (eg : ∀ args w, (callFunc g args).run P w = .ok (.enter g args) w) (hcmp : ∀ (W : World) (x y : α), Calls P g (#[.agg (enc x).toArray, .agg (enc y).toArray] ++ cb) W fun e w' => e = .returned (.int .i64 (cf x y)) ∧ ∃ q os', w' = grow (W.drewN q) os') :
  Calls P (ρ.f 6) #[v, .func (.func g) #[] cb] w fun ex w' => ex = .returned (.tuple #[]) ∧ Kd.R d e w' w0.heap.size (fun k_ => P0_ k_ ∨ w.heap.size ≤ k_) v (l0.mergeSort fun x y => !(ltOf cf) y x) ∧ Below w0.heap.size w0 w' ∧ Kept w w' (fun k_ => P0_ k_) := by
 have hlen : ∀ x, (enc x).length = d.sz := fun x => d.K_len (d.K_of_M ((hM w 0 (fun _ => True) x (enc x)).2 rfl))
 have hone : ∀ x, ∀ u ∈ enc x, u.oneCell' = true := fun x => d.K_one (d.K_of_M ((hM w 0 (fun _ => True) x (enc x)).2 rfl))
 obtain ⟨hP, inner, hown, hr⟩ := ho0
 have hr' : Reps (fun x cs => cs = enc x) d.sz l0 inner := ⟨hr.1, fun j p hj => (hM _ _ _ _ _).1 (hr.2 j p hj)⟩
 have hfl := reps_flat hr'
 have hl2 : (l0.mergeSort fun x y => !(ltOf cf) y x).length = l0.length := by simp
 rcases hown.2 with ⟨rfl, h0⟩ | ⟨b, cap, cur, rfl, hbase, hb, h1, h2, h3, h4⟩
 ·obtain rfl := List.eq_nil_of_length_eq_zero h0
  refine (AnyF.slices_SortFunc_none L none 0 _ w).mono ?_
  rintro ex w' ⟨rfl, rfl⟩
  exact ⟨rfl, by simpa using Kd.R_nil _ _ _ _ _, hB, Kept.refl _ _⟩
 ·have hin : inner.length = l0.length * d.sz := hr.1
  have hH : HoldsK enc d.sz w b 0 l0.toArray := by
   unfold HoldsK
   rw [hfl]
   exact holds_id hb (by rw [hin]; exact h4)
  have hc := AnyQ.slices_SortFunc_total L d.sz aE zE enc hlen hone cf hO g cb b 0 cap l0.toArray w eg (fun m os dk _ x y => hcmp _ x y) hH (blk_lt hb) (by simpa using hsz) hT
  rw [show l0.toArray.size = l0.length from by simp] at hc
  refine hc.mono ?_
  rintro ex w' ⟨rfl, n, os, rfl⟩
  rw [show l0.toArray.toList = l0 from rfl]
  generalize hs : (l0.mergeSort fun x y => !(ltOf cf) y x) = s at hl2
  have hfr := flat_reps hlen s
  have hfs : (flatK enc d.sz s.toArray).toList.length = l0.length * d.sz := by rw [hfr.1, hl2]
  have hw' : sortWorldK enc d.sz w b 0 n s.toArray os = grow (putRow id (Sort.ahead w n) b 0 (flatK enc d.sz s.toArray).toList.toArray) os := rfl
  rw [hw']
  generalize (flatK enc d.sz s.toArray).toList = F at hfr hfs
  have hg : w.grownBy (grow (putRow id (Sort.ahead w n) b 0 F.toArray) os) (some b) := grownBy_putId _
  have hcs : l0.length * d.sz ≤ cur.size := by rw [h3]; exact Nat.mul_le_mul_right _ h1
  refine ⟨rfl, ⟨fun k hk => .inl (hP k hk), F, ⟨?_, .inr ⟨b, cap, _, by rw [hl2], hbase, heap_putId _ hb, by rw [hl2]; exact h1, h2, by simp [putCells, h3], ?_⟩⟩, ⟨?_, fun j p hj => (hM _ _ _ _ _).2 (hfr.2 j p hj)⟩⟩, Below.grown hB hg hB.size (fun j hj => by injection hj with hj; omega), Kept.of_grown hg (Kept.refl w _) (fun k hk => .inl ?_)⟩
  all_goals first | (rw [hl2]; exact hfs) | skip
  all_goals first | (rw [hl2, ← hfs]; exact take_putId cur F (by omega)) | skip
  all_goals first | exact hfr.1 | skip
  injection hk with hk
  exact hP k (by rw [← hk]; rfl)
end Go.Proofs.Ytkoackkimdanjaa.Ext
