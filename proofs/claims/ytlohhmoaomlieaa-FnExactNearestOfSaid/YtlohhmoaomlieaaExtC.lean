/- This session's own words for printed walks, the third lot: slices.Sort and slices.Compact at []string, over a row of the call's own, by the library's contracts. No conditions. -/
import Derived.Test.YtlohhmoaomlieaaExtB
import Derived.Test.YtlohhmoaomlieaaWKept
import Derived.Shelf.Sort.Plain
import Derived.Shelf.Slices.In.SortNone
import Derived.Shelf.Slices.CompactS
import Derived.Sort.OwnSorted
namespace Go.Proofs.Ytlohhmoaomlieaa.Ext
open Go.Sort Go.Shelf Go.RowKit Go.Proofs.YtlohhmoaomlieaaW.PrintWords
set_option linter.unusedSimpArgs false
set_option linter.unusedVariables false

def lb (s : ByteArray) : List UInt8 := s.data.toList
def bl (l : List UInt8) : ByteArray := ⟨l.toArray⟩
theorem encStr_lb (s : ByteArray) : encStr (lb s) = .string s := rfl
theorem bl_lb (s : ByteArray) : bl (lb s) = s := rfl
theorem lb_bl (l : List UInt8) : lb (bl l) = l := by simp [lb, bl]
theorem encs_lb (l : List ByteArray) : encs Value.string l = (l.map lb).map encStr := by
  unfold encs
  rw [List.map_map]; rfl
theorem encs_bl (l : List (List UInt8)) : encs Value.string (l.map bl) = l.map encStr := by
  unfold encs
  rw [List.map_map]; rfl
/-- The row's texts, rising. -/
def sortStrs (l : List ByteArray) : List ByteArray := ((l.map lb).mergeSort fun x y => decide (x ≤ y)).map bl
/-- The row's texts, neighbours that are equal but once. -/
def compStrs (l : List ByteArray) : List ByteArray := (Lib.compact (l.map lb)).map bl
theorem sortStrs_length (l : List ByteArray) : (sortStrs l).length = l.length := by simp [sortStrs]
theorem compact_le (zs : List (List UInt8)) : (Lib.compact zs).length ≤ zs.length := by
  unfold Lib.compact Lib.compactUpTo
  rw [List.length_map]
  refine Nat.le_trans (List.length_filter_le _ _) ?_
  simp
theorem grownBy_row {w : World} {g n : Nat} (d : Array (List UInt8)) : w.grownBy (putRow encStr (Sort.ahead w n) g 0 d) (some g) := by
  refine ⟨rfl, rfl, rfl, by simp, fun k hk hne => ?_⟩
  have : g ≠ k := fun e => hne (by rw [e])
  simp [putRow, mapBlock, Sort.ahead, Array.getElem?_modify, this]
variable {P : Program} {ρ : Ren}
theorem sort_calls (L : Lays.n190 P ρ) {e : Nat} (P0_ : Nat → Prop) (v : Value) (l0 : List ByteArray) (w0 w : World) (hB : Below w0.heap.size w0 w) (ho0 : Kd.R Kd.string e w w0.heap.size P0_ v l0) (hsz : l0.length < 4611686018427387904) :
    Calls P (ρ.f 190) #[v] w fun ex w' => ex = .returned (.tuple #[]) ∧ Kd.R Kd.string e w' w0.heap.size (fun k_ => P0_ k_ ∨ w.heap.size ≤ k_) v (sortStrs l0) ∧ Below w0.heap.size w0 w' ∧ Kept w w' (fun k_ => P0_ k_) := by
  have hown := Kd.own_of_R ho0
  have hP := ho0.1
  have hl : ((l0.map lb).mergeSort fun x y => decide (x ≤ y)).length = (l0.map lb).length := by simp
  rcases hown.2 with ⟨rfl, h0⟩ | ⟨g, cap, cur, rfl, hbase, hb, h1, h2, h3, h4⟩
  · obtain rfl := List.eq_nil_of_length_eq_zero h0
    refine (Any.slices_Sort_string_none L none 0 w).mono ?_
    rintro ex w' ⟨rfl, rfl⟩
    exact ⟨rfl, Kd.R_mono (by simpa [sortStrs] using ho0) (fun k hk => .inl hk), hB, Kept.refl _ _⟩
  · have hlen : (l0.map lb).length = l0.length := List.length_map _
    rw [encs_lb, Nat.mul_one] at h4
    have hc := Any.slices_Sort_string L g 0 cap (l0.map lb) w (holds_of_block hb (by rw [hlen]; exact h4)) (blk_lt hb) (by rw [hlen]; exact hsz)
    rw [hlen] at hc
    refine hc.mono ?_
    rintro ex w' ⟨rfl, n, os, rfl⟩
    have hg : w.grownBy (grow (putRow encStr (Sort.ahead w n) g 0 ((l0.map lb).mergeSort fun x y => decide (x ≤ y)).toArray) os) (some g) := grownBy_sorted _
    refine ⟨rfl, Kd.R_of_own ?_ ?_, Below.grown hB hg hB.size (fun j hj => by injection hj with hj; omega), Kept.of_grown hg (Kept.refl w _) (fun k hk => .inl ?_)⟩
    · have := ownsRow_sorted (w := w) (n := n) (os := os) (ss := l0.map lb) (ts := (l0.map lb).mergeSort fun x y => decide (x ≤ y)) hl hbase hb (by rw [hlen]; exact h1) h2 h3
      rw [hlen] at this
      rw [sortStrs_length]
      unfold sortStrs
      rw [encs_bl]
      exact this
    · intro k hk
      exact .inl (hP k hk)
    · injection hk with hk
      exact hP k (by rw [← hk]; rfl)
theorem compact_calls (L : Lays.n194 P ρ) {e : Nat} (P0_ : Nat → Prop) (v : Value) (l0 : List ByteArray) (w0 w : World) (hB : Below w0.heap.size w0 w) (ho0 : Kd.R Kd.string e w w0.heap.size P0_ v l0) :
    Calls P (ρ.f 194) #[v] w fun ex w' => (∃ v0_, ex = .returned v0_ ∧ Kd.R Kd.string e w' w0.heap.size (fun k_ => P0_ k_ ∨ w.heap.size ≤ k_) v0_ (compStrs l0)) ∧ Below w0.heap.size w0 w' ∧ Kept w w' (fun k_ => P0_ k_) := by
  have hown := Kd.own_of_R ho0
  have hP := ho0.1
  rcases hown.2 with ⟨rfl, h0⟩ | ⟨g, cap, cur, rfl, hbase, hb, h1, h2, h3, h4⟩
  · obtain rfl := List.eq_nil_of_length_eq_zero h0
    refine (Any.slices_Compact_string_empty L none 0 w).mono ?_
    rintro ex w' ⟨rfl, rfl⟩
    exact ⟨⟨_, rfl, Kd.R_mono (by simpa [compStrs, Lib.compact, Lib.compactUpTo] using ho0) (fun k hk => .inl hk)⟩, hB, Kept.refl _ _⟩
  · have hlen : (l0.map lb).length = l0.length := List.length_map _
    rw [encs_lb, Nat.mul_one] at h4
    have hmx : maxLen ≤ 9223372036854775807 := by decide
    have hc := Any.slices_Compact_string L g 0 cap (l0.map lb) w (holds_of_block hb (by rw [hlen]; exact h4)) (by rw [hlen]; omega) (by rw [hlen]; exact h1)
    rw [hlen] at hc
    refine hc.mono ?_
    rintro ex w' ⟨rfl, q, rfl⟩
    have hcl := compact_le (l0.map lb)
    rw [hlen] at hcl
    generalize hzz : Lib.compact (l0.map lb) = zz at hcl
    have hg : w.grownBy (putRow encStr (Sort.ahead w q) g 0 (zz ++ List.replicate (l0.length - zz.length) []).toArray) (some g) := grownBy_row _
    refine ⟨⟨_, rfl, Kd.R_of_own ?_ ?_⟩, Below.grown hB hg hB.size (fun j hj => by injection hj with hj; omega), Kept.of_grown hg (Kept.refl w _) (fun k hk => .inl ?_)⟩
    · unfold compStrs
      rw [hzz, encs_bl, List.length_map]
      refine ⟨by simp, .inr ⟨g, cap, putCells encStr 0 (zz ++ List.replicate (l0.length - zz.length) []).toArray cur, rfl, hbase, ?_, by omega, h2, by simp [putCells, h3], ?_⟩⟩
      · simp [putRow, mapBlock, Sort.ahead, Array.getElem?_modify, hb, onCells]
      · have ht := take_putCells cur (zz ++ List.replicate (l0.length - zz.length) []) (by simp; omega)
        rw [Nat.mul_one]
        have h5 := congrArg (List.take zz.length) ht
        have h6 : List.take zz.length ((zz ++ List.replicate (l0.length - zz.length) []).map encStr) = zz.map encStr := by
          rw [List.map_append]
          exact List.take_left' (by simp)
        rw [h6, List.take_take, Nat.min_eq_left (by simp)] at h5
        exact h5
    · intro k hk
      exact .inl (hP k hk)
    · injection hk with hk
      exact hP k (by rw [← hk]; rfl)
end Go.Proofs.Ytlohhmoaomlieaa.Ext
