/- This session's own words for printed walks, the second lot: []byte(s); no conditions. -/
import Derived.Test.YtlohhmoaomlieaaWMore
import Derived.Test.YtlohhmoaomlieaaWShare
import Derived.Lib.ConvBytes
import Derived.Sort.Row
import Derived.Lib.Small
import Derived.Lib.BitFns
namespace Go.Proofs.Ytlohhmoaomlieaa.Ext
open Go.RowKit Go.Proofs.YtlohhmoaomlieaaW.PrintWords Go.Proofs.YtlohhmoaomlieaaW.PrintLast Go.Proofs.YtlohhmoaomlieaaW.PrintMore
set_option linter.unusedSimpArgs false
set_option linter.unusedVariables false

/-- A text's bytes, as whole numbers. -/
def numsOf (s : ByteArray) : List Int := s.data.toList.map fun b => (b.toNat : Int)
theorem numsOf_length (s : ByteArray) : (numsOf s).length = s.size := by
  unfold numsOf
  rw [List.length_map, Array.length_toList]; rfl
theorem numsOf_get (s : ByteArray) (j : Nat) (p : Int) (h : (numsOf s)[j]? = some p) : j < s.size ∧ p = ((s.data.toList.getD j 0).toNat : Int) := by
  unfold numsOf at h
  rw [List.getElem?_map] at h
  cases hc : s.data.toList[j]? with
  | none => rw [hc] at h; simp at h
  | some b =>
    rw [hc] at h
    have hj := (List.getElem?_eq_some_iff.1 hc).1
    rw [Array.length_toList] at hj
    refine ⟨hj, ?_⟩
    simp only [Option.map_some, Option.some.injEq] at h
    rw [List.getD_eq_getElem?_getD, hc]
    exact h.symm
theorem conv_C (W W1 : World) (e : TypeId) (s : ByteArray) (hs : s.size ≤ 9223372036854775807) (hw : W1.heap[W.heap.size]? = (Lib.bytesWorld W e s).heap[W.heap.size]?) : Kd.C (Kd.int .u8) W1 (some ⟨W.heap.size, 0, none⟩) (numsOf s).length (numsOf s) := by
  refine ⟨rfl, by rw [numsOf_length]; exact hs, fun _ => ⟨_, rfl, fun j p hp => ?_⟩⟩
  obtain ⟨hj, rfl⟩ := numsOf_get s j p hp
  refine ⟨[.int .u8 ((s.data.toList.getD j 0).toNat : Int)], rfl, rfl, fun i u hu => ?_⟩
  have hi : i = 0 := by
    rcases i with _ | i
    · rfl
    · simp at hu
  subst hi
  simp only [List.getElem?_cons_zero, Option.some.injEq] at hu
  subst hu
  have h0 := Lib.bytesWorld_cell W e s j hj
  have hsz : (Kd.int .u8).sz = 1 := rfl
  have ea : (⟨W.heap.size, 0, none⟩ : Addr).add (j * (Kd.int .u8).sz + 0) = ⟨W.heap.size, j, none⟩ := by
    rw [hsz, Nat.mul_one, Nat.add_zero]
    unfold Addr.add
    split
    · rename_i h; subst h; rfl
    · simp
  rw [ea]
  unfold World.cell? at h0 ⊢
  simp only at h0 ⊢
  rw [hw]
  exact h0
theorem below_bytesWorld (W : World) (e : TypeId) (s : ByteArray) : Below W.heap.size W (Lib.bytesWorld W e s) :=
  ⟨by simp [Lib.bytesWorld, World.freeze, World.alloc, World.drew, -World.alloc_eq, -World.drew_eq], by simp [Lib.bytesWorld, World.freeze, World.alloc, World.drew, -World.alloc_eq, -World.drew_eq], by simp [Lib.bytesWorld, World.freeze, World.alloc, World.drew, -World.alloc_eq, -World.drew_eq], by rw [Lib.bytesWorld_size]; omega, fun k hk => Lib.bytesWorld_at_old W e s k hk⟩
theorem Kd.V_conv {P : Program} {ops : Array Oper} {rest : List Oper} {Q : Exit → Act → World → Prop} {o : Oper} {a : Act} {W : World} (hgd : o.guard = none) {N : Tmp} (_hd : o.dst = some N) {src dst e : TypeId} {s : ByteArray} {u : TypeDesc}
    (hox : ∃ x, o.op = .convert src dst x ∧ a.eval x = .string s) (hsrc : P.underlying src = some u) (hdst : P.underlying dst = some (.slice e)) (he : P.underlying e = some (.int .u8)) (hs : s.size ≤ 9223372036854775807)
    (h : ∀ v w1, Kd.V (Kd.int .u8) e w1 W.heap.size (fun k => W.heap.size ≤ k) v (numsOf s) → Below W.heap.size W w1 → wpList P ops Q rest (a.put o.dst v) w1) : wpList P ops Q (o :: rest) a W := by
  obtain ⟨x, hop, hx⟩ := hox
  refine Kd.event_run (w1 := Lib.bytesWorld W e s) (v := .slice (some ⟨W.heap.size, 0, none⟩) s.size (grownCap W s.size 0 e)) hgd ?_ (h _ _ ?_ (below_bytesWorld W e s))
  · unfold execOp
    simp [hop, hx, Lib.run_convert_string_bytes W src dst e s hsrc hdst he]
  · have hl := numsOf_length s
    rw [← hl]
    refine Kd.V_mk (by rw [hl]; exact grownCap_ge _ _ _ _) ?_
    intro W' hW'
    refine conv_C W W' e s hs (hW' _ (Nat.le_refl _) ?_)
    rw [Lib.bytesWorld_size]; omega
theorem set_set (w : World) (g : Nat) (v v' : Value) : (w.setCell ⟨g, 0, none⟩ v).setCell ⟨g, 0, none⟩ v' = w.setCell ⟨g, 0, none⟩ v' := by
  simp only [Go.Sort.setCell_eq, Go.Sort.mapBlock_mapBlock]
  congr 1
  funext c
  simp
theorem len8_walk (a0 : Int) (h0 : 0 ≤ a0) (h1 : a0 < 256) (h : a0.toNat < Lib.len8tab.size) : wrap64 (wrap64 ((Lib.len8tab[a0.toNat]'h).toNat : Int)) = ((Lib.bitLen a0.toNat : Nat) : Int) := by
  have e := Lib.len8_of a0 h0 (by omega)
  have l := Lib.bitLen_le8' a0 h0 (by omega)
  have e2 : ((Lib.len8tab[a0.toNat]'h).toNat : Int) = ((Lib.bitLen a0.toNat : Nat) : Int) := by
    rw [← e]
    simp [Lib.len8, h, getElem!_pos]
  rw [e2]
  generalize Lib.bitLen a0.toNat = b at l
  unfold wrap64
  omega
/-- The next number of the sort's own little source. -/
def xnext (x : Int) : Int :=
  bits .xor .u64 (bits .xor .u64 (bits .xor .u64 x (IntKind.u64.wrap (x * 8192))) (bits .xor .u64 x (IntKind.u64.wrap (x * 8192)) / 128)) (IntKind.u64.wrap (bits .xor .u64 (bits .xor .u64 x (IntKind.u64.wrap (x * 8192))) (bits .xor .u64 x (IntKind.u64.wrap (x * 8192)) / 128) * 131072))
end Go.Proofs.Ytlohhmoaomlieaa.Ext
