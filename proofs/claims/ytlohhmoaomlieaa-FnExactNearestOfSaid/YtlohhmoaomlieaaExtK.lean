/- Knots of words (a word, distances, places of kids): the words of both builds' walks. No conditions. -/
import Derived.Test.YtlohhmoaomlieaaWMore
import Derived.Test.YtlohhmoaomlieaaWApart
namespace Go.Proofs.YtlohhmoaomlieaaW.PrintWords
open Go.RowKit
namespace Kd
/-- Two in line whose blocks lie apart. -/
def two {α β : Type} (a : Kd α) (b : Kd β) : Kd (α × β) where
  sz := a.sz + b.sz
  E := a.E ++ b.E
  K := fun w x cs => ∃ c0 c1, cs = c0 ++ c1 ∧ a.K w x.1 c0 ∧ b.K w x.2 c1
  M := fun w base ok x cs => ∃ (t : Nat → Bool) (c0 c1 : List Value), cs = c0 ++ c1 ∧ a.M w base (fun k => ok k ∧ t k = false) x.1 c0 ∧ b.M w base (fun k => ok k ∧ t k = true) x.2 c1
  K_len := by
    rintro w x cs ⟨c0, c1, rfl, h0, h1⟩
    rw [List.length_append, a.K_len h0, b.K_len h1]
  K_one := by
    rintro w x cs ⟨c0, c1, rfl, h0, h1⟩ u hu
    rcases List.mem_append.1 hu with hu | hu
    · exact a.K_one h0 u hu
    · exact b.K_one h1 u hu
  K_below := by
    rintro w w1 x cs hb ⟨c0, c1, rfl, h0, h1⟩
    exact ⟨c0, c1, rfl, a.K_below hb h0, b.K_below hb h1⟩
  K_of_M := by
    rintro w base ok x cs ⟨t, c0, c1, rfl, h0, h1⟩
    exact ⟨c0, c1, rfl, a.K_of_M h0, b.K_of_M h1⟩
  M_mono := by
    rintro w base ok ok' x cs hok ⟨t, c0, c1, rfl, h0, h1⟩
    exact ⟨t, c0, c1, rfl, a.M_mono (fun k hk => ⟨hok k hk.1, hk.2⟩) h0, b.M_mono (fun k hk => ⟨hok k hk.1, hk.2⟩) h1⟩
  M_bound := by
    rintro w base ok x cs ⟨t, c0, c1, rfl, h0, h1⟩
    refine ⟨t, c0, c1, rfl, a.M_mono ?_ (a.M_bound h0), b.M_mono ?_ (b.M_bound h1)⟩
    · rintro k ⟨⟨h2, h3⟩, h4, h5, q, hq, hc⟩
      exact ⟨⟨h2, h4, h5, q, List.mem_append_left _ hq, hc⟩, h3⟩
    · rintro k ⟨⟨h2, h3⟩, h4, h5, q, hq, hc⟩
      exact ⟨⟨h2, h4, h5, q, List.mem_append_right _ hq, hc⟩, h3⟩
  M_move := by
    rintro w w1 base ok x cs hm ⟨t, c0, c1, rfl, h0, h1⟩
    exact ⟨t, c0, c1, rfl, a.M_move (fun k hk => hm k hk.1) h0, b.M_move (fun k hk => hm k hk.1) h1⟩
  M_lower := by
    rintro w base base' ok x cs hb ⟨t, c0, c1, rfl, h0, h1⟩
    exact ⟨t, c0, c1, rfl, a.M_lower hb h0, b.M_lower hb h1⟩
end Kd
end Go.Proofs.YtlohhmoaomlieaaW.PrintWords
namespace Go.Proofs.Ytlohhmoaomlieaa.Ext
/-- The first place of what is no less. -/
def placeL (d : Int) : List Int → Nat
  | [] => 0
  | x :: l => if x < d then placeL d l + 1 else 0
theorem placeL_le (d : Int) : ∀ l : List Int, placeL d l ≤ l.length
  | [] => Nat.le_refl _
  | x :: l => by
    unfold placeL
    split
    · have := placeL_le d l; rw [List.length_cons]; omega
    · exact Nat.zero_le _
theorem placeL_lt (d : Int) : ∀ (l : List Int) (i : Nat), i < placeL d l → ∃ x, l[i]? = some x ∧ x < d
  | [], i, h => by simp [placeL] at h
  | x :: l, i, h => by
    unfold placeL at h
    split at h
    · cases i with
      | zero => exact ⟨x, rfl, by assumption⟩
      | succ i =>
        obtain ⟨y, h1, h2⟩ := placeL_lt d l i (by omega)
        exact ⟨y, by simpa using h1, h2⟩
    · omega
theorem placeL_at (d : Int) : ∀ (l : List Int) (x : Int), l[placeL d l]? = some x → ¬ x < d
  | [], x, h => by simp [placeL] at h
  | y :: l, x, h => by
    unfold placeL at h
    split at h
    · exact placeL_at d l x (by simpa using h)
    · simp only [List.getElem?_cons_zero, Option.some.injEq] at h
      subst h
      assumption
end Go.Proofs.Ytlohhmoaomlieaa.Ext
namespace Go.Proofs.Ytlohhmoaomlieaa.Ext
open Go.RowKit Go.Proofs.YtlohhmoaomlieaaW.PrintWords
/-- A literal of one number, read over what leaves it alone. -/
theorem C_lit1 {W W_ : World} {b : Nat} {t : TypeId} {d : Int} {P0 : Nat → Prop} (h : W.heap[b]? = some (.cells #[.int .i64 d] t (0, 0))) (hk : Kept W W_ P0) (hn : ¬ P0 b) : (Kd.int .i64).C W_ (some ⟨b, 0, none⟩) ([d] : List Int).length [d] := by
  have h2 := blk_kept h hk hn
  refine ⟨rfl, by simp, fun _ => ⟨⟨b, 0, none⟩, rfl, fun j p hj => ?_⟩⟩
  cases j with
  | zero =>
    have hp : d = p := by simpa using hj
    subst hp
    refine ⟨[.int .i64 d], rfl, rfl, fun i v hv => ?_⟩
    cases i with
    | zero =>
      have hv : Value.int .i64 d = v := by simpa using hv
      subst hv
      rw [add_at]
      exact (blk_cell h2 0).trans rfl
    | succ i => simp at hv
  | succ j => simp at hj
end Go.Proofs.Ytlohhmoaomlieaa.Ext
namespace Go.Proofs.YtlohhmoaomlieaaW.PrintWords
theorem frozen_kept {W W2 : World} {S : Nat → Prop} {a : Addr} {u : Value} (hf : W.frozen? a = false) (hc : W.cell? a = some u) (hk : Kept W W2 S) (hne : ¬ S a.block) : W2.frozen? a = false := by
  have := hk.2 a.block (World.block_lt_of_cell? W a hc) hne
  simpa [World.frozen?, this] using hf
end Go.Proofs.YtlohhmoaomlieaaW.PrintWords
namespace Go.Proofs.YtlohhmoaomlieaaW.PrintWords
theorem alloc_size (W : World) (o : Obj) : (W.alloc o).heap.size = W.heap.size + 1 := by show (W.heap.push o).size = _; exact Array.size_push ..
theorem blk_new1 (W : World) (o o' : Obj) : ((W.alloc o').alloc o).heap[W.heap.size + 1]? = some o := by
  rw [← alloc_size W o']
  exact blk_new _ _
end Go.Proofs.YtlohhmoaomlieaaW.PrintWords
