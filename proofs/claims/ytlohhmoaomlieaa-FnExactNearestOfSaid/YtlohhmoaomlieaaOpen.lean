/- What reads as data is a value of a kind, for whole numbers, bools, strings, slices and structs; no conditions. -/
import Derived.Test.YtlohhmoaomlieaaWMore
import Derived.Deep.Slices
import Derived.ProofKit
import Derived.WideShapes
namespace Go.Proofs.Ytlohhmoaomlieaa.Base
open Go.RowKit Go.Proofs.YtlohhmoaomlieaaW.PrintWords

/-- What reads as data at type t is a value of kind d, and well formed. -/
def Opens {α : Type} (P : Program) (t : TypeId) (d : Kd α) (wf : α → Prop) : Prop :=
 ∀ (H : Type) (enc : TypeId × Value → H) (W : World) (base : Nat) (spare : Nat → Bool) (held : Bool) (fuel : Nat) (cs : List Value) (x : DataW H × List MemPlace),
  DataW.trod enc P W base spare held fuel t cs = some x → ∃ a, d.K W a cs ∧ wf a

theorem opens_int {P : Program} {t : TypeId} {k : IntKind} (ht : P.underlying t = some (.int k)) : Opens P t (Kd.int k) (fun n => (Lit.int k n).wf = true) := by
 intro H enc W base spare held fuel cs x h
 obtain ⟨n, rfl, _, hw⟩ := DataW.trod_int ht h
 exact ⟨n, rfl, hw⟩
theorem opens_string {P : Program} {t : TypeId} (ht : P.underlying t = some .string) : Opens P t Kd.string (fun s => s.size ≤ 9223372036854775807) := by
 intro H enc W base spare held fuel cs x h
 obtain ⟨s, rfl, _, hw⟩ := DataW.trod_string ht h
 exact ⟨s, rfl, hw⟩
theorem opens_bool {P : Program} {t : TypeId} (ht : P.underlying t = some .bool) : Opens P t Kd.bool (fun _ => True) := by
 intro H enc W base spare held fuel cs x h
 obtain ⟨s, rfl, _⟩ := DataW.trod_bool ht h
 exact ⟨s, rfl, trivial⟩

theorem opens_slice {α : Type} {P : Program} {t e : TypeId} {d : Kd α} {wf : α → Prop} (ht : P.underlying t = some (.slice e)) (hc : P.cellsOf e = d.sz) (ho : Opens P e d wf) :
  Opens P t (Kd.slice e d) (fun l => l.length ≤ 9223372036854775807 ∧ ∀ y ∈ l, wf y) := by
 intro H enc W base spare held fuel cs x h
 rcases Go.Deep.open_slice ht h with ⟨rfl, _⟩ | ⟨a, len, cap, m, n, D, Pl, rfl, hb, hl, hm, hmm, rfl, hx⟩
 ·exact ⟨[], ⟨none, 0, rfl, by simp, rfl, by simp, fun h => absurd h (by simp)⟩, by simp, by simp⟩
 ·have hlm : len ≤ m := by rw [hmm]; split <;> omega
  have key : ∀ j, j ≤ len → ∃ l : List α, l.length = j ∧ ∀ i p, l[i]? = some p → (∃ c, c.length = d.sz ∧ d.K W p c ∧ ∀ q u, c[q]? = some u → W.cell? (a.add (i * d.sz + q)) = some u) ∧ wf p := by
   intro j
   induction j with
   | zero => intro _; exact ⟨[], rfl, fun i p hp => by simp at hp⟩
   | succ j ih =>
    intro hj
    obtain ⟨l, h1, h2⟩ := ih (by omega)
    obtain ⟨cs', hcs, htr⟩ := hx j (by omega)
    obtain ⟨p, hK, hw⟩ := ho H enc W base spare held n cs' _ htr
    obtain ⟨_, hcl, hcell⟩ := World.cells?_some hcs
    refine ⟨l ++ [p], by simp [h1], fun i q hq => ?_⟩
    rcases Nat.lt_or_ge i l.length with hi | hi
    ·rw [List.getElem?_append_left hi] at hq
     exact h2 i q hq
    ·have hi' : i = j := by
      have := (List.getElem?_eq_some_iff.1 hq).1
      rw [List.length_append, List.length_singleton] at this
      omega
     subst hi'
     have hq' : p = q := by rw [← h1] at hq; simpa using hq
     subst hq'
     refine ⟨⟨cs', by rw [hcl, hc], hK, fun r u hu => ?_⟩, hw⟩
     have hr : r < cs'.length := (List.getElem?_eq_some_iff.1 hu).1
     have := hcell r (by omega)
     rw [Go.Deep.add_add, hc] at this
     rw [this, hu]
  obtain ⟨l, h1, h2⟩ := key len (Nat.le_refl _)
  have hlm2 : len ≤ 9223372036854775807 := by simp only [maxLen] at hm; omega
  subst h1
  refine ⟨l, ⟨some a, cap, rfl, hl, rfl, hlm2, fun _ => ⟨a, rfl, fun i p hp => ?_⟩⟩, hlm2, fun y hy => ?_⟩
  ·exact (h2 i p hp).1
  ·obtain ⟨i, hi, rfl⟩ := List.mem_iff_getElem.1 hy
   exact (h2 i _ (List.getElem?_eq_getElem hi)).2

end Go.Proofs.Ytlohhmoaomlieaa.Base
