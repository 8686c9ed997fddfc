/- Small lemmas on rounds, wraps and bytes that the pure proofs use; no conditions. -/
import Derived.Test.YtabfkalcjfjkiaaWMore
namespace Go.Proofs.Ytabfkalcjfjkiaa.Base
open Go.RowKit Go.Proofs.YtabfkalcjfjkiaaW.PrintWords

theorem wrap_id {x : Int} (h0 : -9223372036854775808 ≤ x) (h1 : x ≤ 9223372036854775807) : wrap64 x = x := by
 unfold wrap64; omega
theorem wrap_succ {i : Nat} (h1 : i < 9223372036854775807) : wrap64 ((i : Int) + 1) = ((i + 1 : Nat) : Int) := by
 rw [wrap_id (by omega) (by omega)]; rfl
theorem tmod_nn {a b : Int} (h : 0 ≤ a) : Int.tmod a b = a % b := Int.tmod_eq_emod_of_nonneg h
/-- One round, its text by the loop's own equation. -/
theorem ev_bind {α β : Type} {g : Nat → Option α} {f : Nat → α → Option β} {a : α} {r : β} (h : Ev g a) (k : Ev (fun n => f n a) r) : Ev (fun n => (g n).bind (f n)) r := Ev.bind h k
theorem ev_some {α : Type} {a r : α} (h : a = r) : Ev (fun _ => some a) r := h ▸ Ev.now a
theorem ev_if_pos {α : Type} {c : Prop} [Decidable c] {g f : Nat → Option α} {r : α} (h : c) (k : Ev g r) : Ev (fun n => if c then g n else f n) r := by
 simpa only [if_pos h] using k
theorem ev_if_neg {α : Type} {c : Prop} [Decidable c] {g f : Nat → Option α} {r : α} (h : ¬ c) (k : Ev f r) : Ev (fun n => if c then g n else f n) r := by
 simpa only [if_neg h] using k
theorem ev_eq {α : Type} {g : Nat → Option α} {r q : α} (h : Ev g r) (e : r = q) : Ev g q := e ▸ h
theorem mn_min (a b : Int) : mn a b = min a b := by unfold mn; omega
theorem mid_at {α : Type} {l pre rest : List α} {x : α} (h : l = pre ++ x :: rest) : pre.length < l.length ∧ ∀ d, rdOf d l (pre.length : Int) = x := by
 subst h
 refine ⟨by simp, fun d => ?_⟩
 unfold rdOf
 rw [Int.toNat_natCast, List.getD_eq_getElem?_getD, List.getElem?_append_right (Nat.le_refl _), Nat.sub_self]; rfl
theorem last_at {α : Type} {l q rest : List α} {p : α} (h : l = (q ++ [p]) ++ rest) : ∀ d, rdOf d l (((q ++ [p]).length : Int) - 1) = p := by
 subst h
 intro d
 have e : (((q ++ [p]).length : Int) - 1).toNat = q.length := by rw [List.length_append, List.length_singleton]; omega
 unfold rdOf
 rw [e, List.append_assoc, List.getD_eq_getElem?_getD, List.getElem?_append_right (Nat.le_refl _), Nat.sub_self]; rfl
theorem nil_or_snoc {α : Type} (l : List α) : l = [] ∨ ∃ q p, l = q ++ [p] := by
 rcases List.eq_nil_or_concat l with h | ⟨q, p, h⟩
 ·exact .inl h
 ·exact .inr ⟨q, p, by simpa using h⟩
end Go.Proofs.Ytabfkalcjfjkiaa.Base
