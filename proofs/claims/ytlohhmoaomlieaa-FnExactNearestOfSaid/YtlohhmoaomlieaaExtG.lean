/- This session's own words for walks by hand: rows of the call's own that lie in intervals of blocks. No conditions. -/
import Derived.Test.YtlohhmoaomlieaaExtB
import Derived.Test.YtlohhmoaomlieaaWKept
import Derived.Test.YtlohhmoaomlieaaWMore
import Derived.Test.YtlohhmoaomlieaaWShare
import Derived.Test.YtlohhmoaomlieaaWN
namespace Go.Proofs.Ytlohhmoaomlieaa.Ext
open Go.RowKit Go.Proofs.YtlohhmoaomlieaaW.PrintWords
set_option linter.unusedSimpArgs false
set_option linter.unusedVariables false
def In (lo hi : Nat) : Nat → Prop := fun k => lo ≤ k ∧ k < hi
theorem In.apart {lo hi lo2 hi2 : Nat} (h : hi ≤ lo2 ∨ hi2 ≤ lo) : ∀ k, In lo hi k → ¬ In lo2 hi2 k := fun k h1 h2 => by
  have := h1.1
  have := h1.2
  have := h2.1
  have := h2.2
  omega
section
variable {α : Type} {d : Kd α} {e base b : Nat} {W W' : World} {v : Value} {xs ys : List α} {lo hi lo2 hi2 : Nat}
theorem inS_new (ho : Kd.S d e W' W.heap.size (fun _ => True) v xs) (hw : b ≤ W.heap.size) : Kd.S d e W' b (In W.heap.size W'.heap.size) v xs := Kd.S_lower (Kd.S_mono (Kd.S_bound ho) (fun k hk => ⟨hk.2.1, hk.2.2.1⟩)) hw
theorem inR_new (ho : d.R e W' W.heap.size (fun _ => True) v xs) (hw : b ≤ W.heap.size) : d.R e W' b (In W.heap.size W'.heap.size) v xs := Kd.R_lower (Kd.R_mono (Kd.R_bound ho) (fun k hk => ⟨hk.2.1, hk.2.2.1⟩)) hw
theorem inN_new (ho : Kd.N d e W' W.heap.size (fun k => W.heap.size ≤ k) v xs) (hw : b ≤ W.heap.size) : Kd.N d e W' b (In W.heap.size W'.heap.size) v xs := Kd.N_lower (Kd.N_mono (Kd.N_bound ho) (fun k hk => ⟨hk.1, hk.2⟩)) hw
theorem inN_kept (h : Kd.N d e W base (In lo hi) v xs) (hk : Kept W W' (In lo2 hi2)) (hd : hi ≤ lo2 ∨ hi2 ≤ lo) : Kd.N d e W' base (In lo hi) v xs := Kd.N_kept h hk (In.apart hd)
theorem inN_len {A : Option Addr} {n c : Nat} (h : Kd.N d e W base (In lo hi) (.slice A n c) xs) : n = xs.length := (Kd.N_reads' h).1
theorem inN_C {A : Option Addr} {c : Nat} (h : Kd.N d e W base (In lo hi) (.slice A xs.length c) xs) : d.C W A xs.length xs := (Kd.N_reads' h).2.2
theorem inN_cap {A : Option Addr} {c : Nat} (h : Kd.N d e W base (In lo hi) (.slice A xs.length c) xs) : xs.length ≤ c := (Kd.N_reads' h).2.1
theorem sq_n {p q : Prop} (h0 : Aside0 p) (h : p → q := by intro h_; (with_reducible repeat (first | apply Kd.N_alloc | apply Kd.N_drewN | apply Kd.N_drew)); exact h_) : q := h h0.out
theorem inS_kept (h : Kd.S d e W base (In lo hi) v xs) (hk : Kept W W' (In lo2 hi2)) (hd : hi ≤ lo2 ∨ hi2 ≤ lo) : Kd.S d e W' base (In lo hi) v xs := Kd.S_kept h hk (In.apart hd)
theorem inR_kept (h : d.R e W base (In lo hi) v xs) (hk : Kept W W' (In lo2 hi2)) (hd : hi ≤ lo2 ∨ hi2 ≤ lo) : d.R e W' base (In lo hi) v xs := Kd.R_kept h hk (In.apart hd)
theorem inR_back {ok1 : Nat → Prop} (hE : d.E = []) (h0 : d.R e W base (In lo hi) v xs) (h : d.R e W' base ok1 v ys) : d.R e W' base (In lo hi) v ys := Kd.R_reok hE h (fun k hk => h0.1 k hk)
theorem inS_len {A : Option Addr} {n c : Nat} (h : Kd.S d e W base (In lo hi) (.slice A n c) xs) : n = xs.length := (Kd.S_reads' h).1
theorem inR_len {A : Option Addr} {n c : Nat} (h : d.R e W base (In lo hi) (.slice A n c) xs) : n = xs.length := (Kd.R_reads' h).1
theorem inS_C {A : Option Addr} {c : Nat} (h : Kd.S d e W base (In lo hi) (.slice A xs.length c) xs) : d.C W A xs.length xs := (Kd.S_reads' h).2.2
theorem inR_C {A : Option Addr} {c : Nat} (h : d.R e W base (In lo hi) (.slice A xs.length c) xs) : d.C W A xs.length xs := (Kd.R_reads' h).2.2
theorem inS_cap {A : Option Addr} {c : Nat} (h : Kd.S d e W base (In lo hi) (.slice A xs.length c) xs) : xs.length ≤ c := (Kd.S_reads' h).2.1
theorem inR_cap {A : Option Addr} {c : Nat} (h : d.R e W base (In lo hi) (.slice A xs.length c) xs) : xs.length ≤ c := (Kd.R_reads' h).2.1
theorem sq_s {p q : Prop} (h0 : Aside0 p) (h : p → q := by intro h_; (with_reducible repeat (first | apply Kd.S_alloc | apply Kd.S_drewN | apply Kd.S_drew)); exact h_) : q := h h0.out
theorem sq_c {p q : Prop} (h0 : Aside0 p) (h : p → q := by intro h_; (with_reducible repeat (first | apply below_alloc | apply pw_below_drewN | apply below_drew1)); exact h_) : q := h h0.out
theorem set_mid {α : Type} (ys : List α) (x x' : α) (rest : List α) (i : Nat) (h : i = ys.length) : (ys ++ x :: rest).set i x' = (ys ++ [x']) ++ rest := by
  subst h
  simp
theorem get_mid {α : Type} (ys : List α) (x z : α) (rest : List α) (i : Nat) (h : i = ys.length) : (ys ++ x :: rest).getD i z = x := by
  subst h
  simp
end
end Go.Proofs.Ytlohhmoaomlieaa.Ext
