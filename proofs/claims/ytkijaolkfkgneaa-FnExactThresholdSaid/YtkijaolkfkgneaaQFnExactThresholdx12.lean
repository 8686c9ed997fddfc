-- by hand: markScoreSS (a walk that this session wrote)
import Derived.Test.YtkijaolkfkgneaaExtG
import Derived.Test.YtkijaolkfkgneaaExtS
import Derived.Test.YtkijaolkfkgneaaQFnExactThresholdx0
import Derived.Test.YtkijaolkfkgneaaQFnExactThresholdx1
import Derived.Test.YtkijaolkfkgneaaQFnExactThresholdx2
import Derived.Test.YtkijaolkfkgneaaQFnExactThresholdx3
import Derived.Test.YtkijaolkfkgneaaQFnExactThresholdx4
import Derived.Test.YtkijaolkfkgneaaQFnExactThresholdx5
import Derived.Test.YtkijaolkfkgneaaQFnExactThresholdx6
import Derived.Test.YtkijaolkfkgneaaQFnExactThresholdx7
import Derived.Test.YtkijaolkfkgneaaQFnExactThresholdx8
import Derived.Test.YtkijaolkfkgneaaQFnExactThresholdx9
import Derived.Test.YtkijaolkfkgneaaQFnExactThresholdx10
import Derived.Test.YtkijaolkfkgneaaQFnExactThresholdx11
namespace Go.Proofs.Ytkijaolkfkgneaa.QFnExactThreshold
open Go.RowKit Go.Proofs.YtkijaolkfkgneaaW.PrintWords Go.Proofs.YtkijaolkfkgneaaW.PrintLast Go.Proofs.YtkijaolkfkgneaaW.PrintMore
open Go.Proofs.Ytkijaolkfkgneaa.Ext
set_option linter.unusedVariables false
set_option linter.unusedSimpArgs false
def laws_markScoreSS.l : Nat → List (List (S107)) → Int → Option (Int × List (List (S107)))
  | _, [], a => some (a, [])
  | k, x :: l, a => (laws_markScoreS.f k x a).bind fun p => (laws_markScoreSS.l k l p.1).bind fun q => some (q.1, p.2 :: q.2)
def laws_markScoreSS.f (k : Nat) (l0 : List (List (S107))) (a1 : Int) : Option (Int × List (List (S107))) := if l0.length ≤ 1152921504606846976 then laws_markScoreSS.l k l0 a1 else none
set_option maxHeartbeats 8000000 in
set_option maxRecDepth 100000 in
theorem laws_markScoreSS.calls (k : Nat) (P0_ : Nat → Prop) (u9000_ : Value) (l0 : List (List (S107))) (a1 : Int) (r1 : Int) (r2 : List (List (S107))) (w0 w : World) (hB : Below w0.heap.size w0 w) (ho0 : Kd.S (Kd.slice 107 k107) 46 w w0.heap.size P0_ u9000_ l0) (h : laws_markScoreSS.f k l0 a1 = some (r1, r2)) :
    Calls Try.prog 33 #[u9000_, .int .i64 a1] w fun e w' => e = .returned (.int .i64 r1) ∧ Kd.S (Kd.slice 107 k107) 46 w' w0.heap.size P0_ u9000_ r2 ∧ Below w0.heap.size w0 w' ∧ Kept w w' P0_ := by
  obtain ⟨A, c, rfl⟩ := Kd.S_slice ho0
  have hlen : l0.length ≤ 1152921504606846976 := by
    unfold laws_markScoreSS.f at h
    split at h
    · assumption
    · cases h
  have H := Aside0.mk (show laws_markScoreSS.l k l0 a1 = some (r1, r2) from by unfold laws_markScoreSS.f at h; rwa [if_pos hlen] at h)
  clear h
  have HS := Aside0.mk ho0
  have HB := Aside0.mk hB
  have HK := Aside0.mk (Kept.refl w P0_)
  clear ho0 hB
  go_enter Try.func33, Try.ntmps33
  go_wp2
  go_loopg [1, 5] l0.length (fun kq v1 v5 w' => ∃ (ys rest : List (List (S107))) (a : Int) (x5 : Int), v1 = .int .i64 a ∧ v5 = .int .i64 x5 ∧ Aside0 (x5 = ys.length) ∧ Aside0 (kq = rest.length) ∧ Aside0 (ys.length + rest.length = l0.length) ∧ Aside0 (∃ rest', laws_markScoreSS.l k rest a = some (r1, rest') ∧ r2 = ys ++ rest') ∧ Aside0 (Kd.S (Kd.slice 107 k107) 46 w' w0.heap.size P0_ (.slice A l0.length c) (ys ++ rest)) ∧ Aside0 (Below w0.heap.size w0 w') ∧ Aside0 (Kept w w' P0_))
  case atStart => exact ⟨[], l0, a1, 0, rfl, rfl, ⟨rfl⟩, ⟨rfl⟩, ⟨by simp⟩, ⟨r2, H.out, rfl⟩, ⟨HS.out⟩, ⟨HB.out⟩, ⟨HK.out⟩⟩
  case round =>
    clear H HS HB HK
    obtain ⟨ys, rest, a, x5, rfl, rfl, HX, HQ, HL, HA, HS, HB, HK⟩ := hrel
    cases rest with
    | nil =>
      have c1 : decide (x5 < (l0.length : Int)) = false := decide_eq_false (by have := HX.out; have := HL.out; simp at this; omega)
      go_wp2
      go_ret
      obtain ⟨rest', h1, h2⟩ := HA.out
      simp only [laws_markScoreSS.l] at h1
      injection h1 with h1
      injection h1 with h1 h3
      subst h1; subst h3; subst h2
      exact ⟨rfl, HS.out, HB.out, HK.out⟩
    | cons x rest =>
      have hl : ys.length + (rest.length + 1) = l0.length := HL.out
      have c0 : 0 ≤ x5 := by rw [HX.out]; omega
      have c1 : x5 < (l0.length : Int) := by rw [HX.out]; omega
      have hi : x5.toNat = ys.length := by rw [HX.out]; simp
      obtain ⟨rest', h1, h2⟩ := HA.out
      simp only [laws_markScoreSS.l] at h1
      obtain ⟨p, hp, h1⟩ := Option.bind_eq_some_iff.mp h1
      obtain ⟨q, hq, h1⟩ := Option.bind_eq_some_iff.mp h1
      injection h1 with h1
      injection h1 with h4 h3
      subst h3
      subst h4
      obtain ⟨g, cap, e1, _, _, _⟩ := Kd.S_form HS.out (by simp; omega)
      injection e1 with e1 e3 e2
      clear e3
      subst e1; subst e2
      obtain ⟨oki, cs, _, hM, hcc, hoki, hH⟩ := Kd.S_lend HS.out [] x5 c0 c1
      rw [get_mid _ _ _ _ _ hi] at hM
      obtain ⟨v, rfl, hR⟩ := hM
      obtain ⟨Ai, ci, rfl⟩ := Kd.R_slice hR
      have hx := hcc 0 _ rfl
      simp only [show (Kd.slice 107 k107).sz = 1 from rfl, Nat.mul_one, Nat.add_zero] at hx
      have HH := Aside0.mk hH
      have HR := Aside0.mk hR
      have HP := Aside0.mk hp
      have HE := Aside0.mk (And.intro hq h2)
      have HO := Aside0.mk hoki
      have HI := Aside0.mk hi
      have HW := Aside0.mk (show wrap64 (x5 + 1) = x5 + 1 from by unfold wrap64; omega)
      have d1 : decide (x5 < (l0.length : Int)) = true := decide_eq_true c1
      have d0 : decide (0 ≤ x5) = true := decide_eq_true c0
      clear hcc hH hR hp hq h2 hoki hi hl HA
      go_wp2_with fail
      (with_reducible refine (laws_markScoreS.calls k oki (.slice Ai x.length ci) x a p.1 p.2 w0 wr HB.out HR.out HP.out).mono ?_)
      rintro e w1 ⟨rfl, hr1, hb1, hk1⟩
      have hr2 := Kd.R_reok (ok := oki) rfl hr1 (fun k_ e_ => HR.out.1 k_ e_)
      have hH1 := Kd.H_step HH.out (fun k_ _ hn hlt => hk1.2 k_ hlt hn)
      have hS1 := Kd.H_back hH1 ⟨_, rfl, hr2⟩ (fun _ h_ => h_)
      rw [set_mid _ _ _ _ _ HI.out] at hS1
      have HS1 := Aside0.mk hS1
      have HB1 := Aside0.mk hb1
      have HK1 := Aside0.mk (Kept.then_ HK.out hk1 (fun k_ h_ => .inl (HO.out k_ h_).1))
      clear hr1 hr2 hH1 hS1 hb1 hk1 HS HB HK
      go_wp2
      go_roundg rest.length
      case measure => have := HQ.out; simp at this; omega
      case rel =>
        exact ⟨ys ++ [p.2], rest, p.1, x5 + 1, rfl, rfl, ⟨by have := HX.out; simp; omega⟩, ⟨rfl⟩, ⟨by have := HL.out; simp at this ⊢; omega⟩, ⟨q.2, HE.out.1, by simpa using HE.out.2⟩, HS1, HB1, HK1⟩

end Go.Proofs.Ytkijaolkfkgneaa.QFnExactThreshold
