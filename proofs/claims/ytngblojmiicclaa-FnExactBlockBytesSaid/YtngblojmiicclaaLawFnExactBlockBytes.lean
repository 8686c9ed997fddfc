/- The row of the law FnExactBlockBytes, out of its pure statement and the walk of its function; no conditions. -/
import Derived.Test.YtngblojmiicclaaRows
import Derived.Test.YtngblojmiicclaaPureFnExactBlockBytes
import Derived.Test.YtngblojmiicclaaOpen
import Derived.WalkKit
import Derived.ProofKit
import Derived.OpenShut
import Derived.ShutString
import Derived.ChangeOld
import Derived.Below
import Derived.SizedLaws
import Derived.Carry
namespace Go.Proofs.Ytngblojmiicclaa.fnExactBlockBytes
open Go.ChangeShapes Go.WideShapes Go.ChangeAt Go.RowKit
open Go.ChangeMaps (open_string shut_string)
open Go.Proofs.Ytngblojmiicclaa.QFnExactBlockBytes Go.Proofs.YtngblojmiicclaaW.PrintWords Go.Proofs.Ytngblojmiicclaa.Base Go.Proofs.Ytngblojmiicclaa.Pure
set_option linter.unusedVariables false
set_option linter.unusedSimpArgs false
theorem own : ownKnob Try.prog.godebug = none := by kernel_rfl
theorem laidOut : laidOutB Try.prog = true := by kernel_rfl
theorem opens9 : Opens Try.prog 9 Kd.string (fun x => x.size ≤ 9223372036854775807) := opens_string Try.underlying9
theorem opens22 : Opens Try.prog 22 (Kd.slice 9 Kd.string) (fun x => (x.length ≤ 9223372036854775807 ∧ ∀ y ∈ x, y.size ≤ 9223372036854775807)) := opens_slice Try.underlying22 (by kernel_rfl) opens9
set_option maxRecDepth 100000 in
theorem byval24 (H : Type) (enc : TypeId × Value → H) (W : World) (base : Nat) (spare : Nat → Bool) (held : Bool) (fuel : Nat) (cs : List Value) (x : DataW H × List MemPlace) (h : DataW.trod enc Try.prog W base spare held fuel 24 cs = some x) : ∃ (a0 : ByteArray) (a1 : ByteArray) (a2 : List (ByteArray)) (A2 : Option Addr) (d2 : Nat), cs = [.string a0, .string a1, .slice A2 a2.length d2] ∧ a2.length ≤ d2 ∧ Kd.C Kd.string W A2 a2.length a2 ∧ a0.size ≤ 9223372036854775807 ∧ a1.size ≤ 9223372036854775807 ∧ (a2.length ≤ 9223372036854775807 ∧ ∀ y ∈ a2, y.size ≤ 9223372036854775807) := by
  obtain ⟨xs, n, _, rfl, hl, hlen, hf⟩ := DataW.trod_struct Try.underlying24 h
  have hc : Try.prog.cellsOf 24 = 3 := by kernel_rfl
  rw [hc] at hl
  match cs, hl, xs, hlen with
  | [c0, c1, c2], _, [y0, y1, y2], _ =>
    have hz9 : Try.prog.cellsOf 9 = 1 := by kernel_rfl
    have hz22 : Try.prog.cellsOf 22 = 1 := by kernel_rfl
    have h0 := hf 0 _ rfl
    simp only [List.getElem_toArray, List.getElem_cons_zero, List.getElem_cons_succ, List.getElem?_cons_zero, List.getElem?_cons_succ, hz9, List.drop_zero, List.drop_succ_cons, List.take_succ_cons, List.take_zero] at h0
    obtain ⟨a0, e0, w0⟩ := opens9 H enc W base spare held n _ _ h0
    have h1 := hf 1 _ rfl
    simp only [List.getElem_toArray, List.getElem_cons_zero, List.getElem_cons_succ, List.getElem?_cons_zero, List.getElem?_cons_succ, hz9, List.drop_zero, List.drop_succ_cons, List.take_succ_cons, List.take_zero] at h1
    obtain ⟨a1, e1, w1⟩ := opens9 H enc W base spare held n _ _ h1
    have h2 := hf 2 _ rfl
    simp only [List.getElem_toArray, List.getElem_cons_zero, List.getElem_cons_succ, List.getElem?_cons_zero, List.getElem?_cons_succ, hz22, List.drop_zero, List.drop_succ_cons, List.take_succ_cons, List.take_zero] at h2
    obtain ⟨a2, ⟨A2, d2, e2, l2, g2⟩, w2⟩ := opens22 H enc W base spare held n _ _ h2
    cases e0
    cases e1
    cases e2
    exact ⟨a0, a1, a2, A2, d2, rfl, l2, g2, w0, w1, w2⟩
set_option maxRecDepth 100000 in
theorem lifted (os : Os) (started : os.Started) (H : Type) (enc : TypeId × Value → H) :
    ReturnsInHanded {} Try.checked os 3 .any (Rows.fnExactBlockBytesSpec.pre6 enc Try.prog Try.f3 Rows.fnExactBlockBytesRow.domain false) (Rows.fnExactBlockBytesSpec.post enc Try.prog Try.f3 false true false false) := by
  refine returnsInHanded_of_change_sized (C := Try.checked) own started (by kernel_rfl) Try.func3
    (ChangeSpec.witness6 (enc := enc) (C := Try.checked) false ⟨#[], #[.agg #[.string ByteArray.empty, .string ByteArray.empty, .slice none 0 0]], []⟩ 8 (by kernel_rfl) (by kernel_rfl) (by kernel_rfl) (by kernel_rfl)) ?_
  intro W base args ds gs before hval0 hW hcnd hsz0 _
  have hsz : (DataW.weightsEach Try.prog (Try.f3.params.toList ++ Rows.fnExactBlockBytesSpec.plain.varTypes Try.prog) (ds ++ gs)).all (· ≤ reachBytes) = true := hsz0
  have hval : ∀ (j : Nat) t v, Try.f3.params[j]? = some t → args[j]? = some v → Value.okWide Try.prog W .any base t v := hval0
  have hW' := hW
  obtain ⟨p, q, hA0, hV, rfl, hfz, hnd⟩ := hW
  have hA : DataW.TrodAll enc Try.prog W 0 (fun _ => true) true Try.f3.params.toList args.toList ds p := hA0
  rw [Try.params3] at hA hval hsz
  obtain ⟨v0, vs0, d0, ds0, p0, q0, hargs, rfl, rfl, h0, r0⟩ := trodAll_cons hA
  obtain ⟨rfl, rfl, rfl⟩ := trodAll_nil r0
  obtain rfl : args = #[v0] := by cases args; simp_all
  obtain ⟨rfl, rfl⟩ := trodVars_none hV
  obtain ⟨cs0, rfl, _⟩ := okWide_struct Try.underlying24 (hval 0 24 v0 rfl rfl)
  have k0 := h0
  have lt0 : ∀ x ∈ p0, x.block < W.heap.size := by obtain ⟨m, hm⟩ := k0; exact DataW.trod_lt m _ _ _ hm
  obtain ⟨fu0, hf0⟩ := h0
  obtain ⟨s0_0, s0_1, s0_2, A0_2, c0_2, e0, hc0_2, hr0_2, w0_0, w0_1, w0_2⟩ := byval24 H enc W _ _ _ fu0 _ _ hf0
  simp only [Value.cells] at e0
  obtain rfl : cs0 = #[.string s0_0, .string s0_1, .slice A0_2 s0_2.length c0_2] := by cases cs0; simpa using e0
  clear hA0 hval0 hsz0 hsz
  have hp := Pure.FnExactBlockBytes s0_0 s0_1 s0_2 w0_0 w0_1 w0_2
  obtain ⟨k, hp⟩ := hp
  refine (laws_FnExactBlockBytes.calls (k := k) (r := true) (w := W) (hr0_2 := hr0_2) (hc0_2 := hc0_2) (h := hp)).mono fun e W' ⟨he, bel⟩ => ?_
  subst he
  exact ⟨_, rfl, _, _, _, [], _, [], hW', trodAll_mk1 (shut_bool Try.underlying4 _), (trodAll_cons_mk (Below.trod laidOut (by kernel_rfl) (of_decide_eq_true (by kernel_rfl)) k0 bel lt0) trodAll_mk0), rfl, bel.frame _, fun h => by cases h⟩
theorem over : Rows.fnExactBlockBytesRow.holds Try.pinned (OpenSpec.ofChange Rows.fnExactBlockBytesSpec) :=
  OpenClaim.holds_of_wide 3 Try.f3 rfl rfl rfl rfl rfl rfl rfl ⟨rfl, rfl, rfl, rfl, rfl⟩ rfl rfl rfl rfl rfl (by kernel_rfl) Try.func3 (by kernel_rfl)
    (of_decide_eq_true (by kernel_rfl)) (by unfold Func.isWrapper; first | (rw [if_pos (by decide +kernel)]; kernel_rfl) | (rw [if_neg (by decide +kernel)]; exact ⟨rfl, rfl⟩))
    (fun os started H enc _ => lifted os started H enc)
theorem proved : Rows.FnExactBlockBytesSaid := over
#print axioms proved
end Go.Proofs.Ytngblojmiicclaa.fnExactBlockBytes
namespace Go.Proofs.Ytngblojmiicclaa
/-- The row, under a short name, for the claim. -/
theorem fnExactBlockBytes_holds : Rows.FnExactBlockBytesSaid := fnExactBlockBytes.proved
end Go.Proofs.Ytngblojmiicclaa
