-- Written by this session's own program (wip/lawgen.py) out of the given translation. Not trusted: Lean checks it.
import Derived.Test.YtkoackkimdanjaaExtG
import Derived.Test.YtkoackkimdanjaaExtS
import Derived.Test.YtkoackkimdanjaaQFnExactPutEntryx0
import Derived.Test.YtkoackkimdanjaaQFnExactPutEntryx1
import Derived.Test.YtkoackkimdanjaaQFnExactPutEntryx2
import Derived.Test.YtkoackkimdanjaaQFnExactPutEntryx3
import Derived.Test.YtkoackkimdanjaaQFnExactPutEntryx4
import Derived.Test.YtkoackkimdanjaaQFnExactPutEntryx5
import Derived.Test.YtkoackkimdanjaaQFnExactPutEntryx6
import Derived.Test.YtkoackkimdanjaaQFnExactPutEntryx7
import Derived.Test.YtkoackkimdanjaaQFnExactPutEntryx8
import Derived.Test.YtkoackkimdanjaaQFnExactPutEntryx9
import Derived.Test.YtkoackkimdanjaaQFnExactPutEntryx10
import Derived.Test.YtkoackkimdanjaaQFnExactPutEntryx11
namespace Go.Proofs.Ytkoackkimdanjaa.QFnExactPutEntry
open Go.RowKit Go.Proofs.YtkoackkimdanjaaW.PrintWords Go.Proofs.YtkoackkimdanjaaW.PrintLast Go.Proofs.YtkoackkimdanjaaW.PrintMore
open Go.Proofs.Ytkoackkimdanjaa.Ext
set_option linter.unusedVariables false
set_option linter.unusedSimpArgs false
def laws_FnExactPutEntry.Ok (k : Nat) (l0 : List (S73)) (a1_0 : ByteArray) (a1_1 : Int) : Prop := ∃ (t2 : Int), (laws_szLegS.f k l0 1048576 = some t2) ∧ (t2 < 0 ∨ (0 ≤ t2 ∧ ∃ (t5 : Int), (laws_szEntry.f a1_0 a1_1 t2 = some t5) ∧ (t5 < 0 ∨ (0 ≤ t5 ∧ ∃ (t8 : List (S59)), (laws_toLegS.f k l0 = some t8) ∧ ∃ (t11 : ByteArray) (t12 : Int), (laws_toEntry.f a1_0 a1_1 = some (t11, t12)) ∧ ∃ (t15 : List (S59)) (t16 : Bool), (spec_PutEntry.f k t8 t11 t12 = some (t15, t16)) ∧ ∃ (t21 : List (S59)), (impl_PutEntry.f k t8 t11 t12 = some (t21, t16)) ∧ (laws_eqLegS.f k t21 t15 = some true) ∧ (laws_eqLegS.f k t8 t8 = some true) ∧ ∃ (t32 : Int) (t33 : List S59), (laws_markLegS.f k t8 1 = some (t32, t33)) ∧ 0 ≤ t32 ∧ ∃ (t37 : Int) (t38 : List S59), (laws_markLegS.f k t21 1 = some (t37, t38)) ∧ (laws_heldLegS.f k t38 1 = some t37) ∧ 0 ≤ t37 ∧ 0 ≤ t37 ∧ True))))
set_option maxHeartbeats 8000000 in
set_option maxRecDepth 100000 in
theorem laws_FnExactPutEntry.calls (k : Nat) (A0 : Option Addr) (c0 : Nat) (l0 : List (S73)) (a1_0 : ByteArray) (a1_1 : Int) (w : World) (hr0 : Kd.C k73 w A0 l0.length l0) (hc0 : l0.length ≤ c0) (h : laws_FnExactPutEntry.Ok k l0 a1_0 a1_1) :
  Calls Try.prog 7 #[.slice A0 l0.length c0, .agg #[.string a1_0, .int .i64 a1_1]] w fun e w' => e = .returned (.bool true) ∧ Below w.heap.size w w' := by
 unfold laws_FnExactPutEntry.Ok at h
 have HR0 := Aside0.mk hr0
 have HC0 := Aside0.mk hc0
 clear hr0 hc0
 have HB := Aside0.mk (Below.refl w.heap.size w)
 obtain ⟨t2, F3, h⟩ := h
 replace F3 := Aside0.mk F3
 rcases h with h | ⟨c48, h⟩
 ·have c48b : decide (t2 < 0) = true := decide_eq_true h
  clear h
  go_enter Try.func7, Try.ntmps7
  go_wp2_with (first | ((with_reducible refine gate_dst (N := 3) rfl ?_); refine box_event ?hg (N := 3) ?hd (cs := #[.string a1_0, .int .i64 a1_1]) (t := 45) ?hr ?_; (case hd => rfl); (case hg => rfl); (case hr => first | (go_simp; done) | (go_simp; rfl)); intro gb hgb wB hbox hbB; have KB := Aside0.mk hbox; have Z0 := Aside0.mk (blk_lt hbox); replace HB := Aside0.mk (below_step (sq_c HB) hbB); have kb0 := (blk_cell KB.out 0).trans rfl; have kb1 := (blk_cell KB.out 1).trans rfl; clear hgb hbox hbB))
  (with_reducible refine (laws_szLegS.calls k _ _ l0 1048576 t2 _ ?s1 ?s2 F3.out).mono ?_)
  case s1 => exact Kd.C_below HR0.out (sq_c HB)
  case s2 => exact HC0.out
  rintro e w1 ⟨rfl, hb⟩
  have Z1 := Aside0.mk hb.size
  replace HB := Aside0.mk (below_step (sq_c HB) hb)
  replace KB := Aside0.mk (blk_below KB.out hb)
  replace kb0 := (blk_cell KB.out 0).trans rfl
  replace kb1 := (blk_cell KB.out 1).trans rfl
  clear hb
  go_wp2_with fail
  go_ret
  exact ⟨rfl, sq_c HB⟩
 ·have c48b : decide (t2 < 0) = false := decide_eq_false (by omega)
  clear c48
  obtain ⟨t5, F6, h⟩ := h
  replace F6 := Aside0.mk F6
  rcases h with h | ⟨c49, h⟩
  ·have c49b : decide (t5 < 0) = true := decide_eq_true h
   clear h
   go_enter Try.func7, Try.ntmps7
   go_wp2_with (first | ((with_reducible refine gate_dst (N := 3) rfl ?_); refine box_event ?hg (N := 3) ?hd (cs := #[.string a1_0, .int .i64 a1_1]) (t := 45) ?hr ?_; (case hd => rfl); (case hg => rfl); (case hr => first | (go_simp; done) | (go_simp; rfl)); intro gb hgb wB hbox hbB; have KB := Aside0.mk hbox; have Z0 := Aside0.mk (blk_lt hbox); replace HB := Aside0.mk (below_step (sq_c HB) hbB); have kb0 := (blk_cell KB.out 0).trans rfl; have kb1 := (blk_cell KB.out 1).trans rfl; clear hgb hbox hbB))
   (with_reducible refine (laws_szLegS.calls k _ _ l0 1048576 t2 _ ?s1 ?s2 F3.out).mono ?_)
   case s1 => exact Kd.C_below HR0.out (sq_c HB)
   case s2 => exact HC0.out
   rintro e w1 ⟨rfl, hb⟩
   have Z1 := Aside0.mk hb.size
   replace HB := Aside0.mk (below_step (sq_c HB) hb)
   replace KB := Aside0.mk (blk_below KB.out hb)
   replace kb0 := (blk_cell KB.out 0).trans rfl
   replace kb1 := (blk_cell KB.out 1).trans rfl
   clear hb
   go_wp2_with fail
   (with_reducible refine (laws_szEntry.calls a1_0 a1_1 t2 t5 _ F6.out).mono ?_)
   rintro e w2 ⟨rfl, hb⟩
   have Z2 := Aside0.mk hb.size
   replace HB := Aside0.mk (below_step (sq_c HB) hb)
   replace KB := Aside0.mk (blk_below KB.out hb)
   replace kb0 := (blk_cell KB.out 0).trans rfl
   replace kb1 := (blk_cell KB.out 1).trans rfl
   clear hb
   go_wp2_with fail
   go_ret
   exact ⟨rfl, sq_c HB⟩
  ·have c49b : decide (t5 < 0) = false := decide_eq_false (by omega)
   clear c49
   obtain ⟨t8, F9, h⟩ := h
   replace F9 := Aside0.mk F9
   obtain ⟨t11, t12, F13, h⟩ := h
   replace F13 := Aside0.mk F13
   obtain ⟨t15, t16, F17, h⟩ := h
   replace F17 := Aside0.mk F17
   obtain ⟨t21, F23, h⟩ := h
   replace F23 := Aside0.mk F23
   obtain ⟨F26, h⟩ := h
   replace F26 := Aside0.mk F26
   obtain ⟨F30, h⟩ := h
   replace F30 := Aside0.mk F30
   obtain ⟨t32, t33, F34, h⟩ := h
   replace F34 := Aside0.mk F34
   obtain ⟨c50, h⟩ := h
   have c50b : decide (t32 < 0) = false := decide_eq_false (by omega)
   clear c50
   obtain ⟨t37, t38, F39, h⟩ := h
   replace F39 := Aside0.mk F39
   obtain ⟨F42, h⟩ := h
   replace F42 := Aside0.mk F42
   obtain ⟨c51, h⟩ := h
   have c51b : decide (t37 < 0) = false := decide_eq_false (by omega)
   clear c51
   obtain ⟨c52, h⟩ := h
   have c52b : decide (t37 < 0) = false := decide_eq_false (by omega)
   clear c52
   clear h
   go_enter Try.func7, Try.ntmps7
   go_wp2_with (first | ((with_reducible refine gate_dst (N := 3) rfl ?_); refine box_event ?hg (N := 3) ?hd (cs := #[.string a1_0, .int .i64 a1_1]) (t := 45) ?hr ?_; (case hd => rfl); (case hg => rfl); (case hr => first | (go_simp; done) | (go_simp; rfl)); intro gb hgb wB hbox hbB; have KB := Aside0.mk hbox; have Z0 := Aside0.mk (blk_lt hbox); replace HB := Aside0.mk (below_step (sq_c HB) hbB); have kb0 := (blk_cell KB.out 0).trans rfl; have kb1 := (blk_cell KB.out 1).trans rfl; clear hgb hbox hbB))
   (with_reducible refine (laws_szLegS.calls k _ _ l0 1048576 t2 _ ?s1 ?s2 F3.out).mono ?_)
   case s1 => exact Kd.C_below HR0.out (sq_c HB)
   case s2 => exact HC0.out
   rintro e w1 ⟨rfl, hb⟩
   have Z1 := Aside0.mk hb.size
   replace HB := Aside0.mk (below_step (sq_c HB) hb)
   replace KB := Aside0.mk (blk_below KB.out hb)
   replace kb0 := (blk_cell KB.out 0).trans rfl
   replace kb1 := (blk_cell KB.out 1).trans rfl
   clear hb
   go_wp2_with fail
   (with_reducible refine (laws_szEntry.calls a1_0 a1_1 t2 t5 _ F6.out).mono ?_)
   rintro e w2 ⟨rfl, hb⟩
   have Z2 := Aside0.mk hb.size
   replace HB := Aside0.mk (below_step (sq_c HB) hb)
   replace KB := Aside0.mk (blk_below KB.out hb)
   replace kb0 := (blk_cell KB.out 0).trans rfl
   replace kb1 := (blk_cell KB.out 1).trans rfl
   clear hb
   go_wp2_with fail
   go_region_held3 (fun w_ => w_.cell? ⟨gb, 0, none⟩ = some (.string a1_0) ∧ w_.cell? ⟨gb, 1, none⟩ = some (.int .i64 a1_1)) (first | exact ⟨kb0, kb1⟩ | go_keep)
    (first
     | (go_at_call 22; refine (laws_toLegS.calls k _ _ l0 t8 _ ?s1 ?s2 F9.out).mono ?_; (case s1 => exact Kd.C_below HR0.out (sq_c HB)); (case s2 => exact HC0.out); rintro e w3 ⟨v0_, rfl, hov0_, hb⟩; have Z3 := Aside0.mk (show w2.heap.size ≤ w3.heap.size from hb.size); have X1 := Aside0.mk (inS_new (b := w.heap.size) hov0_ (below_size (sq_c HB))); clear hov0_; obtain ⟨B1, D1, eo_⟩ := Kd.S_slice X1.out; subst eo_; replace HB := Aside0.mk (below_step (sq_c HB) hb); replace KB := Aside0.mk (blk_below (blk_drew KB.out) hb); replace kb0 := (blk_cell KB.out 0).trans rfl; replace kb1 := (blk_cell KB.out 1).trans rfl; clear hb)
     | (go_at_call 31; refine (laws_toEntry.calls a1_0 a1_1 t11 t12 _ F13.out).mono ?_; rintro e w4 ⟨rfl, hb⟩; have Z4 := Aside0.mk (show w3.heap.size ≤ w4.heap.size from hb.size); replace X1 := Aside0.mk (Kd.S_below (sq_s X1) hb); replace HB := Aside0.mk (below_step (sq_c HB) hb); replace KB := Aside0.mk (blk_below KB.out hb); replace kb0 := (blk_cell KB.out 0).trans rfl; replace kb1 := (blk_cell KB.out 1).trans rfl; clear hb)
     | (go_at_call 30; refine (spec_PutEntry.calls k _ _ t8 t11 t12 t15 t16 _ ?s1 ?s2 F17.out).mono ?_; (case s1 => exact inS_C (sq_s X1)); (case s2 => exact inS_cap X1.out); rintro e w5 ⟨v0_, rfl, hov0_, hb⟩; have Z5 := Aside0.mk (show w4.heap.size ≤ w5.heap.size from hb.size); replace X1 := Aside0.mk (Kd.S_below (sq_s X1) hb); have X2 := Aside0.mk (inS_new (b := w.heap.size) hov0_ (below_size (sq_c HB))); clear hov0_; obtain ⟨B2, D2, eo_⟩ := Kd.S_slice X2.out; subst eo_; replace HB := Aside0.mk (below_step (sq_c HB) hb); replace KB := Aside0.mk (blk_below KB.out hb); replace kb0 := (blk_cell KB.out 0).trans rfl; replace kb1 := (blk_cell KB.out 1).trans rfl; clear hb))
   go_wp2_with fail
   (with_reducible refine (laws_toLegS.calls k _ _ l0 t8 _ ?s1 ?s2 F9.out).mono ?_)
   case s1 => exact Kd.C_below HR0.out (sq_c HB)
   case s2 => exact HC0.out
   rintro e w6 ⟨v0_, rfl, hov0_, hb⟩
   have Z6 := Aside0.mk hb.size
   replace X1 := Aside0.mk (Kd.S_below (sq_s X1) hb)
   replace X2 := Aside0.mk (Kd.S_below (sq_s X2) hb)
   have X3 := Aside0.mk (inS_new (b := w.heap.size) hov0_ (below_size (sq_c HB)))
   clear hov0_
   obtain ⟨B3, D3, eo_⟩ := Kd.S_slice X3.out
   subst eo_
   replace HB := Aside0.mk (below_step (sq_c HB) hb)
   replace KB := Aside0.mk (blk_below KB.out hb)
   replace kb0 := (blk_cell KB.out 0).trans rfl
   replace kb1 := (blk_cell KB.out 1).trans rfl
   clear hb
   go_wp2_with fail
   (with_reducible refine (laws_toEntry.calls a1_0 a1_1 t11 t12 _ F13.out).mono ?_)
   rintro e w7 ⟨rfl, hb⟩
   have Z7 := Aside0.mk hb.size
   replace X1 := Aside0.mk (Kd.S_below (sq_s X1) hb)
   replace X2 := Aside0.mk (Kd.S_below (sq_s X2) hb)
   replace X3 := Aside0.mk (Kd.S_below (sq_s X3) hb)
   replace HB := Aside0.mk (below_step (sq_c HB) hb)
   replace KB := Aside0.mk (blk_below KB.out hb)
   replace kb0 := (blk_cell KB.out 0).trans rfl
   replace kb1 := (blk_cell KB.out 1).trans rfl
   clear hb
   go_wp2_with fail
   (with_reducible refine (impl_PutEntry.calls k _ _ t8 t11 t12 t21 t16 _ ?s1 ?s2 F23.out).mono ?_)
   case s1 => exact inS_C (sq_s X3)
   case s2 => exact inS_cap X3.out
   rintro e w8 ⟨v0_, rfl, hov0_, hb⟩
   have Z8 := Aside0.mk hb.size
   replace X1 := Aside0.mk (Kd.S_below (sq_s X1) hb)
   replace X2 := Aside0.mk (Kd.S_below (sq_s X2) hb)
   replace X3 := Aside0.mk (Kd.S_below (sq_s X3) hb)
   have X4 := Aside0.mk (inS_new (b := w.heap.size) hov0_ (below_size (sq_c HB)))
   clear hov0_
   obtain ⟨B4, D4, eo_⟩ := Kd.S_slice X4.out
   subst eo_
   replace HB := Aside0.mk (below_step (sq_c HB) hb)
   replace KB := Aside0.mk (blk_below KB.out hb)
   replace kb0 := (blk_cell KB.out 0).trans rfl
   replace kb1 := (blk_cell KB.out 1).trans rfl
   clear hb
   go_wp2_with fail
   (with_reducible refine (laws_eqLegS.calls k _ _ t21 _ _ t15 true _ ?s1 ?s2 ?s3 ?s4 F26.out).mono ?_)
   case s1 => exact inS_C (sq_s X4)
   case s2 => exact inS_cap X4.out
   case s3 => exact inS_C (sq_s X2)
   case s4 => exact inS_cap X2.out
   rintro e w9 ⟨rfl, hb⟩
   have Z9 := Aside0.mk hb.size
   replace X1 := Aside0.mk (Kd.S_below (sq_s X1) hb)
   replace X2 := Aside0.mk (Kd.S_below (sq_s X2) hb)
   replace X3 := Aside0.mk (Kd.S_below (sq_s X3) hb)
   replace X4 := Aside0.mk (Kd.S_below (sq_s X4) hb)
   replace HB := Aside0.mk (below_step (sq_c HB) hb)
   replace KB := Aside0.mk (blk_below KB.out hb)
   replace kb0 := (blk_cell KB.out 0).trans rfl
   replace kb1 := (blk_cell KB.out 1).trans rfl
   clear hb
   go_wp2_with fail
   (with_reducible refine (laws_toLegS.calls k _ _ l0 t8 _ ?s1 ?s2 F9.out).mono ?_)
   case s1 => exact Kd.C_below HR0.out (sq_c HB)
   case s2 => exact HC0.out
   rintro e w10 ⟨v0_, rfl, hov0_, hb⟩
   have Z10 := Aside0.mk hb.size
   replace X1 := Aside0.mk (Kd.S_below (sq_s X1) hb)
   replace X2 := Aside0.mk (Kd.S_below (sq_s X2) hb)
   replace X3 := Aside0.mk (Kd.S_below (sq_s X3) hb)
   replace X4 := Aside0.mk (Kd.S_below (sq_s X4) hb)
   have X5 := Aside0.mk (inS_new (b := w.heap.size) hov0_ (below_size (sq_c HB)))
   clear hov0_
   obtain ⟨B5, D5, eo_⟩ := Kd.S_slice X5.out
   subst eo_
   replace HB := Aside0.mk (below_step (sq_c HB) hb)
   replace KB := Aside0.mk (blk_below KB.out hb)
   replace kb0 := (blk_cell KB.out 0).trans rfl
   replace kb1 := (blk_cell KB.out 1).trans rfl
   clear hb
   go_wp2_with fail
   (with_reducible refine (laws_eqLegS.calls k _ _ t8 _ _ t8 true _ ?s1 ?s2 ?s3 ?s4 F30.out).mono ?_)
   case s1 => exact inS_C (sq_s X3)
   case s2 => exact inS_cap X3.out
   case s3 => exact inS_C (sq_s X5)
   case s4 => exact inS_cap X5.out
   rintro e w11 ⟨rfl, hb⟩
   have Z11 := Aside0.mk hb.size
   replace X1 := Aside0.mk (Kd.S_below (sq_s X1) hb)
   replace X2 := Aside0.mk (Kd.S_below (sq_s X2) hb)
   replace X3 := Aside0.mk (Kd.S_below (sq_s X3) hb)
   replace X4 := Aside0.mk (Kd.S_below (sq_s X4) hb)
   replace X5 := Aside0.mk (Kd.S_below (sq_s X5) hb)
   replace HB := Aside0.mk (below_step (sq_c HB) hb)
   replace KB := Aside0.mk (blk_below KB.out hb)
   replace kb0 := (blk_cell KB.out 0).trans rfl
   replace kb1 := (blk_cell KB.out 1).trans rfl
   clear hb
   go_wp2_with fail
   (with_reducible refine (laws_markLegS.calls k (In w5.heap.size w6.heap.size) (.slice B3 t8.length D3) t8 1 t32 t33 w _ ?s1 ?s2 F34.out).mono ?_)
   case s1 => exact sq_c HB
   case s2 => exact (sq_s X3)
   rintro e w12 ⟨rfl, hon, hb, hk⟩
   have Z12 := Aside0.mk hk.1
   replace X1 := Aside0.mk (inS_kept (sq_s X1) hk (by have := Z1.out; have := Z2.out; have := Z3.out; have := Z4.out; have := Z5.out; have := Z6.out; have := Z7.out; have := Z8.out; have := Z9.out; have := Z10.out; have := Z11.out; have := Z12.out; omega))
   replace X2 := Aside0.mk (inS_kept (sq_s X2) hk (by have := Z1.out; have := Z2.out; have := Z3.out; have := Z4.out; have := Z5.out; have := Z6.out; have := Z7.out; have := Z8.out; have := Z9.out; have := Z10.out; have := Z11.out; have := Z12.out; omega))
   replace X4 := Aside0.mk (inS_kept (sq_s X4) hk (by have := Z1.out; have := Z2.out; have := Z3.out; have := Z4.out; have := Z5.out; have := Z6.out; have := Z7.out; have := Z8.out; have := Z9.out; have := Z10.out; have := Z11.out; have := Z12.out; omega))
   replace X5 := Aside0.mk (inS_kept (sq_s X5) hk (by have := Z1.out; have := Z2.out; have := Z3.out; have := Z4.out; have := Z5.out; have := Z6.out; have := Z7.out; have := Z8.out; have := Z9.out; have := Z10.out; have := Z11.out; have := Z12.out; omega))
   replace X3 := Aside0.mk (hon)
   have el_ := inS_len X3.out
   rw [el_] at X3
   (try rw [el_])
   clear el_
   replace HB := Aside0.mk hb
   replace KB := Aside0.mk (blk_kept KB.out hk (fun hin => by have := hin.1; have := Z0.out; have := Z1.out; have := Z2.out; have := Z3.out; have := Z4.out; have := Z5.out; have := Z6.out; have := Z7.out; have := Z8.out; have := Z9.out; have := Z10.out; have := Z11.out; have := Z12.out; omega))
   replace kb0 := (blk_cell KB.out 0).trans rfl
   replace kb1 := (blk_cell KB.out 1).trans rfl
   clear hb hk hon
   go_wp2_with fail
   (with_reducible refine (laws_eqLegS.calls k _ _ t21 _ _ t15 true _ ?s1 ?s2 ?s3 ?s4 F26.out).mono ?_)
   case s1 => exact inS_C (sq_s X4)
   case s2 => exact inS_cap X4.out
   case s3 => exact inS_C (sq_s X2)
   case s4 => exact inS_cap X2.out
   rintro e w13 ⟨rfl, hb⟩
   have Z13 := Aside0.mk hb.size
   replace X1 := Aside0.mk (Kd.S_below (sq_s X1) hb)
   replace X2 := Aside0.mk (Kd.S_below (sq_s X2) hb)
   replace X3 := Aside0.mk (Kd.S_below (sq_s X3) hb)
   replace X4 := Aside0.mk (Kd.S_below (sq_s X4) hb)
   replace X5 := Aside0.mk (Kd.S_below (sq_s X5) hb)
   replace HB := Aside0.mk (below_step (sq_c HB) hb)
   replace KB := Aside0.mk (blk_below KB.out hb)
   replace kb0 := (blk_cell KB.out 0).trans rfl
   replace kb1 := (blk_cell KB.out 1).trans rfl
   clear hb
   go_wp2_with fail
   (with_reducible refine (laws_markLegS.calls k (In w7.heap.size w8.heap.size) (.slice B4 t21.length D4) t21 1 t37 t38 w _ ?s1 ?s2 F39.out).mono ?_)
   case s1 => exact sq_c HB
   case s2 => exact (sq_s X4)
   rintro e w14 ⟨rfl, hon, hb, hk⟩
   have Z14 := Aside0.mk hk.1
   replace X1 := Aside0.mk (inS_kept (sq_s X1) hk (by have := Z1.out; have := Z2.out; have := Z3.out; have := Z4.out; have := Z5.out; have := Z6.out; have := Z7.out; have := Z8.out; have := Z9.out; have := Z10.out; have := Z11.out; have := Z12.out; have := Z13.out; have := Z14.out; omega))
   replace X2 := Aside0.mk (inS_kept (sq_s X2) hk (by have := Z1.out; have := Z2.out; have := Z3.out; have := Z4.out; have := Z5.out; have := Z6.out; have := Z7.out; have := Z8.out; have := Z9.out; have := Z10.out; have := Z11.out; have := Z12.out; have := Z13.out; have := Z14.out; omega))
   replace X3 := Aside0.mk (inS_kept (sq_s X3) hk (by have := Z1.out; have := Z2.out; have := Z3.out; have := Z4.out; have := Z5.out; have := Z6.out; have := Z7.out; have := Z8.out; have := Z9.out; have := Z10.out; have := Z11.out; have := Z12.out; have := Z13.out; have := Z14.out; omega))
   replace X5 := Aside0.mk (inS_kept (sq_s X5) hk (by have := Z1.out; have := Z2.out; have := Z3.out; have := Z4.out; have := Z5.out; have := Z6.out; have := Z7.out; have := Z8.out; have := Z9.out; have := Z10.out; have := Z11.out; have := Z12.out; have := Z13.out; have := Z14.out; omega))
   replace X4 := Aside0.mk (hon)
   have el_ := inS_len X4.out
   rw [el_] at X4
   (try rw [el_])
   clear el_
   replace HB := Aside0.mk hb
   replace KB := Aside0.mk (blk_kept KB.out hk (fun hin => by have := hin.1; have := Z0.out; have := Z1.out; have := Z2.out; have := Z3.out; have := Z4.out; have := Z5.out; have := Z6.out; have := Z7.out; have := Z8.out; have := Z9.out; have := Z10.out; have := Z11.out; have := Z12.out; have := Z13.out; have := Z14.out; omega))
   replace kb0 := (blk_cell KB.out 0).trans rfl
   replace kb1 := (blk_cell KB.out 1).trans rfl
   clear hb hk hon
   go_wp2_with fail
   (with_reducible refine (laws_heldLegS.calls k _ _ t38 1 t37 _ ?s1 ?s2 F42.out).mono ?_)
   case s1 => exact inS_C (sq_s X4)
   case s2 => exact inS_cap X4.out
   rintro e w15 ⟨rfl, hd⟩
   have hb := hd.below
   clear hd
   have Z15 := Aside0.mk hb.size
   replace X1 := Aside0.mk (Kd.S_below (sq_s X1) hb)
   replace X2 := Aside0.mk (Kd.S_below (sq_s X2) hb)
   replace X3 := Aside0.mk (Kd.S_below (sq_s X3) hb)
   replace X4 := Aside0.mk (Kd.S_below (sq_s X4) hb)
   replace X5 := Aside0.mk (Kd.S_below (sq_s X5) hb)
   replace HB := Aside0.mk (below_step (sq_c HB) hb)
   replace KB := Aside0.mk (blk_below KB.out hb)
   replace kb0 := (blk_cell KB.out 0).trans rfl
   replace kb1 := (blk_cell KB.out 1).trans rfl
   clear hb
   go_wp2_with fail
   go_region_held3 (fun w_ => w_.cell? ⟨gb, 0, none⟩ = some (.string a1_0) ∧ w_.cell? ⟨gb, 1, none⟩ = some (.int .i64 a1_1)) (first | exact ⟨kb0, kb1⟩ | go_keep)
    (first
     | (go_at_call 22; refine (laws_toLegS.calls k _ _ l0 t8 _ ?s1 ?s2 F9.out).mono ?_; (case s1 => exact Kd.C_below HR0.out (sq_c HB)); (case s2 => exact HC0.out); rintro e w16 ⟨v0_, rfl, hov0_, hb⟩; have Z16 := Aside0.mk (show w15.heap.size ≤ w16.heap.size from hb.size); replace X1 := Aside0.mk (Kd.S_below (sq_s X1) hb); replace X2 := Aside0.mk (Kd.S_below (sq_s X2) hb); replace X3 := Aside0.mk (Kd.S_below (sq_s X3) hb); replace X4 := Aside0.mk (Kd.S_below (sq_s X4) hb); replace X5 := Aside0.mk (Kd.S_below (sq_s X5) hb); have X6 := Aside0.mk (inS_new (b := w.heap.size) hov0_ (below_size (sq_c HB))); clear hov0_; obtain ⟨B6, D6, eo_⟩ := Kd.S_slice X6.out; subst eo_; replace HB := Aside0.mk (below_step (sq_c HB) hb); replace KB := Aside0.mk (blk_below (blk_drew KB.out) hb); replace kb0 := (blk_cell KB.out 0).trans rfl; replace kb1 := (blk_cell KB.out 1).trans rfl; clear hb)
     | (go_at_call 31; refine (laws_toEntry.calls a1_0 a1_1 t11 t12 _ F13.out).mono ?_; rintro e w17 ⟨rfl, hb⟩; have Z17 := Aside0.mk (show w16.heap.size ≤ w17.heap.size from hb.size); replace X1 := Aside0.mk (Kd.S_below (sq_s X1) hb); replace X2 := Aside0.mk (Kd.S_below (sq_s X2) hb); replace X3 := Aside0.mk (Kd.S_below (sq_s X3) hb); replace X4 := Aside0.mk (Kd.S_below (sq_s X4) hb); replace X5 := Aside0.mk (Kd.S_below (sq_s X5) hb); replace X6 := Aside0.mk (Kd.S_below (sq_s X6) hb); replace HB := Aside0.mk (below_step (sq_c HB) hb); replace KB := Aside0.mk (blk_below KB.out hb); replace kb0 := (blk_cell KB.out 0).trans rfl; replace kb1 := (blk_cell KB.out 1).trans rfl; clear hb)
     | (go_at_call 32; refine (impl_PutEntry.calls k _ _ t8 t11 t12 t21 t16 _ ?s1 ?s2 F23.out).mono ?_; (case s1 => exact inS_C (sq_s X6)); (case s2 => exact inS_cap X6.out); rintro e w18 ⟨v0_, rfl, hov0_, hb⟩; have Z18 := Aside0.mk (show w17.heap.size ≤ w18.heap.size from hb.size); replace X1 := Aside0.mk (Kd.S_below (sq_s X1) hb); replace X2 := Aside0.mk (Kd.S_below (sq_s X2) hb); replace X3 := Aside0.mk (Kd.S_below (sq_s X3) hb); replace X4 := Aside0.mk (Kd.S_below (sq_s X4) hb); replace X5 := Aside0.mk (Kd.S_below (sq_s X5) hb); replace X6 := Aside0.mk (Kd.S_below (sq_s X6) hb); have X7 := Aside0.mk (inS_new (b := w.heap.size) hov0_ (below_size (sq_c HB))); clear hov0_; obtain ⟨B7, D7, eo_⟩ := Kd.S_slice X7.out; subst eo_; replace HB := Aside0.mk (below_step (sq_c HB) hb); replace KB := Aside0.mk (blk_below KB.out hb); replace kb0 := (blk_cell KB.out 0).trans rfl; replace kb1 := (blk_cell KB.out 1).trans rfl; clear hb))
   go_wp2_with fail
   (with_reducible refine (laws_eqLegS.calls k _ _ t21 _ _ t15 true _ ?s1 ?s2 ?s3 ?s4 F26.out).mono ?_)
   case s1 => exact inS_C (sq_s X7)
   case s2 => exact inS_cap X7.out
   case s3 => exact inS_C (sq_s X2)
   case s4 => exact inS_cap X2.out
   rintro e w19 ⟨rfl, hb⟩
   have Z19 := Aside0.mk hb.size
   replace X1 := Aside0.mk (Kd.S_below (sq_s X1) hb)
   replace X2 := Aside0.mk (Kd.S_below (sq_s X2) hb)
   replace X3 := Aside0.mk (Kd.S_below (sq_s X3) hb)
   replace X4 := Aside0.mk (Kd.S_below (sq_s X4) hb)
   replace X5 := Aside0.mk (Kd.S_below (sq_s X5) hb)
   replace X6 := Aside0.mk (Kd.S_below (sq_s X6) hb)
   replace X7 := Aside0.mk (Kd.S_below (sq_s X7) hb)
   replace HB := Aside0.mk (below_step (sq_c HB) hb)
   replace KB := Aside0.mk (blk_below KB.out hb)
   replace kb0 := (blk_cell KB.out 0).trans rfl
   replace kb1 := (blk_cell KB.out 1).trans rfl
   clear hb
   go_wp2_with fail
   (with_reducible refine (laws_heldLegS.calls k _ _ t38 1 t37 _ ?s1 ?s2 F42.out).mono ?_)
   case s1 => exact inS_C (sq_s X4)
   case s2 => exact inS_cap X4.out
   rintro e w20 ⟨rfl, hd⟩
   have hb := hd.below
   clear hd
   have Z20 := Aside0.mk hb.size
   replace X1 := Aside0.mk (Kd.S_below (sq_s X1) hb)
   replace X2 := Aside0.mk (Kd.S_below (sq_s X2) hb)
   replace X3 := Aside0.mk (Kd.S_below (sq_s X3) hb)
   replace X4 := Aside0.mk (Kd.S_below (sq_s X4) hb)
   replace X5 := Aside0.mk (Kd.S_below (sq_s X5) hb)
   replace X6 := Aside0.mk (Kd.S_below (sq_s X6) hb)
   replace X7 := Aside0.mk (Kd.S_below (sq_s X7) hb)
   replace HB := Aside0.mk (below_step (sq_c HB) hb)
   replace KB := Aside0.mk (blk_below KB.out hb)
   replace kb0 := (blk_cell KB.out 0).trans rfl
   replace kb1 := (blk_cell KB.out 1).trans rfl
   clear hb
   go_wp2_with fail
   go_ret
   exact ⟨rfl, sq_c HB⟩
end Go.Proofs.Ytkoackkimdanjaa.QFnExactPutEntry
