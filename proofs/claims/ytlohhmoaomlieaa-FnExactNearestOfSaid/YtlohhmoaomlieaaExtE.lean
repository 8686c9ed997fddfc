/- This session's own words for printed walks, the fifth lot: 'clear(s[k:])' on a row of the call's own. No conditions. -/
import Derived.Test.YtlohhmoaomlieaaExtB
import Derived.Test.YtlohhmoaomlieaaWZeros
namespace Go.Proofs.Ytlohhmoaomlieaa.Ext
open Go.RowKit Go.Proofs.YtlohhmoaomlieaaW.PrintWords
set_option linter.unusedSimpArgs false
set_option linter.unusedVariables false
section
variable {P : Program} {α : Type}
theorem R_clear_run (d : Kd α) {W : World} (base : Nat) (t ty e : TypeId) (z : Value) (bytes : Nat) (ht : P.underlying t = some (.slice e)) (hinfo : (P.info? e).map (fun i => (i.zero, i.size, i.bytes)) = some (some z, d.sz, bytes)) (hz : z.cells.size = d.sz) (hs0 : 0 < d.sz)
    (z0 : α) (hzero : d.M W base (fun _ => False) z0 z.cells.toList) {A0 A : Option Addr} {n c k m : Nat} {xs : List α} {ok : Nat → Prop} (HO : d.R e W base ok (.slice A0 n c) xs) (hk : k ≤ n) (hA : A = if c = k then A0 else A0.map (·.add (k * d.sz))) (hm : m = n - k) (c2 : Nat) :
    ∃ w1, (Builtin.clear_ #[t] ty #[.slice A m c2]).run P W = .ok (.tuple #[]) w1 ∧ d.R e w1 base ok (.slice A0 n c) (xs.take k ++ List.replicate m z0) ∧ W.grownBy w1 (Value.slice A0 n c).ownBlock := by
  subst hm
  obtain ⟨hn, hnc, _⟩ := Kd.R_reads' HO
  rcases Nat.eq_or_lt_of_le hk with hge | hlt
  · have e0 : n - k = 0 := by omega
    refine ⟨W, ?_, ?_, ⟨rfl, rfl, rfl, Nat.le_refl _, fun _ _ _ => rfl⟩⟩
    · rw [e0]
      cases A <;> simp [Builtin.clear_, run_underlying ht]
    · rw [e0, List.replicate_zero, List.append_nil, List.take_of_length_le (by omega)]
      exact HO
  obtain ⟨i0, hi, hzz⟩ := Option.map_eq_some_iff.1 hinfo
  simp only [Prod.mk.injEq] at hzz
  obtain ⟨hz0, hz1, hz2⟩ := hzz
  have hv : (zeroValue e).run P W = .ok z W := by
    simp [zeroValue, typeInfo, hi, hz0]
  obtain ⟨hok, inner, hown, hr⟩ := HO
  have hin : inner.length = n * d.sz := by rw [hr.1, hn]
  rcases hown.2 with ⟨hv', h0⟩ | ⟨g, cap', cur, hv', hb, hh, _, hcm, hcs, htake⟩
  · omega
  injection hv' with ha _ hc
  subst ha; subst hc
  rw [← hn] at htake
  rw [if_neg (by omega), Option.map_some, add_at, Nat.zero_add] at hA
  subst hA
  have hks : k * d.sz ≤ n * d.sz := Nat.mul_le_mul_right _ hk
  have hnc' : n * d.sz ≤ c * d.sz := Nat.mul_le_mul_right _ hnc
  have hsub : (n - k) * d.sz = n * d.sz - k * d.sz := Nat.sub_mul _ _ _
  have hnM : Reps (d.M W base (fun _ => False)) d.sz (List.replicate (n - k) z0) (Builtin.zeroCells z.cells (n - k)).toList := Kd.reps_zeros hz hs0 hzero (n - k)
  have hnl : (Builtin.zeroCells z.cells (n - k)).toList.length = (n - k) * d.sz := by rw [hnM.1, List.length_replicate]
  have hone := Kd.reps_one hnM hs0 (fun _ _ hp => d.K_one (d.K_of_M hp))
  generalize hnews : (Builtin.zeroCells z.cells (n - k)).toList = news at hnM hnl hone
  have hfit : k * d.sz + news.length ≤ cur.size := by omega
  have hst := run_storeCells_cells (P := P) g (k * d.sz) news 0 W (fun j hj => by rw [Nat.add_zero, cell_of_row W g _ cur e (0, 0) hh]; simp; omega) (fun j _ => blk_frozen hh _) hone
  rw [Nat.add_zero] at hst
  have hrun : (Builtin.clear_ #[t] ty #[.slice (some ⟨g, k * d.sz, none⟩) (n - k) c2]).run P W = .ok (.tuple #[]) (W.setCells g (k * d.sz) news) := by
    obtain ⟨q, hq⟩ : ∃ q, n - k = q + 1 := ⟨n - k - 1, by omega⟩
    rw [hq] at hnews ⊢
    simp [Builtin.clear_, run_underlying ht, hv, hnews, hst]
  obtain ⟨cur', h3, h4, h5⟩ := setCells_row news (k * d.sz) W cur hh hfit
  obtain ⟨s1, s2, s3, s4⟩ := setCells_same g news (k * d.sz) W
  have hfar : ∀ k', k' ≠ g → (W.setCells g (k * d.sz) news).heap[k']? = W.heap[k']? := fun k' hk' => setCells_far news _ k' hk'
  have hgo : some g = (Value.slice (some ⟨g, 0, none⟩) n c).ownBlock := by simp [Value.ownBlock]
  have hel : (xs.take k ++ List.replicate (n - k) z0).length = n := by rw [List.length_append, List.length_take, List.length_replicate]; omega
  have hgr : W.grownBy (W.setCells g (k * d.sz) news) (some g) := ⟨s1, s2, s3, by rw [s4]; exact Nat.le_refl _, fun k' _ hk' => hfar k' (fun he => hk' (by rw [he]))⟩
  refine ⟨_, hrun, ⟨hok, inner.take (k * d.sz) ++ news, ⟨?_, .inr ⟨g, c, cur', by rw [hel], hb, h3, by rw [hel]; omega, hcm, by rw [h4, hcs], ?_⟩⟩, ?_⟩, by rw [← hgo]; exact hgr⟩
  · rw [List.length_append, List.length_take, hnl, hel]
    omega
  · rw [hel, h5]
    have h7 : cur.toList.take (k * d.sz) = inner.take (k * d.sz) := by
      rw [← htake, List.take_take, Nat.min_eq_left (by omega)]
    rw [h7]
    exact List.take_left' (by rw [List.length_append, List.length_take, hnl]; omega)
  · have hmv : ∀ p q, d.M W base (fun k' => ok k' ∧ some k' ≠ (Value.slice (some ⟨g, 0, none⟩) n c).ownBlock) p q → d.M (W.setCells g (k * d.sz) news) base (fun k' => ok k' ∧ some k' ≠ (Value.slice (some ⟨g, 0, none⟩) n c).ownBlock) p q := fun p q hp =>
      d.M_move (fun k' hk' => hfar k' (fun he => hk'.2 (by rw [← hgo, he]))) hp
    have hm2 : ∀ p q, d.M W base (fun _ => False) p q → d.M (W.setCells g (k * d.sz) news) base (fun k' => ok k' ∧ some k' ≠ (Value.slice (some ⟨g, 0, none⟩) n c).ownBlock) p q := fun p q hp =>
      d.M_mono (fun k' hk' => hk'.elim) (d.M_move (fun k' hk' => hk'.elim) hp)
    exact Kd.reps_append ((Kd.reps_take hr (by omega)).imp_ hmv) (hnM.imp_ hm2)
end
section
variable {P : Program} {ops : Array Oper} {rest : List Oper} {o : Oper} {a : Act} {Q : Exit → Act → World → Prop} {Kc : Act → World → Prop} {α : Type}
theorem R_clear (d : Kd α) {w0 W : World} (base : Nat) (hgd : o.guard = none) (x : Operand) (t e : TypeId) (ho : o.op = .call { callee := .builtin .clear, args := #[x], argTypes := #[t] })
    (z : Value) (bytes : Nat) (ht : P.underlying t = some (.slice e)) (hinfo : (P.info? e).map (fun i => (i.zero, i.size, i.bytes)) = some (some z, d.sz, bytes)) (hz : z.cells.size = d.sz) (hs0 : 0 < d.sz)
    (z0 : α) (hzero : d.M W base (fun _ => False) z0 z.cells.toList) {A0 A : Option Addr} {n c k m c2 : Nat} {xs : List α} {ok : Nat → Prop} (hx : a.eval x = .slice A m c2) (hA : A = if c = k then A0 else A0.map (·.add (k * d.sz))) (hm : m = n - k)
    (HO : d.R e W base ok (.slice A0 n c) xs) (hk : k ≤ n) (HB : Below base w0 W) (hbase : base ≤ W.heap.size)
    (h : ∀ w1, d.R e w1 base ok (.slice A0 n c) (xs.take k ++ List.replicate m z0) → Below base w0 w1 → W.grownBy w1 (Value.slice A0 n c).ownBlock → wpList P ops Q rest (a.put o.dst (.tuple #[])) w1) : wpList P ops Q (o :: rest) a W := by
  obtain ⟨w1, hr, h1, h2⟩ := R_clear_run (P := P) d base t o.type e z bytes ht hinfo hz hs0 z0 hzero HO hk hA hm c2
  refine wpList_plain hgd fun K hK => ?_
  unfold Oper.wp execOp
  simp only [ho, resolve, invoke, builtin, Sem.run_bind, Sem.run_pure, Result.andThen_ok, List.map_toArray, List.map_cons, List.map_nil, hx, hr]
  exact hK _ _ (h w1 h1 (HB.grown h2 hbase (Kd.R_base HO)) h2)
theorem R_clear_step (d : Kd α) {w0 W : World} (base : Nat) (hw : Region.wanted o (yielded ops a.tmps) = true) (x : Operand) (t e : TypeId) (ho : o.op = .call { callee := .builtin .clear, args := #[x], argTypes := #[t] })
    (z : Value) (bytes : Nat) (ht : P.underlying t = some (.slice e)) (hinfo : (P.info? e).map (fun i => (i.zero, i.size, i.bytes)) = some (some z, d.sz, bytes)) (hz : z.cells.size = d.sz) (hs0 : 0 < d.sz)
    (z0 : α) (hzero : d.M W base (fun _ => False) z0 z.cells.toList) {A0 A : Option Addr} {n c k m c2 : Nat} {xs : List α} {ok : Nat → Prop} (hx : a.eval x = .slice A m c2) (hA : A = if c = k then A0 else A0.map (·.add (k * d.sz))) (hm : m = n - k)
    (HO : d.R e W base ok (.slice A0 n c) xs) (hk : k ≤ n) (HB : Below base w0 W) (hbase : base ≤ W.heap.size)
    (h : ∀ w1, d.R e w1 base ok (.slice A0 n c) (xs.take k ++ List.replicate m z0) → Below base w0 w1 → W.grownBy w1 (Value.slice A0 n c).ownBlock → Kc (a.put o.dst (.tuple #[])) w1) :
    if Region.wanted o (yielded ops a.tmps) = true then Oper.wp P o a W Kc Q else Kc (a.put o.dst undef) W := by
  obtain ⟨w1, hr, h1, h2⟩ := R_clear_run (P := P) d base t o.type e z bytes ht hinfo hz hs0 z0 hzero HO hk hA hm c2
  rw [if_pos hw]
  unfold Oper.wp execOp
  simp only [ho, resolve, invoke, builtin, Sem.run_bind, Sem.run_pure, Result.andThen_ok, List.map_toArray, List.map_cons, List.map_nil, hx, hr]
  exact h w1 h1 (HB.grown h2 hbase (Kd.R_base HO)) h2
end
/-- slices.Compact's second loop: what it reads of the cut has not been written yet. -/
def CompRel {α : Type} (x01 x02 : List α) (x31 x32 x52 : Int) : Prop := 0 ≤ x31 ∧ x32 ≤ x31 + x52 - 1 ∧ 1 ≤ x52 ∧ ∀ j : Nat, (x52 - 1).toNat ≤ j → x02[x31.toNat + j]? = x01[x31.toNat + j]?
theorem R_len_max {α : Type} {d : Kd α} {e : TypeId} {W : World} {base : Nat} {ok : Nat → Prop} {v : Value} {xs : List α} (h : d.R e W base ok v xs) : xs.length ≤ 9223372036854775807 := by
  have hm : maxLen ≤ 9223372036854775807 := by decide
  obtain ⟨_, inner, hown, _⟩ := h
  rcases hown.2 with ⟨_, h0⟩ | ⟨g, cap, cur, _, _, _, h1, h2, _⟩ <;> omega
theorem CompRel.start {α : Type} {x01 : List α} {x31 : Int} (h : 0 ≤ x31) : CompRel x01 x01 x31 x31 1 := ⟨h, by omega, by omega, fun _ _ => rfl⟩
theorem wrap_up {x : Int} {n : Nat} (h0 : 0 ≤ x) (h : x < (n : Int)) (hn : n ≤ 9223372036854775807) : wrap64 (x + 1) = x + 1 := by unfold wrap64; omega
theorem CompRel.skip {α : Type} {x01 x02 : List α} {x31 x32 x52 : Int} {n : Nat} (h : CompRel x01 x02 x31 x32 x52) (hb : x52 < (n : Int)) (hn : n ≤ 9223372036854775807) : CompRel x01 x02 x31 x32 (wrap64 (x52 + 1)) := by
  obtain ⟨h1, h2, h3, h4⟩ := h
  rw [wrap_up (by omega) hb hn]
  exact ⟨h1, by omega, by omega, fun j hj => h4 j (by omega)⟩
theorem CompRel.keep {α : Type} {x01 x02 : List α} {x31 x32 x52 : Int} {n m : Nat} (h : CompRel x01 x02 x31 x32 x52) (hb : x52 < (n : Int)) (hn : n ≤ 9223372036854775807) (h0 : 0 ≤ x32) (hc : x32 < (m : Int)) (hm : m ≤ 9223372036854775807) (e : α) : CompRel x01 (x02.set x32.toNat e) x31 (wrap64 (x32 + 1)) (wrap64 (x52 + 1)) := by
  obtain ⟨h1, h2, h3, h4⟩ := h
  rw [wrap_up (by omega) hb hn, wrap_up h0 hc hm]
  refine ⟨h1, by omega, by omega, fun j hj => ?_⟩
  rw [List.getElem?_set_ne (by omega)]
  exact h4 j (by omega)
theorem CompRel.read {α : Type} {x01 x02 : List α} {x31 x32 x52 : Int} (h : CompRel x01 x02 x31 x32 x52) (z : α) (j : Int) (hj : x52 - 1 ≤ j) : (x02.drop x31.toNat).getD j.toNat z = (x01.drop x31.toNat).getD j.toNat z := by
  obtain ⟨h1, h2, h3, h4⟩ := h
  rw [List.getD_eq_getElem?_getD, List.getD_eq_getElem?_getD, List.getElem?_drop, List.getElem?_drop, h4 j.toNat (by omega)]
end Go.Proofs.Ytlohhmoaomlieaa.Ext
