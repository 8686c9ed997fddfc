/- This session's own words for slices.Insert on rows of the call's own, elements of k cells: copies inside a row's block, and what they leave. No conditions. -/
import Derived.Test.YtlohhmoaomlieaaExtG
import Derived.Test.YtlohhmoaomlieaaWFootNe
import Derived.Test.YtlohhmoaomlieaaWZeros
import Derived.Laws.CopyRow
import Derived.Laws.IdiomCopy
import Derived.Laws.Externs
import Derived.Laws.Tables
import Derived.Lib.AppendZerosOnto
import Derived.Lib.AppendZeros
namespace Go.Proofs.Ytlohhmoaomlieaa.Ext
open Go.RowKit Go.Proofs.YtlohhmoaomlieaaW.PrintWords
set_option linter.unusedSimpArgs false
set_option linter.unusedVariables false
section
variable {P : Program}
/-- copy(d, s) inside and into a block that is known whole: elements of k cells. -/
theorem run_copy_rowk (w : World) (dT sT ty elem : TypeId) (k m : Nat) (g o dLen dCap : Nat) (a : Addr) (sLen sCap : Nat) (cur : Array Value) (t : TypeId) (cs : List Value)
    (hu : P.underlying dT = some (.slice elem)) (hs : (P.info? elem).map (·.size) = some k)
    (hg : w.heap[g]? = some (.cells cur t (0, 0))) (hm : m = Nat.min sLen dLen) (hn : cs.length = m * k)
    (hsrc : ∀ j v, cs[j]? = some v → w.cell? (a.add j) = some v) (hfit : o + cs.length ≤ cur.size) (h1 : ∀ v ∈ cs, v.oneCell' = true) :
    (Builtin.copy_ #[dT, sT] ty #[.slice (some ⟨g, o, none⟩) dLen dCap, .slice (some a) sLen sCap]).run P w =
      .ok (goInt m) (w.setRow g (cur.toList.take o ++ cs ++ cur.toList.drop (o + cs.length)).toArray) := by
  have hl := run_loadCells_list (P := P) w a cs hsrc
  have hst := run_storeCells_at P g o t cs 0 cur w hg (by simpa using hfit) h1
  cases hq : P.info? elem with
  | none => simp [hq] at hs
  | some i =>
    have hi : i.size = k := by simpa [hq] using hs
    rw [hn] at hl
    simp [Builtin.copy_, run_underlying hu, Builtin.lenOf, Builtin.firstCells, sizeOf, typeInfo, hq, hi, ← hm, hl, hst]
theorem wp_copy_run (w : World) {o : Oper} {a : Act} {K : Act → World → Prop} {Q : Exit → Act → World → Prop} (d s : Operand) (t t' : TypeId)
    (ho : o.op = .call { callee := .builtin .copy, args := #[d, s], argTypes := #[t, t'] }) (v u : Value) (hd : a.eval d = v) (hs : a.eval s = u) {v' : Value} {w' : World}
    (hr : (Builtin.copy_ #[t, t'] o.type #[v, u]).run P w = .ok v' w') (h : K (a.put o.dst v') w') : o.wp P a w K Q := by
  unfold Oper.wp execOp
  simp only [ho, resolve, invoke, builtin, Sem.run_bind, Sem.run_pure, Result.andThen_ok, List.map_toArray, List.map_cons, List.map_nil, hd, hs, hr]
  exact h
theorem wpList_copy_run (w : World) {ops : Array Oper} {rest : List Oper} {o : Oper} {a : Act} {Q : Exit → Act → World → Prop} (hgd : o.guard = none) (d s : Operand) (t t' : TypeId)
    (ho : o.op = .call { callee := .builtin .copy, args := #[d, s], argTypes := #[t, t'] }) (v u : Value) (hd : a.eval d = v) (hs : a.eval s = u) {v' : Value} {w' : World}
    (hr : (Builtin.copy_ #[t, t'] o.type #[v, u]).run P w = .ok v' w') (h : wpList P ops Q rest (a.put o.dst v') w') : wpList P ops Q (o :: rest) a w :=
  wpList_plain hgd fun _ hK => wp_copy_run w d s t t' ho v u hd hs hr (hK _ _ h)
theorem step_copy_run {ops : Array Oper} {o : Oper} {a : Act} {w : World} {K : Act → World → Prop} {Q : Exit → Act → World → Prop} {E : Prop}
    (hg : o.guard = none) (d x : Operand) (dT sT : TypeId) (hop : o.op = Op.call { callee := Callee.builtin Builtin.copy, args := #[d, x], argTypes := #[dT, sT] })
    (v u : Value) (hd : a.eval d = v) (hx : a.eval x = u) {v' : Value} {w' : World} (hr : (Builtin.copy_ #[dT, sT] o.type #[v, u]).run P w = .ok v' w') (hK : K (a.put o.dst v') w') :
    if Region.wanted o (yielded ops a.tmps) = true then Oper.wp P o a w K Q else E := by
  have hw : Region.wanted o (yielded ops a.tmps) = true := by simp [Region.wanted, hg]
  rw [if_pos hw]
  unfold Oper.wp
  simp [execOp, hop, resolve, invoke, builtin, hd, hx, hr, Result.andThen]
  exact hK
/-- slices.overlaps: the second one lies in a block of the call's own, the first one in another. -/
theorem run_overlaps_own (w : World) (tS tR e : TypeId) (ht : P.underlying tS = some (.slice e)) (size : Nat) (hz : ∀ w, (Go.sizeOf e).run P w = .ok size w)
    (a b : Addr) (la ca lb cb : Nat) (hne : a.block ≠ b.block) {v : Value} (hva : w.cell? a = some v) {cur : Array Value} {t : TypeId} (hb : w.heap[b.block]? = some (.cells cur t (0, 0))) (hc : 0 < cur.size) :
    (Extern.SlicesOverlaps.overlaps #[tS, tS] #[tR] #[.slice (some a) la ca, .slice (some b) lb cb]).run P w = .ok (.bool false) w := by
  have hnb : (a.block != b.block) = true := by simpa using hne
  have hnb' : (a.block == b.block) = false := by simpa using hne
  obtain ⟨tA, kA, hsa⟩ : ∃ tA kA, w.shape? a.block = some (tA, kA + 1) := by
    unfold World.cell? at hva
    unfold World.shape?
    cases h : w.heap[a.block]? with
    | none => rw [h] at hva; cases hva
    | some o =>
      rw [h] at hva
      cases o with
      | cells c elem fr =>
        simp only at hva
        split at hva
        · cases hva
        · have := (Array.getElem?_eq_some_iff.1 hva).1
          exact ⟨elem, c.size - 1, by simp; omega⟩
      | _ => cases hva
  obtain ⟨kB, hkB⟩ : ∃ kB, cur.size = kB + 1 := ⟨cur.size - 1, by omega⟩
  have hsb : w.shape? b.block = some (t, kB + 1) := by simp [World.shape?, hb, hkB]
  have hfb : ∀ o s, w.frozen? { block := b.block, off := o, spot := s } = false := fun o s => by simp [World.frozen?, hb]
  have hfb' : w.frozen? b = false := by simp [World.frozen?, hb]
  have hfb2 : w.frozen? { block := b.block, off := kB + 1 } = false := by simp [World.frozen?, hb]
  change Sem.run P (α := Value) (do
    let some t := (#[tS, tS] : Array TypeId)[0]? | stuck "slices.overlaps: no parameter types"
    let .slice elem ← underlying t | stuck "slices.overlaps: slice type expected"
    let size ← sizeOf elem
    match (some a : Option Addr), (some b : Option Addr) with
    | some a, some b =>
      if la = 0 ∨ lb = 0 ∨ size = 0 then pure (Value.bool false)
      else if a.block != b.block && (← frozen a) && (← frozen b) then unsupported .addressObserved
      else do
        if a.block != b.block then do
          noView a; noView b
          if ← mayBeOne a b then return Value.bool ((← choose (.extern "sameAddr.stringBytes" 2)) == 1)
        pure (Value.bool (a.block == b.block && a.off < b.off + lb * size && b.off < a.off + la * size))
    | _, _ => pure (Value.bool false)) w = _
  by_cases h0 : la = 0 ∨ lb = 0 ∨ size = 0
  · simp [run_underlying ht, hz, h0]
  · cases hfa : w.frozen? a with
    | true => simp [run_underlying ht, hz, h0, hnb, hnb', frozen, noView, viewAt, mayBeOne, stringish, shape, Sem.run, hsa, hsb, hfa, hfb', hfb2]
    | false =>
      cases hfe : w.frozen? { block := a.block, off := kA + 1 } with
      | true => simp [run_underlying ht, hz, h0, hnb, hnb', frozen, noView, viewAt, mayBeOne, stringish, shape, Sem.run, hsa, hsb, hfa, hfe, hfb', hfb2]
      | false => simp [run_underlying ht, hz, h0, hnb, hnb', frozen, noView, viewAt, mayBeOne, stringish, shape, Sem.run, hsa, hsb, hfa, hfe, hfb', hfb2]
end
/-! ### rows of flat elements, and their cells -/
theorem shift_list {A B T E : List Value} {a b k : Nat} (ha : A.length = a) (hb : B.length = b) (hE : E.length = k) (hT : k ≤ T.length) :
    ((((A ++ B ++ T).take (a + k) ++ B ++ (A ++ B ++ T).drop (a + k + b)).take a ++ E) ++ ((A ++ B ++ T).take (a + k) ++ B ++ (A ++ B ++ T).drop (a + k + b)).drop (a + k)) = A ++ E ++ B ++ T.drop k := by
  have h1 : ((A ++ B ++ T).take (a + k)).length = a + k := by simp only [List.length_take, List.length_append]; omega
  have h2 : ((A ++ B ++ T).take (a + k) ++ B ++ (A ++ B ++ T).drop (a + k + b)).take a = A := by
    rw [List.append_assoc, List.take_append_of_le_length (by omega), List.take_take, Nat.min_eq_left (by omega), List.append_assoc]
    exact List.take_left' ha
  have h3 : ((A ++ B ++ T).take (a + k) ++ B ++ (A ++ B ++ T).drop (a + k + b)).drop (a + k) = B ++ (A ++ B ++ T).drop (a + k + b) := by
    rw [List.append_assoc]
    exact List.drop_left' h1
  have h4 : (A ++ B ++ T).drop (a + k + b) = T.drop k := by
    rw [List.drop_append, List.drop_eq_nil_of_le (by simp only [List.length_append]; omega), List.nil_append]
    congr 1
    simp only [List.length_append]
    omega
  rw [h2, h3, h4]
  simp only [List.append_assoc]
section
variable {α : Type} {enc : α → List Value} {k : Nat}
theorem reps_flatMap (hk : ∀ x, (enc x).length = k) : ∀ l : List α, Reps (fun x cs => cs = enc x) k l (l.flatMap enc)
  | [] => Reps.none _ _
  | x :: l => by
    have h1 : Reps (fun x cs => cs = enc x) k [x] (enc x) := by
      refine ⟨by simp [hk], fun j p hj => ?_⟩
      cases j with
      | zero =>
        have : x = p := by simpa using hj
        subst this
        rw [Nat.zero_mul, List.drop_zero, List.take_of_length_le (by rw [hk]; exact Nat.le_refl _)]
      | succ j => simp at hj
    have := Kd.reps_append h1 (reps_flatMap hk l)
    rwa [List.flatMap_cons]
theorem reps_inj {l : List α} {cs ds : List Value} (hk0 : 0 < k) (h : Reps (fun x cs => cs = enc x) k l cs) (h' : Reps (fun x cs => cs = enc x) k l ds) : cs = ds := by
  apply List.ext_getElem?
  intro i
  by_cases hi : i < l.length * k
  · have hj : i / k < l.length := (Nat.div_lt_iff_lt_mul hk0).2 hi
    have e1 := h.2 (i / k) _ (List.getElem?_eq_getElem hj)
    have e2 := h'.2 (i / k) _ (List.getElem?_eq_getElem hj)
    have e3 := e1.trans e2.symm
    have e4 := congrArg (fun q => q[i % k]?) e3
    have hm : i % k < k := Nat.mod_lt _ hk0
    simp only [List.getElem?_take, if_pos hm, List.getElem?_drop] at e4
    have hd : i / k * k + i % k = i := by rw [Nat.mul_comm]; exact Nat.div_add_mod _ _
    rwa [hd] at e4
  · rw [List.getElem?_eq_none (by rw [h.1]; omega), List.getElem?_eq_none (by rw [h'.1]; omega)]
theorem flatMap_len (hk : ∀ x, (enc x).length = k) (l : List α) : (l.flatMap enc).length = l.length * k := (reps_flatMap hk l).1
variable {d : Kd α} {e base : Nat} {w : World} {ok : Nat → Prop} {v : Value} {xs : List α}
/-- A row of one's own of flat elements, laid open down to its block. -/
theorem R_block (hM : ∀ w base ok x cs, d.M w base ok x cs ↔ cs = enc x) (hk : ∀ x, (enc x).length = d.sz) (hs : 0 < d.sz) (h : d.R e w base ok v xs) :
    (v = .slice none 0 0 ∧ xs = []) ∨ ∃ g c cur, v = .slice (some ⟨g, 0, none⟩) xs.length c ∧ base ≤ g ∧ ok g ∧ w.heap[g]? = some (.cells cur e (0, 0)) ∧ xs.length ≤ c ∧ c ≤ maxLen ∧ cur.size = c * d.sz ∧ cur.toList.take (xs.length * d.sz) = xs.flatMap enc := by
  obtain ⟨hok, inner, hown, hr⟩ := h
  have hr2 : Reps (fun x cs => cs = enc x) d.sz xs inner := hr.imp_ (fun p c hp => (hM _ _ _ _ _).1 hp)
  have hin := reps_inj hs hr2 (reps_flatMap hk xs)
  rcases hown.2 with ⟨hv, hn⟩ | ⟨g, c, cur, hv, hb, hh, hc, hm, hcs, ht⟩
  · refine .inl ⟨hv, ?_⟩
    exact List.eq_nil_of_length_eq_zero hn
  · refine .inr ⟨g, c, cur, hv, hb, hok g (by rw [hv]; simp [Value.ownBlock]), hh, hc, hm, hcs, ?_⟩
    rw [ht, hin]
theorem R_of_block (hM : ∀ w base ok x cs, d.M w base ok x cs ↔ cs = enc x) (hk : ∀ x, (enc x).length = d.sz) {g c n : Nat} {cur : Array Value} (hb : base ≤ g) (hok : ok g) (hh : w.heap[g]? = some (.cells cur e (0, 0)))
    (hn : n = xs.length) (hc : n ≤ c) (hm : c ≤ maxLen) (hcs : cur.size = c * d.sz) (ht : cur.toList.take (n * d.sz) = xs.flatMap enc) : d.R e w base ok (.slice (some ⟨g, 0, none⟩) n c) xs := by
  subst hn
  have hr := reps_flatMap hk xs
  exact ⟨fun k hk => (show g = k from by simpa [Value.ownBlock] using hk) ▸ hok, xs.flatMap enc, ⟨hr.1, .inr ⟨g, c, cur, rfl, hb, hh, hc, hm, hcs, ht⟩⟩, hr.imp_ (fun p c hp => (hM _ _ _ _ _).2 hp)⟩
end
theorem grow_list {A B E R : List Value} {a b k : Nat} (ha : R.take a = A) (hA : A.length = a) (hB : B.length = b) (hE : E.length = k) (hR : a + k + b ≤ R.length) :
    (((R.take a ++ E ++ R.drop (a + k)).take (a + k) ++ B ++ (R.take a ++ E ++ R.drop (a + k)).drop (a + k + b)).take (a + k + b)) = A ++ E ++ B ∧ ((R.take a ++ E ++ R.drop (a + k)).take (a + k) ++ B ++ (R.take a ++ E ++ R.drop (a + k)).drop (a + k + b)).length = R.length := by
  rw [ha]
  have h1 : (A ++ E).length = a + k := by rw [List.length_append]; omega
  have h2 : (A ++ E ++ R.drop (a + k)).take (a + k) = A ++ E := List.take_left' h1
  rw [h2]
  refine ⟨List.take_left' (by simp only [List.length_append]; omega), ?_⟩
  simp only [List.length_append, List.length_drop]
  omega
section
variable {P : Program} {ops : Array Oper} {rest : List Oper} {o : Oper} {a : Act} {Q : Exit → Act → World → Prop}
/-- copy into a block of the call's own, which is known whole. -/
theorem copy_block {W : World} (hgd : o.guard = none) (x y : Operand) (t t' e : TypeId) (ho : o.op = .call { callee := .builtin .copy, args := #[x, y], argTypes := #[t, t'] }) (k m : Nat) (g off dLen dCap : Nat) (ad : Addr) (sLen sCap : Nat)
    (hx : a.eval x = .slice (some ⟨g, off, none⟩) dLen dCap) (hy : a.eval y = .slice (some ad) sLen sCap) (cur : Array Value) (tc : TypeId) (cs : List Value) (hu : P.underlying t = some (.slice e)) (hs : (P.info? e).map (·.size) = some k)
    (hg : W.heap[g]? = some (.cells cur tc (0, 0))) (hm : m = Nat.min sLen dLen) (hn : cs.length = m * k) (hsrc : ∀ j v, cs[j]? = some v → W.cell? (ad.add j) = some v) (hfit : off + cs.length ≤ cur.size) (h1 : ∀ v ∈ cs, v.oneCell' = true)
    (h : ∀ w1, w1.heap[g]? = some (.cells (cur.toList.take off ++ cs ++ cur.toList.drop (off + cs.length)).toArray tc (0, 0)) → W.grownBy w1 (some g) → wpList P ops Q rest (a.put o.dst (goInt m)) w1) : wpList P ops Q (o :: rest) a W :=
  wpList_copy_run W hgd x y t t' ho _ _ hx hy (run_copy_rowk W t t' o.type e k m g off dLen dCap ad sLen sCap cur tc cs hu hs hg hm hn hsrc hfit h1)
    (h _ (setRow_heap W g cur _ tc _ hg) ⟨rfl, rfl, rfl, by simp, fun q _ hq => setRow_other W g q _ (fun e => hq (by rw [e]))⟩)
theorem copy_block_step {W : World} {K : Act → World → Prop} {E : Prop} (hgd : o.guard = none) (x y : Operand) (t t' e : TypeId) (ho : o.op = .call { callee := .builtin .copy, args := #[x, y], argTypes := #[t, t'] }) (k m : Nat) (g off dLen dCap : Nat) (ad : Addr) (sLen sCap : Nat)
    (hx : a.eval x = .slice (some ⟨g, off, none⟩) dLen dCap) (hy : a.eval y = .slice (some ad) sLen sCap) (cur : Array Value) (tc : TypeId) (cs : List Value) (hu : P.underlying t = some (.slice e)) (hs : (P.info? e).map (·.size) = some k)
    (hg : W.heap[g]? = some (.cells cur tc (0, 0))) (hm : m = Nat.min sLen dLen) (hn : cs.length = m * k) (hsrc : ∀ j v, cs[j]? = some v → W.cell? (ad.add j) = some v) (hfit : off + cs.length ≤ cur.size) (h1 : ∀ v ∈ cs, v.oneCell' = true)
    (h : ∀ w1, w1.heap[g]? = some (.cells (cur.toList.take off ++ cs ++ cur.toList.drop (off + cs.length)).toArray tc (0, 0)) → W.grownBy w1 (some g) → K (a.put o.dst (goInt m)) w1) : if Region.wanted o (yielded ops a.tmps) = true then Oper.wp P o a W K Q else E :=
  step_copy_run hgd x y t t' ho _ _ hx hy (run_copy_rowk W t t' o.type e k m g off dLen dCap ad sLen sCap cur tc cs hu hs hg hm hn hsrc hfit h1)
    (h _ (setRow_heap W g cur _ tc _ hg) ⟨rfl, rfl, rfl, by simp, fun q _ hq => setRow_other W g q _ (fun e => hq (by rw [e]))⟩)
/-- append(s[:i], make([]T, m)...) where there is no room: a new block, the first cells are the old ones. -/
theorem zeros_new {W : World} (hgd : o.guard = none) (x y : Operand) (t tn e : TypeId) (ho : o.op = .call { callee := .builtin .append, args := #[x, y], argTypes := #[t, tn] }) (kn kq : IntKind) (z : Value) (k bytes : Nat)
    (ht : P.underlying t = some (.slice e)) (htn : P.underlying tn = some (.int kn)) (hinfo : (P.info? e).map (fun i => (i.zero, i.size, i.bytes)) = some (some z, k, bytes)) (hz : z.cells.size = k) (hk : 0 < k) (hb : 0 < bytes)
    (g n c m N : Nat) (hN : N = n + m) (A : List Value) (hx : a.eval x = .slice (some ⟨g, 0, none⟩) n c) (hy : a.eval y = .int kq (m : Int)) (hA : A.length = n * k) (hcells : ∀ j v, A[j]? = some v → W.cell? ⟨g, j, none⟩ = some v) (hm : 0 < m) (hc : c < n + m) (hl : (n + m) * bytes ≤ 140737488355328)
    (h : ∀ w1 G (R : Array Value), w1.heap[W.heap.size]? = some (.cells R e (0, 0)) → Below W.heap.size W w1 → N ≤ G → G ≤ maxLen → R.size = G * k → R.toList.take (n * k) = A → wpList P ops Q rest (a.put o.dst (.slice (some ⟨W.heap.size, 0, none⟩) N G)) w1) : wpList P ops Q (o :: rest) a W := by
  subst hN
  obtain ⟨i0, hi, hzz⟩ := Option.map_eq_some_iff.1 hinfo
  simp only [Prod.mk.injEq] at hzz
  obtain ⟨hz0, hz1, hz2⟩ := hzz
  have hnm : n + m ≤ 140737488355328 := Nat.le_trans (Nat.le_mul_of_pos_right _ hb) hl
  have hold : (Builtin.firstCells i0.size n (.slice (some ⟨g, 0, none⟩) n c)).run P W.drew = .ok A.toArray W.drew := by
    rw [hz1]
    exact run_firstCells_some W.drew k n ⟨g, 0, none⟩ n c A hA (fun j v hj => by rw [add_plain]; exact hcells j v hj)
  have hmb : m * bytes ≤ 140737488355328 := Nat.le_trans (Nat.mul_le_mul_right _ (Nat.le_add_left m n)) hl
  have hr := Lib.run_append_grow_zeros W t tn o.type e i0 z kq kn ht htn hi hz0 (some ⟨g, 0, none⟩) n c A hold m hm (by omega) hc (by omega) (by rw [hz2]; omega) (by rw [hz2]; exact growslice_fits hc hl)
  refine wpList_plain hgd fun K hK => ?_
  unfold Oper.wp execOp
  simp only [ho, resolve, invoke, builtin, Sem.run_bind, Sem.run_pure, Result.andThen_ok, List.map_toArray, List.map_cons, List.map_nil, hx, hy, hr]
  have hge := grownCap_ge W (n + m) c e
  have hcm : grownCap W (n + m) c e ≤ maxLen := grownCap_le_maxLen W (n + m) c e (by simp only [maxLen]; omega)
  refine hK _ _ (h _ _ _ (heap_alloc_new W.drew _) (below_alloc (below_drew (Below.refl _ _)) _) hge hcm ?_ ?_)
  · simp only [Array.size_append, List.size_toArray, size_zeroCells, hz, hA, ← Nat.add_mul]
    congr 1
    omega
  · simp only [Array.toList_append, List.append_assoc]
    exact List.take_left' hA
end
end Go.Proofs.Ytlohhmoaomlieaa.Ext
