/-
  An evaluator of calls at closed inputs, part j: literals, appending, copying, conversions, comparisons, ranges over texts.
-/
import Derived.Test.YtmeijmmfkgpamaaGreatEi
namespace Go.Eva
open Go.RowKit
set_option linter.unusedVariables false
set_option linter.unusedSimpArgs false
section
variable {κ : Ctx} {P : Program} {ρ : Env} {s s' : ES} {w : World} {N : Nat} {tm : T EV} {a : Act} {x : EV} {C : CallFn} {o : Oper}

/-! ### Literals -/
theorem denL_arr {l : List EV} {arr : Array Value} (h : denL ρ l = some arr.toList) {k : Nat} {x : EV} (hk : l[k]? = some x) : ∃ v, arr[k]? = some v ∧ x.den ρ = some v := by
  obtain ⟨v, h1, h2⟩ := denL_get h k x hk
  exact ⟨v, by simpa using h1, h2⟩
/-- Cells laid over others. -/
theorem lay_fold (off : Nat) : ∀ (vs : List Value) (n : Nat) (arr : Array Value), off + n + vs.length ≤ arr.size →
    ∃ arr', (vs.zipIdx n).foldl (fun (cs : Array Value) p => cs.setIfInBounds (off + p.2) p.1) arr = arr' ∧ arr'.size = arr.size ∧ ∀ k, arr'[k]? = if off + n ≤ k ∧ k < off + n + vs.length then vs[k - (off + n)]? else arr[k]?
  | [], n, arr, _ => ⟨arr, rfl, rfl, fun k => by rw [if_neg (by simp only [List.length_nil]; omega)]⟩
  | v :: vs, n, arr, h => by
    simp only [List.length_cons] at h
    obtain ⟨arr', h1, h2, h3⟩ := lay_fold off vs (n + 1) (arr.setIfInBounds (off + n) v) (by simp; omega)
    refine ⟨arr', h1, by simpa using h2, fun k => ?_⟩
    rw [h3 k]
    by_cases hk : off + (n + 1) ≤ k ∧ k < off + (n + 1) + vs.length
    · rw [if_pos hk, if_pos (by simp only [List.length_cons]; omega), show k - (off + n) = (k - (off + (n + 1))) + 1 by omega, List.getElem?_cons_succ]
    · rw [if_neg hk]
      by_cases hk2 : k = off + n
      · subst hk2
        rw [if_pos (by simp only [List.length_cons]; omega), Nat.sub_self, List.getElem?_cons_zero]
        rw [Array.getElem?_setIfInBounds, if_pos rfl, if_pos (by omega)]
      · rw [if_neg (by simp only [List.length_cons]; omega), Array.getElem?_setIfInBounds, if_neg (by omega)]
theorem lay_den {l l' xs : List EV} {arr : Array Value} {off : Nat} {v : Value} (hl : denL ρ l = some arr.toList) (hs : setL l off xs = some l') (hx : denL ρ xs = some v.cells.toList) :
    ∃ arr', v.cells.zipIdx.foldl (fun (cs : Array Value) p => cs.setIfInBounds (off + p.2) p.1) arr = arr' ∧ denL ρ l' = some arr'.toList ∧ off + v.cells.size ≤ arr.size := by
  obtain ⟨s1, s2, s3⟩ := setL_get hs
  have hlen := denL_len hl
  have hxl := denL_len hx
  simp only [Array.length_toList] at hlen hxl
  obtain ⟨arr', h1, h2, h3⟩ := lay_fold off v.cells.toList 0 arr (by simp; omega)
  refine ⟨arr', ?_, ?_, by omega⟩
  · rw [← h1, ← Array.foldl_toList, Array.toList_zipIdx]
  · refine denL_mk (by simp; omega) (fun k x hk => ?_)
    rw [s3 k] at hk
    by_cases hi : off ≤ k ∧ k < off + xs.length
    · rw [if_pos hi] at hk
      obtain ⟨u, h4, h5⟩ := denL_get hx _ _ hk
      refine ⟨u, ?_, h5⟩
      rw [Array.getElem?_toList, h3 k, if_pos (by simp; omega), Nat.add_zero]; exact h4
    · rw [if_neg hi] at hk
      obtain ⟨u, h4, h5⟩ := denL_get hl _ _ hk
      refine ⟨u, ?_, h5⟩
      rw [Array.getElem?_toList, h3 k, if_neg (by simp; omega)]; simpa using h4
theorem setL_all {l l' xs : List EV} {off : Nat} (hs : setL l off xs = some l') (h1 : l.all EV.one = true) (h2 : xs.all EV.one = true) : l'.all EV.one = true := by
  obtain ⟨s1, s2, s3⟩ := setL_get hs
  rw [List.all_eq_true]
  intro x hx
  obtain ⟨k, hk⟩ := List.getElem?_of_mem hx
  rw [s3 k] at hk
  split at hk
  · exact List.all_eq_true.1 h2 x (List.mem_of_getElem? hk)
  · exact List.all_eq_true.1 h1 x (List.mem_of_getElem? hk)
/-- Parts that read so. -/
inductive PR (ρ : Env) : List (Nat × EV) → List (Nat × Value) → Prop
  | nil : PR ρ [] []
  | cons {i : Nat} {x : EV} {v : Value} {xs : List (Nat × EV)} {vs : List (Nat × Value)} (h : x.den ρ = some v) (r : PR ρ xs vs) : PR ρ ((i, x) :: xs) ((i, v) :: vs)
theorem evParts_sound (ht : TR ρ N tm a.tmps) : ∀ {l : List (Nat × Operand)} {ys : List (Nat × EV)}, evParts tm l = some ys → PR ρ ys (l.map fun p => (p.1, a.eval p.2))
  | [], ys, h => by cases (h : some [] = some ys); exact .nil
  | (i, q) :: r, ys, h => by
    have h' : (bO (ev tm q) fun v => bO (evParts tm r) fun vs => some ((i, v) :: vs)) = some ys := h
    obtain ⟨v, h1, h2⟩ := bO_some.1 h'
    obtain ⟨vs, h3, h4⟩ := bO_some.1 h2
    cases h4
    exact .cons (ev_sound ht h1) (evParts_sound ht h3)
theorem fill_sound {place : Nat → Option (Nat × Nat)} {xs : List (Nat × EV)} {ps : List (Nat × Value)} (hp : PR ρ xs ps) : ∀ {l l' : List EV} {arr : Array Value}, denL ρ l = some arr.toList → l.all EV.one = true → fillE place l xs = some l' →
    ∃ arr', Instr.fill place arr ps = some arr' ∧ denL ρ l' = some arr'.toList ∧ l'.all EV.one = true := by
  induction hp with
  | nil => intro l l' arr hl h1 h; cases (h : some l = some l'); exact ⟨arr, rfl, hl, h1⟩
  | @cons i x v xs ps hd hp ih =>
    intro l l' arr hl h1 h
    have h' : (bO (place i) fun q => cnd (Nat.beq x.cells.length q.2 && x.cells.all EV.one) (bO (setL l q.1 x.cells) fun l => fillE place l xs) none) = some l' := h
    obtain ⟨q, h2, h3⟩ := bO_some.1 h'
    obtain ⟨h4, h5⟩ := cnd_none.1 h3
    obtain ⟨h4, h6⟩ := band.1 h4
    obtain ⟨l2, h7, h8⟩ := bO_some.1 h5
    have hc := den_cells h6 hd
    have hlen := denL_len hc
    simp only [Array.length_toList] at hlen
    obtain ⟨arr2, h9, h10, h11⟩ := lay_den hl h7 hc
    obtain ⟨arr3, h12, h13, h14⟩ := ih h10 (setL_all h7 h1 h6) h8
    refine ⟨arr3, ?_, h13, h14⟩
    rw [Instr.fill, h2]
    obtain ⟨off, sz⟩ := q
    have hsz : v.cells.size = sz := by rw [hlen]; exact beq_n h4
    simp only
    rw [if_neg (by simp [hsz]; simp only at h11; omega)]
    rw [← h12]
    congr 1
theorem replic_len (z : List EV) (n : Nat) : (replic z n).length = n * z.length := by
  induction n with
  | zero => simp [replic]
  | succ n ih => simp [replic, ih, Nat.add_mul]; omega
theorem replic_get (z : List EV) : ∀ (n k : Nat), k < n * z.length → (replic z n)[k]? = z[k % z.length]?
  | 0, k, h => by simp at h
  | n + 1, k, h => by
    have hz : 0 < z.length := by
      rcases Nat.eq_zero_or_pos z.length with e | e
      · rw [e] at h; simp at h
      · exact e
    rw [replic]
    by_cases hk : k < z.length
    · rw [List.getElem?_append_left hk, Nat.mod_eq_of_lt hk]
    · have h2 : k - z.length < n * z.length := by rw [Nat.succ_mul] at h; omega
      rw [List.getElem?_append_right (by omega), replic_get z n _ h2, Nat.mod_eq_sub_mod (a := k) (b := z.length) (by omega)]
theorem replic_all {z : List EV} (h : z.all EV.one = true) (n : Nat) : (replic z n).all EV.one = true := by
  induction n with
  | zero => rfl
  | succ n ih => simp only [replic, List.all_append, h, ih, Bool.and_self]
/-- Zero cells. -/
theorem zeros_den {v : Value} {sz : Nat} (hz : (v.cells.toList.map EV.raw).length = sz) (h0 : 0 < sz) (n : Nat) : denL ρ (replic (v.cells.toList.map .raw) n) = some ((Array.range (n * sz)).map fun i => v.cells[i % v.cells.size]!).toList := by
  have hs : v.cells.size = sz := by simpa using hz
  refine denL_mk (by rw [replic_len, hz]; simp) (fun k x hk => ?_)
  have hlt : k < n * sz := by have := (List.getElem?_eq_some_iff.1 hk).1; rw [replic_len, hz] at this; exact this
  rw [replic_get _ _ _ (by rw [hz]; exact hlt), hz] at hk
  have hm : k % sz < v.cells.size := by rw [hs]; exact Nat.mod_lt _ h0
  rw [List.getElem?_map, Array.getElem?_toList, Array.getElem?_eq_getElem hm] at hk
  cases hk
  refine ⟨_, ?_, rfl⟩
  rw [Array.getElem?_toList, Array.getElem?_map, Array.getElem?_range, if_pos hlt, Option.map_some, hs, getElem!_pos v.cells _ hm]
theorem placesL_run {fs : List Field} {l : List (Nat × Nat)} (h : placesL P fs = some l) (w : World) : (fs.mapM fun f => do pure (f.offset, ← sizeOf f.type) : Sem (List (Nat × Nat))).run P w = .ok l w := by
  induction fs generalizing l with
  | nil => cases h; rfl
  | cons f r ih =>
    unfold placesL at h
    rw [List.mapM_cons] at h
    cases h1 : szT P f.type with
    | none => simp [h1] at h
    | some n =>
      cases h2 : placesL P r with
      | none => unfold placesL at h2; simp [h1, h2] at h
      | some l2 =>
        have h2' := h2
        unfold placesL at h2
        simp [h1, h2] at h
        subst h
        rw [List.mapM_cons]
        simp only [Sem.run_bind, run_szT h1, Result.andThen_ok, Sem.run_pure, ih h2']
theorem opBuild_sound (hS : S κ P ρ s w) (ht : TR ρ N tm a.tmps) {t : TypeId} {ps : Array (Nat × Operand)} (ho : o.op = .build t ps) (h : opBuild t ps ⟨P, C⟩ o tm s = .val x s') : DoesN κ P ρ w (execOp a.eval o) x s' := by
  obtain ⟨z, h1, h⟩ := bR_val.1 h
  obtain ⟨pl, h2, h⟩ := bR_val.1 h
  obtain ⟨xs, h3, h⟩ := bR_val.1 h
  obtain ⟨h4, h⟩ := cnd_bad.1 h
  obtain ⟨l, h5, h⟩ := bR_val.1 h
  obtain ⟨rfl, rfl⟩ := val_inj.1 h
  obtain ⟨v, hz, rfl⟩ := zrT_info h1
  obtain ⟨arr, h6, h7, h8⟩ := fill_sound (evParts_sound ht h3) (raw_den v.cells.toList) h4 h5
  have hex : execOp a.eval o = (do pure (Next.value (← Instr.build t (ps.map fun (i, x) => (i, a.eval x))))) := by
    obtain ⟨dst, op, ty, pos, af, gd⟩ := o
    cases ho; rfl
  have hps : (ps.map fun (i, x) => (i, a.eval x)).toList = ps.toList.map fun p => (p.1, a.eval p.2) := by simp
  rw [hex]
  refine Does.next (Does.val (v := .agg arr) hS ?_ (by simp only [EV.den, h7, Option.map_some, Array.toArray_toList]))
  unfold placesT at h2
  simp only [infoA_eq, undA_eq] at h2
  split at h2
  · rename_i fs hu
    obtain ⟨pll, h9, h10⟩ := bO_some.1 h2
    cases h10
    have hrun := placesL_run h9 w
    have hrun2 : (fs.mapM fun f => do pure (f.offset, ← sizeOf f.type) : Sem (Array (Nat × Nat))).run P w = .ok pll.toArray w := by
      rw [Array.mapM_eq_mapM_toList]
      simp only [Sem.run_map, hrun, Result.andThen_ok]
    have hf : Instr.fill (fun i => pll.toArray[i]?) v.cells (ps.map fun (i, x) => (i, a.eval x)).toList = some arr := by
      rw [hps]
      have : (fun i => pll.toArray[i]?) = fun i : Nat => pll[i]? := by funext i; simp
      rw [this]; exact h6
    simp only [Instr.build, Sem.run_bind, hz, Result.andThen_ok, run_und hu, hrun2, hf, Sem.run_pure]
  · rename_i n e hu
    obtain ⟨sz, h9, h10⟩ := bO_some.1 h2
    cases h10
    rw [← hps] at h6
    simp only [Instr.build, Sem.run_bind, hz, Result.andThen_ok, run_und hu, run_szT h9, h6, Sem.run_pure]
  · cases h2
theorem byT_info {e : TypeId} {bt : Nat} (h : byT P e = some bt) : ∃ i, P.info? e = some i ∧ i.bytes = bt := by
  unfold byT at h
  simp only [infoA_eq, undA_eq] at h
  cases hi : P.info? e with
  | none => simp [hi] at h
  | some i => simp [hi] at h; exact ⟨i, rfl, h⟩
theorem fold_size (off : Nat) : ∀ (q : List (Value × Nat)) (a : Array Value), (q.foldl (fun (cs : Array Value) p => cs.setIfInBounds (off + p.2) p.1) a).size = a.size
  | [], a => rfl
  | p :: q, a => by rw [List.foldl_cons, fold_size off q]; simp
theorem fill_size {place : Nat → Option (Nat × Nat)} : ∀ {ps : List (Nat × Value)} {a b : Array Value}, Instr.fill place a ps = some b → b.size = a.size
  | [], a, b, h => by cases h; rfl
  | (i, u) :: r, a, b, h => by
    rw [Instr.fill] at h
    split at h
    · cases h
    · split at h
      · cases h
      · rw [fill_size h, ← Array.foldl_toList]
        exact fold_size _ _ _
theorem range0 (f : Nat → Value) : (Array.range 0).map f = #[] := by apply Array.ext'; simp
theorem opBuildSlice_sound (hS : S κ P ρ s w) (ht : TR ρ N tm a.tmps) {t : TypeId} {n : Nat} {ps : Array (Nat × Operand)} (ho : o.op = .buildSlice t n ps) (h : opBuildSlice t n ps ⟨P, C⟩ o tm s = .val x s') : DoesN κ P ρ w (execOp a.eval o) x s' := by
  obtain ⟨e, h1, h⟩ := bR_val.1 h
  obtain ⟨sz, h2, h⟩ := bR_val.1 h
  obtain ⟨z, h3, h⟩ := bR_val.1 h
  obtain ⟨xs, h4, h⟩ := bR_val.1 h
  obtain ⟨h5, h⟩ := cnd_bad.1 h
  obtain ⟨h5, c4⟩ := band.1 h5
  obtain ⟨h5, c3⟩ := band.1 h5
  obtain ⟨c1, c2⟩ := band.1 h5
  have c1 := blt_lt c1
  have c2 := ble_le c2
  have c3 := beq_n c3
  obtain ⟨l, h6, h⟩ := bR_val.1 h
  obtain ⟨rfl, rfl⟩ := val_inj.1 (show RO.val _ _ = RO.val x s' from h)
  obtain ⟨v, hz, rfl⟩ := zrT_info h3
  have hzd := zeros_den (ρ := ρ) c3 c1 n
  obtain ⟨arr, h7, h8, h9⟩ := fill_sound (evParts_sound ht h4) hzd (replic_all c4 n) h6
  have hl : l.length = n * sz := by
    have h10 := denL_len h8
    have : arr.size = n * sz := by
      have := fill_size h7
      simpa using this
    simp only [Array.length_toList] at h10
    omega
  have hex : execOp a.eval o = (do pure (Next.value (← Instr.buildSlice t n (ps.map fun (i, x) => (i, a.eval x))))) := by
    obtain ⟨dst, op, ty, pos, af, gd⟩ := o
    cases ho; rfl
  have hps : (ps.map fun (i, x) => (i, a.eval x)).toList = ps.toList.map fun p => (p.1, a.eval p.2) := by simp
  have hnew := new_row (t := e) (rest := #[]) (cl := s.n) (so := true) (ti := true) (n := n) (cap := n) (sz := sz) (fz := (0, 0)) hS h8 h9 (by omega) (Nat.le_refl _) (by have := denL_len h8; simp at this ⊢; omega) Thaw.zero (some n) (.inr rfl)
  rw [hex]
  refine Does.next ⟨_, _, _, ?_, hnew.1, hnew.2.1, hnew.2.2⟩
  rw [← hps] at h7
  simp only [Instr.buildSlice, Sem.run_bind, run_und (und_slT h1), Result.andThen_ok, run_szT h2]
  rw [if_neg (by omega)]
  by_cases h0 : n * sz = 0
  · rw [if_pos h0]
    have h7' : Instr.fill (fun i => some (i * sz, sz)) #[] (ps.map fun (i, x) => (i, a.eval x)).toList = some arr := by
      rw [← h7, h0, range0]
    simp only [Sem.run_pure, Sem.run_bind, Result.andThen_ok, h0, range0, h7', newRow, run_newObj, Array.toArray_toList, Array.append_empty]; rfl
  · rw [if_neg h0]
    simp only [Sem.run_pure, Sem.run_bind, hz, Result.andThen_ok, h7, newRow, run_newObj, Array.toArray_toList, Array.append_empty]; rfl
theorem opMakeSlice_sound (hS : S κ P ρ s w) (ht : TR ρ N tm a.tmps) {t : TypeId} {y z : Operand} (ho : o.op = .makeSlice t y z) (h : opMakeSlice t y z ⟨P, C⟩ o tm s = .val x s') : DoesN κ P ρ w (execOp a.eval o) x s' := by
  obtain ⟨e, h1, h⟩ := bR_val.1 h
  obtain ⟨sz, h2, h⟩ := bR_val.1 h
  obtain ⟨zr, h3, h⟩ := bR_val.1 h
  obtain ⟨n, h4, h⟩ := bR_val.1 h
  obtain ⟨c, h5, h⟩ := bR_val.1 h
  obtain ⟨bt, h6, h⟩ := bR_val.1 h
  obtain ⟨q, h⟩ := cnd_bad.1 h
  obtain ⟨q, c6⟩ := band.1 q
  obtain ⟨q, c5⟩ := band.1 q
  obtain ⟨q, c4⟩ := band.1 q
  obtain ⟨q, c3⟩ := band.1 q
  obtain ⟨c1, c2⟩ := band.1 q
  have c1 := blt_lt c1
  have c2 := ble_le c2
  have c3 := ble_le c3
  have c4 := ble_le c4
  have c5 := beq_n c5
  obtain ⟨rfl, rfl⟩ := val_inj.1 (show RO.val _ _ = RO.val x s' from h)
  obtain ⟨v, hz, rfl⟩ := zrT_info h3
  obtain ⟨i, hi, hb⟩ := byT_info h6
  obtain ⟨k1, hk1⟩ := evN_some ht h4
  obtain ⟨k2, hk2⟩ := evN_some ht h5
  have hzd := zeros_den (ρ := ρ) c5 c1 c
  have hlen : (replic (v.cells.toList.map EV.raw) c).length = c * sz := by rw [replic_len, c5]
  have hle : n * sz ≤ c * sz := Nat.mul_le_mul_right _ c2
  have hnew := new_row (t := e) (rest := #[]) (cl := s.n) (so := true) (ti := true) (n := n) (cap := c) (sz := sz) (fz := (0, 0)) hS hzd (replic_all c6 c) (by omega) c2 (by have := denL_len hzd; simp at this ⊢) Thaw.zero (some c) (.inr rfl)
  have hex : execOp a.eval o = (do pure (Next.value (← Instr.makeSlice t (a.eval y) (a.eval z)))) := by
    obtain ⟨dst, op, ty, pos, af, gd⟩ := o
    cases ho; rfl
  rw [hex, hk1, hk2]
  refine Does.next ⟨_, _, _, ?_, hnew.1, hnew.2.1, hnew.2.2⟩
  have w1 : IntKind.i64.wrap (n : Int) = n := by rw [IntKind.wrap_i64] <;> omega
  have w2 : IntKind.i64.wrap (c : Int) = c := by rw [IntKind.wrap_i64] <;> omega
  have hbc : ((i.bytes : Int) * (c : Int)) ≤ 1000000000000 := by rw [hb]; exact Int.ofNat_le.mpr c4
  have hcond : (decide ((c : Int) < 0) || decide ((i.bytes : Int) * (c : Int) > 2 ^ 48) || decide ((n : Int) < 0) || decide ((n : Int) > c)) = false := by
    simp only [Bool.or_eq_false_iff, decide_eq_false_iff_not]
    refine ⟨⟨⟨by omega, ?_⟩, by omega⟩, by omega⟩
    have : (2 : Int) ^ 48 = 281474976710656 := by decide
    omega
  simp only [Instr.makeSlice, Sem.run_bind, run_und (und_slT h1), Result.andThen_ok, Go.asInt, asIntOf, Sem.run_pure, run_info hi, w1, w2]
  rw [if_neg (by rw [hcond]; decide)]
  simp only [Sem.run_bind, run_askRoom, Result.andThen_ok, run_szT h2, Int.toNat_natCast, Sem.run_pure]
  by_cases h0 : c * sz = 0
  · rw [if_pos h0]
    simp only [Sem.run_pure, Sem.run_bind, Result.andThen_ok, h0, range0, newRow, run_newObj, Array.toArray_toList, Array.append_empty]; rfl
  · rw [if_neg h0]
    simp only [Sem.run_pure, Sem.run_bind, hz, Result.andThen_ok, newRow, run_newObj, Array.toArray_toList, Array.append_empty]; rfl
end
end Go.Eva
