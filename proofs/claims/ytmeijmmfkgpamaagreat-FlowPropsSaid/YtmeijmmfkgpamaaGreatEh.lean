/-
  An evaluator of calls at closed inputs, part h: operations that turn memory.
-/
import Derived.Test.YtmeijmmfkgpamaaGreatEg
import Derived.Deep.AppendSrc
namespace Go.Eva
open Go.RowKit
set_option linter.unusedVariables false
set_option linter.unusedSimpArgs false
section
variable {κ : Ctx} {P : Program} {ρ : Env} {s s' : ES} {w : World} {N : Nat} {tm : T EV} {a : Act} {x : EV} {C : CallFn} {o : Oper}

theorem Thaw.zero {arr : Array Value} : Thaw arr (0, 0) := .inl rfl
theorem one_den {x : EV} {v : Value} (h : x.one = true) (hd : x.den ρ = some v) : v.oneCell' = true := by
  cases x with
  | raw u =>
    simp only [EV.den, Option.some.injEq] at hd
    subst hd
    cases u <;> first | rfl | cases h
  | ptr b o => obtain ⟨e, _, rfl⟩ := den_ptr hd; rfl
  | sl b i sz n c => obtain ⟨e, _, _, _, rfl⟩ := den_sl hd; rfl
  | se b i j sz =>
    simp only [EV.den, Option.bind_eq_some_iff] at hd
    obtain ⟨e, _, hd⟩ := hd
    split at hd
    · cases hd; rfl
    · cases hd
  | agg l => cases h
  | tup l => cases h
  | fn f p q =>
    simp only [EV.den] at hd
    split at hd
    · cases hd; rfl
    · cases hd
  | yld l => simp only [EV.den, Option.map_eq_some_iff] at hd; obtain ⟨e, _, rfl⟩ := hd; rfl
  | ifc t y => simp only [EV.den, Option.map_eq_some_iff] at hd; obtain ⟨e, _, rfl⟩ := hd; rfl
  | mp b => simp only [EV.den, Option.map_eq_some_iff] at hd; obtain ⟨e, _, rfl⟩ := hd; rfl
/-- A value's cells read as its cells. -/
theorem den_cells {x : EV} {v : Value} (h1 : x.cells.all EV.one = true) (hd : x.den ρ = some v) : denL ρ x.cells = some v.cells.toList := by
  have key : ∀ x : EV, x.cells = [x] → x.cells.all EV.one = true → x.den ρ = some v → denL ρ x.cells = some v.cells.toList := by
    intro x hx h1 hd
    rw [hx] at h1 ⊢
    have h2 := one_den (by simpa using h1) hd
    have h3 : v.cells = #[v] := by cases v <;> first | rfl | cases h2
    rw [h3]
    exact denL_cons.2 ⟨v, [], hd, rfl, rfl⟩
  cases x with
  | agg l =>
    simp only [EV.den, Option.map_eq_some_iff] at hd
    obtain ⟨vs, h2, rfl⟩ := hd
    exact h2
  | _ => exact key _ rfl h1 hd
/-- Cells out of a row that reads so. -/
theorem CR.of_list {l : List EV} {vs : List Value} {rest : Array Value} (h : denL ρ l = some vs) (h1 : l.all EV.one = true) : CR ρ l (vs.toArray ++ rest) 0 := fun k x hk => by
  obtain ⟨v, h2, h3⟩ := denL_get h k x hk
  refine ⟨List.all_eq_true.1 h1 x (List.mem_of_getElem? hk), v, ?_, h3⟩
  rw [Nat.zero_add, Array.getElem?_append_left (by have := (List.getElem?_eq_some_iff.1 h2).1; simpa using this)]
  simpa using h2
theorem toArray_app_nil (vs : List Value) : vs.toArray = vs.toArray ++ #[] := by simp

/-- A new variable. -/
theorem new_var (hS : S κ P ρ s w) {l : List EV} {vs : List Value} {t : TypeId} (h : denL ρ l = some vs) (h1 : l.all EV.one = true) :
    ρ.le (ρ.ext s.n ⟨w.heap.size, 0, 0, 0⟩) ∧ S κ P (ρ.ext s.n ⟨w.heap.size, 0, 0, 0⟩) (newObj s (.var l)) (w.alloc (.cells vs.toArray t)) ∧ (EV.ptr s.n 0).den (ρ.ext s.n ⟨w.heap.size, 0, 0, 0⟩) = some (.pointer (some ⟨w.heap.size, 0, none⟩)) := by
  have hle : ρ.le (ρ.ext s.n ⟨w.heap.size, 0, 0, 0⟩) := Env.ext_le (hS.none (Nat.le_refl _))
  refine ⟨hle, hS.fresh ⟨vs.toArray, t, (0, 0), alloc_eq, Thaw.zero, ?_, by simp, ?_⟩, ?_⟩
  · simp [denL_len h]
  · rw [toArray_app_nil]; exact (CR.of_list h h1).mono hle
  · simp only [EV.den, Env.ext_same, Option.map_some]
/-- A new row. -/
theorem new_row (hS : S κ P ρ s w) {l : List EV} {vs : List Value} {rest : Array Value} {t : TypeId} {fz : Nat × Nat} {n cap sz cl : Nat} {so ti : Bool} (h : denL ρ l = some vs) (h1 : l.all EV.one = true) (hn : n * sz ≤ l.length) (hcap : n ≤ cap) (hsz : cap * sz ≤ vs.length + rest.size)
    (hfz : Thaw (vs.toArray ++ rest) fz) (c : Option Nat) (hc : c = none ∨ c = some cap) :
    ρ.le (ρ.ext s.n ⟨w.heap.size, 0, cap, sz⟩) ∧ S κ P (ρ.ext s.n ⟨w.heap.size, 0, cap, sz⟩) (newObj s (.row l cl so ti)) (w.alloc (.cells (vs.toArray ++ rest) t fz)) ∧
    (EV.sl s.n 0 sz n c).den (ρ.ext s.n ⟨w.heap.size, 0, cap, sz⟩) = some (.slice (some ⟨w.heap.size, 0, none⟩) n cap) := by
  have hle : ρ.le (ρ.ext s.n ⟨w.heap.size, 0, cap, sz⟩) := Env.ext_le (hS.none (Nat.le_refl _))
  refine ⟨hle, hS.fresh ⟨vs.toArray ++ rest, t, fz, alloc_eq, hfz, ?_, by simpa using hsz, (CR.of_list h h1).mono hle⟩, ?_⟩
  · simp [denL_len h]
  · simp only [EV.den, Env.ext_same, Option.bind_some, Nat.zero_add, Nat.zero_mul]
    rcases hc with rfl | rfl <;> simp [hcap]

theorem raw_all (l : List Value) : (l.map EV.raw).all EV.one = true ↔ ∀ v ∈ l, (EV.raw v).one = true := by simp
theorem raw_den (l : List Value) : denL ρ (l.map EV.raw) = some l := by
  induction l with
  | nil => rfl
  | cons v r ih => exact denL_cons.2 ⟨v, r, rfl, ih, rfl⟩

theorem opAlloc_sound (hS : S κ P ρ s w) (ht : TR ρ N tm a.tmps) {t : TypeId} (ho : o.op = .alloc t) (h : opAlloc t ⟨P, C⟩ o tm s = .val x s') : DoesN κ P ρ w (execOp a.eval o) x s' := by
  obtain ⟨z, h1, h⟩ := bR_val.1 h
  obtain ⟨h2, h⟩ := cnd_bad.1 h
  obtain ⟨rfl, rfl⟩ := val_inj.1 h
  obtain ⟨v, hz, rfl⟩ := zrT_info h1
  obtain ⟨a1, a2, a3⟩ := new_var hS (raw_den v.cells.toList) h2 (t := t)
  have hex : execOp a.eval o = (do pure (Next.value (← Instr.alloc t true (.tuple #[])))) := by
    obtain ⟨dst, op, ty, pos, af, gd⟩ := o
    cases ho; rfl
  rw [hex]
  refine Does.next ⟨_, _, _, ?_, a1, a2, a3⟩
  simp [Instr.alloc, hz, newVar, newRow, Array.toArray_toList]
theorem opBox_sound (hS : S κ P ρ s w) (ht : TR ρ N tm a.tmps) {t : TypeId} {y : Operand} (ho : o.op = .box t y) (h : opBox t y ⟨P, C⟩ o tm s = .val x s') : DoesN κ P ρ w (execOp a.eval o) x s' := by
  obtain ⟨v, h1, h⟩ := bR_val.1 h
  obtain ⟨h2, h⟩ := cnd_bad.1 h
  obtain ⟨rfl, rfl⟩ := val_inj.1 h
  obtain ⟨a1, a2, a3⟩ := new_var hS (den_cells h2 (ev_sound ht h1)) h2 (t := t)
  have hex : execOp a.eval o = (do pure (Next.value (← Instr.box t (a.eval y)))) := by
    obtain ⟨dst, op, ty, pos, af, gd⟩ := o
    cases ho; rfl
  rw [hex]
  refine Does.next ⟨_, _, _, ?_, a1, a2, a3⟩
  simp [Instr.box, newVar, newRow, Array.toArray_toList]

/-! ### Stores -/
theorem setL_get : ∀ {l : List EV} {o : Nat} {xs l' : List EV}, setL l o xs = some l' → o + xs.length ≤ l.length ∧ l'.length = l.length ∧ ∀ k, l'[k]? = if o ≤ k ∧ k < o + xs.length then xs[k - o]? else l[k]?
  | l, 0, [], l', h => by
    have : l' = l := by cases l <;> (cases (h : some _ = some l'); rfl)
    subst this
    exact ⟨Nat.zero_le _, rfl, fun k => by rw [if_neg (by simp)]⟩
  | [], 0, x :: xs, l', h => by cases h
  | y :: l, 0, x :: xs, l', h => by
    obtain ⟨r, h1, h2⟩ := bO_some.1 (show bO (setL l 0 xs) _ = some l' from h)
    cases h2
    obtain ⟨a, b, c⟩ := setL_get h1
    refine ⟨by simp at a ⊢; omega, by simp [b], fun k => ?_⟩
    cases k with
    | zero => simp
    | succ k =>
      have := c k
      simp only [List.getElem?_cons_succ, List.length_cons, Nat.zero_le, true_and, Nat.sub_zero, Nat.zero_add] at this ⊢
      rw [this]
      by_cases hk : k < xs.length
      · rw [if_pos hk, if_pos (by omega)]
      · rw [if_neg hk, if_neg (by omega)]
  | [], o + 1, xs, l', h => by cases xs <;> cases h
  | y :: l, o + 1, xs, l', h => by
    have h' : (bO (setL l o xs) fun r => some (y :: r)) = some l' := by cases xs <;> exact h
    obtain ⟨r, h1, h2⟩ := bO_some.1 h'
    cases h2
    obtain ⟨a, b, c⟩ := setL_get h1
    refine ⟨by simp at a ⊢; omega, by simp [b], fun k => ?_⟩
    cases k with
    | zero => rw [if_neg (by omega)]; rfl
    | succ k =>
      have := c k
      simp only [List.getElem?_cons_succ] at this ⊢
      rw [this, show k + 1 - (o + 1) = k - o by omega]
      by_cases hk : o ≤ k ∧ k < o + xs.length
      · rw [if_pos hk, if_pos (by omega)]
      · rw [if_neg hk, if_neg (by omega)]

/-- A row of cells is written over. -/
theorem stores_run (b : Nat) (t : TypeId) (fz : Nat × Nat) : ∀ (vs : List Value) (o i : Nat) (w : World) (arr : Array Value), w.heap[b]? = some (.cells arr t fz) → Thaw arr fz → o + i + vs.length ≤ arr.size → (∀ v ∈ vs, v.oneCell' = true) →
    ∃ arr', (storeCells ⟨b, o, none⟩ vs i).run P w = .ok () (setO w b (.cells arr' t fz)) ∧ arr'.size = arr.size ∧ ∀ k, arr'[k]? = if o + i ≤ k ∧ k < o + i + vs.length then vs[k - (o + i)]? else arr[k]?
  | [], o, i, w, arr, h, hf, hl, h1 => by
    refine ⟨arr, ?_, rfl, fun k => by rw [if_neg (by simp only [List.length_nil]; omega)]⟩
    have : setO w b (.cells arr t fz) = w := by
      have hlt : b < w.heap.size := (Array.getElem?_eq_some_iff.1 h).1
      have hv := (Array.getElem?_eq_some_iff.1 h).2
      unfold setO
      have : w.heap.setIfInBounds b (.cells arr t fz) = w.heap := by
        apply Array.ext
        · simp
        · intro k h1 h2
          rw [Array.getElem_setIfInBounds]
          split
          · rename_i e; subst e; exact hv.symm
          · rfl
      rw [this]
    rw [this]; rfl
  | v :: vs, o, i, w, arr, h, hf, hl, h1 => by
    have hlt : o + i < arr.size := by simp at hl; omega
    have hb : b < w.heap.size := (Array.getElem?_eq_some_iff.1 h).1
    have hset : w.setCell ⟨b, o + i, none⟩ v = setO w b (.cells (arr.setIfInBounds (o + i) v) t fz) := by
      have hv := (Array.getElem?_eq_some_iff.1 h).2
      unfold World.setCell setO
      congr 1
      apply Array.ext
      · simp
      · intro k h1 h2
        rw [Array.getElem_modify, Array.getElem_setIfInBounds]
        by_cases e : b = k
        · subst e; rw [if_pos rfl, if_pos rfl, hv]; simp
        · rw [if_neg e, if_neg e]
    have hst : (store ((⟨b, o, none⟩ : Addr).add i) v).run P w = .ok () (setO w b (.cells (arr.setIfInBounds (o + i) v) t fz)) := by
      rw [Addr.add_lit, run_store P w _ v _ (h1 v (by simp))]
      have hc : w.cell? ⟨b, o + i, none⟩ = some (arr[o + i]) := by simp [World.cell?, h, hlt]
      have hfr : w.frozen? ⟨b, o + i, none⟩ = false := by
        simp only [World.frozen?, h]
        have := hf.not hlt
        obtain ⟨f1, f2⟩ := fz
        rw [Bool.eq_false_iff]
        intro e
        simp only [Bool.and_eq_true, decide_eq_true_eq] at e
        exact this e
      rw [hc]
      simp only [hfr, Bool.false_eq_true, if_false, hset]
    obtain ⟨arr', h2, h3, h4⟩ := stores_run b t fz vs o (i + 1) (setO w b (.cells (arr.setIfInBounds (o + i) v) t fz)) (arr.setIfInBounds (o + i) v) (setO_same hb) (hf.size (by simp)) (by simp at hl ⊢; omega) (fun u hu => h1 u (by simp [hu]))
    refine ⟨arr', ?_, by simpa using h3, fun k => ?_⟩
    · simp only [storeCells, Sem.run_bind, hst, Result.andThen_ok, h2]
      congr 1
      unfold setO
      simp
    · rw [h4 k]
      by_cases hk : o + (i + 1) ≤ k ∧ k < o + (i + 1) + vs.length
      · rw [if_pos hk, if_pos (by simp; omega)]
        rw [show k - (o + i) = (k - (o + (i + 1))) + 1 by omega]; simp
      · rw [if_neg hk]
        by_cases hk2 : k = o + i
        · subst hk2
          rw [if_pos (by simp)]
          simp [hlt]
        · rw [if_neg (by simp; omega)]
          rw [Array.getElem?_setIfInBounds, if_neg (by omega)]

theorem kill_get {c b : Nat} {h : T EO} {u : Nat} {y : EO} (hu : T.get (killAll c b h) u = some y) : T.get h u = some y ∧ (∀ l c' so ti, y = .row l c' so ti → u = b ∨ c ≠ c') := by
  obtain ⟨h1, h2⟩ := get_keep hu
  refine ⟨h1, ?_⟩
  rintro l c' so ti rfl
  right
  intro hc
  subst hc
  have h2 : (!Nat.beq c c) = true := h2
  rw [Nat.beq_refl] at h2
  cases h2
/-- Cells behind a store. -/
theorem CR.store {l l' xs : List EV} {arr arr' : Array Value} {base i : Nat} {vs : List Value} (hc : CR ρ l arr base) (hs : setL l i xs = some l') (hx : denL ρ xs = some vs) (h1 : xs.all EV.one = true)
    (ha : ∀ k, arr'[k]? = if base + i ≤ k ∧ k < base + i + vs.length then vs[k - (base + i)]? else arr[k]?) : CR ρ l' arr' base := fun k x hk => by
  obtain ⟨s1, s2, s3⟩ := setL_get hs
  have hl := denL_len hx
  rw [s3 k] at hk
  rw [ha]
  by_cases hi : i ≤ k ∧ k < i + xs.length
  · rw [if_pos hi] at hk
    rw [if_pos (by omega)]
    obtain ⟨v, h2, h3⟩ := denL_get hx _ _ hk
    exact ⟨List.all_eq_true.1 h1 x (List.mem_of_getElem? hk), v, by rw [show base + k - (base + i) = k - i by omega]; exact h2, h3⟩
  · rw [if_neg hi] at hk
    rw [if_neg (by omega)]
    exact hc k x hk
/-- A store at a virtual place: the machine stores there. -/
theorem store_sound (hS : S κ P ρ s w) {b i : Nat} {xs : List EV} {vs : List Value} (h : storeAt s b i xs = some s') (hx : denL ρ xs = some vs) (h1 : xs.all EV.one = true) :
    ∃ e w', ρ b = some e ∧ (storeCells ⟨e.b, e.base + i, none⟩ vs).run P w = .ok () w' ∧ S κ P ρ s' w' := by
  obtain ⟨y, hy, h⟩ := bO_some.1 h
  obtain ⟨e, he, hob⟩ := hS.obj b y hy
  have hone : ∀ v ∈ vs, v.oneCell' = true := by
    intro v hv
    obtain ⟨k, hk⟩ := List.getElem?_of_mem hv
    have hlt : k < xs.length := by rw [← denL_len hx]; exact (List.getElem?_eq_some_iff.1 hk).1
    obtain ⟨u, h2, h3⟩ := denL_get hx k _ (List.getElem?_eq_getElem hlt)
    rw [hk] at h2; cases h2
    exact one_den (List.all_eq_true.1 h1 _ (List.getElem_mem hlt)) h3
  have hlen := denL_len hx
  have core : ∀ (l l' : List EV), OBc ρ l e w → setL l i xs = some l' → ∃ arr' t fz, (storeCells ⟨e.b, e.base + i, none⟩ vs).run P w = .ok () (setO w e.b (.cells arr' t fz)) ∧ OBc ρ l' e (setO w e.b (.cells arr' t fz)) := by
    intro l l' hob hs
    obtain ⟨arr, t, fz, a1, a2, a3, a4, a5⟩ := hob
    obtain ⟨s1, s2, s3⟩ := setL_get hs
    obtain ⟨arr', r1, r2, r3⟩ := stores_run (P := P) e.b t fz vs (e.base + i) 0 w arr a1 a2 (by omega) hone
    refine ⟨arr', t, fz, r1, arr', t, fz, setO_same (Array.getElem?_eq_some_iff.1 a1).1, a2.size r2, by rw [r2, s2]; exact a3, by rw [r2]; exact a4, ?_⟩
    exact a5.store hs hx h1 (by simpa using r3)
  cases y with
  | var l =>
    obtain ⟨l', h2, h3⟩ := bO_some.1 (show bO (setL l i xs) _ = some s' from h)
    cases h3
    obtain ⟨arr', t, fz, r1, r2⟩ := core l l' hob h2
    refine ⟨e, _, he, r1, hS.change he (fun u z hu => (get_set hu).imp (fun ⟨p, q⟩ => ⟨p, q.symm⟩) id) (show OB P ρ (.var l') e _ from r2) (fun u z eu hne hu heu hbb => ?_)⟩
    rcases get_set hu with ⟨p, _⟩ | ⟨_, hu⟩
    · exact absurd p hne
    · have := hS.sep u b z (.var l) eu e hne hu hy heu he hbb
      cases z <;> exact this.elim
  | row l c so ti =>
    cases ti with
    | false => cases h
    | true =>
      obtain ⟨l', h2, h3⟩ := bO_some.1 (show bO (setL l i xs) _ = some s' from h)
      cases h3
      obtain ⟨arr', t, fz, r1, r2⟩ := core l l' hob h2
      have hsub : ∀ u z, T.get (cnd so s.h (killAll c b s.h)) u = some z → T.get s.h u = some z := by
        intro u z hu
        cases so
        · exact (kill_get (b := b) hu).1
        · exact hu
      refine ⟨e, _, he, r1, hS.change he (fun u z hu => (get_set hu).imp (fun ⟨p, q⟩ => ⟨p, q.symm⟩) (fun ⟨p, q⟩ => ⟨p, hsub _ _ q⟩)) (show OB P ρ (.row l' c true true) e _ from r2) (fun u z eu hne hu heu hbb => ?_)⟩
      rcases get_set hu with ⟨p, _⟩ | ⟨_, hu⟩
      · exact absurd p hne
      · exfalso
        have hsh := hS.sep u b z _ eu e hne (hsub _ _ hu) hy heu he hbb
        cases z with
        | row lu cu su tu =>
          obtain ⟨e1, e2, e3, _⟩ := hsh
          subst e3
          rcases (kill_get (show T.get (killAll c b s.h) u = _ from hu)).2 _ _ _ _ rfl with h4 | h4
          · exact hne h4
          · exact h4 e1.symm
        | _ => exact hsh.elim
  | _ => cases h
theorem opStore_sound (hS : S κ P ρ s w) (ht : TR ρ N tm a.tmps) {t : TypeId} {y z : Operand} (ho : o.op = .store t y z) (h : opStore t y z ⟨P, C⟩ o tm s = .val x s') : DoesN κ P ρ w (execOp a.eval o) x s' := by
  obtain ⟨p, h1, h⟩ := bR_val.1 h
  obtain ⟨v, h2, h⟩ := bR_val.1 h
  obtain ⟨n, h3, h⟩ := bR_val.1 h
  obtain ⟨h4, h⟩ := cnd_bad.1 h
  obtain ⟨h4, h5⟩ := band.1 h4
  obtain ⟨s2, h6, h⟩ := bR_val.1 h
  obtain ⟨rfl, rfl⟩ := val_inj.1 h
  obtain ⟨q, h7, h8⟩ := bO_some.1 h1
  have hq := asPtr_some h8
  subst hq
  have hd := den_cells h5 (ev_sound ht h2)
  obtain ⟨e, w', he, hr, hS'⟩ := store_sound hS h6 hd h5
  obtain ⟨e', he', hv⟩ := den_ptr (ev_sound ht h7)
  rw [he] at he'; cases he'
  have hex : execOp a.eval o = (do Instr.storeAt t (a.eval y) (a.eval z); pure Next.skip) := by
    obtain ⟨dst, op, ty, pos, af, gd⟩ := o
    cases ho; rfl
  have hsz : (a.eval z).cells.size = n := by
    have := denL_len hd
    rw [beq_n h4] at this
    simpa using this
  rw [hex, hv]
  refine ⟨ρ, w', undef, .inr ⟨?_, rfl⟩, Env.le_refl _, hS', rfl⟩
  simp [Instr.storeAt, Instr.sureAddr, storeVar, hsz, run_szT h3, hr]
end
end Go.Eva
