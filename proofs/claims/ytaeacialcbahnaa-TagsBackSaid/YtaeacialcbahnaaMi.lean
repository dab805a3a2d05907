/-
  The abstract layer, part i: the actions on memory, a rule each.
-/
import Derived.Test.YtaeacialcbahnaaMh
namespace Go.Abs
open Go.RowKit

/-- A value of one cell. -/
def oneA : AV → Bool
  | .raw v => v.oneCell'
  | .sl _ _ _ => true
  | .cp _ => true
  | .ifc _ _ => true
  | _ => false

section
variable {κ : Ctx} {P : Program} {σ : List Res} {K : AV → List Res → Prop}

theorem oneA_spec {g : Nat → Nat} {w : World} {x : AV} {v : Value} (hv : VR g w x v) (h : oneA x = true) : v.oneCell' = true := by
  cases hv <;> first | exact h | rfl | cases h

theorem one_vs {g : Nat → Nat} {w : World} {x : AV} {vs : List Value} (h : TR g w [x] vs.toArray) : ∃ v, vs = [v] ∧ VR g w x v := by
  have h1 := h.size
  match vs, h1 with
  | [v], _ => exact ⟨v, rfl, by simpa using h.get 0 x rfl⟩

theorem two_vs {g : Nat → Nat} {w : World} {x y : AV} {vs : List Value} (h : TR g w [x, y] vs.toArray) : ∃ v u, vs = [v, u] ∧ VR g w x v ∧ VR g w y u := by
  have h1 := h.size
  match vs, h1 with
  | [v, u], _ => exact ⟨v, u, rfl, by simpa using h.get 0 x rfl, by simpa using h.get 1 y rfl⟩

theorem nil_vs {g : Nat → Nat} {w : World} {vs : List Value} (h : TR g w [] vs.toArray) : vs = [] := by
  have h1 := h.size
  simpa using h1

theorem AAct.mono {m : MA} {xs : List AV} {K' : AV → List Res → Prop} (h : AAct κ P m xs σ K) (hk : ∀ x σ', K x σ' → K' x σ') : AAct κ P m xs σ K' :=
  fun φ g w vs hR hv => by
    obtain ⟨v, w', g', x, σ', h1, h2, h3, h4, h5⟩ := h φ g w vs hR hv
    exact ⟨v, w', g', x, σ', h1, h2, h3, h4, hk _ _ h5⟩

theorem mem_right {φ : List Res} {r : Res} {i : Nat} (h : σ[i]? = some r) : r ∈ φ ++ σ := List.mem_append.2 (.inr (List.mem_of_getElem? h))

/-- A variable is read: one cell. -/
theorem act_load {t b k : Nat} {cs : List AV} {x : AV} (i : Nat) (h : σ[i]? = some (.obj b cs)) (ha : aggT P t = some false) (hc : cs[k]? = some x) (hk : K x σ) : AAct κ P (.load t) [.raw (.pointer (some ⟨b, k, none⟩))] σ K := by
  intro φ g w vs hR hv
  obtain ⟨v, rfl, hv1⟩ := one_vs hv
  cases hv1.raw_eq
  obtain ⟨_, arr, ty, hh, hcs⟩ := hR.holds _ (mem_right h)
  have hx := hcs.get k x hc
  have hlt : k < arr.size := by rw [hcs.size]; exact lt_of_get hc
  have hcell : w.cell? ⟨b, k, none⟩ = some (arr.getD k undef) := by
    simp [World.cell?, hh, hlt]
  exact ⟨_, w, g, x, σ, by simp [MA.sem, nth, Instr.loadAt, Instr.sureAddr, loadVar, run_isAgg ha, hcell], hR, GE.refl _ _, hx, hk⟩

/-- A variable is read: a struct. -/
theorem act_load_agg {t b k : Nat} {cs : List AV} {n : Nat} (i : Nat) (h : σ[i]? = some (.obj b cs)) (ha : aggT P t = some true) (hs : szT P t = some n) (hn : k + n ≤ cs.length) (hk : K (.agg ((cs.drop k).take n)) σ) : AAct κ P (.load t) [.raw (.pointer (some ⟨b, k, none⟩))] σ K := by
  intro φ g w vs hR hv
  obtain ⟨v, rfl, hv1⟩ := one_vs hv
  cases hv1.raw_eq
  obtain ⟨_, arr, ty, hh, hcs⟩ := hR.holds _ (mem_right h)
  have hsz := hcs.size
  obtain ⟨arr2, h1, h2, h3⟩ := run_loadCells_cp (P := P) (w := w) b k n (fun j hj => ⟨arr.getD (k + j) undef, by
    have : k + j < arr.size := by omega
    simp [World.cell?, hh, this]⟩)
  refine ⟨.agg arr2, w, g, _, σ, by simp [MA.sem, nth, Instr.loadAt, Instr.sureAddr, loadVar, run_isAgg ha, run_szT hs, h1], hR, GE.refl _ _, ?_, hk⟩
  refine .agg arr2 (by simp [h2]; omega) (fun j y hy => ?_)
  have hjn : j < n := by have := lt_of_get hy; simp at this; omega
  rw [List.getElem?_take_of_lt hjn, List.getElem?_drop] at hy
  have h4 := h3 j hjn
  have : k + j < arr.size := by omega
  have h5 : w.cell? ⟨b, k + j, none⟩ = some (arr.getD (k + j) undef) := by simp [World.cell?, hh, this]
  rw [h5] at h4
  rw [← Option.some.inj h4]
  exact hcs.get _ y hy

theorem setCell_heap (w : World) (b k : Nat) (v : Value) (arr : Array Value) (ty : TypeId) (h : w.heap[b]? = some (.cells arr ty (0, 0))) : (w.setCell ⟨b, k, none⟩ v).heap[b]? = some (.cells (arr.setIfInBounds k v) ty (0, 0)) := by
  simp [World.setCell, Array.getElem?_modify, h]
theorem setCell_other (w : World) (b k c : Nat) (v : Value) (h : c ≠ b) : (w.setCell ⟨b, k, none⟩ v).heap[c]? = w.heap[c]? := by
  simp only [World.setCell, Array.getElem?_modify]
  rw [if_neg (fun e => h e.symm)]

theorem ge_setCell {g : Nat → Nat} {w : World} {b k : Nat} {v : Value} {arr : Array Value} {ty : TypeId} (h : w.heap[b]? = some (.cells arr ty (0, 0))) (hg : g b ≤ k) : GE g w g (w.setCell ⟨b, k, none⟩ v) := by
  refine ⟨by simp [World.setCell], fun _ => Nat.le_refl _, fun c o ho => ?_, fun c => ?_⟩
  · by_cases e : c = b
    · subst e
      simp only [World.cell?]
      rw [setCell_heap w c k v arr ty h, h]
      simp only [Option.isSome_none, Bool.false_eq_true, if_false]
      exact Array.getElem?_setIfInBounds_ne (by omega)
    · simp only [World.cell?]; rw [setCell_other w b k c v e]
  · by_cases e : c = b
    · subst e
      simp only [blockLen]; rw [setCell_heap w c k v arr ty h, h]; simp
    · simp only [blockLen]; rw [setCell_other w b k c v e]; exact Nat.le_refl _

/-- One cell of a variable is written. -/
theorem store_cell {φ : List Res} {g : Nat → Nat} {w : World} {b k i : Nat} {cs : List AV} {x : AV} {v : Value} (hR : Rel κ g (φ ++ σ) w) (h : σ[i]? = some (.obj b cs)) (hk : k < cs.length) (hv : VR g w x v) (h1 : oneA x = true) :
    (store ⟨b, k, none⟩ v).run P w = .ok () (w.setCell ⟨b, k, none⟩ v) ∧ Rel κ g (φ ++ σ.set i (.obj b (cs.set k x))) (w.setCell ⟨b, k, none⟩ v) ∧ GE g w g (w.setCell ⟨b, k, none⟩ v) := by
  obtain ⟨h0, arr, ty, hh, hcs⟩ := hR.holds _ (mem_right h)
  have hlt : k < arr.size := by rw [hcs.size]; exact hk
  have hge : GE g w g (w.setCell ⟨b, k, none⟩ v) := ge_setCell hh (by omega)
  refine ⟨?_, ?_, hge⟩
  · rw [run_store P w _ v _ (oneA_spec hv h1)]
    have : w.cell? ⟨b, k, none⟩ = some (arr.getD k undef) := by simp [World.cell?, hh, hlt]
    simp [this, World.frozen?, hh]
  · have hR' := hR.perm (perm_front (φ := φ) (perm_get h))
    have hR2 : Rel κ g (.obj b (cs.set k x) :: (φ ++ σ.eraseIdx i)) (w.setCell ⟨b, k, none⟩ v) := by
      refine hR'.change hge rfl rfl rfl (by simp [World.setCell]) (fun c hc => setCell_other w b k c v hc) (fun _ _ => rfl) rfl rfl ?_
      refine ⟨h0, _, ty, setCell_heap w b k v arr ty hh, ⟨by simp [hcs.size], fun j y hy => ?_⟩⟩
      rw [List.getElem?_set] at hy
      by_cases e : k = j
      · subst e
        rw [if_pos rfl, if_pos hk] at hy
        cases hy
        have : (arr.setIfInBounds k v).getD k undef = v := by simp [Array.getD_eq_getD_getElem?, hlt]
        rw [this]; exact hv.mono hge
      · rw [if_neg e] at hy
        have : (arr.setIfInBounds k v).getD j undef = arr.getD j undef := by
          rw [Array.getD_eq_getD_getElem?, Array.getElem?_setIfInBounds_ne e, ← Array.getD_eq_getD_getElem?]
        rw [this]; exact (hcs.get j y hy).mono hge
    exact hR2.perm (List.perm_middle.symm.trans ((perm_set h).append_left φ))

theorem cells_one {v : Value} (h : v.oneCell' = true) : v.cells = #[v] := by cases v <;> first | rfl | cases h

theorem act_store {t b k : Nat} {cs : List AV} {x : AV} (i : Nat) (h : σ[i]? = some (.obj b cs)) (hs : szT P t = some 1) (hk : k < cs.length) (h1 : oneA x = true) (hK : K .any (σ.set i (.obj b (cs.set k x)))) : AAct κ P (.store t) [.raw (.pointer (some ⟨b, k, none⟩)), x] σ K := by
  intro φ g w vs hR hv
  obtain ⟨v, u, rfl, hv1, hu⟩ := two_vs hv
  cases hv1.raw_eq
  obtain ⟨a1, a2, a3⟩ := store_cell (P := P) hR h hk hu h1
  refine ⟨undef, _, g, .any, _, ?_, a2, a3, .any _, hK⟩
  have hc := cells_one (oneA_spec hu h1)
  simp only [MA.sem, nth, List.getD_cons_zero, List.getD_cons_succ, Instr.storeAt, Instr.sureAddr, Sem.run_bind, Sem.run_pure, Result.andThen_ok, storeVar, hc, run_szT hs]
  simp [storeCells, Addr.add_zero', a1]

/-- The cells xs laid from k on. -/
def setCells (cs : List AV) : Nat → List AV → List AV
  | _, [] => cs
  | k, x :: xs => setCells (cs.set k x) (k + 1) xs

theorem setCells_length (xs : List AV) : ∀ (cs : List AV) (k : Nat), (setCells cs k xs).length = cs.length := by
  induction xs with
  | nil => intro cs k; rfl
  | cons x xs ih => intro cs k; simp [setCells, ih]

theorem set_set_idx {α : Type} (l : List α) (i : Nat) (x y : α) : (l.set i x).set i y = l.set i y := by simp

theorem store_cells {φ : List Res} {b i : Nat} : ∀ (xs : List AV) (us : List Value) (cs : List AV) (k j : Nat) (σ : List Res) (g : Nat → Nat) (w : World), Rel κ g (φ ++ σ) w → σ[i]? = some (.obj b cs) → k + j + xs.length ≤ cs.length →
    TR g w xs us.toArray → (∀ x ∈ xs, oneA x = true) → ∃ w', (storeCells ⟨b, k, none⟩ us j).run P w = .ok () w' ∧ Rel κ g (φ ++ σ.set i (.obj b (setCells cs (k + j) xs))) w' ∧ GE g w g w'
  | [], us, cs, k, j, σ, g, w, hR, h, hle, ht, h1 => by
    have : us = [] := nil_vs ht
    subst this
    refine ⟨w, rfl, ?_, GE.refl _ _⟩
    have e : σ.set i (.obj b cs) = σ := by
      apply List.ext_getElem?
      intro m
      rw [List.getElem?_set]
      split
      · rename_i e; subst e; split
        · rw [h]
        · rename_i hlt; exact (hlt (lt_of_get h)).elim
      · rfl
    simp only [setCells]; rw [e]; exact hR
  | x :: xs, us, cs, k, j, σ, g, w, hR, h, hle, ht, h1 => by
    match us, ht.size with
    | u :: us, hsz =>
      have hx : VR g w x u := by simpa using ht.get 0 x rfl
      have hxs : TR g w xs us.toArray := ⟨by simpa using hsz, fun m y hm => by
        have := ht.get (m + 1) y (by simpa using hm)
        simpa [Array.getD_eq_getD_getElem?] using this⟩
      simp only [List.length_cons] at hle
      obtain ⟨a1, a2, a3⟩ := store_cell (P := P) (k := k + j) hR h (by omega) hx (h1 x (by simp))
      have h' : (σ.set i (.obj b (cs.set (k + j) x)))[i]? = some (.obj b (cs.set (k + j) x)) := by
        rw [List.getElem?_set, if_pos rfl, if_pos (lt_of_get h)]
      obtain ⟨w', b1, b2, b3⟩ := store_cells xs us (cs.set (k + j) x) k (j + 1) _ g _ a2 h' (by simp; omega) (hxs.mono a3) (fun y hy => h1 y (by simp [hy]))
      refine ⟨w', ?_, ?_, a3.trans b3⟩
      · simp only [storeCells, Sem.run_bind, Addr.add_lit, a1, Result.andThen_ok, b1]
      · rw [set_set_idx] at b2
        simpa [setCells, Nat.add_assoc] using b2

/-- A struct is written to a variable. -/
theorem act_store_agg {t b k : Nat} {cs xs : List AV} (i : Nat) (h : σ[i]? = some (.obj b cs)) (hs : szT P t = some xs.length) (hk : k + xs.length ≤ cs.length) (h1 : xs.all oneA = true) (hK : K .any (σ.set i (.obj b (setCells cs k xs)))) : AAct κ P (.store t) [.raw (.pointer (some ⟨b, k, none⟩)), .agg xs] σ K := by
  intro φ g w vs hR hv
  obtain ⟨v, u, rfl, hv1, hu⟩ := two_vs hv
  cases hv1.raw_eq
  cases hu with
  | agg us hsz hus =>
  have ht : TR g w xs us.toList.toArray := by simpa using (⟨hsz, hus⟩ : TR g w xs us)
  obtain ⟨w', a1, a2, a3⟩ := store_cells (P := P) (κ := κ) xs us.toList cs k 0 σ g w hR h (by omega) ht (fun x hx => List.all_eq_true.1 h1 x hx)
  refine ⟨undef, w', g, .any, _, ?_, by simpa using a2, a3, .any _, hK⟩
  have hc : (Value.agg us).cells = us := rfl
  simp only [MA.sem, nth, List.getD_cons_zero, List.getD_cons_succ, Instr.storeAt, Instr.sureAddr, Sem.run_bind, Sem.run_pure, Result.andThen_ok, storeVar, hc, run_szT hs, hsz]
  simp [a1]

theorem TR.cells {g : Nat → Nat} {w : World} {x : AV} {v : Value} (h : VR g w x v) (h1 : x.cells.all oneA = true) : TR g w x.cells v.cells := by
  cases h with
  | agg vs hs hv => exact ⟨hs, hv⟩
  | raw v =>
    simp only [AV.cells] at h1 ⊢
    have : oneA (.raw v) = true := by simpa using h1
    rw [cells_one this]; exact TR.one (.raw v)
  | any v => simp [AV.cells, oneA] at h1
  | slnil hsz => exact TR.one (.slnil hsz)
  | slzero h2 hsz => exact TR.one (.slzero h2 hsz)
  | sl u a1 a2 a3 a4 a5 a6 a7 a8 => exact TR.one (.sl u a1 a2 a3 a4 a5 a6 a7 a8)
  | cp u a1 a2 a3 => exact TR.one (.cp u a1 a2 a3)
  | tup vs hs hv => simp [AV.cells, oneA] at h1
  | ifc h => exact TR.one (.ifc h)

/-- A new variable, its zero value in it. -/
theorem act_new {t : TypeId} {z : Value} (hz : zrT P t = some z) (h1 : (ofV z).cells.all oneA = true) (hK : ∀ b, K (.raw (.pointer (some ⟨b, 0, none⟩))) (.obj b (ofV z).cells :: σ)) : AAct κ P (.new t) [] σ K := by
  intro φ g w vs hR hv
  have := nil_vs hv
  subst this
  have hc := TR.cells (g := g) (w := w) (ofV_sound z) h1
  obtain ⟨a1, a2⟩ := hR.new_obj t hc
  refine ⟨.pointer (some ⟨w.heap.size, 0, none⟩), _, g, _, _, ?_, a1.perm List.perm_middle.symm, a2, .raw _, hK _⟩
  have hzi : ∃ i, P.info? t = some i ∧ i.zero = some z := by
    unfold zrT at hz
    cases hi : P.info? t with
    | none => simp [hi] at hz
    | some i => exact ⟨i, rfl, by simpa [hi] using hz⟩
  obtain ⟨inf, hi, hzz⟩ := hzi
  simp [MA.sem, Instr.alloc, zeroValue, run_info hi, hzz, newVar, newRow]

/-- A new variable, with a value. -/
theorem act_box {t : TypeId} {x : AV} (h1 : x.cells.all oneA = true) (hK : ∀ b, K (.raw (.pointer (some ⟨b, 0, none⟩))) (.obj b x.cells :: σ)) : AAct κ P (.box t) [x] σ K := by
  intro φ g w vs hR hv
  obtain ⟨v, rfl, hv1⟩ := one_vs hv
  have hc := TR.cells hv1 h1
  obtain ⟨a1, a2⟩ := hR.new_obj t hc
  refine ⟨.pointer (some ⟨w.heap.size, 0, none⟩), _, g, _, _, ?_, a1.perm List.perm_middle.symm, a2, .raw _, hK _⟩
  simp [MA.sem, nth, Instr.box, newVar, newRow]

end
end Go.Abs
