/-
  An evaluator of calls at closed inputs, part g: operations that turn nothing, one by one.
-/
import Derived.Test.YtmeijmmfkgpamaaGreatEf
namespace Go.Eva
open Go.RowKit
set_option linter.unusedVariables false
set_option linter.unusedSimpArgs false
section
variable {κ : Ctx} {P : Program} {ρ : Env} {s s' : ES} {w : World} {N : Nat} {tm : T EV} {a : Act} {x : EV} {C : CallFn} {o : Oper}

/-! ### Types -/
theorem run_szT {t : TypeId} {n : Nat} (h : szT P t = some n) (w : World) : (sizeOf t).run P w = .ok n w := by
  unfold szT at h
  simp only [infoA_eq, undA_eq] at h
  cases hi : P.info? t with
  | none => simp [hi] at h
  | some i => simp [hi] at h; simp [sizeOf, typeInfo, hi, h]
theorem run_info {t : TypeId} {i : TypeInfo} (h : P.info? t = some i) (w : World) : (typeInfo t).run P w = .ok i w := by simp [typeInfo, h]
theorem run_und {t : TypeId} {d : TypeDesc} (h : P.underlying t = some d) (w : World) : (underlying t).run P w = .ok d w := run_underlying h w
theorem und_slT {t e : TypeId} (h : slT P t = some e) : P.underlying t = some (.slice e) := by
  unfold slT at h
  simp only [infoA_eq, undA_eq] at h
  split at h
  · rename_i h'; cases h; exact h'
  · cases h
theorem und_arrT {t : TypeId} {q : Nat × TypeId} (h : arrT P t = some q) : P.underlying t = some (.array q.1 q.2) := by
  unfold arrT at h
  simp only [infoA_eq, undA_eq] at h
  split at h
  · rename_i h'; cases h; exact h'
  · cases h
theorem und_strT {t : TypeId} (h : strT P t = true) : P.underlying t = some .string := by
  unfold strT at h
  simp only [infoA_eq, undA_eq] at h
  split at h
  · assumption
  · cases h
theorem und_intT {t : TypeId} {k : IntKind} (h : intT P t = some k) : P.underlying t = some (.int k) := by
  unfold intT at h
  simp only [infoA_eq, undA_eq] at h
  split at h
  · rename_i h'; cases h; exact h'
  · cases h
theorem run_aggT {t : TypeId} {b : Bool} (h : aggT P t = some b) (w : World) : (isAgg t).run P w = .ok b w := by
  unfold aggT at h
  simp only [infoA_eq, undA_eq] at h
  cases hu : P.underlying t with
  | none => simp [hu] at h
  | some d =>
    simp [hu] at h
    simp only [isAgg, Sem.run_bind, run_und hu, Result.andThen_ok]
    cases d <;> simp [aggD] at h <;> simp [h]
theorem und_fldT {t : TypeId} {f : Nat} {q : Nat × TypeId} (h : fldT P t f = some q) : ∃ fs y, P.underlying t = some (.struct fs) ∧ fs[f]? = some y ∧ y.offset = q.1 ∧ y.type = q.2 := by
  unfold fldT at h
  simp only [infoA_eq, undA_eq] at h
  split at h
  · rename_i fs h'
    cases hx : fs[f]? with
    | none => simp [hx] at h
    | some y => simp [hx] at h; subst h; exact ⟨fs, y, h', hx, rfl, rfl⟩
  · cases h
theorem zrT_info {t : TypeId} {z : List EV} (h : zrT P t = some z) : ∃ v, (∀ w, (zeroValue t).run P w = .ok v w) ∧ z = v.cells.toList.map .raw := by
  unfold zrT at h
  simp only [infoA_eq, undA_eq] at h
  cases hi : P.info? t with
  | none => simp [hi] at h
  | some i =>
    cases hz : i.zero with
    | none => simp [hi, hz] at h
    | some v => simp [hi, hz] at h; exact ⟨v, fun w => by simp [zeroValue, typeInfo, hi, hz], h.symm⟩

theorem cells_obj (hS : S κ P ρ s w) {b : Nat} {l : List EV} (h : cellsAt s b = some l) : ∃ e, ρ b = some e ∧ OBc ρ l e w := by
  unfold cellsAt at h
  split at h
  · rename_i l' hg; cases h; exact hS.obj _ _ hg
  · rename_i l' _ _ _ hg; cases h; exact hS.obj _ _ hg
  · cases h
theorem den_ptr {b o : Nat} {v : Value} (h : (EV.ptr b o).den ρ = some v) : ∃ e, ρ b = some e ∧ v = .pointer (some ⟨e.b, e.base + o, none⟩) := by
  simp only [EV.den, Option.map_eq_some_iff] at h
  obtain ⟨e, h1, h2⟩ := h
  exact ⟨e, h1, h2.symm⟩
theorem cell_at {e : RE} {arr : Array Value} {t : TypeId} {fz : Nat × Nat} {k : Nat} (h : w.heap[e.b]? = some (.cells arr t fz)) : w.cell? ⟨e.b, k, none⟩ = arr[k]? := by
  simp [World.cell?, h]

theorem drop_take_get {α : Type} {l : List α} {o n k : Nat} {x : α} (h : ((l.drop o).take n)[k]? = some x) : k < n ∧ l[o + k]? = some x := by
  rcases Nat.lt_or_ge k n with hk | hk
  · rw [List.getElem?_take_of_lt hk, List.getElem?_drop] at h; exact ⟨hk, h⟩
  · rw [List.getElem?_eq_none (by simp; omega)] at h; cases h
/-- A part of cells that read so. -/
theorem denL_part {l : List EV} {arr : Array Value} {base o n : Nat} (hc : CR ρ l arr base) (hn : o + n ≤ l.length) : denL ρ ((l.drop o).take n) = some ((List.range n).map fun j => arr.getD (base + o + j) undef) := by
  refine denL_mk (by simp; omega) (fun k x hk => ?_)
  obtain ⟨hkn, h1⟩ := drop_take_get hk
  obtain ⟨_, v, h2, h3⟩ := hc _ _ h1
  refine ⟨v, ?_, h3⟩
  rw [List.getElem?_map, List.getElem?_range hkn, Option.map_some, Array.getD_eq_getD_getElem?, Nat.add_assoc, h2]; rfl

theorem part_val {l : List EV} {i n : Nat} {b : Bool} (h : part l i n s b = .val x s') : s' = s ∧ ((b = true ∧ i + n ≤ l.length ∧ x = .agg ((l.drop i).take n)) ∨ (b = false ∧ l[i]? = some x)) := by
  unfold part at h
  rcases cnd_val.1 h with ⟨hb, h⟩ | ⟨hb, h⟩
  · obtain ⟨h1, h2⟩ := cnd_bad.1 h
    obtain ⟨rfl, rfl⟩ := val_inj.1 h2
    exact ⟨rfl, .inl ⟨hb, Nat.le_of_ble_eq_true h1, rfl⟩⟩
  · obtain ⟨h1, h2⟩ := vO_val.1 h
    exact ⟨h2.symm, .inr ⟨hb, h1⟩⟩

/-- A variable that is read. -/
theorem load_run {l : List EV} {e : RE} (ho : OBc ρ l e w) {t : TypeId} {b : Bool} {n i : Nat} (ha : aggT P t = some b) (hn : szT P t = some n) (h : (b = true ∧ i + n ≤ l.length ∧ x = .agg ((l.drop i).take n)) ∨ (b = false ∧ l[i]? = some x)) :
    ∃ v, (loadVar t ⟨e.b, e.base + i, none⟩).run P w = .ok v w ∧ x.den ρ = some v := by
  obtain ⟨arr, ty, fz, h1, h2, h3, h4, hc⟩ := ho
  rcases h with ⟨rfl, hle, rfl⟩ | ⟨rfl, hx⟩
  · have hcell : ∀ j, j < n → w.cell? ((⟨e.b, e.base + i, none⟩ : Addr).add j) = some (arr.getD (e.base + i + j) undef) := by
      intro j hj
      rw [Addr.add_lit, cell_at h1]
      have : l[i + j]? = some (l[i + j]'(by omega)) := List.getElem?_eq_getElem (by omega)
      obtain ⟨_, v, h5, _⟩ := hc _ _ this
      rw [Array.getD_eq_getD_getElem?, Nat.add_assoc, h5]; rfl
    refine ⟨.agg ((List.range n).map fun j => arr.getD (e.base + i + j) undef).toArray, ?_, ?_⟩
    · simp [loadVar, run_aggT ha, run_szT hn, run_loadCells (P := P) (w := w) _ n _ hcell]
    · simp only [EV.den, denL_part hc hle, Option.map_some]
  · obtain ⟨_, v, h5, h6⟩ := hc _ _ hx
    refine ⟨v, ?_, h6⟩
    simp [loadVar, run_aggT ha, cell_at h1, h5]

theorem opMove_sound (hS : S κ P ρ s w) (ht : TR ρ N tm a.tmps) {y : Operand} (ho : o.op = .move y ∨ o.op = .assign y) (h : opMove y ⟨P, C⟩ o tm s = .val x s') : DoesN κ P ρ w (execOp a.eval o) x s' := by
  obtain ⟨h1, rfl⟩ := vO_val.1 h
  have he : execOp a.eval o = pure (Next.value (a.eval y)) := by
    obtain ⟨dst, op, ty, pos, af, gd⟩ := o
    rcases ho with ho | ho <;> (cases ho; rfl)
  rw [he]
  exact ⟨ρ, w, a.eval y, .inl rfl, Env.le_refl _, hS, ev_sound ht h1⟩
theorem opPick_sound (hS : S κ P ρ s w) (ht : TR ρ N tm a.tmps) {c y z : Operand} (ho : o.op = .pick c y z) (h : opPick c y z ⟨P, C⟩ o tm s = .val x s') : DoesN κ P ρ w (execOp a.eval o) x s' := by
  obtain ⟨b, h1, h2⟩ := bR_val.1 h
  obtain ⟨v, h3, h4⟩ := bO_some.1 h1
  obtain ⟨h5, rfl⟩ := vO_val.1 h2
  have hb := asBool_some h4
  subst hb
  have hc : a.eval c = .bool b := (Option.some.inj (ev_sound ht h3)).symm
  have he : execOp a.eval o = (do pure (Next.value (if ← Go.asBool (a.eval c) then a.eval y else a.eval z))) := by
    obtain ⟨dst, op, ty, pos, af, gd⟩ := o
    cases ho; rfl
  rw [he, hc]
  refine ⟨ρ, w, if b then a.eval y else a.eval z, .inl rfl, Env.le_refl _, hS, ?_⟩
  cases b
  · exact ev_sound ht h5
  · exact ev_sound ht h5
theorem opLoad_sound (hS : S κ P ρ s w) (ht : TR ρ N tm a.tmps) {t : TypeId} {y : Operand} (ho : o.op = .load t y) (h : opLoad t y ⟨P, C⟩ o tm s = .val x s') : DoesN κ P ρ w (execOp a.eval o) x s' := by
  obtain ⟨p, h1, h⟩ := bR_val.1 h
  obtain ⟨l, h2, h⟩ := bR_val.1 h
  obtain ⟨b, h3, h⟩ := bR_val.1 h
  obtain ⟨n, h4, h⟩ := bR_val.1 h
  obtain ⟨v, h5, h6⟩ := bO_some.1 h1
  have hp := asPtr_some h6
  subst hp
  obtain ⟨rfl, hx⟩ := part_val h
  obtain ⟨e, he, hv⟩ := den_ptr (ev_sound ht h5)
  obtain ⟨e', he', hob⟩ := cells_obj hS h2
  rw [he] at he'; cases he'
  obtain ⟨u, h7, h8⟩ := load_run hob h3 h4 hx
  have hex : execOp a.eval o = (do pure (Next.value (← Instr.loadAt t (a.eval y)))) := by
    obtain ⟨dst, op, ty, pos, af, gd⟩ := o
    cases ho; rfl
  rw [hex, hv]
  exact Does.next (Does.val hS (by simp only [Instr.loadAt, Instr.sureAddr, Sem.run_bind, Sem.run_pure, Result.andThen_ok, h7]) h8)
theorem opFieldAddr_sound (hS : S κ P ρ s w) (ht : TR ρ N tm a.tmps) {t : TypeId} {y : Operand} {f : Nat} (ho : o.op = .fieldAddr t y f) (h : opFieldAddr t y f ⟨P, C⟩ o tm s = .val x s') : DoesN κ P ρ w (execOp a.eval o) x s' := by
  obtain ⟨p, h1, h⟩ := bR_val.1 h
  obtain ⟨q, h2, h⟩ := bR_val.1 h
  obtain ⟨n, h3, h⟩ := bR_val.1 h
  obtain ⟨h4, h⟩ := cnd_bad'.1 h
  obtain ⟨rfl, rfl⟩ := val_inj.1 h
  obtain ⟨v, h5, h6⟩ := bO_some.1 h1
  have hp := asPtr_some h6
  subst hp
  obtain ⟨e, he, hv⟩ := den_ptr (ev_sound ht h5)
  obtain ⟨fs, g, hu, hg, e1, e2⟩ := und_fldT h2
  have hex : execOp a.eval o = (do pure (Next.value (← Instr.fieldAt t (a.eval y) f))) := by
    obtain ⟨dst, op, ty, pos, af, gd⟩ := o
    cases ho; rfl
  have hn : ¬ n = 0 := fun e => by subst e; cases h4
  have hpl : (fieldPlace ⟨e.b, e.base + p.2, none⟩ g).run P w = .ok ((⟨e.b, e.base + p.2, none⟩ : Addr).add g.offset) w := by
    simp [fieldPlace, run_szT (e2 ▸ h3), hn]
  rw [hex, hv]
  refine Does.next (Does.val (v := .pointer (some ⟨e.b, e.base + (p.2 + q.1), none⟩)) hS ?_ ?_)
  · simp [Instr.fieldAt, Instr.sureAddr, run_und hu, hg, hpl, Addr.add_lit, e1, Nat.add_assoc]
  · simp only [EV.den, he, Option.map_some]
theorem opField_sound (hS : S κ P ρ s w) (ht : TR ρ N tm a.tmps) {t : TypeId} {y : Operand} {f : Nat} (ho : o.op = .field t y f) (h : opField t y f ⟨P, C⟩ o tm s = .val x s') : DoesN κ P ρ w (execOp a.eval o) x s' := by
  obtain ⟨l, h1, h⟩ := bR_val.1 h
  obtain ⟨q, h2, h⟩ := bR_val.1 h
  obtain ⟨b, h3, h⟩ := bR_val.1 h
  obtain ⟨n, h4, h⟩ := bR_val.1 h
  obtain ⟨v, h5, h6⟩ := bO_some.1 h1
  have hp := asAgg_some h6
  subst hp
  obtain ⟨rfl, hx⟩ := part_val h
  have hev := ev_sound ht h5
  simp only [EV.den, Option.map_eq_some_iff] at hev
  obtain ⟨vs, h7, h8⟩ := hev
  obtain ⟨fs, g, hu, hg, e1, e2⟩ := und_fldT h2
  have hlen := denL_len h7
  have hex : execOp a.eval o = (do pure (Next.value (← Instr.field t (a.eval y) f))) := by
    obtain ⟨dst, op, ty, pos, af, gd⟩ := o
    cases ho; rfl
  rw [hex, ← h8]
  rcases hx with ⟨rfl, hle, rfl⟩ | ⟨rfl, hx⟩
  · refine Does.next (Does.val (v := .agg (vs.toArray.extract q.1 (q.1 + n))) hS ?_ ?_)
    · simp only [Instr.field, Sem.run_bind, run_und hu, Result.andThen_ok, hg, Go.asAgg, Sem.run_pure, Result.andThen_ok, Go.part, e1, e2, run_aggT h3, if_true, run_szT h4]
    · have : denL ρ ((l.drop q.1).take n) = some ((vs.drop q.1).take n) := by
        refine denL_mk (by simp [hlen]) (fun k z hk => ?_)
        obtain ⟨hkn, h9⟩ := drop_take_get hk
        obtain ⟨u, h10, h11⟩ := denL_get h7 _ _ h9
        exact ⟨u, by rw [List.getElem?_take_of_lt hkn, List.getElem?_drop]; exact h10, h11⟩
      simp only [EV.den, this, Option.map_some]
      congr 2
      apply Array.ext'
      simp [List.extract_eq_take_drop]
  · obtain ⟨u, h10, h11⟩ := denL_get h7 _ _ hx
    refine Does.next (Does.val (v := u) hS ?_ h11)
    simp only [Instr.field, Sem.run_bind, run_und hu, Result.andThen_ok, hg, Go.asAgg, Sem.run_pure, Result.andThen_ok, Go.part, e1, e2, run_aggT h3, Bool.false_eq_true, if_false]
    rw [show vs.toArray[q.1]? = some u by simpa using h10]; rfl
theorem evN_some (ht : TR ρ N tm a.tmps) {i : Operand} {n : Nat} (h : evN tm i = some n) : ∃ k, a.eval i = .int k (n : Int) := by
  obtain ⟨v, h1, h2⟩ := bO_some.1 h
  obtain ⟨k, rfl⟩ := asNat_some h2
  exact ⟨k, (Option.some.inj (ev_sound ht h1)).symm⟩
theorem den_sl {b i sz n : Nat} {c : Option Nat} {v : Value} (h : (EV.sl b i sz n c).den ρ = some v) : ∃ e, ρ b = some e ∧ e.sz = sz ∧ (c = none → i + n ≤ e.cap) ∧ v = .slice (some ⟨e.b, e.base + i * sz, none⟩) n (c.getD (e.cap - i)) := by
  simp only [EV.den, Option.bind_eq_some_iff] at h
  obtain ⟨e, h1, h2⟩ := h
  split at h2
  · rename_i h3; cases h2; exact ⟨e, h1, h3.1, h3.2, rfl⟩
  · cases h2
theorem ble_le {m n : Nat} (h : Nat.ble m n = true) : m ≤ n := Nat.le_of_ble_eq_true h
theorem blt_lt {m n : Nat} (h : Nat.blt m n = true) : m < n := Nat.blt_eq.mp h
theorem beq_n {m n : Nat} (h : Nat.beq m n = true) : m = n := Nat.eq_of_beq_eq_true h
theorem opIndexAddr_sound (hS : S κ P ρ s w) (ht : TR ρ N tm a.tmps) {t : TypeId} {y i : Operand} (ho : o.op = .indexAddr t y i) (h : opIndexAddr t y i ⟨P, C⟩ o tm s = .val x s') : DoesN κ P ρ w (execOp a.eval o) x s' := by
  obtain ⟨v, h1, h⟩ := bR_val.1 h
  obtain ⟨n, h2, h⟩ := bR_val.1 h
  obtain ⟨k, hk⟩ := evN_some ht h2
  have hev := ev_sound ht h1
  have hex : execOp a.eval o = (do pure (Next.value (← Instr.indexAt t (a.eval y) (a.eval i)))) := by
    obtain ⟨dst, op, ty, pos, af, gd⟩ := o
    cases ho; rfl
  rw [hex, hk]
  cases v with
  | sl b j sz m c =>
    obtain ⟨e, h3, h⟩ := bR_val.1 h
    obtain ⟨sz', h4, h⟩ := bR_val.1 h
    obtain ⟨h5, h⟩ := cnd_bad.1 h
    obtain ⟨h5, h6⟩ := band.1 h5
    have h5 := beq_n h5
    have h6 := blt_lt h6
    obtain ⟨rfl, rfl⟩ := val_inj.1 h
    subst h5
    obtain ⟨r, hr, hsz, hcap, hv⟩ := den_sl hev
    rw [hv]
    refine Does.next (Does.val (v := .pointer (some ⟨r.b, r.base + (j + n) * sz, none⟩)) hS ?_ ?_)
    · have e1 : r.base + j * sz + n * sz = r.base + (j + n) * sz := by rw [Nat.add_mul]; omega
      simp [Instr.indexAt, asIntOf, run_und (und_slT h3), run_szT h4, h6, Addr.add_lit, e1]
    · simp only [EV.den, hr, Option.map_some]
  | ptr b j =>
    obtain ⟨q, h3, h⟩ := bR_val.1 h
    obtain ⟨sz, h4, h⟩ := bR_val.1 h
    obtain ⟨h5, h⟩ := cnd_bad.1 h
    have h5 := blt_lt h5
    obtain ⟨rfl, rfl⟩ := val_inj.1 h
    obtain ⟨e, he, hv⟩ := den_ptr hev
    rw [hv]
    refine Does.next (Does.val (v := .pointer (some ⟨e.b, e.base + (j + n * sz), none⟩)) hS ?_ ?_)
    · simp [Instr.indexAt, Instr.sureAddr, asIntOf, run_und (und_arrT h3), run_szT h4, h5, Addr.add_lit, Nat.add_assoc]
    · simp only [EV.den, he, Option.map_some]
  | _ => cases h
theorem optRec_val {α : Type} {o' : Option α} {r : RO} {f : α → RO} {y : EV} {t : ES} (h : (Option.rec r f o' : RO) = .val y t) : (o' = none ∧ r = .val y t) ∨ ∃ z, o' = some z ∧ f z = .val y t := by
  cases o' with
  | none => exact .inl ⟨rfl, h⟩
  | some z => exact .inr ⟨z, rfl, h⟩
theorem pureR (hS : S κ P ρ s w) (ht : TR ρ N tm a.tmps) (hsel : ∀ cs b, o.op ≠ .select cs b) (h : vO s (pureOp P tm o) = .val x s') : DoesN κ P ρ w (execOp a.eval o) x s' := by
  obtain ⟨h1, rfl⟩ := vO_val.1 h
  exact pure_sound hS ht hsel h1
theorem str_get {v : ByteArray} {n : Nat} {c : UInt8} (h : v.data.toList[n]? = some c) : v[n]? = some c := by
  have hn : n < v.size := by
    rcases Nat.lt_or_ge n v.size with h1 | h1
    · exact h1
    · rw [List.getElem?_eq_none (by rw [Array.length_toList]; exact h1)] at h; cases h
  rw [getElem?_pos v n hn]
  rw [List.getElem?_eq_getElem (by rw [Array.length_toList]; exact hn)] at h
  exact h
theorem opIndex_sound (hS : S κ P ρ s w) (ht : TR ρ N tm a.tmps) {t : TypeId} {y i : Operand} (ho : o.op = .index t y i) (h : opIndex t y i ⟨P, C⟩ o tm s = .val x s') : DoesN κ P ρ w (execOp a.eval o) x s' := by
  rcases optRec_val h with ⟨_, h⟩ | ⟨v, h1, h⟩
  · exact pureR hS ht (by rw [ho]; simp) h
  · obtain ⟨n, h2, h⟩ := bR_val.1 h
    obtain ⟨h3, h⟩ := cnd_bad.1 h
    obtain ⟨c, h4, h⟩ := bR_val.1 h
    obtain ⟨rfl, rfl⟩ := val_inj.1 h
    obtain ⟨u, h5, h6⟩ := bO_some.1 h1
    have hu := asStr_some h6
    subst hu
    obtain ⟨k, hk⟩ := evN_some ht h2
    have hy : a.eval y = .string v := (Option.some.inj (ev_sound ht h5)).symm
    have hex : execOp a.eval o = (do pure (Next.value (← Instr.index t (a.eval y) (a.eval i)))) := by
      obtain ⟨dst, op, ty, pos, af, gd⟩ := o
      cases ho; rfl
    rw [hex, hk, hy]
    refine Does.next (Does.val (v := .int .u8 (c.toNat : Int)) hS ?_ rfl)
    simp [Instr.index, asIntOf, run_und (und_strT h3), str_get h4]
theorem opNilCheck_sound (hS : S κ P ρ s w) (ht : TR ρ N tm a.tmps) {y : Operand} (ho : o.op = .nilCheck y) (h : opNilCheck y ⟨P, C⟩ o tm s = .val x s') : DoesN κ P ρ w (execOp a.eval o) x s' := by
  obtain ⟨v, h1, h⟩ := bR_val.1 h
  obtain ⟨h2, h⟩ := cnd_bad.1 h
  obtain ⟨rfl, rfl⟩ := val_inj.1 h
  have hev := ev_sound ht h1
  have key : ∀ u, a.eval y = u → (∃ q, u = .pointer (some q)) ∨ (∃ f b c, u = .func (.func f) b c) ∨ (∃ f b c, u = .func (.yield f) b c) → execOp a.eval o = pure (Next.value (a.eval y)) := by
    intro u hu hq
    obtain ⟨dst, op, ty, pos, af, gd⟩ := o
    cases ho
    simp only [execOp]
    rcases hq with ⟨q, rfl⟩ | ⟨f, b, c, rfl⟩ | ⟨f, b, c, rfl⟩ <;> rw [hu]
  refine ⟨ρ, w, a.eval y, .inl ?_, Env.le_refl _, hS, hev⟩
  rw [key _ rfl]
  · rfl
  · cases v <;> first | cases h2 | skip
    · obtain ⟨e, _, hv⟩ := den_ptr hev; exact .inl ⟨_, hv⟩
    · simp only [EV.den] at hev
      split at hev
      · exact .inr (.inl ⟨_, _, _, (Option.some.inj hev).symm⟩)
      · cases hev
    · simp only [EV.den, Option.map_eq_some_iff] at hev
      obtain ⟨e, _, hv⟩ := hev
      exact .inr (.inr ⟨_, _, _, hv.symm⟩)
theorem opMakeFunc_sound (hS : S κ P ρ s w) (ht : TR ρ N tm a.tmps) {fn : Fn} {p q : Array Operand} (ho : o.op = .makeFunc fn p q) (h : opMakeFunc fn p q ⟨P, C⟩ o tm s = .val x s') : DoesN κ P ρ w (execOp a.eval o) x s' := by
  cases fn <;> first | (cases h; done) | skip
  rename_i f
  obtain ⟨us, h1, h⟩ := bR_val.1 h
  obtain ⟨vs, h2, h⟩ := bR_val.1 h
  obtain ⟨rfl, rfl⟩ := val_inj.1 h
  have e1 := evs_sound ht h1
  have e2 := evs_sound ht h2
  have hex : execOp a.eval o = (do pure (Next.value (← Instr.makeFunc (.func f) (p.map a.eval) (q.map a.eval)))) := by
    obtain ⟨dst, op, ty, pos, af, gd⟩ := o
    cases ho; rfl
  rw [hex]
  refine Does.next (Does.val (v := .func (.func f) (p.map a.eval) (q.map a.eval)) hS rfl ?_)
  simp only [EV.den, e1, e2]
  congr 2 <;> (apply Array.ext'; simp)
theorem ifcT_run {t : TypeId} {b : Bool} (h : ifcT P t = some b) : ∃ d, P.underlying t = some d ∧ ((b = true) ↔ ∃ m, d = .interface m) := by
  unfold ifcT at h
  simp only [infoA_eq, undA_eq] at h
  cases hu : P.underlying t with
  | none => rw [hu] at h; cases h
  | some d =>
    rw [hu] at h
    refine ⟨d, rfl, ?_⟩
    cases d <;> simp at h <;> subst h <;> simp
theorem opMakeIface_sound (hS : S κ P ρ s w) (ht : TR ρ N tm a.tmps) {t : TypeId} {y : Operand} (ho : o.op = .makeInterface t y) (h : opMakeIface t y ⟨P, C⟩ o tm s = .val x s') : DoesN κ P ρ w (execOp a.eval o) x s' := by
  obtain ⟨v, h1, h⟩ := bR_val.1 h
  obtain ⟨b, h2, h⟩ := bR_val.1 h
  obtain ⟨hb, h⟩ := cnd_bad'.1 h
  obtain ⟨rfl, rfl⟩ := val_inj.1 h
  obtain ⟨d, hu, hd⟩ := ifcT_run h2
  have hex : execOp a.eval o = (do pure (Next.value (← Instr.makeInterface t (a.eval y)))) := by
    obtain ⟨dst, op, ty, pos, af, gd⟩ := o
    cases ho; rfl
  rw [hex]
  refine Does.next (Does.val (v := .iface t (a.eval y)) hS ?_ ?_)
  · simp only [Instr.makeInterface, Sem.run_bind, run_und hu, Result.andThen_ok]
    cases d <;> first | rfl | (rename_i m; exact absurd (hd.2 ⟨m, rfl⟩) (by rw [hb]; decide))
  · simp only [EV.den, ev_sound ht h1, Option.map_some]
theorem opAssert_sound (hS : S κ P ρ s w) (ht : TR ρ N tm a.tmps) {y : Operand} {xt at_ : TypeId} {ok : Bool} (ho : o.op = .typeAssert y xt at_ ok) (h : opAssert y xt at_ ok ⟨P, C⟩ o tm s = .val x s') : DoesN κ P ρ w (execOp a.eval o) x s' := by
  obtain ⟨p, h1, h⟩ := bR_val.1 h
  obtain ⟨b, h2, h⟩ := bR_val.1 h
  obtain ⟨h3, h⟩ := cnd_bad.1 h
  obtain ⟨h3, h4⟩ := band.1 h3
  have h4 := beq_n h4
  obtain ⟨rfl, rfl⟩ := val_inj.1 h
  obtain ⟨v, h5, h6⟩ := bO_some.1 h1
  have hp := asIfc_some h6
  subst hp
  have hev := ev_sound ht h5
  simp only [EV.den, Option.map_eq_some_iff] at hev
  obtain ⟨u, h7, h8⟩ := hev
  obtain ⟨d, hu, hd⟩ := ifcT_run h2
  have hex : execOp a.eval o = (do pure (Next.value (← Instr.typeAssert (a.eval y) xt at_ ok))) := by
    obtain ⟨dst, op, ty, pos, af, gd⟩ := o
    cases ho; rfl
  rw [hex, ← h8]
  have hb : b = false := by simpa using h3
  refine Does.next (Does.val (v := if ok then .tuple #[u, .bool true] else u) hS ?_ ?_)
  · simp only [Instr.typeAssert, Sem.run_bind, run_und hu, Result.andThen_ok]
    cases d <;> first | (rename_i m; exact absurd (hd.2 ⟨m, rfl⟩) (by rw [hb]; decide)) | simp only [h4, if_true, Sem.run_pure]
  · cases ok
    · exact h7
    · show (EV.tup [p.2, .raw (.bool true)]).den ρ = _
      simp only [EV.den, denL, h7, Option.map_some]; rfl
theorem opExtract_sound (hS : S κ P ρ s w) (ht : TR ρ N tm a.tmps) {y : Operand} {i : Nat} (ho : o.op = .extract y i) (h : opExtract y i ⟨P, C⟩ o tm s = .val x s') : DoesN κ P ρ w (execOp a.eval o) x s' := by
  rcases optRec_val h with ⟨_, h⟩ | ⟨l, h1, h⟩
  · exact pureR hS ht (by rw [ho]; simp) h
  · obtain ⟨h2, rfl⟩ := vO_val.1 h
    obtain ⟨v, h3, h4⟩ := bO_some.1 h1
    have hv := asTup_some h4
    subst hv
    have hev := ev_sound ht h3
    simp only [EV.den, Option.map_eq_some_iff] at hev
    obtain ⟨vs, h5, h6⟩ := hev
    obtain ⟨u, h7, h8⟩ := denL_get h5 _ _ h2
    have hex : execOp a.eval o = (do pure (Next.value (← Instr.extract (a.eval y) i))) := by
      obtain ⟨dst, op, ty, pos, af, gd⟩ := o
      cases ho; rfl
    rw [hex, ← h6]
    refine Does.next (Does.val (v := u) hS ?_ h8)
    simp [Instr.extract, h7]
theorem opUn_sound (hS : S κ P ρ s w) (ht : TR ρ N tm a.tmps) {op : UnOp} {t : TypeId} {y : Operand} (ho : o.op = .unOp op t y) (h : opUn op t y ⟨P, C⟩ o tm s = .val x s') : DoesN κ P ρ w (execOp a.eval o) x s' := by
  cases op with
  | not =>
    obtain ⟨b, h1, h⟩ := bR_val.1 h
    obtain ⟨rfl, rfl⟩ := val_inj.1 h
    obtain ⟨v, h3, h4⟩ := bO_some.1 h1
    have hv := asBool_some h4
    subst hv
    have hy : a.eval y = .bool b := (Option.some.inj (ev_sound ht h3)).symm
    have hex : execOp a.eval o = (do pure (Next.value (← Op.unary .not (a.eval y)))) := by
      obtain ⟨dst, op, ty, pos, af, gd⟩ := o
      cases ho; rfl
    rw [hex, hy]
    exact Does.next (Does.val (v := .bool (!b)) hS rfl rfl)
  | _ => exact pureR hS ht (by rw [ho]; simp) h
end
end Go.Eva
