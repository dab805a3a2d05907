/-
  An evaluator of calls at closed inputs, part f: what an operation comes to, the machine comes to: operations that turn nothing.
-/
import Derived.Test.YtmeijmmfkgpamaaGreatEe
import Derived.OrdersIn
namespace Go.Eva
open Go.RowKit
set_option linter.unusedVariables false
set_option linter.unusedSimpArgs false

/-! ### What a computation of the evaluator came to -/
theorem bO_some {α β : Type} {o : Option α} {f : α → Option β} {y : β} : bO o f = some y ↔ ∃ x, o = some x ∧ f x = some y := by
  cases o with
  | none => exact ⟨fun h => (by cases h), fun ⟨x, h, _⟩ => (by cases h)⟩
  | some x => exact ⟨fun h => ⟨x, rfl, h⟩, fun ⟨_, h, h2⟩ => (by cases h; exact h2)⟩
theorem bR_val {α : Type} {o : Option α} {f : α → RO} {x : EV} {s : ES} : bR o f = .val x s ↔ ∃ y, o = some y ∧ f y = .val x s := by
  cases o with
  | none => exact ⟨fun h => (by cases h), fun ⟨x, h, _⟩ => (by cases h)⟩
  | some x => exact ⟨fun h => ⟨x, rfl, h⟩, fun ⟨_, h, h2⟩ => (by cases h; exact h2)⟩
theorem vO_val {s s' : ES} {o : Option EV} {x : EV} : vO s o = .val x s' ↔ o = some x ∧ s = s' := by
  cases o with
  | none => exact ⟨fun h => (by cases h), fun ⟨h, _⟩ => (by cases h)⟩
  | some y => exact ⟨fun h => (by cases h; exact ⟨rfl, rfl⟩), fun ⟨h, h2⟩ => (by cases h; cases h2; rfl)⟩
theorem cnd_bad {b : Bool} {r : RO} {x : EV} {s : ES} : cnd b r .bad = .val x s ↔ b = true ∧ r = .val x s := by cases b <;> simp [cnd]
theorem cnd_bad' {b : Bool} {r : RO} {x : EV} {s : ES} : cnd b .bad r = .val x s ↔ b = false ∧ r = .val x s := by cases b <;> simp [cnd]
theorem cnd_none {α : Type} {b : Bool} {r : Option α} {x : α} : cnd b r none = some x ↔ b = true ∧ r = some x := by cases b <;> simp [cnd]
theorem cnd_val {b : Bool} {r q : RO} {x : EV} {s : ES} : cnd b r q = .val x s ↔ (b = true ∧ r = .val x s) ∨ (b = false ∧ q = .val x s) := by cases b <;> simp [cnd]
theorem val_inj {x y : EV} {s t : ES} : RO.val x s = RO.val y t ↔ x = y ∧ s = t := by simp
theorem band {a b : Bool} : (a && b) = true ↔ a = true ∧ b = true := Bool.and_eq_true_iff

theorem asPtr_some {x : EV} {p : Nat × Nat} (h : asPtr x = some p) : x = .ptr p.1 p.2 := by cases x <;> simp [asPtr] at h; subst h; rfl
theorem asAgg_some {x : EV} {l : List EV} (h : asAgg x = some l) : x = .agg l := by cases x <;> simp [asAgg] at h; subst h; rfl
theorem asTup_some {x : EV} {l : List EV} (h : asTup x = some l) : x = .tup l := by cases x <;> simp [asTup] at h; subst h; rfl
theorem asBool_some {x : EV} {b : Bool} (h : asBool x = some b) : x = .raw (.bool b) := by
  cases x <;> simp [asBool] at h
  rename_i v; cases v <;> simp [vBool] at h; subst h; rfl
theorem asStr_some {x : EV} {b : ByteArray} (h : asStr x = some b) : x = .raw (.string b) := by
  cases x <;> simp [asStr] at h
  rename_i v; cases v <;> simp [vStr] at h; subst h; rfl
theorem asInt_some {x : EV} {p : IntKind × Int} (h : asInt x = some p) : x = .raw (.int p.1 p.2) := by
  cases x <;> simp [asInt] at h
  rename_i v; cases v <;> simp [vInt] at h; subst h; rfl
theorem asNat_some {x : EV} {n : Nat} (h : asNat x = some n) : ∃ k, x = .raw (.int k (n : Int)) := by
  cases x with
  | raw v =>
    cases v <;> simp only [asNat, reduceCtorEq] at h
    rename_i k i
    cases i with
    | ofNat m => simp [natI] at h; subst h; exact ⟨k, rfl⟩
    | negSucc m => simp [natI] at h
  | _ => simp [asNat] at h
theorem asIfc_some {x : EV} {p : TypeId × EV} (h : asIfc x = some p) : x = .ifc p.1 p.2 := by cases x <;> simp [asIfc] at h; subst h; rfl

theorem ofV_den (ρ : Env) (v : Value) : (ofV v).den ρ = some v := by
  have key : ∀ l : List Value, denL ρ (l.map .raw) = some l := by
    intro l
    induction l with
    | nil => rfl
    | cons v r ih => exact denL_cons.2 ⟨v, r, rfl, ih, rfl⟩
  cases v <;> first | rfl | (rename_i cs; show (EV.agg (cs.toList.map .raw)).den ρ = _; simp only [EV.den, key, Option.map_some, Array.toArray_toList])

section
variable {κ : Ctx} {P : Program} {ρ : Env} {s s' : ES} {w : World} {N : Nat} {tm : T EV} {a : Act} {x : EV}

theorem ev_sound (ht : TR ρ N tm a.tmps) {o : Operand} {y : EV} (h : ev tm o = some y) : y.den ρ = some (a.eval o) := by
  cases o with
  | tmp k =>
    obtain ⟨v, h1, h2⟩ := ht.get k y h
    rw [h2]
    show some v = some (a.tmps.getD k undef)
    rw [Array.getD_eq_getD_getElem?, h1]; rfl
  | const v => cases (h : some (ofV v) = some y); exact ofV_den ρ v
  | global g => cases h
  | func f => cases (h : some (EV.fn f [] []) = some y); rfl
theorem evs_sound (ht : TR ρ N tm a.tmps) : ∀ {l : List Operand} {ys : List EV}, evs tm l = some ys → denL ρ ys = some (l.map a.eval)
  | [], ys, h => by cases (h : some [] = some ys); rfl
  | o :: r, ys, h => by
    have h' : (bO (ev tm o) fun v => bO (evs tm r) fun vs => some (v :: vs)) = some ys := h
    obtain ⟨v, h1, h2⟩ := bO_some.1 h'
    obtain ⟨vs, h3, h4⟩ := bO_some.1 h2
    cases h4
    exact denL_cons.2 ⟨_, _, ev_sound ht h1, evs_sound ht h3, rfl⟩

/-- A computation comes to a value that reads so, in a world that reads so. -/
def Does (κ : Ctx) (P : Program) (ρ : Env) (w : World) (sem : Sem Value) (x : EV) (s' : ES) : Prop :=
  ∃ ρ' w' v, sem.run P w = .ok v w' ∧ ρ.le ρ' ∧ S κ P ρ' s' w' ∧ x.den ρ' = some v
theorem Does.val (hS : S κ P ρ s w) {sem : Sem Value} {v : Value} (h : sem.run P w = .ok v w) (hx : x.den ρ = some v) : Does κ P ρ w sem x s := ⟨ρ, w, v, h, Env.le_refl _, hS, hx⟩
/-- An operation: its value, or nothing. -/
def DoesN (κ : Ctx) (P : Program) (ρ : Env) (w : World) (sem : Sem Next) (x : EV) (s' : ES) : Prop :=
  ∃ ρ' w' v, (sem.run P w = Result.ok (Next.value v) w' ∨ (sem.run P w = Result.ok Next.skip w' ∧ v = undef)) ∧ ρ.le ρ' ∧ S κ P ρ' s' w' ∧ x.den ρ' = some v
theorem Does.next {sem : Sem Value} (h : Does κ P ρ w sem x s') : DoesN κ P ρ w (do pure (Next.value (← sem))) x s' := by
  obtain ⟨ρ', w', v, h1, h2⟩ := h
  exact ⟨ρ', w', v, .inl (by rw [Sem.run_bind, h1]; rfl), h2⟩

theorem pv_run {α : Type} : ∀ (sem : Sem α) (y : α), pv P sem = some y → ∀ w, sem.run P w = .ok y w
  | .pure a, y, h, w => by cases (h : some a = some y); rfl
  | .program k, y, h, w => pv_run (k P) y h w
  | .mark _ k, y, h, w => pv_run k y h w
  | .load .., y, h, w => by cases h
  | .store .., y, h, w => by cases h
  | .new .., y, h, w => by cases h
  | .shape .., y, h, w => by cases h
  | .freeze .., y, h, w => by cases h
  | .frozen .., y, h, w => by cases h
  | .getObj .., y, h, w => by cases h
  | .setObj .., y, h, w => by cases h
  | .choose .., y, h, w => by cases h
  | .sys .., y, h, w => by cases h
  | .halt .., y, h, w => by cases h

theorem pure_sound (hS : S κ P ρ s w) (ht : TR ρ N tm a.tmps) {o : Oper} (hsel : ∀ cs b, o.op ≠ .select cs b) (h : pureOp P tm o = some x) : DoesN κ P ρ w (execOp a.eval o) x s := by
  unfold pureOp at h
  obtain ⟨hf, h⟩ := cnd_none.1 h
  have hr : execOp (rho tm) o = execOp a.eval o := by
    refine execOp_congr o hsel (fun y hy => ?_)
    have := List.all_eq_true.1 hf y (by simpa using hy)
    unfold rho
    cases he : ev tm y with
    | none => rw [he] at this; cases this
    | some z =>
      rw [he] at this
      simp only at this
      obtain ⟨v, hv⟩ := Option.isSome_iff_exists.1 this
      have h1 := (toV_den (ρ := ρ)).1 z v hv
      have h2 := ev_sound ht he
      rw [h1] at h2
      simp only [hv, Option.getD_some]
      exact Option.some.inj h2
  rw [hr] at h
  cases hp : pv P (execOp a.eval o) with
  | none => rw [hp] at h; cases h
  | some nx =>
    rw [hp] at h
    cases nx <;> first | (cases h; done) | skip
    rename_i v
    cases h
    exact ⟨ρ, w, v, .inl (pv_run _ _ hp w), Env.le_refl _, hS, rfl⟩

/-! ### Numbers, texts, comparisons -/
theorem kindEq_eq {a b : IntKind} (h : kindEq a b = true) : a = b := by cases a <;> cases b <;> first | rfl | cases h
theorem iLt_eq (a b : Int) : iLt a b = decide (a < b) := by
  cases a <;> cases b <;> simp only [iLt, Nat.blt_eq] <;> (rw [Bool.eq_iff_iff]; simp [Nat.blt_eq]) <;> omega
theorem iEq_eq (a b : Int) : iEq a b = (a == b) := by
  rw [Bool.eq_iff_iff]
  cases a <;> cases b <;> simp [iEq, Nat.beq_eq] <;> omega
theorem wrapI_eq (k : IntKind) (n : Int) : wrapI k n = k.wrap n := by
  unfold wrapI
  rw [cnd_eq]
  split
  · rename_i hk
    have hk : k = .i64 := by cases k <;> first | rfl | cases hk
    subst hk
    have hw : ∀ n : Int, -9223372036854775808 ≤ n → n ≤ 9223372036854775807 → IntKind.i64.wrap n = n := by
      intro n h1 h2
      rw [IntKind.wrap_i64] <;> omega
    cases n with
    | ofNat m =>
      simp only [cnd_eq]
      split
      · rename_i h
        have := Nat.blt_eq.mp h
        rw [hw] <;> simp <;> omega
      · rfl
    | negSucc m =>
      simp only [cnd_eq]
      split
      · rename_i h
        have := Nat.blt_eq.mp h
        rw [hw] <;> omega
      · rfl
  · rfl
theorem iAdd_eq (a b : Int) : iAdd a b = a + b := by cases a <;> cases b <;> rfl
theorem iSub_eq (a b : Int) : iSub a b = a - b := by
  cases a <;> cases b <;> first | rfl | skip
  rename_i m n
  simp only [iSub, cnd_eq]
  split
  · rename_i h
    have := Nat.le_of_ble_eq_true h
    show ((m - n : Nat) : Int) = (m : Int) - (n : Int)
    omega
  · rfl
theorem intTab_run {op : BinOp} {k : IntKind} {i j : Int} {v : Value} (h : intTab op k i j = some v) (t : TypeId) (w : World) : (binOp op t (.int k i) (.int k j)).run P w = .ok v w := by
  cases op <;> simp only [intTab, Option.some.injEq, reduceCtorEq] at h <;> subst h <;>
    simp only [binOp, ne_eq, not_true_eq_false, if_false, Op.intArith, Op.intCmp, Sem.run_pure, wrapI_eq, iAdd_eq, iSub_eq, iEq_eq, iLt_eq] <;> first | rfl | skip
  all_goals
    congr 2
    first
    | (rw [Bool.eq_iff_iff]; simp; done)
    | (rw [Bool.eq_iff_iff]; simp; omega)
end
end Go.Eva
