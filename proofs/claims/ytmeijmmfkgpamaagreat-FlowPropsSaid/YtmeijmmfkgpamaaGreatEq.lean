/-
  An evaluator of calls at closed inputs, part q: what is called; one operation.
-/
import Derived.Test.YtmeijmmfkgpamaaGreatEp
namespace Go.Eva
open Go.RowKit
set_option linter.unusedVariables false
set_option linter.unusedSimpArgs false
section
variable {κ : Ctx} {P : Program} {ρ : Env} {s s' : ES} {w : World} {N : Nat} {tm : T EV} {a : Act} {x : EV} {C : CallFn} {o : Oper} {rd : Option Nat}

/-- How a call may end: with a value; with a panic. -/
def KE (K Kp : Value → World → Prop) : Ending → World → Prop
  | .returned v, w => K v w
  | .panicked ch, w => ∃ v, ch = [{ v, recovered := false }] ∧ Kp v w
  | .outgrown, _ => False
def InvkR (P : Program) (K Kp : Value → World → Prop) : Result Next → Prop
  | .ok (.value v) w => K v w
  | .ok (.enter f args) w => CallsIn (EF P none) 0 P f args w (KE K Kp)
  | .ok (.round l f tmps assign body) w => RoundIn (EF P none) 0 P l f tmps assign body w (KE K Kp)
  | _ => False
/-- A value is called. -/
def Invk (P : Program) (fv : Value) (vs : Array Value) (w : World) (K Kp : Value → World → Prop) : Prop :=
  (∀ d w', (Deferred.ofValue fv vs).run P w = .ok d w' → ∀ f, d.target.leads P w' d.args = some f → (EF P none).fn f) ∧
  InvkR P K Kp ((do let d ← Deferred.ofValue fv vs; invoke d.target d.args : Sem Next).run P w)
theorem KE.mono {K Kp K' Kp' : Value → World → Prop} (h1 : ∀ v w, K v w → K' v w) (h2 : ∀ v w, Kp v w → Kp' v w) : ∀ e w, KE K Kp e w → KE K' Kp' e w := by
  intro e w h
  cases e with
  | returned v => exact h1 _ _ h
  | panicked ch => obtain ⟨v, e, h⟩ := h; exact ⟨v, e, h2 _ _ h⟩
  | outgrown => exact h
theorem Invk.mono {fv : Value} {vs : Array Value} {K Kp K' Kp' : Value → World → Prop} (h : Invk P fv vs w K Kp) (h1 : ∀ v w, K v w → K' v w) (h2 : ∀ v w, Kp v w → Kp' v w) : Invk P fv vs w K' Kp' := by
  refine ⟨h.1, ?_⟩
  have h := h.2
  generalize (do let d ← Deferred.ofValue fv vs; invoke d.target d.args : Sem Next).run P w = r at *
  cases r with
  | halt x w' => exact h.elim
  | ok x w' =>
    cases x <;> first | exact h1 _ _ h | exact CallsIn.mono h (KE.mono h1 h2) | exact RoundIn.mono h (KE.mono h1 h2) | exact h.elim
/-- A value that reads so, in a world that reads so. -/
def Fine (κ : Ctx) (P : Program) (ρ : Env) (x : EV) (s' : ES) (v : Value) (w : World) : Prop := ∃ ρ', ρ.le ρ' ∧ S κ P ρ' s' w ∧ x.den ρ' = some v
/-- What calls come to is what they come to. -/
def CSound (κ : Ctx) (P : Program) (C : CallFn) : Prop := ∀ (ρ : Env) (s : ES) (w : World) (f : EV) (xs : List EV) (fv : Value) (vs : List Value), S κ P ρ s w → f.den ρ = some fv → denL ρ xs = some vs →
  (∀ x s', C f xs s = .val x s' → Invk P fv vs.toArray w (Fine κ P ρ x s') fun _ _ => False) ∧ (∀ x s', C f xs s = .pan x s' → Invk P fv vs.toArray w (fun _ _ => False) (Fine κ P ρ x s'))

theorem callsIn_rd {n : Nat} {f : FuncId} {args : Array Value} {R : Ending → World → Prop} (h : CallsIn (EF P none) n P f args w R) : CallsIn (EF P rd) n P f args w R := h
theorem roundIn_rd {n l : Nat} {f : FuncId} {tmps : Array Value} {as b : Code} {R : Ending → World → Prop} (h : RoundIn (EF P none) n P l f tmps as b w R) : RoundIn (EF P rd) n P l f tmps as b w R := h

/-! ### One operation -/
theorem does_wp {K : Act → World → Prop} {Q : Exit → Act → World → Prop} (hab : ∀ f, o.about P w a.eval = some f → (EF P rd).fn f) (hdef : ∀ c, o.op ≠ .defer c) (h : DoesN κ P ρ w (execOp a.eval o) x s')
    (hK : ∀ v w', Fine κ P ρ x s' v w' → K (a.put o.dst v) w') : o.wpIn (EF P rd) 0 P a w K Q := by
  refine ⟨hab, ?_⟩
  rw [Oper.semAt_eq _ _ _ hdef]
  obtain ⟨ρ', w', v, h1, h2, h3, h4⟩ := h
  rcases h1 with h1 | ⟨h1, rfl⟩
  · rw [h1]; exact hK v w' ⟨ρ', h2, h3, h4⟩
  · rw [h1]; exact hK undef w' ⟨ρ', h2, h3, h4⟩
theorem about_none (h : ∀ c, o.op ≠ .call c) : o.about P w a.eval = none := by
  unfold Oper.about
  cases ho : o.op <;> first | rfl | exact absurd ho (h _)
theorem call_wp {K : Act → World → Prop} {Q : Exit → Act → World → Prop} {c : Call} {g : Operand} (ho : o.op = .call c) (hc : c.callee = .value g) {K1 Kp : Value → World → Prop} (h : Invk P (a.eval g) (c.args.map a.eval) w K1 Kp)
    (hK : ∀ v w', K1 v w' → K (a.put o.dst v) w') (hQ : ∀ v w', Kp v w' → Q (.panic [{ v, recovered := false }]) a w') : o.wpIn (EF P rd) 0 P a w K Q := by
  have hex : execOp a.eval o = (do let d ← Deferred.ofValue (a.eval g) (c.args.map a.eval); invoke d.target d.args) := by
    obtain ⟨dst, op, ty, pos, af, gd⟩ := o
    cases ho
    obtain ⟨ce, args, ats⟩ := c
    cases hc
    rfl
  refine ⟨fun f hf => ?_, ?_⟩
  · have hab : o.about P w a.eval = match (Deferred.ofValue (a.eval g) (c.args.map a.eval)).run P w with | .ok d w' => d.target.leads P w' d.args | .halt _ _ => none := by
      unfold Oper.about
      rw [ho]
      obtain ⟨ce, args, ats⟩ := c
      cases hc
      rfl
    rw [hab] at hf
    cases hr : (Deferred.ofValue (a.eval g) (c.args.map a.eval)).run P w with
    | ok d w' => rw [hr] at hf; exact h.1 d w' hr f hf
    | halt _ _ => rw [hr] at hf; cases hf
  · rw [Oper.semAt_eq _ _ _ (by rw [ho]; simp), hex]
    have h2 := h.2
    generalize (do let d ← Deferred.ofValue (a.eval g) (c.args.map a.eval); invoke d.target d.args : Sem Next).run P w = r at *
    have conv : ∀ e w', KE K1 Kp e w' → (match e, w' with
        | .returned v, w'' => K (a.put o.dst v) w''
        | .panicked chain, w'' => Q (.panic chain) a w''
        | .outgrown, _ => LetsOut Q) := by
      intro e w' he
      cases e with
      | returned v => exact hK _ _ he
      | panicked ch => obtain ⟨v, rfl, he⟩ := he; exact hQ _ _ he
      | outgrown => exact he.elim
    cases r with
    | halt y w' => exact h2.elim
    | ok y w' =>
      cases y <;> first
        | exact hK _ _ h2
        | exact ⟨fun h => (by cases h), callsIn_rd (CallsIn.mono h2 conv)⟩
        | exact ⟨fun h => (by cases h), roundIn_rd (RoundIn.mono h2 conv)⟩
        | exact h2.elim
theorem onlyC_val {r : RO} {x : EV} {s s' : ES} (h : Ans (onlyC r) x s s') : r = .val x s' := by
  cases r <;> first | exact Ans.bad h | skip
  · obtain ⟨rfl, rfl⟩ := Ans.val h; rfl
  · rcases h with h | ⟨h, _⟩ <;> cases h
theorem evs_arr (ht : TR ρ N tm a.tmps) {l : Array Operand} {ys : List EV} (h : evs tm l.toList = some ys) : denL ρ ys = some (l.map a.eval).toList := by
  rw [Array.toList_map]; exact evs_sound ht h
/-- An operation that comes to a value. -/
theorem opTab_val (hC : CSound κ P C) (hS : S κ P ρ s w) (ht : TR ρ N tm a.tmps) {K : Act → World → Prop} {Q : Exit → Act → World → Prop} (h : Ans (opTab o.op ⟨P, C⟩ o tm s) x s s')
    (hK : ∀ v w', Fine κ P ρ x s' v w' → K (a.put o.dst v) w') : o.wpIn (EF P rd) 0 P a w K Q := by
  have flat : (∀ c, o.op ≠ .call c) → (∀ c, o.op ≠ .defer c) → Ans (onlyV (opFlat o.op ⟨P, C⟩ o tm s)) x s s' → o.wpIn (EF P rd) 0 P a w K Q := by
    intro h1 h2 h
    have h : opFlat o.op ⟨P, C⟩ o tm s = .val x s' := by
      rcases h with h | ⟨h, _⟩
      · exact onlyV_val h
      · generalize opFlat o.op ⟨P, C⟩ o tm s = r at h
        cases r <;> cases h
    exact does_wp (fun f hf => by rw [about_none h1] at hf; cases hf) h2 (opFlat_sound hS ht h) hK
  cases ho : o.op with
  | call c =>
    rw [ho] at h
    have h : Ans (calleeTab c.callee c.args c.argTypes ⟨P, C⟩ o tm s) x s s' := h
    cases hc : c.callee with
    | value g =>
      rw [hc] at h
      obtain ⟨f, h1, h⟩ := Ans.bR (show Ans (opValue g c.args ⟨P, C⟩ o tm s) x s s' from h)
      obtain ⟨vs, h2, h⟩ := Ans.bR h
      have h := onlyC_val h
      have := (hC ρ s w f vs _ _ hS (ev_sound ht h1) (evs_arr ht h2)).1 x s' h
      rw [Array.toArray_toList] at this
      exact call_wp ho hc this hK (fun _ _ h => h.elim)
    | builtin b =>
      rw [hc] at h
      obtain ⟨vs, h1, h⟩ := Ans.bR (show Ans (bR (evs tm c.args.toList) fun vs => onlyB (biTab b c.argTypes.toList vs ⟨P, C⟩ o tm s)) x s s' from h)
      refine does_wp (fun f hf => ?_) (by rw [ho]; simp) (opBuiltin_sound hS ht ho hc h1 (onlyB_ans h)) hK
      unfold Oper.about at hf
      rw [ho] at hf
      obtain ⟨ce, args, ats⟩ := c
      cases hc
      simp only [resolve, Sem.run_pure, Target.leads, reduceCtorEq] at hf
    | invoke y n => rw [hc] at h; exact Ans.bad h
  | defer c =>
    rw [ho] at h
    obtain ⟨ce, args, ats⟩ := c
    cases ce with
    | value g =>
      obtain ⟨f, h1, h⟩ := Ans.bR (show Ans (bR (ev tm g) fun f => bR (evs tm args.toList) fun vs => deferE vs f) x s s' from h)
      obtain ⟨vs, h2, h⟩ := Ans.bR h
      cases f <;> first | exact Ans.bad h | (rcases h with h | ⟨h, _⟩ <;> cases h)
    | _ => exact Ans.bad h
  | panic y =>
    rw [ho] at h
    obtain ⟨v, h1, h⟩ := Ans.bR (show Ans (bR (ev tm y) fun v => bR (asIfc v) fun _ => .pan v s) x s s' from h)
    obtain ⟨_, _, h⟩ := Ans.bR h
    rcases h with h | ⟨h, _⟩ <;> cases h
  | _ => exact flat (by rw [ho]; simp) (by rw [ho]; simp) (by rw [ho] at h ⊢; exact h)
theorem opTab_flat {k : Kit} {op : Op} (h1 : ∀ c, op ≠ .call c) (h2 : ∀ c, op ≠ .defer c) (h3 : ∀ y, op ≠ .panic y) (p : Oper) (tm : T EV) (s : ES) : opTab op k p tm s = onlyV (opFlat op k p tm s) := by
  cases op <;> first | rfl | exact absurd rfl (h1 _) | exact absurd rfl (h2 _) | exact absurd rfl (h3 _)
theorem onlyV_cases {r q : RO} (h : onlyV r = q) : q = .bad ∨ ∃ x s, q = .val x s := by
  subst h
  cases r <;> first | exact .inl rfl | exact .inr ⟨_, _, rfl⟩
theorem onlyC_pan {r : RO} {x : EV} {s : ES} (h : onlyC r = .pan x s) : r = .pan x s := by cases r <;> first | (cases h; done) | exact h
theorem onlyC_dfr {r : RO} {d : EDef} : onlyC r ≠ .dfr d := by cases r <;> simp [onlyC]
theorem onlyB_pan {r : RO} {x : EV} {s : ES} : onlyB r ≠ .pan x s := by cases r <;> simp [onlyB]
theorem onlyB_dfr {r : RO} {d : EDef} : onlyB r ≠ .dfr d := by cases r <;> simp [onlyB]
/-- An operation that panics. -/
theorem opTab_pan (hC : CSound κ P C) (hS : S κ P ρ s w) (ht : TR ρ N tm a.tmps) {K : Act → World → Prop} {Q : Exit → Act → World → Prop} (h : opTab o.op ⟨P, C⟩ o tm s = .pan x s')
    (hQ : ∀ v w', Fine κ P ρ x s' v w' → Q (.panic [{ v, recovered := false }]) a w') : o.wpIn (EF P rd) 0 P a w K Q := by
  have bRp : ∀ {α : Type} {o : Option α} {f : α → RO}, bR o f = .pan x s' → ∃ y, o = some y ∧ f y = .pan x s' := by
    intro α o f h
    cases o with
    | none => cases h
    | some y => exact ⟨y, rfl, h⟩
  cases ho : o.op with
  | call c =>
    rw [ho] at h
    have h : calleeTab c.callee c.args c.argTypes ⟨P, C⟩ o tm s = .pan x s' := h
    cases hc : c.callee with
    | value g =>
      rw [hc] at h
      obtain ⟨f, h1, h⟩ := bRp (show opValue g c.args ⟨P, C⟩ o tm s = .pan x s' from h)
      obtain ⟨vs, h2, h⟩ := bRp h
      have h := onlyC_pan h
      have := (hC ρ s w f vs _ _ hS (ev_sound ht h1) (evs_arr ht h2)).2 x s' h
      rw [Array.toArray_toList] at this
      exact call_wp ho hc this (fun _ _ h => h.elim) hQ
    | builtin b =>
      rw [hc] at h
      obtain ⟨vs, h1, h⟩ := bRp (show (bR (evs tm c.args.toList) fun vs => onlyB (biTab b c.argTypes.toList vs ⟨P, C⟩ o tm s)) = .pan x s' from h)
      exact absurd h onlyB_pan
    | invoke y n => rw [hc] at h; cases h
  | defer c =>
    rw [ho] at h
    obtain ⟨ce, args, ats⟩ := c
    cases ce with
    | value g =>
      obtain ⟨f, h1, h⟩ := bRp (show (bR (ev tm g) fun f => bR (evs tm args.toList) fun vs => deferE vs f) = .pan x s' from h)
      obtain ⟨vs, h2, h⟩ := bRp h
      cases f <;> cases h
    | _ => cases h
  | panic y =>
    rw [ho] at h
    obtain ⟨v, h1, h⟩ := bRp (show (bR (ev tm y) fun v => bR (asIfc v) fun _ => .pan v s) = .pan x s' from h)
    obtain ⟨p, h2, h⟩ := bRp h
    cases h
    have hv := asIfc_some h2
    subst hv
    have e1 := ev_sound ht h1
    refine ⟨fun f hf => (by rw [about_none (by rw [ho]; simp)] at hf; cases hf), ?_⟩
    rw [Oper.semAt_eq _ _ _ (by rw [ho]; simp)]
    have hex : execOp a.eval o = (do pure (Next.value (← Instr.panic (a.eval y)))) := by
      obtain ⟨dst, op, ty, pos, af, gd⟩ := o
      cases ho; rfl
    have e2 := e1
    simp only [EV.den, Option.map_eq_some_iff] at e1
    obtain ⟨u, h3, h4⟩ := e1
    have hr : (execOp a.eval o).run P w = .halt (.panic (a.eval y)) w := by
      rw [hex, ← h4]
      simp only [Instr.panic, Sem.run_bind, run_goPanic, Result.andThen]
    rw [hr]
    exact hQ _ _ ⟨ρ, Env.le_refl _, hS, e2⟩
  | _ =>
    rw [ho] at h
    rw [opTab_flat (by simp) (by simp) (by simp)] at h
    rcases onlyV_cases h with h | ⟨_, _, h⟩ <;> cases h

/-! ### Deferred calls -/
inductive DRel (ρ : Env) : EDef → Deferred → Prop
  | mark {r : Nat} {e : RE} (h : ρ r = some e) : DRel ρ (.mark r) { target := .collected e.b, args := #[] }
  | fn {f : FuncId} {as : List EV} {cap args : Array Value} {vs : List Value} (h : denL ρ as = some vs) (hv : vs = args.toList ++ cap.toList) : DRel ρ (.fn f as) { target := .fn (.func f) cap, args }
inductive DR (ρ : Env) : List EDef → List Deferred → Prop
  | nil : DR ρ [] []
  | cons {d : EDef} {e : Deferred} {ds : List EDef} {es : List Deferred} (h : DRel ρ d e) (r : DR ρ ds es) : DR ρ (d :: ds) (e :: es)
theorem DRel.mono {ρ ρ' : Env} (H : ρ.le ρ') {d : EDef} {e : Deferred} (h : DRel ρ d e) : DRel ρ' d e := by
  cases h with
  | mark h => exact .mark (H _ _ h)
  | fn h hv => exact .fn (denL_mono H _ _ h) hv
theorem DR.mono {ρ ρ' : Env} (H : ρ.le ρ') {ds : List EDef} {es : List Deferred} (h : DR ρ ds es) : DR ρ' ds es := by
  induction h with
  | nil => exact .nil
  | cons h _ ih => exact .cons (h.mono H) ih
/-- An operation that defers a call. -/
theorem opTab_dfr (ht : TR ρ N tm a.tmps) {K : Act → World → Prop} {Q : Exit → Act → World → Prop} {d : EDef} (h : opTab o.op ⟨P, C⟩ o tm s = .dfr d)
    (hK : ∀ e, DRel ρ d e → K ({ a with defers := e :: a.defers }.put o.dst undef) w) : o.wpIn (EF P none) 0 P a w K Q := by
  have bRd : ∀ {α : Type} {o : Option α} {f : α → RO}, bR o f = .dfr d → ∃ y, o = some y ∧ f y = .dfr d := by
    intro α o f h
    cases o with
    | none => cases h
    | some y => exact ⟨y, rfl, h⟩
  cases ho : o.op with
  | defer c =>
    rw [ho] at h
    refine ⟨fun f hf => (by rw [about_none (by rw [ho]; simp)] at hf; cases hf), ?_⟩
    have hex : (o.semAt (EF P none).round a.eval) = (do pure (Next.defer (← resolve a.eval c o.type))) := by
      obtain ⟨dst, op, ty, pos, af, gd⟩ := o
      cases ho; rfl
    rw [hex]
    obtain ⟨ce, args, ats⟩ := c
    cases ce with
    | value g =>
      obtain ⟨f, h1, h⟩ := bRd (show (bR (ev tm g) fun f => bR (evs tm args.toList) fun vs => deferE vs f) = .dfr d from h)
      obtain ⟨vs, h2, h⟩ := bRd h
      cases f with
      | fn f p q =>
        cases h
        have e1 := ev_sound ht h1
        have e2 := evs_arr ht h2
        simp only [EV.den] at e1
        split at e1
        · rename_i p' q' h3 h4
          have e1 := Option.some.inj e1
          have hr : (do pure (Next.defer (← resolve a.eval ⟨.value g, args, ats⟩ o.type)) : Sem Next).run P w = .ok (.defer { target := .fn (.func f) q'.toArray, args := p'.toArray ++ args.map a.eval }) w := by
            simp only [resolve, ← e1, Deferred.ofValue, Sem.run_bind, Sem.run_pure, Result.andThen_ok]
          rw [hr]
          refine hK _ (.fn (denL_app (denL_app h3 e2) h4) ?_)
          simp
        · cases e1
      | _ => cases h
    | _ => cases h
  | call c =>
    rw [ho] at h
    have h : calleeTab c.callee c.args c.argTypes ⟨P, C⟩ o tm s = .dfr d := h
    cases hc : c.callee with
    | value g =>
      rw [hc] at h
      obtain ⟨f, h1, h⟩ := bRd (show opValue g c.args ⟨P, C⟩ o tm s = .dfr d from h)
      obtain ⟨vs, h2, h⟩ := bRd h
      exact absurd h onlyC_dfr
    | builtin b =>
      rw [hc] at h
      obtain ⟨vs, h1, h⟩ := bRd (show (bR (evs tm c.args.toList) fun vs => onlyB (biTab b c.argTypes.toList vs ⟨P, C⟩ o tm s)) = .dfr d from h)
      exact absurd h onlyB_dfr
    | invoke y n => rw [hc] at h; cases h
  | panic y =>
    rw [ho] at h
    obtain ⟨v, h1, h⟩ := bRd (show (bR (ev tm y) fun v => bR (asIfc v) fun _ => .pan v s) = .dfr d from h)
    obtain ⟨p, h2, h⟩ := bRd h
    cases h
  | _ =>
    rw [ho] at h
    rw [opTab_flat (by simp) (by simp) (by simp)] at h
    rcases onlyV_cases h with h | ⟨_, _, h⟩ <;> cases h
end
end Go.Eva
