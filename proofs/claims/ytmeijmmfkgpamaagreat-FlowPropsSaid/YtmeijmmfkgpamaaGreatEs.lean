/-
  An evaluator of calls at closed inputs, part s: code.
-/
import Derived.Test.YtmeijmmfkgpamaaGreatEr
namespace Go.Eva
open Go.RowKit
set_option linter.unusedVariables false
set_option linter.unusedSimpArgs false
section
variable {κ : Ctx} {P : Program} {C : CallFn} {e : EX} {cx : Cx}

theorem stepR_scope {b : Frame} {a : Act} {k : List Item} {cs : List Frame} {w : World} {c : Code} :
    step P (lone (b.atR a (.code (.scope c) :: k)) cs w) = .next (lone (b.atR a (.code c :: .inScope c :: k)) cs w) :=
  step_lone_go (by simp [stepG, stepG.exec, Frame.atR])
theorem stepR_inScope {b : Frame} {a : Act} {k : List Item} {cs : List Frame} {w : World} {c : Code} :
    step P (lone (b.atR a (.inScope c :: k)) cs w) = .next (lone (b.atR a k) cs w) :=
  step_lone_go (by simp [stepG, stepG.exec, Frame.atR])
def scopeE (Q : Exit → Act → World → Prop) : Exit → Act → World → Prop
  | .goto _, _, _ => False
  | e, a, w => Q e a w
theorem wpIn_scope {F : Fence} {n : Nat} {Q : Exit → Act → World → Prop} {c : Code} {a : Act} {w : World} (h : c.wpIn F n P (scopeE Q) a w) : (Code.scope c).wpIn F n P Q a w := by
  intro b k cs hro hb hr
  obtain ⟨e, a₁, w₁, hq, harr⟩ := h b (.inScope c :: k) cs hro hb hr
  have h0 : (lone (b.atR a (.code (.scope c) :: k)) cs w).fenced P F := fenced_calm hb hr rfl
  cases e with
  | normal => exact ⟨.normal, a₁, w₁, hq, .head h0 stepR_scope (StepsIn.trans harr (.one (fenced_calm hb hr rfl) stepR_inScope))⟩
  | exit id => exact ⟨.exit id, a₁, w₁, hq, .of_steps (.one h0 stepR_scope) ⟨fun k' hk => harr.1 k' (by simpa [exitTo] using hk), fun hr hk => harr.2 hr (by simpa [exitTo] using hk)⟩⟩
  | goto l => exact hq.elim
  | ret => exact ⟨.ret, a₁, w₁, hq, .of_steps (.one h0 stepR_scope) harr⟩
  | panic ch => exact ⟨.panic ch, a₁, w₁, hq, .of_steps (.one h0 stepR_scope) harr⟩
  | outgrown => exact ⟨.outgrown, a₁, w₁, hq, .of_steps (.one h0 stepR_scope) harr⟩

/-- A piece of code does what the evaluator says. -/
def CodeOk (κ : Ctx) (P : Program) (C : CallFn) (c : Code) (f : CdFn) : Prop := ∀ {cx : Cx} {ρ : Env} {tm tm' : T EV} {df df' : List EDef} {s s' : ES} {w : World} {a : Act} {ro : Option Nat} {e : EX} {Q : Exit → Act → World → Prop},
  cx.toKit = ⟨P, C⟩ → f cx tm df s = .ok e tm' df' s' → S κ P ρ s w → TR ρ cx.N tm a.tmps → DR ρ df a.defers → RdOk ρ cx.rd ro → Post κ P ρ cx.N e tm' df' s' Q → c.wpIn (EF P ro) 0 P Q a w
/-- What ranges over functions and regions that draw their order come to. -/
structure Rest (κ : Ctx) (P : Program) (C : CallFn) : Prop where
  range : ∀ g ps a b, CodeOk κ P C (.rangeFunc g ps a b) (cRange g ps a b)
  draw : ∀ id ops, CodeOk κ P C (.region id ops true) (drawRun ops)
theorem Post.here {ρ : Env} {N : Nat} {tm : T EV} {df : List EDef} {s : ES} {w : World} {a : Act} {e : EX} {e' : Exit} {Q : Exit → Act → World → Prop} (h : Post κ P ρ N e tm df s Q) (hS : S κ P ρ s w) (ht : TR ρ N tm a.tmps) (hd : DR ρ df a.defers) (hx : XR ρ e e') : Q e' a w :=
  h ρ w a e' (Env.le_refl _) hS ht hd hx
theorem thenR_ok {f : T EV → List EDef → ES → R} {r : R} {e : EX} {tm : T EV} {df : List EDef} {s : ES} (h : thenR f r = .ok e tm df s) : (∃ tm1 df1 s1, r = .ok .normal tm1 df1 s1 ∧ f tm1 df1 s1 = .ok e tm df s) ∨ (e ≠ .normal ∧ r = .ok e tm df s) := by
  cases r with
  | bad => cases h
  | ok e1 tm1 df1 s1 =>
    cases e1 <;> first | exact .inl ⟨_, _, _, rfl, h⟩ | (refine .inr ⟨?_, h⟩; intro he; subst he; cases h)
theorem then_post {ρ : Env} {N : Nat} {tm : T EV} {df : List EDef} {s : ES} {e : EX} {Q : Exit → Act → World → Prop} {K : Act → World → Prop} (he : e ≠ .normal) (h : Post κ P ρ N e tm df s Q) : Post κ P ρ N e tm df s (Exit.then K Q) := by
  intro ρ' w' a' e' h1 h2 h3 h4 h5
  have := h ρ' w' a' e' h1 h2 h3 h4 h5
  cases e' <;> first | exact this | skip
  cases e <;> first | exact absurd rfl he | exact h5.elim
theorem seq_ok {x y : Code} {f g : CdFn} (hx : CodeOk κ P C x f) (hy : CodeOk κ P C y g) : CodeOk κ P C (.seq x y) (fun c tm df s => thenR (g c) (f c tm df s)) := by
  intro cx ρ tm tm' df df' s s' w a ro e Q hk h hS ht hd hrd hQ
  refine wpIn_seq ?_
  rcases thenR_ok h with ⟨tm1, df1, s1, h1, h2⟩ | ⟨he, h1⟩
  · refine hx hk h1 hS ht hd hrd (fun ρ' w' a' e' q1 q2 q3 q4 q5 => ?_)
    cases e' <;> first | exact q5.elim | skip
    exact hy hk h2 q2 q3 q4 (hrd.mono q1) (hQ.mono q1)
  · exact hx hk h1 hS ht hd hrd (then_post he hQ)
theorem loop_ok {x : Code} {f : CdFn} (hx : CodeOk κ P C x f) : CodeOk κ P C (.loop x) (fun c => iter f c.lim c) := by
  have key : ∀ (m : Nat) {cx : Cx} {ρ : Env} {tm tm' : T EV} {df df' : List EDef} {s s' : ES} {w : World} {a : Act} {ro : Option Nat} {e : EX} {Q : Exit → Act → World → Prop},
      cx.toKit = ⟨P, C⟩ → iter f m cx tm df s = .ok e tm' df' s' → S κ P ρ s w → TR ρ cx.N tm a.tmps → DR ρ df a.defers → RdOk ρ cx.rd ro → Post κ P ρ cx.N e tm' df' s' Q → Code.roundsIn (EF P ro) 0 P x Q m a w := by
    intro m
    induction m with
    | zero => intro cx ρ tm tm' df df' s s' w a ro e Q hk h; cases h
    | succ m ih =>
      intro cx ρ tm tm' df df' s s' w a ro e Q hk h hS ht hd hrd hQ
      rw [roundsIn_succ]
      rcases thenR_ok (show thenR (iter f m cx) (f cx tm df s) = .ok e tm' df' s' from h) with ⟨tm1, df1, s1, h1, h2⟩ | ⟨he, h1⟩
      · refine hx hk h1 hS ht hd hrd (fun ρ' w' a' e' q1 q2 q3 q4 q5 => ?_)
        cases e' <;> first | exact q5.elim | skip
        exact ih hk h2 q2 q3 q4 (hrd.mono q1) (hQ.mono q1)
      · exact hx hk h1 hS ht hd hrd (then_post he hQ)
  intro cx ρ tm tm' df df' s s' w a ro e Q hk h hS ht hd hrd hQ
  exact wpIn_loop_rounds _ (key _ hk h hS ht hd hrd hQ)
theorem block_ok {id : Nat} {x : Code} {f : CdFn} (hx : CodeOk κ P C x f) : CodeOk κ P C (.block id x) (fun c tm df s => outR id (f c tm df s)) := by
  intro cx ρ tm tm' df df' s s' w a ro e Q hk h hS ht hd hrd hQ
  refine wpIn_block ?_
  have h : outR id (f cx tm df s) = .ok e tm' df' s' := h
  cases hf : f cx tm df s with
  | bad => rw [hf] at h; cases h
  | ok e1 tm1 df1 s1 =>
    rw [hf] at h
    cases (show R.ok (outE id e1) tm1 df1 s1 = .ok e tm' df' s' from h)
    refine hx hk hf hS ht hd hrd (fun ρ' w' a' e' q1 q2 q3 q4 q5 => ?_)
    cases e1 <;> cases e' <;> first | exact q5.elim | exact hQ ρ' w' a' _ q1 q2 q3 q4 q5 | skip
    rename_i i _ j
    have q5 : i = j := q5
    subst q5
    show if i = id then Q .normal a' w' else Q (.exit i) a' w'
    by_cases hi : i = id
    · rw [if_pos hi]
      refine hQ ρ' w' a' .normal q1 q2 q3 q4 ?_
      subst hi
      show XR ρ' (cnd (Nat.beq i i) .normal (.exit i)) .normal
      rw [Nat.beq_refl]; trivial
    · rw [if_neg hi]
      refine hQ ρ' w' a' (.exit i) q1 q2 q3 q4 ?_
      show XR ρ' (cnd (Nat.beq i id) .normal (.exit i)) (.exit i)
      have : Nat.beq i id = false := by
        rw [Bool.eq_false_iff]; intro h; exact hi (Nat.eq_of_beq_eq_true h)
      rw [this]; rfl
theorem evCode_ok (hC : CSound κ P C) (hr : Rest κ P C) (c : Code) : CodeOk κ P C c (evCode c) := by
  induction c with
  | skip =>
    intro cx ρ tm tm' df df' s s' w a ro e Q hk h hS ht hd hrd hQ
    cases (show R.ok .normal tm df s = .ok e tm' df' s' from h)
    exact wpIn_skip (hQ.here hS ht hd trivial)
  | region id ops draw =>
    intro cx ρ tm tm' df df' s s' w a ro e Q hk h hS ht hd hrd hQ
    cases draw with
    | false => exact wpIn_region (evOps_sound hk hC ops.toList _ (at_range ops) h hS ht hd hrd hQ)
    | true => exact hr.draw id ops hk h hS ht hd hrd hQ
  | seq x y hx hy => exact seq_ok hx hy
  | cond g x y hx hy =>
    intro cx ρ tm tm' df df' s s' w a ro e Q hk h hS ht hd hrd hQ
    obtain ⟨t, h1, h⟩ := bX_ok (show bX (bO (ev tm g) asBool) (fun t => cnd t (evCode x cx tm df s) (evCode y cx tm df s)) = .ok e tm' df' s' from h)
    obtain ⟨v, h2, h3⟩ := bO_some.1 h1
    have hv := asBool_some h3
    subst hv
    refine wpIn_cond (t := t) (Option.some.inj (ev_sound ht h2)).symm ?_
    cases t with
    | true => exact hx hk h hS ht hd hrd hQ
    | false => exact hy hk h hS ht hd hrd hQ
  | block id x hx => exact block_ok hx
  | loop x hx => exact loop_ok hx
  | rangeFunc g ps x y hx hy => exact hr.range g ps x y
  | exit id =>
    intro cx ρ tm tm' df df' s s' w a ro e Q hk h hS ht hd hrd hQ
    cases (show R.ok (.exit id) tm df s = .ok e tm' df' s' from h)
    exact wpIn_exit (hQ.here hS ht hd rfl)
  | scope x hx =>
    intro cx ρ tm tm' df df' s s' w a ro e Q hk h hS ht hd hrd hQ
    refine wpIn_scope (hx hk h hS ht hd hrd (fun ρ' w' a' e' q1 q2 q3 q4 q5 => ?_))
    have := hQ ρ' w' a' e' q1 q2 q3 q4 q5
    cases e' <;> first | exact this | (cases e <;> exact q5.elim)
  | label l =>
    intro cx ρ tm tm' df df' s s' w a ro e Q hk h hS ht hd hrd hQ
    cases (show R.ok .normal tm df s = .ok e tm' df' s' from h)
    exact wpIn_label (hQ.here hS ht hd trivial)
  | goto l => intro cx ρ tm tm' df df' s s' w a ro e Q hk h; cases h
  | ret =>
    intro cx ρ tm tm' df df' s s' w a ro e Q hk h hS ht hd hrd hQ
    cases (show R.ok .ret tm df s = .ok e tm' df' s' from h)
    exact wpIn_ret (hQ.here hS ht hd trivial)
  | refuse why => intro cx ρ tm tm' df df' s s' w a ro e Q hk h; cases h
end
end Go.Eva
