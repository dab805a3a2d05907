/-
  An evaluator of calls at closed inputs, part w: closures that are called late; how functions are left.
-/
import Derived.Test.YtmeijmmfkgpamaaGreatEv
namespace Go.Eva
open Go.RowKit
set_option linter.unusedVariables false
set_option linter.unusedSimpArgs false
section
variable {κ : Ctx} {P : Program} {C : CallFn} {ρ : Env} {s s' : ES} {w : World} {N : Nat} {tm tm' : T EV} {a : Act} {x : EV} {o : Oper} {fin : Bool} {m m' : Option (EV × Bool)} {cx : Cx}

/-- How a frame is on its way out. -/
def MR (ρ : Env) : Option EV → FrameMode → Prop
  | none, .returning => True
  | some x, .panicking ch => ∃ v, ch = [{ v, recovered := false }] ∧ x.den ρ = some v
  | _, _ => False
theorem MR.mono {ρ ρ' : Env} (H : ρ.le ρ') {m : Option EV} {u : FrameMode} (h : MR ρ m u) : MR ρ' m u := by
  cases m <;> cases u <;> first | exact h | skip
  obtain ⟨v, h1, h2⟩ := h
  exact ⟨v, h1, den_mono H _ _ h2⟩
/-- How it is on its way out, behind what a late closure has taken. -/
def MS (ρ : Env) : Option (EV × Bool) → FrameMode → Prop
  | none, .returning => True
  | some (x, b), .panicking ch => ∃ v, ch = [{ v, recovered := b }] ∧ x.den ρ = some v
  | _, _ => False
theorem MS.mono {ρ ρ' : Env} (H : ρ.le ρ') {m : Option (EV × Bool)} {u : FrameMode} (h : MS ρ m u) : MS ρ' m u := by
  cases m <;> cases u <;> first | exact h | skip
  obtain ⟨v, h1, h2⟩ := h
  exact ⟨v, h1, den_mono H _ _ h2⟩
theorem MR.ms {m : Option EV} {u : FrameMode} (h : MR ρ m u) : MS ρ (bO m fun x => some (x, false)) u := by
  cases m <;> cases u <;> exact h
theorem MS.settle {u : FrameMode} (h : MS ρ m u) : MR ρ (settleE m) (settle u) := by
  cases m with
  | none => cases u <;> first | exact h.elim | trivial
  | some p =>
    obtain ⟨x, b⟩ := p
    cases u <;> first | exact h.elim | skip
    obtain ⟨v, rfl, hv⟩ := h
    cases b with
    | false => exact ⟨v, rfl, hv⟩
    | true => trivial
/-- What is asked of all that such a closure's code may come to. -/
def PostS (κ : Ctx) (P : Program) (ρ : Env) (N : Nat) (fin : Bool) (tm : T EV) (m : Option (EV × Bool)) (s : ES) (c₀ : Frame) (cs : List Frame) (Q : Exit → Act → List Frame → World → Prop) : Prop :=
  ∀ ρ' w' a' u', ρ.le ρ' → S κ P ρ' s w' → TR ρ' N tm a'.tmps → a'.defers = [] → MS ρ' m u' → Q (cnd fin .ret .normal) a' ({ c₀ with mode := u' } :: cs) w'
theorem PostS.mono {ρ' : Env} {c₀ : Frame} {cs : List Frame} {Q : Exit → Act → List Frame → World → Prop} (h : PostS κ P ρ N fin tm m s c₀ cs Q) (H : ρ.le ρ') : PostS κ P ρ' N fin tm m s c₀ cs Q := fun ρ2 w' a' u' h1 => h ρ2 w' a' u' (Env.le_trans H h1)
theorem bS_ok {α : Type} {o : Option α} {f : α → RS} (h : bS o f = .ok fin tm m s) : ∃ y, o = some y ∧ f y = .ok fin tm m s := by
  cases o with
  | none => cases h
  | some y => exact ⟨y, rfl, h⟩
theorem cndS_ok {b : Bool} {r : RS} (h : cnd b r .bad = .ok fin tm m s) : b = true ∧ r = .ok fin tm m s := by
  cases b with
  | false => cases h
  | true => exact ⟨rfl, h⟩
theorem putS_sound {dst : Option Tmp} {f : T EV → RS} {v : Value} {X : Act → Prop} (h : putS N tm dst x f = .ok fin tm' m s) (ht : TR ρ N tm a.tmps) (hx : x.den ρ = some v)
    (hK : ∀ tm2 a2, f tm2 = .ok fin tm' m s → TR ρ N tm2 a2.tmps → a2.defers = a.defers → X a2) : X (a.put dst v) := by
  cases dst with
  | none => exact hK tm _ h ht rfl
  | some d =>
    obtain ⟨h1, h2⟩ := cndS_ok (show cnd (Nat.blt d N) (f (T.set tm d x)) .bad = .ok fin tm' m s from h)
    exact hK _ _ h2 (ht.put (blt_lt h1) hx) rfl
/-- Operations that call no function. -/
theorem opCalm_sound (hS : S κ P ρ s w) (ht : TR ρ N tm a.tmps) (h : Ans (opCalm o.op ⟨P, C⟩ o tm s) x s s') : (∀ f, o.about P w a.eval ≠ some f) ∧ DoesN κ P ρ w (execOp a.eval o) x s' := by
  have flat : (∀ c, o.op ≠ .call c) → Ans (onlyV (opFlat o.op ⟨P, C⟩ o tm s)) x s s' → (∀ f, o.about P w a.eval ≠ some f) ∧ DoesN κ P ρ w (execOp a.eval o) x s' := by
    intro h1 h
    have h : opFlat o.op ⟨P, C⟩ o tm s = .val x s' := by
      rcases h with h | ⟨h, _⟩
      · exact onlyV_val h
      · generalize opFlat o.op ⟨P, C⟩ o tm s = r at h
        cases r <;> cases h
    exact ⟨fun f hf => (by rw [about_none h1] at hf; cases hf), opFlat_sound hS ht h⟩
  cases ho : o.op with
  | call c =>
    rw [ho] at h
    obtain ⟨ce, args, ats⟩ := c
    cases ce with
    | builtin b =>
      obtain ⟨vs, h1, h⟩ := Ans.bR (show Ans (bR (evs tm args.toList) fun vs => onlyB (biTab b ats.toList vs ⟨P, C⟩ o tm s)) x s s' from h)
      refine ⟨fun f hf => ?_, opBuiltin_sound hS ht ho rfl h1 (onlyB_ans h)⟩
      unfold Oper.about at hf
      rw [ho] at hf
      simp only [resolve, Sem.run_pure, Target.leads, reduceCtorEq] at hf
    | _ => exact Ans.bad h
  | _ => exact flat (by rw [ho]; simp) (by rw [ho] at h ⊢; exact h)
theorem isRec_some {p : Op} (h : isRec p = true) : ∃ args ats, p = .call ⟨.builtin .recover, args, ats⟩ := by
  cases p <;> first | (cases h; done) | skip
  rename_i c
  obtain ⟨ce, args, ats⟩ := c
  cases ce <;> first | (cases h; done) | skip
  rename_i b
  cases b <;> first | exact ⟨args, ats, rfl⟩ | cases h
theorem exec_recover {args : Array Operand} {ats : Array TypeId} (ho : o.op = .call ⟨.builtin .recover, args, ats⟩) : (execOp a.eval o).run P w = .ok .recover w ∧ ∀ f, o.about P w a.eval ≠ some f := by
  constructor
  · obtain ⟨dst, op, ty, pos, af, gd⟩ := o
    cases ho
    rfl
  · intro f hf
    unfold Oper.about at hf
    rw [ho] at hf
    simp only [resolve, Sem.run_pure, Target.leads, reduceCtorEq] at hf
theorem rec_sound {y : EV} {u : FrameMode} (h : recE m = some (y, m')) (hm : MS ρ m u) (c₀ : Frame) (cs : List Frame) :
    (recoverD ({ c₀ with mode := u } :: cs) = none ∧ y.den ρ = some .nilIface ∧ MS ρ m' u) ∨ ∃ v u', recoverD ({ c₀ with mode := u } :: cs) = some (v, { c₀ with mode := u' } :: cs) ∧ y.den ρ = some v ∧ MS ρ m' u' := by
  cases m with
  | none =>
    cases h
    cases u <;> first | exact hm.elim | exact .inl ⟨rfl, rfl, trivial⟩
  | some p =>
    obtain ⟨z, b⟩ := p
    cases b with
    | true => cases h
    | false =>
      cases h
      cases u <;> first | exact hm.elim | skip
      obtain ⟨v, rfl, hv⟩ := hm
      exact .inr ⟨v, .panicking [{ v, recovered := true }], rfl, hv, v, rfl, hv⟩
theorem evOpsS_sound (hk : cx.toKit = ⟨P, C⟩) {all : Array Oper} {c₀ : Frame} {cs : List Frame} {Q : Exit → Act → List Frame → World → Prop} : ∀ (l : List Oper) (is : List Nat), At all is l → ∀ {ρ : Env} {tm : T EV} {m : Option (EV × Bool)} {s : ES} {w : World} {a : Act} {u : FrameMode},
    evOpsS all l cx tm m s = .ok fin tm' m' s' → S κ P ρ s w → TR ρ cx.N tm a.tmps → a.defers = [] → MS ρ m u → PostS κ P ρ cx.N fin tm' m' s' c₀ cs Q → wpOpsSIn (EF P none) 0 P all Q is a ({ c₀ with mode := u } :: cs) w := by
  have hP : cx.P = P := by rw [show cx.P = cx.toKit.P from rfl, hk]
  intro l
  induction l with
  | nil =>
    intro is hat ρ tm m s w a u h hS ht hd hm hQ
    cases hat
    cases (show RS.ok false tm m s = .ok fin tm' m' s' from h)
    exact hQ ρ w a u (Env.le_refl _) hS ht hd hm
  | cons o r ih =>
    intro is hat ρ tm m s w a u h hS ht hd hm hQ
    cases hat with
    | @cons i _ is _ hi hat =>
    obtain ⟨b, h1, h⟩ := bS_ok (show bS (wanted all tm o.guard) _ = .ok fin tm' m' s' from h)
    have hw := wanted_run (all := all) ht h1
    unfold wpOpsSIn
    rw [hi]
    simp only
    rw [hw]
    cases b with
    | false =>
      obtain ⟨h2, h⟩ := cndS_ok (show cnd (aboutOk cx.P tm o.op) (putS cx.N tm o.dst (.raw undef) fun tm2 => evOpsS all r cx tm2 m s) .bad = .ok fin tm' m' s' from h)
      rw [hP] at h2
      refine ⟨about_ok ht h2 none w, ?_⟩
      rw [if_neg (by simp)]
      exact putS_sound (X := fun a2 => wpOpsSIn (EF P none) 0 P all Q is a2 ({ c₀ with mode := u } :: cs) w) h ht rfl (fun tm2 a2 h3 ht2 hd2 => ih is hat h3 hS ht2 (hd2.trans hd) hm hQ)
    | true =>
      have h : cnd (isRec o.op) (bS (recE m) fun q => putS cx.N tm o.dst q.1 fun tm2 => evOpsS all r cx tm2 q.2 s) (opEndS cx.N o tm m (opCalm o.op cx.toKit o tm s) s (evOpsS all r cx)) = .ok fin tm' m' s' := h
      rw [if_pos rfl]
      cases hrc : isRec o.op with
      | true =>
        rw [hrc] at h
        obtain ⟨args, ats, ho⟩ := isRec_some hrc
        obtain ⟨e1, e2⟩ := exec_recover (P := P) (w := w) (a := a) ho
        obtain ⟨q, h2, h⟩ := bS_ok (show (bS (recE m) fun q => putS cx.N tm o.dst q.1 fun tm2 => evOpsS all r cx tm2 q.2 s) = .ok fin tm' m' s' from h)
        refine ⟨fun f hf => absurd hf (e2 f), ?_⟩
        rw [e1]
        simp only
        rcases rec_sound (y := q.1) (m' := q.2) h2 hm c₀ cs with ⟨q1, q2, q3⟩ | ⟨v, u', q1, q2, q3⟩
        · rw [q1]
          exact putS_sound (X := fun a2 => wpOpsSIn (EF P none) 0 P all Q is a2 ({ c₀ with mode := u } :: cs) w) h ht q2 (fun tm2 a2 h3 ht2 hd2 => ih is hat h3 hS ht2 (hd2.trans hd) q3 hQ)
        · rw [q1]
          exact putS_sound (X := fun a2 => wpOpsSIn (EF P none) 0 P all Q is a2 ({ c₀ with mode := u' } :: cs) w) h ht q2 (fun tm2 a2 h3 ht2 hd2 => ih is hat h3 hS ht2 (hd2.trans hd) q3 hQ)
      | false =>
        rw [hrc] at h
        have h : opEndS cx.N o tm m (opCalm o.op cx.toKit o tm s) s (evOpsS all r cx) = .ok fin tm' m' s' := h
        rw [hk] at h
        have go : ∀ x s2, Ans (opCalm o.op ⟨P, C⟩ o tm s) x s s2 → putS cx.N tm o.dst x (fun tm2 => evOpsS all r cx tm2 m s2) = .ok fin tm' m' s' → (∀ f, o.about P w a.eval = some f → (EF P none).fn f) ∧
            (match (execOp a.eval o).run P w with
              | .ok .recover w' => match recoverD ({ c₀ with mode := u } :: cs) with
                | some (v, cs') => wpOpsSIn (EF P none) 0 P all Q is (a.put o.dst v) cs' w'
                | none => wpOpsSIn (EF P none) 0 P all Q is (a.put o.dst .nilIface) ({ c₀ with mode := u } :: cs) w'
              | .ok (.value v) w' => wpOpsSIn (EF P none) 0 P all Q is (a.put o.dst v) ({ c₀ with mode := u } :: cs) w'
              | .ok .skip w' => wpOpsSIn (EF P none) 0 P all Q is (a.put o.dst undef) ({ c₀ with mode := u } :: cs) w'
              | .halt (.panic v) w' => Q (.panic [{ v, recovered := false }]) a ({ c₀ with mode := u } :: cs) w'
              | _ => False) := by
          intro x s2 ha hp
          obtain ⟨e2, ρ', w', v, e3, e4, e5, e6⟩ := opCalm_sound hS ht ha
          refine ⟨fun f hf => absurd hf (e2 f), ?_⟩
          have hput : ∀ v', x.den ρ' = some v' → wpOpsSIn (EF P none) 0 P all Q is (a.put o.dst v') ({ c₀ with mode := u } :: cs) w' := fun v' hv' =>
            putS_sound (X := fun a2 => wpOpsSIn (EF P none) 0 P all Q is a2 ({ c₀ with mode := u } :: cs) w') hp (ht.mono e4) hv' (fun tm2 a2 h5 ht2 hd2 => ih is hat h5 e5 ht2 (hd2.trans hd) (hm.mono e4) (hQ.mono e4))
          rcases e3 with e3 | ⟨e3, rfl⟩
          · rw [e3]; exact hput v e6
          · rw [e3]; exact hput _ e6
        cases hr : opCalm o.op ⟨P, C⟩ o tm s with
        | keep x => rw [hr] at h; exact go x s (.inr ⟨hr, rfl⟩) h
        | val x s2 => rw [hr] at h; exact go x s2 (.inl hr) h
        | _ => rw [hr] at h; cases h
theorem calm_sound {c : Code} (hC : CSound κ P C) (hR : Rest κ P C) (hk : cx.toKit = ⟨P, C⟩) (hrd : cx.rd = none) {u : FrameMode} {c₀ : Frame} {cs : List Frame} {Q : Exit → Act → List Frame → World → Prop}
    (h : calmEnd m (evCode c cx tm [] s) = .ok fin tm' m' s') (hS : S κ P ρ s w) (ht : TR ρ cx.N tm a.tmps) (hd : a.defers = []) (hm : MS ρ m u) (hQ : PostS κ P ρ cx.N fin tm' m' s' c₀ cs Q) : c.wpSIn (EF P none) 0 P Q a ({ c₀ with mode := u } :: cs) w := by
  cases hr : evCode c cx tm [] s with
  | bad => rw [hr] at h; cases h
  | ok e tm2 df s2 =>
    rw [hr] at h
    refine wpSIn_of_wpIn rfl (evCode_ok hC hR c hk hr hS ht (hd ▸ .nil) (by rw [hrd]; trivial) ?_)
    intro ρ' w' a' e' q1 q2 q3 q4 q5
    cases e <;> first | (cases h; done) | skip
    all_goals
      obtain ⟨h1, h⟩ := cndS_ok h
      cases h
      have hdf : df = [] := by simpa using h1
      subst hdf
      have hd2 : a'.defers = [] := by
        generalize a'.defers = z at q4
        cases q4; rfl
      cases e' <;> first | exact q5.elim | exact hQ ρ' w' a' u q1 q2 q3 hd2 (hm.mono q1)
theorem thenS_ok {f : T EV → Option (EV × Bool) → ES → RS} {r : RS} (h : thenS f r = .ok fin tm m s) : (∃ tm1 m1 s1, r = .ok false tm1 m1 s1 ∧ f tm1 m1 s1 = .ok fin tm m s) ∨ (fin = true ∧ r = .ok fin tm m s) := by
  cases r with
  | bad => cases h
  | ok b tm1 m1 s1 =>
    cases b with
    | false => exact .inl ⟨_, _, _, rfl, h⟩
    | true => cases (show RS.ok true tm1 m1 s1 = .ok fin tm m s from h); exact .inr ⟨rfl, rfl⟩
theorem evCodeS_sound (hC : CSound κ P C) (hR : Rest κ P C) (hk : cx.toKit = ⟨P, C⟩) (hrd : cx.rd = none) {c₀ : Frame} {cs : List Frame} (c : Code) : ∀ {ρ : Env} {tm tm' : T EV} {m m' : Option (EV × Bool)} {s s' : ES} {w : World} {a : Act} {u : FrameMode} {fin : Bool} {Q : Exit → Act → List Frame → World → Prop},
    evCodeS c cx tm m s = .ok fin tm' m' s' → S κ P ρ s w → TR ρ cx.N tm a.tmps → a.defers = [] → MS ρ m u → PostS κ P ρ cx.N fin tm' m' s' c₀ cs Q → c.wpSIn (EF P none) 0 P Q a ({ c₀ with mode := u } :: cs) w := by
  induction c with
  | skip =>
    intro ρ tm tm' m m' s s' w a u fin Q h hS ht hd hm hQ
    cases (show RS.ok false tm m s = .ok fin tm' m' s' from h)
    exact wpSIn_of_wpIn rfl (wpIn_skip (hQ ρ w a u (Env.le_refl _) hS ht hd hm))
  | ret =>
    intro ρ tm tm' m m' s s' w a u fin Q h hS ht hd hm hQ
    cases (show RS.ok true tm m s = .ok fin tm' m' s' from h)
    exact wpSIn_of_wpIn rfl (wpIn_ret (hQ ρ w a u (Env.le_refl _) hS ht hd hm))
  | region id ops draw =>
    intro ρ tm tm' m m' s s' w a u fin Q h hS ht hd hm hQ
    have h : cnd (ops.toList.any fun o => isRec o.op) (cnd draw (fun _ _ _ _ => .bad) (evOpsS ops ops.toList)) (calmReg draw ops) cx tm m s = .ok fin tm' m' s' := h
    cases hb : ops.toList.any fun o => isRec o.op with
    | true =>
      rw [hb] at h
      cases draw with
      | true => cases h
      | false => exact wpSIn_region (evOpsS_sound hk ops.toList _ (at_range ops) h hS ht hd hm hQ)
    | false =>
      rw [hb] at h
      exact calm_sound (c := .region id ops draw) hC hR hk hrd h hS ht hd hm hQ
  | seq x y hx hy =>
    intro ρ tm tm' m m' s s' w a u fin Q h hS ht hd hm hQ
    rcases thenS_ok (show thenS (evCodeS y cx) (evCodeS x cx tm m s) = .ok fin tm' m' s' from h) with ⟨tm1, m1, s1, h1, h2⟩ | ⟨hf, h1⟩
    · exact wpSIn_seq (hx h1 hS ht hd hm (fun ρ' w' a' u' q1 q2 q3 q4 q5 => hy h2 q2 q3 q4 q5 (hQ.mono q1)))
    · subst hf
      exact wpSIn_seq (hx h1 hS ht hd hm (fun ρ' w' a' u' q1 q2 q3 q4 q5 => hQ ρ' w' a' u' q1 q2 q3 q4 q5))
  | cond g x y hx hy =>
    intro ρ tm tm' m m' s s' w a u fin Q h hS ht hd hm hQ
    obtain ⟨t, h1, h⟩ := bS_ok (show bS (bO (ev tm g) asBool) (fun t => cnd t (evCodeS x cx tm m s) (evCodeS y cx tm m s)) = .ok fin tm' m' s' from h)
    obtain ⟨v, h2, h3⟩ := bO_some.1 h1
    have hv := asBool_some h3
    subst hv
    refine wpSIn_cond (t := t) (Option.some.inj (ev_sound ht h2)).symm ?_
    cases t with
    | true => exact hx h hS ht hd hm hQ
    | false => exact hy h hS ht hd hm hQ
  | _ => intro ρ tm tm' m m' s s' w a u fin Q h; cases h

/-! ### Functions -/
theorem ofList_get : ∀ (l : List EV) (k : Nat) (t : T EV) (j : Nat) (y : EV), T.get (ofList l k t) j = some y → (k ≤ j ∧ l[j - k]? = some y) ∨ T.get t j = some y
  | [], k, t, j, y, h => .inr h
  | x :: l, k, t, j, y, h => by
    rcases ofList_get l (k + 1) (T.set t k x) j y h with ⟨h1, h2⟩ | h
    · refine .inl ⟨by omega, ?_⟩
      rw [show j - k = (j - (k + 1)) + 1 by omega]
      simpa using h2
    · rcases get_set h with ⟨rfl, rfl⟩ | ⟨_, h⟩
      · exact .inl ⟨Nat.le_refl _, by simp⟩
      · exact .inr h
/-- The temporaries that a function begins with. -/
theorem ofList_sound {l : List EV} {args : Array Value} {n : Nat} (h : denL ρ l = some args.toList) : TR ρ (Nat.max l.length n) (ofList l 0 .e) (args ++ Array.replicate (n - args.size) undef) := by
  have hl : args.size = l.length := by have := denL_len h; simpa using this
  refine ⟨?_, fun k y hk => ?_⟩
  · rw [Array.size_append, Array.size_replicate, hl]
    show _ = max l.length n
    omega
  · rcases ofList_get l 0 .e k y hk with ⟨_, h1⟩ | h1
    · obtain ⟨v, h2, h3⟩ := denL_get h _ _ h1
      have h2 : args.toList[k]? = some v := h2
      refine ⟨v, ?_, h3⟩
      rw [Array.getElem?_toList] at h2
      rw [Array.getElem?_append_left (by
        rcases Array.getElem?_eq_some_iff.1 h2 with ⟨q, _⟩
        exact q)]
      exact h2
    · rw [get_e] at h1; cases h1
/-- No function with a body bears the name that the model serves by itself. -/
def Named (P : Program) : Prop := ∀ (f : FuncId) (fn : Func), P.funcs[f]? = some fn → fn.body.isSome = true → (fn.name == "runtime.NumGoroutine") = false
theorem enter_run {f : FuncId} {fo : Func} {b : Code} (hng : Named P) (hf : P.funcs[f]? = some fo) (hb : fo.body = some b) (cap args : Array Value) : (invoke (.fn (.func f) cap) args).run P w = .ok (.enter f (args ++ cap)) w := by
  simp only [invoke, callFunc, Sem.run_bind, run_program, Result.andThen_ok, hf]
  rw [hng f fo hf (by rw [hb]; rfl)]
  have hn : fo.body.isNone = false := by rw [hb]; rfl
  rw [hn]; rfl
theorem Fine.weak {ρ' : Env} {v : Value} (H : ρ.le ρ') (h : Fine κ P ρ' x s' v w) : Fine κ P ρ x s' v w := by
  obtain ⟨ρ2, h1, h2⟩ := h
  exact ⟨ρ2, Env.le_trans H h1, h2⟩
theorem frame_mode {c₀ : Frame} {u : FrameMode} (h : c₀.mode = u) : ({ c₀ with mode := u } : Frame) = c₀ := by subst h; rfl
/-- A function is left: its deferred calls, its results. -/
theorem leave_sound (hng : Named P) (hC : CSound κ P C) (hR : Rest κ P C) (hk : cx.toKit = ⟨P, C⟩) {ρ₀ : Env} {fn : Func} {tmps : Array Value} {r : RO} (hok : r = .val x s' ∨ r = .pan x s') : ∀ (ds : List EDef) {es : List Deferred} {ρ : Env} {m : Option EV} {u : FrameMode} {s : ES} {w : World},
    leave fn cx tm ds m s = r → ρ₀.le ρ → S κ P ρ s w → TR ρ N tm tmps → DR ρ ds es → MR ρ m u →
    LeavesInM (EF P none) 0 P fn tmps (KE (fun v w' => r = .val x s' ∧ Fine κ P ρ₀ x s' v w') (fun v w' => r = .pan x s' ∧ Fine κ P ρ₀ x s' v w')) es u w := by
  have hP : cx.P = P := by rw [show cx.P = cx.toKit.P from rfl, hk]
  have hne : r ≠ .bad := by rcases hok with rfl | rfl <;> simp
  intro ds
  induction ds with
  | nil =>
    intro es ρ m u s w h hle hS ht hd hm
    cases hd
    cases m with
    | none =>
      cases u <;> first | exact hm.elim | skip
      obtain ⟨l, h1, h⟩ := bR_ne (show (bR (evRes cx.P tm s fn.results.toList) fun l => .val (oneR l) s) = r from h) hne
      rw [hP] at h1
      obtain ⟨v, h2, h3⟩ := results_sound hS ht h1
      refine ⟨v, h2, ?_⟩
      subst h
      rcases hok with hok | hok
      · obtain ⟨rfl, rfl⟩ := val_inj.1 hok
        exact ⟨rfl, ρ, hle, hS, h3⟩
      · cases hok
    | some y =>
      cases u <;> first | exact hm.elim | skip
      obtain ⟨v, rfl, hv⟩ := hm
      refine ⟨v, rfl, ?_⟩
      have h : RO.pan y s = r := h
      subst h
      rcases hok with hok | hok
      · cases hok
      · cases hok
        exact ⟨rfl, ρ, hle, hS, hv⟩
  | cons d ds ih =>
    intro es ρ m u s w h hle hS ht hd hm
    cases hd with
    | @cons _ e _ es h1 h2 =>
    have hrun : u ≠ .run := by
      intro hu
      subst hu
      cases m <;> exact hm.elim
    refine ⟨hrun, ?_⟩
    cases h1 with
    | @mark b re hb =>
      obtain ⟨y, h3, h⟩ := bR_ne (show (bR (T.get s.h b) fun x => cnd (isDfr x) (leave fn cx tm ds m { h := T.put 24 s.h b none, n := s.n }) .bad) = r from h) hne
      obtain ⟨h4, h⟩ := cnd_ne h hne
      have hy : y = .dfr := by cases y <;> first | rfl | cases h4
      subst hy
      obtain ⟨e', he', hob⟩ := hS.obj _ _ h3
      rw [hb] at he'
      cases he'
      refine .inl ⟨re.b, _, rfl, take_run hob, ?_⟩
      refine ih h hle (gone_obj hS h3 hb (fun y eu hs => ?_)) ht h2 hm
      cases y <;> exact hs.elim
    | @fn f as cap args vs hv hvs =>
      obtain ⟨g, h3, h⟩ := bR_ne (show (bR (funcA cx.P f) fun g => bR g.body fun b => lateEnd cx g (leave fn cx tm ds) (evCodeS b { cx with N := Nat.max as.length g.ntmps, rd := none } (ofList as 0 .e) (bO m fun x => some (x, false)) s)) = r from h) hne
      obtain ⟨b, h4, h⟩ := bR_ne h hne
      rw [hP, funcA_eq] at h3
      refine .inr ⟨fun hn => (by cases hn), .func f, cap, f, args ++ cap, rfl, enter_run hng h3 h4 cap args, fun g' hg => (by cases (show some f = some g' from hg); exact ⟨g, h3⟩), ?_⟩
      cases hr : evCodeS b { cx with N := Nat.max as.length g.ntmps, rd := none } (ofList as 0 .e) (bO m fun x => some (x, false)) s with
      | bad => rw [hr] at h; exact absurd h.symm hne
      | ok fin tm2 m2 s2 =>
        rw [hr] at h
        obtain ⟨l, h5, h⟩ := bR_ne (show (bR (evRes cx.P tm2 s2 g.results.toList) fun _ => leave fn cx tm ds (settleE m2) s2) = r from h) hne
        rw [hP] at h5
        refine callsDIn_of_wpSIn h3 h4 ⟨g, h3⟩ (fun c₀ cs hu => ?_)
        rw [← frame_mode hu]
        refine evCodeS_sound hC hR (cx := { cx with N := Nat.max as.length g.ntmps, rd := none }) hk rfl b hr hS (ofList_sound (by rw [hv, hvs]; simp)) rfl hm.ms ?_
        intro ρ' w' a' u' q1 q2 q3 q4 q5
        obtain ⟨v, h6, h7⟩ := results_sound q2 q3 h5
        have fine : LeavesInM (EF P none) 0 P fn tmps (KE (fun v w' => r = .val x s' ∧ Fine κ P ρ₀ x s' v w') (fun v w' => r = .pan x s' ∧ Fine κ P ρ₀ x s' v w')) es (settle u') w' :=
          ih h (Env.le_trans hle q1) q2 (ht.mono q1) (h2.mono q1) q5.settle
        cases fin <;> exact ⟨q4, u', rfl, v, h6, fine⟩
/-- A function with a body. -/
theorem callFn_sound (hng : Named P) (hC : CSound κ P C) (hR : Rest κ P C) {lim : Nat} {f : FuncId} {p q xs : List EV} {p' q' vs : List Value} {r : RO} (hS : S κ P ρ s w) (hp : denL ρ p = some p') (hq : denL ρ q = some q') (hx : denL ρ xs = some vs) (h : callFn P lim C f (p ++ xs ++ q) (callExt f (p ++ xs) q P s) s = r) (hok : r = .val x s' ∨ r = .pan x s') :
    Invk P (.func (.func f) p'.toArray q'.toArray) vs.toArray w (fun v w' => r = .val x s' ∧ Fine κ P ρ x s' v w') (fun v w' => r = .pan x s' ∧ Fine κ P ρ x s' v w') := by
  have hne : r ≠ .bad := by rcases hok with rfl | rfl <;> simp
  obtain ⟨fo, hf, h⟩ := bR_ne h hne
  rw [funcA_eq] at hf
  cases hb : fo.body with
  | none =>
    rw [hb] at h
    exact callExt_sound hS hf hp hq hx h hok
  | some b =>
    rw [hb] at h
    have h : callEnd fo { P, C, lim, N := Nat.max (p ++ xs ++ q).length fo.ntmps, rd := none } (evCode b { P, C, lim, N := Nat.max (p ++ xs ++ q).length fo.ntmps, rd := none } (ofList (p ++ xs ++ q) 0 .e) [] s) = r := h
    refine ⟨fun d w' hd g hg => ?_, ?_⟩
    · cases (show Result.ok _ w = Result.ok d w' from hd)
      cases (show some f = some g from hg)
      exact ⟨fo, hf⟩
    · have hrun : (do let d ← Deferred.ofValue (.func (.func f) p'.toArray q'.toArray) vs.toArray; invoke d.target d.args : Sem Next).run P w = .ok (.enter f (p'.toArray ++ vs.toArray ++ q'.toArray)) w :=
        enter_run hng hf hb q'.toArray (p'.toArray ++ vs.toArray)
      rw [hrun]
      show CallsIn (EF P none) 0 P f (p'.toArray ++ vs.toArray ++ q'.toArray) w _
      cases hr : evCode b { P, C, lim, N := Nat.max (p ++ xs ++ q).length fo.ntmps, rd := none } (ofList (p ++ xs ++ q) 0 .e) [] s with
      | bad => rw [hr] at h; exact absurd h.symm hne
      | ok e tm2 df s2 =>
        rw [hr] at h
        refine callsIn_of_wp_marks hf hb ⟨fo, hf⟩ ?_
        refine evCode_ok hC hR b (cx := { P, C, lim, N := Nat.max (p ++ xs ++ q).length fo.ntmps, rd := none }) rfl hr hS (ofList_sound (by rw [denL_app (denL_app hp hx) hq]; simp)) .nil trivial ?_
        intro ρ' w' a' e' q1 q2 q3 q4 q5
        cases e with
        | exit i => exact absurd h.symm hne
        | normal =>
          cases e' <;> first | exact q5.elim | skip
          exact leave_sound hng hC hR (cx := { P, C, lim, N := Nat.max (p ++ xs ++ q).length fo.ntmps, rd := none }) rfl hok df h q1 q2 q3 q4 trivial
        | ret =>
          cases e' <;> first | exact q5.elim | skip
          exact leave_sound hng hC hR (cx := { P, C, lim, N := Nat.max (p ++ xs ++ q).length fo.ntmps, rd := none }) rfl hok df h q1 q2 q3 q4 trivial
        | panic y =>
          cases e' <;> first | exact q5.elim | skip
          exact leave_sound hng hC hR (cx := { P, C, lim, N := Nat.max (p ++ xs ++ q).length fo.ntmps, rd := none }) rfl hok df h q1 q2 q3 q4 q5
/-- A call. -/
theorem callTab_sound (hng : Named P) (hC : CSound κ P C) (hR : Rest κ P C) (lim : Nat) : CSound κ P (fun f xs s => callTab f P lim C xs s) := by
  intro ρ s w f xs fv vs hS hf hx
  have key : ∀ x s' r, callTab f P lim C xs s = r → (r = .val x s' ∨ r = .pan x s') → Invk P fv vs.toArray w (fun v w' => r = .val x s' ∧ Fine κ P ρ x s' v w') (fun v w' => r = .pan x s' ∧ Fine κ P ρ x s' v w') := by
    intro x s' r h hok
    have hne : r ≠ .bad := by rcases hok with rfl | rfl <;> simp
    cases f with
    | fn f p q =>
      simp only [EV.den] at hf
      split at hf
      · rename_i p' q' h1 h2
        have hf := Option.some.inj hf
        subst hf
        exact callFn_sound hng hC hR hS h1 h2 hx h hok
      · cases hf
    | yld l =>
      simp only [EV.den, Option.map_eq_some_iff] at hf
      obtain ⟨el, h1, rfl⟩ := hf
      exact callRound_sound hC hR hS h1 hx h hok
    | _ => exact absurd h.symm hne
  constructor
  · intro x s' h
    exact (key x s' _ h (.inl rfl)).mono (fun v w' h => h.2) (fun v w' h => by cases h.1)
  · intro x s' h
    exact (key x s' _ h (.inr rfl)).mono (fun v w' h => by cases h.1) (fun v w' h => h.2)
end
end Go.Eva
