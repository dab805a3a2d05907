/-
  An evaluator of calls at closed inputs, part t: ranges over functions.
-/
import Derived.Test.YtmeijmmfkgpamaaGreatEs
namespace Go.Eva
open Go.RowKit
set_option linter.unusedVariables false
set_option linter.unusedSimpArgs false
section
variable {κ : Ctx} {P : Program} {C : CallFn} {ρ : Env} {s s' : ES} {w : World}

/-- A function with a body that is called is entered. -/
theorem invk_enter {f : EV} {fv : Value} {vs : Array Value} {K Kp : Value → World → Prop} (hb : bodied P f = true) (hf : f.den ρ = some fv) (h : Invk P fv vs w K Kp) :
    ∃ d g args, (Deferred.ofValue fv vs).run P w = .ok d w ∧ (∀ f', d.target.leads P w d.args = some f' → (EF P none).fn f') ∧ (invoke d.target d.args).run P w = .ok (.enter g args) w ∧ CallsIn (EF P none) 0 P g args w (KE K Kp) := by
  cases f with
  | fn fid p q =>
    simp only [EV.den] at hf
    split at hf
    · rename_i p' q' _ _
      have hf := Option.some.inj hf
      subst hf
      have h1 : (Deferred.ofValue (.func (.func fid) p'.toArray q'.toArray) vs).run P w = .ok { target := .fn (.func fid) q'.toArray, args := p'.toArray ++ vs } w := rfl
      obtain ⟨ha, h2⟩ := h
      rw [Sem.run_bind, h1, Result.andThen_ok] at h2
      refine ⟨_, fid, p'.toArray ++ vs ++ q'.toArray, h1, ha _ _ h1, ?_⟩
      have hb : (Option.rec false (fun fn => fn.body.isSome) (P.funcs[fid]?) : Bool) = true := by rw [← funcA_eq]; exact hb
      cases hfn : P.funcs[fid]? with
      | none => rw [hfn] at hb; cases hb
      | some fn =>
        rw [hfn] at hb
        have hb : fn.body.isSome = true := hb
        have hn : fn.body.isNone = false := by cases hbb : fn.body <;> rw [hbb] at hb <;> first | rfl | cases hb
        have hi : (invoke (.fn (.func fid) q'.toArray) (p'.toArray ++ vs)).run P w = if fn.name == "runtime.NumGoroutine" then .ok .numGoroutine w else .ok (.enter fid (p'.toArray ++ vs ++ q'.toArray)) w := by
          simp only [invoke, callFunc, Sem.run_bind, run_program, Result.andThen_ok, hfn]
          split
          · rfl
          · rw [hn]; rfl
        simp only at h2 ⊢
        rw [hi] at h2 ⊢
        split at h2
        · exact h2.elim
        · rename_i hne
          rw [if_neg hne]
          exact ⟨rfl, h2⟩
    · cases hf
  | _ => cases hb
theorem asLoop_some {o : EO} {L : ELoop} (h : asLoop o = some L) : o = .loop L := by cases o <;> first | (cases h; done) | (cases h; rfl)
theorem getLoop_run {b : Nat} {r : Loop} (h : w.heap[b]? = some (.loop r)) : (Instr.getLoop b).run P w = .ok r w := by
  simp [Instr.getLoop, getObj, Sem.run, h]
theorem setLoop_run {b : Nat} {r r' : Loop} (h : w.heap[b]? = some (.loop r)) : (setObj b (.loop r')).run P w = .ok () (setO w b (.loop r')) := by
  simp [setObj, Sem.run, h, setO]
/-- The call of the function that is ranged over, and what comes behind it. -/
theorem rangeGo_sound (hC : CSound κ P C) {cx : Cx} {g : Operand} {f : EV} {ps : Array Tmp} {as bd : Code} {tm tm' : T EV} {df df' : List EDef} {a : Act} {e : EX} {Q : Exit → Act → World → Prop} {ro : Option Nat} {r : Nat} {re : RE} {fn : FuncId} {mark : List Deferred} {fo : Func}
    (hk : cx.toKit = ⟨P, C⟩) (h : rangeGo f ps as bd r df cx tm s = .ok e tm' df' s') (hS : S κ P ρ s w) (ht : TR ρ cx.N tm a.tmps) (hf : f.den ρ = some (a.eval g)) (hr : ρ r = some re) (hfn : P.funcs[fn]? = some fo)
    (hd : DR ρ df (mark ++ a.defers)) (hQ : Post κ P ρ cx.N e tm' df' s' Q) :
    ∃ d fid args, (resolve a.eval (rangeCall g w.heap.size) 0).run P (w.alloc (.loop { state := .ready, pending := none, fn, tmps := a.tmps, params := ps, assign := as, body := bd, defers := re.b })) = .ok d (w.alloc (.loop { state := .ready, pending := none, fn, tmps := a.tmps, params := ps, assign := as, body := bd, defers := re.b })) ∧
      (∀ f', d.target.leads P (w.alloc (.loop { state := .ready, pending := none, fn, tmps := a.tmps, params := ps, assign := as, body := bd, defers := re.b })) d.args = some f' → (EF P ro).fn f') ∧
      (invoke d.target d.args).run P (w.alloc (.loop { state := .ready, pending := none, fn, tmps := a.tmps, params := ps, assign := as, body := bd, defers := re.b })) = .ok (.enter fid args) (w.alloc (.loop { state := .ready, pending := none, fn, tmps := a.tmps, params := ps, assign := as, body := bd, defers := re.b })) ∧
      CallsIn (EF P ro) 0 P fid args (w.alloc (.loop { state := .ready, pending := none, fn, tmps := a.tmps, params := ps, assign := as, body := bd, defers := re.b })) (rangePost (EF P ro) 0 P w.heap.size Q { a with defers := mark ++ a.defers }) := by
  have hP : cx.P = P := by rw [show cx.P = cx.toKit.P from rfl, hk]
  have hCC : cx.C = C := by rw [show cx.C = cx.toKit.C from rfl, hk]
  obtain ⟨hb, h⟩ := cndX_ok (show cnd (bodied cx.P f) (rangeEnd s.n tm df (cx.C f [.yld s.n] (newObj s (.loop { state := .ready, pending := none, tm, N := cx.N, params := ps, assign := as, body := bd, defers := r })))) .bad = .ok e tm' df' s' from h)
  rw [hP] at hb
  rw [hCC] at h
  generalize hw1 : w.alloc (.loop { state := .ready, pending := none, fn, tmps := a.tmps, params := ps, assign := as, body := bd, defers := re.b }) = w1
  have hle : ρ.le (ρ.ext s.n ⟨w.heap.size, 0, 0, 0⟩) := Env.ext_le (hS.none (Nat.le_refl _))
  have hS1 : S κ P (ρ.ext s.n ⟨w.heap.size, 0, 0, 0⟩) (newObj s (.loop { state := .ready, pending := none, tm, N := cx.N, params := ps, assign := as, body := bd, defers := r })) w1 := by
    rw [← hw1]
    exact hS.fresh (cap := 0) (sz := 0) (show OBl P _ _ _ _ from ⟨_, re, alloc_eq, rfl, rfl, rfl, rfl, rfl, ht.mono hle, hle _ _ hr, rfl, fo, hfn⟩)
  have hy : denL (ρ.ext s.n ⟨w.heap.size, 0, 0, 0⟩) [.yld s.n] = some [.func (.yield w.heap.size) #[] #[]] := by
    simp only [denL, EV.den, Env.ext_same, Option.map_some]
  have hc := hC _ _ _ f [.yld s.n] _ _ hS1 (den_mono hle _ _ hf) hy
  have fin : ∀ K Kp, Invk P (a.eval g) [Value.func (.yield w.heap.size) #[] #[]].toArray w1 K Kp → (∀ e w', KE K Kp e w' → rangePost (EF P ro) 0 P w.heap.size Q { a with defers := mark ++ a.defers } e w') →
      ∃ d fid args, (resolve a.eval (rangeCall g w.heap.size) 0).run P w1 = .ok d w1 ∧ (∀ f', d.target.leads P w1 d.args = some f' → (EF P ro).fn f') ∧ (invoke d.target d.args).run P w1 = .ok (.enter fid args) w1 ∧
      CallsIn (EF P ro) 0 P fid args w1 (rangePost (EF P ro) 0 P w.heap.size Q { a with defers := mark ++ a.defers }) := by
    intro K Kp hi hm
    obtain ⟨d, g', args, h1, h2, h3, h4⟩ := invk_enter hb (den_mono hle _ _ hf) hi
    have hres : resolve a.eval (rangeCall g w.heap.size) 0 = Deferred.ofValue (a.eval g) [Value.func (.yield w.heap.size) #[] #[]].toArray := by
      simp only [resolve, rangeCall, List.map_toArray, List.map_cons, List.map_nil]; rfl
    exact ⟨d, g', args, by rw [hres]; exact h1, h2, h3, callsIn_rd (CallsIn.mono h4 hm)⟩
  cases hr1 : C f [.yld s.n] (newObj s (.loop { state := .ready, pending := none, tm, N := cx.N, params := ps, assign := as, body := bd, defers := r })) with
  | val x s3 =>
    rw [hr1] at h
    obtain ⟨L, h1, h⟩ := bX_ok (show bX (bO (T.get s3.h s.n) asLoop) _ = .ok e tm' df' s' from h)
    obtain ⟨h2, h⟩ := cndX_ok h
    obtain ⟨e1, h3, h⟩ := bX_ok h
    obtain ⟨y, h4, h5⟩ := bO_some.1 h1
    have h5 := asLoop_some h5
    subst h5
    refine fin _ _ (hc.1 x s3 hr1) (fun en w3 hen => ?_)
    cases en with
    | outgrown => exact hen.elim
    | panicked ch => obtain ⟨_, _, hen⟩ := hen; exact hen.elim
    | returned v =>
      obtain ⟨ρ3, l3, S3, d3⟩ := hen
      obtain ⟨eL, hL, rr, e', q1, q2, q3, q4, q5, q6, q7, q8, q9, q10⟩ := S3.obj _ _ h4
      have heL : eL = ⟨w.heap.size, 0, 0, 0⟩ := by
        have := l3 _ _ (Env.ext_same ρ s.n ⟨w.heap.size, 0, 0, 0⟩)
        rw [this] at hL; exact (Option.some.inj hL).symm
      subst heL
      have hle3 : ρ.le ρ3 := Env.le_trans hle l3
      have hnb : rr.state ≠ .busy := by
        rw [q2]; intro hb; rw [hb] at h2; cases h2
      have hend : (Instr.endLoop w.heap.size).run P w3 = .ok L.pending (setO w3 w.heap.size (.loop { rr with state := .exhausted })) := by
        have hbe : (rr.state == .busy) = false := by
          cases hs : rr.state <;> first | rfl | exact absurd hs hnb
        simp only [Instr.endLoop, Sem.run_bind, getLoop_run q1, Result.andThen_ok, hbe, Bool.false_eq_true, if_false, setLoop_run q1, Sem.run_pure, q3]
      have S4 : S κ P ρ3 { h := T.set s3.h s.n (.loop { L with state := .exhausted }), n := s3.n } (setO w3 w.heap.size (.loop { rr with state := .exhausted })) :=
        S3.change (x' := .loop { L with state := .exhausted }) hL (fun u z hu => (get_set hu).imp (fun ⟨p, q⟩ => ⟨p, q.symm⟩) id)
          (show OBl P _ _ _ _ from ⟨_, e', setO_same (S3.dom _ _ hL).2.2, rfl, q3, q4, q5, q6, q7, q8, q9, q10⟩) (fun u z eu hne hu heu hbb => by
            rcases get_set hu with ⟨p, _⟩ | ⟨_, hu⟩
            · exact absurd p hne
            · have := S3.sep u _ z _ eu _ hne hu h4 heu hL hbb
              cases z <;> exact this.elim)
      cases (show R.ok e1 tm df _ = R.ok e tm' df' s' from h)
      refine ⟨L.pending, _, hend, ?_⟩
      have at' : ∀ ex', XR ρ3 e ex' → Q ex' { a with defers := mark ++ a.defers } (setO w3 w.heap.size (.loop { rr with state := .exhausted })) := fun ex' hx =>
        hQ ρ3 _ { a with defers := mark ++ a.defers } ex' hle3 S4 (ht.mono hle3) (hd.mono hle3) hx
      cases hp : L.pending with
      | none => rw [hp] at h3; cases h3; exact at' .normal trivial
      | some c =>
        rw [hp] at h3
        cases c <;> first | (cases h3; done) | skip
        · cases h3; exact wpIn_exit (at' _ rfl)
        · cases h3; exact wpIn_ret (at' _ trivial)
  | pan x s3 =>
    rw [hr1] at h
    cases (show R.ok (.panic x) tm df s3 = .ok e tm' df' s' from h)
    refine fin _ _ (hc.2 x _ hr1) (fun en w3 hen => ?_)
    cases en with
    | outgrown => exact hen.elim
    | returned v => exact hen.elim
    | panicked ch =>
      obtain ⟨v, rfl, ρ3, l3, S3, d3⟩ := hen
      have hle3 : ρ.le ρ3 := Env.le_trans hle l3
      exact hQ ρ3 w3 { a with defers := mark ++ a.defers } _ hle3 S3 (ht.mono hle3) (hd.mono hle3) ⟨v, rfl, d3⟩
  | bad => rw [hr1] at h; cases h
  | keep x => rw [hr1] at h; cases h
  | dfr d => rw [hr1] at h; cases h
theorem range_ok (hC : CSound κ P C) (g : Operand) (ps : Array Tmp) (as bd : Code) : CodeOk κ P C (.rangeFunc g ps as bd) (cRange g ps as bd) := by
  intro cx ρ tm tm' df df' s s' w a ro e Q hk h hS ht hd hrd hQ
  obtain ⟨f, h1, h⟩ := bX_ok (show bX (ev tm g) (fun f => rangeIn f ps as bd cx tm df s cx.rd) = .ok e tm' df' s' from h)
  have hf := ev_sound ht h1
  refine wpIn_rangeFunc (fun fn hfn => ?_)
  obtain ⟨fo, hfo⟩ := hfn
  cases hcr : cx.rd with
  | none =>
    rw [hcr] at h hrd
    have hro : ro = none := by cases ro <;> first | rfl | exact hrd.elim
    subst hro
    have hle : ρ.le (ρ.ext s.n ⟨w.heap.size, 0, 0, 0⟩) := Env.ext_le (hS.none (Nat.le_refl _))
    have S1 : S κ P (ρ.ext s.n ⟨w.heap.size, 0, 0, 0⟩) (newObj s .dfr) (w.alloc (.deferred (some []))) := hS.fresh (cap := 0) (sz := 0) (show OB P _ .dfr _ _ from alloc_eq)
    obtain ⟨d, fid, args, r1, r2, r3, r4⟩ := rangeGo_sound (ro := none) hC hk h S1 (ht.mono hle) (den_mono hle _ _ hf) (Env.ext_same _ _ _) hfo (mark := [{ target := .collected w.heap.size, args := #[] }]) (.cons (.mark (Env.ext_same _ _ _)) (hd.mono hle)) (hQ.mono hle)
    exact ⟨(w.alloc (.deferred (some []))).heap.size, [{ target := .collected w.heap.size, args := #[] }], _, d, _, fid, args, _, rfl, r1, r2, r3, fun h => (by cases h), r4⟩
  | some l =>
    rw [hcr] at h hrd
    cases ro with
    | none => exact hrd.elim
    | some b =>
      obtain ⟨el, hel, heb⟩ := hrd
      obtain ⟨L, h2, h⟩ := bX_ok (show bX (bO (T.get s.h l) asLoop) (fun L => rangeGo f ps as bd L.defers df cx tm s) = .ok e tm' df' s' from h)
      obtain ⟨y, h4, h5⟩ := bO_some.1 h2
      have h5 := asLoop_some h5
      subst h5
      obtain ⟨eL, hL, rr, e', q1, q2, q3, q4, q5, q6, q7, q8, q9, q10⟩ := hS.obj _ _ h4
      rw [hel] at hL
      cases hL
      rw [heb] at q1
      obtain ⟨d, fid, args, r1, r2, r3, r4⟩ := rangeGo_sound (ro := some b) hC hk h hS ht hf q8 hfo (mark := []) hd hQ
      refine ⟨w.heap.size, [], _, d, _, fid, args, _, ?_, r1, r2, r3, fun h => (by cases h), r4⟩
      show (Instr.enterLoop fn a.tmps ps as bd (some b)).run P w = _
      simp only [Instr.enterLoop, Sem.run_bind, getLoop_run q1, Result.andThen_ok, Sem.run_pure, run_newObj, q9]
      rfl
end
end Go.Eva
