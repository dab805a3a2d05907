/-
  The abstract layer, part f: an operation, a list of operations, a piece of code, a function.
-/
import Derived.Test.YtaeacialcbahnaaMe
namespace Go.Abs
open Go.RowKit

section
variable {κ : Ctx} {P : Program} {φ : List Res} {g : Nat → Nat} {w : World} {K : AV → List Res → Prop} {KP : List PanicEntry → List Res → Prop} {rd : Option Nat}

theorem FD_fn (rd : Option Nat) (f : FuncId) : (FD rd).fn f := by cases rd <;> exact trivial
theorem FD_depth (rd : Option Nat) : (FD rd).depth = none := by cases rd <;> rfl
theorem FD_need {rd : Option Nat} {p : Prop} : (FD rd).depth.isSome = true → p := by rw [FD_depth]; intro h; cases h
theorem callsIn_FD {f : FuncId} {args : Array Value} {R : Ending → World → Prop} (h : CallsIn Fence.wide 0 P f args w R) (rd : Option Nat) (n : Nat) : CallsIn (FD rd) n P f args w R := by
  have h' : CallsIn Fence.wide n P f args w R := callsIn_wide.2 (callsIn_wide.1 h)
  cases rd with
  | none => exact h'
  | some l => exact h'
theorem roundIn_FD {l : Nat} {f : FuncId} {tmps : Array Value} {assign body : Code} {R : Ending → World → Prop} (h : RoundIn Fence.wide 0 P l f tmps assign body w R) (rd : Option Nat) (n : Nat) : RoundIn (FD rd) n P l f tmps assign body w R := by
  have h' : RoundIn Fence.wide n P l f tmps assign body w R := ⟨trivial, fun c cs hr => h.2 c cs (room_wide _)⟩
  cases rd with
  | none => exact h'
  | some l => exact h'

theorem semAt_FD {o : Oper} (hd : ∀ c, o.op ≠ .defer c) (rd : Option Nat) (ρ : Operand → Value) : o.semAt (FD rd).round ρ = execOp ρ o := by
  cases rd with
  | none => rfl
  | some l => exact Oper.semAt_some l ρ o hd

theorem wpIn_run {o : Oper} {a : Act} {next : Act → World → Prop} {Q : Exit → Act → World → Prop} (hd : ∀ c, o.op ≠ .defer c) (h : o.uponIn (FD rd) 0 P a next Q ((execOp a.eval o).run P w)) : o.wpIn (FD rd) 0 P a w next Q := by
  refine ⟨fun f _ => FD_fn rd f, ?_⟩
  rw [semAt_FD hd]
  exact h

/-- What a state's continuation is asked. -/
def NextR (κ : Ctx) (φ : List Res) (g : Nat → Nat) (w : World) (s : St) (dst : Option Tmp) (K : AV → List Res → Prop) (next : Act → World → Prop) : Prop :=
  ∀ g' a' w' x σ', SR κ φ g' { s with t := setT s.t dst x, σ := σ' } a' w' → GE g w g' w' → K x σ' → next a' w'

theorem next_of_does {s : St} {a : Act} {o : Oper} {sem : Sem Value} {next : Act → World → Prop} (hs : SR κ φ g s a w) (h : ∀ φ, Does κ P φ s.σ g w sem K) (hn : NextR κ φ g w s o.dst K next) :
    ∃ v w', sem.run P w = .ok v w' ∧ next (a.put o.dst v) w' := by
  obtain ⟨ds, hd, hfr, hR, ht⟩ := hs
  rw [← List.append_assoc] at hR
  obtain ⟨v, w', g', x, σ', hrun, hR', hge, hv, hk⟩ := h _ hR
  refine ⟨v, w', hrun, hn g' _ w' x σ' ⟨ds, ?_, hfr, by rw [← List.append_assoc]; exact hR', ?_⟩ hge hk⟩
  · show (a.put o.dst v).defers = _
    have : (a.put o.dst v).defers = a.defers := by cases o.dst <;> rfl
    rw [this]; exact hd
  · obtain ⟨tm, df⟩ := a
    exact (TR.put (ht.mono hge) o.dst hv df)

theorem wpIn_does {s : St} {a : Act} {o : Oper} {sem : Sem Value} {next : Act → World → Prop} {Q : Exit → Act → World → Prop} (hd : ∀ c, o.op ≠ .defer c) (he : execOp a.eval o = (do pure (.value (← sem)))) (hs : SR κ φ g s a w)
    (h : ∀ φ, Does κ P φ s.σ g w sem K) (hn : NextR κ φ g w s o.dst K next) : o.wpIn (FD rd) 0 P a w next Q := by
  obtain ⟨v, w', hrun, hnx⟩ := next_of_does hs h hn
  refine wpIn_run hd ?_
  rw [he]
  simp only [Sem.run_bind, hrun, Result.andThen_ok, Sem.run_pure, Oper.uponIn_value]
  exact hnx

theorem wpIn_does_unit {s : St} {a : Act} {o : Oper} {sem : Sem Unit} {next : Act → World → Prop} {Q : Exit → Act → World → Prop} (hd : ∀ c, o.op ≠ .defer c) (he : execOp a.eval o = (do sem; pure .skip)) (hs : SR κ φ g s a w)
    (h : ∀ φ, Does κ P φ s.σ g w (do sem; pure undef) (fun _ σ' => K .any σ')) (hn : NextR κ φ g w s o.dst K next) : o.wpIn (FD rd) 0 P a w next Q := by
  have h' : ∀ φ, Does κ P φ s.σ g w (do sem; pure undef) K := fun φ hR => by
    obtain ⟨v, w', g', x, σ', h1, h2, h3, h4, h5⟩ := h φ hR
    exact ⟨v, w', g', .any, σ', h1, h2, h3, .any _, h5⟩
  obtain ⟨v, w', hrun, hnx⟩ := next_of_does hs h' hn
  refine wpIn_run hd ?_
  rw [he]
  simp only [Sem.run_bind] at hrun ⊢
  cases hr : sem.run P w with
  | halt x w1 => rw [hr] at hrun; cases hrun
  | ok u w1 =>
    rw [hr] at hrun
    simp only [Result.andThen_ok, Sem.run_pure, Result.ok.injEq] at hrun ⊢
    obtain ⟨rfl, rfl⟩ := hrun
    exact hnx

theorem SR.tr {s : St} {a : Act} (hs : SR κ φ g s a w) : TR g w s.t a.tmps := by obtain ⟨_, _, _, _, h⟩ := hs; exact h

theorem TR.append {xs ys : List AV} {vs us : Array Value} (h : TR g w xs vs) (h2 : TR g w ys us) : TR g w (xs ++ ys) (vs ++ us) := by
  refine ⟨by simp [h.size, h2.size], fun k z hk => ?_⟩
  by_cases hlt : k < xs.length
  · rw [List.getElem?_append_left hlt] at hk
    have := h.get k z hk
    rw [Array.getD_eq_getD_getElem?, Array.getElem?_append_left (by rw [h.size]; exact hlt), ← Array.getD_eq_getD_getElem?]
    exact this
  · rw [List.getElem?_append_right (by omega)] at hk
    have := h2.get _ z hk
    rw [Array.getD_eq_getD_getElem?, Array.getElem?_append_right (by rw [h.size]; omega), h.size, ← Array.getD_eq_getD_getElem?]
    exact this

theorem TR.raws (vs : Array Value) : TR g w (vs.toList.map .raw) vs := by
  refine ⟨by simp, fun k z hk => ?_⟩
  rw [List.getElem?_map] at hk
  cases hx : vs.toList[k]? with
  | none => simp [hx] at hk
  | some u =>
    simp [hx] at hk
    subst hk
    have : vs.getD k undef = u := by
      have : vs[k]? = some u := by simpa using hx
      simp [Array.getD_eq_getD_getElem?, this]
    rw [this]; exact .raw _

theorem next_put {s : St} {a : Act} {dst : Option Tmp} {x : AV} {v : Value} {next : Act → World → Prop} {σ' : List Res} {g' : Nat → Nat} {w' : World} {ds : List Nat} (hd : a.defers = ds.map mkMark ++ s.df) (hfr : s.fr = true → ds = [])
    (ht : TR g w s.t a.tmps) (hn : NextR κ φ g w s dst K next) (hR : Rel κ g' ((φ ++ ds.map dres) ++ σ') w') (hge : GE g w g' w') (hv : VR g' w' x v) (hk : K x σ') : next (a.put dst v) w' := by
  refine hn g' _ w' x σ' ⟨ds, ?_, hfr, by rw [← List.append_assoc]; exact hR, ?_⟩ hge hk
  · show (a.put dst v).defers = _
    have : (a.put dst v).defers = a.defers := by cases dst <;> rfl
    rw [this]; exact hd
  · obtain ⟨tm, df⟩ := a
    exact (TR.put (ht.mono hge) dst hv df)

theorem callFunc_run {f : FuncId} {fn : Func} (hf : P.funcs[f]? = some fn) (h1 : (fn.name == "runtime.NumGoroutine") = false) (h2 : fn.body.isNone = false) (args : Array Value) (w : World) : (callFunc f args).run P w = .ok (.enter f args) w := by
  simp only [callFunc, Sem.run_bind, run_program, Result.andThen_ok, hf, h1, h2, Bool.false_eq_true, if_false, Sem.run_pure]

/-- A call of a function value. -/
theorem call_sound {s : St} {a : Act} {o : Oper} {f : Operand} {xs : Array Operand} {ts : Array TypeId} {next : Act → World → Prop} {Q : Exit → Act → World → Prop} (ho : o.op = .call { callee := .value f, args := xs, argTypes := ts }) (hs : SR κ φ g s a w)
    (h : ACallV κ P (s.ev f) (xs.toList.map s.ev) s.σ fun r σ' => match r with | .ret x => K x σ' | .pan c => KP c σ') (hn : NextR κ φ g w s o.dst K next)
    (hp : ∀ g' w' c σ', SR κ φ g' { s with σ := σ' } a w' → GE g w g' w' → KP c σ' → Q (.panic c) a w') : o.wpIn (FD rd) 0 P a w next Q := by
  refine wpIn_run (by rw [ho]; simp) ?_
  obtain ⟨ds, hd, hfr, hR, ht⟩ := hs
  have hR0 := hR
  rw [← List.append_assoc] at hR
  have hf := ev_sound ht f
  have hxs := ht.map_ev xs.toList
  have e : ((xs.toList.map a.eval).toArray) = xs.map a.eval := by apply Array.ext'; simp
  rw [e] at hxs
  have hexec : execOp a.eval o = (do let d ← resolve a.eval { callee := .value f, args := xs, argTypes := ts } o.type; invoke d.target d.args) := by
    simp only [execOp, ho]
  rw [hexec]
  unfold ACallV at h
  split at h
  · rename_i fid first cap hev
    rw [hev] at hf
    have hf' := hf.raw_eq
    obtain ⟨⟨fn, hfn, hn1, hn2⟩, hcall⟩ := h
    have hrun : (do let d ← resolve a.eval { callee := .value f, args := xs, argTypes := ts } o.type; invoke d.target d.args : Sem Next).run P w = .ok (.enter fid (first ++ xs.map a.eval ++ cap)) w := by
      simp only [resolve, hf', Deferred.ofValue, Sem.run_bind, Sem.run_pure, Result.andThen_ok, invoke]
      exact callFunc_run hfn hn1 hn2 _ _
    rw [hrun, Oper.uponIn_enter]
    refine ⟨FD_need, callsIn_FD (CallsIn.mono (hcall _ g w _ hR (((TR.raws first).append hxs).append (TR.raws cap))) ?_) rd _⟩
    rintro e w' ⟨g', σ', r, hR', hge, her, hk⟩
    cases r with
    | ret x =>
      cases e with
      | returned v => exact next_put hd hfr ht hn hR' hge her hk
      | panicked c => exact her.elim
      | outgrown => exact her.elim
    | pan c =>
      cases e with
      | returned v => exact her.elim
      | panicked c' =>
        cases (show c' = c from her)
        exact hp g' w' c σ' ⟨ds, hd, hfr, by rw [← List.append_assoc]; exact hR', ht.mono hge⟩ hge hk
      | outgrown => exact her.elim
  · rename_i l first cap hev
    rw [hev] at hf
    have hf' := hf.raw_eq
    obtain ⟨f', tmps, assign, body, hy, hround⟩ := h _ g w (first ++ xs.map a.eval) hR ((TR.raws first).append hxs)
    have hrun : (do let d ← resolve a.eval { callee := .value f, args := xs, argTypes := ts } o.type; invoke d.target d.args : Sem Next).run P w = .ok (.round l f' tmps assign body) w := by
      simp only [resolve, hf', Deferred.ofValue, Sem.run_bind, Sem.run_pure, Result.andThen_ok, invoke]
      exact hy
    rw [hrun, Oper.uponIn_round]
    refine ⟨FD_need, roundIn_FD (RoundIn.mono hround ?_) rd _⟩
    rintro e w' ⟨g', σ', r, hR', hge, her, hk⟩
    cases r with
    | ret x =>
      cases e with
      | returned v => exact next_put hd hfr ht hn hR' hge her hk
      | panicked c => exact her.elim
      | outgrown => exact her.elim
    | pan c =>
      cases e with
      | returned v => exact her.elim
      | panicked c' =>
        cases (show c' = c from her)
        exact hp g' w' c σ' ⟨ds, hd, hfr, by rw [← List.append_assoc]; exact hR', ht.mono hge⟩ hge hk
      | outgrown => exact her.elim
  · exact h.elim

theorem builtin_exec {a : Act} {o : Oper} {b : Builtin} {xs : Array Operand} {ts : Array TypeId} (ho : o.op = .call { callee := .builtin b, args := xs, argTypes := ts }) : execOp a.eval o = builtin b ts o.type (xs.map fun | .const _ => true | _ => false) (xs.map a.eval) := by
  simp only [execOp, ho, resolve]
  rfl

theorem one_of_size {α : Type} {xs : Array α} (h : xs.size = 1) (d : α) : xs = #[xs.getD 0 d] := by
  match xs, h with
  | ⟨[x]⟩, _ => rfl
theorem two_of_size {α : Type} {xs : Array α} (h : xs.size = 2) (d : α) : xs = #[xs.getD 0 d, xs.getD 1 d] := by
  match xs, h with
  | ⟨[x, y]⟩, _ => rfl

theorem parts_eq (ps : Array (Nat × Operand)) (ρ : Operand → Value) : (((ps.toList.map (·.1)).zip (ps.toList.map fun p => ρ p.2)).toArray) = ps.map fun (i, x) => (i, ρ x) := by
  rw [List.zip_map']
  apply Array.ext'
  simp

theorem TR.map_ev2 {s : St} {a : Act} (ht : TR g w s.t a.tmps) (ps : Array (Nat × Operand)) : TR g w (ps.toList.map fun p => s.ev p.2) ((ps.toList.map fun p => a.eval p.2).toArray) := by
  have := ht.map_ev (ps.toList.map (·.2))
  simpa [List.map_map, Function.comp_def] using this

theorem mapM_toV {xs : List AV} {vs : List Value} (h : toVs xs = some vs) (us : Array Value) (hu : TR g w xs us) : us = vs.toArray := by
  unfold toVs at h
  have : ∀ (xs : List AV) (vs : List Value) (us : List Value), xs.mapM toV = some vs → TR g w xs us.toArray → us = vs := by
    intro xs
    induction xs with
    | nil =>
      intro vs us h hu
      simp at h
      subst h
      have := hu.size
      simpa using this
    | cons x xs ih =>
      intro vs us h hu
      cases us with
      | nil => have := hu.size; simp at this
      | cons u us =>
        rw [List.mapM_cons] at h
        cases hx : toV x with
        | none => simp [hx] at h
        | some v =>
          cases hxs : xs.mapM toV with
          | none => simp [hx, hxs] at h
          | some vs' =>
            simp [hx, hxs] at h
            subst h
            have h0 := hu.get 0 x (by simp)
            have hrest : TR g w xs us.toArray := ⟨by have := hu.size; simpa using this, fun k z hk => by
              have := hu.get (k + 1) z (by simpa using hk)
              simpa [Array.getD_eq_getD_getElem?] using this⟩
            rw [ih vs' us hxs hrest]
            cases x <;> simp [toV] at hx
            subst hx
            have := h0.raw_eq
            simp at this
            rw [this]
  have h3 := this xs vs us.toList h (by simpa using hu)
  rw [← h3]

end
end Go.Abs
