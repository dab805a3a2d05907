/-
  An evaluator of calls at closed inputs, part p: regions that draw no order.
-/
import Derived.Test.YtmeijmmfkgpamaaGreatEo
import Derived.LoopNIn
namespace Go.Eva
open Go.RowKit
set_option linter.unusedVariables false
set_option linter.unusedSimpArgs false
section
variable {κ : Ctx} {P : Program} {ρ : Env} {s s' : ES} {w : World} {N : Nat} {tm : T EV} {a : Act} {x : EV} {C : CallFn} {o : Oper}

/-- The frames that the machine is in: their functions exist. -/
def EF (P : Program) (rd : Option Nat) : Fence := { fn := fun f => ∃ fn, P.funcs[f]? = some fn, depth := none, alive := false, round := rd }
theorem EF_room (P : Program) (rd : Option Nat) (k : Nat) : (EF P rd).room k := fun _ h => by cases h
theorem EF_depth (P : Program) (rd : Option Nat) : ((EF P rd).depth.isSome = true) → ∀ n, 1 ≤ n := fun h => by cases h

theorem TR.put (ht : TR ρ N tm a.tmps) {d : Tmp} {v : Value} (hd : d < N) (hx : x.den ρ = some v) : TR ρ N (T.set tm d x) (a.put (some d) v).tmps := by
  refine ⟨by simp [Act.put, ht.size], fun k y hk => ?_⟩
  simp only [Act.put]
  rcases get_set hk with ⟨rfl, rfl⟩ | ⟨hne, hk⟩
  · exact ⟨v, by rw [Array.getElem?_setIfInBounds, if_pos rfl, if_pos (by rw [ht.size]; exact hd)], hx⟩
  · rw [Array.getElem?_setIfInBounds, if_neg (fun e => hne e.symm)]
    exact ht.get k y hk
/-- Whether an operation is wanted. -/
theorem wanted_run (ht : TR ρ N tm a.tmps) {all : Array Oper} {b : Bool} (h : wanted all tm o.guard = some b) : Region.wanted o (yielded all a.tmps) = b := by
  unfold Region.wanted
  unfold wanted at h
  cases hg : o.guard with
  | none => rw [hg] at h; cases h; rfl
  | some g =>
    rw [hg] at h
    obtain ⟨j, want⟩ := g
    simp only at h ⊢
    unfold wantG at h
    unfold yielded
    cases ho : all[j]? with
    | none => rw [ho] at h; cases h; rfl
    | some oj =>
      rw [ho] at h
      cases hd : oj.dst with
      | none => simp only [bO, hd] at h; cases h; simp [hd]
      | some d =>
        simp only [bO, hd] at h
        obtain ⟨y, h1, h2⟩ := bO_some.1 (show bO (T.get tm d) _ = some b from h)
        obtain ⟨v, h3, h4⟩ := ht.get d y h1
        simp only [Option.bind_some, hd, h3]
        cases y <;> first | (cases h2; done) | skip
        rename_i u
        have e : u = v := Option.some.inj h4
        subst e
        have e : wantB want u = b := Option.some.inj h2
        subst e
        cases u <;> first | rfl | skip
        rename_i c
        cases c <;> cases want <;> rfl
theorem about_ok (ht : TR ρ N tm a.tmps) (h : aboutOk P tm o.op = true) (rd : Option Nat) (w : World) : ∀ f, o.about P w a.eval = some f → (EF P rd).fn f := by
  intro f hf
  unfold Oper.about at hf
  cases ho : o.op with
  | call c =>
    rw [ho] at h hf
    simp only at hf
    obtain ⟨ce, args, ats⟩ := c
    cases ce with
    | value g =>
      have h : (Option.rec false (aboutV P) (ev tm g) : Bool) = true := h
      cases he : ev tm g with
      | none => rw [he] at h; cases h
      | some y =>
        rw [he] at h
        have hy := ev_sound ht he
        have h : aboutV P y = true := h
        simp only [resolve] at hf
        cases y <;> first | (cases h; done) | skip
        · rename_i u h0
          have hu : u = a.eval g := Option.some.inj hy
          rw [← hu] at hf
          cases u <;> first | (cases h; done) | skip
          simp [Deferred.ofValue, stuck, Sem.run] at hf
        · simp only [EV.den] at hy
          split at hy
          · rw [← Option.some.inj hy] at hf
            simp only [Deferred.ofValue, Sem.run_pure, Target.leads, Option.some.injEq] at hf
            subst hf
            exact Option.isSome_iff_exists.1 (by rw [← funcA_eq]; exact h)
          · cases hy
        · simp only [EV.den, Option.map_eq_some_iff] at hy
          obtain ⟨e, _, hy⟩ := hy
          rw [← hy] at hf
          simp only [Deferred.ofValue, Sem.run_pure, Target.leads, reduceCtorEq] at hf
    | builtin b => simp only [resolve, Sem.run_pure, Target.leads, reduceCtorEq] at hf
    | invoke y n => cases h
  | _ => rw [ho] at hf; cases hf
end
end Go.Eva
