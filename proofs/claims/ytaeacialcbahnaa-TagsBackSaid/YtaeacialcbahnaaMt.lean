/-
  The abstract layer, part t: a range over a function, by what is yielded.
-/
import Derived.Test.YtaeacialcbahnaaMs
namespace Go.Abs
open Go.RowKit

section
variable {κ : Ctx} {P : Program} {rd : Option Nat}

theorem perm_middle' {α : Type} {r : α} : ∀ {σ : List α} {j : Nat}, σ[j]? = some r → ∀ r', (r' :: σ.eraseIdx j).Perm (σ.set j r') := fun h _ => perm_set h

theorem sub_set {τ σ : List Res} {r : Res} (h : Sub (r :: τ) σ) : ∃ j, σ[j]? = some r ∧ ∀ r', Sub (r' :: τ) (σ.set j r') := by
  obtain ⟨ρ, p, q⟩ := h
  -- r stands somewhere in ρ, hence in σ
  have hm : r ∈ ρ := p.mem_iff.2 (by simp)
  obtain ⟨k, hk⟩ := List.mem_iff_getElem?.1 hm
  have key : ∀ {ρ σ : List Res}, ρ.Sublist σ → ∀ k, ρ[k]? = some r → ∃ j, σ[j]? = some r ∧ ∀ r', (ρ.set k r').Sublist (σ.set j r') := by
    intro ρ σ h
    induction h with
    | slnil => intro k hk; simp at hk
    | cons a h ih =>
      intro k hk
      obtain ⟨j, h1, h2⟩ := ih k hk
      exact ⟨j + 1, by simpa using h1, fun r' => by simpa using (h2 r').cons a⟩
    | cons_cons a h ih =>
      intro k hk
      cases k with
      | zero => exact ⟨0, by simpa using hk, fun r' => by simpa using h.cons_cons r'⟩
      | succ k =>
        obtain ⟨j, h1, h2⟩ := ih k (by simpa using hk)
        exact ⟨j + 1, by simpa using h1, fun r' => by simpa using (h2 r').cons_cons a⟩
  obtain ⟨j, h1, h2⟩ := key q k hk
  refine ⟨j, h1, fun r' => ⟨ρ.set k r', ?_, h2 r'⟩⟩
  have p2 : (r :: ρ.eraseIdx k).Perm (r :: τ) := (perm_get hk).symm.trans p
  exact (perm_set hk).symm.trans ((p2.cons_inv).cons r')

/-- The loop's resource is among these; the others, told weaker, are those. -/
def ResS (r : Res) (σ τ : List Res) : Prop := ∃ τ0, Sub (r :: τ0) σ ∧ ResW τ0 τ
theorem resS_rfl {r : Res} {τ : List Res} : ResS r (r :: τ) τ := ⟨τ, sub_rfl, ResW.refl τ⟩
theorem resS_skip {r x : Res} {σ τ : List Res} (h : ResS r σ τ) : ResS r (x :: σ) τ := by
  obtain ⟨τ0, h1, h2⟩ := h
  exact ⟨τ0, sub_cons h1, h2⟩
theorem resS_head {r x : Res} {σ τ : List Res} (h : ResW (x :: σ) τ) : ResS r (x :: r :: σ) τ := by
  refine ⟨x :: σ, ?_, h⟩
  exact ⟨x :: r :: σ, List.Perm.swap _ _ _, List.Sublist.refl _⟩
theorem resS_mk {r : Res} {σ τ : List Res} (h : ResW σ τ) : ResS r (r :: σ) τ := ⟨σ, sub_rfl, h⟩

/-- This is the resource of loop l, whose deferred calls are collected in d. -/
def isLoop (l d : Nat) (r : Res) : Prop := ∃ st pend t ps as bd, r = .loop l st pend t ps as bd d

/-- The end of a round. 'Rb': the loop's resource while a round runs; 'τ': what there is beside it. -/
def rngQ (Q : Exit → St → Prop) (t : List AV) (fr : Bool) (df : List Deferred) (Rb : Res) (Inv : List Res → Prop) : Exit → St → Prop
  | .normal, s => ∃ τ, ResS Rb s.σ τ ∧ Inv τ
  | .ret, s => ∃ τ, ResS Rb s.σ τ ∧ Q .ret ⟨t, τ, fr, df⟩
  | .exit id, s => ∃ τ, ResS Rb s.σ τ ∧ Q (.exit id) ⟨t, τ, fr, df⟩
  | _, _ => False

/-- Behind the assignments of a round. 'Rr': the loop's resource between rounds. -/
def rngA (κ : Ctx) (P : Program) (Q : Exit → St → Prop) (t : List AV) (fr : Bool) (df : List Deferred) (l : Nat) (body : Code) (Rr Rb : Res) (Inv : List Res → Prop) (s1 : St) : Prop :=
  ∃ j, s1.σ[j]? = some Rr ∧ run κ P (some l) body (rngQ Q t fr df Rb Inv) ⟨s1.t, s1.σ.set j Rb, s1.fr, s1.df⟩
theorem rngA_mk {Q : Exit → St → Prop} {t : List AV} {fr fr' : Bool} {df df' : List Deferred} {l : Nat} {body : Code} {Rr Rb : Res} {Inv : List Res → Prop} {t' : List AV} {τ : List Res} (h : run κ P (some l) body (rngQ Q t fr df Rb Inv) ⟨t', Rb :: τ, fr', df'⟩) :
    rngA κ P Q t fr df l body Rr Rb Inv ⟨t', Rr :: τ, fr', df'⟩ := ⟨0, rfl, h⟩
theorem rng_normal {Q : Exit → St → Prop} {t : List AV} {fr : Bool} {df : List Deferred} {Rb : Res} {Inv : List Res → Prop} {s : St} : rngQ Q t fr df Rb Inv .normal s = ∃ τ, ResS Rb s.σ τ ∧ Inv τ := rfl
theorem rng_ret {Q : Exit → St → Prop} {t : List AV} {fr : Bool} {df : List Deferred} {Rb : Res} {Inv : List Res → Prop} {s : St} : rngQ Q t fr df Rb Inv .ret s = ∃ τ, ResS Rb s.σ τ ∧ Q .ret ⟨t, τ, fr, df⟩ := rfl
theorem rng_exit {Q : Exit → St → Prop} {t : List AV} {fr : Bool} {df : List Deferred} {Rb : Res} {Inv : List Res → Prop} {s : St} {id : Nat} : rngQ Q t fr df Rb Inv (.exit id) s = ∃ τ, ResS Rb s.σ τ ∧ Q (.exit id) ⟨t, τ, fr, df⟩ := rfl

/-- What a round of a range is asked. -/
def Round (κ : Ctx) (P : Program) (Q : Exit → St → Prop) (t : List AV) (fr : Bool) (df : List Deferred) (ps : Array Tmp) (assign body : Code) (Inv : List (List AV) → List Res → Prop) (d : Nat) : Prop :=
  ∀ (l : Nat) (Rr Rb : Res), isLoop l d Rb → ∀ x xs τ, Inv (x :: xs) τ → ps.size = x.length ∧ run κ P (some l) assign (thenQ (rngA κ P Q t fr df l body Rr Rb (Inv xs)) (fun _ _ => False)) ⟨setPs t ps.toList x, Rr :: τ, true, []⟩

theorem rng_round {Q : Exit → St → Prop} {s0 : St} {l : Nat} {ps : Array Tmp} {assign body : Code} {d : Nat} {Inv : List (List AV) → List Res → Prop} {x : List AV} {xs : List (List AV)} {τ : List Res} (hps : ps.size = x.length)
    (h : run κ P (some l) assign (thenQ (rngA κ P Q s0.t (rd.isSome && s0.fr) s0.df l body (.loop l .ready none s0.t ps assign body d) (.loop l .busy none s0.t ps assign body d) (Inv xs)) (fun _ _ => False)) ⟨setPs s0.t ps.toList x, .loop l .ready none s0.t ps assign body d :: τ, true, []⟩) :
    ACallY κ P l x (.loop l .ready none s0.t ps assign body d :: τ) (YK (fun σ' => ∃ τ', σ' = .loop l .ready none s0.t ps assign body d :: τ' ∧ Inv xs τ') (rangeK κ P rd Q s0 l ps assign body d)) := by
  refine ACallY.dropW (ACallY_mkQ (rngQ Q s0.t (rd.isSome && s0.fr) s0.df (.loop l .busy none s0.t ps assign body d) (Inv xs)) ?_ 0 rfl hps h)
  intro e s hq
  cases e with
  | normal =>
    obtain ⟨τ', ⟨τ0, hs, hw⟩, hi⟩ := hq
    obtain ⟨j, h1, h2⟩ := sub_set hs
    exact ⟨j, h1, _, (sub_resW (h2 _)).trans (hw.cons _), τ', rfl, hi⟩
  | ret =>
    obtain ⟨τ', ⟨τ0, hs, hw⟩, hi⟩ := hq
    obtain ⟨j, h1, h2⟩ := sub_set hs
    exact ⟨j, h1, _, (sub_resW (h2 _)).trans (hw.cons _), 0, _, _, rfl, by simp, hi⟩
  | exit id =>
    obtain ⟨τ', ⟨τ0, hs, hw⟩, hi⟩ := hq
    obtain ⟨j, h1, h2⟩ := sub_set hs
    exact ⟨j, h1, _, (sub_resW (h2 _)).trans (hw.cons _), 0, _, _, rfl, by simp, hi⟩
  | goto id => exact hq.elim
  | panic c => exact hq.elim
  | outgrown => exact hq.elim

/-- An outermost range: over what is yielded. 'ρ' is what the function that is ranged over takes with it. -/
theorem range_by {Q : Exit → St → Prop} {t : List AV} {σ : List Res} {fr : Bool} {df : List Deferred} {f : Operand} {ps : Array Tmp} {assign body : Code} (gf : FuncId) (first cap : List Value) (xs : List (List AV)) (ρ τ : List Res) (Inv : List (List AV) → List Res → Prop)
    (hf : (⟨t, σ, fr, df⟩ : St).ev f = .raw (.func (.func gf) first.toArray cap.toArray)) (hok : callOk P gf = True) (hσ : ResW σ (ρ ++ τ))
    (hiter : ∀ (L : Nat) (K : Ret → List Res → Prop) (σ' : List Res), Iter κ P L K xs σ' → ACallF κ P gf (first.map .raw ++ [.raw (.func (.yield L) #[] #[])] ++ cap.map .raw) (ρ ++ σ') K)
    (h0 : Inv xs τ)
    (hend : ∀ τ, Inv [] τ → Q .normal ⟨t, τ, false, df⟩)
    (hround : ∀ d, Round κ P Q t false df ps assign body Inv d) :
    AW κ none P (.rangeFunc f ps assign body) Q ⟨t, σ, fr, df⟩ := by
  refine AW_range hf (hok ▸ trivial) (fun l d => ?_)
  have hp : ResW (Res.loop l .ready none t ps assign body d :: σ) (ρ ++ (Res.loop l .ready none t ps assign body d :: τ)) := ((hσ.cons _).trans (ResW.perm List.perm_middle.symm))
  refine ACallF.weak hp ?_
  have e1 : (first.toArray.toList.map AV.raw ++ [.raw (.func (.yield l) #[] #[])] ++ cap.toArray.toList.map AV.raw) = (first.map .raw ++ [.raw (.func (.yield l) #[] #[])] ++ cap.map .raw) := by simp
  rw [e1]
  refine hiter l _ _ (Iter_by (fun xs σ' => ∃ τ', σ' = .loop l .ready none t ps assign body d :: τ' ∧ Inv xs τ') ?_ ?_ xs _ ⟨τ, rfl, h0⟩)
  · rintro _ ⟨τ', rfl, hi⟩
    exact ⟨0, _, _, rfl, by simp, hend τ' hi⟩
  · rintro x xs _ ⟨τ', rfl, hi⟩
    obtain ⟨h1, h2⟩ := hround d l _ (.loop l .busy none t ps assign body d) ⟨_, _, _, _, _, _, rfl⟩ x xs τ' hi
    exact rng_round (rd := none) (s0 := ⟨t, σ, fr, df⟩) h1 h2

/-- A range within a round of loop l0. -/
theorem range_in {Q : Exit → St → Prop} {t : List AV} {σ : List Res} {fr : Bool} {df : List Deferred} {f : Operand} {ps : Array Tmp} {assign body : Code} {l0 d : Nat} {R0 : Res} (i : Nat) (gf : FuncId) (first cap : List Value) (xs : List (List AV)) (ρ τ : List Res) (Inv : List (List AV) → List Res → Prop)
    (hf : (⟨t, σ, fr, df⟩ : St).ev f = .raw (.func (.func gf) first.toArray cap.toArray)) (hok : callOk P gf = True) (hR : isLoop l0 d R0) (hl : σ[i]? = some R0) (hσ : ResW σ (ρ ++ τ))
    (hiter : ∀ (L : Nat) (K : Ret → List Res → Prop) (σ' : List Res), Iter κ P L K xs σ' → ACallF κ P gf (first.map .raw ++ [.raw (.func (.yield L) #[] #[])] ++ cap.map .raw) (ρ ++ σ') K)
    (h0 : Inv xs τ)
    (hend : ∀ τ, Inv [] τ → Q .normal ⟨t, τ, fr, df⟩)
    (hround : Round κ P Q t fr df ps assign body Inv d) :
    AW κ (some l0) P (.rangeFunc f ps assign body) Q ⟨t, σ, fr, df⟩ := by
  obtain ⟨st0, pend0, t0, ps0, as0, bd0, rfl⟩ := hR
  refine AW_range_in hf (hok ▸ trivial) hl (fun l => ?_)
  have hp : ResW (Res.loop l .ready none t ps assign body d :: σ) (ρ ++ (Res.loop l .ready none t ps assign body d :: τ)) := ((hσ.cons _).trans (ResW.perm List.perm_middle.symm))
  refine ACallF.weak hp ?_
  have e1 : (first.toArray.toList.map AV.raw ++ [.raw (.func (.yield l) #[] #[])] ++ cap.toArray.toList.map AV.raw) = (first.map .raw ++ [.raw (.func (.yield l) #[] #[])] ++ cap.map .raw) := by simp
  rw [e1]
  refine hiter l _ _ (Iter_by (fun xs σ' => ∃ τ', σ' = .loop l .ready none t ps assign body d :: τ' ∧ Inv xs τ') ?_ ?_ xs _ ⟨τ, rfl, h0⟩)
  · rintro _ ⟨τ', rfl, hi⟩
    refine ⟨0, _, _, rfl, by simp, ?_⟩
    simpa using hend τ' hi
  · rintro x xs _ ⟨τ', rfl, hi⟩
    obtain ⟨h1, h2⟩ := hround l _ (.loop l .busy none t ps assign body d) ⟨_, _, _, _, _, _, rfl⟩ x xs τ' hi
    exact rng_round (rd := some l0) (s0 := ⟨t, σ, fr, df⟩) h1 h2
end
end Go.Abs
