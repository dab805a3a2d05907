/-
  An evaluator of calls at closed inputs, part v: results; how functions are left.
-/
import Derived.Test.YtmeijmmfkgpamaaGreatEu
namespace Go.Eva
open Go.RowKit
set_option linter.unusedVariables false
set_option linter.unusedSimpArgs false
section
variable {κ : Ctx} {P : Program} {C : CallFn} {ρ : Env} {s s' : ES} {w : World} {N : Nat} {tm : T EV}

theorem tmp_getD {tmps : Array Value} (ht : TR ρ N tm tmps) {k : Nat} {x : EV} (h : T.get tm k = some x) : x.den ρ = some (tmps.getD k undef) := by
  obtain ⟨v, h1, h2⟩ := ht.get k x h
  rw [h2, Array.getD_eq_getD_getElem?, h1]; rfl
def resSem (tmps : Array Value) : ResultVar → Sem Value
  | .tmp t => pure (tmps.getD t undef)
  | .cell a t => do loadVar t (← asAddr (tmps.getD a undef))
theorem resVar_sound (hS : S κ P ρ s w) {tmps : Array Value} (ht : TR ρ N tm tmps) {r : ResultVar} {x : EV} (h : resVar P tm s r = some x) : ∃ v, (resSem tmps r).run P w = .ok v w ∧ x.den ρ = some v := by
  cases r with
  | tmp t => exact ⟨_, rfl, tmp_getD ht h⟩
  | cell b t =>
    obtain ⟨p, h1, h⟩ := bO_some.1 (show resCell P tm s b t = some x from h)
    obtain ⟨l, h2, h⟩ := bO_some.1 h
    obtain ⟨ag, h3, h⟩ := bO_some.1 h
    obtain ⟨n, h4, h⟩ := bO_some.1 h
    obtain ⟨y, h5, h6⟩ := bO_some.1 h1
    have hp := asPtr_some h6
    subst hp
    obtain ⟨e, he, hv⟩ := den_ptr (tmp_getD ht h5)
    obtain ⟨e', he', hob⟩ := cells_obj hS h2
    rw [he] at he'; cases he'
    obtain ⟨v, h7, h8⟩ := load_run (x := x) hob h3 h4 (i := p.2) (by
      cases ag with
      | true =>
        obtain ⟨q1, q2⟩ := cnd_none.1 (show cnd (Nat.ble (p.2 + n) l.length) (some (.agg ((l.drop p.2).take n))) none = some x from h)
        exact .inl ⟨rfl, ble_le q1, (Option.some.inj q2).symm⟩
      | false => exact .inr ⟨rfl, h⟩)
    refine ⟨v, ?_, h8⟩
    show (do loadVar t (← asAddr (tmps.getD b undef)) : Sem Value).run P w = _
    rw [hv]
    exact h7
theorem evRes_sound (hS : S κ P ρ s w) {tmps : Array Value} (ht : TR ρ N tm tmps) : ∀ {l : List ResultVar} {xs : List EV}, evRes P tm s l = some xs → ∃ vs, (l.mapM (resSem tmps)).run P w = .ok vs w ∧ denL ρ xs = some vs
  | [], xs, h => by cases (show some [] = some xs from h); exact ⟨[], rfl, rfl⟩
  | r :: l, xs, h => by
    obtain ⟨x, h1, h2⟩ := bO_some.1 (show (bO (resVar P tm s r) fun v => bO (evRes P tm s l) fun vs => some (v :: vs)) = some xs from h)
    obtain ⟨ys, h3, h4⟩ := bO_some.1 h2
    cases h4
    obtain ⟨v, q1, q2⟩ := resVar_sound hS ht h1
    obtain ⟨vs, q3, q4⟩ := evRes_sound hS ht h3
    refine ⟨v :: vs, ?_, denL_cons.2 ⟨v, vs, q2, q4, rfl⟩⟩
    rw [List.mapM_cons]
    simp only [Sem.run_bind, q1, Result.andThen_ok, q3, Sem.run_pure]
theorem results_sound (hS : S κ P ρ s w) {tmps : Array Value} (ht : TR ρ N tm tmps) {fn : Func} {xs : List EV} (h : evRes P tm s fn.results.toList = some xs) : ∃ v, (results fn tmps).run P w = .ok v w ∧ (oneR xs).den ρ = some v := by
  obtain ⟨vs, h1, h2⟩ := evRes_sound hS ht h
  have hm : (fn.results.mapM (resSem tmps)).run P w = .ok vs.toArray w := by
    rw [Array.mapM_eq_mapM_toList]
    simp only [Sem.run_map, h1, Result.andThen_ok]
  have hr : results fn tmps = (do let vs ← fn.results.mapM (resSem tmps); pure (if h : vs.size = 1 then vs[0] else .tuple vs)) := by
    unfold results resSem
    rfl
  refine ⟨if h : vs.toArray.size = 1 then vs.toArray[0] else .tuple vs.toArray, ?_, ?_⟩
  · rw [hr]
    simp only [Sem.run_bind, hm, Result.andThen_ok, Sem.run_pure]
  · cases xs with
    | nil => cases h2; rfl
    | cons x r =>
      obtain ⟨v, us, q1, q2, rfl⟩ := denL_cons.1 h2
      cases r with
      | nil => cases q2; exact q1
      | cons y r =>
        obtain ⟨u, us', q3, q4, rfl⟩ := denL_cons.1 q2
        rw [dif_neg (by simp)]
        show (EV.tup (x :: y :: r)).den ρ = _
        simp only [EV.den, h2, Option.map_some]
/-- A function without a body. -/
theorem callExt_sound {f : FuncId} {fo : Func} {p q xs : List EV} {p' q' vs : List Value} {r : RO} {x : EV} (hS : S κ P ρ s w) (hfo : P.funcs[f]? = some fo) (hp : denL ρ p = some p') (hq : denL ρ q = some q') (hx : denL ρ xs = some vs) (h : callExt f (p ++ xs) q P s = r) (hok : r = .val x s' ∨ r = .pan x s') :
    Invk P (.func (.func f) p'.toArray q'.toArray) vs.toArray w (fun v w' => r = .val x s' ∧ Fine κ P ρ x s' v w') (fun v w' => r = .pan x s' ∧ Fine κ P ρ x s' v w') := by
  have hne : r ≠ .bad := by rcases hok with rfl | rfl <;> simp
  obtain ⟨us, h1, h⟩ := bR_ne h hne
  obtain ⟨bs, h2, h⟩ := bR_ne h hne
  have e1 := (toV_den (ρ := ρ)).2 _ _ h1
  have e2 := (toV_den (ρ := ρ)).2 _ _ h2
  rw [denL_app hp hx] at e1
  rw [hq] at e2
  cases e1; cases e2
  refine ⟨fun d w' hd g hg => ?_, ?_⟩
  · cases (show Result.ok _ w = Result.ok d w' from hd)
    cases (show some f = some g from hg)
    exact ⟨fo, hfo⟩
  · have hrun : (do let d ← Deferred.ofValue (.func (.func f) p'.toArray q'.toArray) vs.toArray; invoke d.target d.args : Sem Next).run P w = (invoke (.fn (.func f) q'.toArray) (p' ++ vs).toArray).run P w := by
      show (invoke (.fn (.func f) q'.toArray) (p'.toArray ++ vs.toArray)).run P w = _
      rw [List.append_toArray]
    rw [hrun]
    cases hpv : pv P (invoke (.fn (.func f) q'.toArray) (p' ++ vs).toArray) with
    | none => rw [hpv] at h; exact absurd h.symm hne
    | some nx =>
      rw [hpv] at h
      cases nx <;> first | exact absurd h.symm hne | skip
      rename_i v
      rw [pv_run _ _ hpv w]
      have h : RO.val (.raw v) s = r := h
      subst h
      rcases hok with hok | hok
      · obtain ⟨rfl, rfl⟩ := val_inj.1 hok
        exact ⟨rfl, ρ, Env.le_refl _, hS, rfl⟩
      · cases hok
/-- An object is given up, and what lies there turns. -/
theorem gone_obj (hS : S κ P ρ s w) {v : Nat} {x : EO} {e : RE} {o' : Obj} (hx : T.get s.h v = some x) (he : ρ v = some e) (hns : ∀ y eu, ¬ Share y x eu e) : S κ P ρ { h := T.put 24 s.h v Option.none, n := s.n } (setO w e.b o') := by
  obtain ⟨d1, d2, d3⟩ := hS.dom v e he
  refine ⟨hS.below.trans ⟨rfl, rfl, rfl, by rw [setO_size]; exact Nat.le_refl _, fun k hk => setO_other (by omega)⟩, by rw [setO_size]; exact hS.hB, fun u eu hu => by rw [setO_size]; exact hS.dom u eu hu, ?_, ?_⟩
  · intro u y hu
    obtain ⟨hne, hu⟩ := get_drop (d := 24) (t := s.h) (k := v) (show T.get (T.put 24 s.h v Option.none) u = some y from hu)
    obtain ⟨eu, h1, h2⟩ := hS.obj u y hu
    refine ⟨eu, h1, h2.congr (setO_other (fun hbb => ?_))⟩
    exact hns y eu (hS.sep u v y x eu e hne hu hx h1 he hbb)
  · intro a b x' y ea eb hab ha hb hea heb hbb
    exact hS.sep a b x' y ea eb hab (get_drop (show T.get (T.put 24 s.h v Option.none) a = some x' from ha)).2 (get_drop (show T.get (T.put 24 s.h v Option.none) b = some y from hb)).2 hea heb hbb
theorem take_run {b : Nat} (h : w.heap[b]? = some (.deferred (some []))) : (Instr.takeDeferred b).run P w = .ok [] (setO w b (.deferred none)) := by
  simp [Instr.takeDeferred, getObj, setObj, Sem.run, h, setO]
end
end Go.Eva
