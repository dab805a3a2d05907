/-
  An evaluator of calls at closed inputs, part A: what a run says of a call.
-/
import Derived.Test.YtmeijmmfkgpamaaGreatEz
namespace Go.Eva
open Go.RowKit
set_option linter.unusedVariables false
set_option linter.unusedSimpArgs false
section
variable {κ : Ctx} {P : Program} {C : CallFn} {all : Array Oper} {its : List DItem} {tm0 : T EV} {cx : Cx} {e : EX} {tm' : T EV} {df df' : List EDef} {s' : ES}

theorem drop_cons {α : Type} {l : List α} {p : Nat} {q : α} {r : List α} (h : q :: r = l.drop p) : l[p]? = some q ∧ r = l.drop (p + 1) ∧ p < l.length := by
  have h1 : (l.drop p)[0]? = some q := by rw [← h]; rfl
  rw [List.getElem?_drop, Nat.add_zero] at h1
  refine ⟨h1, ?_, (List.getElem?_eq_some_iff.1 h1).1⟩
  rw [← List.tail_drop, ← h]
  rfl
theorem dst_of {N : Nat} {tm tm2 : T EV} {y : EV} {o : Oper} {f : T EV → R} (h : putT N tm o.dst y f = .ok e tm' df' s') : ∃ tm2, f tm2 = .ok e tm' df' s' ∧ ((o.dst = none ∧ tm2 = tm) ∨ ∃ d, o.dst = some d ∧ tm2 = T.set tm d y) ∧ ∀ d, o.dst = some d → d < N := by
  rcases putT_ok h with ⟨h1, h2⟩ | ⟨d, h1, h2, h3⟩
  · exact ⟨tm, h2, .inl ⟨h1, rfl⟩, fun d hd => by rw [h1] at hd; cases hd⟩
  · exact ⟨_, h3, .inr ⟨d, h1, rfl⟩, fun d' hd => by rw [h1] at hd; cases hd; exact h2⟩
theorem drawGo_sound (H : ItsOk all its) (hk : cx.toKit = ⟨P, C⟩) : ∀ (l : List DItem) {p : Nat} {x : Nat → EV} {rk : Nat → Option Nat} {st : Nat → ES} {K : Nat} {tm : T EV} {ld : List LD} {qs : List QR}, l = its.drop p → p ≤ its.length →
    Inv P C all its tm0 cx.N p x rk st K tm ld qs → drawGo all l cx (clearT tm0 all.toList) df tm (st K) ld qs = .ok e tm' df' s' →
    ∃ (p : Nat) (x : Nat → EV) (rk : Nat → Option Nat) (st' : Nat → ES) (K : Nat) (tm : T EV) (ld : List LD) (qs : List QR), p ≤ its.length ∧ st' 0 = st 0 ∧ Inv P C all its tm0 cx.N p x rk st' K tm ld qs ∧ ∀ ρ Q, Post κ P ρ cx.N e tm' df' s' Q → Fin κ P C all its tm0 cx.N st' K p tm ld df ρ Q := by
  have hP : cx.P = P := by rw [show cx.P = cx.toKit.P from rfl, hk]
  intro l
  induction l with
  | nil =>
    intro p x rk st K tm ld qs hl hp hI h
    have hlen : its.length ≤ p := List.drop_eq_nil_iff.1 hl.symm
    cases (show R.ok .normal tm df (st K) = .ok e tm' df' s' from h)
    exact ⟨p, x, rk, st, K, _, ld, qs, hp, rfl, hI, fun ρ Q hQ => .inl ⟨by omega, hQ⟩⟩
  | cons q r ih =>
    intro p x rk st K tm ld qs hl hp hI h
    obtain ⟨hq, hr, hlt⟩ := drop_cons hl
    obtain ⟨b, h1, h⟩ := bX_ok (show bX (wanted all (restr tm (looks all q.o)) q.o.guard) (fun b => cnd b (drawEnd q (restr tm (looks all q.o)) (r.all fun q' => tb q'.m q.i) (drawGo all r) cx (clearT tm0 all.toList) df tm (st K) ld qs (opTab q.o.op cx.toKit q.o (restr tm (looks all q.o)) (st K)))
      (cnd (aboutOk cx.P (restr tm (looks all q.o)) q.o.op) (putT cx.N tm q.o.dst (.raw undef) fun tm' => drawGo all r cx (clearT tm0 all.toList) df tm' (st K) ld qs) .bad)) = .ok e tm' df' s' from h)
    cases b with
    | false =>
      obtain ⟨h2, h⟩ := cndX_ok (show cnd (aboutOk cx.P (restr tm (looks all q.o)) q.o.op) (putT cx.N tm q.o.dst (.raw undef) fun tm' => drawGo all r cx (clearT tm0 all.toList) df tm' (st K) ld qs) .bad = .ok e tm' df' s' from h)
      obtain ⟨tm2, h3, h4, h5⟩ := dst_of (tm2 := tm) h
      rw [hP] at h2
      exact ih hr hlt (hI.quiet H hq h4 h5 (fun r hr => hr) h1 (fun _ => ⟨rfl, h2⟩) (fun hb => by cases hb)) h3
    | true =>
      have h : cnd (stillT q.o.op) (drawStill q.o (fun tm' => drawGo all r cx (clearT tm0 all.toList) df tm' (st K) ld qs) cx.N tm (opTab q.o.op cx.toKit q.o (restr tm (looks all q.o)) (st K)))
          (Option.rec (drawLoud q (r.all fun q' => tb q'.m q.i) (drawGo all r) cx (clearT tm0 all.toList) df tm (st K) ld qs (opTab q.o.op cx.toKit q.o (restr tm (looks all q.o)) (st K))) (fun x => drawQ q (restr tm (looks all q.o)) (drawGo all r) cx (clearT tm0 all.toList) df tm (st K) ld qs x) (qAns q.o.op (opTab q.o.op cx.toKit q.o (restr tm (looks all q.o)) (st K)))) = .ok e tm' df' s' := h
      cases hst : stillT q.o.op with
      | true =>
        rw [hst] at h
        have h : drawStill q.o (fun tm' => drawGo all r cx (clearT tm0 all.toList) df tm' (st K) ld qs) cx.N tm (opTab q.o.op cx.toKit q.o (restr tm (looks all q.o)) (st K)) = .ok e tm' df' s' := h
        cases hr2 : opTab q.o.op cx.toKit q.o (restr tm (looks all q.o)) (st K) with
        | val y s1 =>
          rw [hr2] at h
          obtain ⟨tm2, h3, h4, h5⟩ := dst_of (tm2 := tm) (show putT cx.N tm q.o.dst y (fun tm' => drawGo all r cx (clearT tm0 all.toList) df tm' (st K) ld qs) = .ok e tm' df' s' from h)
          rw [hk] at hr2
          have hs := (still_op hst).same hr2
          exact ih hr hlt (hI.quiet H hq h4 h5 (fun r hr => hr) h1 (fun hb => by cases hb) (fun _ => ⟨fun m _ _ => .inl (hs _), .inl fun s => .inl (hs s)⟩)) h3
        | _ => rw [hr2] at h; cases h
      | false =>
        rw [hst] at h
        have h : (Option.rec (drawLoud q (r.all fun q' => tb q'.m q.i) (drawGo all r) cx (clearT tm0 all.toList) df tm (st K) ld qs (opTab q.o.op cx.toKit q.o (restr tm (looks all q.o)) (st K))) (fun x => drawQ q (restr tm (looks all q.o)) (drawGo all r) cx (clearT tm0 all.toList) df tm (st K) ld qs x) (qAns q.o.op (opTab q.o.op cx.toKit q.o (restr tm (looks all q.o)) (st K))) : R) = .ok e tm' df' s' := h
        cases hqa : qAns q.o.op (opTab q.o.op cx.toKit q.o (restr tm (looks all q.o)) (st K)) with
        | some y =>
          rw [hqa] at h
          obtain ⟨h2, h⟩ := cndX_ok (show cnd (backOk cx.toKit ⟨q.i, q.m, q.o, restr tm (looks all q.o), y⟩ ld) (putT cx.N tm q.o.dst y fun tm' => drawGo all r cx (clearT tm0 all.toList) df tm' (st K) ld (⟨q.i, q.m, q.o, restr tm (looks all q.o), y⟩ :: qs)) .bad = .ok e tm' df' s' from h)
          obtain ⟨tm2, h3, h4, h5⟩ := dst_of (tm2 := tm) h
          rw [hk] at hqa h2
          refine ih hr hlt (hI.quiet H hq h4 h5 (fun r hr => List.mem_cons_of_mem _ hr) h1 (fun hb => by cases hb) (fun _ => ⟨fun m hm hno => ?_, .inr ⟨_, List.mem_cons_self, (H.at_ p q hq).1, rfl, rfl, rfl, rfl⟩⟩)) h3
          by_cases hmK : m = K
          · subst hmK; exact qAns_sound hqa
          · exact backOk_sound h2 hI.ldr m (by omega) hno
        | none =>
          rw [hqa] at h
          have h : drawLoud q (r.all fun q' => tb q'.m q.i) (drawGo all r) cx (clearT tm0 all.toList) df tm (st K) ld qs (opTab q.o.op cx.toKit q.o (restr tm (looks all q.o)) (st K)) = .ok e tm' df' s' := h
          cases hr2 : opTab q.o.op cx.toKit q.o (restr tm (looks all q.o)) (st K) with
          | val y s1 =>
            rw [hr2] at h
            obtain ⟨h2, h⟩ := cndX_ok (show cnd (chainOk q.m ld) (bX (fwd cx.toKit q.i q.m s1 qs) fun qs' => putT cx.N tm q.o.dst y fun tm' => drawGo all r cx (clearT tm0 all.toList) df tm' s1 (⟨q.i, q.m, st K⟩ :: ld) qs') .bad = .ok e tm' df' s' from h)
            obtain ⟨qs', h6, h⟩ := bX_ok h
            obtain ⟨tm2, h3, h4, h5⟩ := dst_of (tm2 := tm) h
            rw [hk] at hr2 h6
            have := hI.loud H hq h4 h5 h1 hr2 h2 h6
            obtain ⟨p', x', rk', st', K', tm3, ld', qs3, a1, a2, a3, a4⟩ := ih (st := upd st (K + 1) s1) hr hlt this (by rw [upd_same]; exact h3)
            exact ⟨p', x', rk', st', K', tm3, ld', qs3, a1, by rw [a2, upd_ne _ _ (by omega)], a3, a4⟩
          | pan y s1 =>
            rw [hr2] at h
            obtain ⟨h2, h⟩ := cndX_ok (show cnd (chainOk q.m ld) (cnd (r.all fun q' => tb q'.m q.i) (R.ok (.panic y) (clearT tm0 all.toList) df s1) R.bad) R.bad = R.ok e tm' df' s' from h)
            obtain ⟨h3, h⟩ := cndX_ok h
            cases h
            rw [hk] at hr2
            refine ⟨p, x, rk, st, K, tm, ld, qs, hp, rfl, hI, fun ρ Q hQ => .inr ⟨q, _, _, hq, h1, hr2, h2, fun j q' hj hq' => ?_, hQ⟩⟩
            rw [hr] at h3
            have hm : q' ∈ its.drop (p + 1) := by
              refine List.mem_of_getElem? (i := j - (p + 1)) ?_
              rw [List.getElem?_drop, show p + 1 + (j - (p + 1)) = j by omega]
              exact hq'
            have := List.all_eq_true.1 h3 q' hm
            rwa [(H.at_ p q hq).1] at this
          | _ => rw [hr2] at h; cases h
/-- A region that draws its order does what the evaluator says. -/
theorem draw_ok (hmix : P.follows .mixedOrders = true) (hC : CSound κ P C) (id : Nat) (ops : Array Oper) : CodeOk κ P C (.region id ops true) (drawRun ops) := by
  intro cx ρ tm tm' df df' s s' w a ro e Q hk h hS ht hd hrd hQ
  obtain ⟨h1, h⟩ := cndX_ok (show cnd (drawOk ops (itemsG ops.toList 0 [])) (drawGo ops (itemsG ops.toList 0 []) cx (clearT tm ops.toList) df tm s [] []) .bad = .ok e tm' df' s' from h)
  have H := itsOk h1
  have hI : Inv P C ops (itemsG ops.toList 0 []) tm cx.N 0 (fun _ => .raw undef) (fun _ => none) (fun _ => s) 0 tm [] [] :=
    ⟨fun t y hy => .inr ⟨hy, fun j q hj => by omega⟩, fun i q hi => by omega, fun i r hr => (by cases hr), fun i j r hr => (by cases hr), fun i r q hr => (by cases hr), .nil⟩
  obtain ⟨p, x, rk, st, K, tm2, ld, qs, h2, h3, h4, h5⟩ := drawGo_sound (κ := κ) (st := fun _ => s) H hk (itemsG ops.toList 0 []) (p := 0) rfl (Nat.zero_le _) hI h
  refine wpIn_region_any hmix ?_
  have hnl : ∀ k, ¬ Lst (Array.replicate ops.size false) k := by
    intro k hk
    unfold Lst at hk
    rw [Array.getD_eq_getD_getElem?, Array.getElem?_replicate] at hk
    split at hk <;> cases hk
  refine any_run H hC h4 (h5 ρ Q hQ) h2 ops.size (Array.replicate ops.size false) a _ ρ 0 (List.range ops.size) (by rw [H.len]; simp) (fun k q hk => absurd hk (hnl k)) (fun k hk => absurd hk (hnl k)) (Nat.zero_le _) (fun j r hj => ?_) ?_ (Env.le_refl _) ⟨ht.size, fun t y hy _ => ht.get t y hy, fun j q t hj => absurd hj (hnl j)⟩ hd (by simp) (fun k hk _ => by rw [H.len] at hk; simpa using hk)
  · have := (h4.rng j r hj).2.1
    exact ⟨fun h => absurd h (hnl j), fun h => by omega⟩
  · rw [h3]
    exact hS.drew _

/-! ### Calls -/
/-- What is asked of a program. -/
structure Fit (P : Program) : Prop where
  named : Named P
  mixed : P.follows .mixedOrders = true
/-- A call without arguments comes to a value, and leaves all as it was. -/
def TabOk (P : Program) (tab : Tab) : Prop := ∀ g v, tab g = some v → ∀ w, Invk P (.func (.func g) #[] #[]) #[] w (fun u w' => u = v ∧ Below w.heap.size w w') (fun _ _ => False)
theorem noTab_ok : TabOk P noTab := fun g v h => by cases h
theorem S.later {ρ : Env} {s : ES} {w w' : World} (h : S κ P ρ s w) (hb : Below w.heap.size w w') : S κ P ρ s w' := by
  refine ⟨h.below.trans (hb.mono h.hB), Nat.le_trans h.hB hb.size, fun v e he => ?_, fun v x hv => ?_, h.sep⟩
  · obtain ⟨a, b, c⟩ := h.dom v e he
    exact ⟨a, b, Nat.lt_of_lt_of_le c hb.size⟩
  · obtain ⟨e, h1, h2⟩ := h.obj v x hv
    exact ⟨e, h1, h2.congr (hb.block _ (h.dom v e h1).2.2)⟩
theorem callTop_sound {tab : Tab} (ht : TabOk P tab) {D : EV → List EV → ES → RO} (hD : CSound κ P D) : CSound κ P (fun f xs s => callTop tab f xs s (D f xs s)) := by
  intro ρ s w f xs fv vs hS hf hx
  have h0 := hD ρ s w f xs fv vs hS hf hx
  have rest : (∀ x s', D f xs s = .val x s' → Invk P fv vs.toArray w (Fine κ P ρ x s') fun _ _ => False) ∧ (∀ x s', D f xs s = .pan x s' → Invk P fv vs.toArray w (fun _ _ => False) (Fine κ P ρ x s')) := h0
  show (∀ x s', callTop tab f xs s (D f xs s) = .val x s' → _) ∧ (∀ x s', callTop tab f xs s (D f xs s) = .pan x s' → _)
  cases f with
  | fn g p q =>
    cases p with
    | nil =>
      cases q with
      | nil =>
        cases xs with
        | nil =>
          show (∀ x s', (Option.rec (D (.fn g [] []) [] s) (fun v => .val (.raw v) s) (tab g) : RO) = .val x s' → _) ∧ (∀ x s', (Option.rec (D (.fn g [] []) [] s) (fun v => .val (.raw v) s) (tab g) : RO) = .pan x s' → _)
          cases hg : tab g with
          | none => exact rest
          | some v =>
            refine ⟨fun x s' h => ?_, fun x s' h => by cases h⟩
            cases h
            cases hf
            cases hx
            exact (ht g v hg w).mono (fun u w' ⟨h1, h2⟩ => ⟨ρ, Env.le_refl _, hS.later h2, by rw [h1]; rfl⟩) (fun _ _ h => h)
        | cons _ _ => exact rest
      | cons _ _ => exact rest
    | cons _ _ => exact rest
  | _ => exact rest
theorem evCall_sound (hP : Fit P) {tab : Tab} (ht : TabOk P tab) (lim : Nat) : ∀ (n : Nat) (κ : Ctx), CSound κ P (evCall P tab lim n)
  | 0, κ => fun ρ s w f xs fv vs _ _ _ => ⟨fun x s' h => (by cases (show RO.bad = .val x s' from h)), fun x s' h => (by cases (show RO.bad = .pan x s' from h))⟩
  | n + 1, κ => callTop_sound ht (callTab_sound hP.named (evCall_sound hP ht lim n κ) ⟨range_ok (evCall_sound hP ht lim n κ), draw_ok hP.mixed (evCall_sound hP ht lim n κ)⟩ lim)
theorem denL_raw (ρ : Env) : ∀ (vs : List Value), denL ρ (vs.map .raw) = some vs
  | [] => rfl
  | v :: vs => denL_cons.2 ⟨v, vs, rfl, denL_raw ρ vs, rfl⟩
theorem run_invk (hP : Fit P) {tab : Tab} (ht : TabOk P tab) {lim n : Nat} {f : FuncId} {vs : List Value} {v : Value} {s' : ES} (h : run P tab lim n f (vs.map .raw) = .val (.raw v) s') (w : World) :
    Invk P (.func (.func f) #[] #[]) vs.toArray w (fun u w' => u = v ∧ Below w.heap.size w w') (fun _ _ => False) := by
  have hS : S ⟨w.heap.size, w⟩ P (fun _ => none) { h := .e, n := 0 } w :=
    ⟨Below.refl _ _, Nat.le_refl _, fun v e h => (by cases h), fun v x h => absurd ((get_e v).symm.trans (show T.get (T.e : T EO) v = some x from h)) (by simp), fun u v x y eu ev _ h => absurd ((get_e u).symm.trans (show T.get (T.e : T EO) u = some x from h)) (by simp)⟩
  refine ((evCall_sound hP ht lim n ⟨w.heap.size, w⟩ (fun _ => none) _ w (.fn f [] []) (vs.map .raw) _ vs hS rfl (denL_raw _ vs)).1 _ _ h).mono (fun u w' hf => ?_) (fun _ _ h => h)
  obtain ⟨ρ', h1, h2, h3⟩ := hf
  exact ⟨(Option.some.inj h3).symm, h2.below⟩
theorem isTrue_val {r : RO} (h : isTrue r = true) : ∃ s, r = .val (.raw (.bool true)) s := by
  cases r <;> first | (cases h; done) | skip
  rename_i x s
  refine ⟨s, ?_⟩
  cases x <;> first | (cases h; done) | skip
  rename_i v
  cases v <;> first | (cases h; done) | skip
  rename_i b
  cases b <;> first | (cases h; done) | rfl
theorem oneTab_ok (hP : Fit P) {lim n : Nat} {f : FuncId} (h : isTrue (run P noTab lim n f []) = true) : TabOk P (oneTab f (.bool true)) := by
  obtain ⟨s, h⟩ := isTrue_val h
  intro g v hg
  obtain ⟨h1, h2⟩ := cnd_none.1 (show cnd (Nat.beq f g) (some (Value.bool true)) none = some v from hg)
  have := beq_n h1
  subst this
  cases h2
  exact run_invk (vs := []) hP noTab_ok h
theorem run_calls (hP : Fit P) {tab : Tab} (ht : TabOk P tab) {lim n : Nat} {f : FuncId} {fo : Func} {b : Code} (hf : P.funcs[f]? = some fo) (hb : fo.body = some b) {vs : List Value} (h : isTrue (run P tab lim n f (vs.map .raw)) = true) (w : World) :
    Calls P f vs.toArray w fun e w' => e = .returned (.bool true) ∧ Below w.heap.size w w' := by
  obtain ⟨s, h⟩ := isTrue_val h
  have h2 := (run_invk hP ht h w).2
  have hrun : (do let d ← Deferred.ofValue (.func (.func f) #[] #[]) vs.toArray; invoke d.target d.args : Sem Next).run P w = .ok (.enter f vs.toArray) w := by
    have := enter_run (w := w) hP.named hf hb #[] vs.toArray
    rw [Array.append_empty] at this
    show (invoke (.fn (.func f) #[]) (#[] ++ vs.toArray)).run P w = _
    rw [Array.empty_append]
    exact this
  rw [hrun] at h2
  have h3 : CallsIn (EF P none) 0 P f vs.toArray w _ := h2
  intro cs
  obtain ⟨e, w', fr, r, st, q1, q2⟩ := h3.2 cs (EF_room P none _)
  refine ⟨e, w', fr, ?_, st.comes, q1, q2⟩
  cases e with
  | returned v => exact ⟨by rw [r.1], r.2⟩
  | panicked ch => obtain ⟨_, _, h⟩ := r; exact h.elim
  | outgrown => exact r.elim
noncomputable def namesB (l : List Func) : Bool := l.all fun fn => cnd fn.body.isSome (!(fn.name == "runtime.NumGoroutine")) true
theorem named_of (h : namesB P.funcs.toList = true) : Named P := by
  intro f fn hf hb
  have hm : fn ∈ P.funcs.toList := List.mem_of_getElem? (i := f) (by simpa using hf)
  have := List.all_eq_true.1 h fn hm
  simp only [hb] at this
  have h2 : (!(fn.name == "runtime.NumGoroutine")) = true := this
  simpa using h2
end
end Go.Eva
