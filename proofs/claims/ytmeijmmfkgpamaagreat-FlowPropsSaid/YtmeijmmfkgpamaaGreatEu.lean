/-
  An evaluator of calls at closed inputs, part u: rounds of ranges over functions.
-/
import Derived.Test.YtmeijmmfkgpamaaGreatEt
namespace Go.Eva
open Go.RowKit
set_option linter.unusedVariables false
set_option linter.unusedSimpArgs false
section
variable {κ : Ctx} {P : Program} {C : CallFn} {ρ : Env} {s s' : ES} {w : World}

/-- What is asked at a round's end. -/
def roundEnds (P : Program) (l : Nat) (R : Ending → World → Prop) : Exit → Act → World → Prop
  | .normal, _, w => ∃ v w', (Instr.endRound l none).run P w = .ok v w' ∧ R (.returned v) w'
  | .ret, _, w => ∃ v w', (Instr.endRound l (some .ret)).run P w = .ok v w' ∧ R (.returned v) w'
  | .exit id, _, w => ∃ v w', (Instr.endRound l (some (.exit id))).run P w = .ok v w' ∧ R (.returned v) w'
  | .panic ch, a, w => a.defers = [] ∧ R (.panicked ch) w
  | .goto t, _, w => False
  | .outgrown, _, _ => False
/-- A round, out of its body's walk; it may panic. -/
theorem roundIn_ends {l : Nat} {f : FuncId} {fo : Func} {tmps : Array Value} {assign body : Code} {R : Ending → World → Prop} (hfo : P.funcs[f]? = some fo)
    (h : assign.wpIn (EF P (some l)) 0 P (Exit.then (fun a₁ w₁ => ∃ w₂, (Instr.beginRound l).run P w₁ = .ok () w₂ ∧ body.wpIn (EF P (some l)) 0 P (roundEnds P l R) a₁ w₂) (fun _ _ _ => False)) { tmps := tmps, defers := [] } w) :
    RoundIn (EF P none) 0 P l f tmps assign body w R := by
  refine ⟨⟨fo, hfo⟩, fun c cs hr => ?_⟩
  let b : Frame := { (default : Frame) with fn := f, kind := .normal, roundOf := some l }
  have hb0 : Frame.round l f tmps assign body .normal = b.atR { tmps := tmps, defers := [] } [.code assign, .beginRound, .code body] := by
    simp [Frame.round, Frame.atR, b]
  have hr' : (EF P (some l)).room ((c :: cs).length + 1 + 0) := EF_room _ _ _
  have hF' : (EF P (some l)).fn b.fn := ⟨fo, hfo⟩
  obtain ⟨e, a₁, w₁, hq, harr⟩ := h b [.beginRound, .code body] (c :: cs) rfl hF' hr'
  rw [← hb0] at harr
  cases e with
  | normal =>
    obtain ⟨w₂, hbr, hbody⟩ := hq
    have s1 : StepsIn (Machine.fenced P (EF P (some l))) P (lone (b.atR a₁ [.beginRound, .code body]) (c :: cs) w₁) (lone (b.atR a₁ [.code body]) (c :: cs) w₂) :=
      .one (fenced_calm (fr := b.atR a₁ [.beginRound, .code body]) hF' hr' rfl) (stepR_beginRound rfl hbr)
    obtain ⟨e₂, a₂, w₃, hq₂, harr₂⟩ := hbody b [] (c :: cs) rfl hF' hr'
    cases e₂ with
    | normal =>
      obtain ⟨v, w₄, hend, hR⟩ := hq₂
      exact ⟨.returned v, w₄, hR, (StepsIn.trans harr s1).trans (StepsIn.trans harr₂ (.one (fenced_calm (fr := b.atR a₂ []) hF' hr' rfl) (stepR_round_end rfl rfl hend)))⟩
    | ret =>
      obtain ⟨v, w₄, hend, hR⟩ := hq₂
      obtain ⟨k₁, hs⟩ := harr₂.2 rfl
      exact ⟨.returned v, w₄, hR, (StepsIn.trans harr s1).trans (StepsIn.trans hs (.one (fenced_calm (fr := b.atR a₂ (.code .ret :: k₁)) hF' hr' rfl) (stepR_round_ret rfl rfl hend)))⟩
    | exit id =>
      obtain ⟨v, w₄, hend, hR⟩ := hq₂
      obtain ⟨k₁, hk, hs⟩ := harr₂.2 rfl rfl
      exact ⟨.returned v, w₄, hR, (StepsIn.trans harr s1).trans (StepsIn.trans hs (.one (fenced_calm (fr := b.atR a₂ (.code (.exit id) :: k₁)) hF' hr' rfl) (stepR_round_exit rfl rfl hk hend)))⟩
    | panic chain =>
      obtain ⟨hd, hR⟩ := hq₂
      obtain ⟨todo, hs⟩ := harr₂
      have hleave : ({ b.atR a₂ todo with mode := .panicking chain } : Frame).leaving P w₃ (.panicked chain) := ⟨rfl, hd, fo, hfo⟩
      exact ⟨.panicked chain, w₃, hR, (StepsIn.trans harr s1).trans (StepsIn.trans hs (.one (fenced_leaving (n := 0) hF' hr' hleave) (step_leave_panicked hleave)))⟩
    | goto t => exact hq₂.elim
    | outgrown => exact hq₂.elim
  | exit id => exact hq.elim
  | goto t => exact hq.elim
  | ret => exact hq.elim
  | panic chain => exact hq.elim
  | outgrown => exact hq.elim
/-- The temporaries of a round. -/
theorem setPs_sound {N : Nat} : ∀ {ps : List Tmp} {xs : List EV} {vs : List Value} {tm : T EV} {tmps : Array Value}, denL ρ xs = some vs → xs.length = ps.length → (∀ p ∈ ps, p < N) → TR ρ N tm tmps →
    TR ρ N (setPs ps xs tm) ((ps.zip vs).foldl (fun tmps (p : Tmp × Value) => tmps.setIfInBounds p.1 p.2) tmps)
  | [], [], vs, tm, tmps, _, _, _, ht => ht
  | [], _ :: _, _, _, _, _, h, _, _ => by simp at h
  | _ :: _, [], _, _, _, _, h, _, _ => by simp at h
  | p :: ps, x :: xs, vs, tm, tmps, hx, hl, hp, ht => by
    obtain ⟨v, us, h1, h2, rfl⟩ := denL_cons.1 hx
    have := TR.put (a := { tmps := tmps, defers := [] }) ht (hp p (by simp)) h1
    show TR ρ N (setPs ps xs (T.set tm p x)) ((ps.zip us).foldl (fun tmps (p : Tmp × Value) => tmps.setIfInBounds p.1 p.2) (tmps.setIfInBounds p v))
    exact setPs_sound h2 (by simpa using hl) (fun q hq => hp q (by simp [hq])) this
theorem thenN_ok {f : T EV → List EDef → ES → R} {r : R} {e : EX} {tm : T EV} {df : List EDef} {s : ES} (h : thenN f r = .ok e tm df s) : ∃ tm1 df1 s1, r = .ok .normal tm1 df1 s1 ∧ f tm1 df1 s1 = .ok e tm df s := by
  cases r with
  | bad => cases h
  | ok e1 tm1 df1 s1 => cases e1 <;> first | exact ⟨_, _, _, rfl, h⟩ | cases h
theorem yield_run {b : Nat} {r : Loop} {vs : List Value} (h : w.heap[b]? = some (.loop r)) (hl : vs.length = r.params.toList.length) :
    (Instr.yield b vs.toArray).run P w = .ok (.round b r.fn ((r.params.toList.zip vs).foldl (fun tmps (p : Tmp × Value) => tmps.setIfInBounds p.1 p.2) r.tmps) r.assign r.body) w := by
  have hs : vs.toArray.size = r.params.size := by simpa using hl
  have hz : (r.params.zip vs.toArray).foldl (fun tmps (p : Tmp × Value) => tmps.setIfInBounds p.1 p.2) r.tmps = (r.params.toList.zip vs).foldl (fun tmps (p : Tmp × Value) => tmps.setIfInBounds p.1 p.2) r.tmps := by
    rw [← Array.foldl_toList, Array.toList_zip]
  simp only [Instr.yield, Sem.run_bind, getLoop_run h, Result.andThen_ok]
  rw [if_neg (by simpa using hs)]
  simp only [Sem.run_pure]
  rw [← hz]
/-- A loop's record turns. -/
theorem loop_turn (hS : S κ P ρ s w) {l : Nat} {L : ELoop} {el : RE} (hl : T.get s.h l = some (.loop L)) (hel : ρ l = some el) :
    ∃ rr fo, w.heap[el.b]? = some (.loop rr) ∧ rr.state = L.state ∧ rr.pending = L.pending ∧ rr.params = L.params ∧ rr.assign = L.assign ∧ rr.body = L.body ∧ TR ρ L.N L.tm rr.tmps ∧ P.funcs[rr.fn]? = some fo ∧
      ∀ st pd, S κ P ρ { h := T.set s.h l (.loop { L with state := st, pending := pd }), n := s.n } (setO w el.b (.loop { rr with state := st, pending := pd })) := by
  obtain ⟨eL, hL, rr, e', q1, q2, q3, q4, q5, q6, q7, q8, q9, fo, q10⟩ := hS.obj _ _ hl
  rw [hel] at hL; cases hL
  refine ⟨rr, fo, q1, q2, q3, q4, q5, q6, q7, q10, fun st pd => ?_⟩
  exact hS.change (x' := .loop { L with state := st, pending := pd }) hel (fun u z hu => (get_set hu).imp (fun ⟨p, q⟩ => ⟨p, q.symm⟩) id)
    (show OBl P _ _ _ _ from ⟨_, e', setO_same (hS.dom _ _ hel).2.2, rfl, rfl, q4, q5, q6, q7, q8, q9, fo, q10⟩) (fun u z eu hne hu heu hbb => by
      rcases get_set hu with ⟨p, _⟩ | ⟨_, hu⟩
      · exact absurd p hne
      · have := hS.sep u _ z _ eu _ hne hu hl heu hel hbb
        cases z <;> exact this.elim)
theorem begin_run {b : Nat} {rr : Loop} (h : w.heap[b]? = some (.loop rr)) (hr : rr.state = .ready) : (Instr.beginRound b).run P w = .ok () (setO w b (.loop { rr with state := .busy })) := by
  simp only [Instr.beginRound, Sem.run_bind, getLoop_run h, Result.andThen_ok, setLoop_run h, hr, Sem.run_pure]
theorem end_run {b : Nat} {rr : Loop} {j : Option Code} (h : w.heap[b]? = some (.loop rr)) : (Instr.endRound b j).run P w = .ok (.bool j.isNone) (setO w b (.loop { rr with state := if j.isNone then .ready else .done, pending := j })) := by
  simp only [Instr.endRound, Sem.run_bind, getLoop_run h, Result.andThen_ok, setLoop_run h, Sem.run_pure]
theorem bR_ne {α : Type} {o : Option α} {f : α → RO} {r : RO} (h : bR o f = r) (hne : r ≠ .bad) : ∃ y, o = some y ∧ f y = r := by
  cases o with
  | none => exact absurd h.symm hne
  | some y => exact ⟨y, rfl, h⟩
theorem cnd_ne {b : Bool} {q r : RO} (h : cnd b q .bad = r) (hne : r ≠ .bad) : b = true ∧ q = r := by
  cases b with
  | false => exact absurd h.symm hne
  | true => exact ⟨rfl, h⟩
/-- A round. -/
theorem callRound_sound (hC : CSound κ P C) (hr : Rest κ P C) {lim l : Nat} {xs : List EV} {vs : List Value} {el : RE} {x : EV} (hS : S κ P ρ s w) (hel : ρ l = some el) (hx : denL ρ xs = some vs) {r : RO} (h : callRound P lim C l xs s = r) (hok : r = .val x s' ∨ r = .pan x s') :
    Invk P (.func (.yield el.b) #[] #[]) vs.toArray w (fun v w' => r = .val x s' ∧ Fine κ P ρ x s' v w') (fun v w' => r = .pan x s' ∧ Fine κ P ρ x s' v w') := by
  have hne : r ≠ .bad := by rcases hok with rfl | rfl <;> simp
  obtain ⟨L, h1, h⟩ := bR_ne h hne
  obtain ⟨y, h2, h3⟩ := bO_some.1 h1
  have h3 := asLoop_some h3
  subst h3
  obtain ⟨hc, h⟩ := cnd_ne h hne
  obtain ⟨hc1, hc2⟩ := band.1 hc
  have hc1 := beq_n hc1
  obtain ⟨rr, fo, q1, q2, q3, q4, q5, q6, q7, q8, q9⟩ := loop_turn hS h2 hel
  cases hRR : thenN (roundBody l L.body { P, C, lim, N := L.N, rd := some l }) (evCode L.assign { P, C, lim, N := L.N, rd := some l } (setPs L.params.toList xs L.tm) [] s) with
  | bad => rw [hRR] at h; exact absurd h.symm hne
  | ok e tm2 df2 s2 =>
    rw [hRR] at h
    obtain ⟨hdf, hZ⟩ := cnd_ne (show cnd df2.isEmpty (Option.rec (bR (bO (T.get s2.h l) asLoop) fun L => bR (roundV e) fun q => roundSet l q L s2) (fun x => .pan x s2) (asPan e)) .bad = r from h) hne
    have hdf : df2 = [] := by simpa using hdf
    subst hdf
    obtain ⟨tm1, df1, s1, h4, h5⟩ := thenN_ok hRR
    have hlv : vs.length = rr.params.toList.length := by rw [denL_len hx, hc1, q4]
    refine ⟨fun d w' hd f hf => ?_, ?_⟩
    · cases (show Result.ok _ w = Result.ok d w' from hd)
      cases (show none = some f from hf)
    · have hrun : (do let d ← Deferred.ofValue (.func (.yield el.b) #[] #[]) vs.toArray; invoke d.target d.args : Sem Next).run P w = (Instr.yield el.b vs.toArray).run P w := by
        show (Instr.yield el.b (#[] ++ vs.toArray)).run P w = _
        simp
      rw [hrun, yield_run q1 hlv]
      show RoundIn _ _ _ _ _ _ _ _ _ _
      rw [q5, q6]
      refine roundIn_ends q8 ?_
      have ht := setPs_sound (N := L.N) hx hc1 (fun p hp => blt_lt (List.all_eq_true.1 hc2 p hp)) q7
      rw [← q4] at ht
      refine evCode_ok hC hr L.assign (cx := { P, C, lim, N := L.N, rd := some l }) (ro := some el.b) rfl h4 hS (by rw [← q4]; rw [q4] at ht ⊢; exact ht) .nil ⟨el, hel, rfl⟩ (fun ρ1 w1 a1 e1 l1 S1 t1 d1 x1 => ?_)
      cases e1 <;> first | exact x1.elim | skip
      -- the round begins
      obtain ⟨L1, h6, h7⟩ := bX_ok (show bX (bO (T.get s1.h l) asLoop) _ = .ok e tm2 [] s2 from h5)
      obtain ⟨h8, h7⟩ := cndX_ok h7
      obtain ⟨y1, h9, h10⟩ := bO_some.1 h6
      have h10 := asLoop_some h10
      subst h10
      obtain ⟨rr1, fo1, p1, p2, p3, p4, p5, p6, p7, p8, p9⟩ := loop_turn S1 h9 (l1 _ _ hel)
      have hready : rr1.state = .ready := by
        rw [p2]
        cases hs : L1.state <;> rw [hs] at h8 <;> first | rfl | cases h8
      refine ⟨_, begin_run p1 hready, ?_⟩
      have S2 : S κ P ρ1 { h := T.set s1.h l (.loop { L1 with state := .busy }), n := s1.n } (setO w1 el.b (.loop { rr1 with state := .busy })) := by
        have := p9 .busy L1.pending
        have e : ({ rr1 with state := .busy, pending := L1.pending } : Loop) = { rr1 with state := .busy } := by rw [← p3]
        rw [e] at this
        exact this
      refine evCode_ok hC hr L.body (cx := { P, C, lim, N := L.N, rd := some l }) (ro := some el.b) rfl h7 S2 t1 d1 ⟨el, l1 _ _ hel, rfl⟩ (fun ρ2 w2 a2 e2 l2 S3 t2 d2 x2 => ?_)
      have hel2 : ρ2 l = some el := l2 _ _ (l1 _ _ hel)
      have jump : ∀ j q, roundV e = some q → asPan e = none → q = (j.isNone, j) → ∃ v w', (Instr.endRound el.b j).run P w2 = .ok v w' ∧ KE (fun v w' => r = .val x s' ∧ Fine κ P ρ x s' v w') (fun v w' => r = .pan x s' ∧ Fine κ P ρ x s' v w') (.returned v) w' := by
        intro j q g1 g2 g3
        rw [g2] at hZ
        obtain ⟨L2, g4, h⟩ := bR_ne (show (bR (bO (T.get s2.h l) asLoop) fun L => bR (roundV e) fun q => roundSet l q L s2) = r from hZ) hne
        obtain ⟨q', g5, h⟩ := bR_ne h hne
        rw [g1] at g5; cases g5
        obtain ⟨y2, g6, g7⟩ := bO_some.1 g4
        have g7 := asLoop_some g7
        subst g7
        obtain ⟨rr2, fo2, u1, u2, u3, u4, u5, u6, u7, u8, u9⟩ := loop_turn S3 g6 hel2
        subst g3
        subst h
        refine ⟨_, _, end_run u1, ?_⟩
        have hv : x = .raw (.bool j.isNone) ∧ s' = { h := T.set s2.h l (.loop { L2 with state := cnd j.isNone .ready .done, pending := j }), n := s2.n } := by
          rcases hok with hok | hok
          · obtain ⟨a, b⟩ := val_inj.1 (show RO.val _ _ = RO.val x s' from hok); exact ⟨a.symm, b.symm⟩
          · cases hok
        obtain ⟨rfl, rfl⟩ := hv
        refine ⟨rfl, ρ2, Env.le_trans l1 l2, ?_, rfl⟩
        have := u9 (if j.isNone then .ready else .done) j
        rw [cnd_eq]
        exact this
      cases e <;> cases e2 <;> first | exact x2.elim | skip
      · exact jump none _ rfl rfl rfl
      · have x2 : _ = _ := x2
        subst x2
        exact jump (some (.exit _)) _ rfl rfl rfl
      · exact jump (some .ret) _ rfl rfl rfl
      · obtain ⟨v, rfl, hv⟩ := x2
        have hd2 : a2.defers = [] := by
          generalize a2.defers = z at d2
          cases d2; rfl
        refine ⟨hd2, v, rfl, ?_⟩
        have hZ : RO.pan _ s2 = r := hZ
        subst hZ
        rcases hok with hok | hok
        · cases hok
        · cases hok
          exact ⟨rfl, ρ2, Env.le_trans l1 l2, S3, hv⟩
end
end Go.Eva
