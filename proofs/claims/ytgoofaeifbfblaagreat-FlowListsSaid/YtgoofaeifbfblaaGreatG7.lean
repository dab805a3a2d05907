/-
  Texts MF, Hc, Hd, Sw, Sp, Sr, Ub, Pb, Pc, He, one behind the other.
-/
import Derived.Test.YtgoofaeifbfblaaGreatG6
set_option linter.unusedVariables false
set_option linter.unusedSimpArgs false
/-
  The abstract layer, part F: a panic in a round of a range over a function.
-/

namespace Go.Abs
open Go.RowKit
section
variable {κ : Ctx} {P : Program} {rd : Option Nat} {Q : Exit → St → Prop} {s : St} {σ : List Res}
/-- This is a function of the program. -/
def known (P : Program) (f : FuncId) : Prop := ∃ fo, P.funcs[f]? = some fo
/-- What wpIn asks, for frames whose function is one of the program's. -/
def wpK (rd : Option Nat) (P : Program) (c : Code) (Q : Exit → Act → World → Prop) (a : Act) (w : World) : Prop :=
  ∀ (b : Frame) (k : List Item) (cs : List Frame), b.roundOf = rd → known P b.fn →
    ∃ e a' w', Q e a' w' ∧ ArrivesIn (Machine.fenced P (FD rd)) P (lone (b.atR a (.code c :: k)) cs w) b k cs e a' w'
theorem FD_round (rd : Option Nat) : (FD rd).round = rd := by cases rd <;> rfl
theorem FD_room (rd : Option Nat) (n : Nat) : (FD rd).room n := fun d hd => by rw [FD_depth] at hd; cases hd
theorem fenced_FD (rd : Option Nat) (m : Machine) : m.fenced P (FD rd) := by
  cases rd with
  | none => exact fenced_wide P m
  | some l => exact fenced_wide P m
theorem wpK_of {c : Code} {Q : Exit → Act → World → Prop} {a : Act} {w : World} (h : c.wpIn (FD rd) 0 P Q a w) : wpK rd P c Q a w :=
  fun b k cs hro _ => h b k cs (hro.trans (FD_round rd).symm) (FD_fn rd _) (FD_room rd _)
theorem wpK_mono {c : Code} {Q Q' : Exit → Act → World → Prop} {a : Act} {w : World} (h : wpK rd P c Q a w) (hq : ∀ e a w, Q e a w → Q' e a w) : wpK rd P c Q' a w :=
  fun b k cs hro hb => let ⟨e, a', w', q, r⟩ := h b k cs hro hb; ⟨e, a', w', hq _ _ _ q, r⟩
theorem wpK_seq {x y : Code} {Q : Exit → Act → World → Prop} {a : Act} {w : World} (h : wpK rd P x (Exit.then (wpK rd P y Q) Q) a w) : wpK rd P (.seq x y) Q a w := by
  intro b k cs hro hb
  have h0 : (lone (b.atR a (.code (.seq x y) :: k)) cs w).fenced P (FD rd) := fenced_FD rd _
  obtain ⟨e, a₁, w₁, hq, harr⟩ := h b (.code y :: k) cs hro hb
  cases e with
  | normal =>
    obtain ⟨e₂, a₂, w₂, hq₂, harr₂⟩ := hq b k cs hro hb
    exact ⟨e₂, a₂, w₂, hq₂, .of_steps (.head h0 stepR_seq harr) harr₂⟩
  | exit id => exact ⟨_, a₁, w₁, hq, .of_steps (.one h0 stepR_seq) (.pass (x := .code y) rfl (fun _ _ => .inl (by simp)) harr)⟩
  | goto l => exact ⟨_, a₁, w₁, hq, .of_steps (.one h0 stepR_seq) (.pass (x := .code y) rfl (fun _ _ => .inl (by simp)) harr)⟩
  | ret => exact ⟨_, a₁, w₁, hq, .of_steps (.one h0 stepR_seq) (.pass (x := .code y) rfl (fun _ _ => .inl (by simp)) harr)⟩
  | panic ch => exact ⟨_, a₁, w₁, hq, .of_steps (.one h0 stepR_seq) (.pass (x := .code y) rfl (fun _ _ => .inl (by simp)) harr)⟩
  | outgrown => exact ⟨_, a₁, w₁, hq, .of_steps (.one h0 stepR_seq) (.pass (x := .code y) rfl (fun _ _ => .inl (by simp)) harr)⟩
theorem wpK_block {id : Nat} {c : Code} {Q : Exit → Act → World → Prop} {a : Act} {w : World} (h : wpK rd P c (Exit.inBlock id Q) a w) : wpK rd P (.block id c) Q a w := by
  intro b k cs hro hb
  have h0 : (lone (b.atR a (.code (.block id c) :: k)) cs w).fenced P (FD rd) := fenced_FD rd _
  obtain ⟨e, a₁, w₁, hq, harr⟩ := h b (.inBlock id :: k) cs hro hb
  cases e with
  | normal => exact ⟨.normal, a₁, w₁, hq, .head h0 stepR_block (StepsIn.trans harr (.one (fenced_FD rd _) stepR_inBlock))⟩
  | exit id' =>
    by_cases hid : id' = id
    · simp only [Exit.inBlock, hid, if_true] at hq
      exact ⟨.normal, a₁, w₁, hq, .head h0 stepR_block (harr.1 k (by simp [exitTo, hid]))⟩
    · simp only [Exit.inBlock, hid, if_false] at hq
      have this : (id == id') = false := by simp; exact fun h => hid h.symm
      have hx : exitTo id' (.inBlock id :: k) = exitTo id' k := by simp [exitTo, this]
      exact ⟨.exit id', a₁, w₁, hq, fun k' hk => .head h0 stepR_block (harr.1 k' (by rw [hx]; exact hk)),
        fun hr' hk => let ⟨k₁, h1, h2⟩ := harr.2 hr' (by rw [hx]; exact hk); ⟨k₁, h1, .head h0 stepR_block h2⟩⟩
  | goto l =>
    have hx : gotoIn l (.inBlock id :: k) = gotoIn l k := by simp [gotoIn]
    exact ⟨_, a₁, w₁, hq, fun k' hk => .head h0 stepR_block (harr.1 k' (by rw [hx]; exact hk)),
      fun hr' hk => let ⟨k₁, h1, h2⟩ := harr.2 hr' (by rw [hx]; exact hk); ⟨k₁, h1, .head h0 stepR_block h2⟩⟩
  | ret => exact ⟨_, a₁, w₁, hq, .of_steps (.one h0 stepR_block) harr⟩
  | panic ch => exact ⟨_, a₁, w₁, hq, .of_steps (.one h0 stepR_block) harr⟩
  | outgrown => exact ⟨_, a₁, w₁, hq, .of_steps (.one h0 stepR_block) harr⟩
theorem wpK_rangeFunc {g : Operand} {ps : Array Tmp} {assign body : Code} {Q : Exit → Act → World → Prop} {a : Act} {w : World}
    (h : ∀ fn, known P fn → ∃ (l : Nat) (mark : List Deferred) (w₁ : World) (d : Deferred) (w₁' : World) (f : FuncId) (args : Array Value) (w₂ : World),
      (Instr.enterLoop fn a.tmps ps assign body rd).run P w = .ok (l, mark) w₁ ∧
      (resolve a.eval (rangeCall g l) 0).run P w₁ = .ok d w₁' ∧
      (invoke d.target d.args).run P w₁' = .ok (.enter f args) w₂ ∧
      CallsIn (FD rd) 0 P f args w₂ (rangePost (FD rd) 0 P l Q { a with defers := mark ++ a.defers })) :
    wpK rd P (.rangeFunc g ps assign body) Q a w := by
  intro b k cs hro hb
  obtain ⟨l, mark, w₁, d, w₁', f, args, w₂, he, hres, hinv, hF, hcall⟩ := h b.fn hb
  rw [← hro] at he
  have henter := stepR_rangeFunc (P := P) (b := b) (a := a) (k := k) (cs := cs) (w := w) he hres hinv
  obtain ⟨e, w₃, fr, hR, hsteps, hfn, hleave⟩ := hcall (b.atR { a with defers := mark ++ a.defers } (.inRangeFunc l :: k) :: cs) (FD_room rd _)
  cases e with
  | outgrown =>
    obtain ⟨a₀, w₀, hq⟩ := hR
    exact ⟨.outgrown, a₀, w₀, hq, .inr (Outgrown.of_steps (.one henter) hsteps)⟩
  | returned v =>
    obtain ⟨jump, w₄, hend, hj⟩ := hR
    have sback : StepsIn (Machine.fenced P (FD rd)) P (lone (b.atR a (.code (.rangeFunc g ps assign body) :: k)) cs w) (lone (b.atR { a with defers := mark ++ a.defers } ((jump.map Item.code).toList ++ k)) cs w₄) := by
      refine .head (fenced_FD rd _) henter (StepsIn.trans hsteps (.head (fenced_FD rd _) ?_ (.one (fenced_FD rd _) (stepR_endRangeFunc hend))))
      rw [← finish_atR_inRangeFunc l v]; exact step_leave_returned hleave
    cases jump with
    | none => exact ⟨.normal, _, w₄, hj, sback⟩
    | some c =>
      obtain ⟨e', a'', w₅, hq, harr⟩ := hj b k cs (hro.trans (FD_round rd).symm) (FD_fn rd _) (FD_room rd _)
      exact ⟨e', a'', w₅, hq, .of_steps sback harr⟩
  | panicked chain =>
    refine ⟨.panic chain, _, w₃, hR, .inRangeFunc l :: k, .head (fenced_FD rd _) henter (StepsIn.trans hsteps (.one (fenced_FD rd _) ?_))⟩
    rw [← Frame.raise_atR]; exact step_leave_panicked hleave
/-- What is asked at a round's end, where a panic may leave it. -/
def roundEnds (P : Program) (l : Nat) (R : Ending → World → Prop) : Exit → Act → World → Prop
  | .normal, _, w => ∃ v w', (Instr.endRound l none).run P w = .ok v w' ∧ R (.returned v) w'
  | .ret, _, w => ∃ v w', (Instr.endRound l (some .ret)).run P w = .ok v w' ∧ R (.returned v) w'
  | .exit id, _, w => ∃ v w', (Instr.endRound l (some (.exit id))).run P w = .ok v w' ∧ R (.returned v) w'
  | .panic ch, a, w => a.defers = [] ∧ R (.panicked ch) w
  | .goto _, _, _ => False
  | .outgrown, _, _ => False
theorem roundIn_ends {l : Nat} {f : FuncId} (hfo : known P f) {tmps : Array Value} {assign body : Code} {w : World} {R : Ending → World → Prop}
    (h : assign.wpIn (FD (some l)) 0 P (Exit.then (fun a₁ w₁ => ∃ w₂, (Instr.beginRound l).run P w₁ = .ok () w₂ ∧ body.wpIn (FD (some l)) 0 P (roundEnds P l R) a₁ w₂) (fun _ _ _ => False)) { tmps := tmps, defers := [] } w) :
    RoundIn Fence.wide 0 P l f tmps assign body w R := by
  refine ⟨trivial, fun c cs hr => ?_⟩
  let b : Frame := { (default : Frame) with fn := f, kind := .normal, roundOf := some l }
  have hb0 : Frame.round l f tmps assign body .normal = b.atR { tmps := tmps, defers := [] } [.code assign, .beginRound, .code body] := by
    simp [Frame.round, Frame.atR, b]
  have fn := fun m => fenced_FD (P := P) (some l) m
  obtain ⟨e, a₁, w₁, hq, harr⟩ := h b [.beginRound, .code body] (c :: cs) rfl (FD_fn _ _) (FD_room _ _)
  rw [← hb0] at harr
  cases e with
  | normal =>
    obtain ⟨w₂, hbr, hbody⟩ := hq
    have s1 : StepsIn (Machine.fenced P (FD (some l))) P (lone (b.atR a₁ [.beginRound, .code body]) (c :: cs) w₁) (lone (b.atR a₁ [.code body]) (c :: cs) w₂) :=
      .one (fn _) (stepR_beginRound rfl hbr)
    obtain ⟨e₂, a₂, w₃, hq₂, harr₂⟩ := hbody b [] (c :: cs) rfl (FD_fn _ _) (FD_room _ _)
    cases e₂ with
    | normal =>
      obtain ⟨v, w₄, hend, hR⟩ := hq₂
      exact ⟨.returned v, w₄, hR, (StepsIn.trans harr s1).trans (StepsIn.trans harr₂ (.one (fn _) (stepR_round_end rfl rfl hend)))⟩
    | ret =>
      obtain ⟨v, w₄, hend, hR⟩ := hq₂
      obtain ⟨k₁, hs⟩ := harr₂.2 rfl
      exact ⟨.returned v, w₄, hR, (StepsIn.trans harr s1).trans (StepsIn.trans hs (.one (fn _) (stepR_round_ret rfl rfl hend)))⟩
    | exit id =>
      obtain ⟨v, w₄, hend, hR⟩ := hq₂
      obtain ⟨k₁, hk, hs⟩ := harr₂.2 rfl rfl
      exact ⟨.returned v, w₄, hR, (StepsIn.trans harr s1).trans (StepsIn.trans hs (.one (fn _) (stepR_round_exit rfl rfl hk hend)))⟩
    | panic chain =>
      obtain ⟨hd, hR⟩ := hq₂
      obtain ⟨todo, hs⟩ := harr₂
      have hleave : ({ b.atR a₂ todo with mode := .panicking chain } : Frame).leaving P w₃ (.panicked chain) := ⟨rfl, hd, hfo⟩
      exact ⟨.panicked chain, w₃, hR, (StepsIn.trans harr s1).trans (StepsIn.trans hs (.one (fn _) (step_leave_panicked hleave)))⟩
    | goto t => exact hq₂.elim
    | outgrown => exact hq₂.elim
  | exit id => exact hq.elim
  | goto t => exact hq.elim
  | ret => exact hq.elim
  | panic chain => exact hq.elim
  | outgrown => exact hq.elim
theorem callsIn_of_wpK {f : FuncId} {fn : Func} {c : Code} {args : Array Value} {w : World} {R : Ending → World → Prop}
    (hf : P.funcs[f]? = some fn) (hb : fn.body = some c) (h : wpK none P c (bodyPostM Fence.wide 0 P fn R) { tmps := args ++ Array.replicate (fn.ntmps - args.size) undef, defers := [] } w) : CallsIn Fence.wide 0 P f args w R := by
  refine ⟨trivial, fun cs hr => ?_⟩
  let b : Frame := { (default : Frame) with fn := f, kind := .normal, roundOf := none }
  have henter : Frame.enter P f args .normal = b.atR { tmps := args ++ Array.replicate (fn.ntmps - args.size) undef, defers := [] } [.code c] := by
    simp [Frame.enter, Frame.atR, hf, hb, b]
  obtain ⟨e, a', w', hq, harr⟩ := h b [] cs rfl ⟨fn, hf⟩
  rw [← henter] at harr
  have hF : Fence.wide.fn f := trivial
  cases e with
  | normal =>
    obtain ⟨e', w'', fr', hR, hs, hfn, hl⟩ := leaves_stepsInM a'.defers .returning w' { b.atR a' [] with mode := .returning } cs rfl rfl rfl hf rfl hF hr hq
    exact ⟨e', w'', fr', hR, ComesIn.of_steps (StepsIn.trans harr (.one (fenced_FD none _) (stepR_end rfl))) hs, hfn, hl⟩
  | ret =>
    obtain ⟨todo, hs₀⟩ := harr.1 rfl
    obtain ⟨e', w'', fr', hR, hs, hfn, hl⟩ := leaves_stepsInM a'.defers .returning w' { b.atR a' todo with mode := .returning } cs rfl rfl rfl hf rfl hF hr hq
    exact ⟨e', w'', fr', hR, ComesIn.of_steps hs₀ hs, hfn, hl⟩
  | panic chain =>
    obtain ⟨todo, hs₀⟩ := harr
    obtain ⟨e', w'', fr', hR, hs, hfn, hl⟩ := leaves_stepsInM a'.defers (.panicking chain) w' { b.atR a' todo with mode := .panicking chain } cs rfl rfl rfl hf rfl hF hr hq
    exact ⟨e', w'', fr', hR, ComesIn.of_steps hs₀ hs, hfn, hl⟩
  | exit id => exact hq.elim
  | goto l => exact hq.elim
  | outgrown => exact ⟨.outgrown, w', b, hq, harr.resolve_left (by simp [b]), rfl, trivial⟩
/-! ### The same, of states -/
def AWX (κ : Ctx) (rd : Option Nat) (P : Program) (c : Code) (Q : Exit → St → Prop) (s : St) : Prop :=
  ∀ φ g a w, SR κ φ g s a w → wpK rd P c (Post κ φ g w Q) a w
theorem AWX_of {c : Code} (h : AW κ rd P c Q s) : AWX κ rd P c Q s := fun φ g a w hs => wpK_of (h φ g a w hs)
theorem AWX_seq {x y : Code} (h : AWX κ rd P x (thenQ (AWX κ rd P y Q) Q) s) : AWX κ rd P (.seq x y) Q s := fun φ g a w hs => by
  refine wpK_seq (wpK_mono (h φ g a w hs) ?_)
  rintro e a' w' ⟨g', s', hs', hge, hq⟩
  cases e with
  | normal => exact wpK_mono (hq φ g' a' w' hs') (fun e a2 w2 hp => hp.mono hge)
  | exit id => exact ⟨g', s', hs', hge, hq⟩
  | goto id => exact ⟨g', s', hs', hge, hq⟩
  | ret => exact ⟨g', s', hs', hge, hq⟩
  | panic ch => exact ⟨g', s', hs', hge, hq⟩
  | outgrown => exact ⟨g', s', hs', hge, hq⟩
/-- An ordinary piece ahead of one with a range in it. -/
theorem AWX_seqR {x y : Code} (h : run κ P rd x (thenQ (AWX κ rd P y Q) Q) s) : AWX κ rd P (.seq x y) Q s := AWX_seq (AWX_of (run_sound x _ s h))
theorem AWX_block {id : Nat} {c : Code} (h : AWX κ rd P c (blockQ id Q) s) : AWX κ rd P (.block id c) Q s := fun φ g a w hs => by
  refine wpK_block (wpK_mono (h φ g a w hs) ?_)
  rintro e a' w' ⟨g', s', hs', hge, hq⟩
  cases e with
  | exit id' =>
    simp only [blockQ] at hq
    simp only [Exit.inBlock]
    split at hq
    · rename_i e; rw [if_pos e]; exact ⟨g', s', hs', hge, hq⟩
    · rename_i e; rw [if_neg e]; exact ⟨g', s', hs', hge, hq⟩
  | normal => exact ⟨g', s', hs', hge, hq⟩
  | goto id => exact ⟨g', s', hs', hge, hq⟩
  | ret => exact ⟨g', s', hs', hge, hq⟩
  | panic ch => exact ⟨g', s', hs', hge, hq⟩
  | outgrown => exact ⟨g', s', hs', hge, hq⟩
/-- An outermost range over a function, whose rounds may panic. -/
theorem AWX_range {f : Operand} {ps : Array Tmp} {assign body : Code} {gf : FuncId} {first cap : Array Value} (hf : s.ev f = .raw (.func (.func gf) first cap)) (hok : callOk P gf)
    (h : ∀ l (d : Nat × Nat), known P d.2 → ACallF κ P gf (first.toList.map .raw ++ [.raw (.func (.yield l) #[] #[])] ++ cap.toList.map .raw) (.loop l .ready none s.t ps assign body d :: s.σ) (rangeK κ P none Q s l ps assign body d)) :
    AWX κ none P (.rangeFunc f ps assign body) Q s := by
  intro φ g a w hs
  refine wpK_rangeFunc (fun fn hkn => ?_)
  obtain ⟨ds, hd, hfr, hR, ht⟩ := hs
  have hfv := ev_sound ht f
  rw [hf] at hfv
  have hfv' := hfv.raw_eq
  obtain ⟨fnn, hfn, hn1, hn2⟩ := hok
  obtain ⟨b1, b2⟩ := hR.new_blk (.deferred (some [])) trivial
  obtain ⟨c1, c2⟩ := b1.new_loop { state := .ready, pending := none, fn := fn, tmps := a.tmps, params := ps, assign := assign, body := body, defers := w.heap.size } (ht.mono b2)
  generalize hw2 : (w.alloc (.deferred (some []))).alloc (.loop { state := .ready, pending := none, fn := fn, tmps := a.tmps, params := ps, assign := assign, body := body, defers := w.heap.size }) = w2 at *
  have hl : (w.alloc (.deferred (some []))).heap.size = w.heap.size + 1 := by simp
  rw [hl] at c1
  simp only at c1
  have hp : (Res.loop (w.heap.size + 1) .ready none s.t ps assign body (w.heap.size, fn) :: (Res.blk w.heap.size (.deferred (some [])) :: (φ ++ (ds.map dres ++ s.σ)))).Perm ((φ ++ (w.heap.size :: ds).map dres) ++ (Res.loop (w.heap.size + 1) .ready none s.t ps assign body (w.heap.size, fn) :: s.σ)) := by
    simp only [List.map_cons]
    have p1 : (Res.blk w.heap.size (.deferred (some [])) :: (φ ++ (ds.map dres ++ s.σ))).Perm (φ ++ (dres w.heap.size :: ds.map dres) ++ s.σ) := by
      rw [← List.append_assoc]
      refine List.Perm.trans ?_ ((List.perm_middle (a := dres w.heap.size) (l₁ := φ) (l₂ := ds.map dres)).symm.append_right s.σ)
      exact List.Perm.refl _
    exact (p1.cons _).trans List.perm_middle.symm
  have hR2 := c1.perm hp
  have hge := b2.trans c2
  refine ⟨w.heap.size + 1, [mkMark w.heap.size], w2, { target := .fn (.func gf) cap, args := first ++ #[.func (.yield (w.heap.size + 1)) #[] #[]] }, w2, gf, first ++ #[.func (.yield (w.heap.size + 1)) #[] #[]] ++ cap, w2, ?_, ?_, ?_, ?_⟩
  · rw [← hw2]; exact run_enterLoop_outer fn a.tmps ps assign body
  · show Sem.run P (Deferred.ofValue (a.eval f) _) w2 = _
    rw [hfv']
    simp [Deferred.ofValue, Act.eval]
  · simp only [invoke]; exact callFunc_run hfn hn1 hn2 _ _
  · refine callsIn_FD (CallsIn.mono (h (w.heap.size + 1) (w.heap.size, fn) hkn _ g w2 _ hR2 yieldV_ok) ?_) none _
    rintro e w3 ⟨g', σ', r, hR3, hge3, her, j, st, pend, hj, hk⟩
    obtain ⟨rec, k1, k2, k3, k4, k5, k6, k7, k8, k9⟩ := loop_turn hR3 hj
    have ht3 : TR g' w3 s.t a.tmps := (ht.mono hge).mono hge3
    cases r with
    | ret x =>
      cases e with
      | returned v =>
        obtain ⟨hst, hk⟩ := hk
        obtain ⟨k10, k11⟩ := k9 .exhausted pend
        refine ⟨pend, { w3 with heap := w3.heap.setIfInBounds (w.heap.size + 1) (.loop { rec with state := .exhausted, pending := pend }) }, ?_, ?_⟩
        · subst k3
          exact run_endLoop k1 (by rw [k2]; exact hst)
        · have hs' : SR κ φ g' ⟨s.t, σ'.eraseIdx j, false, s.df⟩ { a with defers := [mkMark w.heap.size] ++ a.defers } { w3 with heap := w3.heap.setIfInBounds (w.heap.size + 1) (.loop { rec with state := .exhausted, pending := pend }) } := by
            refine ⟨w.heap.size :: ds, by simp [hd], fun e => (by cases e), ?_, ht3.mono k11⟩
            have := k10.sub ((List.Sublist.refl (φ ++ (w.heap.size :: ds).map dres)).append (erase_sub _ j))
            rw [← List.append_assoc]
            have e2 : (σ'.set j (.loop (w.heap.size + 1) .exhausted pend s.t ps assign body (w.heap.size, fn))).eraseIdx j = σ'.eraseIdx j := by
              rw [List.eraseIdx_set_eq]
            rw [e2] at this
            exact this
          cases pend with
          | none => exact ⟨g', _, hs', (hge.trans hge3).trans k11, hk⟩
          | some c => exact wpIn_mono (run_sound c Q _ hk φ g' _ _ hs') (fun e a4 w4 hp => hp.mono ((hge.trans hge3).trans k11))
      | panicked c => exact her.elim
      | outgrown => exact her.elim
    | pan c =>
      cases e with
      | returned v => exact her.elim
      | panicked c' =>
        cases (show c' = c from her)
        refine ⟨g', ⟨s.t, σ'.eraseIdx j, false, s.df⟩, ⟨w.heap.size :: ds, by simp [hd], fun e => (by cases e), ?_, ht3⟩, hge.trans hge3, hk⟩
        rw [← List.append_assoc]
        exact hR3.sub ((List.Sublist.refl (φ ++ (w.heap.size :: ds).map dres)).append (erase_sub _ j))
      | outgrown => exact her.elim
/-! ### A call of yield, whose round may panic -/
/-- The end of a round. -/
def roundX (l : Nat) (t : List AV) (ps : Array Tmp) (assign body : Code) (d : Nat × Nat) (K : Ret → List Res → Prop) : Exit → St → Prop
  | .normal, s => ∃ j, s.σ[j]? = some (.loop l .busy none t ps assign body d) ∧ K (.ret (B true)) (s.σ.set j (.loop l .ready none t ps assign body d))
  | .ret, s => ∃ j, s.σ[j]? = some (.loop l .busy none t ps assign body d) ∧ K (.ret (B false)) (s.σ.set j (.loop l .done (some .ret) t ps assign body d))
  | .exit id, s => ∃ j, s.σ[j]? = some (.loop l .busy none t ps assign body d) ∧ K (.ret (B false)) (s.σ.set j (.loop l .done (some (.exit id)) t ps assign body d))
  | .panic c, s => s.fr = true ∧ s.df = [] ∧ K (.pan c) s.σ
  | _, _ => False
theorem ACallY_mkX {l : Nat} {args : List AV} {K : Ret → List Res → Prop} {t : List AV} {ps : Array Tmp} {assign body : Code} {d : Nat × Nat} (Q1 : Exit → St → Prop) (hQ : ∀ e s, Q1 e s → roundX l t ps assign body d K e s) (hkn : known P d.2) (i : Nat) (h : σ[i]? = some (.loop l .ready none t ps assign body d)) (hps : ps.size = args.length)
    (hrun : run κ P (some l) assign (thenQ (fun s1 => ∃ j, s1.σ[j]? = some (.loop l .ready none t ps assign body d) ∧ run κ P (some l) body Q1 ⟨s1.t, s1.σ.set j (.loop l .busy none t ps assign body d), s1.fr, s1.df⟩) (fun _ _ => False)) ⟨setPs t ps.toList args, σ, true, []⟩) : ACallY κ P l args σ K := by
  intro φ g w vs hR hv
  obtain ⟨r, k1, k2, k3, k4, k5, k6, k7, k8, _⟩ := loop_turn hR h
  refine ⟨r.fn, (r.params.zip vs).foldl (fun tmps (x : Tmp × Value) => tmps.setIfInBounds x.1 x.2) r.tmps, assign, body, ?_, ?_⟩
  · have := run_yield (P := P) (args := vs) k1 (by rw [hv.size, k4, hps])
    rw [k5, k6] at this; exact this
  · refine roundIn_ends (by rw [← k7] at hkn; exact hkn) ?_
    have hs : SR κ φ g ⟨setPs t ps.toList args, σ, true, []⟩ { tmps := (r.params.zip vs).foldl (fun tmps (x : Tmp × Value) => tmps.setIfInBounds x.1 x.2) r.tmps, defers := [] } w := by
      refine ⟨[], rfl, fun _ => rfl, by simpa using hR, ?_⟩
      have := setPs_ok ps.toList args vs.toList t r.tmps k8 (by simpa using hv)
      rw [k4]
      have e : ((ps.zip vs).foldl (fun tmps (x : Tmp × Value) => tmps.setIfInBounds x.1 x.2) r.tmps) = ((ps.toList.zip vs.toList).foldl (fun tmps (x : Tmp × Value) => tmps.setIfInBounds x.1 x.2) r.tmps) := by
        rw [← Array.toList_zip, Array.foldl_toList]
      rw [e]; exact this
    refine wpIn_mono (run_sound assign _ _ hrun φ g _ w hs) ?_
    rintro e a1 w1 ⟨g1, s1, hs1, hge1, hq⟩
    cases e with
    | normal =>
      obtain ⟨j, hj, hbody⟩ := hq
      obtain ⟨ds1, hd1, hfr1, hR1, ht1⟩ := hs1
      rw [← List.append_assoc] at hR1
      obtain ⟨r1, m1, m2, m3, m4, m5, m6, m7, m8, m9⟩ := loop_turn hR1 hj
      obtain ⟨m10, m11⟩ := m9 .busy none
      refine ⟨{ w1 with heap := w1.heap.setIfInBounds l (.loop { r1 with state := .busy, pending := none }) }, ?_, ?_⟩
      · have hpend : ({ r1 with state := LoopState.busy, pending := none } : Loop) = { r1 with state := LoopState.busy } := by rw [← m3]
        rw [hpend]
        exact run_beginRound m1 m2
      · have hs2 : SR κ φ g1 ⟨s1.t, s1.σ.set j (.loop l .busy none t ps assign body d), s1.fr, s1.df⟩ a1 { w1 with heap := w1.heap.setIfInBounds l (.loop { r1 with state := .busy, pending := none }) } :=
          ⟨ds1, hd1, hfr1, by rw [← List.append_assoc]; exact m10, ht1.mono m11⟩
        refine wpIn_mono (run_sound body _ _ hbody φ g1 a1 _ hs2) ?_
        have fin : ∀ (jump : Option Code) (b : Bool) (a2 : Act) (w2 : World) (g2 : Nat → Nat) (s2 : St) (st' : LoopState), SR κ φ g2 s2 a2 w2 → GE g w g2 w2 → st' = (if jump.isNone then .ready else .done) → b = jump.isNone → (∃ j, s2.σ[j]? = some (.loop l .busy none t ps assign body d) ∧ K (.ret (B b)) (s2.σ.set j (.loop l st' jump t ps assign body d))) →
            ∃ v w', (Instr.endRound l jump).run P w2 = .ok v w' ∧ CPost κ φ g w K (.returned v) w' := by
          intro jump b a2 w2 g2 s2 st' hs2 hge2 hst hb hex
          obtain ⟨j2, hj2, hk⟩ := hex
          obtain ⟨ds2, hd2, hfr2, hR2, ht2⟩ := hs2
          rw [← List.append_assoc] at hR2
          obtain ⟨r2, n1, n2, n3, n4, n5, n6, n7, n8, n9⟩ := loop_turn hR2 hj2
          obtain ⟨n10, n11⟩ := n9 st' jump
          refine ⟨.bool jump.isNone, { w2 with heap := w2.heap.setIfInBounds l (.loop { r2 with state := st', pending := jump }) }, ?_, g2, _, .ret (B b), ?_, hge2.trans n11, by rw [hb]; exact .raw _, hk⟩
          · rw [hst]; exact run_endRound jump n1
          · rw [List.append_assoc] at n10
            exact n10.sub ((List.Sublist.refl φ).append (List.sublist_append_right _ _))
        rintro e a2 w2 ⟨g2, s2, hs3, hge3, hq2⟩
        replace hq2 := hQ _ _ hq2
        have hge4 : GE g w g2 w2 := hge1.trans (m11.trans hge3)
        cases e with
        | normal => exact fin none true a2 w2 g2 s2 .ready hs3 hge4 rfl rfl hq2
        | ret => exact fin (some .ret) false a2 w2 g2 s2 .done hs3 hge4 rfl rfl hq2
        | exit id => exact fin (some (.exit id)) false a2 w2 g2 s2 .done hs3 hge4 rfl rfl hq2
        | goto id => exact hq2.elim
        | panic c =>
          obtain ⟨q1, q2, q3⟩ := hq2
          obtain ⟨ds2, hd2, hfr2, hR2, ht2⟩ := hs3
          cases hfr2 q1
          refine ⟨by rw [hd2, q2]; rfl, g2, _, .pan c, ?_, hge4, rfl, q3⟩
          simpa using hR2
        | outgrown => exact hq2.elim
    | exit id => exact hq.elim
    | goto id => exact hq.elim
    | ret => exact hq.elim
    | panic c => exact hq.elim
    | outgrown => exact hq.elim
/-- The end of a round. 'Rb': the loop's resource while a round runs; 'τ': what there is beside it. -/
def rngX (Q : Exit → St → Prop) (t : List AV) (fr : Bool) (df : List Deferred) (Rb : Res) (Inv : List Res → Prop) : Exit → St → Prop
  | .normal, s => ∃ τ, ResS Rb s.σ τ ∧ Inv τ
  | .ret, s => ∃ τ, ResS Rb s.σ τ ∧ Q .ret ⟨t, τ, fr, df⟩
  | .exit id, s => ∃ τ, ResS Rb s.σ τ ∧ Q (.exit id) ⟨t, τ, fr, df⟩
  | .panic c, s => s.fr = true ∧ s.df = [] ∧ ∃ τ, ResS Rb s.σ τ ∧ Q (.panic c) ⟨t, τ, fr, df⟩
  | _, _ => False
/-- Behind the assignments of a round. 'Rr': the loop's resource between rounds. -/
def rngB (κ : Ctx) (P : Program) (Q : Exit → St → Prop) (t : List AV) (fr : Bool) (df : List Deferred) (l : Nat) (body : Code) (Rr Rb : Res) (Inv : List Res → Prop) (s1 : St) : Prop :=
  ∃ j, s1.σ[j]? = some Rr ∧ run κ P (some l) body (rngX Q t fr df Rb Inv) ⟨s1.t, s1.σ.set j Rb, s1.fr, s1.df⟩
theorem rngX_normal {Q : Exit → St → Prop} {t : List AV} {fr : Bool} {df : List Deferred} {Rb : Res} {Inv : List Res → Prop} {s : St} : rngX Q t fr df Rb Inv .normal s = ∃ τ, ResS Rb s.σ τ ∧ Inv τ := rfl
theorem rngX_ret {Q : Exit → St → Prop} {t : List AV} {fr : Bool} {df : List Deferred} {Rb : Res} {Inv : List Res → Prop} {s : St} : rngX Q t fr df Rb Inv .ret s = ∃ τ, ResS Rb s.σ τ ∧ Q .ret ⟨t, τ, fr, df⟩ := rfl
theorem rngX_panic {Q : Exit → St → Prop} {t : List AV} {fr : Bool} {df : List Deferred} {Rb : Res} {Inv : List Res → Prop} {s : St} {c : List PanicEntry} : rngX Q t fr df Rb Inv (.panic c) s = (s.fr = true ∧ s.df = [] ∧ ∃ τ, ResS Rb s.σ τ ∧ Q (.panic c) ⟨t, τ, fr, df⟩) := rfl
/-- What a round of a range is asked. -/
def RoundX (κ : Ctx) (P : Program) (Q : Exit → St → Prop) (t : List AV) (fr : Bool) (df : List Deferred) (ps : Array Tmp) (assign body : Code) (Inv : List (List AV) → List Res → Prop) (d : Nat × Nat) : Prop :=
  ∀ (l : Nat) (Rr Rb : Res), isLoop l d Rb → ∀ x xs τ, Inv (x :: xs) τ → ps.size = x.length ∧ run κ P (some l) assign (thenQ (rngB κ P Q t fr df l body Rr Rb (Inv xs)) (fun _ _ => False)) ⟨setPs t ps.toList x, Rr :: τ, true, []⟩
theorem rngX_round {Q : Exit → St → Prop} {s0 : St} {l : Nat} {ps : Array Tmp} {assign body : Code} {d : Nat × Nat} {Inv : List (List AV) → List Res → Prop} {x : List AV} {xs : List (List AV)} {τ : List Res} (hkn : known P d.2) (hps : ps.size = x.length)
    (h : run κ P (some l) assign (thenQ (rngB κ P Q s0.t (rd.isSome && s0.fr) s0.df l body (.loop l .ready none s0.t ps assign body d) (.loop l .busy none s0.t ps assign body d) (Inv xs)) (fun _ _ => False)) ⟨setPs s0.t ps.toList x, .loop l .ready none s0.t ps assign body d :: τ, true, []⟩) :
    ACallY κ P l x (.loop l .ready none s0.t ps assign body d :: τ) (YK (fun σ' => ∃ τ', σ' = .loop l .ready none s0.t ps assign body d :: τ' ∧ Inv xs τ') (rangeK κ P rd Q s0 l ps assign body d)) := by
  refine ACallY.dropW (ACallY_mkX (rngX Q s0.t (rd.isSome && s0.fr) s0.df (.loop l .busy none s0.t ps assign body d) (Inv xs)) ?_ hkn 0 rfl hps h)
  intro e s hq
  cases e with
  | normal =>
    obtain ⟨τ', ⟨τ0, hs, hw⟩, hi⟩ := hq
    obtain ⟨j, h1, h2⟩ := sub_set hs
    exact ⟨j, h1, _, (sub_resW (h2 _)).trans (hw.cons _), τ', rfl, hi⟩
  | ret =>
    obtain ⟨τ', ⟨τ0, hs, hw⟩, hi⟩ := hq
    obtain ⟨j, h1, h2⟩ := sub_set hs
    exact ⟨j, h1, _, (sub_resW (h2 _)).trans (hw.cons _), 0, _, _, rfl, by simp, hi⟩
  | exit id =>
    obtain ⟨τ', ⟨τ0, hs, hw⟩, hi⟩ := hq
    obtain ⟨j, h1, h2⟩ := sub_set hs
    exact ⟨j, h1, _, (sub_resW (h2 _)).trans (hw.cons _), 0, _, _, rfl, by simp, hi⟩
  | goto id => exact hq.elim
  | panic c =>
    obtain ⟨q1, q2, τ', ⟨τ0, hs, hw⟩, hi⟩ := hq
    obtain ⟨j, h1, h2⟩ := sub_set hs
    have h3 := h2 (.loop l .busy none s0.t ps assign body d)
    refine ⟨q1, q2, .loop l .busy none s0.t ps assign body d :: τ', ?_, 0, _, _, rfl, hi⟩
    have e : s.σ.set j (.loop l .busy none s0.t ps assign body d) = s.σ := by
      refine List.ext_getElem? fun k => ?_
      rw [List.getElem?_set]
      split
      · rename_i e; subst e
        rw [h1]
        split
        · rfl
        · rename_i hn; rw [List.getElem?_eq_none (by omega)] at h1; cases h1
      · rfl
    rw [e] at h3
    exact (sub_resW h3).trans (hw.cons _)
  | outgrown => exact hq.elim
theorem ACallF_introX {f : FuncId} {fn : Func} {c : Code} {args : List AV} {σ : List Res} {K : Ret → List Res → Prop} (hf : P.funcs[f]? = some fn) (hb : fn.body = some c)
    (h : AWX κ none P c (LeaveQ κ P fn K) { t := args ++ List.replicate (fn.ntmps - args.length) .any, σ := σ }) : ACallF κ P f args σ K := by
  intro φ g w vs hR hv
  refine callsIn_of_wpK hf hb ?_
  have hs : SR κ φ g { t := args ++ List.replicate (fn.ntmps - args.length) .any, σ := σ } { tmps := vs ++ Array.replicate (fn.ntmps - vs.size) undef, defers := [] } w := by
    refine ⟨[], rfl, fun _ => rfl, hR, hv.append ⟨by simp [hv.size], fun k x hk => ?_⟩⟩
    rw [List.getElem?_replicate] at hk
    split at hk
    · cases hk; exact .any _
    · cases hk
  refine wpK_mono (h φ g _ w hs) ?_
  have leave : ∀ (g' : Nat → Nat) (s' : St) (a' : Act) (w' : World), SR κ φ g' s' a' w' → GE g w g' w' → s'.df = [] → resK κ P fn s' K → LeavesInM Fence.wide 0 P fn a'.tmps (CPost κ φ g w K) a'.defers .returning w' := by
    intro g' s' a' w' hs' hge hdf hk
    obtain ⟨ds, hd, hfr, hR', ht'⟩ := hs'
    rw [hd, hdf, List.append_nil]
    refine leave_marks (κ := κ) (φ := φ) (σ := s'.σ) .returning (by simp) ds g' w' hR' (fun w2 hR2 hge2 => ?_)
    obtain ⟨v, x, h1, h2, h3⟩ := resK_sound hk φ g' w2 a'.tmps hR2 (ht'.mono hge2)
    exact ⟨v, h1, g', s'.σ, .ret x, hR2, hge.trans hge2, h2, h3⟩
  rintro e a' w' ⟨g', s', hs', hge, hq⟩
  cases e with
  | normal => exact leave g' s' a' w' hs' hge hq.1 hq.2
  | ret => exact leave g' s' a' w' hs' hge hq.1 hq.2
  | panic ch =>
    obtain ⟨hdf, hk⟩ := hq
    obtain ⟨ds, hd, hfr, hR', ht'⟩ := hs'
    show LeavesInM Fence.wide 0 P fn a'.tmps (CPost κ φ g w K) a'.defers (.panicking ch) w'
    rw [hd, hdf, List.append_nil]
    refine leave_marks (κ := κ) (φ := φ) (σ := s'.σ) (.panicking ch) (by simp) ds g' w' hR' (fun w2 hR2 hge2 => ?_)
    exact ⟨g', s'.σ, .pan ch, hR2, hge.trans hge2, rfl, hk⟩
  | exit id => exact hq.elim
  | goto id => exact hq.elim
  | outgrown => exact hq.elim
/-- What is yielded, where the function that yields relies on H. -/
def IterH (κ : Ctx) (P : Program) (L : Nat) (K : Ret → List Res → Prop) (H : List Res → Prop) : List (List AV) → List Res → Prop
  | [], σ => H σ ∧ K (.ret (.tup [])) σ
  | x :: xs, σ => H σ ∧ ACallY κ P L x σ (YK (fun σ' => IterH κ P L K H xs σ') K)
theorem IterH.holds {L : Nat} {K : Ret → List Res → Prop} {H : List Res → Prop} : ∀ {xs : List (List AV)} {σ : List Res}, IterH κ P L K H xs σ → H σ
  | [], _, h => h.1
  | _ :: _, _, h => h.1
theorem IterH_by {L : Nat} {K : Ret → List Res → Prop} (H : List Res → Prop) (Inv : List (List AV) → List Res → Prop) (hH : ∀ xs σ, Inv xs σ → H σ) (hend : ∀ σ, Inv [] σ → K (.ret (.tup [])) σ) (round : ∀ x xs σ, Inv (x :: xs) σ → ACallY κ P L x σ (YK (Inv xs) K)) : ∀ xs σ, Inv xs σ → IterH κ P L K H xs σ
  | [], σ, h => ⟨hH _ _ h, hend σ h⟩
  | x :: xs, σ, h => ⟨hH _ _ h, (round x xs σ h).mono fun r σ' hr => by
    unfold YK at hr ⊢
    split at hr
    · exact IterH_by H Inv hH hend round xs _ hr
    · exact hr
    · exact hr
    · exact hr.elim⟩
/-- As range_byX; H: what the function that is ranged over may rely on. 'ρ' is what the function that is ranged over takes with it. -/
theorem range_byH {Q : Exit → St → Prop} {t : List AV} {σ : List Res} {fr : Bool} {df : List Deferred} {f : Operand} {ps : Array Tmp} {assign body : Code} (gf : FuncId) (first cap : List Value) (xs : List (List AV)) (ρ τ : List Res) (Inv : List (List AV) → List Res → Prop) (H : List Res → Prop) (hH : ∀ xs τ r, Inv xs τ → H (r :: τ))
    (hf : (⟨t, σ, fr, df⟩ : St).ev f = .raw (.func (.func gf) first.toArray cap.toArray)) (hok : callOk P gf = True) (hσ : ResW σ (ρ ++ τ))
    (hiter : ∀ (L : Nat) (K : Ret → List Res → Prop) (σ' : List Res), IterH κ P L K H xs σ' → ACallF κ P gf (first.map .raw ++ [.raw (.func (.yield L) #[] #[])] ++ cap.map .raw) (ρ ++ σ') K)
    (h0 : Inv xs τ)
    (hend : ∀ τ, Inv [] τ → Q .normal ⟨t, τ, false, df⟩)
    (hround : ∀ d, RoundX κ P Q t false df ps assign body Inv d) :
    AWX κ none P (.rangeFunc f ps assign body) Q ⟨t, σ, fr, df⟩ := by
  refine AWX_range hf (hok ▸ trivial) (fun l d hkn => ?_)
  have hp : ResW (Res.loop l .ready none t ps assign body d :: σ) (ρ ++ (Res.loop l .ready none t ps assign body d :: τ)) := ((hσ.cons _).trans (ResW.perm List.perm_middle.symm))
  refine ACallF.weak hp ?_
  have e1 : (first.toArray.toList.map AV.raw ++ [.raw (.func (.yield l) #[] #[])] ++ cap.toArray.toList.map AV.raw) = (first.map .raw ++ [.raw (.func (.yield l) #[] #[])] ++ cap.map .raw) := by simp
  rw [e1]
  refine hiter l _ _ (IterH_by H (fun xs σ' => ∃ τ', σ' = .loop l .ready none t ps assign body d :: τ' ∧ Inv xs τ') (by rintro xs _ ⟨τ', rfl, hi⟩; exact hH _ _ _ hi) ?_ ?_ xs _ ⟨τ, rfl, h0⟩)
  · rintro _ ⟨τ', rfl, hi⟩
    exact ⟨0, _, _, rfl, by simp, hend τ' hi⟩
  · rintro x xs _ ⟨τ', rfl, hi⟩
    obtain ⟨h1, h2⟩ := hround d l _ (.loop l .busy none t ps assign body d) ⟨_, _, _, _, _, _, rfl⟩ x xs τ' hi
    exact rngX_round (rd := none) (s0 := ⟨t, σ, fr, df⟩) hkn h1 h2
end
end Go.Abs
/-
  Walks: chapter 13, the places at which lines go on.
-/


namespace Go.Proofs.YtgoofaeifbfblaaGreat
open Go.Abs
set_option linter.unusedVariables false
set_option linter.unusedSimpArgs false
variable {κ : Ctx} {σ : List Res} {K : Ret → List Res → Prop} {o o' : Option (Option (Nat × Nat))}
/-- A place behind blanks, and whether something stands there. -/
def someF (ls : List Ln) (p : Int × Int) : (Int × Int) × Bool := ((pastF ls p).1, decide (0 < (pastF ls p).2.length) && !comF ls (pastF ls p).1 (pastF ls p).2)
def placesN (ls : List Ln) : Nat → Int × Int → List ((Int × Int) × Bool)
  | 0, p => [someF ls p]
  | m + 1, p => someF ls p :: (if overF ls (p.1 + 1) then [] else placesN ls m (p.1 + 1, 0))
/-- The places at which lines go on from a place. -/
def placesL (ls : List Ln) (p : Int × Int) : List ((Int × Int) × Bool) := placesN ls ((ls.length : Int) - p.1).toNat p
set_option maxHeartbeats 8000000 in
theorem places_step {ls : List Ln} {p : Int × Int} : placesL ls p = someF ls p :: (if overF ls (p.1 + 1) then [] else placesL ls (p.1 + 1, 0)) := by
  unfold placesL
  rcases Nat.eq_zero_or_pos ((ls.length : Int) - p.1).toNat with h | h
  · rw [h]
    have : overF ls (p.1 + 1) = true := by unfold overF; rw [decide_eq_true (by omega)]; rfl
    rw [if_pos this]; rfl
  · obtain ⟨m, hm⟩ : ∃ m, ((ls.length : Int) - p.1).toNat = m + 1 := ⟨((ls.length : Int) - p.1).toNat - 1, by omega⟩
    have hm2 : ((ls.length : Int) - (p.1 + 1)).toNat = m := by omega
    rw [hm]
    dsimp only
    rw [hm2]; rfl
set_option maxHeartbeats 8000000 in
theorem over_in {ls : List Ln} {i : Int} (h : overF ls i = false) : i < ls.length := by
  unfold overF at h
  simp only [Bool.or_eq_false_iff, decide_eq_false_iff_not] at h
  omega
set_option maxHeartbeats 8000000 in
theorem pastF_line {ls : List Ln} {p : Int × Int} : (pastF ls p).1.1 = p.1 := rfl
set_option maxHeartbeats 8000000 in
theorem pastF_le {ls : List Ln} {p : Int × Int} (hs : Small ls) : (pastF ls p).2.length ≤ 2000 := by
  unfold pastF
  have := restF_len (p := (p.1, colF ls p)) hs
  simp only [List.length_drop]; omega
set_option maxHeartbeats 8000000 in
theorem colF_in {ls : List Ln} {p : Int × Int} (hs : Small ls) (hp : In64 p.2) : In64 (colF ls p) ∧ p.2 ≤ colF ls p := by
  unfold colF
  split
  · have := hs.at_ (i := p.1.toNat) (by omega); omega
  · exact ⟨hp, by omega⟩
set_option maxHeartbeats 8000000 in
theorem pastF_in {ls : List Ln} {p : Int × Int} (hs : Small ls) (hp : In64 p.2) : In64 (pastF ls p).1.2 ∧ p.2 ≤ (pastF ls p).1.2 := by
  have h1 := colF_in hs hp
  have h2 := blN_le (restF ls (p.1, colF ls p))
  have h3 := fun h => restF_some (p := (p.1, colF ls p)) hs h
  unfold pastF
  dsimp only at *
  rcases Nat.eq_zero_or_pos (restF ls (p.1, colF ls p)).length with h | h
  · have : blN (restF ls (p.1, colF ls p)) = 0 := by omega
    rw [this]; omega
  · have := h3 h; omega
set_option maxHeartbeats 8000000 in
theorem jPlaces {bj : Nat} {p : Int × Int} (hK : ∀ b1 b2, K (.ret (.raw (.func (.func 173) #[] #[.pointer (some ⟨b1, 0, none⟩), .pointer (some ⟨b2, 0, none⟩)]))) (.obj b2 [I p.1, I p.2] :: .obj b1 [JP bj] :: σ)) : ACallF κ Tryz.prog 144 [JP bj, PLA p] σ K := by
  refine ACallF.dropL (ACallF_intro Tryz.func144 rfl ?_)
  simp only [Tryz.ntmps144]
  repeat' (first | simp only [WL, WM, Nat.reduceAdd, Nat.reduceSub, true_and, Tryz.results144] | with_reducible refine y_box (hK := fun b => ?_))
  exact leafL sub_rfl (leT_eq rfl) (hK _ _)
set_option maxHeartbeats 8000000 in
theorem jPlacesIt {b1 b2 L bj : Nat} {ls : List Ln} {n d : Int} {bk : Bool} {x y : AV} {p : Int × Int} (hs : Small ls) (hp : 0 ≤ p.1 ∧ p.1 ≤ 1000000000 ∧ In64 p.2 ∧ 0 ≤ p.2)
    (hI : IterH κ Tryz.prog L K (fun σ => ∃ ix, Hold σ bj ix (JC ls n bk d x y)) ((placesL ls p).map fun q => [PLA q.1, B q.2]) σ) :
    ACallF κ Tryz.prog 173 [.raw (.func (.yield L) #[] #[]), .raw (.pointer (some ⟨b1, 0, none⟩)), .raw (.pointer (some ⟨b2, 0, none⟩))] (.obj b2 [I p.1, I p.2] :: .obj b1 [JP bj] :: σ) K := by
  refine ACallF.dropL (ACallF_intro Tryz.func173 rfl ?_)
  simp only [Tryz.ntmps173]
  repeat' (first | simp only [WL, WM, Nat.reduceAdd, Nat.reduceSub])
  refine loop_by (fun x : (Int × Int) × List Res => ⟨(.raw (.func (.yield L) #[] #[]) :: .raw (.pointer (some ⟨b1, 0, none⟩)) :: .raw (.pointer (some ⟨b2, 0, none⟩)) :: .any :: .any :: .any :: .any :: .any :: .any :: .any :: .any :: .any :: .any :: .any :: .any :: .any :: .any :: .any :: .any :: .any :: .any :: .any :: .any :: .any :: .any :: .any :: .any :: .any :: .any :: .any :: .any :: .any :: .any :: .any :: []), .obj b2 [I x.1.1, I x.1.2] :: .obj b1 [JP bj] :: x.2, true, []⟩) (fun z => (0 ≤ z.1.1 ∧ z.1.1 ≤ 1000000000 ∧ In64 z.1.2 ∧ 0 ≤ z.1.2) ∧ IterH κ Tryz.prog L K (fun σ => ∃ ix, Hold σ bj ix (JC ls n bk d x y)) ((placesL ls z.1).map fun q => [PLA q.1, B q.2]) z.2) (fun z => ((ls.length : Int) - z.1.1).toNat) (p, σ) (St_le_same (by repeat (first | exact trivial | refine ⟨le_rfl, ?_⟩ | refine ⟨le_any, ?_⟩ | refine ⟨le_ro, ?_⟩ | refine ⟨le_nil (by decide), ?_⟩ | refine ⟨le_wrap (by omega) (by omega) (by omega), ?_⟩ | refine ⟨le_int (by omega), ?_⟩ | refine ⟨le_eq (by simp), ?_⟩)) id) ⟨hp, hI⟩ ?_
  rintro ⟨⟨i, k⟩, σ'⟩ ⟨hb, h2⟩
  dsimp only at hb h2 ⊢
  obtain ⟨ix, hJ⟩ := h2.holds
  have hq := pastF_in (p := (i, k)) hs hb.2.2.1
  have hql := pastF_le (p := (i, k)) hs
  rw [places_step] at h2
  have h3 := h2.2
  dsimp only at hq h3
  have hin : In64 ((i, k) : Int × Int).1 ∧ In64 ((i, k) : Int × Int).2 := ⟨by dsimp only; omega, by dsimp only; omega⟩
  have hin2 : In64 (pastF ls (i, k)).1.1 ∧ In64 (pastF ls (i, k)).1.2 ∧ 0 ≤ (pastF ls (i, k)).1.2 := ⟨by rw [pastF_line]; exact hin.1, hq.1, by omega⟩
  repeat' (first | simp only [WL, intF, WM, reduceCtorEq, WLb, Nat.reduceAdd, Nat.reduceLT, Bool.not_true, true_and, reduceIte, Bool.false_eq_true, T39, cok36, cok174] | (with_reducible first | refine andA (hb := ?_) | refine y_load (hK := ?_) | refine y_loadA (hK := ?_) | refine y_storeA (hK := ?_) | refine y_new (hK := fun b => ?_) | refine cD (jPast (p := (i, k)) hs hin ?_) | refine cQ (jComment ?_ ?_ ?_ isR_mk) ?_) | ((with_reducible refine AW_drawM (id := 1) 12 mixed ?_ ?_); kernel_rfl) | (with_reducible refine dmQ_mk ?_) | ((with_reducible first | refine grd_cases (fun h => ?_) (fun h => ?_) | refine condC_split (fun h => ?_) (fun h => ?_)) <;> (try simp only [h]) <;> (try simp only [NR_, NRb] at h)) | omega)
  all_goals
    refine callYD_iter (y := [PLA (someF ls (i, k)).1, B (someF ls (i, k)).2]) [.obj b [I (pastF ls (i, k)).1.1, I (pastF ls (i, k)).1.2], .obj b2 [I i, I k], .obj b1 [JP bj]] (⟨le_rfl, leL_one (le_eq (by unfold someF; simp [*]; intro _; omega))⟩) h3 (fun σ3 h9 => ?_) (fun σ3 h9 => ?_) (fun c σ3 h9 => ?_)
    · obtain ⟨ix3, hJ3⟩ := h9.holds
      cases ho : overF ls (i + 1)
      · rw [ho] at h9
        simp only [Bool.false_eq_true, if_false] at h9
        have hlt := over_in ho
        repeat' (first | simp only [WL, intF, WM, reduceCtorEq, WLb, Nat.reduceAdd, Nat.reduceEqDiff, Bool.not_true, true_and, T3, fR fl67_0, cok115, ho] | simp (disch := first | omega | (simp only [LN_]; omega)) only [wrap_id] | (with_reducible first | refine andA (hb := ?_) | refine y_load (hK := ?_) | refine y_storeA (hK := ?_) | refine y_build (hK := ?_) | refine cD (jOver hs (by omega) ?_)))
        exact ⟨((i + 1, 0), σ3), St_leW (by repeat (first | exact trivial | refine ⟨le_rfl, ?_⟩ | refine ⟨le_any, ?_⟩ | refine ⟨le_ro, ?_⟩ | refine ⟨le_nil (by decide), ?_⟩ | refine ⟨le_wrap (by omega) (by omega) (by omega), ?_⟩ | refine ⟨le_int (by omega), ?_⟩ | refine ⟨le_eq (by simp), ?_⟩)) (ResW.sub (List.sublist_cons_self _ _)) id, ⟨⟨by dsimp only; omega, by have := hs.1; dsimp only; omega, by dsimp only; omega, by dsimp only; omega⟩, h9⟩, by dsimp only; omega⟩
      · rw [ho] at h9
        simp only [if_true, List.map_nil] at h9
        repeat' (first | simp only [WL, intF, WM, reduceCtorEq, WLb, Nat.reduceAdd, Nat.reduceEqDiff, Bool.not_true, true_and, T3, fR fl67_0, cok115, Tryz.results173, ho] | simp (disch := first | omega | (simp only [LN_]; omega)) only [wrap_id] | (with_reducible first | refine andA (hb := ?_) | refine y_load (hK := ?_) | refine y_storeA (hK := ?_) | refine y_build (hK := ?_) | refine cD (jOver hs (by omega) ?_)))
        exact leafL (sub_cons (sub_cons (sub_cons sub_rfl))) (leT_eq rfl) h9.2
    · skip
      repeat' (first | simp only [WL, WM, Bool.not_false, true_and, Tryz.results173])
      exact leafL (sub_cons (sub_cons (sub_cons sub_rfl))) (leT_eq rfl) h9
    · skip
      repeat' (first | simp only [WL, WM, true_and])
      exact leafP (sub_cons (sub_cons (sub_cons sub_rfl))) rfl h9
def onL (ls : List Ln) (n l0 : Int) : List ((Int × Int) × Bool) → Option (Option (Int × Int))
  | [] => some none
  | (q, s) :: r => if s then (if l0 < q.1 ∧ (ls.getD q.1.toNat (0, [])).1 ≤ n then none else some (some q)) else onL ls n l0 r
/-- The place to which a place goes on; none in it: over; none: no node. -/
def onF (ls : List Ln) (n : Int) (p : Int × Int) : Option (Option (Int × Int)) := onL ls n p.1 (placesL ls p)
set_option maxHeartbeats 8000000 in
theorem placesN_mem {ls : List Ln} : ∀ {m : Nat} {p : Int × Int} {q : (Int × Int) × Bool}, q ∈ placesN ls m p → p.1 ≤ q.1.1 ∧ (p.1 < q.1.1 → q.1.1 < ls.length)
  | 0, p, q, h => by
    obtain rfl : q = someF ls p := by simpa [placesN] using h
    exact ⟨Int.le_refl _, fun h => absurd h (Int.lt_irrefl _)⟩
  | m + 1, p, q, h => by
    rcases List.mem_cons.1 h with rfl | h
    · exact ⟨Int.le_refl _, fun h => absurd h (Int.lt_irrefl _)⟩
    · split at h
      · cases h
      · rename_i ho
        have h1 := over_in (by simpa using ho)
        have h2 := placesN_mem h
        dsimp only at h2
        refine ⟨by omega, fun _ => ?_⟩
        rcases Int.lt_or_le (p.1 + 1) q.1.1 with h3 | h3
        · exact h2.2 h3
        · omega
set_option maxHeartbeats 8000000 in
theorem jOn {bj ix : Nat} {ls : List Ln} {n d : Int} {bk : Bool} {x y : AV} [hJ : Hold σ bj ix (JC ls n bk d x y)] {p : Int × Int} (hs : Small ls) (hp : 0 ≤ p.1 ∧ p.1 ≤ 1000000000 ∧ In64 p.2 ∧ 0 ≤ p.2)
    (h1 : ∀ q, onF ls n p = some (some q) → K (.ret (.tup [PLA q, B true])) σ) (h2 : onF ls n p = some none → K (.ret (.tup [PLA (0, 0), B false])) σ) (h3 : onF ls n p = none → K (.pan (wrongC 7)) σ) : ACallF κ Tryz.prog 108 [JP bj, PLA p] σ K := by
  refine ACallF.dropL (ACallF_introX Tryz.func108 rfl ?_)
  simp only [Tryz.ntmps108]
  refine AWX_seqR ?_
  repeat' (first | simp only [WL, WM, Nat.reduceAdd, Nat.reduceSub] | (with_reducible first | refine y_box (hK := fun b => ?_) | refine y_new (hK := fun b => ?_)))
  refine AWX_seq (AWX_seqR ?_)
  repeat' (first | simp only [WL, WM, true_and, cok144] | (with_reducible first | refine y_load (hK := ?_) | refine y_loadA (hK := ?_) | refine cD (jPlaces (fun bq1 bq2 => ?_))))
  refine AWX_block ?_
  rename_i b1 b2 b3
  refine range_byH 173 [] [.pointer (some ⟨bq1, 0, none⟩), .pointer (some ⟨bq2, 0, none⟩)] ((placesL ls p).map fun q => [PLA q.1, B q.2]) [.obj bq2 [I p.1, I p.2], .obj bq1 [JP bj]] (.obj b [B false] :: .obj b3 [I 0, I 0] :: .obj b2 [I p.1, I p.2] :: .obj b1 [JP bj] :: σ)
    (fun xs τ => ∃ rest, onF ls n p = onL ls n p.1 rest ∧ (∀ q ∈ rest, p.1 ≤ q.1.1 ∧ (p.1 < q.1.1 → q.1.1 < ls.length)) ∧ xs = rest.map (fun q => [PLA q.1, B q.2]) ∧ τ = .obj b [B false] :: .obj b3 [I 0, I 0] :: .obj b2 [I p.1, I p.2] :: .obj b1 [JP bj] :: σ)
    (fun σ => ∃ ix, Hold σ bj ix (JC ls n bk d x y)) (by rintro _ _ r ⟨_, _, _, _, rfl⟩; exact ⟨_, inferInstance⟩)
    rfl cok173 (ResW.refl _) (fun L K σ' h => jPlacesIt hs hp h) ⟨placesL ls p, rfl, fun q h => placesN_mem h, rfl, rfl⟩ ?_ ?_
  · rintro τ ⟨rest, e1, e2, e3, rfl⟩
    obtain rfl : rest = [] := by cases rest with
      | nil => rfl
      | cons => simp at e3
    simp only [blockQ, thenQ]
    refine AWX_of (AW_run ?_)
    repeat' (first | simp only [WL, WM, Nat.reduceAdd, true_and, Tryz.results108] | (with_reducible first | refine y_store (hK := ?_) | refine y_storeA (hK := ?_) | refine y_build (hK := ?_)) | ((with_reducible refine resL_id ?_); apply res_cc (hf := Tryz.results108); exact y_load2; exact y_load1))
    exact leafL (sub_cons (sub_cons (sub_cons (sub_cons sub_rfl)))) (leT_eq rfl) (h2 (by rw [e1]; rfl))
  · rintro dd L Rr Rb hR xx xs τ ⟨rest, e1, e2, e3, rfl⟩
    cases rest with
    | nil => simp at e3
    | cons q rest =>
    simp only [List.map_cons, List.cons.injEq] at e3
    obtain ⟨rfl, rfl⟩ := e3
    obtain ⟨⟨qi, qk⟩, sm⟩ := q
    have eq := e2 _ List.mem_cons_self
    dsimp only at eq
    refine ⟨rfl, ?_⟩
    repeat' (first | simp only [WL, WM, Nat.reduceAdd] | (with_reducible first | refine y_storeA (hK := ?_) | refine y_new (hK := fun b => ?_)))
    refine ⟨1, rfl, ?_⟩
    simp only [List.set_cons_succ, List.set_cons_zero]
    cases sm
    · skip
      repeat' (first | simp only [WL, WM, Bool.not_false, rngX_normal])
      exact ⟨_, resS_head (ResW.sub (List.sublist_cons_self _ _)), rest, by rw [e1]; rfl, fun q hq => e2 q (List.mem_cons_of_mem _ hq), rfl, rfl⟩
    · have ha := fun h => hs.at_ (i := qi.toNat) h
      have hon : onF ls n p = if p.1 < qi ∧ (ls.getD qi.toNat (0, [])).1 ≤ n then none else some (some (qi, qk)) := by rw [e1]; rfl
      repeat' (first | simp only [WL, intF, WM, reduceCtorEq, WLb, Nat.reduceAdd, Nat.reduceLeDiff, Nat.reduceEqDiff, Bool.not_true, true_and, reduceIte, Bool.false_eq_true, T3, T22, T52, fC fl52_0, fR fl64_0, fR fl64_1, fR fl67_0, cok110, Tryz.results108, rngX_ret, rngX_panic] | simp (disch := first | omega | (simp only [LN_]; omega)) only [getL] | (with_reducible first | refine andA (hb := ?_) | refine y_load (hK := ?_) | refine y_loadA (hK := ?_) | refine y_store (hK := ?_) | refine y_storeA (hK := ?_) | refine cD (jFail ?_)) | ((with_reducible refine AW_drawM (id := 5) 21 mixed ?_ ?_); kernel_rfl) | (with_reducible refine dmQ_mk ?_) | ((with_reducible first | refine grd_cases (fun h => ?_) (fun h => ?_) | refine condC_split (fun h => ?_) (fun h => ?_)) <;> (try simp only [h]) <;> (try simp only [NR_, NRb] at h)))
      all_goals first
        | exact ⟨_, resS_head (ResW.sub (List.sublist_cons_self _ _)), leafP (sub_cons (sub_cons (sub_cons (sub_cons sub_rfl)))) rfl (h3 (by rw [hon, if_pos ⟨by assumption, by assumption⟩]))⟩
        | skip
      all_goals
        refine ⟨_, resS_head (ResW.sub (List.sublist_cons_self _ _)), ?_⟩
        repeat' (first | simp only [WM] | ((with_reducible refine resL_id ?_); apply res_cc (hf := Tryz.results108); exact y_load2; exact y_load1))
        exact leafL (sub_cons (sub_cons (sub_cons (sub_cons sub_rfl)))) (leT_eq rfl) (h1 (qi, qk) (by rw [hon, if_neg (by omega)]))
set_option maxHeartbeats 8000000 in
theorem jMust {bj ix : Nat} {ls : List Ln} {n d : Int} {bk : Bool} {x y : AV} [hJ : Hold σ bj ix (JC ls n bk d x y)] {p : Int × Int} (hs : Small ls) (hp : 0 ≤ p.1 ∧ p.1 ≤ 1000000000 ∧ In64 p.2 ∧ 0 ≤ p.2)
    (h1 : ∀ q, onF ls n p = some (some q) → K (.ret (PLA q)) σ) (h2 : onF ls n p = some none → K (.pan (wrongC 2)) σ) (h3 : onF ls n p = none → K (.pan (wrongC 7)) σ) : ACallF κ Tryz.prog 124 [JP bj, PLA p] σ K := by
  refine ACallF.dropL (ACallF_intro Tryz.func124 rfl ?_)
  simp only [Tryz.ntmps124]
  repeat' (first | simp only [WL, WM, Nat.reduceAdd, Nat.reduceSub, Nat.reduceLT, true_and, cok79, cok108, Tryz.results124] | (with_reducible first | refine y_loadA (hK := ?_) | refine y_storeA (hK := ?_) | refine y_box (hK := fun b => ?_) | refine y_new (hK := fun b => ?_) | refine cD (jOn hs hp (fun q hq => ?_) (fun hq => ?_) (fun hq => ?_)) | refine cD (jNeedT ?_) | refine cD (jNeedF ?_)) | ((with_reducible refine resL_id ?_); apply res_c (hf := Tryz.results124); exact y_load2))
  all_goals first
    | exact leafL (sub_cons (sub_cons (sub_cons sub_rfl))) (leT_eq rfl) (h1 q hq)
    | exact leafP (sub_cons (sub_cons (sub_cons sub_rfl))) rfl (h2 hq)
    | exact leafP (sub_cons (sub_cons sub_rfl)) rfl (h3 hq)
end Go.Proofs.YtgoofaeifbfblaaGreat
/-
  Plain specifications: bytes as code points. No program in sight.
-/


namespace Go.Abs
set_option linter.unusedSimpArgs false
set_option linter.unusedVariables false
def uriL : List Int := [35, 59, 47, 63, 58, 64, 38, 61, 43, 36, 44, 95, 46, 33, 126, 42, 39, 40, 41, 91, 93]
def uriC (c : Int) : Bool := decide (c ∈ uriL)
/-- How many code points the URI sign at a list's beginning has. -/
def signN (l : List Int) : Nat :=
  match l with
  | [] => 0
  | c :: r => if c = 37 then (if 2 ≤ r.length ∧ 0 ≤ hexI (r.getD 0 0) ∧ 0 ≤ hexI (r.getD 1 0) then 3 else 0) else if wordI c || uriC c then 1 else 0
theorem signN_at {l : List Int} {i : Nat} (h : i < l.length) : signN (l.drop i) = if l.getD i 0 = 37 then (if i + 2 < l.length ∧ 0 ≤ hexI (l.getD (i + 1) 0) ∧ 0 ≤ hexI (l.getD (i + 2) 0) then 3 else 0) else if wordI (l.getD i 0) || uriC (l.getD i 0) then 1 else 0 := by
  rw [drop_getD h]
  simp only [signN]
  have e1 : (l.drop (i + 1)).getD 0 0 = l.getD (i + 1) 0 := by simp [List.getD_eq_getElem?_getD]
  have e2 : (l.drop (i + 1)).getD 1 0 = l.getD (i + 2) 0 := by simp [List.getD_eq_getElem?_getD]
  have e3 : (2 ≤ (l.drop (i + 1)).length) = (i + 2 < l.length) := by simp; omega
  simp only [e1, e2, e3]
theorem signN_le (l : List Int) : signN l ≤ 3 ∧ signN l ≤ l.length := by
  unfold signN
  split
  · simp
  · rename_i c r
    (repeat' split) <;> simp <;> omega
/-- How many code points at a list's beginning are URI signs of a kind. -/
def uriGo (may : Int → Bool) : Nat → List Int → Nat
  | 0, _ => 0
  | f + 1, l => if signN l = 0 ∨ may (l.getD 0 0) = false then 0 else signN l + uriGo may f (l.drop (signN l))
def uriN (may : Int → Bool) (l : List Int) : Nat := uriGo may l.length l
theorem uriGo_le (may : Int → Bool) : ∀ (f : Nat) (l : List Int), uriGo may f l ≤ l.length
  | 0, _ => Nat.zero_le _
  | f + 1, l => by
    have h1 := (signN_le l).2
    have h2 := uriGo_le may f (l.drop (signN l))
    rw [List.length_drop] at h2
    simp only [uriGo]
    split <;> omega
theorem uriN_le (may : Int → Bool) (l : List Int) : uriN may l ≤ l.length := uriGo_le may _ l
theorem uriGo_fuel (may : Int → Bool) : ∀ (f f' : Nat) (l : List Int), l.length ≤ f → l.length ≤ f' → uriGo may f l = uriGo may f' l
  | 0, 0, _, _, _ => rfl
  | 0, f' + 1, l, h, _ => by
    obtain rfl := List.eq_nil_of_length_eq_zero (by omega : l.length = 0)
    simp [uriGo, signN]
  | f + 1, 0, l, _, h => by
    obtain rfl := List.eq_nil_of_length_eq_zero (by omega : l.length = 0)
    simp [uriGo, signN]
  | f + 1, f' + 1, l, h, h' => by
    simp only [uriGo]
    split
    · rfl
    · rename_i hn
      rw [uriGo_fuel may f f' _ (by rw [List.length_drop]; omega) (by rw [List.length_drop]; omega)]
/-- From a place on: where the signs end. -/
theorem uriN_at (may : Int → Bool) (l : List Int) : uriN may l = if signN l = 0 ∨ may (l.getD 0 0) = false then 0 else signN l + uriN may (l.drop (signN l)) := by
  unfold uriN
  cases l with
  | nil => simp [uriGo, signN]
  | cons c r =>
    have : ∀ n, 0 < n → uriGo may r.length ((c :: r).drop n) = uriGo may ((c :: r).drop n).length ((c :: r).drop n) := fun n hn => uriGo_fuel may _ _ _ (by simp only [List.length_drop, List.length_cons]; omega) (Nat.le_refl _)
    rw [List.length_cons]
    simp only [uriGo]
    split
    · rfl
    · rename_i h
      rw [this _ (by omega)]
def anyC (c : Int) : Bool := true
def shortC (c : Int) : Bool := !(c == 33) && !flowI c
def cnt (p : Int → Bool) (l : List Int) : Nat := (l.takeWhile p).length
theorem cnt_le (p : Int → Bool) (l : List Int) : cnt p l ≤ l.length := (List.takeWhile_prefix p).length_le
theorem cnt_step {p : Int → Bool} {l : List Int} {k : Nat} (h : k ≤ cnt p l) (h1 : k < l.length) (h2 : p (l.getD k 0) = true) : k + 1 ≤ cnt p l := tw_step h h1 h2
theorem cnt_stop {p : Int → Bool} {l : List Int} {k : Nat} (h : k ≤ cnt p l) (h1 : l.length ≤ k ∨ p (l.getD k 0) = false) : k = cnt p l := by
  rcases Nat.lt_or_ge k l.length with hk | hk
  · exact tw_stop h hk (by rcases h1 with h1 | h1; · omega
                           · exact h1)
  · have := cnt_le p l; omega
/-- Does a code point stand at a place? -/
def atI (l : List Int) (i : Nat) (c : Int) : Bool := decide (i < l.length ∧ l.getD i 0 = c)
theorem atI_lt {l : List Int} {i : Nat} {c : Int} (h : atI l i c = true) : i < l.length ∧ l.getD i 0 = c := of_decide_eq_true h
theorem w37 : wordI 37 = false := by decide
theorem u37 : uriC 37 = false := by decide
theorem sign_w {l : List Int} {i : Nat} (h : i < l.length) (hw : wordI (l.getD i 0) = true) : signN (l.drop i) = 1 := by
  rw [signN_at h, if_neg (fun e => by rw [e, w37] at hw; cases hw), hw]; rfl
theorem sign_u {l : List Int} {i : Nat} (h : i < l.length) (hw : uriC (l.getD i 0) = true) : signN (l.drop i) = 1 := by
  rw [signN_at h, if_neg (fun e => by rw [e, u37] at hw; cases hw), hw, Bool.or_true]; rfl
theorem sign_p {l : List Int} {i : Nat} (h : i + 2 < l.length) (h1 : l.getD i 0 = 37) (h2 : 0 ≤ hexI (l.getD (i + 1) 0)) (h3 : 0 ≤ hexI (l.getD (i + 2) 0)) : signN (l.drop i) = 3 := by
  rw [signN_at (by omega), if_pos h1, if_pos ⟨h, h2, h3⟩]
theorem sign_pn {l : List Int} {i : Nat} (h : i < l.length) (h1 : l.getD i 0 = 37) (h2 : l.length ≤ i + 2 ∨ hexI (l.getD (i + 1) 0) < 0 ∨ hexI (l.getD (i + 2) 0) < 0) : signN (l.drop i) = 0 := by
  rw [signN_at h, if_pos h1, if_neg (by omega)]
theorem sign_n {l : List Int} {i : Nat} (h : i < l.length) (h1 : ¬ l.getD i 0 = 37) (h2 : wordI (l.getD i 0) = false) (h3 : uriC (l.getD i 0) = false) : signN (l.drop i) = 0 := by
  rw [signN_at h, if_neg h1, h2, h3]; rfl
theorem sign_e {l : List Int} {i : Nat} (h : l.length ≤ i) : signN (l.drop i) = 0 := by rw [List.drop_eq_nil_of_le h]; rfl
/-- The signs, one behind the other: where each stands, and where it ends. -/
def signsL : Nat → Nat → List Int → List (Nat × Nat)
  | 0, _, _ => []
  | f + 1, i, l => if signN (l.drop i) = 0 then [] else (i, i + signN (l.drop i)) :: signsL f (i + signN (l.drop i)) l
def signsAt (l : List Int) (i : Nat) : List (Nat × Nat) := signsL (l.length - i + 1) i l
theorem signN_drop_le {l : List Int} {i : Nat} : signN (l.drop i) ≤ l.length - i := by
  have := (signN_le (l.drop i)).2; rwa [List.length_drop] at this
theorem signsL_fuel : ∀ (f f' i : Nat) (l : List Int), l.length - i < f → l.length - i < f' → signsL f i l = signsL f' i l
  | 0, _, _, _, h, _ => by omega
  | _, 0, _, _, _, h => by omega
  | f + 1, f' + 1, i, l, h, h' => by
    have := signN_drop_le (l := l) (i := i)
    simp only [signsL]
    split
    · rfl
    · rw [signsL_fuel f f' _ l (by omega) (by omega)]
theorem signsAt_no {l : List Int} {i : Nat} (h : signN (l.drop i) = 0) : signsAt l i = [] := by
  unfold signsAt signsL; rw [if_pos h]
theorem signsAt_yes {l : List Int} {i : Nat} (h : ¬ signN (l.drop i) = 0) : signsAt l i = (i, i + signN (l.drop i)) :: signsAt l (i + signN (l.drop i)) := by
  have := signN_drop_le (l := l) (i := i)
  unfold signsAt
  rw [signsL, if_neg h, signsL_fuel (l.length - i) (l.length - (i + signN (l.drop i)) + 1) _ _ (by omega) (by omega)]
theorem uriN_no {may : Int → Bool} {l : List Int} (h : signN l = 0 ∨ may (l.getD 0 0) = false) : uriN may l = 0 := by rw [uriN_at, if_pos h]
theorem uriN_yes {may : Int → Bool} {l : List Int} (h : ¬ signN l = 0) (h1 : may (l.getD 0 0) = true) : uriN may l = signN l + uriN may (l.drop (signN l)) := by
  rw [uriN_at, if_neg]; rw [h1]; simp [h]
theorem getD_drop0 {l : List Int} {i : Nat} : (l.drop i).getD 0 0 = l.getD i 0 := by simp [List.getD_eq_getElem?_getD]
/-- A handle of two !. -/
def handleN (l : List Int) : Nat := if atI l (1 + cnt wordI (l.drop 1)) 33 then 1 + cnt wordI (l.drop 1) + 1 else 0
theorem handleN_le (l : List Int) : handleN l ≤ l.length := by
  unfold handleN
  split
  · rename_i h; have := (atI_lt h).1; omega
  · omega
def anchorI (l : List Int) : ByteArray × Int × Bool := (textI (l.take (cnt nameI l)), (cnt nameI l : Nat), decide (0 < cnt nameI l))
def noneT : ByteArray × Int × Bool := (ByteArray.empty, 0, false)
def wholeI (l : List Int) : ByteArray × Int × Bool :=
  if uriN anyC (l.drop 2) = 0 ∨ atI l (uriN anyC (l.drop 2) + 2) 62 = false then noneT else (textI ((l.take (uriN anyC (l.drop 2) + 2)).drop 1), (uriN anyC (l.drop 2) + 3 : Nat), true)
def shortI (l : List Int) : ByteArray × Int × Bool :=
  if 0 < handleN l ∧ uriN shortC (l.drop (max (handleN l) 1)) = 0 then noneT else (textI (l.take (uriN shortC (l.drop (max (handleN l) 1)) + max (handleN l) 1)), (uriN shortC (l.drop (max (handleN l) 1)) + max (handleN l) 1 : Nat), true)
def tagI (l : List Int) : ByteArray × Int × Bool := if atI l 0 33 = false then noneT else if atI l 1 60 then wholeI l else shortI l
end Go.Abs
/-
  Walks: code points as bytes; the reference's, and the program's.
-/


namespace Go.Proofs.YtgoofaeifbfblaaGreat
open Go.Abs
set_option linter.unusedVariables false
set_option linter.unusedSimpArgs false
variable {κ : Ctx} {σ : List Res} {K : Ret → List Res → Prop} {o o' : Option (Option (Nat × Nat))}
set_option maxHeartbeats 4000000 in
theorem rRight {c : Int} (hK : K (.ret (B (rightI c))) σ) : ACallF κ Tryz.prog 51 [I c] σ K := by
  refine ACallF.dropL (ACallF_intro Tryz.func51 rfl ?_)
  simp only [Tryz.ntmps51]
  repeat' (first | simp only [WL, intF, WM, reduceCtorEq, WLb, Nat.reduceAdd, Nat.reduceSub, Bool.not_true, Bool.not_false, true_and, reduceIte, Bool.false_eq_true, Tryz.results51] | ((with_reducible first | refine grd_cases (fun h => ?_) (fun h => ?_) | refine condC_split (fun h => ?_) (fun h => ?_)) <;> (try simp only [h]) <;> (try simp only [NR_, NRb] at h)))
  all_goals (refine leafL sub_rfl (leT_eq (congrArg B ?_)) hK; rw [Bool.eq_iff_iff]; simp only [rightI_iff, decide_eq_true_eq, Bool.false_eq_true, false_iff, true_iff, eq_self]; omega)
set_option maxHeartbeats 4000000 in
theorem uIs {c : Int} (hK : K (.ret (B (rightI c))) σ) : ACallF κ Tryz.prog 184 [I c] σ K := by
  refine ACallF.dropL (ACallF_intro Tryz.func184 rfl ?_)
  simp only [Tryz.ntmps184]
  repeat' (first | simp only [WL, intF, WM, reduceCtorEq, WLb, Nat.reduceAdd, Nat.reduceSub, Bool.not_true, Bool.not_false, true_and, reduceIte, Bool.false_eq_true, Tryz.results184] | ((with_reducible first | refine grd_cases (fun h => ?_) (fun h => ?_) | refine condC_split (fun h => ?_) (fun h => ?_)) <;> (try simp only [h]) <;> (try simp only [NR_, NRb] at h)))
  all_goals (refine leafL sub_rfl (leT_eq (congrArg B ?_)) hK; rw [Bool.eq_iff_iff]; simp only [rightI_iff, decide_eq_true_eq, Bool.false_eq_true, false_iff, true_iff, eq_self]; omega)
set_option maxHeartbeats 4000000 in
theorem uAppend2 {bs : List Int} {c : Int} {tk : Option (Nat × Nat)} (hb : bs.length ≤ 8000000000) (hc : 128 ≤ c) (hr : rightI c = true) (hK : ∀ tk', K (.ret (SU (some tk') (bs ++ encC c))) (.tip tk' :: σ)) : ACallF κ Tryz.prog 199 [SU (some tk) bs, .raw (.int .i32 c)] (.tip tk :: σ) K := by
  obtain ⟨r1, r2, r3⟩ := rightI_iff.1 hr
  refine ACallF.dropL (ACallF_intro Tryz.func199 rfl ?_)
  simp only [Tryz.ntmps199]
  repeat' (first | simp only [WL, intF, WM, Int.reduceToNat, reduceCtorEq, WLb, Nat.reduceAdd, Nat.reduceSub, Bool.not_true, true_and, reduceIte, Bool.false_eq_true, cI in5, cI in144, Tryz.results199, fold_or8, fold_and8, and8_63, Int.reduceToNat, Int.reducePow] | simp (disch := first | omega | (simp only [LN_]; omega)) only [shr_i32, or8_128, or8_192, or8_224, or8_240, wrapu8, wrapu32] | (with_reducible first | refine andA (hb := ?_) | refine y_app (hlen := ?_) (hmax := ?_) (hK := fun tk => ?_) | refine y_bs (hK := ?_)) | ((with_reducible first | refine grd_cases (fun h => ?_) (fun h => ?_) | refine condC_split (fun h => ?_) (fun h => ?_)) <;> (try simp only [h]) <;> (try simp only [NR_, NRb] at h)) | omega | (refine maxLen_ok ?_; (first | omega | (simp only [LN_]; omega))))
  all_goals
    refine leafL sub_rfl (leT_eq ?_) (hK _)
    unfold encC encR
    rw [fix_id hr]
    first
      | rw [if_pos (by omega)]
      | rw [if_neg (by omega), if_pos (by omega)]
      | rw [if_neg (by omega), if_neg (by omega), if_pos (by omega)]
      | rw [if_neg (by omega), if_neg (by omega), if_neg (by omega)]
    simp
set_option maxHeartbeats 4000000 in
theorem uAppend {bs : List Int} {c : Int} {tk : Option (Nat × Nat)} (hb : bs.length ≤ 8000000000) (hr : rightI c = true) (hK : ∀ tk', K (.ret (SU (some tk') (bs ++ encC c))) (.tip tk' :: σ)) : ACallF κ Tryz.prog 185 [SU (some tk) bs, .raw (.int .i32 c)] (.tip tk :: σ) K := by
  obtain ⟨r1, r2, r3⟩ := rightI_iff.1 hr
  refine ACallF.dropL (ACallF_intro Tryz.func185 rfl ?_)
  simp only [Tryz.ntmps185]
  repeat' (first | simp only [WL, intF, WM, reduceCtorEq, WLb, Nat.reduceAdd, Nat.reduceSub, true_and, cI in5, cI in144, cok199, Tryz.results185] | simp (disch := first | omega | (simp only [LN_]; omega)) only [wrapu32, wrapu8] | (with_reducible first | refine andA (hb := ?_) | refine y_app (hlen := ?_) (hmax := ?_) (hK := fun tk => ?_) | refine y_bs (hK := ?_) | refine cD (uAppend2 ?_ ?_ ?_ (fun tkp => ?_))) | ((with_reducible first | refine grd_cases (fun h => ?_) (fun h => ?_) | refine condC_split (fun h => ?_) (fun h => ?_)) <;> (try simp only [h]) <;> (try simp only [NR_, NRb] at h)) | omega | (refine maxLen_ok ?_; (first | omega | (simp only [LN_]; omega))))
  all_goals first
    | exact leafL sub_rfl (leT_eq (by rw [encC_ascii (by omega) (by omega)]; simp)) (hK _)
    | exact leafL sub_rfl (leT_eq rfl) (hK _)
    | assumption
set_option maxHeartbeats 4000000 in
theorem uBytes {l : List Int} (hl : l.length ≤ 1000000000) (hK : K (.ret (SU none (encL l))) σ) : ACallF κ Tryz.prog 155 [SI o l] σ K := by
  refine ACallF.dropL (ACallF_intro Tryz.func155 rfl ?_)
  simp only [Tryz.ntmps155]
  repeat' (first | simp only [WL, WM, Nat.reduceAdd, Nat.reduceSub, true_and, T39])
  refine loop_by (fun x : Nat × Option (Nat × Nat) => ⟨(SI o l :: .any :: .any :: SU (some x.2) (encL (l.take x.1)) :: .any :: .any :: SI o l :: I l.length :: I x.1 :: .any :: .any :: .any :: .any :: .any :: .any :: .any :: .any :: .any :: .any :: .any :: .any :: []), .tip x.2 :: σ, true, []⟩) (fun x => x.1 ≤ l.length) (fun x => l.length - x.1) (0, none) (St_leW (by repeat (first | exact trivial | refine ⟨le_rfl, ?_⟩ | refine ⟨le_any, ?_⟩ | refine ⟨le_ro, ?_⟩ | refine ⟨le_nil (by decide), ?_⟩ | refine ⟨le_wrap (by omega) (by omega) (by omega), ?_⟩ | refine ⟨le_int (by omega), ?_⟩ | refine ⟨le_eq (by simp), ?_⟩)) ResW.void id) (Nat.zero_le _) ?_
  rintro ⟨k, tk⟩ h1
  dsimp only at h1 ⊢
  have he := encL_len (l.take k)
  have ht : (l.take k).length = k := by simp; omega
  cases hr : rightI (l.getD k 0)
  · have e : encC 65533 = encC (l.getD k 0) := by unfold encC; rw [fix_no hr, fix_id (by decide)]
    repeat' (first | simp only [WL, intF, WM, reduceCtorEq, WLb, Nat.reduceAdd, Bool.not_false, true_and, T3, T39, cI in21, cok184, cok185, Tryz.results155, hr] | simp (disch := first | omega | (simp only [LN_]; omega)) only [wrap_id, getI, wrapi32] | (with_reducible first | refine andA (hb := ?_) | refine cD (uIs ?_) | refine cD (uAppend ?_ ?_ (fun tkp => ?_))) | ((with_reducible first | refine grd_cases (fun h => ?_) (fun h => ?_) | refine condC_split (fun h => ?_) (fun h => ?_)) <;> (try simp only [h]) <;> (try simp only [NR_, NRb] at h)) | omega)
    · decide
    · exact ⟨(k + 1, _), St_leW (by dsimp only; rw [encL_take (by omega), ← e]; repeat (first | exact trivial | refine ⟨le_rfl, ?_⟩ | refine ⟨le_any, ?_⟩ | refine ⟨le_ro, ?_⟩ | refine ⟨le_nil (by decide), ?_⟩ | refine ⟨le_wrap (by omega) (by omega) (by omega), ?_⟩ | refine ⟨le_int (by omega), ?_⟩ | refine ⟨le_eq (by simp), ?_⟩)) (ResW.refl _) id, by dsimp only; omega, by dsimp only; omega⟩
    · exact leafL (sub_cons sub_rfl) (leT_le (by rw [List.take_of_length_le (by omega)]; exact le_ro)) hK
  · obtain ⟨r1, r2, r3⟩ := rightI_iff.1 hr
    repeat' (first | simp only [WL, intF, WM, reduceCtorEq, WLb, Nat.reduceAdd, Bool.not_true, true_and, T3, T39, cI in21, cok184, cok185, Tryz.results155, hr] | simp (disch := first | omega | (simp only [LN_]; omega)) only [wrap_id, getI, wrapi32] | (with_reducible first | refine andA (hb := ?_) | refine cD (uIs ?_) | refine cD (uAppend ?_ ?_ (fun tkp => ?_))) | ((with_reducible first | refine grd_cases (fun h => ?_) (fun h => ?_) | refine condC_split (fun h => ?_) (fun h => ?_)) <;> (try simp only [h]) <;> (try simp only [NR_, NRb] at h)) | omega)
    · exact ⟨(k + 1, _), St_leW (by dsimp only; rw [encL_take (by omega)]; repeat (first | exact trivial | refine ⟨le_rfl, ?_⟩ | refine ⟨le_any, ?_⟩ | refine ⟨le_ro, ?_⟩ | refine ⟨le_nil (by decide), ?_⟩ | refine ⟨le_wrap (by omega) (by omega) (by omega), ?_⟩ | refine ⟨le_int (by omega), ?_⟩ | refine ⟨le_eq (by simp), ?_⟩)) (ResW.refl _) id, by dsimp only; omega, by dsimp only; omega⟩
    · exact leafL (sub_cons sub_rfl) (leT_le (by rw [List.take_of_length_le (by omega)]; exact le_ro)) hK
set_option maxHeartbeats 8000000 in
theorem pText {l : List Int} (hl : l.length ≤ 1000000000) (hK : K (.ret (.raw (.string (textI l)))) σ) : ACallF κ Tryz.prog 147 [SI o l] σ K := by
  refine ACallF.dropL (ACallF_intro Tryz.func147 rfl ?_)
  simp only [Tryz.ntmps147]
  repeat' (first | simp only [WL, WM, Nat.reduceAdd, Nat.reduceSub, true_and, convC_sl, cok155, Tryz.results147] | (with_reducible first | refine y_bytes ?_ | refine cD (uBytes ?_ ?_)) | omega)
  exact leafL sub_rfl (leT_eq rfl) hK
set_option maxHeartbeats 8000000 in
theorem pNames {l : List Int} (hl : l.length ≤ 1000000000) (hK : K (.ret (I (cnt nameI l))) σ) : ACallF κ Tryz.prog 146 [SI o l] σ K := by
  refine ACallF.dropL (ACallF_introA Tryz.func146 rfl ?_)
  simp only [Tryz.ntmps146]
  repeat' (first | (with_reducible first | refine AW_seqA (AW_block ?_) | refine cut_loop ?_ | refine AW_seq ?_) | simp only [WL, WM, Nat.reduceAdd, Nat.reduceSub])
  refine loopA (fun k : Nat => ⟨(SI o l :: .any :: .any :: I k :: .any :: .any :: .any :: .any :: .any :: .any :: .any :: .any :: .any :: .any :: .any :: .any :: .any :: .any :: []), σ, true, []⟩) (fun k => k ≤ cnt nameI l) (fun k => l.length - k) 0 (St_le_same (by repeat (first | exact trivial | refine ⟨le_rfl, ?_⟩ | refine ⟨le_any, ?_⟩ | refine ⟨le_ro, ?_⟩ | refine ⟨le_nil (by decide), ?_⟩ | refine ⟨le_wrap (by omega) (by omega) (by omega), ?_⟩ | refine ⟨le_int (by omega), ?_⟩ | refine ⟨le_eq (by simp), ?_⟩)) id) (Nat.zero_le _) ?_
  intro k hk
  have hcl := cnt_le nameI l
  repeat' (first | (with_reducible first | refine AW_block ?_ | refine AW_seqA (AW_seqA ?_) | refine AW_seq ?_ | refine AW_runReg ?_ | refine AW_runCond ?_ | refine AW_runRet ?_) | simp only [WL, intF, WM, reduceCtorEq, WLb, Nat.reduceAdd, Bool.not_true, true_and, reduceIte, Bool.false_eq_true, T3, T39, cok180, Tryz.results146] | simp (disch := first | omega | (simp only [LN_]; omega)) only [wrap_id, getI] | (with_reducible first | refine andA (hb := ?_) | refine cD (cName ?_)) | ((with_reducible first | refine grd_cases (fun h => ?_) (fun h => ?_) | refine condC_split (fun h => ?_) (fun h => ?_)) <;> (try simp only [h]) <;> (try simp only [NR_, NRb] at h)))
  all_goals first
    | exact ⟨k + 1, St_le_same (by repeat (first | exact trivial | refine ⟨le_rfl, ?_⟩ | refine ⟨le_any, ?_⟩ | refine ⟨le_ro, ?_⟩ | refine ⟨le_nil (by decide), ?_⟩ | refine ⟨le_wrap (by omega) (by omega) (by omega), ?_⟩ | refine ⟨le_int (by omega), ?_⟩ | refine ⟨le_eq (by simp), ?_⟩)) id, cnt_step hk (by omega) (by assumption), by omega⟩
    | exact leafL sub_rfl (leT_eq (by rw [← cnt_stop hk (by first | exact .inl (by omega) | exact .inr (by assumption))])) hK
set_option maxHeartbeats 8000000 in
theorem pWords {l : List Int} (hl : l.length ≤ 1000000000) (hK : K (.ret (I (cnt wordI l))) σ) : ACallF κ Tryz.prog 193 [SI o l] σ K := by
  refine ACallF.dropL (ACallF_introA Tryz.func193 rfl ?_)
  simp only [Tryz.ntmps193]
  repeat' (first | (with_reducible first | refine AW_seqA (AW_block ?_) | refine cut_loop ?_ | refine AW_seq ?_) | simp only [WL, WM, Nat.reduceAdd, Nat.reduceSub])
  refine loopA (fun k : Nat => ⟨(SI o l :: .any :: .any :: I k :: .any :: .any :: .any :: .any :: .any :: .any :: .any :: .any :: .any :: .any :: .any :: .any :: .any :: .any :: []), σ, true, []⟩) (fun k => k ≤ cnt wordI l) (fun k => l.length - k) 0 (St_le_same (by repeat (first | exact trivial | refine ⟨le_rfl, ?_⟩ | refine ⟨le_any, ?_⟩ | refine ⟨le_ro, ?_⟩ | refine ⟨le_nil (by decide), ?_⟩ | refine ⟨le_wrap (by omega) (by omega) (by omega), ?_⟩ | refine ⟨le_int (by omega), ?_⟩ | refine ⟨le_eq (by simp), ?_⟩)) id) (Nat.zero_le _) ?_
  intro k hk
  have hcl := cnt_le wordI l
  repeat' (first | (with_reducible first | refine AW_block ?_ | refine AW_seqA (AW_seqA ?_) | refine AW_seq ?_ | refine AW_runReg ?_ | refine AW_runCond ?_ | refine AW_runRet ?_) | simp only [WL, intF, WM, reduceCtorEq, WLb, Nat.reduceAdd, Bool.not_true, true_and, reduceIte, Bool.false_eq_true, T3, T39, cok202, Tryz.results193] | simp (disch := first | omega | (simp only [LN_]; omega)) only [wrap_id, getI] | (with_reducible first | refine andA (hb := ?_) | refine cD (cWord ?_)) | ((with_reducible first | refine grd_cases (fun h => ?_) (fun h => ?_) | refine condC_split (fun h => ?_) (fun h => ?_)) <;> (try simp only [h]) <;> (try simp only [NR_, NRb] at h)))
  all_goals first
    | exact ⟨k + 1, St_le_same (by repeat (first | exact trivial | refine ⟨le_rfl, ?_⟩ | refine ⟨le_any, ?_⟩ | refine ⟨le_ro, ?_⟩ | refine ⟨le_nil (by decide), ?_⟩ | refine ⟨le_wrap (by omega) (by omega) (by omega), ?_⟩ | refine ⟨le_int (by omega), ?_⟩ | refine ⟨le_eq (by simp), ?_⟩)) id, cnt_step hk (by omega) (by assumption), by omega⟩
    | exact leafL sub_rfl (leT_eq (by rw [← cnt_stop hk (by first | exact .inl (by omega) | exact .inr (by assumption))])) hK
set_option maxHeartbeats 8000000 in
theorem pIs {l : List Int} {i : Nat} {c : Int} (hl : l.length ≤ 1000000000) (hi : i ≤ 2000000000) (hK : K (.ret (B (atI l i c))) σ) : ACallF κ Tryz.prog 175 [SI o l, I i, I c] σ K := by
  refine ACallF.dropL (ACallF_intro Tryz.func175 rfl ?_)
  simp only [Tryz.ntmps175]
  repeat' (first | simp only [WL, intF, WM, reduceCtorEq, WLb, Nat.reduceAdd, Nat.reduceSub, Bool.not_true, true_and, reduceIte, Bool.false_eq_true, T3, T39, Tryz.results175] | simp (disch := first | omega | (simp only [LN_]; omega)) only [getI] | with_reducible refine andA (hb := ?_) | ((with_reducible first | refine grd_cases (fun h => ?_) (fun h => ?_) | refine condC_split (fun h => ?_) (fun h => ?_)) <;> (try simp only [h]) <;> (try simp only [NR_, NRb] at h)))
  all_goals exact leafL sub_rfl (leT_eq (congrArg B (by rw [Bool.eq_iff_iff]; simp [atI]; omega))) hK
set_option maxHeartbeats 8000000 in
theorem pHandle {l : List Int} (hl : l.length ≤ 1000000000) (h0 : 0 < l.length) (hK : K (.ret (I (handleN l))) σ) : ACallF κ Tryz.prog 177 [SI o l] σ K := by
  have hcl := cnt_le wordI (l.drop 1)
  rw [List.length_drop] at hcl
  refine ACallF.dropL (ACallF_intro Tryz.func177 rfl ?_)
  simp only [Tryz.ntmps177]
  repeat' (first | simp only [WL, intF, WM, Int.reduceToNat, reduceCtorEq, WLb, Nat.reduceAdd, Nat.reduceSub, true_and, T3, T39, cok175, cok193, Tryz.results177] | simp (disch := first | omega | (simp only [LN_]; omega)) only [wrap_id] | (with_reducible first | refine andA (hb := ?_) | refine cD (pIs ?_ ?_ ?_) | refine cD (pWords ?_ ?_)) | ((with_reducible first | refine grd_cases (fun h => ?_) (fun h => ?_) | refine condC_split (fun h => ?_) (fun h => ?_)) <;> (try simp only [h]) <;> (try simp only [NR_, NRb] at h)) | omega | (simp only [LN_]; omega))
  all_goals exact leafL sub_rfl (leT_eq (congrArg I (by simp only [handleN, h]; simp))) hK
set_option maxHeartbeats 8000000 in
theorem pAnchor {l : List Int} (hl : l.length ≤ 1000000000) (hK : K (.ret (.tup [.raw (.string (anchorI l).1), I (anchorI l).2.1, B (anchorI l).2.2])) σ) : ACallF κ Tryz.prog 111 [SI o l] σ K := by
  have hcl := cnt_le nameI l
  refine ACallF.dropL (ACallF_intro Tryz.func111 rfl ?_)
  simp only [Tryz.ntmps111]
  repeat' (first | simp only [WL, intF, WM, Int.reduceToNat, reduceCtorEq, WLb, Nat.reduceAdd, Nat.reduceSub, true_and, T3, T39, cok146, cok147, Tryz.results111] | (with_reducible first | refine andA (hb := ?_) | refine cD (pNames ?_ ?_) | refine cD (pText ?_ ?_)) | omega | (simp only [LN_]; omega))
  exact leafL sub_rfl (leT_eq (by simp [anchorI])) hK
set_option maxHeartbeats 8000000 in
theorem pShort {c : Int} (hK : K (.ret (B (shortC c))) σ) : ACallF κ Tryz.prog 179 [I c] σ K := by
  refine ACallF.dropL (ACallF_intro Tryz.func179 rfl ?_)
  simp only [Tryz.ntmps179]
  repeat' (first | simp only [WL, intF, WM, reduceCtorEq, WLb, Nat.reduceAdd, Nat.reduceSub, Bool.not_true, true_and, reduceIte, Bool.false_eq_true, cok148, Tryz.results179] | with_reducible refine cD (cFlow ?_) | ((with_reducible first | refine grd_cases (fun h => ?_) (fun h => ?_) | refine condC_split (fun h => ?_) (fun h => ?_)) <;> (try simp only [h]) <;> (try simp only [NR_, NRb] at h)))
  all_goals exact leafL sub_rfl (leT_eq (congrArg B (by simp [shortC, *]))) hK
set_option maxHeartbeats 8000000 in
theorem pAll {c : Int} (hK : K (.ret (B (anyC c))) σ) : ACallF κ Tryz.prog 192 [I c] σ K := by
  refine ACallF.dropL (ACallF_intro Tryz.func192 rfl ?_)
  simp only [Tryz.ntmps192]
  repeat' (first | simp only [WL, WM, Nat.reduceAdd, Nat.reduceSub, true_and, Tryz.results192])
  exact leafL sub_rfl (leT_eq rfl) hK
set_option maxHeartbeats 8000000 in
theorem uriL_byte {k : Nat} (h : k < uriL.length) : 0 ≤ uriL.getD k 0 ∧ uriL.getD k 0 ≤ 255 := by
  have : ∀ c ∈ uriL, 0 ≤ c ∧ c ≤ 255 := by decide
  rw [List.getD_eq_getElem?_getD, List.getElem?_eq_getElem h]
  exact this _ (List.getElem_mem h)
set_option maxHeartbeats 8000000 in
theorem uriC_yes {c : Int} {k : Nat} (h : k < uriL.length) (hc : c = uriL.getD k 0) : uriC c = true := by
  unfold uriC
  rw [decide_eq_true_eq, hc, List.getD_eq_getElem?_getD, List.getElem?_eq_getElem h]
  exact List.getElem_mem h
set_option maxHeartbeats 8000000 in
theorem uriC_no {c : Int} (h : ∀ j, j < uriL.length → ¬ c = uriL.getD j 0) : uriC c = false := by
  unfold uriC
  rw [decide_eq_false_iff_not]
  intro hm
  obtain ⟨j, hj, e⟩ := List.getElem_of_mem hm
  exact h j hj (by rw [List.getD_eq_getElem?_getD, List.getElem?_eq_getElem hj]; exact e.symm)
set_option maxHeartbeats 8000000 in
theorem pSign {l : List Int} (hl : l.length ≤ 1000000000) (hK : K (.ret (I (signN l))) σ) : ACallF κ Tryz.prog 204 [SI o l] σ K := by
  have e0 : signN l = signN (l.drop 0) := rfl
  refine ACallF.dropL (ACallF_introA Tryz.func204 rfl ?_)
  simp only [Tryz.ntmps204]
  repeat' (first | (with_reducible first | refine AW_block ?_ | refine cut_loop ?_ | refine AW_seqA (AW_seqA ?_) | refine AW_seq ?_ | refine AW_runReg ?_ | refine AW_runCond ?_) | simp only [WL, intF, WM, Int.reduceToNat, reduceCtorEq, WLb, Nat.reduceAdd, Nat.reduceSub, Bool.not_true, true_and, reduceIte, Bool.false_eq_true, convC_sl, List.eraseIdx_cons_zero, T3, T39, T79, cok202, cok205, Tryz.results204] | simp (disch := first | omega | (simp only [LN_]; omega)) only [getI] | (with_reducible first | refine andA (hb := ?_) | refine y_bso (ty := 79) (hK := fun tb => ?_) | refine y_mark (hK := ?_) | refine cD (cWord ?_) | refine cD (cHex ?_)) | ((with_reducible first | refine grd_cases (fun h => ?_) (fun h => ?_) | refine condC_split (fun h => ?_) (fun h => ?_)) <;> (try simp only [h]) <;> (try simp only [NR_, NRb] at h)))
  · exact leafL sub_rfl (leT_eq (by rw [e0, sign_e (by omega)]; rfl)) hK
  · exact leafL sub_rfl (leT_eq (by rw [e0, sign_p (by omega) (by assumption) (by assumption) (by assumption)]; rfl)) hK
  · exact leafL sub_rfl (leT_eq (by rw [e0, sign_pn (by omega) (by assumption) (.inr (.inr (by assumption)))]; rfl)) hK
  · exact leafL sub_rfl (leT_eq (by rw [e0, sign_pn (by omega) (by assumption) (.inr (.inl (by assumption)))]; rfl)) hK
  · exact leafL sub_rfl (leT_eq (by rw [e0, sign_pn (by omega) (by assumption) (.inl (by omega))]; rfl)) hK
  · exact leafL sub_rfl (leT_eq (by rw [e0, sign_w (by omega) (by assumption)]; rfl)) hK
  have h21 : uriL.length = 21 := rfl
  refine loopA (fun k : Nat => ⟨(SI o l :: .any :: .any :: .any :: .any :: .any :: .any :: .any :: .any :: .any :: .any :: .any :: .any :: .any :: .any :: .any :: .any :: .any :: .any :: .any :: .any :: .any :: .any :: .any :: .any :: .any :: .any :: .any :: .any :: .any :: .any :: .any :: .any :: .any :: SU none uriL :: I 21 :: I k :: .any :: .any :: .any :: .any :: .any :: .any :: .any :: .any :: .any :: .any :: []), σ, true, []⟩) (fun k => k ≤ 21 ∧ ∀ j, j < k → ¬ l.getD 0 0 = uriL.getD j 0) (fun k => 21 - k) 0 (St_le_same (by repeat (first | exact trivial | refine ⟨le_rfl, ?_⟩ | refine ⟨le_any, ?_⟩ | refine ⟨le_ro, ?_⟩ | refine ⟨le_nil (by decide), ?_⟩ | refine ⟨le_wrap (by omega) (by omega) (by omega), ?_⟩ | refine ⟨le_int (by omega), ?_⟩ | refine ⟨le_eq (by simp), ?_⟩)) id) ⟨Nat.zero_le _, fun j h => by omega⟩ ?_
  rintro k ⟨hk, hn⟩
  have hb := fun h => uriL_byte (k := k) h
  repeat' (first | (with_reducible first | refine AW_seqA (AW_block ?_) | refine AW_seq ?_ | refine AW_runReg ?_ | refine AW_runCond ?_ | refine AW_runRet ?_) | simp only [WL, intF, WM, Int.reduceToNat, reduceCtorEq, WLb, Nat.reduceAdd, true_and, T3, T5, T39, T79, cI in3, Tryz.results204] | simp (disch := first | omega | (simp only [LN_]; omega)) only [wrap_id, getI, getU] | with_reducible refine andA (hb := ?_) | ((with_reducible first | refine grd_cases (fun h => ?_) (fun h => ?_) | refine condC_split (fun h => ?_) (fun h => ?_)) <;> (try simp only [h]) <;> (try simp only [NR_, NRb] at h)))
  · exact leafL sub_rfl (leT_eq (by rw [e0, sign_u (by omega) (uriC_yes (k := k) (by omega) (by assumption))]; rfl)) hK
  · exact ⟨k + 1, St_le_same (by repeat (first | exact trivial | refine ⟨le_rfl, ?_⟩ | refine ⟨le_any, ?_⟩ | refine ⟨le_ro, ?_⟩ | refine ⟨le_nil (by decide), ?_⟩ | refine ⟨le_wrap (by omega) (by omega) (by omega), ?_⟩ | refine ⟨le_int (by omega), ?_⟩ | refine ⟨le_eq (by simp), ?_⟩)) id, ⟨by omega, fun j hj => by
      rcases Nat.lt_or_ge j k with h' | h'
      · exact hn j h'
      · obtain rfl : j = k := by omega
        assumption⟩, by omega⟩
  · exact leafL sub_rfl (leT_eq (by rw [e0, sign_n (by omega) (by assumption) (by assumption) (uriC_no (fun j hj => hn j (by omega)))]; rfl)) hK
set_option maxHeartbeats 8000000 in
theorem pEach {l : List Int} (hK : ∀ b, K (.ret (.raw (.func (.func 203) #[] #[.pointer (some ⟨b, 0, none⟩)]))) (.obj b [SI o l] :: σ)) : ACallF κ Tryz.prog 194 [SI o l] σ K := by
  refine ACallF.dropL (ACallF_intro Tryz.func194 rfl ?_)
  simp only [Tryz.ntmps194]
  repeat' (first | simp only [WL, WM, Nat.reduceAdd, Nat.reduceSub, true_and, Tryz.results194] | with_reducible refine y_box (hK := fun b => ?_))
  exact leafL sub_rfl (leT_eq rfl) (hK _)
abbrev signsA (l : List Int) (i : Nat) : List (List AV) := (signsAt l i).map fun p => [I p.1, I p.2]
set_option maxHeartbeats 8000000 in
theorem pEachIt {b L : Nat} {l : List Int} (hl : l.length ≤ 1000000000) (hI : Iter κ Tryz.prog L K (signsA l 0) σ) :
    ACallF κ Tryz.prog 203 [.raw (.func (.yield L) #[] #[]), .raw (.pointer (some ⟨b, 0, none⟩))] (.obj b [SI o l] :: σ) K := by
  refine ACallF.dropL (ACallF_intro Tryz.func203 rfl ?_)
  simp only [Tryz.ntmps203]
  repeat' (first | simp only [WL, WM, Nat.reduceAdd, Nat.reduceSub])
  refine loop_by (fun x : Nat × List Res => ⟨(.raw (.func (.yield L) #[] #[]) :: .raw (.pointer (some ⟨b, 0, none⟩)) :: .any :: I x.1 :: .any :: .any :: .any :: .any :: .any :: .any :: .any :: .any :: .any :: .any :: .any :: .any :: .any :: .any :: .any :: .any :: .any :: .any :: .any :: []), .obj b [SI o l] :: x.2, true, []⟩) (fun x => x.1 ≤ l.length ∧ Iter κ Tryz.prog L K (signsA l x.1) x.2) (fun x => l.length - x.1) (0, σ) (St_le_same (by repeat (first | exact trivial | refine ⟨le_rfl, ?_⟩ | refine ⟨le_any, ?_⟩ | refine ⟨le_ro, ?_⟩ | refine ⟨le_nil (by decide), ?_⟩ | refine ⟨le_wrap (by omega) (by omega) (by omega), ?_⟩ | refine ⟨le_int (by omega), ?_⟩ | refine ⟨le_eq (by simp), ?_⟩)) id) ⟨Nat.zero_le _, hI⟩ ?_
  rintro ⟨k, σ'⟩ hx
  dsimp only at hx ⊢
  have h1 := hx.1
  have h2 := hx.2
  have hsn := signN_drop_le (l := l) (i := k)
  by_cases hz : signN (l.drop k) = 0
  · rw [signsA, signsAt_no hz] at h2
    repeat' (first | simp only [WL, intF, WM, ne_eq, reduceCtorEq, not_false_eq_true, Bool.not_false, true_and, reduceIte, T3, T39, cok204, Tryz.results203, hz] | simp (disch := first | omega | (simp only [LN_]; omega)) only [wrap_id] | (with_reducible first | refine andA (hb := ?_) | refine y_load (hK := ?_) | refine cD (pSign ?_ ?_)) | ((with_reducible first | refine grd_cases (fun h => ?_) (fun h => ?_) | refine condC_split (fun h => ?_) (fun h => ?_)) <;> (try simp only [h]) <;> (try simp only [NR_, NRb] at h)) | omega | (simp only [LN_]; omega))
    exact leafL (sub_cons sub_rfl) (leT_eq rfl) h2
  · rw [signsA, signsAt_yes hz, List.map_cons] at h2
    repeat' (first | simp only [WL, intF, WM, ne_eq, reduceCtorEq, not_false_eq_true, Bool.not_false, true_and, reduceIte, T3, T39, cok204, Tryz.results203] | simp (disch := first | omega | (simp only [LN_]; omega)) only [wrap_id] | (with_reducible first | refine andA (hb := ?_) | refine y_load (hK := ?_) | refine cD (pSign ?_ ?_)) | ((with_reducible first | refine grd_cases (fun h => ?_) (fun h => ?_) | refine condC_split (fun h => ?_) (fun h => ?_)) <;> (try simp only [h]) <;> (try simp only [NR_, NRb] at h)) | omega | (simp only [LN_]; omega))
    refine callYD_iter [.obj b [SI o l]] (leL_two le_rfl (le_int (by simp))) h2 (fun σ3 h => ?_) (fun σ3 h => ?_) (fun c σ3 h => ?_)
    · skip
      repeat' (first | simp only [WL, intF, WM, ne_eq, reduceCtorEq, not_false_eq_true, Bool.not_true, reduceIte, Bool.false_eq_true] | simp (disch := first | omega | (simp only [LN_]; omega)) only [wrap_id])
      exact ⟨(k + signN (l.drop k), σ3), St_le_same (by repeat (first | exact trivial | refine ⟨le_rfl, ?_⟩ | refine ⟨le_any, ?_⟩ | refine ⟨le_ro, ?_⟩ | refine ⟨le_nil (by decide), ?_⟩ | refine ⟨le_wrap (by omega) (by omega) (by omega), ?_⟩ | refine ⟨le_int (by omega), ?_⟩ | refine ⟨le_eq (by simp), ?_⟩)) id, ⟨by dsimp only; omega, h⟩, by dsimp only; omega⟩
    · skip
      repeat' (first | simp only [WL, WM, Bool.not_false, true_and, reduceIte, Bool.false_eq_true, Tryz.results203])
      exact leafL (sub_cons sub_rfl) (leT_eq rfl) h
    · skip
      repeat' (first | simp only [WL, WM, true_and])
      exact leafP (sub_cons sub_rfl) rfl h
set_option maxHeartbeats 8000000 in
theorem pUri {l : List Int} {F : FuncId} {may : Int → Bool} (hF : callOk Tryz.prog F = True) (hmay : ∀ c σ K, K (.ret (B (may c))) σ → ACallF κ Tryz.prog F [I c] σ K) (hl : l.length ≤ 1000000000) (hK : K (.ret (I (uriN may l))) σ) : ACallF κ Tryz.prog 178 [SI o l, .raw (.func (.func F) #[] #[])] σ K := by
  refine ACallF.dropL (ACallF_introA Tryz.func178 rfl ?_)
  simp only [Tryz.ntmps178]
  repeat' (first | (with_reducible first | refine AW_block ?_ | refine AW_seqA (AW_seqA ?_) | refine AW_seq ?_ | refine AW_runReg ?_) | simp only [WL, WM, Nat.reduceAdd, Nat.reduceSub, true_and, cok194] | (with_reducible first | refine y_load (hK := ?_) | refine y_store (hK := ?_) | refine y_box (hK := fun b => ?_) | refine y_new (hK := fun b => ?_) | refine cD (pEach (fun eb => ?_))))
  rename_i b1 b2
  refine range_by 203 [] [.pointer (some ⟨eb, 0, none⟩)] (signsA l 0) [.obj eb [SI o l]] (.obj b [I 0] :: .obj b2 [.raw (.func (.func F) #[] #[])] :: .obj b1 [SI o l] :: σ)
    (fun xs τ => ∃ i : Nat, xs = signsA l i ∧ i ≤ l.length ∧ uriN may l = i + uriN may (l.drop i) ∧ τ = .obj b [I i] :: .obj b2 [.raw (.func (.func F) #[] #[])] :: .obj b1 [SI o l] :: σ)
    rfl cok203 (ResW.refl _) (fun L K σ' h => pEachIt hl h) ⟨0, rfl, Nat.zero_le _, (Nat.zero_add _).symm, rfl⟩ ?_ ?_
  · rintro τ ⟨i, h1, h2, h3, rfl⟩
    by_cases hz : signN (l.drop i) = 0
    · rw [uriN_no (.inl hz)] at h3
      repeat' (first | (with_reducible first | refine AW_seq ?_ | refine AW_runRet ?_) | simp only [WL, WM, true_and, Tryz.results178] | with_reducible refine y_load (hK := ?_))
      exact leafL (sub_cons (sub_cons (sub_cons sub_rfl))) (leT_eq (by rw [h3]; rfl)) hK
    · rw [signsA, signsAt_yes hz] at h1; cases h1
  · rintro dd L Rr Rb hR x xs τ ⟨i, h1, h2, h3, rfl⟩
    by_cases hz : signN (l.drop i) = 0
    · rw [signsA, signsAt_no hz] at h1; cases h1
    rw [signsA, signsAt_yes hz, List.map_cons, List.cons.injEq] at h1
    obtain ⟨rfl, rfl⟩ := h1
    have hsn := signN_drop_le (l := l) (i := i)
    refine ⟨rfl, ?_⟩
    repeat' (first | simp only [WL, WM])
    refine rngA_mk ?_
    repeat' (first | simp only [WL, WM, reduceCtorEq, Nat.reduceAdd, true_and, reduceIte, T3, T39, hF] | simp (disch := first | omega | (simp only [LN_]; omega)) only [getI] | (with_reducible first | refine andA (hb := ?_) | refine y_load (hK := ?_) | refine y_store (hK := ?_) | refine callD_q (hmay _ _ _ isR_mk) ?_) | ((with_reducible refine AW_drawM (id := 5) 7 mixed ?_ ?_); kernel_rfl) | (with_reducible refine dmQ_mk ?_) | ((with_reducible first | refine grd_cases (fun h => ?_) (fun h => ?_) | refine condC_split (fun h => ?_) (fun h => ?_)) <;> (try simp only [h]) <;> (try simp only [NR_, NRb] at h)))
    · refine ⟨_, resS_rfl, ?_⟩
      rw [uriN_no (l := l.drop i) (.inr (by rw [getD_drop0]; assumption)), Nat.add_zero] at h3
      repeat' (first | (with_reducible first | refine AW_seq ?_ | refine AW_runRet ?_) | simp only [WL, WM, true_and, Tryz.results178] | with_reducible refine y_load (hK := ?_))
      exact leafL (sub_cons (sub_cons (sub_cons sub_rfl))) (leT_eq (by rw [h3])) hK
    · exact ⟨_, resS_rfl, i + signN (l.drop i), rfl, by omega, by rw [h3, uriN_yes hz (by rw [getD_drop0]; assumption), List.drop_drop]; omega, rfl⟩
set_option maxHeartbeats 8000000 in
theorem pUriAll {l : List Int} (hl : l.length ≤ 1000000000) (hK : K (.ret (I (uriN anyC l))) σ) : ACallF κ Tryz.prog 178 [SI o l, .raw (.func (.func 192) #[] #[])] σ K := pUri cok192 (fun c σ K h => pAll h) hl hK
set_option maxHeartbeats 8000000 in
theorem pUriShort {l : List Int} (hl : l.length ≤ 1000000000) (hK : K (.ret (I (uriN shortC l))) σ) : ACallF κ Tryz.prog 178 [SI o l, .raw (.func (.func 179) #[] #[])] σ K := pUri cok179 (fun c σ K h => pShort h) hl hK
set_option maxHeartbeats 8000000 in
theorem pWhole {l : List Int} (hl : l.length ≤ 1000000000) (h2 : 2 ≤ l.length) (hK : K (.ret (.tup [.raw (.string (wholeI l).1), I (wholeI l).2.1, B (wholeI l).2.2])) σ) : ACallF κ Tryz.prog 176 [SI o l] σ K := by
  have hu := uriN_le anyC (l.drop 2)
  rw [List.length_drop] at hu
  have e1 : ((uriN anyC (l.drop 2) : Int) + 2).toNat = uriN anyC (l.drop 2) + 2 := by omega
  have e2 : (uriN anyC (l.drop 2) : Int) + 2 = ((uriN anyC (l.drop 2) + 2 : Nat) : Int) := by omega
  by_cases hz : uriN anyC (l.drop 2) = 0
  · have ew : wholeI l = noneT := by rw [wholeI, if_pos (.inl hz)]
    rw [ew] at hK
    refine ACallF.dropL (ACallF_intro Tryz.func176 rfl ?_)
    simp only [Tryz.ntmps176]
    repeat' (first | simp only [WL, intF, WM, Int.reduceToNat, reduceCtorEq, WLb, Nat.reduceAdd, Nat.reduceSub, Nat.reduceLeDiff, Bool.not_false, true_and, reduceIte, Bool.false_eq_true, T3, T39, cok147, cok175, cok178, Tryz.results176, hz] | simp (disch := first | omega | (simp only [LN_]; omega)) only [wrap_id] | (with_reducible first | refine andA (hb := ?_) | refine cD (pUriAll ?_ ?_) | refine cD (pText ?_ ?_) | refine cD (pIs ?_ ?_ ?_)) | ((with_reducible first | refine grd_cases (fun h => ?_) (fun h => ?_) | refine condC_split (fun h => ?_) (fun h => ?_)) <;> (try simp only [h]) <;> (try simp only [NR_, NRb] at h)) | omega | (simp only [LN_]; omega))
    all_goals first
      | exact leafL sub_rfl (leT_eq rfl) hK
      | (exfalso; omega)
  · cases ha : atI l (uriN anyC (l.drop 2) + 2) 62
    · have ew : wholeI l = noneT := by rw [wholeI, if_pos (.inr ha)]
      rw [ew] at hK
      refine ACallF.dropL (ACallF_intro Tryz.func176 rfl ?_)
      simp only [Tryz.ntmps176]
      repeat' (first | simp only [WL, intF, WM, Int.reduceToNat, reduceCtorEq, WLb, Nat.reduceAdd, Nat.reduceSub, Nat.reduceLeDiff, Bool.not_false, true_and, reduceIte, Bool.false_eq_true, T3, T39, cok175, cok178, Tryz.results176, e2, ha] | simp (disch := first | omega | (simp only [LN_]; omega)) only [wrap_id] | (with_reducible first | refine andA (hb := ?_) | refine cD (pUriAll ?_ ?_) | refine cD (pIs (i := uriN anyC (l.drop 2) + 2) ?_ ?_ ?_)) | ((with_reducible first | refine grd_cases (fun h => ?_) (fun h => ?_) | refine condC_split (fun h => ?_) (fun h => ?_)) <;> (try simp only [h]) <;> (try simp only [NR_, NRb] at h)) | omega | (simp only [LN_]; omega))
      all_goals first
        | exact leafL sub_rfl (leT_eq rfl) hK
        | (exfalso; omega)
    · have hn : ¬ (uriN anyC (l.drop 2) = 0 ∨ atI l (uriN anyC (l.drop 2) + 2) 62 = false) := fun h => by
        rcases h with h | h
        · exact hz h
        · rw [ha] at h; cases h
      have ew : wholeI l = (textI ((l.take (uriN anyC (l.drop 2) + 2)).drop 1), ((uriN anyC (l.drop 2) + 3 : Nat) : Int), true) := by rw [wholeI, if_neg hn]
      rw [ew] at hK
      have hl3 := (atI_lt ha).1
      refine ACallF.dropL (ACallF_intro Tryz.func176 rfl ?_)
      simp only [Tryz.ntmps176]
      repeat' (first | simp only [WL, intF, WM, Int.reduceToNat, reduceCtorEq, WLb, Nat.reduceAdd, Nat.reduceSub, Nat.reduceLeDiff, Bool.not_true, Bool.not_false, true_and, reduceIte, Bool.false_eq_true, T3, T39, cok147, cok175, cok178, Tryz.results176, e1, ha] | simp (disch := first | omega | (simp only [LN_]; omega)) only [wrap_id] | (with_reducible first | refine andA (hb := ?_) | refine cD (pUriAll ?_ ?_) | refine cD (pIs (i := uriN anyC (l.drop 2) + 2) ?_ ?_ ?_) | refine cD (pText ?_ ?_)) | ((with_reducible first | refine grd_cases (fun h => ?_) (fun h => ?_) | refine condC_split (fun h => ?_) (fun h => ?_)) <;> (try simp only [h]) <;> (try simp only [NR_, NRb] at h)) | omega | (simp only [LN_]; omega))
      all_goals first
        | exact leafL sub_rfl (leT_eq (by simp; omega)) hK
        | (exfalso; omega)
set_option maxHeartbeats 8000000 in
theorem pTag {l : List Int} (hl : l.length ≤ 1000000000) (hK : K (.ret (.tup [.raw (.string (tagI l).1), I (tagI l).2.1, B (tagI l).2.2])) σ) : ACallF κ Tryz.prog 145 [SI o l] σ K := by
  cases h0 : atI l 0 33
  · have ew : tagI l = noneT := by rw [tagI, if_pos h0]
    rw [ew] at hK
    refine ACallF.dropL (ACallF_intro Tryz.func145 rfl ?_)
    simp only [Tryz.ntmps145]
    repeat' (first | simp only [WL, WM, Nat.reduceAdd, Nat.reduceSub, Nat.reduceLeDiff, Bool.not_false, true_and, cok175, Tryz.results145, h0] | with_reducible refine cD (pIs (i := 0) ?_ ?_ ?_) | omega)
    all_goals exact leafL sub_rfl (leT_eq rfl) hK
  have hp := (atI_lt h0).1
  cases h1 : atI l 1 60
  · have ew : tagI l = shortI l := by rw [tagI, if_neg (by rw [h0]; decide), if_neg (by rw [h1]; decide)]
    rw [ew] at hK
    have hh := handleN_le l
    have hu := uriN_le shortC (l.drop (max (handleN l) 1))
    rw [List.length_drop] at hu
    have e1 : max ((handleN l : Nat) : Int) 1 = ((max (handleN l) 1 : Nat) : Int) := by omega
    have e2 : ((uriN shortC (l.drop (max (handleN l) 1)) : Int) + ((max (handleN l) 1 : Nat) : Int)).toNat = uriN shortC (l.drop (max (handleN l) 1)) + max (handleN l) 1 := by omega
    by_cases hz : 0 < handleN l ∧ uriN shortC (l.drop (max (handleN l) 1)) = 0
    · have es : shortI l = noneT := by rw [shortI, if_pos hz]
      rw [es] at hK
      refine ACallF.dropL (ACallF_intro Tryz.func145 rfl ?_)
      simp only [Tryz.ntmps145]
      repeat' (first | simp only [WL, intF, WM, Int.reduceToNat, reduceCtorEq, WLb, Nat.reduceAdd, Nat.reduceSub, Nat.reduceLeDiff, Bool.not_true, true_and, reduceIte, Bool.false_eq_true, T3, T39, cok147, cok175, cok177, cok178, Tryz.results145, h0, h1, e1] | simp (disch := first | omega | (simp only [LN_]; omega)) only [wrap_id] | (with_reducible first | refine andA (hb := ?_) | refine y_max ?_ | refine cD (pIs (i := 0) ?_ ?_ ?_) | refine cD (pIs (i := 1) ?_ ?_ ?_) | refine cD (pUriShort ?_ ?_) | refine cD (pText ?_ ?_) | refine cD (pHandle ?_ ?_ ?_)) | ((with_reducible first | refine grd_cases (fun h => ?_) (fun h => ?_) | refine condC_split (fun h => ?_) (fun h => ?_)) <;> (try simp only [h]) <;> (try simp only [NR_, NRb] at h)) | omega | (simp only [LN_]; omega))
      all_goals first
        | exact leafL sub_rfl (leT_eq rfl) hK
        | (exfalso; omega)
        | trace_state
    · have es : shortI l = (textI (l.take (uriN shortC (l.drop (max (handleN l) 1)) + max (handleN l) 1)), ((uriN shortC (l.drop (max (handleN l) 1)) + max (handleN l) 1 : Nat) : Int), true) := by rw [shortI, if_neg hz]
      rw [es] at hK
      refine ACallF.dropL (ACallF_intro Tryz.func145 rfl ?_)
      simp only [Tryz.ntmps145]
      repeat' (first | simp only [WL, intF, WM, Int.reduceToNat, reduceCtorEq, WLb, Nat.reduceAdd, Nat.reduceSub, Nat.reduceLeDiff, Bool.not_true, true_and, reduceIte, Bool.false_eq_true, T3, T39, cok147, cok175, cok177, cok178, Tryz.results145, h0, h1, e1, e2] | simp (disch := first | omega | (simp only [LN_]; omega)) only [wrap_id] | (with_reducible first | refine andA (hb := ?_) | refine y_max ?_ | refine cD (pIs (i := 0) ?_ ?_ ?_) | refine cD (pIs (i := 1) ?_ ?_ ?_) | refine cD (pUriShort ?_ ?_) | refine cD (pText ?_ ?_) | refine cD (pHandle ?_ ?_ ?_)) | ((with_reducible first | refine grd_cases (fun h => ?_) (fun h => ?_) | refine condC_split (fun h => ?_) (fun h => ?_)) <;> (try simp only [h]) <;> (try simp only [NR_, NRb] at h)) | omega | (simp only [LN_]; omega))
      all_goals first
        | (exfalso; omega)
        | exact leafL sub_rfl (leT_eq (by simp)) hK
        | trace_state
  · have ew : tagI l = wholeI l := by rw [tagI, if_neg (by rw [h0]; decide), if_pos h1]
    rw [ew] at hK
    have hp2 := (atI_lt h1).1
    refine ACallF.dropL (ACallF_intro Tryz.func145 rfl ?_)
    simp only [Tryz.ntmps145]
    repeat' (first | simp only [WL, WM, Nat.reduceAdd, Nat.reduceSub, Nat.reduceLT, Nat.reduceLeDiff, Bool.not_true, true_and, cok175, cok176, Tryz.results145, h0, h1] | (with_reducible first | refine cD (pIs (i := 0) ?_ ?_ ?_) | refine cD (pIs (i := 1) ?_ ?_ ?_) | refine cD (pWhole ?_ ?_ ?_)) | omega)
    all_goals exact leafL sub_rfl (leT_eq rfl) hK
def emptyS (s : ByteArray) : Bool := s.toList == ({ data := #[] } : ByteArray).toList
/-- Properties, and the place behind them. -/
structure TrV where
  a : ByteArray
  t : ByteArray
  q : Int × Int
abbrev TrC (v : TrV) : List AV := [.raw (.string v.a), .raw (.string v.t), I v.q.1, I v.q.2]
/-- A property at a place; none: no node; none in it: there is none. -/
def traitF (ls : List Ln) (p : Int × Int) (v : TrV) : Option (Option TrV) :=
  if headF (restF ls p) 38 then
    (if emptyS v.a && (anchorI ((restF ls p).drop 1)).2.2 && endsF (restF ls (p.1, p.2 + ((anchorI ((restF ls p).drop 1)).2.1 + 1)))
     then some (some ⟨(anchorI ((restF ls p).drop 1)).1, v.t, (p.1, p.2 + ((anchorI ((restF ls p).drop 1)).2.1 + 1))⟩) else none)
  else if headF (restF ls p) 33 then
    (if emptyS v.t && (tagI (restF ls p)).2.2 && endsF (restF ls (p.1, p.2 + (tagI (restF ls p)).2.1))
     then some (some ⟨v.a, (tagI (restF ls p)).1, (p.1, p.2 + (tagI (restF ls p)).2.1)⟩) else none)
  else some none
set_option maxHeartbeats 8000000 in
theorem headF_0 {l : List Int} {c : Int} (h : l.length = 0) : headF l c = false := by unfold headF; rw [h]; rfl
set_option maxHeartbeats 8000000 in
theorem headF_t {l : List Int} {c : Int} (h0 : 0 < l.length) (h : l.getD 0 0 = c) : headF l c = true := by unfold headF; rw [decide_eq_true h0, h]; simp
set_option maxHeartbeats 8000000 in
theorem headF_f {l : List Int} {c : Int} (h : ¬ l.getD 0 0 = c) : headF l c = false := by unfold headF; rw [show (l.getD 0 0 == c) = false from beq_eq_false_iff_ne.2 h, Bool.and_false]
set_option maxHeartbeats 8000000 in
theorem and3 {a b c : Bool} (h1 : a = true) (h2 : b = true) (h3 : c = true) : (a && b && c) = true := by rw [h1, h2, h3]; rfl
set_option maxHeartbeats 8000000 in
theorem nand3 {a b c : Bool} (h : a = false ∨ b = false ∨ c = false) : ¬ (a && b && c) = true := by
  rcases h with h | h | h <;> rw [h] <;> simp
set_option maxHeartbeats 8000000 in
theorem traitF_no {ls : List Ln} {p : Int × Int} {v : TrV} (h1 : headF (restF ls p) 38 = false) (h2 : headF (restF ls p) 33 = false) : traitF ls p v = some none := by unfold traitF; rw [h1, h2]; rfl
set_option maxHeartbeats 8000000 in
theorem traitF_tag {ls : List Ln} {p : Int × Int} {v : TrV} (h1 : headF (restF ls p) 38 = false) (h2 : headF (restF ls p) 33 = true) : traitF ls p v = if emptyS v.t && (tagI (restF ls p)).2.2 && endsF (restF ls (p.1, p.2 + (tagI (restF ls p)).2.1))
     then some (some ⟨v.a, (tagI (restF ls p)).1, (p.1, p.2 + (tagI (restF ls p)).2.1)⟩) else none := by unfold traitF; rw [h1, h2]; rfl
set_option maxHeartbeats 8000000 in
theorem traitF_anc {ls : List Ln} {p : Int × Int} {v : TrV} (h1 : headF (restF ls p) 38 = true) : traitF ls p v = if emptyS v.a && (anchorI ((restF ls p).drop 1)).2.2 && endsF (restF ls (p.1, p.2 + ((anchorI ((restF ls p).drop 1)).2.1 + 1)))
     then some (some ⟨(anchorI ((restF ls p).drop 1)).1, v.t, (p.1, p.2 + ((anchorI ((restF ls p).drop 1)).2.1 + 1))⟩) else none := by unfold traitF; rw [h1]; rfl
set_option maxHeartbeats 8000000 in
theorem tagI_in (l : List Int) : 0 ≤ (tagI l).2.1 ∧ (tagI l).2.1 ≤ 3 * l.length + 3 := by
  have h1 := uriN_le anyC (l.drop 2)
  have h2 := uriN_le shortC (l.drop (max (handleN l) 1))
  have h3 := handleN_le l
  rw [List.length_drop] at h1 h2
  unfold tagI wholeI shortI noneT
  (repeat' split) <;> dsimp only <;> omega
set_option maxHeartbeats 8000000 in
theorem jTrait {bj bt ix : Nat} {ls : List Ln} {n d : Int} {bk : Bool} {x y : AV} [hJ : Hold σ bj ix (JC ls n bk d x y)] {p : Int × Int} {v : TrV} (hs : Small ls) (hp : In64 p.1 ∧ In64 p.2)
    (h1 : ∀ v', traitF ls p v = some (some v') → K (.ret (B true)) (.obj bt (TrC v') :: σ)) (h2 : traitF ls p v = some none → K (.ret (B false)) (.obj bt (TrC v) :: σ)) (h3 : ∀ cs, traitF ls p v = none → K (.pan (wrongC 2)) (.obj bt cs :: σ)) : ACallF κ Tryz.prog 109 [JP bj, PLA p, JP bt] (.obj bt (TrC v) :: σ) K := by
  have hr := restF_len (p := p) hs
  have hsm := fun h => restF_some (p := p) hs h
  have ha := cnt_le nameI ((restF ls p).drop 1)
  rw [List.length_drop] at ha
  have ha1 : (anchorI ((restF ls p).drop 1)).2.1 = (cnt nameI ((restF ls p).drop 1) : Nat) := rfl
  have ht := tagI_in (restF ls p)
  have hA : 0 < (restF ls p).length → In64 (p.1, p.2 + ((anchorI ((restF ls p).drop 1)).2.1 + 1)).1 ∧ In64 (p.1, p.2 + ((anchorI ((restF ls p).drop 1)).2.1 + 1)).2 := fun h => ⟨hp.1, by have := hsm h; dsimp only; omega⟩
  have hT : 0 < (restF ls p).length → In64 (p.1, p.2 + (tagI (restF ls p)).2.1).1 ∧ In64 (p.1, p.2 + (tagI (restF ls p)).2.1).2 := fun h => ⟨hp.1, by have := hsm h; dsimp only; omega⟩
  rcases Nat.eq_zero_or_pos (restF ls p).length with h0 | h0
  · skip
    refine ACallF.dropL (ACallF_intro Tryz.func109 rfl ?_)
    simp only [Tryz.ntmps109]
    repeat' (first | simp only [WL, intF, strF, WM, Int.reduceToNat, reduceCtorEq, WLb, Nat.reduceAdd, Nat.reduceSub, Nat.reduceLT, Nat.reduceEqDiff, Bool.not_true, Bool.not_false, true_and, reduceIte, Bool.false_eq_true, T3, T9, T39, T67, fR fl133_0, fR fl133_1, fR fl133_2, cok33, cok55, cok79, cok111, cok112, cok145, Tryz.results109] | simp (disch := first | omega | (simp only [LN_]; omega)) only [wrap_id, getI] | (with_reducible first | refine andA (hb := ?_) | refine y_load (hK := ?_) | refine y_loadA (hK := ?_) | refine y_store (hK := ?_) | refine y_storeA (hK := ?_) | refine y_box (hK := fun b => ?_) | refine cD (jRest hs hp ?_) | refine cD (jNeedF ?_) | refine cD (jBehind ?_ ?_) | refine cD (jNeed (fun h => ?_) (fun h => ?_)) | refine cD (pAnchor ?_ ?_) | refine cD (pTag ?_ ?_)) | ((with_reducible first | refine grd_cases (fun h => ?_) (fun h => ?_) | refine condC_split (fun h => ?_) (fun h => ?_)) <;> (try simp only [h]) <;> (try simp only [NR_, NRb] at h)) | omega)
    exact leafL (sub_cons sub_rfl) (leT_eq rfl) (h2 (traitF_no (headF_0 h0) (headF_0 h0)))
  · replace hA := hA h0
    replace hT := hT h0
    replace hsm := hsm h0
    refine ACallF.dropL (ACallF_intro Tryz.func109 rfl ?_)
    simp only [Tryz.ntmps109]
    repeat' (first | simp only [WL, intF, strF, WM, Int.reduceToNat, reduceCtorEq, WLb, Nat.reduceAdd, Nat.reduceSub, Nat.reduceLT, Nat.reduceEqDiff, Bool.not_true, Bool.not_false, true_and, reduceIte, Bool.false_eq_true, T3, T9, T39, T67, fR fl133_0, fR fl133_1, fR fl133_2, cok33, cok55, cok79, cok111, cok112, cok145, Tryz.results109] | simp (disch := first | omega | (simp only [LN_]; omega)) only [wrap_id, getI] | (with_reducible first | refine andA (hb := ?_) | refine y_load (hK := ?_) | refine y_loadA (hK := ?_) | refine y_store (hK := ?_) | refine y_storeA (hK := ?_) | refine y_box (hK := fun b => ?_) | refine cD (jRest hs hp ?_) | refine cD (jNeedF ?_) | refine cD (jEnds (p := (p.1, p.2 + (tagI (restF ls p)).2.1)) hs hT ?_) | refine cD (jEnds (p := (p.1, p.2 + ((anchorI ((restF ls p).drop 1)).2.1 + 1))) hs hA ?_) | refine cD (jBehind ?_ ?_) | refine cD (jNeed (fun h => ?_) (fun h => ?_)) | refine cD (pAnchor ?_ ?_) | refine cD (pTag ?_ ?_)) | ((with_reducible first | refine grd_cases (fun h => ?_) (fun h => ?_) | refine condC_split (fun h => ?_) (fun h => ?_)) <;> (try simp only [h]) <;> (try simp only [NR_, NRb] at h)) | omega | (simp only [LN_]; omega))
    all_goals first
      | exact leafL (sub_cons sub_rfl) (leT_eq rfl) (h2 (traitF_no (headF_f (by assumption)) (headF_f (by assumption))))
      | exact leafL (sub_cons sub_rfl) (leT_eq rfl) (h1 ⟨v.a, (tagI (restF ls p)).1, (p.1, p.2 + (tagI (restF ls p)).2.1)⟩ ((traitF_tag (headF_f (by assumption)) (headF_t h0 (by assumption))).trans (if_pos (and3 (by assumption) (by assumption) (by assumption)))))
      | exact leafP (sub_cons sub_rfl) rfl (h3 _ ((traitF_tag (headF_f (by assumption)) (headF_t h0 (by assumption))).trans (if_neg (nand3 (by first | exact .inl (by assumption) | exact .inr (.inl (by assumption)) | exact .inr (.inr (by assumption)))))))
      | exact leafL (sub_cons sub_rfl) (leT_eq rfl) (h1 ⟨(anchorI ((restF ls p).drop 1)).1, v.t, (p.1, p.2 + ((anchorI ((restF ls p).drop 1)).2.1 + 1))⟩ ((traitF_anc (headF_t h0 (by assumption))).trans (if_pos (and3 (by assumption) (by assumption) (by assumption)))))
      | exact leafP (sub_cons sub_rfl) rfl (h3 _ ((traitF_anc (headF_t h0 (by assumption))).trans (if_neg (nand3 (by first | exact .inl (by assumption) | exact .inr (.inl (by assumption)) | exact .inr (.inr (by assumption)))))))
      | trace_state
end Go.Proofs.YtgoofaeifbfblaaGreat
