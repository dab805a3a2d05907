/-
  The abstract layer, part m: ranges over functions: the statement, and a call of yield.
-/
import Derived.Test.YtaeacialcbahnaaMl
import Derived.RangeFuncNested
namespace Go.Abs
open Go.RowKit

section
variable {κ : Ctx} {P : Program} {rd : Option Nat} {Q : Exit → St → Prop} {s : St} {σ : List Res}

/-- A new loop's record. -/
theorem Rel.new_loop {g : Nat → Nat} {ρ : List Res} {w : World} (h : Rel κ g ρ w) (r : Loop) {t : List AV} (ht : TR g w t r.tmps) :
    Rel κ g (.loop w.heap.size r.state r.pending t r.params r.assign r.body r.defers :: ρ) (w.alloc (.loop r)) ∧ GE g w g (w.alloc (.loop r)) := by
  have H := GE.alloc h (.loop r) 0
  rw [upd_zero h] at H
  refine ⟨h.fresh H rfl rfl rfl (by simp) (fun b hb => get_push_lt w _ b hb) (fun b _ => rfl) rfl ⟨h.new _ (Nat.le_refl _), r, get_push_eq w _, rfl, rfl, rfl, rfl, rfl, rfl, ht.mono H⟩, H⟩

/-- A loop's record turns. -/
theorem loop_turn {φ : List Res} {g : Nat → Nat} {w : World} {l i d : Nat} {st : LoopState} {pend : Option Code} {t : List AV} {ps : Array Tmp} {assign body : Code} (hR : Rel κ g (φ ++ σ) w) (h : σ[i]? = some (.loop l st pend t ps assign body d)) :
    ∃ r : Loop, w.heap[l]? = some (.loop r) ∧ r.state = st ∧ r.pending = pend ∧ r.params = ps ∧ r.assign = assign ∧ r.body = body ∧ r.defers = d ∧ TR g w t r.tmps ∧
      ∀ st' pend', Rel κ g (φ ++ σ.set i (.loop l st' pend' t ps assign body d)) { w with heap := w.heap.setIfInBounds l (.loop { r with state := st', pending := pend' }) } ∧ GE g w g { w with heap := w.heap.setIfInBounds l (.loop { r with state := st', pending := pend' }) } := by
  obtain ⟨h0, r, h1, a1, a2, a3, a4, a5, a6, a7⟩ := hR.holds _ (mem_right h)
  refine ⟨r, h1, a1, a2, a3, a4, a5, a6, a7, fun st' pend' => ?_⟩
  have hlt : l < w.heap.size := (hR.bnd _ (mem_right h) l rfl).2
  have hsame : ∀ b, b ≠ l → ({ w with heap := w.heap.setIfInBounds l (.loop { r with state := st', pending := pend' }) } : World).heap[b]? = w.heap[b]? := fun b hb => by
    simp only [Array.getElem?_setIfInBounds]
    rw [if_neg (fun e => hb e.symm)]
  have hge : GE g w g { w with heap := w.heap.setIfInBounds l (.loop { r with state := st', pending := pend' }) } := by
    refine ⟨by simp, fun _ => Nat.le_refl _, fun b o ho => ?_, fun b => ?_⟩
    · have hb : b ≠ l := fun e => by subst e; rw [h0] at ho; omega
      simp only [World.cell?]
      rw [hsame b hb]
    · by_cases hb : b = l
      · subst hb; simp [blockLen, h1]
      · simp only [blockLen]; rw [hsame b hb]; exact Nat.le_refl _
  have hR' := hR.perm (perm_front (φ := φ) (perm_get h))
  have hR2 : Rel κ g (.loop l st' pend' t ps assign body d :: (φ ++ σ.eraseIdx i)) { w with heap := w.heap.setIfInBounds l (.loop { r with state := st', pending := pend' }) } :=
    hR'.change hge rfl rfl rfl (by simp) hsame (fun _ _ => rfl) rfl rfl ⟨h0, { r with state := st', pending := pend' }, by simp [hlt], rfl, rfl, a3, a4, a5, a6, a7.mono hge⟩
  exact ⟨hR2.perm (List.perm_middle.symm.trans ((perm_set h).append_left φ)), hge⟩

/-- What goes on behind the call of the function that is ranged over. -/
def rangeK (κ : Ctx) (P : Program) (rd : Option Nat) (Q : Exit → St → Prop) (s : St) (l : Nat) (ps : Array Tmp) (assign body : Code) (d : Nat) (r : Ret) (σ' : List Res) : Prop :=
  ∃ j st pend, σ'[j]? = some (.loop l st pend s.t ps assign body d) ∧
    match r with
    | .ret _ => st ≠ .busy ∧ (match pend with
        | none => Q .normal ⟨s.t, σ'.eraseIdx j, rd.isSome && s.fr, s.df⟩
        | some c => run κ P rd c Q ⟨s.t, σ'.eraseIdx j, rd.isSome && s.fr, s.df⟩)
    | .pan c => Q (.panic c) ⟨s.t, σ'.eraseIdx j, rd.isSome && s.fr, s.df⟩

theorem erase_sub {α : Type} : ∀ (l : List α) (i : Nat), (l.eraseIdx i).Sublist l := fun l i => List.eraseIdx_sublist l i

theorem yieldV_ok {l : Nat} {g : Nat → Nat} {w : World} {first cap : Array Value} : TR g w (first.toList.map .raw ++ [.raw (.func (.yield l) #[] #[])] ++ cap.toList.map .raw) (first ++ #[.func (.yield l) #[] #[]] ++ cap) :=
  ((TR.raws first).append (TR.one (.raw _))).append (TR.raws cap)

/-- An outermost range over a function. -/
theorem AW_range {f : Operand} {ps : Array Tmp} {assign body : Code} {gf : FuncId} {first cap : Array Value} (hf : s.ev f = .raw (.func (.func gf) first cap)) (hok : callOk P gf)
    (h : ∀ l d, ACallF κ P gf (first.toList.map .raw ++ [.raw (.func (.yield l) #[] #[])] ++ cap.toList.map .raw) (.loop l .ready none s.t ps assign body d :: s.σ) (rangeK κ P none Q s l ps assign body d)) :
    AW κ none P (.rangeFunc f ps assign body) Q s := by
  intro φ g a w hs
  refine wpIn_rangeFunc (F := FD none) (fun fn _ => ?_)
  obtain ⟨ds, hd, hfr, hR, ht⟩ := hs
  have hfv := ev_sound ht f
  rw [hf] at hfv
  have hfv' := hfv.raw_eq
  obtain ⟨fnn, hfn, hn1, hn2⟩ := hok
  obtain ⟨b1, b2⟩ := hR.new_blk (.deferred (some [])) trivial
  obtain ⟨c1, c2⟩ := b1.new_loop { state := .ready, pending := none, fn := fn, tmps := a.tmps, params := ps, assign := assign, body := body, defers := w.heap.size } (ht.mono b2)
  generalize hw2 : (w.alloc (.deferred (some []))).alloc (.loop { state := .ready, pending := none, fn := fn, tmps := a.tmps, params := ps, assign := assign, body := body, defers := w.heap.size }) = w2 at *
  have hl : (w.alloc (.deferred (some []))).heap.size = w.heap.size + 1 := by simp
  rw [hl] at c1
  simp only at c1
  have hp : (Res.loop (w.heap.size + 1) .ready none s.t ps assign body w.heap.size :: (Res.blk w.heap.size (.deferred (some [])) :: (φ ++ (ds.map dres ++ s.σ)))).Perm ((φ ++ (w.heap.size :: ds).map dres) ++ (Res.loop (w.heap.size + 1) .ready none s.t ps assign body w.heap.size :: s.σ)) := by
    simp only [List.map_cons]
    have p1 : (Res.blk w.heap.size (.deferred (some [])) :: (φ ++ (ds.map dres ++ s.σ))).Perm (φ ++ (dres w.heap.size :: ds.map dres) ++ s.σ) := by
      rw [← List.append_assoc]
      refine List.Perm.trans ?_ ((List.perm_middle (a := dres w.heap.size) (l₁ := φ) (l₂ := ds.map dres)).symm.append_right s.σ)
      exact List.Perm.refl _
    exact (p1.cons _).trans List.perm_middle.symm
  have hR2 := c1.perm hp
  have hge := b2.trans c2
  refine ⟨w.heap.size + 1, [mkMark w.heap.size], w2, { target := .fn (.func gf) cap, args := first ++ #[.func (.yield (w.heap.size + 1)) #[] #[]] }, w2, gf, first ++ #[.func (.yield (w.heap.size + 1)) #[] #[]] ++ cap, w2, ?_, ?_, fun _ _ => trivial, ?_, FD_need, ?_⟩
  · rw [← hw2]; exact run_enterLoop_outer fn a.tmps ps assign body
  · show Sem.run P (Deferred.ofValue (a.eval f) _) w2 = _
    rw [hfv']
    simp [Deferred.ofValue, Act.eval]
  · simp only [invoke]; exact callFunc_run hfn hn1 hn2 _ _
  · refine callsIn_FD (CallsIn.mono (h (w.heap.size + 1) w.heap.size _ g w2 _ hR2 yieldV_ok) ?_) none _
    rintro e w3 ⟨g', σ', r, hR3, hge3, her, j, st, pend, hj, hk⟩
    obtain ⟨rec, k1, k2, k3, k4, k5, k6, k7, k8, k9⟩ := loop_turn hR3 hj
    have ht3 : TR g' w3 s.t a.tmps := (ht.mono hge).mono hge3
    cases r with
    | ret x =>
      cases e with
      | returned v =>
        obtain ⟨hst, hk⟩ := hk
        obtain ⟨k10, k11⟩ := k9 .exhausted pend
        refine ⟨pend, { w3 with heap := w3.heap.setIfInBounds (w.heap.size + 1) (.loop { rec with state := .exhausted, pending := pend }) }, ?_, ?_⟩
        · subst k3
          exact run_endLoop k1 (by rw [k2]; exact hst)
        · have hs' : SR κ φ g' ⟨s.t, σ'.eraseIdx j, false, s.df⟩ { a with defers := [mkMark w.heap.size] ++ a.defers } { w3 with heap := w3.heap.setIfInBounds (w.heap.size + 1) (.loop { rec with state := .exhausted, pending := pend }) } := by
            refine ⟨w.heap.size :: ds, by simp [hd], fun e => (by cases e), ?_, ht3.mono k11⟩
            have := k10.sub ((List.Sublist.refl (φ ++ (w.heap.size :: ds).map dres)).append (erase_sub _ j))
            rw [← List.append_assoc]
            have e2 : (σ'.set j (.loop (w.heap.size + 1) .exhausted pend s.t ps assign body w.heap.size)).eraseIdx j = σ'.eraseIdx j := by
              rw [List.eraseIdx_set_eq]
            rw [e2] at this
            exact this
          cases pend with
          | none => exact ⟨g', _, hs', (hge.trans hge3).trans k11, hk⟩
          | some c => exact wpIn_mono (run_sound c Q _ hk φ g' _ _ hs') (fun e a4 w4 hp => hp.mono ((hge.trans hge3).trans k11))
      | panicked c => exact her.elim
      | outgrown => exact her.elim
    | pan c =>
      cases e with
      | returned v => exact her.elim
      | panicked c' =>
        cases (show c' = c from her)
        refine ⟨g', ⟨s.t, σ'.eraseIdx j, false, s.df⟩, ⟨w.heap.size :: ds, by simp [hd], fun e => (by cases e), ?_, ht3⟩, hge.trans hge3, hk⟩
        rw [← List.append_assoc]
        exact hR3.sub ((List.Sublist.refl (φ ++ (w.heap.size :: ds).map dres)).append (erase_sub _ j))
      | outgrown => exact her.elim

/-- A range over a function within a round of loop l0. -/
theorem AW_range_in {l0 : Nat} {f : Operand} {ps : Array Tmp} {assign body : Code} {gf : FuncId} {first cap : Array Value} {i d : Nat} {st0 : LoopState} {pend0 : Option Code} {t0 : List AV} {ps0 : Array Tmp} {as0 bd0 : Code} (hf : s.ev f = .raw (.func (.func gf) first cap)) (hok : callOk P gf)
    (h0 : s.σ[i]? = some (.loop l0 st0 pend0 t0 ps0 as0 bd0 d))
    (h : ∀ l, ACallF κ P gf (first.toList.map .raw ++ [.raw (.func (.yield l) #[] #[])] ++ cap.toList.map .raw) (.loop l .ready none s.t ps assign body d :: s.σ) (rangeK κ P (some l0) Q s l ps assign body d)) :
    AW κ (some l0) P (.rangeFunc f ps assign body) Q s := by
  intro φ g a w hs
  refine wpIn_rangeFunc (F := FD (some l0)) (fun fn _ => ?_)
  obtain ⟨ds, hd, hfr, hR, ht⟩ := hs
  have hfv := ev_sound ht f
  rw [hf] at hfv
  have hfv' := hfv.raw_eq
  obtain ⟨fnn, hfn, hn1, hn2⟩ := hok
  rw [← List.append_assoc] at hR
  obtain ⟨rec0, q1, _, _, _, _, _, q7, _⟩ := loop_turn hR h0
  obtain ⟨c1, c2⟩ := hR.new_loop { state := .ready, pending := none, fn := fn, tmps := a.tmps, params := ps, assign := assign, body := body, defers := d } ht
  generalize hw2 : w.alloc (.loop { state := .ready, pending := none, fn := fn, tmps := a.tmps, params := ps, assign := assign, body := body, defers := d }) = w2 at *
  simp only at c1
  have hR2 := c1.perm (List.perm_middle (l₁ := φ ++ ds.map dres) (l₂ := s.σ)).symm
  refine ⟨w.heap.size, [], w2, { target := .fn (.func gf) cap, args := first ++ #[.func (.yield w.heap.size) #[] #[]] }, w2, gf, first ++ #[.func (.yield w.heap.size) #[] #[]] ++ cap, w2, ?_, ?_, fun _ _ => trivial, ?_, FD_need, ?_⟩
  · rw [← hw2]; subst q7; exact run_enterLoop_inner q1 _ _ _ _ _
  · show Sem.run P (Deferred.ofValue (a.eval f) _) w2 = _
    rw [hfv']
    simp [Deferred.ofValue, Act.eval]
  · simp only [invoke]; exact callFunc_run hfn hn1 hn2 _ _
  · refine callsIn_FD (CallsIn.mono (h w.heap.size _ g w2 _ hR2 yieldV_ok) ?_) (some l0) _
    rintro e w3 ⟨g', σ', r, hR3, hge3, her, j, st, pend, hj, hk⟩
    obtain ⟨rec, k1, k2, k3, k4, k5, k6, k7, k8, k9⟩ := loop_turn hR3 hj
    have ht3 : TR g' w3 s.t a.tmps := (ht.mono c2).mono hge3
    cases r with
    | ret x =>
      cases e with
      | returned v =>
        obtain ⟨hst, hk⟩ := hk
        obtain ⟨k10, k11⟩ := k9 .exhausted pend
        refine ⟨pend, { w3 with heap := w3.heap.setIfInBounds w.heap.size (.loop { rec with state := .exhausted, pending := pend }) }, ?_, ?_⟩
        · subst k3
          exact run_endLoop k1 (by rw [k2]; exact hst)
        · have hs' : SR κ φ g' ⟨s.t, σ'.eraseIdx j, s.fr, s.df⟩ { a with defers := [] ++ a.defers } { w3 with heap := w3.heap.setIfInBounds w.heap.size (.loop { rec with state := .exhausted, pending := pend }) } := by
            refine ⟨ds, by simp [hd], hfr, ?_, ht3.mono k11⟩
            have := k10.sub ((List.Sublist.refl (φ ++ ds.map dres)).append (erase_sub _ j))
            rw [← List.append_assoc]
            rw [List.eraseIdx_set_eq] at this
            exact this
          simp only [Option.isSome_some, Bool.true_and] at hk
          cases pend with
          | none => exact ⟨g', _, hs', (c2.trans hge3).trans k11, hk⟩
          | some c => exact wpIn_mono (run_sound c Q _ hk φ g' _ _ hs') (fun e a4 w4 hp => hp.mono ((c2.trans hge3).trans k11))
      | panicked c => exact her.elim
      | outgrown => exact her.elim
    | pan c =>
      cases e with
      | returned v => exact her.elim
      | panicked c' =>
        cases (show c' = c from her)
        simp only [Option.isSome_some, Bool.true_and] at hk
        refine ⟨g', ⟨s.t, σ'.eraseIdx j, s.fr, s.df⟩, ⟨ds, by simp [hd], hfr, ?_, ht3⟩, c2.trans hge3, hk⟩
        rw [← List.append_assoc]
        exact hR3.sub ((List.Sublist.refl (φ ++ ds.map dres)).append (erase_sub _ j))
      | outgrown => exact her.elim

/-! ### A call of yield -/
def setPs : List AV → List Tmp → List AV → List AV
  | t, p :: ps, x :: xs => setPs (t.set p x) ps xs
  | t, _, _ => t

theorem setPs_ok {g : Nat → Nat} {w : World} : ∀ (ps : List Tmp) (xs : List AV) (vs : List Value) (t : List AV) (tmps : Array Value), TR g w t tmps → TR g w xs vs.toArray → TR g w (setPs t ps xs) ((ps.zip vs).foldl (fun tmps (x : Tmp × Value) => tmps.setIfInBounds x.1 x.2) tmps)
  | [], _, _, t, tmps, h, _ => by simpa [setPs] using h
  | p :: ps, [], vs, t, tmps, h, hv => by
    have := nil_vs hv
    subst this
    simpa [setPs] using h
  | p :: ps, x :: xs, vs, t, tmps, h, hv => by
    match vs, hv.size with
    | v :: vs, hsz =>
      have hx : VR g w x v := by simpa using hv.get 0 x rfl
      have hxs : TR g w xs vs.toArray := ⟨by simpa using hsz, fun m y hm => by
        have := hv.get (m + 1) y (by simpa using hm)
        simpa [Array.getD_eq_getD_getElem?] using this⟩
      have h1 : TR g w (t.set p x) (tmps.setIfInBounds p v) := TR.put h (some p) hx []
      simpa [setPs] using setPs_ok ps xs vs _ _ h1 hxs

/-- The end of a round. -/
def roundQ (l : Nat) (t : List AV) (ps : Array Tmp) (assign body : Code) (d : Nat) (K : Ret → List Res → Prop) : Exit → St → Prop
  | .normal, s => ∃ j, s.σ[j]? = some (.loop l .busy none t ps assign body d) ∧ K (.ret (B true)) (s.σ.set j (.loop l .ready none t ps assign body d))
  | .ret, s => ∃ j, s.σ[j]? = some (.loop l .busy none t ps assign body d) ∧ K (.ret (B false)) (s.σ.set j (.loop l .done (some .ret) t ps assign body d))
  | .exit id, s => ∃ j, s.σ[j]? = some (.loop l .busy none t ps assign body d) ∧ K (.ret (B false)) (s.σ.set j (.loop l .done (some (.exit id)) t ps assign body d))
  | _, _ => False

theorem ACallY_mkQ {l : Nat} {args : List AV} {K : Ret → List Res → Prop} {t : List AV} {ps : Array Tmp} {assign body : Code} {d : Nat} (Q1 : Exit → St → Prop) (hQ : ∀ e s, Q1 e s → roundQ l t ps assign body d K e s) (i : Nat) (h : σ[i]? = some (.loop l .ready none t ps assign body d)) (hps : ps.size = args.length)
    (hrun : run κ P (some l) assign (thenQ (fun s1 => ∃ j, s1.σ[j]? = some (.loop l .ready none t ps assign body d) ∧ run κ P (some l) body Q1 ⟨s1.t, s1.σ.set j (.loop l .busy none t ps assign body d), s1.fr, s1.df⟩) (fun _ _ => False)) ⟨setPs t ps.toList args, σ, true, []⟩) : ACallY κ P l args σ K := by
  intro φ g w vs hR hv
  obtain ⟨r, k1, k2, k3, k4, k5, k6, k7, k8, _⟩ := loop_turn hR h
  refine ⟨r.fn, (r.params.zip vs).foldl (fun tmps (x : Tmp × Value) => tmps.setIfInBounds x.1 x.2) r.tmps, assign, body, ?_, ?_⟩
  · have := run_yield (P := P) (args := vs) k1 (by rw [hv.size, k4, hps])
    rw [k5, k6] at this; exact this
  · refine roundIn_of_wpIn (F := Fence.wide) trivial ?_
    have hs : SR κ φ g ⟨setPs t ps.toList args, σ, true, []⟩ { tmps := (r.params.zip vs).foldl (fun tmps (x : Tmp × Value) => tmps.setIfInBounds x.1 x.2) r.tmps, defers := [] } w := by
      refine ⟨[], rfl, fun _ => rfl, by simpa using hR, ?_⟩
      have := setPs_ok ps.toList args vs.toList t r.tmps k8 (by simpa using hv)
      rw [k4]
      have e : ((ps.zip vs).foldl (fun tmps (x : Tmp × Value) => tmps.setIfInBounds x.1 x.2) r.tmps) = ((ps.toList.zip vs.toList).foldl (fun tmps (x : Tmp × Value) => tmps.setIfInBounds x.1 x.2) r.tmps) := by
        rw [← Array.toList_zip, Array.foldl_toList]
      rw [e]; exact this
    refine wpIn_mono (run_sound assign _ _ hrun φ g _ w hs) ?_
    rintro e a1 w1 ⟨g1, s1, hs1, hge1, hq⟩
    cases e with
    | normal =>
      obtain ⟨j, hj, hbody⟩ := hq
      obtain ⟨ds1, hd1, hfr1, hR1, ht1⟩ := hs1
      rw [← List.append_assoc] at hR1
      obtain ⟨r1, m1, m2, m3, m4, m5, m6, m7, m8, m9⟩ := loop_turn hR1 hj
      obtain ⟨m10, m11⟩ := m9 .busy none
      refine ⟨{ w1 with heap := w1.heap.setIfInBounds l (.loop { r1 with state := .busy, pending := none }) }, ?_, ?_⟩
      · have hpend : ({ r1 with state := LoopState.busy, pending := none } : Loop) = { r1 with state := LoopState.busy } := by rw [← m3]
        rw [hpend]
        exact run_beginRound m1 m2
      · have hs2 : SR κ φ g1 ⟨s1.t, s1.σ.set j (.loop l .busy none t ps assign body d), s1.fr, s1.df⟩ a1 { w1 with heap := w1.heap.setIfInBounds l (.loop { r1 with state := .busy, pending := none }) } :=
          ⟨ds1, hd1, hfr1, by rw [← List.append_assoc]; exact m10, ht1.mono m11⟩
        refine wpIn_mono (run_sound body _ _ hbody φ g1 a1 _ hs2) ?_
        have fin : ∀ (jump : Option Code) (b : Bool) (a2 : Act) (w2 : World) (g2 : Nat → Nat) (s2 : St) (st' : LoopState), SR κ φ g2 s2 a2 w2 → GE g w g2 w2 → st' = (if jump.isNone then .ready else .done) → b = jump.isNone → (∃ j, s2.σ[j]? = some (.loop l .busy none t ps assign body d) ∧ K (.ret (B b)) (s2.σ.set j (.loop l st' jump t ps assign body d))) →
            ∃ v w', (Instr.endRound l jump).run P w2 = .ok v w' ∧ CPost κ φ g w K (.returned v) w' := by
          intro jump b a2 w2 g2 s2 st' hs2 hge2 hst hb hex
          obtain ⟨j2, hj2, hk⟩ := hex
          obtain ⟨ds2, hd2, hfr2, hR2, ht2⟩ := hs2
          rw [← List.append_assoc] at hR2
          obtain ⟨r2, n1, n2, n3, n4, n5, n6, n7, n8, n9⟩ := loop_turn hR2 hj2
          obtain ⟨n10, n11⟩ := n9 st' jump
          refine ⟨.bool jump.isNone, { w2 with heap := w2.heap.setIfInBounds l (.loop { r2 with state := st', pending := jump }) }, ?_, g2, _, .ret (B b), ?_, hge2.trans n11, by rw [hb]; exact .raw _, hk⟩
          · rw [hst]; exact run_endRound jump n1
          · rw [List.append_assoc] at n10
            exact n10.sub ((List.Sublist.refl φ).append (List.sublist_append_right _ _))
        rintro e a2 w2 ⟨g2, s2, hs3, hge3, hq2⟩
        replace hq2 := hQ _ _ hq2
        have hge4 : GE g w g2 w2 := hge1.trans (m11.trans hge3)
        cases e with
        | normal => exact fin none true a2 w2 g2 s2 .ready hs3 hge4 rfl rfl hq2
        | ret => exact fin (some .ret) false a2 w2 g2 s2 .done hs3 hge4 rfl rfl hq2
        | exit id => exact fin (some (.exit id)) false a2 w2 g2 s2 .done hs3 hge4 rfl rfl hq2
        | goto id => exact hq2.elim
        | panic c => exact hq2.elim
        | outgrown => exact hq2.elim
    | exit id => exact hq.elim
    | goto id => exact hq.elim
    | ret => exact hq.elim
    | panic c => exact hq.elim
    | outgrown => exact hq.elim

theorem ACallY_mk {l : Nat} {args : List AV} {K : Ret → List Res → Prop} {t : List AV} {ps : Array Tmp} {assign body : Code} {d : Nat} (i : Nat) (h : σ[i]? = some (.loop l .ready none t ps assign body d)) (hps : ps.size = args.length)
    (hrun : run κ P (some l) assign (thenQ (fun s1 => ∃ j, s1.σ[j]? = some (.loop l .ready none t ps assign body d) ∧ run κ P (some l) body (roundQ l t ps assign body d K) ⟨s1.t, s1.σ.set j (.loop l .busy none t ps assign body d), s1.fr, s1.df⟩) (fun _ _ => False)) ⟨setPs t ps.toList args, σ, true, []⟩) : ACallY κ P l args σ K :=
  ACallY_mkQ _ (fun _ _ h => h) i h hps hrun

end
end Go.Abs
