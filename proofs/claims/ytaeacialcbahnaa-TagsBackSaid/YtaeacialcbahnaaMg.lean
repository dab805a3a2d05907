/-
  The abstract layer, part g: every operation, lists of them, code, functions.
-/
import Derived.Test.YtaeacialcbahnaaMf
namespace Go.Abs
open Go.RowKit

section
variable {κ : Ctx} {P : Program} {φ : List Res} {g : Nat → Nat} {w : World} {rd : Option Nat}

theorem eqGuard_run {op : BinOp} {t : TypeId} {x y : Operand} {a b : Value} (h1 : a ≠ .nilIface ∨ b ≠ .nilIface) (h2 : (∀ cs, a ≠ .agg cs) ∨ (∀ cs, b ≠ .agg cs)) (w : World) : (eqGuard op t x y a b).run P w = .ok () w := by
  unfold eqGuard
  split
  · simp only [Bool.not_true, Bool.false_eq_true, if_false]
    split
    · exact (h1.elim (fun h => h rfl) (fun h => h rfl)).elim
    · exact (h2.elim (fun h => h _ rfl) (fun h => h _ rfl)).elim
    · rfl
  · simp only [Bool.not_true, Bool.false_eq_true, if_false]
    split
    · exact (h1.elim (fun h => h rfl) (fun h => h rfl)).elim
    · exact (h2.elim (fun h => h _ rfl) (fun h => h _ rfl)).elim
    · rfl
  · rfl

theorem calm_spec {x : AV} {v : Value} (hv : VR g w x v) (h : calmAV x = true) : v ≠ .nilIface ∧ ∀ cs, v ≠ .agg cs := by
  cases hv with
  | any v => cases h
  | raw v => cases v <;> first | (cases h; done) | exact ⟨by simp, by simp⟩
  | slnil => exact ⟨by simp, by simp⟩
  | slzero => exact ⟨by simp, by simp⟩
  | sl => exact ⟨by simp, by simp⟩
  | cp => exact ⟨by simp, by simp⟩
  | agg => cases h
  | tup => exact ⟨by simp, by simp⟩
  | ifc => exact ⟨by simp, by simp⟩

theorem callM.call {dm : Bool} {f : AV} {xs : List AV} {σ : List Res} {K : AV → List Res → Prop} {KP : List PanicEntry → List Res → Prop} (h : callM κ dm P f xs σ K KP) : ACallV κ P f xs σ fun r σ' => match r with | .ret x => K x σ' | .pan c => KP c σ' := by
  cases dm with
  | false => exact h
  | true =>
    obtain ⟨x, h1, h2⟩ := h
    unfold ACallV at h1 ⊢
    split at h1
    · refine ⟨h1.1, fun φ g w vs hR hv => CallsIn.mono (h1.2 φ g w vs hR hv) ?_⟩
      rintro e w' ⟨g', σ', r, a, b, c, rfl, rfl⟩
      exact ⟨g', _, _, a, b, c, h2⟩
    · intro φ g w vs hR hv
      obtain ⟨f, tmps, assign, body, k1, k2⟩ := h1 φ g w vs hR hv
      refine ⟨f, tmps, assign, body, k1, RoundIn.mono k2 ?_⟩
      rintro e w' ⟨g', σ', r, a, b, c, rfl, rfl⟩
      exact ⟨g', _, _, a, b, c, h2⟩
    · exact h1.elim

set_option maxHeartbeats 4000000 in
theorem opR_sound {dm : Bool} {o : Oper} {s : St} {a : Act} {K : AV → List Res → Prop} {KP : List PanicEntry → List Res → Prop} {next : Act → World → Prop} {Q : Exit → Act → World → Prop}
    (h : opR κ dm P o s K KP) (hs : SR κ φ g s a w) (hn : NextR κ φ g w s o.dst K next)
    (hp : ∀ g' w' c σ', SR κ φ g' { s with σ := σ' } a w' → GE g w g' w' → KP c σ' → Q (.panic c) a w') : o.wpIn (FD rd) 0 P a w next Q := by
  have ht := hs.tr
  have hev := ev_sound ht
  obtain ⟨dst, op, ty, pos, af, gd⟩ := o
  cases op with
  | move x => exact wpIn_does (sem := pure (a.eval x)) (by simp) (by simp [execOp]) hs (fun φ => Does.pure (by rfl) (hev x) h) hn
  | assign x => exact wpIn_does (sem := pure (a.eval x)) (by simp) (by simp [execOp]) hs (fun φ => Does.pure (by rfl) (hev x) h) hn
  | pick c x y =>
    simp only [opR, pickR] at h
    split at h
    · rename_i b hc
      have hb := hev c
      rw [hc] at hb
      have hb' := hb.raw_eq
      refine wpIn_does (sem := pure (if b then a.eval x else a.eval y)) (by simp) (by simp [execOp, hb', asBool]) hs (fun φ => Does.pure (by rfl) ?_ h) hn
      cases b
      · exact hev y
      · exact hev x
    · exact h.elim
  | alloc t => exact wpIn_does (sem := Instr.alloc t true (.tuple #[])) (by simp) rfl hs (fun φ => Does.of_act h TR.nil rfl) hn
  | box t x => exact wpIn_does (sem := Instr.box t (a.eval x)) (by simp) rfl hs (fun φ => Does.of_act h (TR.one (hev x)) rfl) hn
  | build t ps =>
    refine wpIn_does (sem := Instr.build t (ps.map fun (i, x) => (i, a.eval x))) (by simp) rfl hs (fun φ => Does.of_act h (ht.map_ev2 ps) ?_) hn
    simp only [MA.sem]; rw [parts_eq]
  | buildSlice t n ps =>
    refine wpIn_does (sem := Instr.buildSlice t n (ps.map fun (i, x) => (i, a.eval x))) (by simp) rfl hs (fun φ => Does.of_act h (ht.map_ev2 ps) ?_) hn
    simp only [MA.sem]; rw [parts_eq]
  | insert t m k x => exact h.elim
  | load t x => exact wpIn_does (sem := Instr.loadAt t (a.eval x)) (by simp) rfl hs (fun φ => loadR_sound h (hev x)) hn
  | store t x y =>
    refine wpIn_does_unit (K := K) (sem := Instr.storeAt t (a.eval x) (a.eval y)) (by simp) rfl hs (fun φ => Does.of_act h (TR.two (hev x) (hev y)) rfl) hn
  | ready b => exact h.elim
  | waits b => exact h.elim
  | nilCheck x =>
    have hx := hev x
    simp only [opR, nilR] at h
    split at h
    · rename_i l hc
      rw [hc] at hx
      obtain ⟨b, off, hv, _⟩ := hx.cp_inv
      exact wpIn_does (sem := pure (a.eval x)) (by simp) (by simp [execOp, hv]) hs (fun φ => Does.pure (by rfl) hx h) hn
    · rename_i ad hc
      rw [hc] at hx
      have hv := hx.raw_eq
      exact wpIn_does (sem := pure (a.eval x)) (by simp) (by simp [execOp, hv]) hs (fun φ => Does.pure (by rfl) hx h) hn
    · rename_i f c d hc
      rw [hc] at hx
      have hv := hx.raw_eq
      exact wpIn_does (sem := pure (a.eval x)) (by simp) (by simp [execOp, hv]) hs (fun φ => Does.pure (by rfl) hx h) hn
    · rename_i f c d hc
      rw [hc] at hx
      have hv := hx.raw_eq
      exact wpIn_does (sem := pure (a.eval x)) (by simp) (by simp [execOp, hv]) hs (fun φ => Does.pure (by rfl) hx h) hn
    · exact h.elim
  | binOp op t x y yt =>
    have hx := hev x
    have hy := hev y
    obtain ⟨hG, h⟩ := h
    have hc : (a.eval x ≠ .nilIface ∨ a.eval y ≠ .nilIface) ∧ ((∀ cs, a.eval x ≠ .agg cs) ∨ (∀ cs, a.eval y ≠ .agg cs)) := by
      rcases (Bool.or_eq_true _ _).mp hG with hG | hG
      · exact ⟨.inl (calm_spec hx hG).1, .inl (calm_spec hx hG).2⟩
      · exact ⟨.inr (calm_spec hy hG).1, .inr (calm_spec hy hG).2⟩
    have he : execOp a.eval (Oper.mk dst (.binOp op t x y yt) ty pos af gd) = (do pure (.value (← (do eqGuard op t x y (a.eval x) (a.eval y); binOp op t (a.eval x) (a.eval y))))) := rfl
    refine wpIn_does (by simp) he hs (fun φ => ?_) hn
    have hd : Does κ P φ s.σ g w (binOp op t (a.eval x) (a.eval y)) K := binR_sound h hx hy
    intro hR
    obtain ⟨v, w', g', z, σ', h1, h2⟩ := hd hR
    refine ⟨v, w', g', z, σ', ?_, h2⟩
    rw [Sem.run_bind, eqGuard_run hc.1 hc.2, Result.andThen_ok]
    exact h1
  | unOp op t x =>
    have hx := hev x
    simp only [opR, unR] at h
    split at h
    · rename_i b hc
      rw [hc] at hx
      have hv := hx.raw_eq
      exact wpIn_does (sem := Op.unary .not (a.eval x)) (by simp) rfl hs (fun φ => Does.pure (v := .bool (!b)) (by rw [hv]; rfl) (.raw _) h) hn
    · rename_i k n hc
      rw [hc] at hx
      have hv := hx.raw_eq
      exact wpIn_does (sem := Op.unary .neg (a.eval x)) (by simp) rfl hs (fun φ => Does.pure (v := .int k (k.wrap (0 - n))) (by rw [hv]; simp [Op.unary, Op.intArith]) (.raw _) h) hn
    · exact h.elim
  | convert src dt x => exact wpIn_does (sem := convert src dt (a.eval x)) (by simp) rfl hs (fun φ => convR_sound h (hev x)) hn
  | sliceToArrayPointer t x => exact h.elim
  | makeInterface t x => exact wpIn_does (sem := Instr.makeInterface t (a.eval x)) (by simp) rfl hs (fun φ => Does.of_act h (TR.one (hev x)) rfl) hn
  | makeFunc fn first cap =>
    simp only [opR, mkFuncR] at h
    split at h
    · rename_i f c hf hc
      have e1 := mapM_toV hf _ (ht.map_ev first.toList)
      have e2 := mapM_toV hc _ (ht.map_ev cap.toList)
      have e1' : first.map a.eval = f.toArray := by rw [← e1]; apply Array.ext'; simp
      have e2' : cap.map a.eval = c.toArray := by rw [← e2]; apply Array.ext'; simp
      exact wpIn_does (sem := Instr.makeFunc fn (first.map a.eval) (cap.map a.eval)) (by simp) rfl hs (fun φ => Does.pure (v := .func fn f.toArray c.toArray) (by rw [e1', e2']; rfl) (.raw _) h) hn
    · exact h.elim
  | makeMap t r =>
    cases r with
    | none => exact wpIn_does (sem := Instr.makeMap t none) (by simp) rfl hs (fun φ => Does.of_act h TR.nil rfl) hn
    | some r => exact h.elim
  | makeChan t x => exact h.elim
  | makeSlice t n c => exact wpIn_does (sem := Instr.makeSlice t (a.eval n) (a.eval c)) (by simp) rfl hs (fun φ => Does.of_act h (TR.two (hev n) (hev c)) rfl) hn
  | slice t x lo hi mx => exact wpIn_does (sem := Instr.sliceAt t (a.eval x) (lo.map a.eval) (hi.map a.eval) (mx.map a.eval)) (by simp) rfl hs (fun φ => sliceR_sound h (hev x) (OptR.map_ev ht lo) (OptR.map_ev ht hi) (OptR.map_ev ht mx)) hn
  | fieldAddr t x f => exact wpIn_does (sem := Instr.fieldAt t (a.eval x) f) (by simp) rfl hs (fun φ => fieldAddrR_sound h (hev x)) hn
  | field t x f => exact wpIn_does (sem := Instr.field t (a.eval x) f) (by simp) rfl hs (fun φ => fieldR_sound h (hev x)) hn
  | indexAddr t x i => exact wpIn_does (sem := Instr.indexAt t (a.eval x) (a.eval i)) (by simp) rfl hs (fun φ => idxR_sound h (hev x) (hev i)) hn
  | index t x i => exact wpIn_does (sem := Instr.index t (a.eval x) (a.eval i)) (by simp) rfl hs (fun φ => strIdxR_sound h (hev x) (hev i)) hn
  | lookup t x i ok => exact wpIn_does (sem := Instr.lookup t (a.eval x) (a.eval i) ok) (by simp) rfl hs (fun φ => Does.of_act h (TR.two (hev x) (hev i)) rfl) hn
  | mapUpdate t m k x =>
    exact wpIn_does_unit (K := K) (sem := Instr.mapUpdate t (a.eval m) (a.eval k) (a.eval x)) (by simp) rfl hs (fun φ => Does.of_act h (TR.cons (hev m) (TR.two (hev k) (hev x))) rfl) hn
  | mapEntry t m k => exact h.elim
  | entryStore t m k x => exact h.elim
  | range t x => exact wpIn_does (sem := Instr.range t (a.eval x)) (by simp) rfl hs (fun φ => Does.of_act h (TR.one (hev x)) rfl) hn
  | next it str => exact wpIn_does (sem := Instr.next (a.eval it) str ty) (by simp) rfl hs (fun φ => Does.of_act h (TR.one (hev it)) rfl) hn
  | entry it => exact h.elim
  | typeAssert x xt at_ ok => exact wpIn_does (sem := Instr.typeAssert (a.eval x) xt at_ ok) (by simp) rfl hs (fun φ => Does.of_act h (TR.one (hev x)) rfl) hn
  | extract x i =>
    have hx := hev x
    simp only [opR, extR] at h
    split at h
    · rename_i l hc
      obtain ⟨hlt, hk⟩ := h
      rw [hc] at hx
      generalize hv : a.eval x = v at hx
      cases hx with
      | tup vs hsz hvv =>
      have h0 : l[i]? = some (l[i]'hlt) := List.getElem?_eq_getElem hlt
      have := hvv i _ h0
      have hlt' : i < vs.size := by omega
      refine wpIn_does (sem := Instr.extract (a.eval x) i) (by simp) rfl hs (fun φ => Does.pure (v := vs.getD i undef) (x := l.getD i .any) ?_ ?_ hk) hn
      · simp [hv, Instr.extract, hlt']
      · simpa [List.getD_eq_getElem?_getD, h0] using this
    · exact h.elim
  | call c =>
    obtain ⟨callee, xs, ts⟩ := c
    cases callee with
    | value f => exact call_sound rfl hs h.call hn hp
    | invoke r m => exact h.elim
    | builtin b =>
      have hbx := fun b => builtin_exec (a := a) (o := Oper.mk dst (.call { callee := .builtin b, args := xs, argTypes := ts }) ty pos af gd) (b := b) (xs := xs) (ts := ts) rfl
      have hxs := ht.map_ev xs.toList
      have exs : ((xs.toList.map a.eval).toArray) = xs.map a.eval := by apply Array.ext'; simp
      cases b with
      | len =>
        obtain ⟨h1, h2, h3⟩ := h
        have e1 := one_of_size h1 0
        have e2 := one_of_size h2 (.tmp 0)
        refine wpIn_does (sem := Builtin.len_ #[ts.getD 0 0] ty #[a.eval (xs.getD 0 (.tmp 0))]) (by simp) ?_ hs (fun φ => lenR_sound ty h3 (hev _)) hn
        rw [hbx]
        have e3 : xs.map a.eval = #[a.eval (xs.getD 0 (.tmp 0))] := (congrArg (Array.map a.eval) e2).trans (by simp)
        rw [e3, ← e1]
        rfl
      | cap =>
        obtain ⟨h1, h2, h3⟩ := h
        have e1 := one_of_size h1 0
        have e2 := one_of_size h2 (.tmp 0)
        refine wpIn_does (sem := Builtin.cap_ #[ts.getD 0 0] ty #[a.eval (xs.getD 0 (.tmp 0))]) (by simp) ?_ hs (fun φ => Does.of_act h3 (TR.one (hev _)) rfl) hn
        rw [hbx]
        have e3 : xs.map a.eval = #[a.eval (xs.getD 0 (.tmp 0))] := (congrArg (Array.map a.eval) e2).trans (by simp)
        rw [e3, ← e1]
        rfl
      | append =>
        obtain ⟨h1, h2, h4, h3⟩ := h
        have e1 := two_of_size h1 0
        have e2 := two_of_size h2 (.tmp 0)
        refine wpIn_does (sem := Builtin.append_ #[ts.getD 0 0, ts.getD 0 0] ty #[a.eval (xs.getD 0 (.tmp 0)), a.eval (xs.getD 1 (.tmp 0))]) (by simp) ?_ hs (fun φ => Does.of_act h3 (TR.two (hev _) (hev _)) rfl) hn
        rw [hbx]
        have e3 : xs.map a.eval = #[a.eval (xs.getD 0 (.tmp 0)), a.eval (xs.getD 1 (.tmp 0))] := (congrArg (Array.map a.eval) e2).trans (by simp)
        have e5 : (#[ts.getD 0 0, ts.getD 0 0] : Array TypeId) = ts := (e1.trans (by rw [← h4])).symm
        rw [e3, e5]
        rfl
      | copy =>
        obtain ⟨h2, h3⟩ := h
        have e2 := two_of_size h2 (.tmp 0)
        refine wpIn_does (sem := Builtin.copy_ ts ty #[a.eval (xs.getD 0 (.tmp 0)), a.eval (xs.getD 1 (.tmp 0))]) (by simp) ?_ hs (fun φ => Does.of_act h3 (TR.two (hev _) (hev _)) rfl) hn
        rw [hbx]
        have e3 : xs.map a.eval = #[a.eval (xs.getD 0 (.tmp 0)), a.eval (xs.getD 1 (.tmp 0))] := (congrArg (Array.map a.eval) e2).trans (by simp)
        rw [e3]
        rfl
      | max =>
        refine wpIn_does (sem := Builtin.max_ ts ty (xs.map a.eval)) (by simp) ?_ hs (fun φ => Does.of_act h hxs ?_) hn
        · rw [hbx]; rfl
        · simp only [MA.sem, if_true]; rw [exs]
      | min =>
        refine wpIn_does (sem := Builtin.min_ ts ty (xs.map a.eval)) (by simp) ?_ hs (fun φ => Does.of_act h hxs ?_) hn
        · rw [hbx]; rfl
        · simp only [MA.sem, Bool.false_eq_true, if_false]; rw [exs]
      | _ => exact h.elim
  | go c => exact h.elim
  | defer c => exact h.elim
  | panic x =>
    have hx := hev x
    simp only [opR, panR] at h
    split at h
    · rename_i t v hc
      rw [hc] at hx
      have hv := hx.raw_eq
      refine wpIn_run (by simp) ?_
      have : (execOp a.eval (Oper.mk dst (.panic x) ty pos af gd)).run P w = .halt (.panic (.iface t v)) w := by
        simp [execOp, hv, Instr.panic]
      rw [this, Oper.uponIn_panic]
      obtain ⟨ds, hd, hfr, hR, htt⟩ := hs
      exact hp g w _ s.σ ⟨ds, hd, hfr, hR, htt⟩ (GE.refl _ _) h
    · exact h.elim
  | send x y => exact h.elim
  | recv t x b => exact h.elim
  | select cs b => exact h.elim

end
end Go.Abs
