/-
  The abstract layer, part r: a region that draws its order, walked in the text's order.
-/
import Derived.Test.YtaeacialcbahnaaMq
namespace Go.Abs
open Go.RowKit

section
variable {κ : Ctx} {P : Program} {rd : Option Nat}

/-- What holds of every outcome holds. -/
theorem wpIn_ex {o : Oper} {a : Act} {w : World} {E : Prop} (h : o.wpIn (FD none) 0 P a w (fun _ _ => E) (fun _ _ _ => E)) : E := by
  obtain ⟨_, h⟩ := h
  generalize (o.semAt (FD none).round a.eval).run P w = r at h
  unfold Oper.uponIn at h
  split at h
  · exact h
  · exact h
  · exact h
  · obtain ⟨_, _, h⟩ := h
    obtain ⟨e, w', fr, hr, _⟩ := h [] (room_wide _)
    cases e with
    | returned v => exact hr
    | panicked c => exact hr
    | outgrown => obtain ⟨_, _, h⟩ := hr; exact h
  · obtain ⟨_, h⟩ := h
    obtain ⟨v, w', hr, _⟩ := h (Frame.enter P 0 #[] .normal) [] (room_wide _)
    exact hr
  · obtain ⟨_, _, h⟩ := h
    obtain ⟨e, w', hr, _⟩ := h (Frame.enter P 0 #[] .normal) [] (room_wide _)
    cases e with
    | returned v => exact hr
    | panicked c => exact hr
    | outgrown => obtain ⟨_, _, h⟩ := hr; exact h
  · exact h
  · exact h.elim

theorem cond_elim {b : Bool} {X Y Z : Prop} (h : Cond b X Y) (h1 : X → Z) (h2 : Y → Z) : Z := by
  cases b with
  | true => exact h1 (h.1 rfl)
  | false => exact h2 (h.2 rfl)

theorem opsR_ex {all : List Oper} {Q : Exit → St → Prop} {φ : List Res} : ∀ (l : List Oper) (s : St) (g : Nat → Nat) (a : Act) (w : World), opsR κ false P all Q l s → SR κ φ g s a w → ∃ e s', Q e s'
  | [], s, g, a, w, h, _ => ⟨_, _, h⟩
  | o :: rest, s, g, a, w, h, hs => by
    have yes : opR κ false P o s (fun x σ' => opsR κ false P all Q rest { s with t := setT s.t o.dst x, σ := σ' }) (fun c σ' => Q (.panic c) { s with σ := σ' }) → ∃ e s', Q e s' := fun h =>
      wpIn_ex (P := P) (a := a) (w := w) (opR_sound (rd := none) h hs (fun g' a' w' x σ' hs' _ hk => opsR_ex rest _ g' a' w' hk hs') (fun g' w' c σ' _ _ hk => ⟨_, _, hk⟩))
    simp only [opsR, guardR] at h
    split at h
    · exact yes h
    · split at h
      · split at h
        · exact cond_elim h yes (fun h => opsR_ex rest _ g _ w h (hs.skip o.dst))
        · exact opsR_ex rest _ g _ w h (hs.skip o.dst)
        · exact h.elim
      · exact h.elim

/-- Behind the first operations of a region that draws: they have one value each, whatever is done first; the rest goes on. -/
def drawQ (κ : Ctx) (P : Program) (l : List Oper) (Q : Exit → St → Prop) (nA : Nat) (t : List AV) (σ : List Res) (fr : Bool) (df : List Deferred) (e : Exit) (s : St) : Prop :=
  e = .normal ∧ s = ⟨s.t, σ, fr, df⟩ ∧ blank ((l.take nA).map (·.dst)) s.t = blank ((l.take nA).map (·.dst)) t ∧ idem κ P l s.t σ fr df (l.take nA) ∧ opsR κ false P l Q (l.drop nA) ⟨s.t, σ, fr, df⟩

theorem drawQ_mk {l : List Oper} {Q : Exit → St → Prop} {nA : Nat} {t t' : List AV} {σ : List Res} {fr : Bool} {df : List Deferred} (h1 : blank ((l.take nA).map (·.dst)) t' = blank ((l.take nA).map (·.dst)) t)
    (h2 : idem κ P l t' σ fr df (l.take nA)) (h3 : opsR κ false P l Q (l.drop nA) ⟨t', σ, fr, df⟩) : drawQ κ P l Q nA t σ fr df .normal ⟨t', σ, fr, df⟩ := ⟨rfl, rfl, h1, h2, h3⟩

theorem AW_drawA {id : Nat} {l : List Oper} {Q : Exit → St → Prop} {t : List AV} {σ : List Res} {fr : Bool} {df : List Deferred} (nA : Nat) (hm : P.follows .mixedOrders = true) (hok : drawOk l nA = true)
    (h : opsR κ false P l (drawQ κ P l Q nA t σ fr df) (l.take nA) ⟨t, σ, fr, df⟩) : AW κ rd P (.region id l.toArray true) Q ⟨t, σ, fr, df⟩ := by
  intro φ g a w hs
  obtain ⟨e, s', rfl, hs', hbl, hid, hrest⟩ := opsR_ex _ _ _ _ _ h hs
  exact AW_draw nA s'.t hm hok hbl hid hrest φ g a w hs

theorem isF_mk {tF t : List AV} {σ : List Res} {fr : Bool} {df : List Deferred} (h : t = tF) : isF tF σ fr df .normal ⟨t, σ, fr, df⟩ := ⟨rfl, by rw [h]⟩

/-- A cut: what is known ahead of what follows. -/
theorem run_cut {X : Type} (st : X → St) (C : X → Prop) {a b : Code} {Q : Exit → St → Prop} {s : St} (h1 : run κ P rd a (thenQ (fun s' => ∃ x, s'.le (st x) ∧ C x) Q) s) (h2 : ∀ x, C x → AW κ rd P b Q (st x)) : AW κ rd P (.seq a b) Q s := by
  intro φ g act w hs
  refine wpIn_seq (wpIn_mono (run_sound a _ s h1 φ g act w hs) ?_)
  rintro e a' w' ⟨g', s', hs', hge, hq⟩
  cases e with
  | normal =>
    obtain ⟨x, hle, hC⟩ := hq
    exact wpIn_mono (h2 x hC φ g' a' w' (hs'.le hle)) (fun e a2 w2 hp => hp.mono hge)
  | exit id => exact ⟨g', s', hs', hge, hq⟩
  | goto id => exact ⟨g', s', hs', hge, hq⟩
  | ret => exact ⟨g', s', hs', hge, hq⟩
  | panic ch => exact ⟨g', s', hs', hge, hq⟩
  | outgrown => exact ⟨g', s', hs', hge, hq⟩

theorem idem_nil {all : List Oper} {t : List AV} {σ : List Res} {fr : Bool} {df : List Deferred} : idem κ P all t σ fr df [] := trivial
theorem idem_cons {all l : List Oper} {o : Oper} {t : List AV} {σ : List Res} {fr : Bool} {df : List Deferred} (h1 : opsR κ false P all (isF t σ fr df) [o] ⟨t, σ, fr, df⟩) (h2 : idem κ P all t σ fr df l) : idem κ P all t σ fr df (o :: l) := ⟨h1, h2⟩

/-! ### Results may be told weaker -/
/-- One value told weaker: a tuple's and a struct's parts, too. -/
def AV.leT (x y : AV) : Prop := x.le y ∨ (∃ xs ys, x = .tup xs ∧ y = .tup ys ∧ leL xs ys) ∨ ∃ xs ys, x = .agg xs ∧ y = .agg ys ∧ leL xs ys

theorem VR.leT {g : Nat → Nat} {w : World} {x y : AV} {v : Value} (h : x.leT y) (hv : VR g w x v) : VR g w y v := by
  rcases h with h | ⟨xs, ys, rfl, rfl, h⟩ | ⟨xs, ys, rfl, rfl, h⟩
  · exact hv.le h
  · cases hv with
    | tup vs hs hv =>
    have := TR.le (vs := vs) ⟨hs, hv⟩ (leL_len h) (leL_get h)
    exact .tup vs this.size this.get
  · cases hv with
    | agg vs hs hv =>
    have := TR.le (vs := vs) ⟨hs, hv⟩ (leL_len h) (leL_get h)
    exact .agg vs this.size this.get

def Ret.le : Ret → Ret → Prop
  | .ret x, .ret y => x.leT y
  | .pan c, .pan d => c = d
  | _, _ => False

/-- What is left over may be let go, and the result told weaker. -/
def DropL (K : Ret → List Res → Prop) : Ret → List Res → Prop := fun r σ' => ∃ (ρ : List Res) (r' : Ret), Sub ρ σ' ∧ r.le r' ∧ K r' ρ

theorem dropL_post {K : Ret → List Res → Prop} {φ : List Res} {g : Nat → Nat} {w : World} {e : Ending} {w' : World} (h : CPost κ φ g w (DropL K) e w') : CPost κ φ g w K e w' := by
  obtain ⟨g', σ', r, h1, h2, h3, ρ, r', ⟨τ, p, q⟩, hle, h4⟩ := h
  refine ⟨g', ρ, r', (h1.sub ((List.Sublist.refl φ).append q)).perm (p.append_left φ), h2, ?_, h4⟩
  cases r with
  | ret x =>
    cases r' with
    | pan c => exact hle.elim
    | ret y =>
      cases e with
      | returned v => exact VR.leT hle h3
      | panicked c => exact h3.elim
      | outgrown => exact h3.elim
  | pan c =>
    cases r' with
    | ret y => exact hle.elim
    | pan d => cases (show c = d from hle); exact h3

theorem ACallF.dropL {f : FuncId} {args : List AV} {σ : List Res} {K : Ret → List Res → Prop} (h : ACallF κ P f args σ (DropL K)) : ACallF κ P f args σ K :=
  fun φ g w vs hR hv => CallsIn.mono (h φ g w vs hR hv) fun _ _ => dropL_post

/-- A leaf of a walk: what is told is what is asked. -/
theorem leafL {K : Ret → List Res → Prop} {σ σ' : List Res} {x y : AV} (hs : Sub σ σ') (h : x.leT y) (hK : K (.ret y) σ) : DropL K (.ret x) σ' := ⟨σ, .ret y, hs, h, hK⟩
theorem leafP {K : Ret → List Res → Prop} {σ σ' : List Res} {c d : List PanicEntry} (hs : Sub σ σ') (h : c = d) (hK : K (.pan d) σ) : DropL K (.pan c) σ' := ⟨σ, .pan d, hs, h, hK⟩
theorem leT_le {x y : AV} (h : x.le y) : x.leT y := .inl h
theorem leT_eq {x y : AV} (h : x = y) : x.leT y := .inl (.inr (.inl h.symm))
theorem leT_tup {xs ys : List AV} (h : leL xs ys) : (AV.tup xs).leT (.tup ys) := .inr (.inl ⟨_, _, rfl, rfl, h⟩)
theorem leT_agg {xs ys : List AV} (h : leL xs ys) : (AV.agg xs).leT (.agg ys) := .inr (.inr ⟨_, _, rfl, rfl, h⟩)
end
end Go.Abs
