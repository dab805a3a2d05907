/-
  Texts Ms, Mt, Mu, Mv, one behind the other.
-/
import Derived.Test.YtaeacialcbahnaaG3
import Derived.Laws.MakeOwn
import Derived.Laws.CopyRow
/-
  The abstract layer, part s: a region that draws its order, walked once: each operation ahead has one value and turns nothing.
-/

namespace Go.Abs
open Go.RowKit

section
variable {κ : Ctx} {P : Program} {rd : Option Nat} {σ : List Res} {K : AV → List Res → Prop}

theorem okV_det {v : Option Value} {K : AV → List Res → Prop} (h : okV v fun x => K x σ) : ∃ x, (∀ K' : AV → List Res → Prop, K' x σ → okV v fun y => K' y σ) ∧ K x σ := by
  cases v with
  | none => exact h.elim
  | some v => exact ⟨_, fun _ hk => hk, h⟩

theorem isA_self {x : AV} : isA x σ x σ := ⟨rfl, rfl⟩

theorem actM_det {m : MA} {xs : List AV} (h : actM κ true P m xs σ K) : ∃ v, (∀ K' : AV → List Res → Prop, K' v σ → actM κ false P m xs σ K') ∧ K v σ := by
  obtain ⟨x, h1, h2⟩ := h
  exact ⟨x, fun K' hk => AAct.mono h1 (fun y σ' hy => by obtain ⟨rfl, rfl⟩ := hy; exact hk), h2⟩

theorem binR_det {op : BinOp} {t : TypeId} {x y : AV} (h : binR κ true P op t x y σ K) : ∃ v, (∀ K' : AV → List Res → Prop, K' v σ → binR κ false P op t x y σ K') ∧ K v σ := by
  unfold binR at h ⊢
  split at h
  · split at h
    · obtain ⟨v, h1, h2⟩ := okV_det h; exact ⟨v, h1, h2⟩
    · obtain ⟨v, h1, h2⟩ := okV_det h; exact ⟨v, h1, h2⟩
    · rename_i n1 n2
      obtain ⟨he, h⟩ := h
      obtain ⟨v, h1, h2⟩ := okV_det h
      refine ⟨v, ?_, h2⟩
      intro K' hk
      cases op <;> first | exact ⟨he, h1 K' hk⟩ | exact (n1 rfl).elim | exact (n2 rfl).elim
  · exact okV_det h
  · split at h
    · exact ⟨_, fun _ hk => ⟨h.1, hk⟩, h.2⟩
    · exact ⟨_, fun _ hk => ⟨h.1, hk⟩, h.2⟩
    · exact h.elim
  · split at h
    · obtain ⟨h1, ⟨h2, h3⟩ | ⟨h2, _⟩⟩ := h
      · exact ⟨_, fun _ hk => ⟨h1, .inl ⟨h2, hk⟩⟩, h3⟩
      · cases h2
    · obtain ⟨h1, ⟨h2, h3⟩ | ⟨h2, _⟩⟩ := h
      · exact ⟨_, fun _ hk => ⟨h1, .inl ⟨h2, hk⟩⟩, h3⟩
      · cases h2
    · exact h.elim
  · split at h
    · exact ⟨_, fun _ hk => ⟨h.1, hk⟩, h.2⟩
    · exact ⟨_, fun _ hk => ⟨h.1, hk⟩, h.2⟩
    · exact h.elim
  · rename_i n1 n2 n3 n4 n5
    obtain ⟨v, h1, h2⟩ := actM_det h
    exact ⟨v, h1, h2⟩

theorem lenR_det {t : TypeId} {x : AV} (h : lenR κ true P t x σ K) : ∃ v, (∀ K' : AV → List Res → Prop, K' v σ → lenR κ false P t x σ K') ∧ K v σ := by
  unfold lenR at h ⊢
  split at h
  · exact ⟨_, fun _ hk => ⟨h.1, hk⟩, h.2⟩
  · exact ⟨_, fun _ hk => ⟨h.1, hk⟩, h.2⟩
  · exact ⟨_, fun _ hk => ⟨h.1, hk⟩, h.2⟩
  · rename_i n1 n2 n3
    obtain ⟨v, h1, h2⟩ := actM_det h
    exact ⟨v, h1, h2⟩

theorem loadR_det {t : TypeId} {x : AV} (h : loadR κ true P t x σ K) : ∃ v, (∀ K' : AV → List Res → Prop, K' v σ → loadR κ false P t x σ K') ∧ K v σ := by
  unfold loadR at h ⊢
  split at h
  · cases ha : aggT P t with
    | none => simp only [ha] at h
    | some b =>
      cases hs : szT P t with
      | none => cases b <;> simp only [ha, hs] at h
      | some n =>
        cases b
        · simp only [ha, hs] at h ⊢; exact ⟨_, fun _ hk => ⟨h.1, hk⟩, h.2⟩
        · simp only [ha, hs] at h ⊢; exact ⟨_, fun _ hk => ⟨h.1, hk⟩, h.2⟩
  · rename_i n1
    obtain ⟨v, h1, h2⟩ := actM_det h
    exact ⟨v, h1, h2⟩

theorem fieldAddrR_det {t : TypeId} {x : AV} {f : Nat} (h : fieldAddrR κ true P t x f σ K) : ∃ v, (∀ K' : AV → List Res → Prop, K' v σ → fieldAddrR κ false P t x f σ K') ∧ K v σ := by
  unfold fieldAddrR at h ⊢
  split at h
  · cases hf : fldT P t f with
    | none => simp only [hf] at h
    | some p => simp only [hf] at h ⊢; exact ⟨_, fun _ hk => ⟨h.1, h.2.1, hk⟩, h.2.2⟩
  · cases hf : fldT P t f with
    | none => simp only [hf] at h
    | some p => simp only [hf] at h ⊢; exact ⟨_, fun _ hk => ⟨h.1, hk⟩, h.2⟩
  · rename_i n1 n2
    obtain ⟨v, h1, h2⟩ := actM_det h
    exact ⟨v, h1, h2⟩

theorem fieldR_det {t : TypeId} {x : AV} {f : Nat} (h : fieldR κ true P t x f σ K) : ∃ v, (∀ K' : AV → List Res → Prop, K' v σ → fieldR κ false P t x f σ K') ∧ K v σ := by
  unfold fieldR at h ⊢
  split at h
  · cases hf : fldT P t f with
    | none => simp only [hf] at h
    | some p =>
      obtain ⟨off, ft⟩ := p
      simp only [hf] at h ⊢
      cases ha : aggT P ft with
      | none => simp only [ha] at h
      | some b =>
        cases hs : szT P ft with
        | none => cases b <;> simp only [ha, hs] at h
        | some n =>
          cases b
          · simp only [ha, hs] at h ⊢; exact ⟨_, fun _ hk => ⟨h.1, hk⟩, h.2⟩
          · simp only [ha, hs] at h ⊢; exact ⟨_, fun _ hk => hk, h⟩
  · rename_i n1
    obtain ⟨v, h1, h2⟩ := actM_det h
    exact ⟨v, h1, h2⟩

theorem idxR_det {t : TypeId} {x i : AV} (h : idxR κ true P t x i σ K) : ∃ v, (∀ K' : AV → List Res → Prop, K' v σ → idxR κ false P t x i σ K') ∧ K v σ := by
  unfold idxR at h ⊢
  split at h
  · exact ⟨_, fun _ hk => ⟨h.1, h.2.1, h.2.2.1, hk⟩, h.2.2.2⟩
  · rename_i n1
    obtain ⟨v, h1, h2⟩ := actM_det h
    exact ⟨v, h1, h2⟩

theorem strIdxR_det {t : TypeId} {x i : AV} (h : strIdxR κ true P t x i σ K) : ∃ v, (∀ K' : AV → List Res → Prop, K' v σ → strIdxR κ false P t x i σ K') ∧ K v σ := by
  unfold strIdxR at h ⊢
  split at h
  · exact ⟨_, fun _ hk => ⟨h.1, h.2.1, h.2.2.1, hk⟩, h.2.2.2⟩
  · rename_i n1
    obtain ⟨v, h1, h2⟩ := actM_det h
    exact ⟨v, h1, h2⟩

theorem sliceR_det {t : TypeId} {x : AV} {lo hi mx : Option AV} (h : sliceR κ true P t x lo hi mx σ K) : ∃ v, (∀ K' : AV → List Res → Prop, K' v σ → sliceR κ false P t x lo hi mx σ K') ∧ K v σ := by
  unfold sliceR at h ⊢
  split at h
  · rename_i sz o l
    cases ha : loN lo with
    | none => simp only [ha] at h
    | some a =>
      cases hb : hiN l.length hi with
      | none => simp only [ha, hb] at h
      | some b => simp only [ha, hb] at h ⊢; exact ⟨_, fun _ hk => ⟨h.1, h.2.1, h.2.2.1, h.2.2.2.1, hk⟩, h.2.2.2.2⟩
  · cases ha : loN lo with
    | none => simp only [ha] at h
    | some a =>
      cases hb : hiN 0 hi with
      | none => simp only [ha, hb] at h
      | some b => simp only [ha, hb] at h ⊢; exact ⟨_, fun _ hk => ⟨h.1, h.2.1, h.2.2.1, hk⟩, h.2.2.2⟩
  · rename_i s
    cases ha : loN lo with
    | none => simp only [ha] at h
    | some a =>
      cases hb : hiN s.size hi with
      | none => simp only [ha, hb] at h
      | some b => simp only [ha, hb] at h ⊢; exact ⟨_, fun _ hk => ⟨h.1, h.2.1, h.2.2.1, h.2.2.2.1, hk⟩, h.2.2.2.2⟩
  · rename_i n1 n2 n3
    obtain ⟨v, h1, h2⟩ := actM_det h
    exact ⟨v, h1, h2⟩

theorem convR_det {a b : TypeId} {x : AV} (h : convR κ true P a b x σ K) : ∃ v, (∀ K' : AV → List Res → Prop, K' v σ → convR κ false P a b x σ K') ∧ K v σ := by
  unfold convR at h ⊢
  split at h
  · cases hi : intT P b with
    | none => simp only [hi] at h ⊢; exact actM_det h
    | some k => simp only [hi] at h ⊢; exact ⟨_, fun _ hk => ⟨h.1, hk⟩, h.2⟩
  · rename_i n1
    obtain ⟨v, h1, h2⟩ := actM_det h
    exact ⟨v, h1, h2⟩

theorem opR_det {o : Oper} {s : St} {K : AV → List Res → Prop} {KP : List PanicEntry → List Res → Prop} (h : opR κ true P o s K KP) (hp : ∀ c σ', ¬ KP c σ') : ∃ x, (∀ (K' : AV → List Res → Prop) (KP' : List PanicEntry → List Res → Prop), K' x s.σ → opR κ false P o s K' KP') ∧ K x s.σ := by
  obtain ⟨dst, op, ty, pos, af, gd⟩ := o
  cases op with
  | move x => exact ⟨_, fun _ _ hk => hk, h⟩
  | assign x => exact ⟨_, fun _ _ hk => hk, h⟩
  | pick c x y =>
    simp only [opR, pickR] at h ⊢
    split at h
    · exact ⟨_, fun _ _ hk => hk, h⟩
    · exact h.elim
  | binOp b t x y u =>
    simp only [opR] at h ⊢
    obtain ⟨v, h1, h2⟩ := binR_det h.2
    exact ⟨v, fun K' _ hk => ⟨h.1, h1 K' hk⟩, h2⟩
  | unOp b t x =>
    simp only [opR, unR] at h ⊢
    split at h
    · exact ⟨_, fun _ _ hk => hk, h⟩
    · exact ⟨_, fun _ _ hk => hk, h⟩
    · exact h.elim
  | extract x i =>
    simp only [opR, extR] at h ⊢
    split at h
    · exact ⟨_, fun _ _ hk => ⟨h.1, hk⟩, h.2⟩
    · exact h.elim
  | load t x => (obtain ⟨v, h1, h2⟩ := loadR_det h; exact ⟨v, fun K' _ hk => h1 K' hk, h2⟩)
  | store t x y =>
    obtain ⟨v, h1, h2⟩ := actM_det (κ := κ) (P := P) h
    exact ⟨.any, fun K' _ hk => h1 (fun _ σ' => K' .any σ') hk, h2⟩
  | alloc t => (obtain ⟨v, h1, h2⟩ := actM_det h; exact ⟨v, fun K' _ hk => h1 K' hk, h2⟩)
  | box t x => (obtain ⟨v, h1, h2⟩ := actM_det h; exact ⟨v, fun K' _ hk => h1 K' hk, h2⟩)
  | build t ps => (obtain ⟨v, h1, h2⟩ := actM_det h; exact ⟨v, fun K' _ hk => h1 K' hk, h2⟩)
  | buildSlice t n ps => (obtain ⟨v, h1, h2⟩ := actM_det h; exact ⟨v, fun K' _ hk => h1 K' hk, h2⟩)
  | fieldAddr t x f => (obtain ⟨v, h1, h2⟩ := fieldAddrR_det h; exact ⟨v, fun K' _ hk => h1 K' hk, h2⟩)
  | field t x f => (obtain ⟨v, h1, h2⟩ := fieldR_det h; exact ⟨v, fun K' _ hk => h1 K' hk, h2⟩)
  | indexAddr t x y => (obtain ⟨v, h1, h2⟩ := idxR_det h; exact ⟨v, fun K' _ hk => h1 K' hk, h2⟩)
  | index t x y => (obtain ⟨v, h1, h2⟩ := strIdxR_det h; exact ⟨v, fun K' _ hk => h1 K' hk, h2⟩)
  | slice t x lo hi mx => (obtain ⟨v, h1, h2⟩ := sliceR_det h; exact ⟨v, fun K' _ hk => h1 K' hk, h2⟩)
  | convert a b x => (obtain ⟨v, h1, h2⟩ := convR_det h; exact ⟨v, fun K' _ hk => h1 K' hk, h2⟩)
  | makeFunc f a b =>
    simp only [opR, mkFuncR] at h ⊢
    split at h
    · exact ⟨_, fun _ _ hk => hk, h⟩
    · exact h.elim
  | makeSlice t x y => (obtain ⟨v, h1, h2⟩ := actM_det h; exact ⟨v, fun K' _ hk => h1 K' hk, h2⟩)
  | lookup t x y b => (obtain ⟨v, h1, h2⟩ := actM_det h; exact ⟨v, fun K' _ hk => h1 K' hk, h2⟩)
  | mapUpdate t x y z =>
    obtain ⟨v, h1, h2⟩ := actM_det (κ := κ) (P := P) h
    exact ⟨.any, fun K' _ hk => h1 (fun _ σ' => K' .any σ') hk, h2⟩
  | makeMap t r =>
    cases r with
    | none => (obtain ⟨v, h1, h2⟩ := actM_det h; exact ⟨v, fun K' _ hk => h1 K' hk, h2⟩)
    | some r => exact h.elim
  | typeAssert x a b c => (obtain ⟨v, h1, h2⟩ := actM_det h; exact ⟨v, fun K' _ hk => h1 K' hk, h2⟩)
  | range t x => (obtain ⟨v, h1, h2⟩ := actM_det h; exact ⟨v, fun K' _ hk => h1 K' hk, h2⟩)
  | next x b => (obtain ⟨v, h1, h2⟩ := actM_det h; exact ⟨v, fun K' _ hk => h1 K' hk, h2⟩)
  | makeInterface t x => (obtain ⟨v, h1, h2⟩ := actM_det h; exact ⟨v, fun K' _ hk => h1 K' hk, h2⟩)
  | nilCheck x =>
    simp only [opR, nilR] at h ⊢
    split at h
    · exact ⟨_, fun _ _ hk => hk, h⟩
    · exact ⟨_, fun _ _ hk => hk, h⟩
    · exact ⟨_, fun _ _ hk => hk, h⟩
    · exact ⟨_, fun _ _ hk => hk, h⟩
    · exact h.elim
  | panic x =>
    simp only [opR, panR] at h
    split at h
    · exact (hp _ _ h).elim
    · exact h.elim
  | call c =>
    obtain ⟨callee, xs, ts⟩ := c
    cases callee with
    | value f =>
      obtain ⟨x, h1, h2⟩ := h
      refine ⟨x, fun K' KP' hk => ?_, h2⟩
      simp only [opR, callM]
      have hm : ∀ (r : Ret) (σ' : List Res), (r = .ret x ∧ σ' = s.σ) → retK K' KP' r σ' := by
        rintro r σ' ⟨rfl, rfl⟩; exact hk
      unfold ACallV at h1 ⊢
      split at h1
      · refine ⟨h1.1, fun φ g w vs hR hv => CallsIn.mono (h1.2 φ g w vs hR hv) ?_⟩
        rintro e w' ⟨g', σ', r, a, b, c, d⟩
        exact ⟨g', σ', r, a, b, c, hm _ _ d⟩
      · intro φ g w vs hR hv
        obtain ⟨f, tmps, assign, body, k1, k2⟩ := h1 φ g w vs hR hv
        refine ⟨f, tmps, assign, body, k1, RoundIn.mono k2 ?_⟩
        rintro e w' ⟨g', σ', r, a, b, c, d⟩
        exact ⟨g', σ', r, a, b, c, hm _ _ d⟩
      · exact h1.elim
    | invoke r m => exact h.elim
    | builtin b =>
      cases b with
      | len =>
        obtain ⟨h1, h2, h3⟩ := h
        obtain ⟨v, k1, k2⟩ := lenR_det h3
        exact ⟨v, fun K' _ hk => ⟨h1, h2, k1 K' hk⟩, k2⟩
      | cap =>
        obtain ⟨h1, h2, h3⟩ := h
        obtain ⟨v, k1, k2⟩ := actM_det h3
        exact ⟨v, fun K' _ hk => ⟨h1, h2, k1 K' hk⟩, k2⟩
      | append =>
        obtain ⟨h1, h2, h4, h3⟩ := h
        obtain ⟨v, k1, k2⟩ := actM_det h3
        exact ⟨v, fun K' _ hk => ⟨h1, h2, h4, k1 K' hk⟩, k2⟩
      | copy =>
        obtain ⟨h1, h3⟩ := h
        obtain ⟨v, k1, k2⟩ := actM_det h3
        exact ⟨v, fun K' _ hk => ⟨h1, k1 K' hk⟩, k2⟩
      | max => (obtain ⟨v, h1, h2⟩ := actM_det h; exact ⟨v, fun K' _ hk => h1 K' hk, h2⟩)
      | min => (obtain ⟨v, h1, h2⟩ := actM_det h; exact ⟨v, fun K' _ hk => h1 K' hk, h2⟩)
      | _ => exact h.elim
  | _ => exact h.elim

/-- One operation at its place: skipped, or with one value. -/
theorem guard_det {all : List Oper} {o : Oper} {s : St} {K : AV → List Res → Prop} {KP : List PanicEntry → List Res → Prop} {Y : Prop} (h : guardR all o s (opR κ true P o s K KP) Y) (hp : ∀ c σ', ¬ KP c σ') :
    ∃ x, guardR all o s (∀ (K' : AV → List Res → Prop) (KP' : List PanicEntry → List Res → Prop), K' x s.σ → opR κ false P o s K' KP') (x = U) ∧ (K x s.σ ∨ (x = U ∧ Y)) := by
  unfold guardR at h ⊢
  split at h
  · rename_i hg
    obtain ⟨x, h1, h2⟩ := opR_det h hp
    exact ⟨x, h1, .inl h2⟩
  · rename_i j want hg
    cases hd : (all[j]?).bind (·.dst) with
    | none => rw [hd] at h; exact h.elim
    | some d =>
      rw [hd] at h
      simp only at h ⊢
      split at h
      · rename_i b hb
        cases hbw : (b == want) with
        | true =>
          obtain ⟨x, h1, h2⟩ := opR_det (h.1 hbw) hp
          exact ⟨x, ⟨fun _ => h1, fun e => (by cases e)⟩, .inl h2⟩
        | false => exact ⟨U, ⟨fun e => (by cases e), fun _ => rfl⟩, .inr ⟨rfl, h.2 hbw⟩⟩
      · exact ⟨U, rfl, .inr ⟨rfl, h⟩⟩
      · exact h.elim

/-- What the first operations of a region that draws come to. -/
def dmQ (κ : Ctx) (P : Program) (l : List Oper) (Q : Exit → St → Prop) (nA : Nat) (σ : List Res) (fr : Bool) (df : List Deferred) (e : Exit) (s : St) : Prop :=
  e = .normal ∧ s.σ = σ ∧ opsR κ false P l Q (l.drop nA) ⟨s.t, σ, fr, df⟩

theorem dmQ_mk {l : List Oper} {Q : Exit → St → Prop} {nA : Nat} {t : List AV} {σ : List Res} {fr fr' : Bool} {df df' : List Deferred} (h : opsR κ false P l Q (l.drop nA) ⟨t, σ, fr, df⟩) : dmQ κ P l Q nA σ fr df .normal ⟨t, σ, fr', df'⟩ := ⟨rfl, rfl, h⟩

theorem setT_length (t : List AV) (d : Option Tmp) (x : AV) : (setT t d x).length = t.length := by cases d <;> simp [setT]
theorem setT_other {t : List AV} {d : Option Tmp} {x : AV} {k : Nat} (h : d ≠ some k) : (setT t d x)[k]? = t[k]? := by
  cases d with
  | none => rfl
  | some d =>
    have : d ≠ k := fun e => h (by rw [e])
    simp [setT, List.getElem?_set_ne this]

/-- The walk of the first operations, told: where it ends, and what each one asked there. -/
theorem ops_det {all : List Oper} {Q : Exit → St → Prop} (hQ : ∀ c s, ¬ Q (.panic c) s) : ∀ (l : List Oper) (s : St), opsR κ true P all Q l s →
    ∃ ts : Nat → List AV, ts 0 = s.t ∧ Q .normal { s with t := ts l.length } ∧ ∀ i o, l[i]? = some o → ∃ x, ts (i + 1) = setT (ts i) o.dst x ∧ guardR all o { s with t := ts i } (∀ (K' : AV → List Res → Prop) (KP' : List PanicEntry → List Res → Prop), K' x s.σ → opR κ false P o { s with t := ts i } K' KP') (x = U)
  | [], s, h => ⟨fun _ => s.t, rfl, h, fun i o hi => by simp at hi⟩
  | o :: l, s, h => by
    simp only [opsR] at h
    obtain ⟨x, h1, h2⟩ := guard_det h (fun c σ' => hQ c _)
    have h3 : opsR κ true P all Q l { s with t := setT s.t o.dst x } := by
      rcases h2 with h2 | ⟨rfl, h2⟩
      · exact h2
      · exact h2
    obtain ⟨ts, e1, e2, e3⟩ := ops_det hQ l _ h3
    refine ⟨fun n => match n with | 0 => s.t | n + 1 => ts n, rfl, ?_, ?_⟩
    · simpa using e2
    · intro i o' hi
      match i, hi with
      | 0, hi =>
        simp at hi
        subst hi
        exact ⟨x, e1, h1⟩
      | i + 1, hi =>
        simp only [List.getElem?_cons_succ] at hi
        exact e3 i o' hi

theorem AW_drawM {id : Nat} {l : List Oper} {Q : Exit → St → Prop} {t : List AV} {σ : List Res} {fr : Bool} {df : List Deferred} (nA : Nat) (hm : P.follows .mixedOrders = true) (hok : drawOk l nA = true)
    (h : opsR κ true P l (dmQ κ P l Q nA σ fr df) (l.take nA) ⟨t, σ, fr, df⟩) : AW κ rd P (.region id l.toArray true) Q ⟨t, σ, fr, df⟩ := by
  obtain ⟨ts, e1, e2, e3⟩ := ops_det (fun c s hc => by cases hc.1) _ _ h
  obtain ⟨_, _, hrest⟩ := e2
  simp only at hrest e1
  have hok' := hok
  unfold drawOk at hok
  simp only [Bool.and_eq_true] at hok
  obtain ⟨⟨⟨⟨c1, c2⟩, c3⟩, c4⟩, c5⟩ := hok
  have hnA : nA ≤ l.length := by simpa using c5
  have hlen : (l.take nA).length = nA := by simp; omega
  rw [hlen] at hrest
  have hlt : ∀ i o, l[i]? = some o → ∀ j ∈ predsOf o, j < i := by
    intro i o ho j hj
    have := List.all_eq_true.1 c1 (o, i) (List.mem_iff_getElem?.2 ⟨i, by simp [List.getElem?_zipIdx, ho]⟩)
    simpa using List.all_eq_true.1 this j hj
  have hA : ∀ i o, l[i]? = some o → i < nA → (l.take nA)[i]? = some o := fun i o ho hi => by rw [List.getElem?_take_of_lt hi]; exact ho
  have hA' : ∀ i o, (l.take nA)[i]? = some o → l[i]? = some o ∧ i < nA := fun i o ho => by
    have hi : i < nA := by rw [← hlen]; exact lt_of_get ho
    rw [List.getElem?_take_of_lt hi] at ho
    exact ⟨ho, hi⟩
  have hsee : ∀ i o, l[i]? = some o → i < nA → ∀ k ∈ o.looksAt l.toArray, ∀ j o', l[j]? = some o' → o'.dst = some k → j ∈ predsOf o := by
    intro i o ho hi k hk j o' ho' hd
    have := List.all_eq_true.1 c2 o (List.mem_of_getElem? (hA i o ho hi))
    simp only [Bool.and_eq_true] at this
    have := List.all_eq_true.1 this.2 k hk
    have := List.all_eq_true.1 this (o', j) (List.mem_iff_getElem?.2 ⟨j, by simp [List.getElem?_zipIdx, ho']⟩)
    simpa [hd] using this
  have hdst : ∀ i o, l[i]? = some o → i < nA → ∃ d, o.dst = some d := by
    intro i o ho hi
    have := List.all_eq_true.1 c2 o (List.mem_of_getElem? (hA i o ho hi))
    simp only [Bool.and_eq_true] at this
    exact Option.isSome_iff_exists.1 this.1
  have huniq : ∀ i o j o', l[i]? = some o → i < nA → l[j]? = some o' → j < nA → o.dst = o'.dst → i = j := by
    intro i o j o' ho hi ho' hj he
    have h1 := List.all_eq_true.1 c3 (o, i) (List.mem_iff_getElem?.2 ⟨i, by simp [List.getElem?_zipIdx, hA i o ho hi]⟩)
    have h2 := List.all_eq_true.1 h1 (o', j) (List.mem_iff_getElem?.2 ⟨j, by simp [List.getElem?_zipIdx, hA j o' ho' hj]⟩)
    simpa [he] using h2
  -- lengths, and slots that no later operation writes
  have tlen : ∀ i, i ≤ nA → (ts i).length = t.length := by
    intro i
    induction i with
    | zero => intro _; rw [e1]
    | succ i ih =>
      intro hi
      obtain ⟨x, hx, _⟩ := e3 i _ (List.getElem?_eq_getElem (by rw [hlen]; omega))
      rw [hx, setT_length, ih (by omega)]
  have keep : ∀ n i, i + n ≤ nA → ∀ k, (∀ j o, i ≤ j → j < i + n → l[j]? = some o → o.dst ≠ some k) → (ts (i + n))[k]? = (ts i)[k]? := by
    intro n
    induction n with
    | zero => intro i _ k _; rfl
    | succ n ih =>
      intro i hi k hk
      have hg : (l.take nA)[i + n]? = some ((l.take nA)[i + n]'(by rw [hlen]; omega)) := List.getElem?_eq_getElem _
      obtain ⟨x, hx, _⟩ := e3 (i + n) _ hg
      have := setT_other (t := ts (i + n)) (x := x) (hk (i + n) _ (by omega) (by omega) (hA' _ _ hg).1)
      rw [← Nat.add_assoc, hx, this]
      exact ih i (by omega) k (fun j o h1 h2 => hk j o h1 (by omega))
  have keepF : ∀ i, i ≤ nA → ∀ k, (∀ j o, i ≤ j → j < nA → l[j]? = some o → o.dst ≠ some k) → (ts nA)[k]? = (ts i)[k]? := by
    intro i hi k hk
    have := keep (nA - i) i (by omega) k (fun j o h1 h2 => hk j o h1 (by omega))
    rwa [show i + (nA - i) = nA by omega] at this
  have hgetD : ∀ {a b : List AV} {k : Nat}, a[k]? = b[k]? → a.getD k .any = b.getD k .any := fun h => by
    simp [List.getD_eq_getElem?_getD, h]
  refine AW_draw nA (ts nA) hm hok' ?_ ?_ hrest
  · -- the slots that are written, aside
    have hb : ∀ (ds : List (Option Tmp)) (a b : List AV), a.length = b.length → (∀ k, (∀ d ∈ ds, d ≠ some k) → a[k]? = b[k]?) → blank ds a = blank ds b := by
      intro ds
      induction ds with
      | nil => intro a b _ h; exact List.ext_getElem? (fun k => h k (by simp))
      | cons d ds ih =>
        intro a b hl h
        simp only [blank, List.foldl_cons]
        refine ih _ _ (by rw [setT_length, setT_length, hl]) (fun k hk => ?_)
        by_cases e : d = some k
        · subst e
          simp only [setT, List.getElem?_set, if_true]
          rw [hl]
        · rw [setT_other e, setT_other e]
          exact h k (fun d' hd' => by
            rcases List.mem_cons.1 hd' with rfl | hd'
            · exact e
            · exact hk d' hd')
    refine hb _ _ _ (tlen nA (Nat.le_refl _)) (fun k hk => ?_)
    have := keepF 0 (Nat.zero_le _) k (fun j o _ hj ho => hk _ (List.mem_map.2 ⟨o, List.mem_of_getElem? (hA j o ho hj), rfl⟩))
    rw [this, e1]
  · -- each one asks the same at the end
    have hall : ∀ (m : List Oper), (∀ o ∈ m, opsR κ false P l (isF (ts nA) σ fr df) [o] ⟨ts nA, σ, fr, df⟩) → idem κ P l (ts nA) σ fr df m := by
      intro m
      induction m with
      | nil => intro _; exact trivial
      | cons o m ih => intro h; exact ⟨h o (by simp), ih (fun o' ho' => h o' (by simp [ho']))⟩
    refine hall _ (fun o ho => ?_)
    obtain ⟨i, hi⟩ := List.mem_iff_getElem?.1 ho
    obtain ⟨hil, hiA⟩ := hA' i o hi
    obtain ⟨x, hx, hg⟩ := e3 i o hi
    simp only at hg
    have look : ∀ k ∈ o.looksAt l.toArray, (ts i)[k]? = (ts nA)[k]? := fun k hk => by
      refine (keepF i (by omega) k (fun j o' h1 h2 ho' hd => ?_)).symm
      have := hlt i o hil j (hsee i o hil hiA k hk j o' ho' hd)
      omega
    obtain ⟨d, hd⟩ := hdst i o hil hiA
    -- its own slot
    have own : setT (ts nA) o.dst x = ts nA := by
      rw [hd]
      have h1 : (ts nA)[d]? = (ts (i + 1))[d]? := keepF (i + 1) (by omega) d (fun j o' h1 h2 ho' hd' => by
        have := huniq i o j o' hil hiA ho' h2 (by rw [hd, hd'])
        omega)
      rw [hx, hd] at h1
      refine List.ext_getElem? (fun k => ?_)
      by_cases e : d = k
      · subst e
        rw [h1]
        simp only [setT, List.getElem?_set, if_true]
        rw [tlen nA (Nat.le_refl _), tlen i (by omega)]
      · exact setT_other (by simp [e])
    simp only [opsR]
    have hops : ∀ y ∈ o.op.operands.toList, St.ev ⟨ts i, σ, fr, df⟩ y = St.ev ⟨ts nA, σ, fr, df⟩ y := by
      intro y hy
      cases y with
      | tmp k => exact hgetD (look k (by
          unfold Oper.looksAt
          exact List.mem_append.2 (.inl (List.mem_filterMap.2 ⟨.tmp k, hy, rfl⟩))))
      | _ => rfl
    have hg2 : guardR l o ⟨ts nA, σ, fr, df⟩ (∀ (K' : AV → List Res → Prop) (KP' : List PanicEntry → List Res → Prop), K' x σ → opR κ false P o ⟨ts nA, σ, fr, df⟩ K' KP') (x = U) := by
      refine guardR_congr (s := ⟨ts i, σ, fr, df⟩) (fun j want d' hgd hdd => hgetD (look d' ?_)) (fun hr K' KP' hk => opR_congr (s := ⟨ts i, σ, fr, df⟩) rfl hops (hr K' KP' hk)) hg
      unfold Oper.looksAt
      refine List.mem_append.2 (.inr ?_)
      rw [hgd]
      have : (l.toArray[j]?).bind (·.dst) = some d' := by simpa using hdd
      show d' ∈ ((l.toArray[j]?).bind (·.dst)).toList
      rw [this]
      simp
    have hg3 : ∀ {X Y X' Y' : Prop}, guardR l o ⟨ts nA, σ, fr, df⟩ X Y → (X → X') → (Y → Y') → guardR l o ⟨ts nA, σ, fr, df⟩ X' Y' := by
      intro X Y X' Y' h hX hY
      unfold guardR at h ⊢
      split at h
      · exact hX h
      · split at h
        · split at h
          · exact ⟨fun e => hX (h.1 e), fun e => hY (h.2 e)⟩
          · exact hY h
          · exact h.elim
        · exact h.elim
    refine hg3 hg2 (fun hr => ?_) (fun hu => ?_)
    · exact hr _ _ ⟨rfl, by rw [own]⟩
    · subst hu
      exact ⟨rfl, by rw [own]⟩
end
end Go.Abs
/-
  The abstract layer, part t: a range over a function, by what is yielded.
-/

namespace Go.Abs
open Go.RowKit

section
variable {κ : Ctx} {P : Program} {rd : Option Nat}

theorem perm_middle' {α : Type} {r : α} : ∀ {σ : List α} {j : Nat}, σ[j]? = some r → ∀ r', (r' :: σ.eraseIdx j).Perm (σ.set j r') := fun h _ => perm_set h

theorem sub_set {τ σ : List Res} {r : Res} (h : Sub (r :: τ) σ) : ∃ j, σ[j]? = some r ∧ ∀ r', Sub (r' :: τ) (σ.set j r') := by
  obtain ⟨ρ, p, q⟩ := h
  -- r stands somewhere in ρ, hence in σ
  have hm : r ∈ ρ := p.mem_iff.2 (by simp)
  obtain ⟨k, hk⟩ := List.mem_iff_getElem?.1 hm
  have key : ∀ {ρ σ : List Res}, ρ.Sublist σ → ∀ k, ρ[k]? = some r → ∃ j, σ[j]? = some r ∧ ∀ r', (ρ.set k r').Sublist (σ.set j r') := by
    intro ρ σ h
    induction h with
    | slnil => intro k hk; simp at hk
    | cons a h ih =>
      intro k hk
      obtain ⟨j, h1, h2⟩ := ih k hk
      exact ⟨j + 1, by simpa using h1, fun r' => by simpa using (h2 r').cons a⟩
    | cons_cons a h ih =>
      intro k hk
      cases k with
      | zero => exact ⟨0, by simpa using hk, fun r' => by simpa using h.cons_cons r'⟩
      | succ k =>
        obtain ⟨j, h1, h2⟩ := ih k (by simpa using hk)
        exact ⟨j + 1, by simpa using h1, fun r' => by simpa using (h2 r').cons_cons a⟩
  obtain ⟨j, h1, h2⟩ := key q k hk
  refine ⟨j, h1, fun r' => ⟨ρ.set k r', ?_, h2 r'⟩⟩
  have p2 : (r :: ρ.eraseIdx k).Perm (r :: τ) := (perm_get hk).symm.trans p
  exact (perm_set hk).symm.trans ((p2.cons_inv).cons r')

/-- The loop's resource is among these; the others, told weaker, are those. -/
def ResS (r : Res) (σ τ : List Res) : Prop := ∃ τ0, Sub (r :: τ0) σ ∧ ResW τ0 τ
theorem resS_rfl {r : Res} {τ : List Res} : ResS r (r :: τ) τ := ⟨τ, sub_rfl, ResW.refl τ⟩
theorem resS_skip {r x : Res} {σ τ : List Res} (h : ResS r σ τ) : ResS r (x :: σ) τ := by
  obtain ⟨τ0, h1, h2⟩ := h
  exact ⟨τ0, sub_cons h1, h2⟩
theorem resS_head {r x : Res} {σ τ : List Res} (h : ResW (x :: σ) τ) : ResS r (x :: r :: σ) τ := by
  refine ⟨x :: σ, ?_, h⟩
  exact ⟨x :: r :: σ, List.Perm.swap _ _ _, List.Sublist.refl _⟩
theorem resS_mk {r : Res} {σ τ : List Res} (h : ResW σ τ) : ResS r (r :: σ) τ := ⟨σ, sub_rfl, h⟩

/-- This is the resource of loop l, whose deferred calls are collected in d. -/
def isLoop (l d : Nat) (r : Res) : Prop := ∃ st pend t ps as bd, r = .loop l st pend t ps as bd d

/-- The end of a round. 'Rb': the loop's resource while a round runs; 'τ': what there is beside it. -/
def rngQ (Q : Exit → St → Prop) (t : List AV) (fr : Bool) (df : List Deferred) (Rb : Res) (Inv : List Res → Prop) : Exit → St → Prop
  | .normal, s => ∃ τ, ResS Rb s.σ τ ∧ Inv τ
  | .ret, s => ∃ τ, ResS Rb s.σ τ ∧ Q .ret ⟨t, τ, fr, df⟩
  | .exit id, s => ∃ τ, ResS Rb s.σ τ ∧ Q (.exit id) ⟨t, τ, fr, df⟩
  | _, _ => False

/-- Behind the assignments of a round. 'Rr': the loop's resource between rounds. -/
def rngA (κ : Ctx) (P : Program) (Q : Exit → St → Prop) (t : List AV) (fr : Bool) (df : List Deferred) (l : Nat) (body : Code) (Rr Rb : Res) (Inv : List Res → Prop) (s1 : St) : Prop :=
  ∃ j, s1.σ[j]? = some Rr ∧ run κ P (some l) body (rngQ Q t fr df Rb Inv) ⟨s1.t, s1.σ.set j Rb, s1.fr, s1.df⟩
theorem rngA_mk {Q : Exit → St → Prop} {t : List AV} {fr fr' : Bool} {df df' : List Deferred} {l : Nat} {body : Code} {Rr Rb : Res} {Inv : List Res → Prop} {t' : List AV} {τ : List Res} (h : run κ P (some l) body (rngQ Q t fr df Rb Inv) ⟨t', Rb :: τ, fr', df'⟩) :
    rngA κ P Q t fr df l body Rr Rb Inv ⟨t', Rr :: τ, fr', df'⟩ := ⟨0, rfl, h⟩
theorem rng_normal {Q : Exit → St → Prop} {t : List AV} {fr : Bool} {df : List Deferred} {Rb : Res} {Inv : List Res → Prop} {s : St} : rngQ Q t fr df Rb Inv .normal s = ∃ τ, ResS Rb s.σ τ ∧ Inv τ := rfl
theorem rng_ret {Q : Exit → St → Prop} {t : List AV} {fr : Bool} {df : List Deferred} {Rb : Res} {Inv : List Res → Prop} {s : St} : rngQ Q t fr df Rb Inv .ret s = ∃ τ, ResS Rb s.σ τ ∧ Q .ret ⟨t, τ, fr, df⟩ := rfl
theorem rng_exit {Q : Exit → St → Prop} {t : List AV} {fr : Bool} {df : List Deferred} {Rb : Res} {Inv : List Res → Prop} {s : St} {id : Nat} : rngQ Q t fr df Rb Inv (.exit id) s = ∃ τ, ResS Rb s.σ τ ∧ Q (.exit id) ⟨t, τ, fr, df⟩ := rfl

/-- What a round of a range is asked. -/
def Round (κ : Ctx) (P : Program) (Q : Exit → St → Prop) (t : List AV) (fr : Bool) (df : List Deferred) (ps : Array Tmp) (assign body : Code) (Inv : List (List AV) → List Res → Prop) (d : Nat) : Prop :=
  ∀ (l : Nat) (Rr Rb : Res), isLoop l d Rb → ∀ x xs τ, Inv (x :: xs) τ → ps.size = x.length ∧ run κ P (some l) assign (thenQ (rngA κ P Q t fr df l body Rr Rb (Inv xs)) (fun _ _ => False)) ⟨setPs t ps.toList x, Rr :: τ, true, []⟩

theorem rng_round {Q : Exit → St → Prop} {s0 : St} {l : Nat} {ps : Array Tmp} {assign body : Code} {d : Nat} {Inv : List (List AV) → List Res → Prop} {x : List AV} {xs : List (List AV)} {τ : List Res} (hps : ps.size = x.length)
    (h : run κ P (some l) assign (thenQ (rngA κ P Q s0.t (rd.isSome && s0.fr) s0.df l body (.loop l .ready none s0.t ps assign body d) (.loop l .busy none s0.t ps assign body d) (Inv xs)) (fun _ _ => False)) ⟨setPs s0.t ps.toList x, .loop l .ready none s0.t ps assign body d :: τ, true, []⟩) :
    ACallY κ P l x (.loop l .ready none s0.t ps assign body d :: τ) (YK (fun σ' => ∃ τ', σ' = .loop l .ready none s0.t ps assign body d :: τ' ∧ Inv xs τ') (rangeK κ P rd Q s0 l ps assign body d)) := by
  refine ACallY.dropW (ACallY_mkQ (rngQ Q s0.t (rd.isSome && s0.fr) s0.df (.loop l .busy none s0.t ps assign body d) (Inv xs)) ?_ 0 rfl hps h)
  intro e s hq
  cases e with
  | normal =>
    obtain ⟨τ', ⟨τ0, hs, hw⟩, hi⟩ := hq
    obtain ⟨j, h1, h2⟩ := sub_set hs
    exact ⟨j, h1, _, (sub_resW (h2 _)).trans (hw.cons _), τ', rfl, hi⟩
  | ret =>
    obtain ⟨τ', ⟨τ0, hs, hw⟩, hi⟩ := hq
    obtain ⟨j, h1, h2⟩ := sub_set hs
    exact ⟨j, h1, _, (sub_resW (h2 _)).trans (hw.cons _), 0, _, _, rfl, by simp, hi⟩
  | exit id =>
    obtain ⟨τ', ⟨τ0, hs, hw⟩, hi⟩ := hq
    obtain ⟨j, h1, h2⟩ := sub_set hs
    exact ⟨j, h1, _, (sub_resW (h2 _)).trans (hw.cons _), 0, _, _, rfl, by simp, hi⟩
  | goto id => exact hq.elim
  | panic c => exact hq.elim
  | outgrown => exact hq.elim

/-- An outermost range: over what is yielded. 'ρ' is what the function that is ranged over takes with it. -/
theorem range_by {Q : Exit → St → Prop} {t : List AV} {σ : List Res} {fr : Bool} {df : List Deferred} {f : Operand} {ps : Array Tmp} {assign body : Code} (gf : FuncId) (first cap : List Value) (xs : List (List AV)) (ρ τ : List Res) (Inv : List (List AV) → List Res → Prop)
    (hf : (⟨t, σ, fr, df⟩ : St).ev f = .raw (.func (.func gf) first.toArray cap.toArray)) (hok : callOk P gf = True) (hσ : ResW σ (ρ ++ τ))
    (hiter : ∀ (L : Nat) (K : Ret → List Res → Prop) (σ' : List Res), Iter κ P L K xs σ' → ACallF κ P gf (first.map .raw ++ [.raw (.func (.yield L) #[] #[])] ++ cap.map .raw) (ρ ++ σ') K)
    (h0 : Inv xs τ)
    (hend : ∀ τ, Inv [] τ → Q .normal ⟨t, τ, false, df⟩)
    (hround : ∀ d, Round κ P Q t false df ps assign body Inv d) :
    AW κ none P (.rangeFunc f ps assign body) Q ⟨t, σ, fr, df⟩ := by
  refine AW_range hf (hok ▸ trivial) (fun l d => ?_)
  have hp : ResW (Res.loop l .ready none t ps assign body d :: σ) (ρ ++ (Res.loop l .ready none t ps assign body d :: τ)) := ((hσ.cons _).trans (ResW.perm List.perm_middle.symm))
  refine ACallF.weak hp ?_
  have e1 : (first.toArray.toList.map AV.raw ++ [.raw (.func (.yield l) #[] #[])] ++ cap.toArray.toList.map AV.raw) = (first.map .raw ++ [.raw (.func (.yield l) #[] #[])] ++ cap.map .raw) := by simp
  rw [e1]
  refine hiter l _ _ (Iter_by (fun xs σ' => ∃ τ', σ' = .loop l .ready none t ps assign body d :: τ' ∧ Inv xs τ') ?_ ?_ xs _ ⟨τ, rfl, h0⟩)
  · rintro _ ⟨τ', rfl, hi⟩
    exact ⟨0, _, _, rfl, by simp, hend τ' hi⟩
  · rintro x xs _ ⟨τ', rfl, hi⟩
    obtain ⟨h1, h2⟩ := hround d l _ (.loop l .busy none t ps assign body d) ⟨_, _, _, _, _, _, rfl⟩ x xs τ' hi
    exact rng_round (rd := none) (s0 := ⟨t, σ, fr, df⟩) h1 h2

/-- A range within a round of loop l0. -/
theorem range_in {Q : Exit → St → Prop} {t : List AV} {σ : List Res} {fr : Bool} {df : List Deferred} {f : Operand} {ps : Array Tmp} {assign body : Code} {l0 d : Nat} {R0 : Res} (i : Nat) (gf : FuncId) (first cap : List Value) (xs : List (List AV)) (ρ τ : List Res) (Inv : List (List AV) → List Res → Prop)
    (hf : (⟨t, σ, fr, df⟩ : St).ev f = .raw (.func (.func gf) first.toArray cap.toArray)) (hok : callOk P gf = True) (hR : isLoop l0 d R0) (hl : σ[i]? = some R0) (hσ : ResW σ (ρ ++ τ))
    (hiter : ∀ (L : Nat) (K : Ret → List Res → Prop) (σ' : List Res), Iter κ P L K xs σ' → ACallF κ P gf (first.map .raw ++ [.raw (.func (.yield L) #[] #[])] ++ cap.map .raw) (ρ ++ σ') K)
    (h0 : Inv xs τ)
    (hend : ∀ τ, Inv [] τ → Q .normal ⟨t, τ, fr, df⟩)
    (hround : Round κ P Q t fr df ps assign body Inv d) :
    AW κ (some l0) P (.rangeFunc f ps assign body) Q ⟨t, σ, fr, df⟩ := by
  obtain ⟨st0, pend0, t0, ps0, as0, bd0, rfl⟩ := hR
  refine AW_range_in hf (hok ▸ trivial) hl (fun l => ?_)
  have hp : ResW (Res.loop l .ready none t ps assign body d :: σ) (ρ ++ (Res.loop l .ready none t ps assign body d :: τ)) := ((hσ.cons _).trans (ResW.perm List.perm_middle.symm))
  refine ACallF.weak hp ?_
  have e1 : (first.toArray.toList.map AV.raw ++ [.raw (.func (.yield l) #[] #[])] ++ cap.toArray.toList.map AV.raw) = (first.map .raw ++ [.raw (.func (.yield l) #[] #[])] ++ cap.map .raw) := by simp
  rw [e1]
  refine hiter l _ _ (Iter_by (fun xs σ' => ∃ τ', σ' = .loop l .ready none t ps assign body d :: τ' ∧ Inv xs τ') ?_ ?_ xs _ ⟨τ, rfl, h0⟩)
  · rintro _ ⟨τ', rfl, hi⟩
    refine ⟨0, _, _, rfl, by simp, ?_⟩
    simpa using hend τ' hi
  · rintro x xs _ ⟨τ', rfl, hi⟩
    obtain ⟨h1, h2⟩ := hround l _ (.loop l .busy none t ps assign body d) ⟨_, _, _, _, _, _, rfl⟩ x xs τ' hi
    exact rng_round (rd := some l0) (s0 := ⟨t, σ, fr, df⟩) h1 h2
end
end Go.Abs
/-
  The abstract layer, part u: rows that are written in place, and become slices once they are done.
-/



namespace Go.Abs
open Go.RowKit

section
variable {κ : Ctx} {P : Program} {σ : List Res} {K : AV → List Res → Prop}

/-- A row of so many, as a value. -/
abbrev rowV (b o n c : Nat) : AV := .raw (.slice (some ⟨b, o, none⟩) n c)

theorem TR.replicate {g : Nat → Nat} {w : World} {x : AV} {v : Value} (h : VR g w x v) (n : Nat) : TR g w (List.replicate n x) (Array.replicate n v) :=
  ⟨by simp, fun k y hk => by
    rw [List.getElem?_replicate] at hk
    split at hk
    · rename_i hlt
      cases hk
      have : (Array.replicate n v).getD k undef = v := by simp [Array.getD_eq_getD_getElem?, hlt]
      rw [this]; exact h
    · cases hk⟩

theorem madeCells_one {z : Value} (h : z.oneCell' = true) (n : Nat) : madeCells z.cells n = Array.replicate n z := by
  rw [cells_one h]
  refine Array.ext (by simp [madeCells]) (fun i h1 h2 => ?_)
  simp [madeCells, Nat.mod_one]

theorem act_mkrow {t e : TypeId} {z : Value} {by_ n : Nat} (he : slE P t = some e) (hs : szT P e = some 1) (hb : byT P e = some by_) (hz : zrT P e = some z) (hz1 : z.oneCell' = true) (hz2 : oneA (ofV z) = true) (hn : n ≤ 1000000000) (hby : by_ ≤ 1000)
    (hK : ∀ b, K (rowV b 0 n n) (.obj b (List.replicate n (ofV z)) :: σ)) : AAct κ P (.mkslice t) [I n, I n] σ K := by
  intro φ g w vs hR hv
  obtain ⟨v, u, rfl, hv1, hv2⟩ := two_vs hv
  cases hv1.raw_eq
  cases hv2.raw_eq
  obtain ⟨inf, hi, hisz, hiby, hizr⟩ : ∃ inf, P.info? e = some inf ∧ inf.size = 1 ∧ inf.bytes = by_ ∧ inf.zero = some z := by
    unfold szT byT zrT at *
    cases hi : P.info? e with
    | none => simp [hi] at hs
    | some inf => exact ⟨inf, rfl, by simpa [hi] using hs, by simpa [hi] using hb, by simpa [hi] using hz⟩
  have hbn : (inf.bytes : Int) * (n : Int) ≤ 281474976710656 := by
    rw [hiby]
    have h1 : by_ * n ≤ 1000 * 1000000000 := Nat.mul_le_mul hby hn
    have h2 : ((by_ * n : Nat) : Int) ≤ 281474976710656 := by omega
    rwa [Int.natCast_mul] at h2
  have hrun := run_make (P := P) w t e inf z (und_of_slE he) hi hizr .i64 .i64 n n (Int.natCast_nonneg _) (Int.le_refl _) hbn (by omega)
  simp only [Int.toNat_natCast, hisz, Nat.mul_one, madeCells_one hz1] at hrun
  obtain ⟨a1, a2⟩ := hR.new_obj e (TR.replicate (g := g) (w := w) (ofV_sound z) n)
  exact ⟨_, _, g, _, _, hrun, a1.perm List.perm_middle.symm, a2, .raw _, hK _⟩

/-- Cells laid over a row's. -/
def lay (cs : List AV) (o : Nat) (xs : List AV) : List AV := cs.take o ++ xs ++ cs.drop (o + xs.length)

theorem TR.list {g : Nat → Nat} {w : World} {xs : List AV} {vs : Array Value} (h : TR g w xs vs) : TR g w xs vs.toList.toArray := by simpa using h
theorem TR.of_get {g : Nat → Nat} {w : World} {xs : List AV} {us : List Value} (hl : us.length = xs.length) (h : ∀ (k : Nat) (x : AV), xs[k]? = some x → ∃ u, us[k]? = some u ∧ VR g w x u) : TR g w xs us.toArray :=
  ⟨by simpa using hl, fun k x hk => by
    obtain ⟨u, h1, h2⟩ := h k x hk
    have : us.toArray.getD k undef = u := by simp [Array.getD_eq_getD_getElem?, h1]
    rw [this]; exact h2⟩
theorem TR.get' {g : Nat → Nat} {w : World} {xs : List AV} {us : List Value} (h : TR g w xs us.toArray) (k : Nat) (x : AV) (hk : xs[k]? = some x) : ∃ u, us[k]? = some u ∧ VR g w x u := by
  have h1 := h.get k x hk
  have hlt : k < us.length := by have := h.size; simp at this; rw [this]; exact lt_of_get hk
  refine ⟨us[k], List.getElem?_eq_getElem hlt, ?_⟩
  have h2 : us.toArray.getD k undef = us[k] := by
    have : us[k]? = some us[k] := List.getElem?_eq_getElem hlt
    simp [Array.getD_eq_getD_getElem?, this]
  rw [h2] at h1; exact h1

theorem TR.lay {g : Nat → Nat} {w : World} {cs xs : List AV} {cur us : List Value} {o : Nat} (hc : TR g w cs cur.toArray) (hx : TR g w xs us.toArray) : TR g w (Go.Abs.lay cs o xs) (cur.take o ++ us ++ cur.drop (o + us.length)).toArray := by
  have e1 : cur.length = cs.length := by have := hc.size; simpa using this
  have e2 : us.length = xs.length := by have := hx.size; simpa using this
  unfold Go.Abs.lay
  have t1 : TR g w (cs.take o) (cur.take o).toArray := TR.of_get (by simp [e1]) (fun k x hk => by
    rw [List.getElem?_take] at hk ⊢
    split at hk
    · rename_i hlt; rw [if_pos hlt]; exact hc.get' k x hk
    · cases hk)
  have t2 : TR g w (cs.drop (o + xs.length)) (cur.drop (o + us.length)).toArray := TR.of_get (by simp [e1, e2]) (fun k x hk => by
    rw [List.getElem?_drop] at hk ⊢
    rw [e2]; exact hc.get' _ x hk)
  have := (t1.append hx).append t2
  simpa using this

theorem setRow_other (w : World) (b c : Nat) (cs : Array Value) (h : c ≠ b) : (w.setRow b cs).heap[c]? = w.heap[c]? := by
  simp only [World.setRow, Array.getElem?_modify]
  rw [if_neg (fun e => h e.symm)]

/-- A row turns. -/
theorem row_turn {φ : List Res} {g : Nat → Nat} {w : World} {b i : Nat} {cs cs' : List AV} {cur' : Array Value} (hR : Rel κ g (φ ++ σ) w) (h : σ[i]? = some (.obj b cs)) {cur : Array Value} {ty : TypeId} (hh : w.heap[b]? = some (.cells cur ty (0, 0))) (hsz : cur'.size = cur.size) (ht : TR g w cs' cur') :
    Rel κ g (φ ++ σ.set i (.obj b cs')) (w.setRow b cur') ∧ GE g w g (w.setRow b cur') := by
  obtain ⟨h0, _⟩ := hR.holds _ (mem_right h)
  have hge : GE g w g (w.setRow b cur') := by
    refine ⟨by simp [World.setRow], fun _ => Nat.le_refl _, fun c o ho => ?_, fun c => ?_⟩
    · have hc : c ≠ b := fun e => by subst e; rw [h0] at ho; omega
      simp only [World.cell?]; rw [setRow_other w b c cur' hc]
    · by_cases e : c = b
      · subst e
        simp only [blockLen]; rw [setRow_heap w c cur cur' ty _ hh, hh]; simp [hsz]
      · simp only [blockLen]; rw [setRow_other w b c cur' e]; exact Nat.le_refl _
  refine ⟨?_, hge⟩
  have hR' := hR.perm (perm_front (φ := φ) (perm_get h))
  have hR2 : Rel κ g (.obj b cs' :: (φ ++ σ.eraseIdx i)) (w.setRow b cur') :=
    hR'.change hge rfl rfl rfl (by simp [World.setRow]) (fun c hc => setRow_other w b c cur' hc) (fun _ _ => rfl) rfl rfl ⟨h0, cur', ty, setRow_heap w b cur cur' ty _ hh, ht.mono hge⟩
  exact hR2.perm (List.perm_middle.symm.trans ((perm_set h).append_left φ))

/-- copy: a slice over a row. -/
theorem act_copy_row {ts : Array TypeId} {t e ty : TypeId} {own : Option (Option (Nat × Nat))} {l : List AV} {b o dl dc : Nat} {cs : List AV} (i : Nat) (h : σ[i]? = some (.obj b cs)) (hts : ts = #[t, t]) (he : slE P t = some e) (hs : szT P e = some 1) (hgood : goodL l = true) (hfit : o + min l.length dl ≤ cs.length)
    (hK : K (I (min l.length dl : Nat)) (σ.set i (.obj b (lay cs o ((l.take dl).flatMap AV.cells))))) : AAct κ P (.copy ts ty) [rowV b o dl dc, .sl 1 own l] σ K := by
  intro φ g w vs hR hvs
  subst hts
  obtain ⟨v, u, rfl, hv, hu⟩ := two_vs hvs
  cases hv.raw_eq
  have ht := und_of_slE he
  obtain ⟨h0, cur, ety, hh, hcs⟩ := hR.holds _ (mem_right h)
  have hinf : (P.info? e).map (·.size) = some 1 := hs
  have hcl : ∀ x ∈ l, x.cells.length = 1 → True := fun _ _ _ => trivial
  rcases hu.sl_inv with ⟨rfl, ⟨ad, cp, rfl, hcp, _⟩, _⟩ | ⟨b', off', cap', rfl, hcap, hmax, hpos, hel, _⟩
  · have hrow : Rel κ g (φ ++ σ.set i (.obj b cs)) w := by
      have e : σ.set i (.obj b cs) = σ := by
        apply List.ext_getElem?
        intro m
        rw [List.getElem?_set]
        split
        · rename_i e; subst e; split
          · rw [h]
          · rename_i hlt; exact (hlt (lt_of_get h)).elim
        · rfl
      rw [e]; exact hR
    refine ⟨goInt 0, w, g, I 0, _, ?_, hrow, GE.refl _ _, .raw _, by simpa [lay] using hK⟩
    cases hq : P.info? e with
    | none => simp [hq] at hinf
    | some inf =>
      have hi1 : inf.size = 1 := by simpa [hq] using hinf
      cases ad with
      | none =>
        have := hcp rfl; subst this
        simp [MA.sem, nth, Builtin.copy_, run_und ht, Builtin.lenOf, Builtin.firstCells, sizeOf, typeInfo, hq, storeCells]
      | some ad =>
        simp [MA.sem, nth, Builtin.copy_, run_und ht, Builtin.lenOf, Builtin.firstCells, sizeOf, typeInfo, hq, storeCells, loadCells, loadCellsFrom]
  · obtain ⟨us, hf, hus⟩ := hu.flat
    have husl : us.length = l.length := by have := hf.len; omega
    have h1 := hf.one hgood
    let m := min l.length dl
    have hmlen : (us.take m).length = m := by rw [List.length_take, husl]; omega
    have hrun := run_copy_row (P := P) w t t ty e b o dl dc ⟨b', off', none⟩ l.length cap' cur ety (us.take m) ht hinf hh (by rw [hmlen]) (fun j v hj => by
      have hlt := lt_of_get hj
      rw [hmlen] at hlt
      rw [List.getElem?_take_of_lt hlt] at hj
      rw [Addr.add_lit]; exact hus j v hj) (by rw [hmlen, hcs.size]; exact hfit) (fun v hv => h1 v (List.mem_of_mem_take hv))
    have hx : TR g w ((l.take dl).flatMap AV.cells) (us.take m).toArray := by
      have hflat : ∀ (l : List AV), (∀ x ∈ l, x.cells.length = 1) → ∀ k : Nat, (l.flatMap AV.cells)[k]? = (l[k]?).bind fun x : AV => x.cells[0]? := by
        intro l
        induction l with
        | nil => intro _ k; simp
        | cons x l ih =>
          intro hl k
          have hx1 := hl x (by simp)
          match hxc : x.cells, hx1 with
          | [y], _ =>
            cases k with
            | zero => simp [hxc]
            | succ k =>
              simp only [List.flatMap_cons, hxc, List.cons_append, List.nil_append, List.getElem?_cons_succ]
              exact ih (fun z hz => hl z (by simp [hz])) k
      have hl1 : ∀ x ∈ l.take dl, x.cells.length = 1 := fun x hx => by
        obtain ⟨j, hj⟩ := List.mem_iff_getElem?.1 (List.mem_of_mem_take hx)
        exact hel j x hj
      have hlen : ∀ (l : List AV), (∀ x ∈ l, x.cells.length = 1) → (l.flatMap AV.cells).length = l.length := by
        intro l
        induction l with
        | nil => intro _; rfl
        | cons x l ih => intro hl; simp only [List.flatMap_cons, List.length_append, hl x (by simp), ih (fun z hz => hl z (by simp [hz])), List.length_cons]; omega
      refine TR.of_get (by rw [hmlen, hlen _ hl1]; simp; omega) (fun k x hk => ?_)
      have hlt := lt_of_get hk
      rw [hlen _ hl1] at hlt
      rw [hflat _ hl1] at hk
      have hkm : k < m := by simp at hlt; omega
      rw [List.getElem?_take_of_lt (by simp at hlt; omega)] at hk
      cases hy : l[k]? with
      | none => simp [hy] at hk
      | some y =>
        simp [hy] at hk
        obtain ⟨u, h2, h3⟩ := hf.cell k y 0 x hy hk
        refine ⟨u, ?_, h3⟩
        rw [List.getElem?_take_of_lt hkm]
        simpa using h2
    have hcur : TR g w cs cur.toList.toArray := by simpa using hcs
    have hlay := TR.lay (o := o) hcur hx
    obtain ⟨r1, r2⟩ := row_turn hR h (cur' := (cur.toList.take o ++ us.take m ++ cur.toList.drop (o + (us.take m).length)).toArray) hh (by
      have : o + m ≤ cur.size := by rw [hcs.size]; exact hfit
      simp [husl]; omega) hlay
    refine ⟨_, _, g, I (min l.length dl : Nat), _, hrun, r1, r2, ?_, hK⟩
    rw [hmlen]; exact .raw _

/-- copy: a row's beginning over the same row. -/
theorem act_copy_self {ts : Array TypeId} {t e ty : TypeId} {b o dl dc m mc : Nat} {cs : List AV} (i : Nat) (h : σ[i]? = some (.obj b cs)) (hts : ts = #[t, t]) (he : slE P t = some e) (hs : szT P e = some 1) (hgood : cs.all oneA = true) (hm : m ≤ cs.length) (hfit : o + min m dl ≤ cs.length)
    (hK : K (I (min m dl : Nat)) (σ.set i (.obj b (lay cs o (cs.take (min m dl)))))) : AAct κ P (.copy ts ty) [rowV b o dl dc, rowV b 0 m mc] σ K := by
  intro φ g w vs hR hvs
  subst hts
  obtain ⟨v, u, rfl, hv, hu⟩ := two_vs hvs
  cases hv.raw_eq
  cases hu.raw_eq
  have ht := und_of_slE he
  obtain ⟨h0, cur, ety, hh, hcs⟩ := hR.holds _ (mem_right h)
  have hinf : (P.info? e).map (·.size) = some 1 := hs
  have hcsz := hcs.size
  have hlen : (cur.toList.take (min m dl)).length = min m dl := by rw [List.length_take, Array.length_toList]; omega
  have hcur : TR g w cs cur.toList.toArray := by simpa using hcs
  have hone : ∀ v ∈ cur.toList, v.oneCell' = true := fun v hv => by
    obtain ⟨j, hj⟩ := List.mem_iff_getElem?.1 hv
    have hlt := lt_of_get hj
    simp at hlt
    have hc : cs[j]? = some (cs[j]'(by omega)) := List.getElem?_eq_getElem _
    obtain ⟨u, h1, h2⟩ := hcur.get' j _ hc
    rw [hj] at h1; cases h1
    exact oneA_spec h2 (List.all_eq_true.1 hgood _ (List.getElem_mem _))
  have hrun := run_copy_row (P := P) w t t ty e b o dl dc ⟨b, 0, none⟩ m mc cur ety (cur.toList.take (min m dl)) ht hinf hh (by rw [hlen]) (fun j v hj => by
    have hlt := lt_of_get hj
    rw [hlen] at hlt
    rw [List.getElem?_take_of_lt hlt] at hj
    have : j < cur.size := by omega
    simp [Addr.add_lit, World.cell?, hh]
    simpa using hj) (by rw [hlen, hcsz]; exact hfit) (fun v hv => hone v (List.mem_of_mem_take hv))
  have hx : TR g w (cs.take (min m dl)) (cur.toList.take (min m dl)).toArray := TR.of_get (by simp [hcsz]) (fun k x hk => by
    rw [List.getElem?_take] at hk ⊢
    split at hk
    · rename_i hlt; rw [if_pos hlt]; exact hcur.get' k x hk
    · cases hk)
  have hlay := TR.lay (o := o) hcur hx
  obtain ⟨r1, r2⟩ := row_turn hR h (cur' := (cur.toList.take o ++ cur.toList.take (min m dl) ++ cur.toList.drop (o + (cur.toList.take (min m dl)).length)).toArray) hh (by simp; omega) hlay
  refine ⟨_, _, g, I (min m dl : Nat), _, hrun, r1, r2, ?_, hK⟩
  rw [hlen]; exact .raw _

/-- A part of a row. -/
theorem act_slice_lo {t e : TypeId} {b o n c a : Nat} (he : slE P t = some e) (hs : szT P e = some 1) (ha : a < n) (hc : n ≤ c) (hK : K (rowV b (o + a) (n - a) (c - a)) σ) : AAct κ P (.slice t true false false) [rowV b o n c, I a, .any, .any] σ K := by
  intro φ g w vs hR hv
  have h1 := hv.size
  match vs, h1 with
  | [v, u, x, y], _ =>
    have hv0 := hv.get 0 _ rfl
    have hv1 := hv.get 1 _ rfl
    simp at hv0 hv1
    cases hv0.raw_eq
    cases hv1.raw_eq
    have hl : OptR g w (some (I a)) (some (.int .i64 a)) := VR.raw _
    have hh : OptR g w none none := trivial
    have hsb := sliceBounds_run (P := P) (w := w) (g := g) (isS := true) (len := n) (cap := c) hl hh rfl rfl (Int.natCast_nonneg _) (by omega) (by omega)
    simp only [Int.toNat_natCast] at hsb
    refine ⟨.slice (some ⟨b, o + a, none⟩) (n - a) (c - a), w, g, _, σ, ?_, hR, GE.refl _ _, .raw _, hK⟩
    have hne : ¬ c = a := by omega
    simp [MA.sem, nth, Instr.sliceAt, run_und (und_of_slE he), Instr.slice, hsb, run_szT hs, Addr.add_lit, hne]

theorem act_slice_hi {t e : TypeId} {b o n c a : Nat} (he : slE P t = some e) (hs : szT P e = some 1) (ha : a ≤ n) (hc : n ≤ c) (h0 : 0 < c) (hK : K (rowV b o a c) σ) : AAct κ P (.slice t false true false) [rowV b o n c, .any, I a, .any] σ K := by
  intro φ g w vs hR hv
  have h1 := hv.size
  match vs, h1 with
  | [v, u, x, y], _ =>
    have hv0 := hv.get 0 _ rfl
    have hv1 := hv.get 2 _ rfl
    simp at hv0 hv1
    cases hv0.raw_eq
    cases hv1.raw_eq
    have hl : OptR g w none none := trivial
    have hh : OptR g w (some (I a)) (some (.int .i64 a)) := VR.raw _
    have hsb := sliceBounds_run (P := P) (w := w) (g := g) (isS := true) (len := n) (cap := c) hl hh rfl rfl (Int.le_refl _) (Int.natCast_nonneg _) (by omega)
    simp only [Int.toNat_natCast, Int.toNat_zero] at hsb
    refine ⟨.slice (some ⟨b, o, none⟩) a c, w, g, _, σ, ?_, hR, GE.refl _ _, .raw _, hK⟩
    have hne : ¬ c = 0 := by omega
    simp [MA.sem, nth, Instr.sliceAt, run_und (und_of_slE he), Instr.slice, hsb, run_szT hs, Addr.add_lit, hne]
end

/-! ### A row that is done -/
section
variable {κ : Ctx} {P : Program} {σ : List Res} {K : Ret → List Res → Prop}
/-- The result is a row that is not written to any more: a slice, which may be appended to. -/
def FreezeK (K : Ret → List Res → Prop) : Ret → List Res → Prop := fun r σ' => K r σ' ∨ ∃ b cs ρ, r = .ret (rowV b 0 cs.length cs.length) ∧ ResW σ' (.obj b cs :: ρ) ∧ (∀ x ∈ cs, x.cells = [x]) ∧ cs.length ≤ maxLen ∧ K (.ret (.sl 1 (some (some (b, cs.length))) cs)) (.tip (some (b, cs.length)) :: ρ)

theorem freeze_post {φ : List Res} {g : Nat → Nat} {w : World} {e : Ending} {w' : World} (h : CPost κ φ g w (FreezeK K) e w') : CPost κ φ g w K e w' := by
  obtain ⟨g', σ', r, h1, h2, h3, h4⟩ := h
  rcases h4 with h4 | ⟨b, cs, ρ, rfl, hw, hc1, hmax, hk⟩
  · exact ⟨g', σ', r, h1, h2, h3, h4⟩
  · have hR := (hw κ φ g' w' h1).perm List.perm_middle
    obtain ⟨h0, arr, ty, hh, hcs⟩ := hR.holds _ (List.mem_cons_self ..)
    have hge : GE g' w' (upd g' b cs.length) w' := by
      refine ⟨Nat.le_refl _, fun c => ?_, fun _ _ _ => rfl, fun _ => Nat.le_refl _⟩
      by_cases ec : c = b
      · subst ec; rw [h0]; exact Nat.zero_le _
      · rw [upd_other ec]; exact Nat.le_refl _
    have hR2 : Rel κ (upd g' b cs.length) (.tip (some (b, cs.length)) :: (φ ++ ρ)) w' :=
      hR.change hge rfl rfl rfl rfl (fun _ _ => rfl) (fun c hc => upd_other hc) rfl rfl ⟨upd_same _ _ _, arr, ty, hh⟩
    have hsz := hcs.size
    refine ⟨_, .tip (some (b, cs.length)) :: ρ, _, hR2.perm List.perm_middle.symm, h2.trans hge, ?_, hk⟩
    cases e with
    | returned v =>
      have := VR.raw_eq h3
      subst this
      refine VR.sl_mk rfl (Nat.le_refl _) hmax (by decide) (fun i x hi => by rw [hc1 x (List.mem_of_getElem? hi)]; rfl) (fun i x k y hi hk => ?_) (by simp [upd_same]) (fun t ht => ?_)
      · rw [hc1 x (List.mem_of_getElem? hi)] at hk
        have hk0 : k = 0 := by have := lt_of_get hk; simp at this; omega
        subst hk0
        simp at hk; subst hk
        have hg := hcs.get i x hi
        have hil : i < arr.size := by rw [hsz]; exact lt_of_get hi
        refine ⟨arr.getD i undef, ?_, hg.mono hge⟩
        simp [World.cell?, hh, hil]
      · cases ht
        refine ⟨by simp, ?_⟩
        simp [blockLen, hh, hsz]
    | panicked c => exact h3.elim
    | outgrown => exact h3.elim

theorem ACallF.freeze {f : FuncId} {args : List AV} (h : ACallF κ P f args σ (FreezeK K)) : ACallF κ P f args σ K :=
  fun φ g w vs hR hv => CallsIn.mono (h φ g w vs hR hv) fun _ _ => freeze_post
end
end Go.Abs
/-
  The abstract layer, part v: a region that draws its order, in which some operations write: these stand in a chain; the others may be drawn between them.
-/

namespace Go.Abs
open Go.RowKit

section
variable {κ : Ctx} {P : Program} {rd : Option Nat}

def isT (t' : List AV) (σ : List Res) (e : Exit) (s : St) : Prop := e = .normal ∧ s.t = t' ∧ s.σ = σ

theorem isT_mk {t : List AV} {σ : List Res} {fr : Bool} {df : List Deferred} : isT t σ .normal ⟨t, σ, fr, df⟩ := ⟨rfl, rfl, rfl⟩

theorem guard_fin {all : List Oper} {o : Oper} {s : St} {X Y X' Y' : Prop} (h : guardR all o s X Y) (hX : X → X') (hY : Y → Y') : guardR all o s X' Y' := by
  unfold guardR at h ⊢
  split at h
  · exact hX h
  · split at h
    · split at h
      · exact ⟨fun e => hX (h.1 e), fun e => hY (h.2 e)⟩
      · exact hY h
      · exact h.elim
    · exact h.elim

theorem looks_operand {all : List Oper} {o : Oper} {k : Tmp} (h : Operand.tmp k ∈ o.op.operands.toList) : k ∈ o.looksAt all.toArray := by
  unfold Oper.looksAt
  exact List.mem_append.2 (.inl (List.mem_filterMap.2 ⟨.tmp k, h, rfl⟩))
theorem looks_guard {all : List Oper} {o : Oper} {j : Nat} {want : Bool} {k : Tmp} (h : o.guard = some (j, want)) (hk : (all[j]?).bind (·.dst) = some k) : k ∈ o.looksAt all.toArray := by
  unfold Oper.looksAt
  refine List.mem_append.2 (.inr ?_)
  rw [h]
  have : (all.toArray[j]?).bind (·.dst) = some k := by simpa using hk
  show k ∈ ((all.toArray[j]?).bind (·.dst)).toList
  rw [this]
  simp

theorem getD_of_get? {a b : List AV} {k : Nat} (h : a[k]? = b[k]?) : a.getD k .any = b.getD k .any := by simp [List.getD_eq_getElem?_getD, h]

theorem ev_of_looks {all : List Oper} {o : Oper} {t t2 : List AV} {σ : List Res} {fr : Bool} {df : List Deferred} (h : ∀ k ∈ o.looksAt all.toArray, t[k]? = t2[k]?) : ∀ x ∈ o.op.operands.toList, St.ev ⟨t, σ, fr, df⟩ x = St.ev ⟨t2, σ, fr, df⟩ x := by
  intro x hx
  cases x with
  | tmp k => exact getD_of_get? (h k (looks_operand hx))
  | _ => rfl

/-- One operation has one value and turns nothing, and its slot holds that value. -/
def idemU (κ : Ctx) (P : Program) (all : List Oper) (t : List AV) (σ : List Res) (fr : Bool) (df : List Deferred) (o : Oper) : Prop :=
  ∃ x, guardR all o ⟨t, σ, fr, df⟩ (∀ (K' : AV → List Res → Prop) (KP' : List PanicEntry → List Res → Prop), K' x σ → opR κ false P o ⟨t, σ, fr, df⟩ K' KP') (x = U) ∧ setT t o.dst x = t

theorem idemU_ops {all : List Oper} {o : Oper} {t : List AV} {σ : List Res} {fr : Bool} {df : List Deferred} (h : idemU κ P all t σ fr df o) : opsR κ false P all (isF t σ fr df) [o] ⟨t, σ, fr, df⟩ := by
  obtain ⟨x, h1, h2⟩ := h
  simp only [opsR]
  refine guard_fin h1 (fun hr => hr _ _ ⟨rfl, by rw [h2]⟩) (fun hu => ?_)
  subst hu
  exact ⟨rfl, by rw [h2]⟩

theorem setT_keep {t t2 : List AV} {d : Tmp} {x : AV} (hlen : t2.length = t.length) (ho : t[d]? = t2[d]?) (h : setT t (some d) x = t) : setT t2 (some d) x = t2 := by
  refine List.ext_getElem? (fun k => ?_)
  by_cases e : d = k
  · subst e
    have h1 := congrArg (fun l : List AV => l[d]?) h
    simp only [setT, List.getElem?_set, if_true] at h1 ⊢
    rw [hlen, ← ho]; exact h1
  · exact setT_other (by simp [e])

theorem idemU_move {all : List Oper} {o : Oper} {d : Tmp} {t t2 : List AV} {σ : List Res} {fr : Bool} {df : List Deferred} (hd : o.dst = some d) (hlen : t2.length = t.length) (hl : ∀ k ∈ o.looksAt all.toArray, t[k]? = t2[k]?) (ho : t[d]? = t2[d]?)
    (h : idemU κ P all t σ fr df o) : idemU κ P all t2 σ fr df o := by
  obtain ⟨x, h1, h2⟩ := h
  refine ⟨x, guardR_congr (s := ⟨t, σ, fr, df⟩) (fun j want k hg hk => getD_of_get? (hl k (looks_guard hg hk))) (fun hr K' KP' hk => opR_congr (s := ⟨t, σ, fr, df⟩) rfl (ev_of_looks hl) (hr K' KP' hk)) h1, ?_⟩
  rw [hd] at h2 ⊢
  exact setT_keep hlen ho h2

/-- What is walked quietly, told at its end. -/
theorem quiet_idem {all A : List Oper} {t t' : List AV} {σ : List Res} {fr : Bool} {df : List Deferred} (hd : ∀ (i : Nat) (o : Oper), A[i]? = some o → ∃ d, o.dst = some d) (huniq : ∀ (i j : Nat) (o o' : Oper), A[i]? = some o → A[j]? = some o' → o.dst = o'.dst → i = j)
    (hlook : ∀ (i j : Nat) (o o' : Oper) (k : Tmp), A[i]? = some o → A[j]? = some o' → k ∈ o.looksAt all.toArray → o'.dst = some k → j < i) (h : opsR κ true P all (isT t' σ) A ⟨t, σ, fr, df⟩) :
    t'.length = t.length ∧ (∀ (k : Nat), (∀ (i : Nat) (o : Oper), A[i]? = some o → o.dst ≠ some k) → t'[k]? = t[k]?) ∧ ∀ (i : Nat) (o : Oper), A[i]? = some o → idemU κ P all t' σ fr df o := by
  obtain ⟨ts, e1, e2, e3⟩ := ops_det (Q := isT t' σ) (fun c s hc => by cases hc.1) A ⟨t, σ, fr, df⟩ h
  have et : ts A.length = t' := e2.2.1
  simp only at e1 e3
  have tlen : ∀ i, i ≤ A.length → (ts i).length = t.length := by
    intro i
    induction i with
    | zero => intro _; rw [e1]
    | succ i ih =>
      intro hi
      obtain ⟨x, hx, _⟩ := e3 i _ (List.getElem?_eq_getElem (by omega))
      rw [hx, setT_length, ih (by omega)]
  have keep : ∀ n i, i + n ≤ A.length → ∀ k, (∀ j o, i ≤ j → j < i + n → A[j]? = some o → o.dst ≠ some k) → (ts (i + n))[k]? = (ts i)[k]? := by
    intro n
    induction n with
    | zero => intro i _ k _; rfl
    | succ n ih =>
      intro i hi k hk
      have hg : A[i + n]? = some (A[i + n]'(by omega)) := List.getElem?_eq_getElem _
      obtain ⟨x, hx, _⟩ := e3 (i + n) _ hg
      have := setT_other (t := ts (i + n)) (x := x) (hk (i + n) _ (by omega) (by omega) hg)
      rw [← Nat.add_assoc, hx, this]
      exact ih i (by omega) k (fun j o h1 h2 => hk j o h1 (by omega))
  have keepF : ∀ i, i ≤ A.length → ∀ k, (∀ j o, i ≤ j → A[j]? = some o → o.dst ≠ some k) → t'[k]? = (ts i)[k]? := by
    intro i hi k hk
    have := keep (A.length - i) i (by omega) k (fun j o h1 h2 => hk j o h1)
    rw [show i + (A.length - i) = A.length by omega, et] at this
    exact this
  refine ⟨by rw [← et]; exact tlen _ (Nat.le_refl _), fun k hk => ?_, fun i o hi => ?_⟩
  · have := keepF 0 (Nat.zero_le _) k (fun j o _ ho => hk j o ho)
    rw [this, e1]
  · obtain ⟨x, hx, hg⟩ := e3 i o hi
    obtain ⟨d, hdd⟩ := hd i o hi
    have hiA := lt_of_get hi
    have look : ∀ k ∈ o.looksAt all.toArray, (ts i)[k]? = t'[k]? := fun k hk => by
      refine (keepF i (by omega) k (fun j o' h1 ho' hd' => ?_)).symm
      have := hlook i j o o' k hi ho' hk hd'
      omega
    refine ⟨x, guardR_congr (s := ⟨ts i, σ, fr, df⟩) (fun j want k hg hk => getD_of_get? (look k (looks_guard hg hk))) (fun hr K' KP' hk => opR_congr (s := ⟨ts i, σ, fr, df⟩) rfl (ev_of_looks look) (hr K' KP' hk)) hg, ?_⟩
    have h1 : t'[d]? = (ts (i + 1))[d]? := keepF (i + 1) (by omega) d (fun j o' h1 ho' hd' => by
      have := huniq i j o o' hi ho' (by rw [hdd, hd'])
      omega)
    rw [hx, hdd] at h1
    rw [hdd]
    refine List.ext_getElem? (fun k => ?_)
    by_cases e : d = k
    · subst e
      rw [h1]
      simp only [setT, List.getElem?_set, if_true]
      rw [show t'.length = t.length by rw [← et]; exact tlen _ (Nat.le_refl _), tlen i (by omega)]
    · exact setT_other (by simp [e])

/-- Phases: what may be drawn, then one operation that writes, and so on. -/
abbrev Ph := List (List Nat × Option Nat)
def seqP : Ph → List Nat := fun ps => ps.flatMap fun p => p.1 ++ p.2.toList
/-- Those that write. -/
def effP : Ph → List Nat := fun ps => ps.flatMap fun p => p.2.toList
/-- What stands from the operation c on. -/
def lateP (c : Option Nat) (r : Ph) : List Nat := match c with | none => [] | some e => e :: seqP r

def okLate (l : List Oper) (e : Nat) (r : List Nat) : Bool := r.all fun i => match l[i]? with | some o => (closeP l l.length (predsOf o)).contains e | none => false
def okChain (l : List Oper) : Ph → Bool
  | [] => true
  | (_, none) :: r => r.isEmpty
  | (_, some e) :: r => okLate l e (seqP r) && okChain l r

def phOk (l : List Oper) (ps : Ph) : Bool :=
  let q := seqP ps
  (List.range l.length).all (fun i => q.contains i) && q.all (fun i => decide (i < l.length)) && decide q.Nodup &&
  q.zipIdx.all (fun (i, k) => match l[i]? with | some o => (predsOf o).all (fun j => (q.take k).contains j && decide (j < i)) && (o.looksAt l.toArray).all (fun t => l.zipIdx.all (fun (o', j) => o'.dst != some t || (predsOf o).contains j || ((effP ps).contains j && (closeP l l.length (predsOf o')).contains i))) | none => false) &&
  ps.all (fun p => p.1.all fun i => match l[i]? with | some o => o.dst.isSome | none => false) &&
  l.zipIdx.all (fun (o, i) => l.zipIdx.all (fun (o', j) => i == j || o.dst.isNone || o.dst != o'.dst)) &&
  okChain l ps

def pick (l : List Oper) (A : List Nat) : List Oper := A.filterMap fun i => l[i]?

/-- The quiet ones, whatever (of F) is held. -/
def quietP (κ : Ctx) (P : Program) (l : List Oper) (F : List Res → Prop) (fr : Bool) (df : List Deferred) (A : List Nat) (t t' : List AV) : Prop :=
  ∀ σ, F σ → opsR κ true P l (isT t' σ) (pick l A) ⟨t, σ, fr, df⟩

def phC (κ : Ctx) (P : Program) (l : List Oper) (F : List Res → Prop) (fr : Bool) (df : List Deferred) (Q : Exit → St → Prop) : Option Nat → Ph → List AV → List Res → Prop
  | none, _, t, σ => Q .normal ⟨t, σ, fr, df⟩
  | some e, r, t, σ => ∃ o, l[e]? = some o ∧ o.guard = none ∧ opR κ false P o ⟨t, σ, fr, df⟩ (fun x σ' => F σ' ∧ (match r with
      | [] => Q .normal ⟨setT t o.dst x, σ', fr, df⟩
      | (A, c) :: r' => ∃ t', quietP κ P l F fr df A (setT t o.dst x) t' ∧ phC κ P l F fr df Q c r' t' σ')) (fun _ _ => False)


theorem phC_none {l : List Oper} {F : List Res → Prop} {fr : Bool} {df : List Deferred} {Q : Exit → St → Prop} {r : Ph} {t : List AV} {σ : List Res} : phC κ P l F fr df Q none r t σ = Q .normal ⟨t, σ, fr, df⟩ := by
  cases r <;> rfl
theorem phC_nil {l : List Oper} {F : List Res → Prop} {fr : Bool} {df : List Deferred} {Q : Exit → St → Prop} {e : Nat} {t : List AV} {σ : List Res} : phC κ P l F fr df Q (some e) [] t σ = ∃ o, l[e]? = some o ∧ o.guard = none ∧ opR κ false P o ⟨t, σ, fr, df⟩ (fun x σ' => F σ' ∧ Q .normal ⟨setT t o.dst x, σ', fr, df⟩) (fun _ _ => False) := rfl
theorem phC_cons {l : List Oper} {F : List Res → Prop} {fr : Bool} {df : List Deferred} {Q : Exit → St → Prop} {e : Nat} {A : List Nat} {c : Option Nat} {r : Ph} {t : List AV} {σ : List Res} : phC κ P l F fr df Q (some e) ((A, c) :: r) t σ = ∃ o, l[e]? = some o ∧ o.guard = none ∧ opR κ false P o ⟨t, σ, fr, df⟩ (fun x σ' => F σ' ∧ ∃ t', quietP κ P l F fr df A (setT t o.dst x) t' ∧ phC κ P l F fr df Q c r t' σ') (fun _ _ => False) := rfl
def phK (κ : Ctx) (P : Program) (l : List Oper) (F : List Res → Prop) (fr : Bool) (df : List Deferred) (Q : Exit → St → Prop) (r : Ph) (t : List AV) (σ : List Res) : Prop :=
  match r with
  | [] => Q .normal ⟨t, σ, fr, df⟩
  | (A, c) :: r' => ∃ t', quietP κ P l F fr df A t t' ∧ phC κ P l F fr df Q c r' t' σ
theorem phC_some {l : List Oper} {F : List Res → Prop} {fr : Bool} {df : List Deferred} {Q : Exit → St → Prop} {e : Nat} {r : Ph} {t : List AV} {σ : List Res} (h : phC κ P l F fr df Q (some e) r t σ) : ∃ o, l[e]? = some o ∧ o.guard = none ∧ opR κ false P o ⟨t, σ, fr, df⟩ (fun x σ' => F σ' ∧ phK κ P l F fr df Q r (setT t o.dst x) σ') (fun _ _ => False) := by
  cases r with
  | nil => exact h
  | cons p r => exact h

theorem nodup_get : ∀ {l : List Nat}, l.Nodup → ∀ {a b x : Nat}, l[a]? = some x → l[b]? = some x → a = b
  | [], _, a, _, _, ha, _ => by simp at ha
  | y :: l, h, a, b, x, ha, hb => by
    obtain ⟨h1, h2⟩ := List.nodup_cons.1 h
    cases a with
    | zero =>
      cases b with
      | zero => rfl
      | succ b =>
        simp at ha hb
        subst ha
        exact (h1 (List.mem_of_getElem? hb)).elim
    | succ a =>
      cases b with
      | zero =>
        simp at ha hb
        subst hb
        exact (h1 (List.mem_of_getElem? ha)).elim
      | succ b =>
        simp at ha hb
        rw [nodup_get h2 ha hb]

theorem getD_false {listed : Array Bool} {i : Nat} (h : listed.size ≤ i) : listed.getD i false = false := by
  simp [Array.getD_eq_getD_getElem?, h]

theorem AW_ph {id : Nat} {l : List Oper} {Q : Exit → St → Prop} {t0 : List AV} {σ0 : List Res} {fr : Bool} {df : List Deferred} (A0 : List Nat) (c0 : Option Nat) (r0 : Ph) (F : List Res → Prop) (hF0 : F σ0) (hm : P.follows .mixedOrders = true) (hok : phOk l ((A0, c0) :: r0) = true)
    (h : ∃ t', quietP κ P l F fr df A0 t0 t' ∧ phC κ P l F fr df Q c0 r0 t' σ0) : AW κ rd P (.region id l.toArray true) Q ⟨t0, σ0, fr, df⟩ := by
  unfold phOk at hok
  simp only [Bool.and_eq_true, decide_eq_true_eq] at hok
  obtain ⟨⟨⟨⟨⟨⟨k1, k2⟩, k3⟩, k4⟩, k5⟩, k6⟩, k7⟩ := hok
  generalize hq : seqP ((A0, c0) :: r0) = q at *
  generalize hef : effP ((A0, c0) :: r0) = ef at *
  have qlt : ∀ i ∈ q, i < l.length := fun i hi => by simpa using List.all_eq_true.1 k2 i hi
  have qall : ∀ i, i < l.length → i ∈ q := fun i hi => by
    have := List.all_eq_true.1 k1 i (List.mem_range.2 hi)
    simpa using this
  have qpre : ∀ (k i : Nat) (o : Oper), q[k]? = some i → l[i]? = some o → (∀ j ∈ predsOf o, j ∈ q.take k ∧ j < i) ∧ ∀ s ∈ o.looksAt l.toArray, ∀ (j : Nat) (o' : Oper), l[j]? = some o' → o'.dst = some s → j ∈ predsOf o ∨ (j ∈ ef ∧ i ∈ closeP l l.length (predsOf o')) := by
    intro k i o hk ho
    have h1 := List.all_eq_true.1 k4 (i, k) (List.mem_iff_getElem?.2 ⟨k, by simp [List.getElem?_zipIdx, hk]⟩)
    simp only [ho, Bool.and_eq_true] at h1
    refine ⟨fun j hj => ?_, fun s hs j o' ho' hd => ?_⟩
    · have := List.all_eq_true.1 h1.1 j hj
      simpa using this
    · have h2 := List.all_eq_true.1 h1.2 s hs
      have := List.all_eq_true.1 h2 (o', j) (List.mem_iff_getElem?.2 ⟨j, by simp [List.getElem?_zipIdx, ho']⟩)
      simp only [hd, bne_self_eq_false, Bool.false_or, Bool.or_eq_true, Bool.and_eq_true, List.contains_iff_mem] at this
      exact this
  have huniq : ∀ (i j : Nat) (o o' : Oper) (d : Tmp), l[i]? = some o → l[j]? = some o' → o.dst = some d → o'.dst = some d → i = j := by
    intro i j o o' d ho ho' hd hd'
    have h1 := List.all_eq_true.1 k6 (o, i) (List.mem_iff_getElem?.2 ⟨i, by simp [List.getElem?_zipIdx, ho]⟩)
    have h2 := List.all_eq_true.1 h1 (o', j) (List.mem_iff_getElem?.2 ⟨j, by simp [List.getElem?_zipIdx, ho']⟩)
    simpa [hd, hd'] using h2
  have hlt : ∀ (i : Nat) (o : Oper), l[i]? = some o → ∀ j ∈ predsOf o, j < i := by
    intro i o ho j hj
    obtain ⟨k, hk⟩ := List.mem_iff_getElem?.1 (qall i (lt_of_get ho))
    exact ((qpre k i o hk ho).1 j hj).2
  have hsee : ∀ (i : Nat) (o : Oper), l[i]? = some o → ∀ s ∈ o.looksAt l.toArray, ∀ (j : Nat) (o' : Oper), l[j]? = some o' → o'.dst = some s → j ∈ predsOf o ∨ (j ∈ ef ∧ i ∈ closeP l l.length (predsOf o')) := by
    intro i o ho
    obtain ⟨k, hk⟩ := List.mem_iff_getElem?.1 (qall i (lt_of_get ho))
    exact (qpre k i o hk ho).2
  -- what stands in the rest of the sequence is nobody's predecessor that stands ahead
  have hdis : ∀ (m i j : Nat) (o : Oper), i ∈ q → i ∉ q.drop m → l[i]? = some o → j ∈ predsOf o → j ∉ q.drop m := by
    intro m i j o hi hn ho hj hjd
    obtain ⟨k, hk⟩ := List.mem_iff_getElem?.1 hi
    have hkm : k < m := by
      refine Classical.byContradiction fun hc => hn ?_
      exact List.mem_iff_getElem?.2 ⟨k - m, by rw [List.getElem?_drop, show m + (k - m) = k by omega]; exact hk⟩
    obtain ⟨h1, _⟩ := (qpre k i o hk ho).1 j hj
    obtain ⟨a, ha⟩ := List.mem_iff_getElem?.1 h1
    have hak := lt_of_get ha
    rw [List.length_take] at hak
    rw [List.getElem?_take_of_lt (by omega)] at ha
    obtain ⟨b, hb⟩ := List.mem_iff_getElem?.1 hjd
    rw [List.getElem?_drop] at hb
    have h4 := nodup_get k3 ha hb
    omega
  -- the quiet ones of a phase
  have hquiet : ∀ (m : Nat) (A rest : List Nat) (t t' : List AV), q.drop m = A ++ rest → (∀ i ∈ A, ∃ o d, l[i]? = some o ∧ o.dst = some d) → (∀ i ∈ A, i ∉ ef) → quietP κ P l F fr df A t t' → F σ0 →
      t'.length = t.length ∧ (∀ (k : Nat), (∀ (i : Nat) (o : Oper), i ∈ A → l[i]? = some o → o.dst ≠ some k) → t'[k]? = t[k]?) ∧ ∀ (i : Nat) (o : Oper), i ∈ A → l[i]? = some o → ∀ σ', F σ' → idemU κ P l t' σ' fr df o := by
    intro m A rest t t' hA hds hAe hqu hFs
    have hpick : ∀ (A : List Nat), (∀ i ∈ A, ∃ o d, l[i]? = some o ∧ o.dst = some d) → (pick l A).length = A.length ∧ ∀ (k i : Nat), A[k]? = some i → (pick l A)[k]? = l[i]? := by
      intro A
      induction A with
      | nil => intro _; exact ⟨rfl, fun k i hk => by simp at hk⟩
      | cons x A ih =>
        intro hA
        obtain ⟨o, d, ho, hd⟩ := hA x (by simp)
        obtain ⟨i1, i2⟩ := ih (fun i hi => hA i (by simp [hi]))
        have e : pick l (x :: A) = o :: pick l A := by simp [pick, ho]
        rw [e]
        refine ⟨by simp [i1], fun k i hk => ?_⟩
        cases k with
        | zero => simp at hk; subst hk; simpa using ho.symm
        | succ k => simp at hk; simpa using i2 k i hk
    obtain ⟨plen, pget⟩ := hpick A hds
    have pinv : ∀ (k : Nat) (o : Oper), (pick l A)[k]? = some o → ∃ i, A[k]? = some i ∧ l[i]? = some o := by
      intro k o hk
      have hkl := lt_of_get hk
      rw [plen] at hkl
      have h1 : A[k]? = some (A[k]'hkl) := List.getElem?_eq_getElem hkl
      exact ⟨_, h1, by rw [← pget k _ h1]; exact hk⟩
    have hAq : ∀ (k i : Nat), A[k]? = some i → q[m + k]? = some i := by
      intro k i hk
      have : (q.drop m)[k]? = some i := by rw [hA, List.getElem?_append_left (lt_of_get hk)]; exact hk
      rwa [List.getElem?_drop] at this
    have hnd : ∀ (k k' i : Nat), A[k]? = some i → A[k']? = some i → k = k' := by
      intro k k' i h1 h2
      have := nodup_get k3 (hAq k i h1) (hAq k' i h2)
      omega
    have base : ∀ σ', F σ' → t'.length = t.length ∧ (∀ (k : Nat), (∀ (i : Nat) (o : Oper), (pick l A)[i]? = some o → o.dst ≠ some k) → t'[k]? = t[k]?) ∧ ∀ (i : Nat) (o : Oper), (pick l A)[i]? = some o → idemU κ P l t' σ' fr df o := by
      intro σ' hs
      refine quiet_idem (fun i o ho => ?_) (fun i j o o' ho ho' he => ?_) (fun i j o o' k ho ho' hk hd => ?_) (hqu σ' hs)
      · obtain ⟨x, hx, hlx⟩ := pinv i o ho
        obtain ⟨o2, d, h1, h2⟩ := hds x (List.mem_of_getElem? hx)
        rw [hlx] at h1; cases h1
        exact ⟨d, h2⟩
      · obtain ⟨x, hx, hlx⟩ := pinv i o ho
        obtain ⟨y, hy, hly⟩ := pinv j o' ho'
        obtain ⟨o2, d, h1, h2⟩ := hds x (List.mem_of_getElem? hx)
        rw [hlx] at h1; cases h1
        have := huniq x y o o' d hlx hly h2 (by rw [← he]; exact h2)
        subst this
        exact hnd i j x hx hy
      · obtain ⟨x, hx, hlx⟩ := pinv i o ho
        obtain ⟨y, hy, hly⟩ := pinv j o' ho'
        have hp := (hsee x o hlx k hk y o' hly hd).resolve_right (fun h => hAe y (List.mem_of_getElem? hy) h.1)
        obtain ⟨h1, _⟩ := (qpre (m + i) x o (hAq i x hx) hlx).1 y hp
        obtain ⟨a, ha⟩ := List.mem_iff_getElem?.1 h1
        have hak := lt_of_get ha
        rw [List.length_take] at hak
        rw [List.getElem?_take_of_lt (by omega)] at ha
        have := nodup_get k3 ha (hAq j y hy)
        omega
    obtain ⟨b1, b2, _⟩ := base σ0 hFs
    refine ⟨b1, fun k hk => b2 k (fun i o ho => ?_), fun i o hi ho σ' hs => ?_⟩
    · obtain ⟨x, hx, hlx⟩ := pinv i o ho
      exact hk x o (List.mem_of_getElem? hx) hlx
    · obtain ⟨k, hk⟩ := List.mem_iff_getElem?.1 hi
      exact (base σ' hs).2.2 k o (by rw [pget k i hk]; exact ho)
  intro φ g0 a0 w0 hs0
  refine wpIn_region_any hm ?_
  have hAd : ∀ p ∈ ((A0, c0) :: r0), ∀ i ∈ p.1, ∃ o d, l[i]? = some o ∧ o.dst = some d := by
    intro p hp i hi
    have h1 := List.all_eq_true.1 k5 p hp
    have h2 := List.all_eq_true.1 h1 i hi
    cases ho : l[i]? with
    | none => simp [ho] at h2
    | some o => simp [ho] at h2; exact ⟨o, _, rfl, (Option.isSome_iff_exists.1 h2).choose_spec⟩
  -- those that write and those that may be drawn are apart
  have hnd0 : (seqP ((A0, c0) :: r0)).Nodup := by rw [hq]; exact k3
  have hApart : ∀ (ps : Ph), (seqP ps).Nodup → ∀ p ∈ ps, ∀ i ∈ p.1, i ∉ effP ps := by
    intro ps
    induction ps with
    | nil => intro _ p hp; cases hp
    | cons p0 ps ih =>
      intro hnd p hp i hi hie
      have e1 : seqP (p0 :: ps) = p0.1 ++ (p0.2.toList ++ seqP ps) := by simp [seqP, List.append_assoc]
      have e2 : effP (p0 :: ps) = p0.2.toList ++ effP ps := by simp [effP]
      have hsub : ∀ (ps : Ph) (i : Nat), i ∈ effP ps → i ∈ seqP ps := by
        intro ps i hi
        simp only [effP, seqP, List.mem_flatMap] at hi ⊢
        obtain ⟨p, h1, h2⟩ := hi
        exact ⟨p, h1, List.mem_append.2 (.inr h2)⟩
      have hsub1 : ∀ (ps : Ph) (p : List Nat × Option Nat), p ∈ ps → ∀ i ∈ p.1, i ∈ seqP ps := by
        intro ps p hp i hi
        simp only [seqP, List.mem_flatMap]
        exact ⟨p, hp, List.mem_append.2 (.inl hi)⟩
      rw [e1] at hnd
      rw [e2] at hie
      obtain ⟨n1, n2, n3⟩ := List.nodup_append.1 hnd
      obtain ⟨n4, n5, n6⟩ := List.nodup_append.1 n2
      rcases List.mem_cons.1 hp with rfl | hp
      · rcases List.mem_append.1 hie with h | h
        · exact n3 i hi i (List.mem_append.2 (.inl h)) rfl
        · exact n3 i hi i (List.mem_append.2 (.inr (hsub ps i h))) rfl
      · rcases List.mem_append.1 hie with h | h
        · exact n6 i h i (hsub1 ps p hp i hi) rfl
        · exact ih n5 p hp i hi h
  -- the machine's road
  have main : ∀ (fuel : Nat) (c : Option Nat) (r : Ph) (m : Nat) (listed : Array Bool) (t : List AV) (σ : List Res) (g : Nat → Nat) (a : Act) (w : World) (ds : List Nat),
      lateP c r = q.drop m → okChain l (([], c) :: r) = true → (∀ p ∈ r, ∀ i ∈ p.1, (∃ o d, l[i]? = some o ∧ o.dst = some d) ∧ i ∉ ef) → (∀ i ∈ ef, i ∉ lateP c r → listed.getD i false = true) → listed.size = l.length →
      (∀ (i : Nat) (o : Oper), listed.getD i false = true → l[i]? = some o → ∀ j ∈ predsOf o, listed.getD j false = true) →
      (∀ i ∈ lateP c r, listed.getD i false = false) →
      (∀ (i : Nat) (o : Oper), l[i]? = some o → i ∉ lateP c r → listed.getD i false = true ∨ ∃ d, o.dst = some d ∧ ∀ σ', F σ' → idemU κ P l t σ' fr df o) →
      F σ → unl listed l.length ≤ fuel → a.defers = ds.map mkMark ++ df → (fr = true → ds = []) → Rel κ g (φ ++ (ds.map dres ++ σ)) w → GE g0 w0 g w → a.tmps.size = t.length →
      (∀ (k : Nat) (x : AV), t[k]? = some x → (∀ (i : Nat) (o : Oper), i ∉ lateP c r → l[i]? = some o → o.dst = some k → listed.getD i false = true) → VR g w x (a.tmps.getD k undef)) →
      phC κ P l F fr df Q c r t σ → wpAnyIn (FD rd) 0 P .any l.toArray (Post κ φ g0 w0 Q) fuel listed a w := by
    intro fuel
    -- the end
    have fin : ∀ (c : Option Nat) (r : Ph) (m : Nat) (listed : Array Bool) (t : List AV) (σ : List Res) (g : Nat → Nat) (a : Act) (w : World) (ds : List Nat), (∀ i, i < l.length → listed.getD i false = true) → lateP c r = q.drop m → (∀ i ∈ lateP c r, listed.getD i false = false) →
        a.defers = ds.map mkMark ++ df → (fr = true → ds = []) → Rel κ g (φ ++ (ds.map dres ++ σ)) w → GE g0 w0 g w → a.tmps.size = t.length →
        (∀ (k : Nat) (x : AV), t[k]? = some x → (∀ (i : Nat) (o : Oper), i ∉ lateP c r → l[i]? = some o → o.dst = some k → listed.getD i false = true) → VR g w x (a.tmps.getD k undef)) → phC κ P l F fr df Q c r t σ → Post κ φ g0 w0 Q .normal a w := by
      intro c r m listed t σ g a w ds hall hlm hlate hd hfr hR hg hts hv hph
      cases c with
      | some e =>
        have h1 := hlate e (by simp [lateP])
        rw [hall e (qlt e (List.mem_of_mem_drop (by rw [← hlm]; simp [lateP])))] at h1
        cases h1
      | none => rw [phC_none] at hph; exact ⟨g, ⟨t, σ, fr, df⟩, ⟨ds, hd, hfr, hR, hts, fun k x hk => hv k x hk (fun i o _ ho _ => hall i (lt_of_get ho))⟩, hg, hph⟩
    induction fuel with
    | zero =>
      intro c r m listed t σ g a w ds hlm hch hrd hefl hsz hcl hlate hpend hF hu hd hfr hR hg hts hv hph
      have hall := unl_zero (Nat.le_zero.1 hu)
      refine ⟨List.eq_nil_iff_forall_not_mem.2 fun i hi => ?_, fin c r m listed t σ g a w ds hall hlm hlate hd hfr hR hg hts hv hph⟩
      obtain ⟨h1, h2, _⟩ := mem_ready.1 hi
      rw [getD_tt hsz (by simpa using h1), hall i (by simpa using h1)] at h2
      cases h2
    | succ fuel ih =>
      intro c r m listed t σ g a w ds hlm hch hrd hefl hsz hcl hlate hpend hF hu hd hfr hR hg hts hv hph
      refine ⟨fun hr => ?_, fun i hi => ?_⟩
      · refine fin c r m listed t σ g a w ds (fun i hi => ?_) hlm hlate hd hfr hR hg hts hv hph
        refine Classical.byContradiction fun hc => ?_
        obtain ⟨k, hk⟩ := ready_some hsz hlt i i (Nat.le_refl _) hi (by simpa using hc)
        rw [hr] at hk; cases hk
      · obtain ⟨h1, h2, h3⟩ := mem_ready.1 hi
        have hil : i < l.length := by simpa using h1
        rw [getD_tt hsz hil] at h2
        have ho : l[i]? = some (l[i]'hil) := List.getElem?_eq_getElem hil
        have ho' : l.toArray[i]? = some (l[i]'hil) := by simp
        have hpre : ∀ j ∈ predsOf (l[i]'hil), listed.getD j false = true := h3 _ ho'
        -- the slots, those that are still to come left open
        have key : ∃ tM : List AV, tM.length = t.length ∧ (∀ (k : Nat) (x : AV), tM[k]? = some x → x = .any ∨ ((∀ (i : Nat) (o : Oper), i ∉ lateP c r → l[i]? = some o → o.dst = some k → listed.getD i false = true) ∧ t[k]? = some x)) ∧ (∀ (k : Nat), (∀ (i : Nat) (o : Oper), i ∉ lateP c r → l[i]? = some o → o.dst = some k → listed.getD i false = true) → tM[k]? = t[k]?) := by
          refine ⟨t.zipIdx.map fun p => @ite _ (∀ (i : Nat) (o : Oper), i ∉ lateP c r → l[i]? = some o → o.dst = some p.2 → listed.getD i false = true) (Classical.propDecidable _) p.1 .any, by simp, fun k x hx => ?_, fun k hk => ?_⟩
          · rw [List.getElem?_map, List.getElem?_zipIdx] at hx
            cases hy : t[k]? with
            | none => simp [hy] at hx
            | some y =>
              simp only [hy, Option.map_some, Nat.zero_add, Option.some.injEq] at hx
              split at hx
              · rename_i hc; subst hx; exact .inr ⟨hc, rfl⟩
              · exact .inl hx.symm
          · rw [List.getElem?_map, List.getElem?_zipIdx]
            cases hy : t[k]? with
            | none => rfl
            | some y =>
              simp only [Option.map_some, Nat.zero_add, Option.some.injEq]
              rw [if_pos hk]
        obtain ⟨tM, hM1, hM2, hM3⟩ := key
        have hsM : SR κ φ g ⟨tM, σ, fr, df⟩ a w := by
          refine ⟨ds, hd, hfr, hR, by rw [hts, hM1], fun k x hx => ?_⟩
          rcases hM2 k x hx with rfl | ⟨hc, hx'⟩
          · exact .any _
          · exact hv k x hx' hc
        have hsame : ∀ k ∈ (l[i]'hil).looksAt l.toArray, t[k]? = tM[k]? := fun k hk =>
          (hM3 k (fun j o hjn hoj hdj => (hsee i _ ho k hk j o hoj hdj).elim (hpre j) (fun h => hefl j h.1 hjn))).symm
        have hcl' : ∀ (j : Nat) (o : Oper), (listed.setIfInBounds i true).getD j false = true → l[j]? = some o → ∀ k ∈ predsOf o, (listed.setIfInBounds i true).getD k false = true := by
          intro j o hj hoj k hk
          rw [listed_set hsz hil] at hj ⊢
          split
          · rfl
          · split at hj
            · rename_i e; subst e
              rw [ho] at hoj; cases hoj
              exact hpre k hk
            · exact hcl j o hj hoj k hk
        have hu' : unl (listed.setIfInBounds i true) l.length ≤ fuel := by
          have := unl_set hsz hil (by rw [getD_tt hsz hil]; exact h2)
          omega
        have hlset : ∀ j, (listed.setIfInBounds i true).getD j false = true ↔ j = i ∨ listed.getD j false = true := by
          intro j
          rw [listed_set hsz hil]
          split
          · rename_i e; simp [e]
          · rename_i e; simp [e]
        unfold wpOpIn
        rw [ho']
        by_cases hL : i ∈ lateP c r
        · -- the operation that writes
          cases c with
          | none => simp [lateP] at hL
          | some e =>
          have hie : i = e := by
            simp only [lateP, List.mem_cons] at hL
            rcases hL with hL | hL
            · exact hL
            · exfalso
              simp only [okChain, Bool.and_eq_true] at hch
              have h4 := List.all_eq_true.1 hch.1 i hL
              simp only [ho] at h4
              have h5 := closeP_listed (L := fun j => listed.getD j false = true) (fun j o hj ho => hcl j o hj ho) l.length (predsOf (l[i]'hil)) hpre e (by simpa using h4)
              rw [hlate e (by simp [lateP])] at h5
              cases h5
          subst hie
          obtain ⟨o, hoe, hgd, hop⟩ := phC_some hph
          rw [ho] at hoe
          cases hoe
          have hq1 : i :: seqP r = q.drop m := hlm
          have hopM := opR_congr (s := ⟨t, σ, fr, df⟩) (s' := ⟨tM, σ, fr, df⟩) rfl (ev_of_looks hsame) hop
          have hgR : guardR l (l[i]'hil) ⟨tM, σ, fr, df⟩ (opR κ false P (l[i]'hil) ⟨tM, σ, fr, df⟩ (fun x σ' => F σ' ∧ phK κ P l F fr df Q r (setT t (l[i]'hil).dst x) σ') (fun _ _ => False)) False := by
            unfold guardR; rw [hgd]; exact hopM
          refine ops_stepG hgR hsM (fun g' a' w' x σ' hs' hge' hk => ?_) (fun hf => hf.elim) (fun g' w' c' σ' _ _ hf => hf.elim)
          obtain ⟨hF', hk⟩ := hk
          obtain ⟨ds', hd', hfr', hR', ht'⟩ := hs'
          simp only at ht' hR' hd' hfr'
          -- what is known of the slots behind it
          have hlate_i : ∀ j, j ∈ lateP (some i) r ↔ j = i ∨ j ∈ seqP r := fun j => by simp [lateP]
          have hq2 : q.drop (m + 1) = seqP r := by
            have := congrArg (List.drop 1) hq1
            simpa [List.drop_drop, Nat.add_comm] using this.symm
          have hpendi : ∀ (j : Nat) (o : Oper), l[j]? = some o → j ∉ seqP r → j = i ∨ j ∉ lateP (some i) r := by
            intro j o hj hn
            by_cases e : j = i
            · exact .inl e
            · exact .inr (by rw [hlate_i]; rintro (h | h); exact e h; exact hn h)
          have hnpred : ∀ (j : Nat) (o : Oper), l[j]? = some o → j ∉ lateP (some i) r → i ∉ predsOf o := by
            intro j o hj hn hp
            rw [hlm] at hn
            exact hdis m j i o (qall j (lt_of_get hj)) hn hj hp (by rw [← hq1]; simp)
          -- the slots at t1
          have hv1 : ∀ (k : Nat) (y : AV), (setT t (l[i]'hil).dst x)[k]? = some y → (∀ (j : Nat) (o : Oper), j ∉ seqP r → l[j]? = some o → o.dst = some k → (listed.setIfInBounds i true).getD j false = true) → VR g' w' y (a'.tmps.getD k undef) := by
            intro k y hy hkn
            refine ht'.get k y ?_
            have hknown : (l[i]'hil).dst ≠ some k → ∀ (j : Nat) (o : Oper), j ∉ lateP (some i) r → l[j]? = some o → o.dst = some k → listed.getD j false = true := by
              intro hne j o hj hoj hdj
              have := hkn j o (fun hm => hj ((hlate_i j).2 (.inr hm))) hoj hdj
              rcases (hlset j).1 this with e | e
              · subst e; rw [ho] at hoj; cases hoj; exact (hne hdj).elim
              · exact e
            cases hdd : (l[i]'hil).dst with
            | none =>
              rw [hdd] at hy hknown
              simp only [setT] at hy ⊢
              rw [hM3 k (hknown (by simp))]; exact hy
            | some d =>
              rw [hdd] at hy hknown
              simp only [setT] at hy ⊢
              by_cases e : d = k
              · subst e
                rw [List.getElem?_set] at hy ⊢
                rw [if_pos rfl] at hy ⊢
                rw [hM1]; exact hy
              · rw [List.getElem?_set_ne e] at hy ⊢
                rw [hM3 k (hknown (by simpa using e))]; exact hy
          have hmove : ∀ (j : Nat) (o : Oper) (d : Tmp), l[j]? = some o → j ∉ lateP (some i) r → o.dst = some d → (∀ σ', F σ' → idemU κ P l t σ' fr df o) → j ≠ i → ¬ listed.getD j false = true → ∀ σ', F σ' → idemU κ P l (setT t (l[i]'hil).dst x) σ' fr df o := by
            intro j o d hj hn hdj hid hne hunl σ' hs
            refine idemU_move hdj (setT_length _ _ _) (fun k hk => (setT_other (fun e => ?_)).symm) (setT_other (fun e => ?_)).symm (hid σ' hs)
            · rcases hsee j o hj k hk i _ ho e with h | h
              · exact hnpred j o hj hn h
              · exact hunl (closeP_listed (L := fun j => listed.getD j false = true) (fun j o hj ho => hcl j o hj ho) l.length _ hpre j h.2)
            · exact hne (huniq j i o _ d hj ho hdj e)
          have ht1 : a'.tmps.size = (setT t (l[i]'hil).dst x).length := by rw [ht'.size, setT_length, setT_length, hM1]
          cases r with
          | nil =>
            have hk : Q .normal ⟨setT t (l[i]'hil).dst x, σ', fr, df⟩ := hk
            refine ih none [] (m + 1) _ (setT t (l[i]'hil).dst x) σ' g' a' w' ds' (by rw [hq2]; rfl) rfl (fun p hp => by cases hp) (fun j hje _ => ?_) (by simpa using hsz) hcl' (fun j hj => by simp [lateP] at hj) (fun j o hj _ => ?_) hF' hu' hd' hfr' hR' (hg.trans hge') ht1 (fun k y hy hkn => hv1 k y hy (fun j o hjs => hkn j o (by simp [lateP]))) hk
            · by_cases e : j = i
              · exact (hlset j).2 (.inl e)
              · exact (hlset j).2 (.inr (hefl j hje (by rw [hlate_i]; rintro (h | h); exact e h; simp [seqP] at h)))
            rcases hpendi j o hj (by simp [seqP]) with e | e
            · exact .inl ((hlset j).2 (.inl e))
            · by_cases hji : j = i
              · exact .inl ((hlset j).2 (.inl hji))
              · by_cases hjl : listed.getD j false = true
                · exact .inl ((hlset j).2 (.inr hjl))
                · rcases hpend j o hj e with h5 | ⟨d, h5, h6⟩
                  · exact (hjl h5).elim
                  · exact .inr ⟨d, h5, hmove j o d hj e h5 h6 hji hjl⟩
          | cons p r' =>
            obtain ⟨A, c'⟩ := p
            obtain ⟨t2, hqu, hph2⟩ := hk
            have hch2 : okChain l ((A, c') :: r') = true := by
              simp only [okChain, Bool.and_eq_true] at hch
              exact hch.2
            have hlate2 : seqP ((A, c') :: r') = A ++ lateP c' r' := by
              cases c' with
              | some e' => simp [seqP, lateP]
              | none =>
                simp only [okChain] at hch2
                have : r' = [] := by simpa using hch2
                subst this
                simp [seqP, lateP]
            have hAdst : ∀ i ∈ A, ∃ o d, l[i]? = some o ∧ o.dst = some d := fun i hi => (hrd (A, c') (by simp) i hi).1
            have hq3 : q.drop (m + 1) = A ++ lateP c' r' := by rw [hq2, hlate2]
            obtain ⟨u1, u2, u3⟩ := hquiet (m + 1) A (lateP c' r') _ t2 hq3 hAdst (fun i hi => (hrd (A, c') (by simp) i hi).2) hqu hF0
            have hq4 : lateP c' r' = q.drop (m + 1 + A.length) := by
              have := congrArg (List.drop A.length) hq3
              rw [List.drop_drop, List.drop_left] at this
              exact this.symm
            have hnA : ∀ (j : Nat), j ∈ lateP c' r' → j ∉ A := by
              intro j h1 h2
              have hnd : (A ++ lateP c' r').Nodup := by rw [← hq3]; exact k3.sublist (List.drop_sublist _ _)
              exact (List.nodup_append.1 hnd).2.2 j h2 j h1 rfl
            have hch3 : okChain l (([], c') :: r') = true := by
              cases c' with
              | none => simpa [okChain] using hch2
              | some e' => simpa [okChain] using hch2
            refine ih c' r' (m + 1 + A.length) _ t2 σ' g' a' w' ds' hq4 hch3 (fun p hp => hrd p (by simp [hp])) (fun j hje hjn => ?_) (by simpa using hsz) hcl' (fun j hj => ?_) (fun j o hj hn => ?_) hF' hu' hd' hfr' hR' (hg.trans hge') (by rw [ht1, u1]) (fun k y hy hkn => ?_) hph2
            · by_cases e : j = i
              · exact (hlset j).2 (.inl e)
              · refine (hlset j).2 (.inr (hefl j hje ?_))
                rw [hlate_i, hlate2]
                rintro (h | h)
                · exact e h
                · rcases List.mem_append.1 h with h | h
                  · exact (hrd (A, c') (by simp) j h).2 hje
                  · exact hjn h
            · have hjs : j ∈ seqP ((A, c') :: r') := by rw [hlate2]; exact List.mem_append.2 (.inr hj)
              have h5 := hlate j ((hlate_i j).2 (.inr hjs))
              cases h6 : (listed.setIfInBounds i true).getD j false with
              | false => rfl
              | true =>
                rcases (hlset j).1 h6 with e | e
                · subst e
                  have hnd : (j :: seqP ((A, c') :: r')).Nodup := by rw [hq1]; exact k3.sublist (List.drop_sublist _ _)
                  exact ((List.nodup_cons.1 hnd).1 hjs).elim
                · rw [h5] at e; cases e
            · by_cases hjA : j ∈ A
              · obtain ⟨o2, d, h5, h6⟩ := hAdst j hjA
                rw [hj] at h5; cases h5
                exact .inr ⟨d, h6, u3 j o hjA hj⟩
              · rcases hpendi j o hj (by rw [hlate2]; intro hc; rcases List.mem_append.1 hc with h | h; exact hjA h; exact hn h) with e | e
                · exact .inl ((hlset j).2 (.inl e))
                · by_cases hji : j = i
                  · exact .inl ((hlset j).2 (.inl hji))
                  · by_cases hjl : listed.getD j false = true
                    · exact .inl ((hlset j).2 (.inr hjl))
                    rcases hpend j o hj e with h5 | ⟨d, h5, h6⟩
                    · exact (hjl h5).elim
                    · refine .inr ⟨d, h5, fun σ2 hs2 => ?_⟩
                      refine idemU_move h5 u1 (fun k hk => (u2 k (fun b o' hb hob hdb => ?_)).symm) (u2 d (fun b o' hb hob hdb => ?_)).symm (hmove j o d hj e h5 h6 hji hjl σ2 hs2)
                      · have hp := (hsee j o hj k hk b o' hob hdb).resolve_right (fun h => (hrd (A, c') (by simp) b hb).2 h.1)
                        have hjn : j ∉ q.drop m := by rw [← hlm]; exact e
                        refine hdis m j b o (qall j (lt_of_get hj)) hjn hj hp ?_
                        rw [← hq1, hlate2]
                        simp [hb]
                      · have := huniq j b o o' d hj hob h5 hdb
                        subst this
                        exact hjA hb
            · by_cases hkA : ∃ b o', b ∈ A ∧ l[b]? = some o' ∧ o'.dst = some k
              · exfalso
                obtain ⟨b, o', hb, hob, hdb⟩ := hkA
                have h5 := hkn b o' (fun hc => hnA b hc hb) hob hdb
                have hbs : b ∈ seqP ((A, c') :: r') := by rw [hlate2]; exact List.mem_append.2 (.inl hb)
                rcases (hlset b).1 h5 with e | e
                · subst e
                  have hnd : (b :: seqP ((A, c') :: r')).Nodup := by rw [hq1]; exact k3.sublist (List.drop_sublist _ _)
                  exact (List.nodup_cons.1 hnd).1 hbs
                · rw [hlate b ((hlate_i b).2 (.inr hbs))] at e; cases e
              · have h5 := u2 k (fun b o' hb hob hdb => hkA ⟨b, o', hb, hob, hdb⟩)
                rw [h5] at hy
                exact hv1 k y hy (fun j o hjs hoj hdj => hkn j o (fun hc => hjs (by rw [hlate2]; exact List.mem_append.2 (.inr hc))) hoj hdj)
        · -- one that may be drawn
          rcases hpend i _ ho hL with h5 | ⟨d, hdd, hid⟩
          · rw [h2] at h5; cases h5
          · have hid' := idemU_ops (hid σ hF)
            simp only [opsR] at hid'
            have hgM := guardR_congr (s := ⟨t, σ, fr, df⟩) (s' := ⟨tM, σ, fr, df⟩) (fun j want k hgd hk => getD_of_get? (hsame k (looks_guard hgd hk))) (fun hr => opR_congr (s := ⟨t, σ, fr, df⟩) (s' := ⟨tM, σ, fr, df⟩) rfl (ev_of_looks hsame) hr) hid'
            have fin2 : ∀ (g' : Nat → Nat) (a' : Act) (w' : World) (x : AV) (σ' : List Res), SR κ φ g' ⟨setT tM (l[i]'hil).dst x, σ', fr, df⟩ a' w' → GE g w g' w' → isF t σ fr df .normal ⟨setT t (l[i]'hil).dst x, σ', fr, df⟩ → wpAnyIn (FD rd) 0 P .any l.toArray (Post κ φ g0 w0 Q) fuel (listed.setIfInBounds i true) a' w' := by
              intro g' a' w' x σ' hs' hge' hk
              obtain ⟨_, hk⟩ := hk
              simp only [St.mk.injEq] at hk
              obtain ⟨hy2, rfl, _, _⟩ := hk
              rw [hdd] at hy2
              obtain ⟨ds', hd', hfr', hR', ht'⟩ := hs'
              refine ih c r m _ t _ g' a' w' ds' hlm hch hrd (fun j hje hjn => (hlset j).2 (.inr (hefl j hje hjn))) (by simpa using hsz) hcl' (fun j hj => ?_) (fun j o hj hn => ?_) hF hu' hd' hfr' hR' (hg.trans hge') (by rw [ht'.size, setT_length, hM1]) (fun k z hz hw => ?_) hph
              · cases h6 : (listed.setIfInBounds i true).getD j false with
                | false => rfl
                | true =>
                  rcases (hlset j).1 h6 with e | e
                  · subst e; exact (hL hj).elim
                  · rw [hlate j hj] at e; cases e
              · rcases hpend j o hj hn with h6 | h6
                · exact .inl ((hlset j).2 (.inr h6))
                · exact .inr h6
              · refine ht'.get k z ?_
                simp only [hdd]
                simp only [setT] at hy2 ⊢
                by_cases e : d = k
                · subst e
                  have hlen : d < t.length := lt_of_get hz
                  have h5 : t[d]? = some x := by
                    have := congrArg (fun l : List AV => l[d]?) hy2
                    simp only [List.getElem?_set_self hlen] at this
                    exact this.symm
                  rw [hz] at h5; cases h5
                  rw [List.getElem?_set_self (by rw [hM1]; exact hlen)]
                · rw [List.getElem?_set_ne e]
                  rw [hM3 k (fun j o hj hoj hdj => ?_)]
                  · exact hz
                  · rcases (hlset j).1 (hw j o hj hoj hdj) with e2 | e2
                    · subst e2
                      rw [ho] at hoj; cases hoj
                      rw [hdd] at hdj
                      exact (e (Option.some.inj hdj)).elim
                    · exact e2
            exact ops_stepG hgM hsM (fun g' a' w' x σ' hs' hge' hk => fin2 g' a' w' x σ' hs' hge' hk) (fun hy hs' => fin2 g _ w U σ hs' (GE.refl _ _) hy) (fun g' w' c σ' hs' hge' hk => (by cases hk.1))
  obtain ⟨t1, hqu, hph⟩ := h
  obtain ⟨ds, hd, hfr, hR, ht⟩ := hs0
  have hlate0 : q = A0 ++ lateP c0 r0 := by
    rw [← hq]
    cases c0 with
    | some e' => simp [seqP, lateP]
    | none =>
      simp only [okChain] at k7
      have : r0 = [] := by simpa using k7
      subst this
      simp [seqP, lateP]
  obtain ⟨u1, u2, u3⟩ := hquiet 0 A0 (lateP c0 r0) t0 t1 (by simpa using hlate0) (hAd (A0, c0) (by simp)) (fun i hi => by rw [← hef]; exact hApart _ hnd0 (A0, c0) (by simp) i hi) hqu hF0
  have hf0 : ∀ i, (Array.replicate l.toArray.size false).getD i false = false := fun i => by
    simp only [Array.getD_eq_getD_getElem?, Array.getElem?_replicate]
    split <;> rfl
  have hch0 : okChain l (([], c0) :: r0) = true := by
    cases c0 with
    | none => simpa [okChain] using k7
    | some e' => simpa [okChain] using k7
  refine main l.toArray.size c0 r0 A0.length _ t1 σ0 g0 a0 _ ds ?_ hch0 (fun p hp i hi => ⟨hAd p (by simp [hp]) i hi, by rw [← hef]; exact hApart _ hnd0 p (by simp [hp]) i hi⟩) (fun i hie hin => ?_) (by simp) (fun i o hi => by rw [hf0] at hi; cases hi) (fun i _ => hf0 i) (fun i o hi hn => ?_) hF0 ?_ hd hfr (hR.of_heap rfl rfl rfl rfl) (GE.of_heap rfl) (by rw [ht.size, u1]) (fun k x hx hw => ?_) hph
  · rw [hlate0, List.drop_left]
  · exfalso
    have h5 : i ∈ seqP ((A0, c0) :: r0) := by
      rw [← hef] at hie
      simp only [effP, seqP, List.mem_flatMap] at hie ⊢
      obtain ⟨p, h1, h2⟩ := hie
      exact ⟨p, h1, List.mem_append.2 (.inr h2)⟩
    rw [hq, hlate0] at h5
    rcases List.mem_append.1 h5 with h | h
    · exact hApart _ hnd0 (A0, c0) (by simp) i h (by rw [hef]; exact hie)
    · exact hin h
  · have hiA : i ∈ A0 := by
      have := qall i (lt_of_get hi)
      rw [hlate0] at this
      exact (List.mem_append.1 this).resolve_right hn
    obtain ⟨o2, d, h5, h6⟩ := hAd (A0, c0) (by simp) i hiA
    rw [hi] at h5; cases h5
    exact .inr ⟨d, h6, u3 i o hiA hi⟩
  · unfold unl
    exact Nat.le_trans (List.length_filter_le _ _) (by simp)
  · have hkA : ∀ (b : Nat) (o' : Oper), b ∈ A0 → l[b]? = some o' → o'.dst ≠ some k := by
      intro b o' hb hob hdb
      have hn : b ∉ lateP c0 r0 := by
        intro hc
        have hnd : (A0 ++ lateP c0 r0).Nodup := by rw [← hlate0]; exact k3
        exact (List.nodup_append.1 hnd).2.2 b hb b hc rfl
      have := hw b o' hn hob hdb
      rw [hf0] at this; cases this
    rw [u2 k hkA] at hx
    have := ht.get k x hx
    exact VR.mono (GE.of_heap (g := g0) (w := w0) (w' := { w0 with drawn := w0.drawn + 1 }) rfl) this

/-! ### For walks -/
def phE (κ : Ctx) (P : Program) (l : List Oper) (F : List Res → Prop) (fr : Bool) (df : List Deferred) (Q : Exit → St → Prop) (A : List Nat) (c : Option Nat) (r : Ph) (t : List AV) (σ : List Res) : Prop :=
  ∃ t', (∀ σ', F σ' → opsR κ true P l (isT t' σ') (pick l A) ⟨t, σ', fr, df⟩) ∧ phC κ P l F fr df Q c r t' σ
def phQ (κ : Ctx) (P : Program) (l : List Oper) (F : List Res → Prop) (Q : Exit → St → Prop) (r : Ph) (e : Exit) (s : St) : Prop := e = .normal ∧ F s.σ ∧ phK κ P l F s.fr s.df Q r s.t s.σ
def pickO : Option Oper → List Oper → List Oper
  | some o, r => o :: r
  | none, r => r
theorem pick_nil {l : List Oper} : pick l [] = [] := rfl
theorem pick_cons {l : List Oper} {i : Nat} {A : List Nat} : pick l (i :: A) = pickO (l[i]?) (pick l A) := by
  unfold pick
  rw [List.filterMap_cons]
  cases l[i]? <;> rfl
theorem pickO_some {o : Oper} {r : List Oper} : pickO (some o) r = o :: r := rfl
variable {l : List Oper} {F : List Res → Prop} {fr : Bool} {df : List Deferred} {Q : Exit → St → Prop} {A : List Nat} {c : Option Nat} {r : Ph} {t t' : List AV} {σ : List Res}
theorem phE_intro (t' : List AV) (h1 : ∀ σ', F σ' → opsR κ true P l (isT t' σ') (pick l A) ⟨t, σ', fr, df⟩) (h2 : phC κ P l F fr df Q c r t' σ) : phE κ P l F fr df Q A c r t σ := ⟨t', h1, h2⟩
theorem AW_phE {id : Nat} (A0 : List Nat) (c0 : Option Nat) (r0 : Ph) (F : List Res → Prop) (hF0 : F σ) (hm : P.follows .mixedOrders = true) (hok : phOk l ((A0, c0) :: r0) = true) (h : phE κ P l F fr df Q A0 c0 r0 t σ) : AW κ rd P (.region id l.toArray true) Q ⟨t, σ, fr, df⟩ :=
  AW_ph A0 c0 r0 F hF0 hm hok h
theorem phC_ops {e : Nat} {o : Oper} (ho : l[e]? = some o) (hg : o.guard = none) (h : opsR κ false P l (phQ κ P l F Q r) [o] ⟨t, σ, fr, df⟩) : phC κ P l F fr df Q (some e) r t σ := by
  have key : opR κ false P o ⟨t, σ, fr, df⟩ (fun x σ' => F σ' ∧ phK κ P l F fr df Q r (setT t o.dst x) σ') (fun _ _ => False) := by
    simp only [opsR, guardR, hg] at h
    have e1 : (fun x σ' => phQ κ P l F Q r Exit.normal { t := setT t o.dst x, σ := σ', fr := fr, df := df }) = fun x σ' => F σ' ∧ phK κ P l F fr df Q r (setT t o.dst x) σ' := by
      funext x σ'; simp [phQ]
    have e2 : (fun c σ' => phQ κ P l F Q r (Exit.panic c) { t := t, σ := σ', fr := fr, df := df }) = fun _ _ => False := by
      funext c σ'; simp [phQ]
    rw [e1, e2] at h
    exact h
  cases r with
  | nil => exact ⟨o, ho, hg, key⟩
  | cons p r => exact ⟨o, ho, hg, key⟩
theorem phQ_mk (hF : F σ) (h : phK κ P l F fr df Q r t σ) : phQ κ P l F Q r .normal ⟨t, σ, fr, df⟩ := ⟨rfl, hF, h⟩
theorem phK_nil : phK κ P l F fr df Q [] t σ = Q .normal ⟨t, σ, fr, df⟩ := rfl
theorem phK_cons : phK κ P l F fr df Q ((A, c) :: r) t σ = phE κ P l F fr df Q A c r t σ := rfl
end
end Go.Abs
