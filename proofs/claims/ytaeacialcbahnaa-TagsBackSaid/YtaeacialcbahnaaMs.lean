/-
  The abstract layer, part s: a region that draws its order, walked once: each operation ahead has one value and turns nothing.
-/
import Derived.Test.YtaeacialcbahnaaMr
namespace Go.Abs
open Go.RowKit

section
variable {κ : Ctx} {P : Program} {rd : Option Nat} {σ : List Res} {K : AV → List Res → Prop}

theorem okV_det {v : Option Value} {K : AV → List Res → Prop} (h : okV v fun x => K x σ) : ∃ x, (∀ K' : AV → List Res → Prop, K' x σ → okV v fun y => K' y σ) ∧ K x σ := by
  cases v with
  | none => exact h.elim
  | some v => exact ⟨_, fun _ hk => hk, h⟩

theorem isA_self {x : AV} : isA x σ x σ := ⟨rfl, rfl⟩

theorem actM_det {m : MA} {xs : List AV} (h : actM κ true P m xs σ K) : ∃ v, (∀ K' : AV → List Res → Prop, K' v σ → actM κ false P m xs σ K') ∧ K v σ := by
  obtain ⟨x, h1, h2⟩ := h
  exact ⟨x, fun K' hk => AAct.mono h1 (fun y σ' hy => by obtain ⟨rfl, rfl⟩ := hy; exact hk), h2⟩

theorem binR_det {op : BinOp} {t : TypeId} {x y : AV} (h : binR κ true P op t x y σ K) : ∃ v, (∀ K' : AV → List Res → Prop, K' v σ → binR κ false P op t x y σ K') ∧ K v σ := by
  unfold binR at h ⊢
  split at h
  · split at h
    · obtain ⟨v, h1, h2⟩ := okV_det h; exact ⟨v, h1, h2⟩
    · obtain ⟨v, h1, h2⟩ := okV_det h; exact ⟨v, h1, h2⟩
    · rename_i n1 n2
      obtain ⟨he, h⟩ := h
      obtain ⟨v, h1, h2⟩ := okV_det h
      refine ⟨v, ?_, h2⟩
      intro K' hk
      cases op <;> first | exact ⟨he, h1 K' hk⟩ | exact (n1 rfl).elim | exact (n2 rfl).elim
  · exact okV_det h
  · split at h
    · exact ⟨_, fun _ hk => ⟨h.1, hk⟩, h.2⟩
    · exact ⟨_, fun _ hk => ⟨h.1, hk⟩, h.2⟩
    · exact h.elim
  · split at h
    · obtain ⟨h1, ⟨h2, h3⟩ | ⟨h2, _⟩⟩ := h
      · exact ⟨_, fun _ hk => ⟨h1, .inl ⟨h2, hk⟩⟩, h3⟩
      · cases h2
    · obtain ⟨h1, ⟨h2, h3⟩ | ⟨h2, _⟩⟩ := h
      · exact ⟨_, fun _ hk => ⟨h1, .inl ⟨h2, hk⟩⟩, h3⟩
      · cases h2
    · exact h.elim
  · split at h
    · exact ⟨_, fun _ hk => ⟨h.1, hk⟩, h.2⟩
    · exact ⟨_, fun _ hk => ⟨h.1, hk⟩, h.2⟩
    · exact h.elim
  · rename_i n1 n2 n3 n4 n5
    obtain ⟨v, h1, h2⟩ := actM_det h
    exact ⟨v, h1, h2⟩

theorem lenR_det {t : TypeId} {x : AV} (h : lenR κ true P t x σ K) : ∃ v, (∀ K' : AV → List Res → Prop, K' v σ → lenR κ false P t x σ K') ∧ K v σ := by
  unfold lenR at h ⊢
  split at h
  · exact ⟨_, fun _ hk => ⟨h.1, hk⟩, h.2⟩
  · exact ⟨_, fun _ hk => ⟨h.1, hk⟩, h.2⟩
  · exact ⟨_, fun _ hk => ⟨h.1, hk⟩, h.2⟩
  · rename_i n1 n2 n3
    obtain ⟨v, h1, h2⟩ := actM_det h
    exact ⟨v, h1, h2⟩

theorem loadR_det {t : TypeId} {x : AV} (h : loadR κ true P t x σ K) : ∃ v, (∀ K' : AV → List Res → Prop, K' v σ → loadR κ false P t x σ K') ∧ K v σ := by
  unfold loadR at h ⊢
  split at h
  · cases ha : aggT P t with
    | none => simp only [ha] at h
    | some b =>
      cases hs : szT P t with
      | none => cases b <;> simp only [ha, hs] at h
      | some n =>
        cases b
        · simp only [ha, hs] at h ⊢; exact ⟨_, fun _ hk => ⟨h.1, hk⟩, h.2⟩
        · simp only [ha, hs] at h ⊢; exact ⟨_, fun _ hk => ⟨h.1, hk⟩, h.2⟩
  · rename_i n1
    obtain ⟨v, h1, h2⟩ := actM_det h
    exact ⟨v, h1, h2⟩

theorem fieldAddrR_det {t : TypeId} {x : AV} {f : Nat} (h : fieldAddrR κ true P t x f σ K) : ∃ v, (∀ K' : AV → List Res → Prop, K' v σ → fieldAddrR κ false P t x f σ K') ∧ K v σ := by
  unfold fieldAddrR at h ⊢
  split at h
  · cases hf : fldT P t f with
    | none => simp only [hf] at h
    | some p => simp only [hf] at h ⊢; exact ⟨_, fun _ hk => ⟨h.1, h.2.1, hk⟩, h.2.2⟩
  · cases hf : fldT P t f with
    | none => simp only [hf] at h
    | some p => simp only [hf] at h ⊢; exact ⟨_, fun _ hk => ⟨h.1, hk⟩, h.2⟩
  · rename_i n1 n2
    obtain ⟨v, h1, h2⟩ := actM_det h
    exact ⟨v, h1, h2⟩

theorem fieldR_det {t : TypeId} {x : AV} {f : Nat} (h : fieldR κ true P t x f σ K) : ∃ v, (∀ K' : AV → List Res → Prop, K' v σ → fieldR κ false P t x f σ K') ∧ K v σ := by
  unfold fieldR at h ⊢
  split at h
  · cases hf : fldT P t f with
    | none => simp only [hf] at h
    | some p =>
      obtain ⟨off, ft⟩ := p
      simp only [hf] at h ⊢
      cases ha : aggT P ft with
      | none => simp only [ha] at h
      | some b =>
        cases hs : szT P ft with
        | none => cases b <;> simp only [ha, hs] at h
        | some n =>
          cases b
          · simp only [ha, hs] at h ⊢; exact ⟨_, fun _ hk => ⟨h.1, hk⟩, h.2⟩
          · simp only [ha, hs] at h ⊢; exact ⟨_, fun _ hk => hk, h⟩
  · rename_i n1
    obtain ⟨v, h1, h2⟩ := actM_det h
    exact ⟨v, h1, h2⟩

theorem idxR_det {t : TypeId} {x i : AV} (h : idxR κ true P t x i σ K) : ∃ v, (∀ K' : AV → List Res → Prop, K' v σ → idxR κ false P t x i σ K') ∧ K v σ := by
  unfold idxR at h ⊢
  split at h
  · exact ⟨_, fun _ hk => ⟨h.1, h.2.1, h.2.2.1, hk⟩, h.2.2.2⟩
  · rename_i n1
    obtain ⟨v, h1, h2⟩ := actM_det h
    exact ⟨v, h1, h2⟩

theorem strIdxR_det {t : TypeId} {x i : AV} (h : strIdxR κ true P t x i σ K) : ∃ v, (∀ K' : AV → List Res → Prop, K' v σ → strIdxR κ false P t x i σ K') ∧ K v σ := by
  unfold strIdxR at h ⊢
  split at h
  · exact ⟨_, fun _ hk => ⟨h.1, h.2.1, h.2.2.1, hk⟩, h.2.2.2⟩
  · rename_i n1
    obtain ⟨v, h1, h2⟩ := actM_det h
    exact ⟨v, h1, h2⟩

theorem sliceR_det {t : TypeId} {x : AV} {lo hi mx : Option AV} (h : sliceR κ true P t x lo hi mx σ K) : ∃ v, (∀ K' : AV → List Res → Prop, K' v σ → sliceR κ false P t x lo hi mx σ K') ∧ K v σ := by
  unfold sliceR at h ⊢
  split at h
  · rename_i sz o l
    cases ha : loN lo with
    | none => simp only [ha] at h
    | some a =>
      cases hb : hiN l.length hi with
      | none => simp only [ha, hb] at h
      | some b => simp only [ha, hb] at h ⊢; exact ⟨_, fun _ hk => ⟨h.1, h.2.1, h.2.2.1, h.2.2.2.1, hk⟩, h.2.2.2.2⟩
  · cases ha : loN lo with
    | none => simp only [ha] at h
    | some a =>
      cases hb : hiN 0 hi with
      | none => simp only [ha, hb] at h
      | some b => simp only [ha, hb] at h ⊢; exact ⟨_, fun _ hk => ⟨h.1, h.2.1, h.2.2.1, hk⟩, h.2.2.2⟩
  · rename_i s
    cases ha : loN lo with
    | none => simp only [ha] at h
    | some a =>
      cases hb : hiN s.size hi with
      | none => simp only [ha, hb] at h
      | some b => simp only [ha, hb] at h ⊢; exact ⟨_, fun _ hk => ⟨h.1, h.2.1, h.2.2.1, h.2.2.2.1, hk⟩, h.2.2.2.2⟩
  · rename_i n1 n2 n3
    obtain ⟨v, h1, h2⟩ := actM_det h
    exact ⟨v, h1, h2⟩

theorem convR_det {a b : TypeId} {x : AV} (h : convR κ true P a b x σ K) : ∃ v, (∀ K' : AV → List Res → Prop, K' v σ → convR κ false P a b x σ K') ∧ K v σ := by
  unfold convR at h ⊢
  split at h
  · cases hi : intT P b with
    | none => simp only [hi] at h ⊢; exact actM_det h
    | some k => simp only [hi] at h ⊢; exact ⟨_, fun _ hk => ⟨h.1, hk⟩, h.2⟩
  · rename_i n1
    obtain ⟨v, h1, h2⟩ := actM_det h
    exact ⟨v, h1, h2⟩

theorem opR_det {o : Oper} {s : St} {K : AV → List Res → Prop} {KP : List PanicEntry → List Res → Prop} (h : opR κ true P o s K KP) (hp : ∀ c σ', ¬ KP c σ') : ∃ x, (∀ (K' : AV → List Res → Prop) (KP' : List PanicEntry → List Res → Prop), K' x s.σ → opR κ false P o s K' KP') ∧ K x s.σ := by
  obtain ⟨dst, op, ty, pos, af, gd⟩ := o
  cases op with
  | move x => exact ⟨_, fun _ _ hk => hk, h⟩
  | assign x => exact ⟨_, fun _ _ hk => hk, h⟩
  | pick c x y =>
    simp only [opR, pickR] at h ⊢
    split at h
    · exact ⟨_, fun _ _ hk => hk, h⟩
    · exact h.elim
  | binOp b t x y u =>
    simp only [opR] at h ⊢
    obtain ⟨v, h1, h2⟩ := binR_det h.2
    exact ⟨v, fun K' _ hk => ⟨h.1, h1 K' hk⟩, h2⟩
  | unOp b t x =>
    simp only [opR, unR] at h ⊢
    split at h
    · exact ⟨_, fun _ _ hk => hk, h⟩
    · exact ⟨_, fun _ _ hk => hk, h⟩
    · exact h.elim
  | extract x i =>
    simp only [opR, extR] at h ⊢
    split at h
    · exact ⟨_, fun _ _ hk => ⟨h.1, hk⟩, h.2⟩
    · exact h.elim
  | load t x => (obtain ⟨v, h1, h2⟩ := loadR_det h; exact ⟨v, fun K' _ hk => h1 K' hk, h2⟩)
  | store t x y =>
    obtain ⟨v, h1, h2⟩ := actM_det (κ := κ) (P := P) h
    exact ⟨.any, fun K' _ hk => h1 (fun _ σ' => K' .any σ') hk, h2⟩
  | alloc t => (obtain ⟨v, h1, h2⟩ := actM_det h; exact ⟨v, fun K' _ hk => h1 K' hk, h2⟩)
  | box t x => (obtain ⟨v, h1, h2⟩ := actM_det h; exact ⟨v, fun K' _ hk => h1 K' hk, h2⟩)
  | build t ps => (obtain ⟨v, h1, h2⟩ := actM_det h; exact ⟨v, fun K' _ hk => h1 K' hk, h2⟩)
  | buildSlice t n ps => (obtain ⟨v, h1, h2⟩ := actM_det h; exact ⟨v, fun K' _ hk => h1 K' hk, h2⟩)
  | fieldAddr t x f => (obtain ⟨v, h1, h2⟩ := fieldAddrR_det h; exact ⟨v, fun K' _ hk => h1 K' hk, h2⟩)
  | field t x f => (obtain ⟨v, h1, h2⟩ := fieldR_det h; exact ⟨v, fun K' _ hk => h1 K' hk, h2⟩)
  | indexAddr t x y => (obtain ⟨v, h1, h2⟩ := idxR_det h; exact ⟨v, fun K' _ hk => h1 K' hk, h2⟩)
  | index t x y => (obtain ⟨v, h1, h2⟩ := strIdxR_det h; exact ⟨v, fun K' _ hk => h1 K' hk, h2⟩)
  | slice t x lo hi mx => (obtain ⟨v, h1, h2⟩ := sliceR_det h; exact ⟨v, fun K' _ hk => h1 K' hk, h2⟩)
  | convert a b x => (obtain ⟨v, h1, h2⟩ := convR_det h; exact ⟨v, fun K' _ hk => h1 K' hk, h2⟩)
  | makeFunc f a b =>
    simp only [opR, mkFuncR] at h ⊢
    split at h
    · exact ⟨_, fun _ _ hk => hk, h⟩
    · exact h.elim
  | makeSlice t x y => (obtain ⟨v, h1, h2⟩ := actM_det h; exact ⟨v, fun K' _ hk => h1 K' hk, h2⟩)
  | lookup t x y b => (obtain ⟨v, h1, h2⟩ := actM_det h; exact ⟨v, fun K' _ hk => h1 K' hk, h2⟩)
  | mapUpdate t x y z =>
    obtain ⟨v, h1, h2⟩ := actM_det (κ := κ) (P := P) h
    exact ⟨.any, fun K' _ hk => h1 (fun _ σ' => K' .any σ') hk, h2⟩
  | makeMap t r =>
    cases r with
    | none => (obtain ⟨v, h1, h2⟩ := actM_det h; exact ⟨v, fun K' _ hk => h1 K' hk, h2⟩)
    | some r => exact h.elim
  | typeAssert x a b c => (obtain ⟨v, h1, h2⟩ := actM_det h; exact ⟨v, fun K' _ hk => h1 K' hk, h2⟩)
  | range t x => (obtain ⟨v, h1, h2⟩ := actM_det h; exact ⟨v, fun K' _ hk => h1 K' hk, h2⟩)
  | next x b => (obtain ⟨v, h1, h2⟩ := actM_det h; exact ⟨v, fun K' _ hk => h1 K' hk, h2⟩)
  | makeInterface t x => (obtain ⟨v, h1, h2⟩ := actM_det h; exact ⟨v, fun K' _ hk => h1 K' hk, h2⟩)
  | nilCheck x =>
    simp only [opR, nilR] at h ⊢
    split at h
    · exact ⟨_, fun _ _ hk => hk, h⟩
    · exact ⟨_, fun _ _ hk => hk, h⟩
    · exact ⟨_, fun _ _ hk => hk, h⟩
    · exact ⟨_, fun _ _ hk => hk, h⟩
    · exact h.elim
  | panic x =>
    simp only [opR, panR] at h
    split at h
    · exact (hp _ _ h).elim
    · exact h.elim
  | call c =>
    obtain ⟨callee, xs, ts⟩ := c
    cases callee with
    | value f =>
      obtain ⟨x, h1, h2⟩ := h
      refine ⟨x, fun K' KP' hk => ?_, h2⟩
      simp only [opR, callM]
      have hm : ∀ (r : Ret) (σ' : List Res), (r = .ret x ∧ σ' = s.σ) → retK K' KP' r σ' := by
        rintro r σ' ⟨rfl, rfl⟩; exact hk
      unfold ACallV at h1 ⊢
      split at h1
      · refine ⟨h1.1, fun φ g w vs hR hv => CallsIn.mono (h1.2 φ g w vs hR hv) ?_⟩
        rintro e w' ⟨g', σ', r, a, b, c, d⟩
        exact ⟨g', σ', r, a, b, c, hm _ _ d⟩
      · intro φ g w vs hR hv
        obtain ⟨f, tmps, assign, body, k1, k2⟩ := h1 φ g w vs hR hv
        refine ⟨f, tmps, assign, body, k1, RoundIn.mono k2 ?_⟩
        rintro e w' ⟨g', σ', r, a, b, c, d⟩
        exact ⟨g', σ', r, a, b, c, hm _ _ d⟩
      · exact h1.elim
    | invoke r m => exact h.elim
    | builtin b =>
      cases b with
      | len =>
        obtain ⟨h1, h2, h3⟩ := h
        obtain ⟨v, k1, k2⟩ := lenR_det h3
        exact ⟨v, fun K' _ hk => ⟨h1, h2, k1 K' hk⟩, k2⟩
      | cap =>
        obtain ⟨h1, h2, h3⟩ := h
        obtain ⟨v, k1, k2⟩ := actM_det h3
        exact ⟨v, fun K' _ hk => ⟨h1, h2, k1 K' hk⟩, k2⟩
      | append =>
        obtain ⟨h1, h2, h4, h3⟩ := h
        obtain ⟨v, k1, k2⟩ := actM_det h3
        exact ⟨v, fun K' _ hk => ⟨h1, h2, h4, k1 K' hk⟩, k2⟩
      | copy =>
        obtain ⟨h1, h3⟩ := h
        obtain ⟨v, k1, k2⟩ := actM_det h3
        exact ⟨v, fun K' _ hk => ⟨h1, k1 K' hk⟩, k2⟩
      | max => (obtain ⟨v, h1, h2⟩ := actM_det h; exact ⟨v, fun K' _ hk => h1 K' hk, h2⟩)
      | min => (obtain ⟨v, h1, h2⟩ := actM_det h; exact ⟨v, fun K' _ hk => h1 K' hk, h2⟩)
      | _ => exact h.elim
  | _ => exact h.elim

/-- One operation at its place: skipped, or with one value. -/
theorem guard_det {all : List Oper} {o : Oper} {s : St} {K : AV → List Res → Prop} {KP : List PanicEntry → List Res → Prop} {Y : Prop} (h : guardR all o s (opR κ true P o s K KP) Y) (hp : ∀ c σ', ¬ KP c σ') :
    ∃ x, guardR all o s (∀ (K' : AV → List Res → Prop) (KP' : List PanicEntry → List Res → Prop), K' x s.σ → opR κ false P o s K' KP') (x = U) ∧ (K x s.σ ∨ (x = U ∧ Y)) := by
  unfold guardR at h ⊢
  split at h
  · rename_i hg
    obtain ⟨x, h1, h2⟩ := opR_det h hp
    exact ⟨x, h1, .inl h2⟩
  · rename_i j want hg
    cases hd : (all[j]?).bind (·.dst) with
    | none => rw [hd] at h; exact h.elim
    | some d =>
      rw [hd] at h
      simp only at h ⊢
      split at h
      · rename_i b hb
        cases hbw : (b == want) with
        | true =>
          obtain ⟨x, h1, h2⟩ := opR_det (h.1 hbw) hp
          exact ⟨x, ⟨fun _ => h1, fun e => (by cases e)⟩, .inl h2⟩
        | false => exact ⟨U, ⟨fun e => (by cases e), fun _ => rfl⟩, .inr ⟨rfl, h.2 hbw⟩⟩
      · exact ⟨U, rfl, .inr ⟨rfl, h⟩⟩
      · exact h.elim

/-- What the first operations of a region that draws come to. -/
def dmQ (κ : Ctx) (P : Program) (l : List Oper) (Q : Exit → St → Prop) (nA : Nat) (σ : List Res) (fr : Bool) (df : List Deferred) (e : Exit) (s : St) : Prop :=
  e = .normal ∧ s.σ = σ ∧ opsR κ false P l Q (l.drop nA) ⟨s.t, σ, fr, df⟩

theorem dmQ_mk {l : List Oper} {Q : Exit → St → Prop} {nA : Nat} {t : List AV} {σ : List Res} {fr fr' : Bool} {df df' : List Deferred} (h : opsR κ false P l Q (l.drop nA) ⟨t, σ, fr, df⟩) : dmQ κ P l Q nA σ fr df .normal ⟨t, σ, fr', df'⟩ := ⟨rfl, rfl, h⟩

theorem setT_length (t : List AV) (d : Option Tmp) (x : AV) : (setT t d x).length = t.length := by cases d <;> simp [setT]
theorem setT_other {t : List AV} {d : Option Tmp} {x : AV} {k : Nat} (h : d ≠ some k) : (setT t d x)[k]? = t[k]? := by
  cases d with
  | none => rfl
  | some d =>
    have : d ≠ k := fun e => h (by rw [e])
    simp [setT, List.getElem?_set_ne this]

/-- The walk of the first operations, told: where it ends, and what each one asked there. -/
theorem ops_det {all : List Oper} {Q : Exit → St → Prop} (hQ : ∀ c s, ¬ Q (.panic c) s) : ∀ (l : List Oper) (s : St), opsR κ true P all Q l s →
    ∃ ts : Nat → List AV, ts 0 = s.t ∧ Q .normal { s with t := ts l.length } ∧ ∀ i o, l[i]? = some o → ∃ x, ts (i + 1) = setT (ts i) o.dst x ∧ guardR all o { s with t := ts i } (∀ (K' : AV → List Res → Prop) (KP' : List PanicEntry → List Res → Prop), K' x s.σ → opR κ false P o { s with t := ts i } K' KP') (x = U)
  | [], s, h => ⟨fun _ => s.t, rfl, h, fun i o hi => by simp at hi⟩
  | o :: l, s, h => by
    simp only [opsR] at h
    obtain ⟨x, h1, h2⟩ := guard_det h (fun c σ' => hQ c _)
    have h3 : opsR κ true P all Q l { s with t := setT s.t o.dst x } := by
      rcases h2 with h2 | ⟨rfl, h2⟩
      · exact h2
      · exact h2
    obtain ⟨ts, e1, e2, e3⟩ := ops_det hQ l _ h3
    refine ⟨fun n => match n with | 0 => s.t | n + 1 => ts n, rfl, ?_, ?_⟩
    · simpa using e2
    · intro i o' hi
      match i, hi with
      | 0, hi =>
        simp at hi
        subst hi
        exact ⟨x, e1, h1⟩
      | i + 1, hi =>
        simp only [List.getElem?_cons_succ] at hi
        exact e3 i o' hi

theorem AW_drawM {id : Nat} {l : List Oper} {Q : Exit → St → Prop} {t : List AV} {σ : List Res} {fr : Bool} {df : List Deferred} (nA : Nat) (hm : P.follows .mixedOrders = true) (hok : drawOk l nA = true)
    (h : opsR κ true P l (dmQ κ P l Q nA σ fr df) (l.take nA) ⟨t, σ, fr, df⟩) : AW κ rd P (.region id l.toArray true) Q ⟨t, σ, fr, df⟩ := by
  obtain ⟨ts, e1, e2, e3⟩ := ops_det (fun c s hc => by cases hc.1) _ _ h
  obtain ⟨_, _, hrest⟩ := e2
  simp only at hrest e1
  have hok' := hok
  unfold drawOk at hok
  simp only [Bool.and_eq_true] at hok
  obtain ⟨⟨⟨⟨c1, c2⟩, c3⟩, c4⟩, c5⟩ := hok
  have hnA : nA ≤ l.length := by simpa using c5
  have hlen : (l.take nA).length = nA := by simp; omega
  rw [hlen] at hrest
  have hlt : ∀ i o, l[i]? = some o → ∀ j ∈ predsOf o, j < i := by
    intro i o ho j hj
    have := List.all_eq_true.1 c1 (o, i) (List.mem_iff_getElem?.2 ⟨i, by simp [List.getElem?_zipIdx, ho]⟩)
    simpa using List.all_eq_true.1 this j hj
  have hA : ∀ i o, l[i]? = some o → i < nA → (l.take nA)[i]? = some o := fun i o ho hi => by rw [List.getElem?_take_of_lt hi]; exact ho
  have hA' : ∀ i o, (l.take nA)[i]? = some o → l[i]? = some o ∧ i < nA := fun i o ho => by
    have hi : i < nA := by rw [← hlen]; exact lt_of_get ho
    rw [List.getElem?_take_of_lt hi] at ho
    exact ⟨ho, hi⟩
  have hsee : ∀ i o, l[i]? = some o → i < nA → ∀ k ∈ o.looksAt l.toArray, ∀ j o', l[j]? = some o' → o'.dst = some k → j ∈ predsOf o := by
    intro i o ho hi k hk j o' ho' hd
    have := List.all_eq_true.1 c2 o (List.mem_of_getElem? (hA i o ho hi))
    simp only [Bool.and_eq_true] at this
    have := List.all_eq_true.1 this.2 k hk
    have := List.all_eq_true.1 this (o', j) (List.mem_iff_getElem?.2 ⟨j, by simp [List.getElem?_zipIdx, ho']⟩)
    simpa [hd] using this
  have hdst : ∀ i o, l[i]? = some o → i < nA → ∃ d, o.dst = some d := by
    intro i o ho hi
    have := List.all_eq_true.1 c2 o (List.mem_of_getElem? (hA i o ho hi))
    simp only [Bool.and_eq_true] at this
    exact Option.isSome_iff_exists.1 this.1
  have huniq : ∀ i o j o', l[i]? = some o → i < nA → l[j]? = some o' → j < nA → o.dst = o'.dst → i = j := by
    intro i o j o' ho hi ho' hj he
    have h1 := List.all_eq_true.1 c3 (o, i) (List.mem_iff_getElem?.2 ⟨i, by simp [List.getElem?_zipIdx, hA i o ho hi]⟩)
    have h2 := List.all_eq_true.1 h1 (o', j) (List.mem_iff_getElem?.2 ⟨j, by simp [List.getElem?_zipIdx, hA j o' ho' hj]⟩)
    simpa [he] using h2
  -- lengths, and slots that no later operation writes
  have tlen : ∀ i, i ≤ nA → (ts i).length = t.length := by
    intro i
    induction i with
    | zero => intro _; rw [e1]
    | succ i ih =>
      intro hi
      obtain ⟨x, hx, _⟩ := e3 i _ (List.getElem?_eq_getElem (by rw [hlen]; omega))
      rw [hx, setT_length, ih (by omega)]
  have keep : ∀ n i, i + n ≤ nA → ∀ k, (∀ j o, i ≤ j → j < i + n → l[j]? = some o → o.dst ≠ some k) → (ts (i + n))[k]? = (ts i)[k]? := by
    intro n
    induction n with
    | zero => intro i _ k _; rfl
    | succ n ih =>
      intro i hi k hk
      have hg : (l.take nA)[i + n]? = some ((l.take nA)[i + n]'(by rw [hlen]; omega)) := List.getElem?_eq_getElem _
      obtain ⟨x, hx, _⟩ := e3 (i + n) _ hg
      have := setT_other (t := ts (i + n)) (x := x) (hk (i + n) _ (by omega) (by omega) (hA' _ _ hg).1)
      rw [← Nat.add_assoc, hx, this]
      exact ih i (by omega) k (fun j o h1 h2 => hk j o h1 (by omega))
  have keepF : ∀ i, i ≤ nA → ∀ k, (∀ j o, i ≤ j → j < nA → l[j]? = some o → o.dst ≠ some k) → (ts nA)[k]? = (ts i)[k]? := by
    intro i hi k hk
    have := keep (nA - i) i (by omega) k (fun j o h1 h2 => hk j o h1 (by omega))
    rwa [show i + (nA - i) = nA by omega] at this
  have hgetD : ∀ {a b : List AV} {k : Nat}, a[k]? = b[k]? → a.getD k .any = b.getD k .any := fun h => by
    simp [List.getD_eq_getElem?_getD, h]
  refine AW_draw nA (ts nA) hm hok' ?_ ?_ hrest
  · -- the slots that are written, aside
    have hb : ∀ (ds : List (Option Tmp)) (a b : List AV), a.length = b.length → (∀ k, (∀ d ∈ ds, d ≠ some k) → a[k]? = b[k]?) → blank ds a = blank ds b := by
      intro ds
      induction ds with
      | nil => intro a b _ h; exact List.ext_getElem? (fun k => h k (by simp))
      | cons d ds ih =>
        intro a b hl h
        simp only [blank, List.foldl_cons]
        refine ih _ _ (by rw [setT_length, setT_length, hl]) (fun k hk => ?_)
        by_cases e : d = some k
        · subst e
          simp only [setT, List.getElem?_set, if_true]
          rw [hl]
        · rw [setT_other e, setT_other e]
          exact h k (fun d' hd' => by
            rcases List.mem_cons.1 hd' with rfl | hd'
            · exact e
            · exact hk d' hd')
    refine hb _ _ _ (tlen nA (Nat.le_refl _)) (fun k hk => ?_)
    have := keepF 0 (Nat.zero_le _) k (fun j o _ hj ho => hk _ (List.mem_map.2 ⟨o, List.mem_of_getElem? (hA j o ho hj), rfl⟩))
    rw [this, e1]
  · -- each one asks the same at the end
    have hall : ∀ (m : List Oper), (∀ o ∈ m, opsR κ false P l (isF (ts nA) σ fr df) [o] ⟨ts nA, σ, fr, df⟩) → idem κ P l (ts nA) σ fr df m := by
      intro m
      induction m with
      | nil => intro _; exact trivial
      | cons o m ih => intro h; exact ⟨h o (by simp), ih (fun o' ho' => h o' (by simp [ho']))⟩
    refine hall _ (fun o ho => ?_)
    obtain ⟨i, hi⟩ := List.mem_iff_getElem?.1 ho
    obtain ⟨hil, hiA⟩ := hA' i o hi
    obtain ⟨x, hx, hg⟩ := e3 i o hi
    simp only at hg
    have look : ∀ k ∈ o.looksAt l.toArray, (ts i)[k]? = (ts nA)[k]? := fun k hk => by
      refine (keepF i (by omega) k (fun j o' h1 h2 ho' hd => ?_)).symm
      have := hlt i o hil j (hsee i o hil hiA k hk j o' ho' hd)
      omega
    obtain ⟨d, hd⟩ := hdst i o hil hiA
    -- its own slot
    have own : setT (ts nA) o.dst x = ts nA := by
      rw [hd]
      have h1 : (ts nA)[d]? = (ts (i + 1))[d]? := keepF (i + 1) (by omega) d (fun j o' h1 h2 ho' hd' => by
        have := huniq i o j o' hil hiA ho' h2 (by rw [hd, hd'])
        omega)
      rw [hx, hd] at h1
      refine List.ext_getElem? (fun k => ?_)
      by_cases e : d = k
      · subst e
        rw [h1]
        simp only [setT, List.getElem?_set, if_true]
        rw [tlen nA (Nat.le_refl _), tlen i (by omega)]
      · exact setT_other (by simp [e])
    simp only [opsR]
    have hops : ∀ y ∈ o.op.operands.toList, St.ev ⟨ts i, σ, fr, df⟩ y = St.ev ⟨ts nA, σ, fr, df⟩ y := by
      intro y hy
      cases y with
      | tmp k => exact hgetD (look k (by
          unfold Oper.looksAt
          exact List.mem_append.2 (.inl (List.mem_filterMap.2 ⟨.tmp k, hy, rfl⟩))))
      | _ => rfl
    have hg2 : guardR l o ⟨ts nA, σ, fr, df⟩ (∀ (K' : AV → List Res → Prop) (KP' : List PanicEntry → List Res → Prop), K' x σ → opR κ false P o ⟨ts nA, σ, fr, df⟩ K' KP') (x = U) := by
      refine guardR_congr (s := ⟨ts i, σ, fr, df⟩) (fun j want d' hgd hdd => hgetD (look d' ?_)) (fun hr K' KP' hk => opR_congr (s := ⟨ts i, σ, fr, df⟩) rfl hops (hr K' KP' hk)) hg
      unfold Oper.looksAt
      refine List.mem_append.2 (.inr ?_)
      rw [hgd]
      have : (l.toArray[j]?).bind (·.dst) = some d' := by simpa using hdd
      show d' ∈ ((l.toArray[j]?).bind (·.dst)).toList
      rw [this]
      simp
    have hg3 : ∀ {X Y X' Y' : Prop}, guardR l o ⟨ts nA, σ, fr, df⟩ X Y → (X → X') → (Y → Y') → guardR l o ⟨ts nA, σ, fr, df⟩ X' Y' := by
      intro X Y X' Y' h hX hY
      unfold guardR at h ⊢
      split at h
      · exact hX h
      · split at h
        · split at h
          · exact ⟨fun e => hX (h.1 e), fun e => hY (h.2 e)⟩
          · exact hY h
          · exact h.elim
        · exact h.elim
    refine hg3 hg2 (fun hr => ?_) (fun hu => ?_)
    · exact hr _ _ ⟨rfl, by rw [own]⟩
    · subst hu
      exact ⟨rfl, by rw [own]⟩
end
end Go.Abs
