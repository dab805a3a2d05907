/-
  The abstract layer, part e: the other pure operations, an operation, a list of operations, a piece of code.
-/
import Derived.Test.YtaeacialcbahnaaMd
namespace Go.Abs
open Go.RowKit

section
variable {κ : Ctx} {P : Program} {φ σ : List Res} {g : Nat → Nat} {w : World} {K : AV → List Res → Prop}

/-- A bound of a slice expression, as a value. -/
def OptR (g : Nat → Nat) (w : World) : Option AV → Option Value → Prop
  | none, none => True
  | some x, some v => VR g w x v
  | _, _ => False

theorem sliceBound_run {x : Value} {k : IntKind} {i : Int} {y : Nat} {code : BoundsCode} (hx : x = .int k i) (h0 : 0 ≤ i) (h1 : i ≤ y) (w : World) : (Instr.sliceBound x y code).run P w = .ok i.toNat w := by
  subst hx
  simp [Instr.sliceBound, asIntOf, h0, h1]

theorem loN_inv {lo : Option AV} {lv : Option Value} {a : Int} (hl : OptR g w lo lv) (ha : loN lo = some a) : (lv = none ∧ a = 0) ∨ ∃ k, lv = some (.int k a) := by
  cases lo with
  | none =>
    cases lv with
    | none => simp [loN] at ha; exact .inl ⟨rfl, ha.symm⟩
    | some v => exact hl.elim
  | some x =>
    cases lv with
    | none => exact hl.elim
    | some v =>
      cases x <;> simp [loN] at ha
      rename_i u
      cases u <;> simp at ha
      subst ha
      cases (VR.raw_eq hl)
      exact .inr ⟨_, rfl⟩

theorem hiN_inv {n : Nat} {lo : Option AV} {lv : Option Value} {a : Int} (hl : OptR g w lo lv) (ha : hiN n lo = some a) : (lv = none ∧ a = n) ∨ ∃ k, lv = some (.int k a) := by
  cases lo with
  | none =>
    cases lv with
    | none => simp [hiN] at ha; exact .inl ⟨rfl, ha.symm⟩
    | some v => exact hl.elim
  | some x =>
    cases lv with
    | none => exact hl.elim
    | some v =>
      cases x <;> simp [hiN] at ha
      rename_i u
      cases u <;> simp at ha
      subst ha
      cases (VR.raw_eq hl)
      exact .inr ⟨_, rfl⟩

theorem sliceBounds_run {isS : Bool} {len cap : Nat} {lo hi : Option AV} {lv hv : Option Value} {a b : Int} (hl : OptR g w lo lv) (hh : OptR g w hi hv) (ha : loN lo = some a) (hb : hiN len hi = some b)
    (h0 : 0 ≤ a) (h1 : a ≤ b) (h2 : b ≤ cap) : (Instr.sliceBounds isS len cap lv hv none).run P w = .ok (a.toNat, b.toNat, cap) w := by
  rcases loN_inv hl ha with ⟨rfl, rfl⟩ | ⟨k, rfl⟩ <;> rcases hiN_inv hh hb with ⟨rfl, rfl⟩ | ⟨k', rfl⟩
  · simp [Instr.sliceBounds]
  · simp [Instr.sliceBounds, sliceBound_run rfl h1 h2]
  · simp [Instr.sliceBounds, sliceBound_run (y := len) rfl h0 h1]
  · obtain ⟨m, rfl⟩ := Int.eq_ofNat_of_zero_le (show 0 ≤ b by omega)
    simp [Instr.sliceBounds, sliceBound_run (y := cap) rfl (show (0 : Int) ≤ (m : Int) by omega) h2, sliceBound_run (y := m) rfl h0 h1]

theorem sliceR_sound {dm : Bool} {t : TypeId} {x : AV} {lo hi mx : Option AV} {v : Value} {lv hv mv : Option Value} (h : sliceR κ dm P t x lo hi mx σ K) (hx : VR g w x v) (hl : OptR g w lo lv) (hh : OptR g w hi hv) (hm : OptR g w mx mv) :
    Does κ P φ σ g w (Instr.sliceAt t v lv hv mv) K := by
  unfold sliceR at h
  split at h
  · rename_i sz own l
    cases mv with
    | some v => exact hm.elim
    | none =>
    split at h
    · rename_i a b ha hb
      obtain ⟨⟨e, he, hsz⟩, h0, h1, h2, hk⟩ := h
      have hu := und_of_slE he
      rcases hx.sl_inv with ⟨rfl, ⟨ad, cp, rfl, hcp, hcpm⟩, _, hpos⟩ | ⟨blk, off, cap, rfl, hcap, hmax, hpos, hc, hr, hg, _⟩
      · have hb0 : b = 0 := by simp at h2; omega
        have ha0 : a = 0 := by omega
        subst hb0; subst ha0
        have hsb := sliceBounds_run (P := P) (isS := true) (cap := cp) hl hh ha hb (Int.le_refl 0) (Int.le_refl 0) (Int.natCast_nonneg _)
        have hvr : VR g w (.sl sz none []) (.slice ad 0 cp) := by
          cases ad with
          | none => rw [hcp rfl]; exact .slnil hpos
          | some ad => exact .slzero hcpm hpos
        refine Does.pure (v := .slice ad 0 cp) (x := .sl sz none []) ?_ hvr (by simpa using hk)
        have hsb' : ∀ n, n = 0 → Sem.run P (Instr.sliceBounds true n cp lv hv none) w = .ok (Int.toNat 0, Int.toNat 0, cp) w := fun n hn => by subst hn; simpa using hsb
        simp only [Instr.sliceAt, Sem.run_bind, run_und hu, Result.andThen_ok, Instr.slice, hsb' 0 rfl, run_szT hsz, Sem.run_pure]
        cases ad <;> simp [Addr.add]
      have hsb := sliceBounds_run (P := P) (isS := true) (cap := cap) hl hh ha hb h0 h1 (by omega)
      obtain ⟨a', rfl⟩ := Int.eq_ofNat_of_zero_le h0
      obtain ⟨b', rfl⟩ := Int.eq_ofNat_of_zero_le (show 0 ≤ b by omega)
      have hab : a' ≤ b' := by omega
      have hbl : b' ≤ l.length := by omega
      simp only [Int.toNat_natCast] at hsb hk
      have hlen : ((l.take b').drop a').length = b' - a' := by simp; omega
      refine Does.pure (v := .slice (if cap = a' then some ⟨blk, off, none⟩ else some ⟨blk, off + a' * sz, none⟩) (b' - a') (cap - a')) (x := .sl sz none ((l.take b').drop a')) ?_ ?_ hk
      · simp only [Instr.sliceAt, Sem.run_bind, run_und hu, Result.andThen_ok, Instr.slice, hsb, run_szT hsz, Sem.run_pure, Option.map_some, Addr.add_lit]
      · have hget : ∀ (i : Nat) (y : AV), ((l.take b').drop a')[i]? = some y → l[a' + i]? = some y := by
          intro i y hi
          have hlt := lt_of_get hi
          rw [hlen] at hlt
          rw [List.getElem?_drop, List.getElem?_take_of_lt (by omega)] at hi
          exact hi
        have hb2 : b' * sz ≤ l.length * sz := Nat.mul_le_mul_right sz hbl
        have hsub : (b' - a') * sz = b' * sz - a' * sz := Nat.sub_mul _ _ _
        have ha2 : a' * sz ≤ b' * sz := Nat.mul_le_mul_right sz hab
        split
        · rename_i hca
          refine VR.sl_mk hlen.symm (by rw [hlen]; omega) (by omega) hpos (fun i y hi => hc _ y (hget i y hi)) (fun i y k z hi hz => ?_) ?_ (fun t ht => by cases ht)
          · have hlt := lt_of_get hi
            rw [hlen] at hlt
            omega
          · rw [hlen]; rw [show b' - a' = 0 by omega]; simp; omega
        · refine VR.sl_mk hlen.symm (by rw [hlen]; omega) (by omega) hpos (fun i y hi => hc _ y (hget i y hi)) (fun i y k z hi hz => ?_) ?_ (fun t ht => by cases ht)
          · obtain ⟨u, h5, h6⟩ := hr _ y k z (hget i y hi) hz
            refine ⟨u, ?_, h6⟩
            rw [← h5, Nat.add_mul]
            congr 2
            omega
          · rw [hlen]; omega
    · exact h.elim
  · cases mv with
    | some v => exact hm.elim
    | none =>
    cases hx.raw_eq
    split at h
    · rename_i a b ha hb
      obtain ⟨⟨e, n, he, hsz⟩, rfl, rfl, hk⟩ := h
      have hsb := sliceBounds_run (P := P) (isS := true) (cap := 0) hl hh ha hb (Int.le_refl 0) (Int.le_refl 0) (Int.le_refl 0)
      have hu := und_of_slE he
      refine Does.pure (v := .slice none 0 0) (x := nilS) ?_ (.raw _) hk
      simp only [Instr.sliceAt, Sem.run_bind, run_und hu, Result.andThen_ok, Instr.slice, hsb, run_szT hsz, Sem.run_pure]
      simp
    · exact h.elim
  · cases mv with
    | some v => exact hm.elim
    | none =>
    cases hx.raw_eq
    rename_i s
    split at h
    · rename_i a b ha hb
      obtain ⟨ht, h0, h1, h2, hk⟩ := h
      have hsb := sliceBounds_run (P := P) (isS := false) (cap := s.size) hl hh ha hb h0 h1 h2
      have hu := und_of_isStr ht
      refine Does.pure (v := .string (s.extract a.toNat b.toNat)) (x := .raw (.string (s.extract a.toNat b.toNat))) ?_ (.raw _) hk
      simp only [Instr.sliceAt, Sem.run_bind, run_und hu, Result.andThen_ok, Instr.slice, hsb, Sem.run_pure, Option.isSome_none, Bool.false_eq_true, if_false]
    · exact h.elim
  · have hopt : ∀ {o : Option AV} {ov : Option Value}, OptR g w o ov → VR g w (o.getD .any) (ov.getD undef) := by
      intro o ov ho
      cases o <;> cases ov <;> first | exact ho.elim | exact .any _ | exact ho
    have hsome : ∀ {o : Option AV} {ov : Option Value}, OptR g w o ov → (if o.isSome then some (ov.getD undef) else none) = ov := by
      intro o ov ho
      cases o <;> cases ov <;> first | exact ho.elim | rfl
    refine Does.of_act h (vs := [v, lv.getD undef, hv.getD undef, mv.getD undef]) (TR.cons hx (TR.cons (hopt hl) (TR.cons (hopt hh) (TR.cons (hopt hm) TR.nil)))) ?_
    show Instr.sliceAt t v (if lo.isSome then some (lv.getD undef) else none) (if hi.isSome then some (hv.getD undef) else none) (if mx.isSome then some (mv.getD undef) else none) = _
    rw [hsome hl, hsome hh, hsome hm]

theorem convR_sound {dm : Bool} {src dst : TypeId} {x : AV} {v : Value} (h : convR κ dm P src dst x σ K) (hv : VR g w x v) : Does κ P φ σ g w (convert src dst v) K := by
  unfold convR at h
  split at h
  · rename_i k n
    split at h
    · rename_i k' hk'
      obtain ⟨hs, hk⟩ := h
      obtain ⟨d, hd⟩ := Option.isSome_iff_exists.1 hs
      cases hv.raw_eq
      refine Does.pure (v := .int k' (k'.wrap n)) ?_ (.raw _) hk
      simp [convert, run_und hd, run_und (und_of_intT hk'), Conv.intToInt]
    · exact Does.of_act h (TR.one hv) rfl
  · exact Does.of_act h (TR.one hv) rfl

theorem intF_run {op : BinOp} {t : TypeId} {k : IntKind} {a b : Int} {v : Value} (h : intF op k a b = some v) (hs : op ≠ .shl ∧ op ≠ .shr) (w : World) : (binOp op t (.int k a) (.int k b)).run P w = .ok v w := by
  cases op <;> simp [intF] at h <;> first
    | (subst h; simp [binOp, Op.intArith, Op.intBits, Op.intCmp]; done)
    | (obtain ⟨h0, rfl⟩ := h; simp [binOp, Op.intDiv, h0]; done)

theorem shF_run {op : BinOp} {t : TypeId} {k k' : IntKind} {a b : Int} {v : Value} (h : shF op k a b = some v) (w : World) : (binOp op t (.int k a) (.int k' b)).run P w = .ok v w := by
  unfold shF at h
  split at h
  · cases h
  · rename_i h0
    cases op <;> simp at h
    all_goals (subst h; simp [binOp, Op.shift, h0])

theorem strF_run {op : BinOp} {t : TypeId} {x y : ByteArray} {v : Value} (h : strF op x y = some v) (w : World) : (binOp op t (.string x) (.string y)).run P w = .ok v w := by
  cases op <;> simp only [strF, Option.some.injEq, reduceCtorEq] at h
  case add =>
    split at h
    · cases h
    · rename_i h0; cases h; simp only [binOp, Op.stringOp, if_neg h0, Sem.run_pure]
  all_goals (subst h; simp [binOp, Op.stringOp])

theorem okV_inv {v : Option Value} {K : AV → Prop} (h : okV v K) : ∃ u, v = some u ∧ K (.raw u) := by
  cases v with
  | none => exact h.elim
  | some u => exact ⟨u, rfl, h⟩

theorem equalIn_bool (d : Nat) {t : TypeId} (hu : P.underlying t = some .bool) (a b : Bool) : (Op.equalIn (d + 1) t (.bool a) (.bool b)).run P w = .ok (a == b) w := by
  simp only [Op.equalIn, Sem.run_bind, run_und hu, Result.andThen_ok, Sem.run_pure]
theorem equal_bool {t : TypeId} (hu : P.underlying t = some .bool) (a b : Bool) : (Op.equal t (.bool a) (.bool b)).run P w = .ok (a == b) w := equalIn_bool 9999 hu a b

theorem equalIn_slice (d : Nat) {t e : TypeId} (hu : P.underlying t = some (.slice e)) (a : Addr) (n c : Nat) : (Op.equalIn (d + 1) t (.slice (some a) n c) (.slice none 0 0)).run P w = .ok false w := by
  simp only [Op.equalIn, Sem.run_bind, run_und hu, Result.andThen_ok, Sem.run_pure]
theorem equal_slice {t e : TypeId} (hu : P.underlying t = some (.slice e)) (a : Addr) (n c : Nat) : (Op.equal t (.slice (some a) n c) (.slice none 0 0)).run P w = .ok false w := equalIn_slice 9999 hu a n c

theorem equalIn_nils (d : Nat) {t e : TypeId} (hu : P.underlying t = some (.slice e)) : (Op.equalIn (d + 1) t (.slice none 0 0) (.slice none 0 0)).run P w = .ok true w := by
  simp only [Op.equalIn, Sem.run_bind, run_und hu, Result.andThen_ok, Sem.run_pure, Option.isNone_none]
theorem equal_nils {t e : TypeId} (hu : P.underlying t = some (.slice e)) : (Op.equal t (.slice none 0 0) (.slice none 0 0)).run P w = .ok true w := equalIn_nils 9999 hu

theorem binR_sound {dm : Bool} {op : BinOp} {t : TypeId} {x y : AV} {v u : Value} (h : binR κ dm P op t x y σ K) (hv : VR g w x v) (hu : VR g w y u) : Does κ P φ σ g w (binOp op t v u) K := by
  unfold binR at h
  split at h
  · rename_i k a k' b
    cases hv.raw_eq; cases hu.raw_eq
    split at h
    · obtain ⟨r, h1, h2⟩ := okV_inv h
      exact Does.pure (shF_run h1 w) (.raw _) h2
    · obtain ⟨r, h1, h2⟩ := okV_inv h
      exact Does.pure (shF_run h1 w) (.raw _) h2
    · rename_i hs1 hs2
      obtain ⟨rfl, h⟩ := h
      obtain ⟨r, h1, h2⟩ := okV_inv h
      exact Does.pure (intF_run h1 ⟨fun e => hs1 e, fun e => hs2 e⟩ w) (.raw _) h2
  · cases hv.raw_eq; cases hu.raw_eq
    obtain ⟨r, h1, h2⟩ := okV_inv h
    exact Does.pure (strF_run h1 w) (.raw _) h2
  · cases hv.raw_eq; cases hu.raw_eq
    split at h
    · obtain ⟨ht, hk⟩ := h
      exact Does.pure (by simp only [binOp, Sem.run_bind, equal_bool ht, Result.andThen_ok, Sem.run_pure]) (.raw _) hk
    · obtain ⟨ht, hk⟩ := h
      exact Does.pure (by simp only [binOp, Sem.run_bind, equal_bool ht, Result.andThen_ok, Sem.run_pure]) (.raw _) hk
    · exact h.elim
  · rename_i l
    cases hu.raw_eq
    split at h
    · obtain ⟨ht, h⟩ := h
      obtain ⟨e, he⟩ := Option.isSome_iff_exists.1 ht
      rcases h with ⟨hl, h⟩ | ⟨_, hl, h⟩
      · rcases hv.sl_inv with ⟨rfl, _⟩ | ⟨b, off, cap, rfl, _⟩
        · simp at hl
        exact Does.pure (by simp only [binOp, Sem.run_bind, equal_slice (und_of_slE he), Result.andThen_ok, Sem.run_pure]) (.raw _) h
      · rcases hv.sl_inv with ⟨_, ⟨ad, cp, rfl, hcp, _⟩, _⟩ | ⟨b, off, cap, rfl, _⟩
        · cases ad with
          | none => rw [hcp rfl]; exact Does.pure (by simp only [binOp, Sem.run_bind, equal_nils (und_of_slE he), Result.andThen_ok, Sem.run_pure]) (.raw _) (h true)
          | some ad => exact Does.pure (by simp only [binOp, Sem.run_bind, equal_slice (und_of_slE he), Result.andThen_ok, Sem.run_pure]) (.raw _) (h false)
        · exact Does.pure (by simp only [binOp, Sem.run_bind, equal_slice (und_of_slE he), Result.andThen_ok, Sem.run_pure]) (.raw _) (h false)
    · obtain ⟨ht, h⟩ := h
      obtain ⟨e, he⟩ := Option.isSome_iff_exists.1 ht
      rcases h with ⟨hl, h⟩ | ⟨_, hl, h⟩
      · rcases hv.sl_inv with ⟨rfl, _⟩ | ⟨b, off, cap, rfl, _⟩
        · simp at hl
        exact Does.pure (by simp only [binOp, Sem.run_bind, equal_slice (und_of_slE he), Result.andThen_ok, Sem.run_pure, Bool.not_false]) (.raw _) h
      · rcases hv.sl_inv with ⟨_, ⟨ad, cp, rfl, hcp, _⟩, _⟩ | ⟨b, off, cap, rfl, _⟩
        · cases ad with
          | none => rw [hcp rfl]; exact Does.pure (by simp only [binOp, Sem.run_bind, equal_nils (und_of_slE he), Result.andThen_ok, Sem.run_pure, Bool.not_true]) (.raw _) (h false)
          | some ad => exact Does.pure (by simp only [binOp, Sem.run_bind, equal_slice (und_of_slE he), Result.andThen_ok, Sem.run_pure, Bool.not_false]) (.raw _) (h true)
        · exact Does.pure (by simp only [binOp, Sem.run_bind, equal_slice (und_of_slE he), Result.andThen_ok, Sem.run_pure, Bool.not_false]) (.raw _) (h true)
    · exact h.elim
  · cases hu.raw_eq; cases hv.raw_eq
    split at h
    · obtain ⟨ht, hk⟩ := h
      obtain ⟨e, he⟩ := Option.isSome_iff_exists.1 ht
      exact Does.pure (by simp only [binOp, Sem.run_bind, equal_nils (und_of_slE he), Result.andThen_ok, Sem.run_pure]) (.raw _) hk
    · obtain ⟨ht, hk⟩ := h
      obtain ⟨e, he⟩ := Option.isSome_iff_exists.1 ht
      exact Does.pure (by simp only [binOp, Sem.run_bind, equal_nils (und_of_slE he), Result.andThen_ok, Sem.run_pure, Bool.not_true]) (.raw _) hk
    · exact h.elim
  · exact Does.of_act h (TR.two hv hu) rfl

/-! ### Operands -/
theorem ofV_sound (v : Value) : VR g w (ofV v) v := by
  unfold ofV
  split
  · rename_i cs
    refine .agg cs (by simp) (fun k y hk => ?_)
    rw [List.getElem?_map] at hk
    cases hx : cs.toList[k]? with
    | none => simp [hx] at hk
    | some u =>
      simp [hx] at hk
      subst hk
      have : cs.getD k undef = u := by
        have : cs[k]? = some u := by simpa using hx
        simp [Array.getD_eq_getD_getElem?, this]
      rw [this]; exact .raw _
  · exact .any _
  · exact .raw _

theorem ev_sound {s : St} {a : Act} (ht : TR g w s.t a.tmps) (x : Operand) : VR g w (s.ev x) (a.eval x) := by
  cases x with
  | tmp k =>
    show VR g w (s.t.getD k .any) (a.tmps.getD k undef)
    cases hk : s.t[k]? with
    | none => simp [List.getD_eq_getElem?_getD, hk]; exact .any _
    | some y => simpa [List.getD_eq_getElem?_getD, hk] using ht.get k y hk
  | const v => exact ofV_sound v
  | global b => exact .raw _
  | func f => exact .raw _

theorem TR.map_ev {s : St} {a : Act} (ht : TR g w s.t a.tmps) (xs : List Operand) : TR g w (xs.map s.ev) (xs.map a.eval).toArray := by
  refine ⟨by simp, fun k x hk => ?_⟩
  rw [List.getElem?_map] at hk
  cases hx : xs[k]? with
  | none => simp [hx] at hk
  | some o =>
    simp [hx] at hk
    subst hk
    have : ((xs.map a.eval).toArray).getD k undef = a.eval o := by simp [Array.getD_eq_getD_getElem?, hx]
    rw [this]; exact ev_sound ht o

theorem OptR.map_ev {s : St} {a : Act} (ht : TR g w s.t a.tmps) (o : Option Operand) : OptR g w (o.map s.ev) (o.map a.eval) := by
  cases o with
  | none => exact trivial
  | some x => exact ev_sound ht x

theorem TR.put {t : List AV} {tmps : Array Value} (ht : TR g w t tmps) (dst : Option Tmp) {x : AV} {v : Value} (hv : VR g w x v) (ds : List Deferred) : TR g w (setT t dst x) (({ tmps := tmps, defers := ds } : Act).put dst v).tmps := by
  cases dst with
  | none => exact ht
  | some d =>
    refine ⟨by simp [Act.put, setT, ht.size], fun k y hk => ?_⟩
    simp only [setT] at hk
    simp only [Act.put]
    rw [List.getElem?_set] at hk
    by_cases e : d = k
    · subst e
      rw [if_pos rfl] at hk
      split at hk
      · cases hk
        rename_i hlt
        have : d < tmps.size := by rw [ht.size]; exact hlt
        simpa [Array.getD_eq_getD_getElem?, this] using hv
      · cases hk
    · rw [if_neg e] at hk
      have := ht.get k y hk
      rw [Array.getD_eq_getD_getElem?, Array.getElem?_setIfInBounds_ne e, ← Array.getD_eq_getD_getElem?]
      exact this

end
end Go.Abs
