/-
  The abstract layer, part d: each pure operation does what is asked of it.
-/
import Derived.Test.YtaeacialcbahnaaMc
namespace Go.Abs
open Go.RowKit

/-- A computation comes to K. -/
def Does (κ : Ctx) (P : Program) (φ σ0 : List Res) (g : Nat → Nat) (w : World) (sem : Sem Value) (K : AV → List Res → Prop) : Prop :=
  Rel κ g (φ ++ σ0) w → ∃ v w' g' x σ', sem.run P w = .ok v w' ∧ Rel κ g' (φ ++ σ') w' ∧ GE g w g' w' ∧ VR g' w' x v ∧ K x σ'

section
variable {κ : Ctx} {P : Program} {φ σ : List Res} {g : Nat → Nat} {w : World} {K : AV → List Res → Prop}

theorem Does.pure {sem : Sem Value} {v : Value} {x : AV} (h : sem.run P w = .ok v w) (hv : VR g w x v) (hk : K x σ) : Does κ P φ σ g w sem K :=
  fun hR => ⟨v, w, g, x, σ, h, hR, GE.refl _ _, hv, hk⟩

theorem actM.act {dm : Bool} {m : MA} {xs : List AV} (h : actM κ dm P m xs σ K) : AAct κ P m xs σ K := by
  cases dm with
  | false => exact h
  | true =>
    obtain ⟨x, h1, h2⟩ := h
    intro φ g w vs hR hv
    obtain ⟨v, w', g', y, σ', a, b, c, d, rfl, rfl⟩ := h1 φ g w vs hR hv
    exact ⟨v, w', g', _, _, a, b, c, d, h2⟩

theorem Does.of_act {dm : Bool} {m : MA} {xs : List AV} {vs : List Value} (h : actM κ dm P m xs σ K) (hv : TR g w xs vs.toArray) {sem : Sem Value} (e : m.sem vs = sem) : Does κ P φ σ g w sem K :=
  fun hR => e ▸ h.act φ g w vs hR hv

theorem TR.nil : TR g w [] #[] := ⟨rfl, fun k x h => by simp at h⟩
theorem TR.one {x : AV} {v : Value} (h : VR g w x v) : TR g w [x] #[v] := ⟨rfl, fun k y hk => by
  cases k with
  | zero => simp at hk; subst hk; exact h
  | succ k => simp at hk⟩
theorem TR.two {x y : AV} {v u : Value} (h : VR g w x v) (h2 : VR g w y u) : TR g w [x, y] #[v, u] := ⟨rfl, fun k z hk => by
  match k, hk with
  | 0, hk => simp at hk; subst hk; exact h
  | 1, hk => simp at hk; subst hk; exact h2⟩
theorem TR.cons {x : AV} {v : Value} {xs : List AV} {vs : List Value} (h : VR g w x v) (h2 : TR g w xs vs.toArray) : TR g w (x :: xs) (v :: vs).toArray := ⟨by simp [← h2.size], fun k z hk => by
  cases k with
  | zero => simp at hk; subst hk; simpa using h
  | succ k => simp at hk; have := h2.get k z hk; simpa [Array.getD_eq_getD_getElem?] using this⟩

theorem VR.raw_eq {v u : Value} (h : VR g w (.raw v) u) : u = v := by cases h; rfl

theorem run_szT {t : TypeId} {n : Nat} (h : szT P t = some n) (w : World) : (sizeOf t).run P w = .ok n w := by
  unfold szT at h
  cases hi : P.info? t with
  | none => simp [hi] at h
  | some i => simp [hi] at h; simp [sizeOf, typeInfo, hi, h]

theorem run_info {t : TypeId} {i : TypeInfo} (h : P.info? t = some i) (w : World) : (typeInfo t).run P w = .ok i w := by simp [typeInfo, h]

theorem run_und {t : TypeId} {d : TypeDesc} (h : P.underlying t = some d) (w : World) : (underlying t).run P w = .ok d w := run_underlying h w

theorem und_of_slE {t e : TypeId} (h : slE P t = some e) : P.underlying t = some (.slice e) := by
  unfold slE at h
  split at h
  · rename_i h'; cases h; exact h'
  · cases h

theorem und_of_isStr {t : TypeId} (h : isStr P t = true) : P.underlying t = some .string := by
  unfold isStr at h
  split at h
  · assumption
  · cases h

theorem und_of_intT {t : TypeId} {k : IntKind} (h : intT P t = some k) : P.underlying t = some (.int k) := by
  unfold intT at h
  split at h
  · rename_i h'; cases h; exact h'
  · cases h

theorem run_isAgg {t : TypeId} {b : Bool} (h : aggT P t = some b) (w : World) : (isAgg t).run P w = .ok b w := by
  unfold aggT at h
  cases hu : P.underlying t with
  | none => simp [hu] at h
  | some d =>
    simp [hu] at h
    simp only [isAgg, Sem.run_bind, run_und hu, Result.andThen_ok]
    cases d <;> simp [aggD] at h <;> simp [h]

theorem und_of_fldT {t : TypeId} {f off : Nat} {ft : TypeId} (h : fldT P t f = some (off, ft)) : ∃ fs x, P.underlying t = some (.struct fs) ∧ fs[f]? = some x ∧ x.offset = off ∧ x.type = ft := by
  unfold fldT at h
  split at h
  · rename_i fs h'
    cases hx : fs[f]? with
    | none => simp [hx] at h
    | some x => simp [hx] at h; exact ⟨fs, x, h', hx, h.1, h.2⟩
  · cases h

/-- The cells behind a pointer to unchanging cells. -/
theorem VR.cp_inv {l : List AV} {v : Value} (h : VR g w (.cp l) v) : ∃ b off, v = .pointer (some ⟨b, off, none⟩) ∧ off + l.length ≤ g b ∧ ∀ (k : Nat) (y : AV), l[k]? = some y → ∃ u, w.cell? ⟨b, off + k, none⟩ = some u ∧ VR g w y u := by
  cases h with
  | cp u hr hv hg => exact ⟨_, _, rfl, hg, fun k y hk => ⟨u k, hr k y hk, hv k y hk⟩⟩

theorem VR.cp_mk {l : List AV} {b off : Nat} (hg : off + l.length ≤ g b) (h : ∀ (k : Nat) (y : AV), l[k]? = some y → ∃ u, w.cell? ⟨b, off + k, none⟩ = some u ∧ VR g w y u) : VR g w (.cp l) (.pointer (some ⟨b, off, none⟩)) := by
  refine .cp (fun k => (w.cell? ⟨b, off + k, none⟩).getD undef) (fun k y hk => ?_) (fun k y hk => ?_) hg
  · obtain ⟨u, h1, h2⟩ := h k y hk; simp [h1]
  · obtain ⟨u, h1, h2⟩ := h k y hk; simpa [h1] using h2

theorem run_loadCells_cp (b off n : Nat) (h : ∀ j, j < n → ∃ u, w.cell? ⟨b, off + j, none⟩ = some u) :
    ∃ arr : Array Value, (loadCells ⟨b, off, none⟩ n).run P w = .ok arr w ∧ arr.size = n ∧ ∀ j, j < n → w.cell? ⟨b, off + j, none⟩ = some (arr.getD j undef) := by
  have h1 := run_loadCells (P := P) (w := w) ⟨b, off, none⟩ n (fun j => (w.cell? ⟨b, off + j, none⟩).getD undef) (fun j hj => by
    obtain ⟨u, hu⟩ := h j hj
    rw [Addr.add_lit, hu]; rfl)
  refine ⟨_, h1, by simp, fun j hj => ?_⟩
  obtain ⟨u, hu⟩ := h j hj
  simp [hu, hj]

theorem loadR_sound {dm : Bool} {t : TypeId} {x : AV} {v : Value} (h : loadR κ dm P t x σ K) (hv : VR g w x v) : Does κ P φ σ g w (Instr.loadAt t v) K := by
  unfold loadR at h
  split at h
  · rename_i l
    obtain ⟨b, off, rfl, hg, hc⟩ := hv.cp_inv
    split at h
    · rename_i n ha hn
      obtain ⟨hle, hk⟩ := h
      obtain ⟨arr, h1, h2, h3⟩ := run_loadCells_cp (P := P) (w := w) b off n (fun j hj => by
        have : l[j]? = some (l[j]'(by omega)) := List.getElem?_eq_getElem (by omega)
        obtain ⟨u, hu, _⟩ := hc j _ this
        exact ⟨u, hu⟩)
      refine Does.pure (v := .agg arr) (x := .agg (l.take n)) ?_ ?_ hk
      · simp [Instr.loadAt, Instr.sureAddr, loadVar, run_isAgg ha, run_szT hn, h1]
      · refine .agg arr (by simp [h2]; omega) (fun k y hk' => ?_)
        have hkn : k < n := by have := lt_of_get hk'; simp at this; omega
        rw [List.getElem?_take_of_lt hkn] at hk'
        obtain ⟨u, hu, hy⟩ := hc k y hk'
        have := h3 k hkn
        rw [hu] at this
        cases this
        exact hy
    · rename_i n ha hn
      obtain ⟨hle, hk⟩ := h
      have h0 : l[0]? = some (l[0]'(by omega)) := List.getElem?_eq_getElem (by omega)
      obtain ⟨u, hu, hy⟩ := hc 0 _ h0
      refine Does.pure (v := u) (x := l.getD 0 .any) ?_ ?_ hk
      · have hu' : w.cell? ⟨b, off, none⟩ = some u := hu
        simp [Instr.loadAt, Instr.sureAddr, loadVar, run_isAgg ha, hu']
      · simpa [List.getD_eq_getElem?_getD, h0] using hy
    · exact h.elim
  · exact Does.of_act h (TR.one hv) rfl

theorem fieldPlace_run {a : Addr} {f : Field} {n : Nat} (hn : szT P f.type = some (n + 1)) : (fieldPlace a f).run P w = .ok (a.add f.offset) w := by
  simp [fieldPlace, run_szT hn]

theorem fieldAddrR_sound {dm : Bool} {t : TypeId} {x : AV} {f : Nat} {v : Value} (h : fieldAddrR κ dm P t x f σ K) (hv : VR g w x v) : Does κ P φ σ g w (Instr.fieldAt t v f) K := by
  unfold fieldAddrR at h
  split at h
  · rename_i l
    obtain ⟨b, off, rfl, hg, hc⟩ := hv.cp_inv
    split at h
    · rename_i fo ft hf
      obtain ⟨⟨n, hn⟩, hle, hk⟩ := h
      obtain ⟨fs, y, hu, hy, rfl, rfl⟩ := und_of_fldT hf
      refine Does.pure (v := .pointer (some ⟨b, off + y.offset, none⟩)) (x := .cp (l.drop y.offset)) ?_ ?_ hk
      · simp [Instr.fieldAt, Instr.sureAddr, run_und hu, hy, fieldPlace_run hn, Addr.add_lit]
      · refine VR.cp_mk (by simp; omega) (fun k z hz => ?_)
        rw [List.getElem?_drop] at hz
        obtain ⟨u, h1, h2⟩ := hc _ z hz
        exact ⟨u, by rw [← h1]; congr 2; omega, h2⟩
    · exact h.elim
  · rename_i b o
    cases hv.raw_eq
    split at h
    · rename_i fo ft hf
      obtain ⟨⟨n, hn⟩, hk⟩ := h
      obtain ⟨fs, y, hu, hy, rfl, rfl⟩ := und_of_fldT hf
      refine Does.pure (v := .pointer (some ⟨b, o + y.offset, none⟩)) (x := .raw (.pointer (some ⟨b, o + y.offset, none⟩))) ?_ (.raw _) hk
      simp [Instr.fieldAt, Instr.sureAddr, run_und hu, hy, fieldPlace_run hn, Addr.add_lit]
    · exact h.elim
  · exact Does.of_act h (TR.one hv) rfl

theorem fieldR_sound {dm : Bool} {t : TypeId} {x : AV} {f : Nat} {v : Value} (h : fieldR κ dm P t x f σ K) (hv : VR g w x v) : Does κ P φ σ g w (Instr.field t v f) K := by
  unfold fieldR at h
  split at h
  · rename_i l
    cases hv with
    | agg vs hs hv =>
    split at h
    · rename_i fo ft hf
      obtain ⟨fs, y, hu, hy, rfl, rfl⟩ := und_of_fldT hf
      split at h
      · rename_i n ha hn
        refine Does.pure (v := .agg (vs.extract y.offset (y.offset + n))) (x := .agg ((l.drop y.offset).take n)) ?_ ?_ h
        · simp [Instr.field, run_und hu, hy, asAgg, part, run_isAgg ha, run_szT hn]
        · refine .agg _ (by simp [hs]; omega) (fun k z hz => ?_)
          have hkn : k < n := by have := lt_of_get hz; simp at this; omega
          rw [List.getElem?_take_of_lt hkn, List.getElem?_drop] at hz
          have hlt := lt_of_get hz
          have := hv _ z hz
          have e : (vs.extract y.offset (y.offset + n)).getD k undef = vs.getD (y.offset + k) undef := by
            simp only [Array.getD_eq_getD_getElem?, Array.getElem?_extract]
            rw [if_pos (by omega)]
          rw [e]; exact this
      · rename_i n ha hn
        obtain ⟨hlt, hk⟩ := h
        have h0 : l[y.offset]? = some (l[y.offset]'hlt) := List.getElem?_eq_getElem hlt
        have hv0 := hv _ _ h0
        have hsz : y.offset < vs.size := by omega
        refine Does.pure (v := vs.getD y.offset undef) (x := l.getD y.offset .any) ?_ ?_ hk
        · simp [Instr.field, run_und hu, hy, asAgg, part, run_isAgg ha, Array.getElem?_eq_getElem hsz]
        · simpa [List.getD_eq_getElem?_getD, h0] using hv0
      · exact h.elim
    · exact h.elim
  · exact Does.of_act h (TR.one hv) rfl

theorem lenR_sound {dm : Bool} {t : TypeId} {x : AV} {v : Value} (ty : TypeId) (h : lenR κ dm P t x σ K) (hv : VR g w x v) : Does κ P φ σ g w (Builtin.len_ #[t] ty #[v]) K := by
  unfold lenR at h
  split at h
  · obtain ⟨ht, hk⟩ := h
    obtain ⟨e, he⟩ := Option.isSome_iff_exists.1 ht
    cases hv
    · exact Does.pure (by simp [Builtin.len_, run_und (und_of_slE he), goInt]) (.raw _) hk
    · exact Does.pure (by simp [Builtin.len_, run_und (und_of_slE he), goInt]) (.raw _) hk
    · exact Does.pure (by simp [Builtin.len_, run_und (und_of_slE he), goInt]) (.raw _) hk
  · obtain ⟨ht, hk⟩ := h
    obtain ⟨e, he⟩ := Option.isSome_iff_exists.1 ht
    cases hv.raw_eq
    exact Does.pure (by simp [Builtin.len_, run_und (und_of_slE he), goInt]) (.raw _) hk
  · obtain ⟨ht, hk⟩ := h
    cases hv.raw_eq
    exact Does.pure (by simp [Builtin.len_, run_und (und_of_isStr ht), goInt]) (.raw _) hk
  · exact Does.of_act h (TR.one hv) rfl

/-- A slice that is not nil: where it lies, and what its elements' cells hold. -/
theorem VR.sl_inv {sz : Nat} {own : Option (Option (Nat × Nat))} {l : List AV} {v : Value} (h : VR g w (.sl sz own l) v) : (l = [] ∧ (∃ a n, v = .slice a 0 n ∧ (a = none → n = 0) ∧ n ≤ maxLen) ∧ (own.isSome = true → v = .slice none 0 0) ∧ 0 < sz) ∨ ∃ b off cap, v = .slice (some ⟨b, off, none⟩) l.length cap ∧ l.length ≤ cap ∧ cap ≤ maxLen ∧ 0 < sz ∧
    (∀ (i : Nat) (x : AV), l[i]? = some x → x.cells.length = sz) ∧
    (∀ (i : Nat) (x : AV) (k : Nat) (y : AV), l[i]? = some x → x.cells[k]? = some y → ∃ u, w.cell? ⟨b, off + i * sz + k, none⟩ = some u ∧ VR g w y u) ∧
    off + l.length * sz ≤ g b ∧ (∀ t, own = some t → t = some (b, off + l.length * sz) ∧ off + cap * sz ≤ blockLen w b) := by
  cases h with
  | slnil hsz => exact .inl ⟨rfl, ⟨_, _, rfl, fun _ => rfl, Nat.zero_le _⟩, fun _ => rfl, hsz⟩
  | slzero h2 hsz => exact .inl ⟨rfl, ⟨_, _, rfl, fun h => (by cases h), h2⟩, fun h => (by cases h), hsz⟩
  | sl u h1 h2 hsz hc hr hv hg ho => exact .inr ⟨_, _, _, rfl, h1, h2, hsz, hc, fun i x k y hi hk => ⟨u i k, hr i x k y hi hk, hv i x k y hi hk⟩, hg, ho⟩

theorem VR.sl_mk {sz : Nat} {own : Option (Option (Nat × Nat))} {l : List AV} {b off n cap : Nat} (hn : n = l.length) (h1 : l.length ≤ cap) (h2 : cap ≤ maxLen) (hsz : 0 < sz)
    (hc : ∀ (i : Nat) (x : AV), l[i]? = some x → x.cells.length = sz)
    (hr : ∀ (i : Nat) (x : AV) (k : Nat) (y : AV), l[i]? = some x → x.cells[k]? = some y → ∃ u, w.cell? ⟨b, off + i * sz + k, none⟩ = some u ∧ VR g w y u)
    (hg : off + l.length * sz ≤ g b) (ho : ∀ t, own = some t → t = some (b, off + l.length * sz) ∧ off + cap * sz ≤ blockLen w b) :
    VR g w (.sl sz own l) (.slice (some ⟨b, off, none⟩) n cap) := by
  subst hn
  refine .sl (fun i k => (w.cell? ⟨b, off + i * sz + k, none⟩).getD undef) h1 h2 hsz hc (fun i x k y hi hk => ?_) (fun i x k y hi hk => ?_) hg ho
  · obtain ⟨u, e1, e2⟩ := hr i x k y hi hk; simp [e1]
  · obtain ⟨u, e1, e2⟩ := hr i x k y hi hk; simpa [e1] using e2

theorem idxR_sound {dm : Bool} {t : TypeId} {x i : AV} {v u : Value} (h : idxR κ dm P t x i σ K) (hv : VR g w x v) (hu : VR g w i u) : Does κ P φ σ g w (Instr.indexAt t v u) K := by
  unfold idxR at h
  split at h
  · rename_i sz own l k i
    obtain ⟨⟨e, he, hsz⟩, h0, h1, hk⟩ := h
    cases hu.raw_eq
    rcases hv.sl_inv with ⟨rfl, _⟩ | ⟨b, off, cap, rfl, _, _, _, hc, hr, hg, _⟩
    · simp at h1; omega
    obtain ⟨n, rfl⟩ := Int.eq_ofNat_of_zero_le h0
    have hn : n < l.length := by omega
    have hx : l[n]? = some (l[n]'hn) := List.getElem?_eq_getElem hn
    refine Does.pure (v := .pointer (some ⟨b, off + n * sz, none⟩)) (x := .cp (l.getD n .any).cells) ?_ ?_ (by simpa using hk)
    · simp [Instr.indexAt, asIntOf, run_und (und_of_slE he), run_szT hsz, hn, Addr.add_lit]
    · rw [List.getD_eq_getElem?_getD, hx]
      refine VR.cp_mk ?_ (fun k y hy => hr n _ k y hx hy)
      have := hc n _ hx
      have h2 : (n + 1) * sz ≤ l.length * sz := Nat.mul_le_mul_right sz hn
      rw [Nat.add_mul] at h2
      simp only [Option.getD_some]
      omega
  · exact Does.of_act h (TR.two hv hu) rfl

theorem strIdxR_sound {dm : Bool} {t : TypeId} {x i : AV} {v u : Value} (h : strIdxR κ dm P t x i σ K) (hv : VR g w x v) (hu : VR g w i u) : Does κ P φ σ g w (Instr.index t v u) K := by
  unfold strIdxR at h
  split at h
  · rename_i s k i
    obtain ⟨ht, h0, h1, hk⟩ := h
    cases hu.raw_eq
    cases hv.raw_eq
    obtain ⟨n, rfl⟩ := Int.eq_ofNat_of_zero_le h0
    have hn : n < s.size := by omega
    refine Does.pure (v := .int .u8 (s.data.toList.getD n 0).toNat) ?_ (.raw _) (by simpa using hk)
    have e : s[n]? = some (s.data.toList.getD n 0) := by
      have : n < s.data.toList.length := by simpa using hn
      rw [List.getD_eq_getElem?_getD, List.getElem?_eq_getElem this]
      simp only [Option.getD_some]
      rw [getElem?_pos s n hn]
      rfl
    simp [Instr.index, asIntOf, run_und (und_of_isStr ht), e]
  · exact Does.of_act h (TR.two hv hu) rfl

end
end Go.Abs
