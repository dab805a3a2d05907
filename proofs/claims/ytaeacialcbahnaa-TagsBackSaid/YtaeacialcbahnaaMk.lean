/-
  The abstract layer, part k: slices and structs written out; weaker operands.
-/
import Derived.Test.YtaeacialcbahnaaMj
import Derived.Great.FillDense
namespace Go.Abs
open Go.RowKit

/-- The fields of a struct: where each lies, how many cells it has. -/
def plT (P : Program) (t : TypeId) : Option (List (Nat × Nat)) := match P.underlying t with | some (.struct fs) => fs.toList.mapM (fun f => (P.info? f.type).map fun i => (f.offset, i.size)) | _ => none

def buildA (places : List (Nat × Nat)) : List AV → List (Nat × AV) → Option (List AV)
  | cs, [] => some cs
  | cs, (i, x) :: r =>
    match places[i]? with
    | some (off, n) => if x.cells.length = n ∧ off + n ≤ cs.length ∧ x.cells.all oneA = true then buildA places (setCells cs off x.cells) r else none
    | none => none

section
variable {κ : Ctx} {P : Program} {σ : List Res} {K : AV → List Res → Prop}

theorem TR.le {g : Nat → Nat} {w : World} {xs ys : List AV} {vs : Array Value} (h : TR g w xs vs) (hl : ys.length = xs.length) (hle : ∀ (k : Nat) (x y : AV), xs[k]? = some x → ys[k]? = some y → x.le y) : TR g w ys vs :=
  ⟨by rw [h.size, hl], fun k y hy => by
    have hlt : k < xs.length := by rw [← hl]; exact lt_of_get hy
    have hx : xs[k]? = some (xs[k]'hlt) := List.getElem?_eq_getElem hlt
    exact (h.get k _ hx).le (hle k _ _ hx hy)⟩

/-- A destination that is nil. -/
theorem act_append_nil {t sz : Nat} {y : AV} (hsz : 0 < sz) (h : AAct κ P (.append t) [.sl sz (some none) [], y] (.tip none :: σ) K) : AAct κ P (.append t) [nilS, y] σ K := by
  intro φ g w vs hR hv
  have hR' : Rel κ g (φ ++ (.tip none :: σ)) w := hR.void.perm List.perm_middle.symm
  refine h φ g w vs hR' (hv.le (by simp) (fun k x y' hx hy => ?_))
  match k, hx, hy with
  | 0, hx, hy => simp at hx hy; subst hx; subst hy; exact .inr (.inr (.inr ⟨sz, _, rfl, hsz, rfl⟩))
  | 1, hx, hy => simp at hx hy; subst hx; subst hy; exact .inr (.inl rfl)

/-- A source that is nil. -/
theorem act_append_src_nil {t sz : Nat} {x : AV} (hsz : 0 < sz) (h : AAct κ P (.append t) [x, .sl sz none []] σ K) : AAct κ P (.append t) [x, nilS] σ K := by
  intro φ g w vs hR hv
  refine h φ g w vs hR (hv.le (by simp) (fun k x' y' hx hy => ?_))
  match k, hx, hy with
  | 0, hx, hy => simp at hx hy; subst hx; subst hy; exact .inr (.inl rfl)
  | 1, hx, hy => simp at hx hy; subst hx; subst hy; exact .inr (.inr (.inr ⟨sz, _, rfl, hsz, rfl⟩))

theorem zip_range' {α : Type} : ∀ (vs : List α) (k : Nat), (List.range' k vs.length).zip vs = (vs.zipIdx k).map fun x => (x.2, x.1)
  | [], _ => rfl
  | v :: vs, k => by
    simp only [List.length_cons, List.range'_succ, List.zip_cons_cons, List.zipIdx_cons, List.map_cons, zip_range' vs (k + 1)]

theorem flat_FR {g : Nat → Nat} {w : World} {sz : Nat} : ∀ (xs : List AV) (vs : List Value), vs.length = xs.length → (∀ x ∈ xs, x.cells.length = sz) → (∀ (i : Nat) (x : AV), xs[i]? = some x → ∃ v, vs[i]? = some v ∧ TR g w x.cells v.cells) → FR g w sz xs (vs.flatMap fun v => v.cells.toList)
  | [], [], _, _, _ => FR.nil
  | [], _ :: _, h, _, _ => by simp at h
  | _ :: _, [], h, _, _ => by simp at h
  | x :: xs, v :: vs, h, hc, hcell => by
    have ih := flat_FR xs vs (by simpa using h) (fun y hy => hc y (by simp [hy])) (fun i y hy => by
      obtain ⟨u, h1, h2⟩ := hcell (i + 1) y (by simpa using hy)
      exact ⟨u, by simpa using h1, h2⟩)
    obtain ⟨u, h1, h2⟩ := hcell 0 x rfl
    simp at h1
    subst h1
    have hx : FR g w sz [x] v.cells.toList := by
      refine ⟨by simp [h2.size, hc x], fun i y hy => ?_, fun i y k z hy hz => ?_⟩
      · match i, hy with
        | 0, hy => simp at hy; subst hy; exact hc _ (by simp)
      · match i, hy with
        | 0, hy =>
          simp at hy; subst hy
          have h3 := h2.get k z hz
          have hlt : k < v.cells.size := by rw [h2.size]; exact lt_of_get hz
          refine ⟨v.cells.getD k undef, ?_, h3⟩
          simp [hlt]
    exact hx.append ih

/-- A slice written out, to which may be appended. -/
theorem act_bslice_own {t e n sz : Nat} {ix : List Nat} {xs : List AV} {z : Value} (he : slE P t = some e) (hs : szT P e = some sz) (hz : zrT P e = some z) (hsz : 0 < sz) (hn : 0 < n) (hsm : n * sz ≤ 16777216) (hix : ix = List.range n) (hlen : xs.length = n)
    (hgood : goodL xs = true) (hc : ∀ x ∈ xs, x.cells.length = sz) (hK : ∀ b, K (.sl sz (some (some (b, n * sz))) xs) (.tip (some (b, n * sz)) :: σ)) : AAct κ P (.bslice t n ix) xs σ K := by
  intro φ g w vs hR hv
  subst hix
  have ht := und_of_slE he
  obtain ⟨inf, hi, hisz, hizr⟩ : ∃ inf, P.info? e = some inf ∧ inf.size = sz ∧ inf.zero = some z := by
    unfold szT zrT at *
    cases hi : P.info? e with
    | none => simp [hi] at hs
    | some inf => exact ⟨inf, rfl, by simpa [hi] using hs, by simpa [hi] using hz⟩
  have hvl : vs.length = n := by have := hv.size; simpa [hlen] using this
  have hcell : ∀ (i : Nat) (x : AV), xs[i]? = some x → ∃ v, vs[i]? = some v ∧ TR g w x.cells v.cells := by
    intro i x hx
    have hlt : i < vs.length := by rw [hvl, ← hlen]; exact lt_of_get hx
    have h1 := hv.get i x hx
    have h2 : vs[i]? = some (vs[i]'hlt) := List.getElem?_eq_getElem hlt
    have h3 : vs.toArray.getD i undef = vs[i]'hlt := by simp [Array.getD_eq_getD_getElem?, h2]
    rw [h3] at h1
    exact ⟨_, h2, TR.cells h1 (List.all_eq_true.1 hgood x (List.mem_of_getElem? hx))⟩
  have hvc : ∀ v ∈ vs, v.cells.size = sz := by
    intro v hvm
    obtain ⟨j, hj, rfl⟩ := List.getElem_of_mem hvm
    have hx : xs[j]? = some (xs[j]'(by rw [hlen, ← hvl]; exact hj)) := List.getElem?_eq_getElem _
    obtain ⟨v', h1, h2⟩ := hcell j _ hx
    rw [List.getElem?_eq_getElem hj] at h1
    have := Option.some.inj h1
    rw [this, h2.size]
    exact hc _ (List.getElem_mem _)
  have hparts : (((List.range n).zip vs).toArray).toList = ((vs.zipIdx 0).map fun x => (x.2, x.1)) := by
    rw [List.range_eq_range', ← hvl, zip_range']
  have hfill := Great.fill_whole hsz vs ((Array.range (n * inf.size)).map (z.cells[· % z.cells.size]!)) hvc (by simp [hvl, hisz])
  have hrun := run_buildSlice (P := P) w t e n ((List.range n).zip vs).toArray _ inf z ht hi hizr (by rw [hisz]; omega) (by rw [hisz]; have := Nat.mul_pos hn hsz; omega) (by rw [hisz] at hfill ⊢; rw [hparts]; exact hfill)
  have hf : FR g w sz xs (vs.flatMap fun v => v.cells.toList) := flat_FR xs vs (by rw [hvl, hlen]) hc hcell
  obtain ⟨b1, b2, b3⟩ := row_new hR hf hsz #[] e (cap := xs.length) (Nat.le_refl _) (by unfold maxLen; have h1 : xs.length * 1 ≤ xs.length * sz := Nat.mul_le_mul_left _ hsz; rw [hlen] at h1 ⊢; omega) (by simp)
  rw [hlen] at b1 b2 b3
  simp only [Array.append_empty] at b1 b2 b3
  exact ⟨_, _, _, _, _, hrun, b1, b2, b3, hK _⟩

/-- A slice written out, only to be read. -/
theorem act_bslice {t e n sz : Nat} {ix : List Nat} {xs : List AV} {z : Value} (he : slE P t = some e) (hs : szT P e = some sz) (hz : zrT P e = some z) (hsz : 0 < sz) (hn : 0 < n) (hsm : n * sz ≤ 16777216) (hix : ix = List.range n) (hlen : xs.length = n)
    (hgood : goodL xs = true) (hc : ∀ x ∈ xs, x.cells.length = sz) (hK : K (.sl sz none xs) σ) : AAct κ P (.bslice t n ix) xs σ K := by
  have h := act_bslice_own (κ := κ) (P := P) (σ := σ) (K := fun x σ' => ∃ b, x = .sl sz (some (some (b, n * sz))) xs ∧ σ' = .tip (some (b, n * sz)) :: σ) he hs hz hsz hn hsm hix hlen hgood hc (fun b => ⟨b, rfl, rfl⟩)
  intro φ g w vs hR hv
  obtain ⟨v, w', g', x, σ', h1, h2, h3, h4, b, rfl, rfl⟩ := h φ g w vs hR hv
  exact ⟨v, w', g', _, σ, h1, h2.sub ((List.Sublist.refl φ).append (List.sublist_cons_self _ _)), h3, h4.le (.inr (.inr (.inl ⟨_, _, _, rfl, rfl⟩))), hK⟩

end
end Go.Abs
