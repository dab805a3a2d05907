/-
  An evaluator of calls at closed inputs, part e: how its values and its heap read in a world.
-/
import Derived.Test.YtmeijmmfkgpamaaGreatEd
namespace Go.Eva
open Go.RowKit
set_option linter.unusedVariables false
set_option linter.unusedSimpArgs false

/-- Where a virtual block lies: in which block, from which cell on, with room for so many elements of so many cells. -/
structure RE where
  b : Nat
  base : Nat
  cap : Nat
  sz : Nat
abbrev Env := Nat → Option RE
def Env.le (ρ ρ' : Env) : Prop := ∀ v e, ρ v = some e → ρ' v = some e
theorem Env.le_refl (ρ : Env) : ρ.le ρ := fun _ _ h => h
theorem Env.le_trans {a b c : Env} (h : a.le b) (k : b.le c) : a.le c := fun v e he => k v e (h v e he)
def Env.ext (ρ : Env) (n : Nat) (e : RE) : Env := fun v => if v = n then some e else ρ v
theorem Env.ext_le {ρ : Env} {n : Nat} {e : RE} (h : ρ n = none) : ρ.le (ρ.ext n e) := fun v e' he => by
  unfold Env.ext
  by_cases hv : v = n
  · subst hv; rw [h] at he; cases he
  · rw [if_neg hv]; exact he
theorem Env.ext_same (ρ : Env) (n : Nat) (e : RE) : ρ.ext n e n = some e := if_pos rfl

mutual
def EV.den (ρ : Env) : EV → Option Value
  | .raw v => some v
  | .ptr b o => (ρ b).map fun e => .pointer (some ⟨e.b, e.base + o, none⟩)
  | .sl b i sz n c => (ρ b).bind fun e => if e.sz = sz ∧ (c = none → i + n ≤ e.cap) then some (.slice (some ⟨e.b, e.base + i * sz, none⟩) n (c.getD (e.cap - i))) else none
  | .se b i j sz => (ρ b).bind fun e => if e.sz = sz ∧ i + j ≤ e.cap then some (.slice (some ⟨e.b, e.base + (if e.cap - i = j then i else i + j) * sz, none⟩) 0 (e.cap - i - j)) else none
  | .agg l => (denL ρ l).map fun vs => .agg vs.toArray
  | .tup l => (denL ρ l).map fun vs => .tuple vs.toArray
  | .fn f a c => match denL ρ a, denL ρ c with
    | some a, some c => some (.func (.func f) a.toArray c.toArray)
    | _, _ => none
  | .yld l => (ρ l).map fun e => .func (.yield e.b) #[] #[]
  | .ifc t x => (x.den ρ).map fun v => .iface t v
  | .mp b => (ρ b).map fun e => .map (some e.b)
def denL (ρ : Env) : List EV → Option (List Value)
  | [] => some []
  | x :: r => match x.den ρ, denL ρ r with
    | some v, some vs => some (v :: vs)
    | _, _ => none
end
theorem denL_cons {ρ : Env} {x : EV} {r : List EV} {vs : List Value} : denL ρ (x :: r) = some vs ↔ ∃ v us, x.den ρ = some v ∧ denL ρ r = some us ∧ vs = v :: us := by
  simp only [denL]
  constructor
  · intro h
    split at h
    · rename_i v us h1 h2; cases h; exact ⟨v, us, h1, h2, rfl⟩
    · cases h
  · rintro ⟨v, us, h1, h2, rfl⟩; rw [h1, h2]
mutual
theorem den_mono {ρ ρ' : Env} (H : ρ.le ρ') : ∀ (x : EV) (v : Value), x.den ρ = some v → x.den ρ' = some v
  | .raw _, v, h => h
  | .ptr b o, v, h => by
    simp only [EV.den, Option.map_eq_some_iff] at h ⊢
    obtain ⟨e, h1, h2⟩ := h
    exact ⟨e, H _ _ h1, h2⟩
  | .sl b i sz n c, v, h => by
    simp only [EV.den, Option.bind_eq_some_iff] at h ⊢
    obtain ⟨e, h1, h2⟩ := h
    exact ⟨e, H _ _ h1, h2⟩
  | .se b i j sz, v, h => by
    simp only [EV.den, Option.bind_eq_some_iff] at h ⊢
    obtain ⟨e, h1, h2⟩ := h
    exact ⟨e, H _ _ h1, h2⟩
  | .agg l, v, h => by
    simp only [EV.den, Option.map_eq_some_iff] at h ⊢
    obtain ⟨e, h1, h2⟩ := h
    exact ⟨e, denL_mono H l _ h1, h2⟩
  | .tup l, v, h => by
    simp only [EV.den, Option.map_eq_some_iff] at h ⊢
    obtain ⟨e, h1, h2⟩ := h
    exact ⟨e, denL_mono H l _ h1, h2⟩
  | .fn f a c, v, h => by
    simp only [EV.den] at h ⊢
    split at h
    · rename_i a' c' h1 h2
      rw [denL_mono H a _ h1, denL_mono H c _ h2]; exact h
    · cases h
  | .yld l, v, h => by
    simp only [EV.den, Option.map_eq_some_iff] at h ⊢
    obtain ⟨e, h1, h2⟩ := h
    exact ⟨e, H _ _ h1, h2⟩
  | .ifc t x, v, h => by
    simp only [EV.den, Option.map_eq_some_iff] at h ⊢
    obtain ⟨e, h1, h2⟩ := h
    exact ⟨e, den_mono H x _ h1, h2⟩
  | .mp b, v, h => by
    simp only [EV.den, Option.map_eq_some_iff] at h ⊢
    obtain ⟨e, h1, h2⟩ := h
    exact ⟨e, H _ _ h1, h2⟩
theorem denL_mono {ρ ρ' : Env} (H : ρ.le ρ') : ∀ (l : List EV) (vs : List Value), denL ρ l = some vs → denL ρ' l = some vs
  | [], vs, h => h
  | x :: r, vs, h => by
    obtain ⟨v, us, h1, h2, rfl⟩ := denL_cons.1 h
    exact denL_cons.2 ⟨v, us, den_mono H x _ h1, denL_mono H r _ h2, rfl⟩
end
theorem denL_get {ρ : Env} : ∀ {l : List EV} {vs : List Value}, denL ρ l = some vs → ∀ (k : Nat) (x : EV), l[k]? = some x → ∃ v, vs[k]? = some v ∧ x.den ρ = some v
  | [], vs, _, k, x, hk => by simp at hk
  | y :: r, vs, h, k, x, hk => by
    obtain ⟨v, us, h1, h2, rfl⟩ := denL_cons.1 h
    cases k with
    | zero => simp at hk; subst hk; exact ⟨v, rfl, h1⟩
    | succ k => simpa using denL_get h2 k x (by simpa using hk)
theorem denL_len {ρ : Env} : ∀ {l : List EV} {vs : List Value}, denL ρ l = some vs → vs.length = l.length
  | [], vs, h => by cases h; rfl
  | y :: r, vs, h => by
    obtain ⟨v, us, h1, h2, rfl⟩ := denL_cons.1 h
    simp [denL_len h2]
theorem denL_mk {ρ : Env} : ∀ {l : List EV} {vs : List Value}, vs.length = l.length → (∀ (k : Nat) (x : EV), l[k]? = some x → ∃ v, vs[k]? = some v ∧ x.den ρ = some v) → denL ρ l = some vs
  | [], [], _, _ => rfl
  | [], _ :: _, h, _ => by simp at h
  | _ :: _, [], h, _ => by simp at h
  | x :: l, v :: vs, h, k => by
    obtain ⟨u, h1, h2⟩ := k 0 x rfl
    simp at h1; subst h1
    exact denL_cons.2 ⟨_, _, h2, denL_mk (by simpa using h) (fun j y hj => by simpa using k (j + 1) y (by simpa using hj)), rfl⟩
theorem denL_app {ρ : Env} {a b : List EV} {us vs : List Value} (h1 : denL ρ a = some us) (h2 : denL ρ b = some vs) : denL ρ (a ++ b) = some (us ++ vs) := by
  induction a generalizing us with
  | nil => cases h1; exact h2
  | cons x r ih =>
    obtain ⟨v, ws, h3, h4, rfl⟩ := denL_cons.1 h1
    exact denL_cons.2 ⟨v, ws ++ vs, h3, ih h4, rfl⟩
theorem denL_split {ρ : Env} {a b : List EV} {vs : List Value} (h : denL ρ (a ++ b) = some vs) : ∃ us ws, denL ρ a = some us ∧ denL ρ b = some ws ∧ vs = us ++ ws := by
  induction a generalizing vs with
  | nil => exact ⟨[], vs, rfl, h, rfl⟩
  | cons x r ih =>
    obtain ⟨v, us, h3, h4, rfl⟩ := denL_cons.1 (by simpa using h)
    obtain ⟨as, bs, h5, h6, rfl⟩ := ih h4
    exact ⟨v :: as, bs, denL_cons.2 ⟨v, as, h3, h5, rfl⟩, h6, rfl⟩
/-- What has no address in it reads the same everywhere. -/
theorem toV_den {ρ : Env} : (∀ (x : EV) (v : Value), x.toV = some v → x.den ρ = some v) ∧ (∀ (l : List EV) (vs : List Value), toVs l = some vs → denL ρ l = some vs) := by
  constructor
  · intro x v h
    exact toV_den1 x v h
  · intro l vs h
    exact toVs_den1 l vs h
where
  toV_den1 {ρ : Env} : ∀ (x : EV) (v : Value), x.toV = some v → x.den ρ = some v
    | .raw _, v, h => h
    | .agg l, v, h => by
      simp only [EV.toV, Option.map_eq_some_iff] at h
      obtain ⟨vs, h1, h2⟩ := h
      simp only [EV.den, toVs_den1 l vs h1, Option.map_some, h2]
    | .ifc t x, v, h => by
      simp only [EV.toV, Option.map_eq_some_iff] at h
      obtain ⟨u, h1, h2⟩ := h
      simp only [EV.den, toV_den1 x u h1, Option.map_some, h2]
    | .ptr .., v, h => by cases h
    | .sl .., v, h => by cases h
    | .se .., v, h => by cases h
    | .tup .., v, h => by cases h
    | .fn .., v, h => by cases h
    | .yld .., v, h => by cases h
    | .mp .., v, h => by cases h
  toVs_den1 {ρ : Env} : ∀ (l : List EV) (vs : List Value), toVs l = some vs → denL ρ l = some vs
    | [], vs, h => h
    | x :: r, vs, h => by
      simp only [toVs] at h
      split at h
      · rename_i v us h1 h2; cases h; exact denL_cons.2 ⟨v, us, toV_den1 x v h1, toVs_den1 r us h2, rfl⟩
      · cases h

/-! ### Worlds -/
structure Ctx where
  B : Nat
  w0 : World

/-- No cell of the row is frozen. -/
def Thaw (arr : Array Value) (fz : Nat × Nat) : Prop := fz.1 = fz.2 ∨ arr.size ≤ fz.1
theorem Thaw.not {arr : Array Value} {fz : Nat × Nat} (h : Thaw arr fz) {o : Nat} (ho : o < arr.size) : ¬ (fz.1 ≤ o ∧ o < fz.2) := by rcases h with h | h <;> omega
theorem Thaw.size {arr arr' : Array Value} {fz : Nat × Nat} (h : Thaw arr fz) (he : arr'.size = arr.size) : Thaw arr' fz := h.imp id (fun h => by omega)
/-- Cells that read so. -/
def CR (ρ : Env) (l : List EV) (arr : Array Value) (base : Nat) : Prop := ∀ (k : Nat) (x : EV), l[k]? = some x → x.one = true ∧ ∃ v, arr[base + k]? = some v ∧ x.den ρ = some v
/-- Temporaries that read so. -/
structure TR (ρ : Env) (N : Nat) (tm : T EV) (tmps : Array Value) : Prop where
  size : tmps.size = N
  get : ∀ (k : Nat) (x : EV), T.get tm k = some x → ∃ v, tmps[k]? = some v ∧ x.den ρ = some v
def OBc (ρ : Env) (l : List EV) (e : RE) (w : World) : Prop :=
  ∃ arr t fz, w.heap[e.b]? = some (.cells arr t fz) ∧ Thaw arr fz ∧ e.base + l.length ≤ arr.size ∧ e.base + e.cap * e.sz ≤ arr.size ∧ CR ρ l arr e.base
def OBl (P : Program) (ρ : Env) (L : ELoop) (e : RE) (w : World) : Prop :=
  ∃ r e', w.heap[e.b]? = some (.loop r) ∧ r.state = L.state ∧ r.pending = L.pending ∧ r.params = L.params ∧ r.assign = L.assign ∧ r.body = L.body ∧ TR ρ L.N L.tm r.tmps ∧ ρ L.defers = some e' ∧ r.defers = e'.b ∧ ∃ fn, P.funcs[r.fn]? = some fn
def OB (P : Program) (ρ : Env) (o : EO) (e : RE) (w : World) : Prop := match o with
  | .var l => OBc ρ l e w
  | .row l _ _ _ => OBc ρ l e w
  | .loop L => OBl P ρ L e w
  | .iter s p => e.base = 0 ∧ w.heap[e.b]? = some (.stringIter s p)
  | .dfr => w.heap[e.b]? = some (.deferred (some []))
  | .map .. => False
/-- Two virtual blocks that may lie in one block. -/
def Share (x y : EO) (eu ev : RE) : Prop := match x, y with
  | .row lu cu su tu, .row lv cv sv tv => cu = cv ∧ su = false ∧ sv = false ∧ (tv = true → tu = false ∧ eu.base + lu.length ≤ ev.base + lv.length) ∧ (tu = true → tv = false ∧ ev.base + lv.length ≤ eu.base + lu.length)
  | _, _ => False
theorem Share.symm {x y : EO} {eu ev : RE} (h : Share x y eu ev) : Share y x ev eu := by
  unfold Share at *
  cases x <;> cases y <;> first | exact h.elim | exact ⟨h.1.symm, h.2.2.1, h.2.1, h.2.2.2.2, h.2.2.2.1⟩

structure S (κ : Ctx) (P : Program) (ρ : Env) (s : ES) (w : World) : Prop where
  below : Below κ.B κ.w0 w
  hB : κ.B ≤ w.heap.size
  dom : ∀ v e, ρ v = some e → v < s.n ∧ κ.B ≤ e.b ∧ e.b < w.heap.size
  obj : ∀ v x, T.get s.h v = some x → ∃ e, ρ v = some e ∧ OB P ρ x e w
  sep : ∀ u v x y eu ev, u ≠ v → T.get s.h u = some x → T.get s.h v = some y → ρ u = some eu → ρ v = some ev → eu.b = ev.b → Share x y eu ev

theorem CR.mono {ρ ρ' : Env} (H : ρ.le ρ') {l : List EV} {arr : Array Value} {base : Nat} (h : CR ρ l arr base) : CR ρ' l arr base := fun k x hk => by
  obtain ⟨h1, v, h2, h3⟩ := h k x hk
  exact ⟨h1, v, h2, den_mono H _ _ h3⟩
theorem TR.mono {ρ ρ' : Env} (H : ρ.le ρ') {N : Nat} {tm : T EV} {tmps : Array Value} (h : TR ρ N tm tmps) : TR ρ' N tm tmps :=
  ⟨h.size, fun k x hk => by obtain ⟨v, h2, h3⟩ := h.get k x hk; exact ⟨v, h2, den_mono H _ _ h3⟩⟩
theorem OB.mono {P : Program} {ρ ρ' : Env} (H : ρ.le ρ') {o : EO} {e : RE} {w : World} (h : OB P ρ o e w) : OB P ρ' o e w := by
  cases o with
  | var l => obtain ⟨arr, t, fz, a, b, c, d, f⟩ := h; exact ⟨arr, t, fz, a, b, c, d, f.mono H⟩
  | row l _ _ _ => obtain ⟨arr, t, fz, a, b, c, d, f⟩ := h; exact ⟨arr, t, fz, a, b, c, d, f.mono H⟩
  | loop L => obtain ⟨r, e', a, b, c, d, f, g, i, j, k⟩ := h; exact ⟨r, e', a, b, c, d, f, g, i.mono H, H _ _ j, k⟩
  | iter s p => exact h
  | dfr => exact h
  | map es c => exact h
theorem OB.congr {P : Program} {ρ : Env} {o : EO} {e : RE} {w w' : World} (hw : w'.heap[e.b]? = w.heap[e.b]?) (h : OB P ρ o e w) : OB P ρ o e w' := by
  cases o with
  | var l => obtain ⟨arr, t, fz, a, b⟩ := h; exact ⟨arr, t, fz, hw.trans a, b⟩
  | row l _ _ _ => obtain ⟨arr, t, fz, a, b⟩ := h; exact ⟨arr, t, fz, hw.trans a, b⟩
  | loop L => obtain ⟨r, e', a, b⟩ := h; exact ⟨r, e', hw.trans a, b⟩
  | iter s p => exact ⟨h.1, hw.trans h.2⟩
  | dfr => exact hw.trans h
  | map es c => exact h

def setO (w : World) (b : Nat) (o : Obj) : World := { w with heap := w.heap.setIfInBounds b o }
theorem setO_same {w : World} {b : Nat} {o : Obj} (h : b < w.heap.size) : (setO w b o).heap[b]? = some o := by simp [setO, h]
theorem setO_other {w : World} {b k : Nat} {o : Obj} (h : k ≠ b) : (setO w b o).heap[k]? = w.heap[k]? := by simp [setO, Ne.symm h]
theorem setO_size {w : World} {b : Nat} {o : Obj} : (setO w b o).heap.size = w.heap.size := by simp [setO]
theorem alloc_lt {w : World} {o : Obj} {b : Nat} (h : b < w.heap.size) : (w.alloc o).heap[b]? = w.heap[b]? := by
  show (w.heap.push o)[b]? = _
  rw [Array.getElem?_push, if_neg (by omega)]
theorem alloc_eq {w : World} {o : Obj} : (w.alloc o).heap[w.heap.size]? = some o := by
  show (w.heap.push o)[w.heap.size]? = _
  rw [Array.getElem?_push, if_pos rfl]
theorem alloc_size {w : World} {o : Obj} : (w.alloc o).heap.size = w.heap.size + 1 := by
  show (w.heap.push o).size = _; simp

section
variable {κ : Ctx} {P : Program} {ρ : Env} {s : ES} {w : World}
theorem S.none (h : S κ P ρ s w) {v : Nat} (hv : s.n ≤ v) : ρ v = none := by
  cases he : ρ v with
  | none => rfl
  | some e => have := (h.dom v e he).1; omega
/-- Fewer objects. -/
theorem S.fewer (h : S κ P ρ s w) {h' : T EO} (hs : ∀ u y, T.get h' u = some y → T.get s.h u = some y) : S κ P ρ { h := h', n := s.n } w :=
  ⟨h.below, h.hB, h.dom, fun v x hv => h.obj v x (hs v x hv), fun u v x y eu ev huv hu hv => h.sep u v x y eu ev huv (hs u x hu) (hs v y hv)⟩
/-- An object of one's own turns. -/
theorem S.change (h : S κ P ρ s w) {v : Nat} {x' : EO} {e : RE} {o' : Obj} {h' : T EO} (he : ρ v = some e)
    (hsub : ∀ u y, T.get h' u = some y → (u = v ∧ y = x') ∨ (u ≠ v ∧ T.get s.h u = some y)) (hx : OB P ρ x' e (setO w e.b o'))
    (hoth : ∀ u y eu, u ≠ v → T.get h' u = some y → ρ u = some eu → eu.b = e.b → OB P ρ y eu (setO w e.b o') ∧ Share y x' eu e) : S κ P ρ { h := h', n := s.n } (setO w e.b o') := by
  obtain ⟨d1, d2, d3⟩ := h.dom v e he
  refine ⟨h.below.trans ⟨rfl, rfl, rfl, by rw [setO_size]; exact Nat.le_refl _, fun k hk => setO_other (by omega)⟩, by rw [setO_size]; exact h.hB, fun u eu hu => by rw [setO_size]; exact h.dom u eu hu, ?_, ?_⟩
  · intro u y hu
    rcases hsub u y hu with ⟨rfl, rfl⟩ | ⟨hne, hu'⟩
    · exact ⟨e, he, hx⟩
    · obtain ⟨eu, h1, h2⟩ := h.obj u y hu'
      refine ⟨eu, h1, ?_⟩
      by_cases hb : eu.b = e.b
      · exact (hoth u y eu hne hu h1 hb).1
      · exact h2.congr (setO_other hb)
  · intro a b x y ea eb hab ha hb hea heb hbb
    rcases hsub a x ha with ⟨rfl, rfl⟩ | ⟨hna, ha'⟩
    · rcases hsub b y hb with ⟨rfl, rfl⟩ | ⟨hnb, hb'⟩
      · exact absurd rfl hab
      · rw [he] at hea; cases hea
        exact (hoth b y eb hnb hb heb hbb.symm).2.symm
    · rcases hsub b y hb with ⟨rfl, rfl⟩ | ⟨hnb, hb'⟩
      · rw [he] at heb; cases heb
        exact (hoth a x ea hna ha hea hbb).2
      · exact h.sep a b x y ea eb hab ha' hb' hea heb hbb
/-- A new object in a new block. -/
theorem S.fresh (h : S κ P ρ s w) {o' : Obj} {x : EO} {cap sz : Nat} (hx : OB P (ρ.ext s.n ⟨w.heap.size, 0, cap, sz⟩) x ⟨w.heap.size, 0, cap, sz⟩ (w.alloc o')) :
    S κ P (ρ.ext s.n ⟨w.heap.size, 0, cap, sz⟩) (newObj s x) (w.alloc o') := by
  have hle : ρ.le (ρ.ext s.n ⟨w.heap.size, 0, cap, sz⟩) := Env.ext_le (h.none (Nat.le_refl _))
  have hext : ∀ u eu, (ρ.ext s.n ⟨w.heap.size, 0, cap, sz⟩) u = some eu → (u = s.n ∧ eu = ⟨w.heap.size, 0, cap, sz⟩) ∨ (u ≠ s.n ∧ ρ u = some eu) := by
    intro u eu hu
    unfold Env.ext at hu
    by_cases hn : u = s.n
    · rw [if_pos hn] at hu; cases hu; exact .inl ⟨hn, rfl⟩
    · rw [if_neg hn] at hu; exact .inr ⟨hn, hu⟩
  refine ⟨h.below.trans ⟨rfl, rfl, rfl, by rw [alloc_size]; omega, fun k hk => alloc_lt (by have := h.hB; omega)⟩, by rw [alloc_size]; have := h.hB; omega, ?_, ?_, ?_⟩
  · intro u eu hu
    rw [alloc_size]
    show u < s.n + 1 ∧ _
    rcases hext u eu hu with ⟨rfl, rfl⟩ | ⟨_, hu⟩
    · exact ⟨by omega, h.hB, by show w.heap.size < _; omega⟩
    · have := h.dom u eu hu; exact ⟨by omega, this.2.1, by omega⟩
  · intro u y hu
    rcases get_set hu with ⟨rfl, rfl⟩ | ⟨hne, hu⟩
    · exact ⟨_, Env.ext_same _ _ _, hx⟩
    · obtain ⟨eu, h1, h2⟩ := h.obj u y hu
      exact ⟨eu, hle _ _ h1, (h2.mono hle).congr (alloc_lt (h.dom u eu h1).2.2)⟩
  · intro a b x' y ea eb hab ha hb hea heb hbb
    rcases hext a ea hea with ⟨rfl, rfl⟩ | ⟨hna, hea⟩
    · rcases hext b eb heb with ⟨rfl, rfl⟩ | ⟨hnb, heb⟩
      · exact absurd rfl hab
      · have := (h.dom b eb heb).2.2; rw [← hbb] at this; exact absurd this (Nat.lt_irrefl _)
    · rcases hext b eb heb with ⟨rfl, rfl⟩ | ⟨hnb, heb⟩
      · have := (h.dom a ea hea).2.2; rw [hbb] at this; exact absurd this (Nat.lt_irrefl _)
      · rcases get_set ha with ⟨e1, _⟩ | ⟨_, ha⟩
        · exact absurd e1 hna
        · rcases get_set hb with ⟨e1, _⟩ | ⟨_, hb⟩
          · exact absurd e1 hnb
          · exact h.sep a b x' y ea eb hab ha hb hea heb hbb
/-- A draw. -/
theorem S.drew (h : S κ P ρ s w) (n : Nat) : S κ P ρ s { w with drawn := n } :=
  ⟨h.below.trans ⟨rfl, rfl, rfl, Nat.le_refl _, fun _ _ => rfl⟩, h.hB, h.dom, fun v x hv => by obtain ⟨e, h1, h2⟩ := h.obj v x hv; exact ⟨e, h1, h2.congr rfl⟩, h.sep⟩
end
end Go.Eva
