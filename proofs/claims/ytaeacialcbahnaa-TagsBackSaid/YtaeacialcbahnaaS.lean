/-
  Plain specifications for chapters 2, 3, 6 and 8. No program in sight.
-/
import Derived.Test.YtaeacialcbahnaaMx
namespace Go.Abs
set_option linter.unusedSimpArgs false
set_option linter.unusedVariables false
open Go.RowKit

theorem leafB {K : Ret → List Res → Prop} {σ : List Res} {b b' : Bool} (h : b = b') (hK : K (.ret (B b')) σ) : K (.ret (B b)) σ := h ▸ hK
theorem leafI {K : Ret → List Res → Prop} {σ : List Res} {b b' : Int} (h : b = b') (hK : K (.ret (I b')) σ) : K (.ret (I b)) σ := h ▸ hK
theorem leaf {K : Ret → List Res → Prop} {σ : List Res} {x y : AV} (h : x = y) (hK : K (.ret y) σ) : K (.ret x) σ := h ▸ hK

def printI (c : Int) : Bool := decide (c = 9 ∨ c = 10 ∨ c = 13 ∨ c = 133 ∨ (32 ≤ c ∧ c ≤ 126) ∨ (160 ≤ c ∧ c ≤ 55295) ∨ (57344 ≤ c ∧ c ≤ 65533) ∨ (65536 ≤ c ∧ c ≤ 1114111))
def blankI (c : Int) : Bool := decide (c = 32 ∨ c = 9)

/-- A list of numbers as a slice. -/
abbrev SI (o : Option (Option (Nat × Nat))) (l : List Int) : AV := .sl 1 o (l.map I)

theorem getI {l : List Int} {k : Nat} (h : k < l.length) : (l.map I).getD k .any = I (l.getD k 0) := by
  simp [List.getD_eq_getElem?_getD, h]

theorem goodI (l : List Int) : goodL (l.map I) = true := by
  unfold goodL
  rw [List.all_map, List.all_eq_true]
  intro x _
  rfl

theorem tw_step {α : Type} {p : α → Bool} {d : α} : ∀ {l : List α} {k : Nat}, k ≤ (l.takeWhile p).length → k < l.length → p (l.getD k d) = true → k + 1 ≤ (l.takeWhile p).length
  | [], _, _, h, _ => by simp at h
  | x :: l, 0, _, _, h => by
    have : p x = true := by simpa using h
    simp [List.takeWhile_cons, this]
  | x :: l, k + 1, h, h1, h2 => by
    by_cases e : p x = true
    · simp only [List.takeWhile_cons, e, if_true, List.length_cons] at h ⊢
      have := tw_step (p := p) (d := d) (l := l) (k := k) (by omega) (by simpa using h1) (by simpa using h2)
      omega
    · simp [List.takeWhile_cons, e] at h
theorem tw_stop {α : Type} {p : α → Bool} {d : α} : ∀ {l : List α} {k : Nat}, k ≤ (l.takeWhile p).length → k < l.length → p (l.getD k d) = false → k = (l.takeWhile p).length
  | [], _, _, h, _ => by simp at h
  | x :: l, 0, _, _, h => by
    have : p x = false := by simpa using h
    simp [List.takeWhile_cons, this]
  | x :: l, k + 1, h, h1, h2 => by
    by_cases e : p x = true
    · simp only [List.takeWhile_cons, e, if_true, List.length_cons] at h ⊢
      have := tw_stop (p := p) (d := d) (l := l) (k := k) (by omega) (by simpa using h1) (by simpa using h2)
      omega
    · simp [List.takeWhile_cons, e] at h
theorem tw_end {α : Type} {p : α → Bool} {l : List α} {k : Nat} (h : k ≤ (l.takeWhile p).length) (h1 : l.length ≤ k) : k = (l.takeWhile p).length := by
  have := (List.takeWhile_prefix p (l := l)).length_le
  omega
theorem leafDB {K : Ret → List Res → Prop} {σ σ' : List Res} {b b' : Bool} (hs : Sub σ σ') (h : b = b') (hK : K (.ret (B b')) σ) : DropK K (.ret (B b)) σ' := ⟨σ, hs, h ▸ hK⟩
theorem leafDI {K : Ret → List Res → Prop} {σ σ' : List Res} {b b' : Int} (hs : Sub σ σ') (h : b = b') (hK : K (.ret (I b')) σ) : DropK K (.ret (I b)) σ' := ⟨σ, hs, h ▸ hK⟩
theorem leafD {K : Ret → List Res → Prop} {σ σ' : List Res} {b b' : AV} (hs : Sub σ σ') (h : b = b') (hK : K (.ret b') σ) : DropK K (.ret b) σ' := ⟨σ, hs, h ▸ hK⟩
def bareI (l : List Int) : Bool := l.all blankI || (l.dropWhile blankI).getD 0 0 == 35
def markerI (n : Int) (t : List Int) : Int := if n = 0 ∧ 3 ≤ t.length ∧ t.getD 0 0 = t.getD 1 0 ∧ t.getD 1 0 = t.getD 2 0 ∧ (3 < t.length → blankI (t.getD 3 0) = true) then (if t.getD 0 0 = 45 then 1 else if t.getD 0 0 = 46 then 2 else 0) else 0
theorem markerI_bad {n : Int} {t : List Int} (hb : blankI (t.getD 3 0) = false) (h : 3 < t.length) : markerI n t = 0 := by
  unfold markerI
  rw [if_neg]
  rintro ⟨_, _, _, _, h5⟩
  rw [h5 h] at hb
  cases hb
theorem dw_step {p : Int → Bool} : ∀ {l : List Int}, 0 < l.length → p (l.getD 0 0) = true → l.dropWhile p = (l.drop 1).dropWhile p
  | [], h, _ => by simp at h
  | x :: l, _, h => by
    have : p x = true := by simpa using h
    simp [List.dropWhile_cons, this]
theorem dw_stop {p : Int → Bool} : ∀ {l : List Int}, 0 < l.length → p (l.getD 0 0) = false → l.dropWhile p = l
  | [], h, _ => by simp at h
  | x :: l, _, h => by
    have : p x = false := by simpa using h
    simp [List.dropWhile_cons, this]
theorem dw_all {p : Int → Bool} : ∀ {l : List Int}, ((l.dropWhile p).length = 0) = (l.all p = true)
  | [] => by simp
  | x :: l => by
    by_cases e : p x = true
    · simp only [List.dropWhile_cons, e, if_true, List.all_cons, Bool.true_and]; exact dw_all
    · simp [List.dropWhile_cons, e]
theorem tw_all {p : Int → Bool} : ∀ {l : List Int}, ((l.takeWhile p).length = l.length) = (l.all p = true)
  | [] => by simp
  | x :: l => by
    by_cases e : p x = true
    · simp only [List.takeWhile_cons, e, if_true, List.all_cons, Bool.true_and, List.length_cons, Nat.add_right_cancel_iff]; exact tw_all
    · simp [List.takeWhile_cons, e]
theorem tw_dw {p : Int → Bool} : ∀ {l : List Int}, l.drop (l.takeWhile p).length = l.dropWhile p
  | [] => by simp
  | x :: l => by
    by_cases e : p x = true
    · simp only [List.takeWhile_cons, e, if_true, List.length_cons, List.dropWhile_cons, List.drop_succ_cons]; exact tw_dw
    · simp [List.takeWhile_cons, List.dropWhile_cons, e]
theorem getD_mid {a r : List Int} {c d : Int} : (a ++ c :: r).getD a.length d = c := by simp
theorem getD_mid1 {a r : List Int} {c d : Int} : (a ++ c :: r).getD (a.length + 1) d = r.getD 0 d := by
  simp only [List.getD_eq_getElem?_getD]
  rw [List.getElem?_append_right (by omega)]
  simp [show a.length + 1 - a.length = 1 by omega]
theorem take_mid {a r : List Int} {c : Int} : (a ++ c :: r).take a.length = a := by simp
theorem drop_mid {a r : List Int} {c : Int} : (a ++ c :: r).drop (a.length + 1) = r := by
  rw [List.drop_append]; simp [show a.length + 1 - a.length = 1 by omega]
theorem drop_mid2 {a r : List Int} {c : Int} : (a ++ c :: r).drop (a.length + 2) = r.drop 1 := by
  rw [List.drop_append]; simp [show a.length + 2 - a.length = 2 by omega]
theorem tn1 {n : Nat} : ((n : Int) + 1).toNat = n + 1 := by omega
theorem tn2 {n : Nat} : ((n : Int) + 2).toNat = n + 2 := by omega
theorem tn11 {n : Int} : n + 1 + 1 = n + 2 := by omega
/-- Where the first one stands that is so; -1: none is. -/
def idxI (p : Int → Bool) : List Int → Int
  | [] => -1
  | c :: r => if p c then 0 else if idxI p r < 0 then -1 else idxI p r + 1
theorem idxI_hit {p : Int → Bool} : ∀ {l : List Int} {k : Nat}, k < l.length → (∀ j, j < k → p (l.getD j 0) = false) → p (l.getD k 0) = true → idxI p l = k
  | [], _, h, _, _ => by simp at h
  | c :: r, 0, _, _, h => by simp at h; simp [idxI, h]
  | c :: r, k + 1, h, h1, h2 => by
    have h0 : p c = false := by simpa using h1 0 (by omega)
    have := idxI_hit (p := p) (l := r) (k := k) (by simpa using h) (fun j hj => by simpa using h1 (j + 1) (by omega)) (by simpa using h2)
    simp only [idxI, h0, this]
    rw [if_neg (by simp), if_neg (by omega)]
    omega
theorem idxI_none {p : Int → Bool} : ∀ {l : List Int}, (∀ j, j < l.length → p (l.getD j 0) = false) → idxI p l = -1
  | [], _ => rfl
  | c :: r, h => by
    have h0 : p c = false := by simpa using h 0 (by simp)
    have := idxI_none (p := p) (l := r) (fun j hj => by simpa using h (j + 1) (by simpa using hj))
    simp [idxI, h0, this]
/-- Either none is so, or the list falls in two there. -/
theorem idxI_spec (p : Int → Bool) : ∀ (l : List Int), (idxI p l = -1 ∧ ∀ c ∈ l, p c = false) ∨ ∃ a c r, l = a ++ c :: r ∧ idxI p l = (a.length : Nat) ∧ p c = true ∧ ∀ x ∈ a, p x = false
  | [] => .inl ⟨rfl, fun _ h => by simp at h⟩
  | c :: r => by
    cases hc : p c with
    | true => exact .inr ⟨[], c, r, rfl, by simp [idxI, hc], hc, fun _ h => by simp at h⟩
    | false =>
      rcases idxI_spec p r with ⟨h1, h2⟩ | ⟨a, d, s, rfl, h2, h3, h4⟩
      · exact .inl ⟨by simp [idxI, hc, h1], fun x hx => by rcases List.mem_cons.1 hx with rfl | hx; exact hc; exact h2 x hx⟩
      · refine .inr ⟨c :: a, d, s, rfl, ?_, h3, fun x hx => by rcases List.mem_cons.1 hx with rfl | hx; exact hc; exact h4 x hx⟩
        simp only [idxI, hc, h2]
        rw [if_neg (by simp), if_neg (by omega)]
        simp

theorem bare_all {l : List Int} (h : l.all blankI = true) : bareI l = true := by simp [bareI, h]
theorem marker_bare {n : Int} {l : List Int} (h : bareI l = true) : markerI n l = 0 := by
  unfold markerI
  split
  case isFalse => rfl
  case isTrue hh =>
    obtain ⟨_, h3, h01, h12, _⟩ := hh
    cases l with
    | nil => simp at h3
    | cons c r =>
      simp only [List.getD_cons_zero] at h01 ⊢
      by_cases hb : blankI c = true
      · simp [blankI] at hb
        rw [if_neg (by omega), if_neg (by omega)]
      · simp [bareI, hb, List.dropWhile_cons] at h
        rw [if_neg (by omega), if_neg (by omega)]

theorem ext_getD {a b : List Int} (h : a.length = b.length) (hj : ∀ j, j < a.length → a.getD j 0 = b.getD j 0) : a = b := by
  refine List.ext_getElem h (fun j h1 h2 => ?_)
  have := hj j h1
  simpa [List.getD_eq_getElem?_getD, h1, h2] using this

end Go.Abs
