/-
  Plain specifications for chapter 11: anchors, tags, directives. No program in sight.
-/
import Derived.Test.YtaeacialcbahnaaSw
namespace Go.Abs
set_option linter.unusedSimpArgs false
set_option linter.unusedVariables false
def uriL : List Int := [35, 59, 47, 63, 58, 64, 38, 61, 43, 36, 44, 95, 46, 33, 126, 42, 39, 40, 41, 91, 93]
def uriC (c : Int) : Bool := decide (c ∈ uriL)
/-- How many code points the URI sign at a list's beginning has. -/
def signN (l : List Int) : Nat :=
  match l with
  | [] => 0
  | c :: r => if c = 37 then (if 2 ≤ r.length ∧ 0 ≤ hexI (r.getD 0 0) ∧ 0 ≤ hexI (r.getD 1 0) then 3 else 0) else if wordI c || uriC c then 1 else 0
theorem signN_nil : signN [] = 0 := rfl
theorem signN_at {l : List Int} {i : Nat} (h : i < l.length) : signN (l.drop i) = if l.getD i 0 = 37 then (if i + 2 < l.length ∧ 0 ≤ hexI (l.getD (i + 1) 0) ∧ 0 ≤ hexI (l.getD (i + 2) 0) then 3 else 0) else if wordI (l.getD i 0) || uriC (l.getD i 0) then 1 else 0 := by
  rw [drop_getD h]
  simp only [signN]
  have e1 : (l.drop (i + 1)).getD 0 0 = l.getD (i + 1) 0 := by simp [List.getD_eq_getElem?_getD]
  have e2 : (l.drop (i + 1)).getD 1 0 = l.getD (i + 2) 0 := by simp [List.getD_eq_getElem?_getD]
  have e3 : (2 ≤ (l.drop (i + 1)).length) = (i + 2 < l.length) := by simp; omega
  simp only [e1, e2, e3]
theorem signN_le (l : List Int) : signN l ≤ 3 ∧ signN l ≤ l.length := by
  unfold signN
  split
  · simp
  · rename_i c r
    (repeat' split) <;> simp <;> omega
/-- How many code points at a list's beginning are URI signs of a kind. -/
def uriGo (may : Int → Bool) : Nat → List Int → Nat
  | 0, _ => 0
  | f + 1, l => if signN l = 0 ∨ may (l.getD 0 0) = false then 0 else signN l + uriGo may f (l.drop (signN l))
def uriN (may : Int → Bool) (l : List Int) : Nat := uriGo may l.length l
theorem uriGo_le (may : Int → Bool) : ∀ (f : Nat) (l : List Int), uriGo may f l ≤ l.length
  | 0, _ => Nat.zero_le _
  | f + 1, l => by
    have h1 := (signN_le l).2
    have h2 := uriGo_le may f (l.drop (signN l))
    rw [List.length_drop] at h2
    simp only [uriGo]
    split <;> omega
theorem uriN_le (may : Int → Bool) (l : List Int) : uriN may l ≤ l.length := uriGo_le may _ l
theorem uriGo_fuel (may : Int → Bool) : ∀ (f f' : Nat) (l : List Int), l.length ≤ f → l.length ≤ f' → uriGo may f l = uriGo may f' l
  | 0, 0, _, _, _ => rfl
  | 0, f' + 1, l, h, _ => by
    obtain rfl := List.eq_nil_of_length_eq_zero (by omega : l.length = 0)
    simp [uriGo, signN]
  | f + 1, 0, l, _, h => by
    obtain rfl := List.eq_nil_of_length_eq_zero (by omega : l.length = 0)
    simp [uriGo, signN]
  | f + 1, f' + 1, l, h, h' => by
    simp only [uriGo]
    split
    · rfl
    · rename_i hn
      rw [uriGo_fuel may f f' _ (by rw [List.length_drop]; omega) (by rw [List.length_drop]; omega)]
/-- From a place on: where the signs end. -/
theorem uriN_at (may : Int → Bool) (l : List Int) : uriN may l = if signN l = 0 ∨ may (l.getD 0 0) = false then 0 else signN l + uriN may (l.drop (signN l)) := by
  unfold uriN
  cases l with
  | nil => simp [uriGo, signN]
  | cons c r =>
    have : ∀ n, 0 < n → uriGo may r.length ((c :: r).drop n) = uriGo may ((c :: r).drop n).length ((c :: r).drop n) := fun n hn => uriGo_fuel may _ _ _ (by simp only [List.length_drop, List.length_cons]; omega) (Nat.le_refl _)
    rw [List.length_cons]
    simp only [uriGo]
    split
    · rfl
    · rename_i h
      rw [this _ (by omega)]
def anyC (c : Int) : Bool := true
def shortC (c : Int) : Bool := !(c == 33) && !flowI c
/-- Which texts may be tags. -/
def validI (l : List Int) : Bool := decide (0 < l.length ∧ uriN anyC l = l.length)
theorem word_ascii {c : Int} (h : wordI c = true) : 0 ≤ c ∧ c < 128 := by
  unfold wordI at h
  have := of_decide_eq_true h
  omega
theorem uri_ascii {c : Int} (h : uriC c = true) : 0 ≤ c ∧ c < 128 := by
  unfold uriC at h
  have := of_decide_eq_true h
  simp only [uriL, List.mem_cons, List.not_mem_nil, or_false] at this
  omega
theorem hex_ascii {c : Int} (h : 0 ≤ hexI c) : 0 ≤ c ∧ c < 128 := by
  unfold hexI at h
  (repeat' split at h) <;> omega
/-- Whatever stands in URI signs is ASCII. -/
theorem uri_all : ∀ (n : Nat) (l : List Int), l.length ≤ n → uriN anyC l = l.length → ∀ c ∈ l, 0 ≤ c ∧ c < 128
  | n, [], _, _ => by simp
  | 0, c :: r, h, _ => by simp at h
  | n + 1, c :: r, h, hu => by
    rw [uriN_at] at hu
    split at hu
    · simp at hu
    · rename_i hn
      have hs : ¬ signN (c :: r) = 0 := fun e => hn (.inl e)
      have ih := uri_all n ((c :: r).drop (signN (c :: r))) (by simp only [List.length_drop, List.length_cons] at *; omega) (by rw [List.length_drop]; omega)
      intro x hx
      rw [← List.take_append_drop (signN (c :: r)) (c :: r)] at hx
      rcases List.mem_append.1 hx with hx | hx
      · clear ih hu hn
        unfold signN at hs hx
        simp only at hs hx
        split at hs
        · rename_i h37
          simp only [h37, if_true] at hx
          split at hs
          · rename_i hh
            simp only [hh, and_self, if_true] at hx
            match r, hh with
            | y :: z :: r, hh =>
              have hy := hex_ascii hh.2.1
              have hz := hex_ascii hh.2.2
              simp at hx hy hz
              omega
            | [y], hh => exact absurd hh.1 (by simp)
            | [], hh => exact absurd hh.1 (by simp)
          · exact absurd rfl hs
        · rename_i h37
          simp only [h37, if_false] at hx
          split at hs
          · rename_i hw
            simp only [hw, if_true] at hx
            simp at hx
            subst hx
            rcases Bool.or_eq_true_iff.1 hw with h | h
            · exact word_ascii h
            · exact uri_ascii h
          · exact absurd rfl hs
      · exact ih x hx
theorem valid_ascii {l : List Int} (h : validI l = true) : ∀ c ∈ l, 0 ≤ c ∧ c < 128 := uri_all _ l (Nat.le_refl _) (of_decide_eq_true h).2
/-- Read as code points or as bytes, a text is one that may be a tag, or not. -/
theorem valid_small {l : List Int} (hb : ∀ x ∈ l, 0 ≤ x ∧ x ≤ 255) : validI l = match smallI l with | none => false | some m => validI m := by
  cases h : smallI l with
  | none =>
    simp only
    cases hv : validI l with
    | false => rfl
    | true => rw [smallI_ascii (valid_ascii hv)] at h; cases h
  | some m =>
    simp only
    obtain ⟨he, _⟩ := smallI_enc hb h
    cases hv : validI l with
    | true =>
      rw [smallI_ascii (valid_ascii hv)] at h
      rw [← Option.some.inj h, hv]
    | false =>
      cases hm : validI m with
      | false => rfl
      | true =>
        rw [encL_ascii (valid_ascii hm)] at he
        rw [he, hv] at hm; cases hm
end Go.Abs
