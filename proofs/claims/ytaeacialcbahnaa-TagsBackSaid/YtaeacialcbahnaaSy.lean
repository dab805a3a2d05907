/-
  Plain facts for the law PropsWhole. No program in sight.
-/
import Derived.Test.YtaeacialcbahnaaSo
namespace Go.Abs
set_option linter.unusedSimpArgs false
set_option linter.unusedVariables false
theorem signN_app {l t : List Int} (h : ¬ signN l = 0) : signN (l ++ t) = signN l := by
  cases l with
  | nil => exact absurd rfl h
  | cons c r =>
    simp only [List.cons_append, signN] at h ⊢
    by_cases h37 : c = 37
    · simp only [h37, if_true] at h ⊢
      by_cases hh : 2 ≤ r.length ∧ 0 ≤ hexI (r.getD 0 0) ∧ 0 ≤ hexI (r.getD 1 0)
      · have e0 : (r ++ t).getD 0 0 = r.getD 0 0 := by
          rw [List.getD_eq_getElem?_getD, List.getD_eq_getElem?_getD, List.getElem?_append_left (by omega)]
        have e1 : (r ++ t).getD 1 0 = r.getD 1 0 := by
          rw [List.getD_eq_getElem?_getD, List.getD_eq_getElem?_getD, List.getElem?_append_left (by omega)]
        rw [if_pos hh, e0, e1, if_pos ⟨by rw [List.length_append]; omega, hh.2⟩]
      · rw [if_neg hh] at h; exact absurd rfl h
    · simp only [h37, if_false]
theorem uri_app : ∀ (n : Nat) (l t : List Int), l.length ≤ n → uriN anyC l = l.length → signN t = 0 → uriN anyC (l ++ t) = l.length
  | _, [], t, _, _, ht => by rw [List.nil_append, uriN_no (.inl ht)]; rfl
  | 0, c :: r, _, h, _, _ => by simp at h
  | n + 1, c :: r, t, h, hu, ht => by
    by_cases hz : signN (c :: r) = 0
    · rw [uriN_no (.inl hz)] at hu; simp at hu
    · have hs := (signN_le (c :: r)).2
      rw [uriN_yes hz rfl] at hu
      rw [uriN_yes (by rw [signN_app hz]; exact hz) rfl, signN_app hz, List.drop_append_of_le_length hs]
      have := uri_app n ((c :: r).drop (signN (c :: r))) t (by simp only [List.length_drop, List.length_cons] at *; omega) (by rw [List.length_drop]; omega) ht
      rw [this, List.length_drop]; omega
theorem word_short {c : Int} (h : wordI c = true) : shortC c = true ∧ ¬ c = 37 := by
  unfold wordI at h
  have := of_decide_eq_true h
  unfold shortC flowI
  refine ⟨?_, by omega⟩
  simp only [Bool.and_eq_true, Bool.not_eq_true', beq_eq_false_iff_ne, decide_eq_false_iff_not]
  omega
theorem uri_words : ∀ (l t : List Int), (∀ c ∈ l, wordI c = true) → (signN t = 0 ∨ shortC (t.getD 0 0) = false) → uriN shortC (l ++ t) = l.length
  | [], t, _, ht => by rw [List.nil_append, uriN_no ht]; rfl
  | c :: r, t, h, ht => by
    have hc := h c (by simp)
    obtain ⟨h1, h2⟩ := word_short hc
    have e : signN (c :: (r ++ t)) = 1 := by simp only [signN]; rw [if_neg h2, hc]; rfl
    rw [List.cons_append, uriN_yes (by rw [e]; decide) (by simpa using h1), e, List.drop_succ_cons, List.drop_zero, uri_words r t (fun x hx => h x (by simp [hx])) ht]
    simp; omega
theorem cnt_words {l t : List Int} (h : ∀ c ∈ l, wordI c = true) (ht : cnt wordI t = 0) : cnt wordI (l ++ t) = l.length := by rw [cnt_all h, ht]; rfl
/-- A tag between angles. -/
theorem tag_whole {l : List Int} (h0 : 0 < l.length) (h : uriN anyC l = l.length) : tagI ([33, 60] ++ l ++ [62, 32, 120]) = (textI (60 :: l), ((l.length + 3 : Nat) : Int), true) := by
  have e1 : ([33, 60] ++ l ++ [62, 32, 120]).drop 2 = l ++ [62, 32, 120] := by simp
  have hu := uri_app l.length l [62, 32, 120] (Nat.le_refl _) h (by decide)
  have a0 : atI ([33, 60] ++ l ++ [62, 32, 120]) 0 33 = true := decide_eq_true ⟨by simp, by simp⟩
  have a1 : atI ([33, 60] ++ l ++ [62, 32, 120]) 1 60 = true := decide_eq_true ⟨by simp, by simp⟩
  have a2 : atI ([33, 60] ++ l ++ [62, 32, 120]) (l.length + 2) 62 = true := decide_eq_true ⟨by simp, by rw [getD_pre (p := [33, 60] ++ l) (by simp)]; rfl⟩
  unfold tagI wholeI
  rw [a0, a1, if_neg (by decide), if_pos rfl, e1, hu, a2, if_neg (fun h => h.elim (fun h => by omega) (fun h => by cases h))]
  have : (([33, 60] ++ l ++ [62, 32, 120]).take (l.length + 2)).drop 1 = 60 :: l := by
    rw [List.take_left' (by simp)]; simp
  rw [this]
theorem tag_one {l t : List Int} (h0 : 0 < l.length) (h : ∀ c ∈ l, wordI c = true) (ht : cnt wordI t = 0) (ht2 : t.getD 0 0 = 32) (hs : signN t = 0) : tagI ([33] ++ l ++ t) = (textI (33 :: l), ((l.length + 1 : Nat) : Int), true) := by
  obtain ⟨c, r, rfl⟩ : ∃ c r, l = c :: r := by cases l with
    | nil => simp at h0
    | cons c r => exact ⟨c, r, rfl⟩
  have hc := h c (by simp)
  have a0 : atI ([33] ++ (c :: r) ++ t) 0 33 = true := decide_eq_true ⟨by simp, by simp⟩
  have a1 : atI ([33] ++ (c :: r) ++ t) 1 60 = false := by
    refine decide_eq_false (fun e => ?_)
    have e2 : c = 60 := by simpa using e.2
    rw [e2] at hc; revert hc; decide
  have ed : ([33] ++ (c :: r) ++ t).drop 1 = (c :: r) ++ t := by simp
  have hh : handleN ([33] ++ (c :: r) ++ t) = 0 := by
    unfold handleN
    rw [ed, cnt_words h ht, if_neg]
    rw [Bool.not_eq_true]
    refine decide_eq_false (fun e => ?_)
    have := e.2
    rw [getD_pre (p := [33] ++ (c :: r)) (by simp; try omega), ht2] at this
    cases this
  have em : max (handleN ([33] ++ (c :: r) ++ t)) 1 = 1 := by rw [hh]; rfl
  unfold tagI shortI
  rw [a0, a1, if_neg (by decide), if_neg (by decide), em, ed, uri_words _ t h (.inl hs), hh, if_neg (by omega)]
  have : ([33] ++ (c :: r) ++ t).take ((c :: r).length + 1) = 33 :: c :: r := by rw [List.take_left' (by simp)]; simp
  rw [this]
theorem tag_two {l t : List Int} (h0 : 0 < l.length) (h : ∀ c ∈ l, wordI c = true) (hs : signN t = 0) : tagI ([33, 33] ++ l ++ t) = (textI (33 :: 33 :: l), ((l.length + 2 : Nat) : Int), true) := by
  have a0 : atI ([33, 33] ++ l ++ t) 0 33 = true := decide_eq_true ⟨by simp, by simp⟩
  have a1 : atI ([33, 33] ++ l ++ t) 1 60 = false := decide_eq_false (fun e => by simp at e)
  have hh : handleN ([33, 33] ++ l ++ t) = 2 := by
    unfold handleN
    have : cnt wordI (([33, 33] ++ l ++ t).drop 1) = 0 := by
      have e : List.drop 1 ([33, 33] ++ l ++ t) = 33 :: (l ++ t) := by simp
      rw [e]; exact cnt_head (by decide)
    rw [this, show atI ([33, 33] ++ l ++ t) (1 + 0) 33 = true from decide_eq_true ⟨by simp, by simp⟩]; rfl
  have em : max (handleN ([33, 33] ++ l ++ t)) 1 = 2 := by rw [hh]; rfl
  have ed : ([33, 33] ++ l ++ t).drop 2 = l ++ t := by simp
  unfold tagI shortI
  rw [a0, a1, if_neg (by decide), if_neg (by decide), em, ed, uri_words _ t h (.inl hs), if_neg (by omega)]
  have : ([33, 33] ++ l ++ t).take (l.length + 2) = 33 :: 33 :: l := by rw [List.take_left' (by simp)]; simp
  rw [this]
theorem tag_three {l : List Int} (h0 : 0 < l.length) (h : ∀ c ∈ l, wordI c = true) : tagI ([33, 104, 33] ++ l ++ [44, 120]) = (textI (33 :: 104 :: 33 :: l), ((l.length + 3 : Nat) : Int), true) := by
  have a0 : atI ([33, 104, 33] ++ l ++ [44, 120]) 0 33 = true := decide_eq_true ⟨by simp, by simp⟩
  have a1 : atI ([33, 104, 33] ++ l ++ [44, 120]) 1 60 = false := decide_eq_false (fun e => by simp at e)
  have hh : handleN ([33, 104, 33] ++ l ++ [44, 120]) = 3 := by
    unfold handleN
    have : cnt wordI (([33, 104, 33] ++ l ++ [44, 120]).drop 1) = 1 := by
      have e : List.drop 1 ([33, 104, 33] ++ l ++ [44, 120]) = [104] ++ (33 :: (l ++ [44, 120])) := by simp
      rw [e, cnt_all (by decide), cnt_head (by decide)]; rfl
    rw [this, show atI ([33, 104, 33] ++ l ++ [44, 120]) (1 + 1) 33 = true from decide_eq_true ⟨by simp, by simp⟩]; rfl
  have em : max (handleN ([33, 104, 33] ++ l ++ [44, 120])) 1 = 3 := by rw [hh]; rfl
  have ed : ([33, 104, 33] ++ l ++ [44, 120]).drop 3 = l ++ [44, 120] := by simp
  unfold tagI shortI
  rw [a0, a1, if_neg (by decide), if_neg (by decide), em, ed, uri_words _ [44, 120] h (.inr (by decide)), if_neg (by omega)]
  have : ([33, 104, 33] ++ l ++ [44, 120]).take (l.length + 3) = 33 :: 104 :: 33 :: l := by rw [List.take_left' (by simp)]; simp
  rw [this]
/-- A text that may be a tag is ASCII. -/
theorem valid_text {s : ByteArray} (h : validI (bytesI s) = true) : s = textI (bytesI s) ∧ smallI (bytesI s) = some (bytesI s) ∧ 0 < (bytesI s).length ∧ uriN anyC (bytesI s) = (bytesI s).length := by
  have ha := valid_ascii h
  have hv := of_decide_eq_true h
  exact ⟨by rw [textI, encL_ascii ha, strOfNums_bytesI], smallI_ascii ha, hv⟩
end Go.Abs
