/-
  Plain facts for the law TagsBack.
-/
import Derived.Test.YtaeacialcbahnaaTd
import Derived.Test.YtaeacialcbahnaaSy
namespace Go.Proofs.Ytaeacialcbahnaa
open Go.Abs
set_option linter.unusedVariables false
set_option linter.unusedSimpArgs false
set_option linter.unusedSimpArgs false
set_option linter.unusedVariables false
theorem bytesI_app (a b : ByteArray) : bytesI (a ++ b) = bytesI a ++ bytesI b := by simp [bytesI, ByteArray.data_append]
theorem bytesI_ext (s : ByteArray) (i j : Nat) : bytesI (s.extract i j) = ((bytesI s).drop i).take (j - i) := by
  simp [bytesI, ByteArray.data_extract, List.map_take, List.map_drop, List.extract_eq_take_drop]
theorem bytesI_inj {a b : ByteArray} (h : bytesI a = bytesI b) : a = b := by rw [← strOfNums_bytesI a, ← strOfNums_bytesI b, h]
theorem hasB_iff {s p : ByteArray} : hasB s p = true ↔ ∃ r, bytesI s = bytesI p ++ r := by
  unfold hasB
  constructor
  · intro h
    by_cases hp : p.size ≤ s.size
    · rw [if_pos hp, toList_beq, decide_eq_true_eq] at h
      refine ⟨(bytesI s).drop p.size, ?_⟩
      have := congrArg bytesI h
      rw [bytesI_ext, Nat.sub_zero, List.drop_zero] at this
      rw [← this, List.take_append_drop]
    · rw [if_neg hp] at h; cases h
  · rintro ⟨r, h⟩
    have hl := congrArg List.length h
    rw [List.length_append, bytesI_len, bytesI_len] at hl
    rw [if_pos (by omega), toList_beq, decide_eq_true_eq]
    apply bytesI_inj
    rw [bytesI_ext, h, List.drop_zero, Nat.sub_zero, List.take_left' (bytesI_len p)]
theorem runes_ascii {s : ByteArray} (h : ∀ c ∈ bytesI s, c < 128) : ∀ (n p : Nat), s.size - p ≤ n → runesB s p = (bytesI s).drop p := by
  intro n
  induction n with
  | zero => intro p hn; rw [runes_end (by omega), List.drop_eq_nil_of_le (by rw [bytesI_len]; omega)]
  | succ n ih =>
    intro p hn
    by_cases hp : p < s.size
    · have hl : p < (bytesI s).length := by rw [bytesI_len]; exact hp
      have hb : ((s[p]'hp).toNat : Int) = (bytesI s)[p] := by simp [bytesI]; rfl
      have ha : (s[p]'hp).toNat < 128 := by have := h _ (List.getElem_mem hl); omega
      rw [runes_step hp, decode_ascii s p hp ha, ih (p + 1) (by omega), List.drop_eq_getElem_cons hl, hb]
    · rw [runes_end (by omega), List.drop_eq_nil_of_le (by rw [bytesI_len]; omega)]
theorem idx_none {l : List UInt8} (h : ∀ b ∈ l, b ≠ 33) : Go.Lib.indexByte l 33 = -1 := by
  induction l with
  | nil => rfl
  | cons b l ih => simp [Go.Lib.indexByte, h b (by simp), ih (fun x hx => h x (by simp [hx]))]
theorem idxB_none {s : ByteArray} (h : ∀ c ∈ bytesI s, c ≠ 33) : idxB s 33 = -1 :=
  idx_none (fun b hb e => h b.toNat (by rw [bytesI]; exact List.mem_map_of_mem hb) (by rw [e]; rfl))
theorem idxB_zero {s : ByteArray} {r : List Int} (h : bytesI s = 33 :: r) : idxB s 33 = 0 := by
  unfold idxB
  unfold bytesI at h
  cases hd : s.data.toList with
  | nil => rw [hd] at h; cases h
  | cons b l =>
    rw [hd, List.map_cons] at h
    have h1 : (b.toNat : Int) = 33 := (List.cons.inj h).1
    have h2 : b = 33 := by
      apply UInt8.toNat.inj
      show b.toNat = 33
      omega
    subst h2
    rfl
theorem word_lt {c : Int} (h : wordI c = true) : 0 ≤ c ∧ c < 128 ∧ ¬ c = 33 ∧ ¬ c = 60 := by
  unfold wordI at h
  have := of_decide_eq_true h
  omega
theorem uri_ok : ∀ l : List Int, (∀ c ∈ l, ¬ c = 37 ∧ (wordI c || uriC c) = true) → uriN anyC l = l.length
  | [], _ => rfl
  | c :: r, h => by
    obtain ⟨h1, h2⟩ := h c (by simp)
    have e : signN (c :: r) = 1 := by simp only [signN]; rw [if_neg h1, h2]; rfl
    rw [uriN_yes (by rw [e]; decide) rfl, e, List.drop_succ_cons, List.drop_zero, uri_ok r (fun x hx => h x (by simp [hx]))]
    simp
    omega
theorem tag_bare {l : List Int} (h0 : 0 < l.length) (h : ∀ c ∈ l, wordI c = true) : tagI (33 :: l) = (textI (33 :: l), ((l.length + 1 : Nat) : Int), true) := by
  obtain ⟨c, r, rfl⟩ : ∃ c r, l = c :: r := by cases l with
    | nil => simp at h0
    | cons c r => exact ⟨c, r, rfl⟩
  have hc := h c (by simp)
  have a0 : atI (33 :: c :: r) 0 33 = true := decide_eq_true ⟨by simp, by simp⟩
  have a1 : atI (33 :: c :: r) 1 60 = false := by
    refine decide_eq_false (fun e => ?_)
    have e2 : c = 60 := by simpa using e.2
    exact (word_lt hc).2.2.2 e2
  have ec : cnt wordI (c :: r) = (c :: r).length := by
    have := cnt_all (b := []) h
    rw [List.append_nil] at this; rw [this]; rfl
  have hh : handleN (33 :: c :: r) = 0 := by
    unfold handleN
    rw [List.drop_succ_cons, List.drop_zero, ec, if_neg]
    rw [Bool.not_eq_true]
    exact decide_eq_false (fun e => by have := e.1; simp at this; omega)
  have em : max (handleN (33 :: c :: r)) 1 = 1 := by rw [hh]; rfl
  have eu := uri_words (c :: r) [] h (.inl rfl)
  rw [List.append_nil] at eu
  unfold tagI shortI
  rw [a0, a1, if_neg (by decide), if_neg (by decide), em, List.drop_succ_cons, List.drop_zero, eu, hh, if_neg (by omega)]
  have : (33 :: c :: r).take ((c :: r).length + 1) = 33 :: c :: r := by rw [List.take_of_length_le (by simp)]
  rw [this]
theorem bytes_y : bytesI yB = [116, 97, 103, 58, 121, 97, 109, 108, 46, 111, 114, 103, 44, 50, 48, 48, 50, 58] := by decide +kernel
theorem bytes_b : bytesI bangB = [33] := by decide +kernel
theorem bytes_b2 : bytesI bang2B = [33, 33] := by decide +kernel
theorem bytes_l : bytesI lessB = [60] := by decide +kernel
theorem bytes_l2 : bytesI less2B = [33, 60] := by decide +kernel
theorem bytes_0 : bytesI ({ data := #[] } : ByteArray) = [] := by decide +kernel
theorem words_iff {s : ByteArray} (h : wordsB s = true) : (∀ c ∈ bytesI s, wordI c = true) ∧ 0 < (bytesI s).length := by
  unfold wordsB at h
  rw [Bool.and_eq_true, List.all_eq_true, Bool.not_eq_true', toList_beq, decide_eq_false_iff_not] at h
  refine ⟨h.1, ?_⟩
  rcases Nat.eq_zero_or_pos (bytesI s).length with e | e
  · exact absurd (bytesI_inj (by rw [bytes_0, List.eq_nil_of_length_eq_zero e])) h.2
  · exact e
/-- What a text that is told short is made of. -/
theorem ext_app {s p : ByteArray} {n : Nat} (hn : bytesI p = (bytesI p) ∧ p.size = n) (h : hasB s p = true) : bytesI s = bytesI p ++ bytesI (s.extract n s.size) := by
  obtain ⟨r, hr⟩ := hasB_iff.1 h
  rw [bytesI_ext, hr, List.drop_left' (by rw [bytesI_len]; exact hn.2)]
  have hl := congrArg List.length hr
  rw [List.length_append, bytesI_len, bytesI_len] at hl
  rw [List.take_of_length_le (by omega)]
theorem short_valid (s : ByteArray) : (shortB s).2 = validI (bytesI s) := by
  unfold shortB
  by_cases h1 : hasB s yB = true ∧ wordsB (s.extract 18 s.size) = true
  · rw [if_pos h1]
    obtain ⟨w, w0⟩ := words_iff h1.2
    have e := ext_app (n := 18) ⟨rfl, z_y⟩ h1.1
    refine (decide_eq_true ⟨by rw [e, List.length_append]; omega, uri_ok _ ?_⟩).symm
    intro c hc
    rw [e, List.mem_append, bytes_y] at hc
    rcases hc with hc | hc
    · revert hc; revert c; decide
    · have := w c hc
      exact ⟨(word_short this).2, by rw [this]; rfl⟩
  rw [if_neg h1]
  by_cases h2 : hasB s bangB = true ∧ wordsB (s.extract 1 s.size) = true
  · rw [if_pos h2]
    obtain ⟨w, w0⟩ := words_iff h2.2
    have e := ext_app (n := 1) ⟨rfl, z_b⟩ h2.1
    refine (decide_eq_true ⟨by rw [e, List.length_append]; omega, uri_ok _ ?_⟩).symm
    intro c hc
    rw [e, List.mem_append, bytes_b] at hc
    rcases hc with hc | hc
    · revert hc; revert c; decide
    · have := w c hc
      exact ⟨(word_short this).2, by rw [this]; rfl⟩
  rw [if_neg h2]
  cases hv : validI (bytesI s) <;> simp
theorem short_no {s : ByteArray} (h : (shortB s).2 = false) : (shortB s).1 = ({ data := #[] } : ByteArray) := by
  have hv : validI (bytesI s) = false := by rw [← short_valid]; exact h
  unfold shortB at h ⊢
  by_cases h1 : hasB s yB = true ∧ wordsB (s.extract 18 s.size) = true
  · rw [if_pos h1] at h; cases h
  rw [if_neg h1] at h ⊢
  by_cases h2 : hasB s bangB = true ∧ wordsB (s.extract 1 s.size) = true
  · rw [if_pos h2] at h; cases h
  rw [if_neg h2, if_neg (by rw [hv]; decide)]
theorem hasB_not {t p : ByteArray} (h : ∀ r, bytesI t ≠ bytesI p ++ r) : hasB t p = false := by
  rw [Bool.eq_false_iff]; intro e
  obtain ⟨r, hr⟩ := hasB_iff.1 e
  exact h r hr
theorem bytes_from (t : ByteArray) (n : Nat) : bytesI (t.extract n t.size) = (bytesI t).drop n := by
  rw [bytesI_ext, List.take_of_length_le (by rw [List.length_drop, bytesI_len]; exact Nat.le_refl _)]
theorem bytes_to (t : ByteArray) (n : Nat) : bytesI (t.extract 0 n) = (bytesI t).take n := by rw [bytesI_ext, List.drop_zero, Nat.sub_zero]
theorem beq_not {a b : ByteArray} (h : bytesI a ≠ bytesI b) : (a.toList == b.toList) = false := by
  rw [toList_beq, decide_eq_false_iff_not]
  exact fun e => h (by rw [e])
theorem idx_lt : ∀ (l : List UInt8) (c : UInt8), Go.Lib.indexByte l c < l.length
  | [], _ => by simp [Go.Lib.indexByte]
  | b :: l, c => by
    have := idx_lt l c
    simp only [Go.Lib.indexByte, List.length_cons]
    split
    · omega
    · split <;> omega
theorem idxB_lt (s : ByteArray) (c : Int) : -1 ≤ idxB s c ∧ idxB s c < s.size := by
  refine ⟨Go.Lib.indexByte_ge _ _, ?_⟩
  have := idx_lt s.data.toList c.toNat.toUInt8
  rw [Array.length_toList] at this
  exact this
theorem cutN_le {t : ByteArray} (h : 1 ≤ t.size) : cutN t ≤ t.size := by
  have h1 := (idxB_lt (t.extract 1 t.size) 33).2
  have h2 : (t.extract 1 t.size).size = t.size - 1 := by rw [ByteArray.size_extract]; omega
  unfold cutN
  split <;> omega
theorem told_ascii {t : ByteArray} (ha : ∀ c ∈ bytesI t, c < 128) (hl : hasB t lessB = false) : toldB t = ((tagI (bytesI t)).2.2 && decide ((tagI (bytesI t)).2.1 = (bytesI t).length) && !hasB t less2B) := by
  unfold toldB
  rw [if_neg (by rw [hl]; decide), runes_ascii ha _ 0 (Nat.le_refl _), List.drop_zero]
theorem whole_of {t x : ByteArray} {n : Nat} (h0 : bytesI t ≠ []) (h1 : bytesI t ≠ [33]) (h2 : toldB t = true) (h3 : hasB t lessB = false) (hn : cutN t = n) (hp : pre0 (t.extract 0 n) = (x, true)) : whole0 t = (x ++ t.extract n t.size, 0) := by
  unfold whole0
  rw [hn, hp, beq_not (by rw [bytes_0]; exact h0), beq_not (by rw [bytes_b]; exact h1), if_neg (by decide), if_neg (by rw [h2]; decide), if_neg (by rw [h3]; decide), if_neg (fun q => by cases q)]
theorem pre_b : pre0 bangB = (bangB, true) := by unfold pre0; rw [if_pos (by decide +kernel)]
theorem pre_b2 : pre0 bang2B = (yB, true) := by unfold pre0; rw [if_neg (by decide +kernel), if_pos (by decide +kernel)]
theorem whole_two {r : ByteArray} (h : wordsB r = true) : whole0 (bang2B ++ r) = (yB ++ r, 0) := by
  obtain ⟨w, w0⟩ := words_iff h
  have e : bytesI (bang2B ++ r) = 33 :: 33 :: bytesI r := by rw [bytesI_app, bytes_b2]; rfl
  have ha : ∀ c ∈ bytesI (bang2B ++ r), c < 128 := by
    intro c hc
    rw [e] at hc
    simp only [List.mem_cons] at hc
    rcases hc with rfl | rfl | hc
    · decide
    · decide
    · exact (word_lt (w c hc)).2.1
  have hl : hasB (bang2B ++ r) lessB = false := hasB_not (fun q hq => by rw [e, bytes_l] at hq; have := (List.cons.inj hq).1; omega)
  have hl2 : hasB (bang2B ++ r) less2B = false := hasB_not (fun q hq => by rw [e, bytes_l2] at hq; have := (List.cons.inj (List.cons.inj hq).2).1; omega)
  have ht := tag_two (t := []) w0 w rfl
  rw [List.append_nil] at ht
  have hc : cutN (bang2B ++ r) = 2 := by
    unfold cutN
    rw [idxB_zero (r := bytesI r) (by rw [bytes_from, e]; rfl)]; rfl
  have hx : (bang2B ++ r).extract 0 2 = bang2B := bytesI_inj (by rw [bytes_to, e, bytes_b2]; rfl)
  have hy : (bang2B ++ r).extract 2 (bang2B ++ r).size = r := bytesI_inj (by rw [bytes_from, e]; rfl)
  rw [whole_of (n := 2) (x := yB) (by rw [e]; simp) (by rw [e]; simp) ?_ hl hc (by rw [hx, pre_b2]), hy]
  rw [told_ascii ha hl, e, hl2]
  have : tagI (33 :: 33 :: bytesI r) = (textI (33 :: 33 :: bytesI r), (((bytesI r).length + 2 : Nat) : Int), true) := ht
  rw [this]
  simp
  omega
theorem whole_one {s : ByteArray} (h1 : hasB s bangB = true) (h : wordsB (s.extract 1 s.size) = true) : whole0 s = (s, 0) := by
  obtain ⟨w, w0⟩ := words_iff h
  have e : bytesI s = 33 :: bytesI (s.extract 1 s.size) := by
    have := ext_app (n := 1) ⟨rfl, z_b⟩ h1
    rw [bytes_b] at this; exact this
  generalize hr : s.extract 1 s.size = r at *
  have ha : ∀ c ∈ bytesI s, c < 128 := by
    intro c hc
    rw [e] at hc
    simp only [List.mem_cons] at hc
    rcases hc with rfl | hc
    · decide
    · exact (word_lt (w c hc)).2.1
  have hne : ∀ c q, bytesI r = c :: q → ¬ c = 60 := fun c q hq e2 => (word_lt (w c (by rw [hq]; simp))).2.2.2 e2
  have hl : hasB s lessB = false := hasB_not (fun q hq => by rw [e, bytes_l] at hq; have := (List.cons.inj hq).1; omega)
  have hl2 : hasB s less2B = false := hasB_not (fun q hq => by rw [e, bytes_l2] at hq; exact hne 60 q (List.cons.inj hq).2 rfl)
  have hc : cutN s = 1 := by
    unfold cutN
    rw [hr, idxB_none (fun c hc => (word_lt (w c hc)).2.2.1)]; rfl
  have hx : s.extract 0 1 = bangB := bytesI_inj (by rw [bytes_to, e, bytes_b]; rfl)
  have hlen : 1 < (bytesI s).length := by rw [e]; simp; omega
  rw [whole_of (n := 1) (x := bangB) (by rw [e]; simp) (fun q => by rw [q] at hlen; simp at hlen) ?_ hl hc (by rw [hx, pre_b]), hr]
  · exact congrArg (·, (0 : Int)) (bytesI_inj (by rw [bytesI_app, bytes_b, e]; rfl))
  · rw [told_ascii ha hl, e, hl2, tag_bare w0 w]
    simp
theorem whole_less {s : ByteArray} (h : validI (bytesI s) = true) : whole0 (lessB ++ s) = (s, 0) := by
  have e : bytesI (lessB ++ s) = 60 :: bytesI s := by rw [bytesI_app, bytes_l]; rfl
  have hx : (lessB ++ s).extract 1 (lessB ++ s).size = s := bytesI_inj (by rw [bytes_from, e]; rfl)
  have hl : hasB (lessB ++ s) lessB = true := hasB_iff.2 ⟨bytesI s, by rw [e, bytes_l]; rfl⟩
  have ht : toldB (lessB ++ s) = true := by unfold toldB; rw [if_pos hl, hx, h]
  unfold whole0
  rw [beq_not (by rw [bytes_0, e]; simp), beq_not (by rw [bytes_b, e]; intro q; have := (List.cons.inj q).1; omega), if_neg (by decide), if_neg (by rw [ht]; decide), if_pos hl, hx]
theorem short_whole {s : ByteArray} (h : (shortB s).2 = true) : whole0 (shortB s).1 = (s, 0) := by
  have hv : validI (bytesI s) = true := by rw [← short_valid]; exact h
  unfold shortB
  by_cases h1 : hasB s yB = true ∧ wordsB (s.extract 18 s.size) = true
  · rw [if_pos h1, whole_two h1.2]
    exact congrArg (·, (0 : Int)) (bytesI_inj (by rw [bytesI_app, ext_app (n := 18) ⟨rfl, z_y⟩ h1.1]))
  rw [if_neg h1]
  by_cases h2 : hasB s bangB = true ∧ wordsB (s.extract 1 s.size) = true
  · rw [if_pos h2]; exact whole_one h2.1 h2.2
  rw [if_neg h2, if_pos hv, whole_less hv]
theorem short_size (s : ByteArray) (h : (shortB s).2 = true) : 1 ≤ (shortB s).1.size ∧ (shortB s).1.size ≤ s.size + 2 := by
  have hv : validI (bytesI s) = true := by rw [← short_valid]; exact h
  have hp := (of_decide_eq_true hv).1
  rw [bytesI_len] at hp
  have h0 := z_ext (s := s) 18
  unfold shortB
  by_cases h1 : hasB s yB = true ∧ wordsB (s.extract 18 s.size) = true
  · rw [if_pos h1]
    show 1 ≤ (bang2B ++ s.extract 18 s.size).size ∧ (bang2B ++ s.extract 18 s.size).size ≤ s.size + 2
    rw [ByteArray.size_append, z_b2]; omega
  rw [if_neg h1]
  by_cases h2 : hasB s bangB = true ∧ wordsB (s.extract 1 s.size) = true
  · rw [if_pos h2]; show 1 ≤ s.size ∧ s.size ≤ s.size + 2; omega
  rw [if_neg h2, if_pos hv]
  show 1 ≤ (lessB ++ s).size ∧ (lessB ++ s).size ≤ s.size + 2
  rw [ByteArray.size_append, z_l]; omega
end Go.Proofs.Ytaeacialcbahnaa
