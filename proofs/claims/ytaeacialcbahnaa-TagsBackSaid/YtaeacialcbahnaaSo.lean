/-
  Plain facts: texts' sizes, digits, directives of a version. No program in sight.
-/
import Derived.Test.YtaeacialcbahnaaSr
namespace Go.Abs
set_option linter.unusedSimpArgs false
set_option linter.unusedVariables false
theorem txt_size {l : List Int} (h : ∀ c ∈ l, 0 ≤ c ∧ c < 128) : (textI l).size = l.length := by
  rw [textI, strOfNums_size, encL_ascii h]
theorem str_add {x y : ByteArray} {v : Option Value} (h : x.size + y.size ≤ 1000000000) : (if ((x.size + y.size : Nat) : Int) > IntKind.i64.max then none else v) = v := by
  rw [if_neg]
  have : IntKind.i64.max = 9223372036854775807 := by decide
  omega
theorem small_text {l : List Int} (h : ∀ c ∈ l, 0 ≤ c ∧ c < 128) : smallI (bytesI (textI l)) = some l := by
  rw [bytesI_text, encL_ascii h, smallI_ascii h]
def digs (n : Nat) : List Int := if n < 10 then [48 + (n : Int)] else digs (n / 10) ++ [48 + ((n % 10 : Nat) : Int)]
termination_by n
decreasing_by omega
theorem digs_in (n : Nat) : ∀ c ∈ digs n, 48 ≤ c ∧ c ≤ 57 := by
  induction n using Nat.strongRecOn with
  | _ n ih =>
    intro c hc
    rw [digs] at hc
    split at hc
    · simp at hc; omega
    · rw [List.mem_append] at hc
      rcases hc with hc | hc
      · exact ih (n / 10) (by omega) c hc
      · simp at hc; omega
theorem digs_pos (n : Nat) : 0 < (digs n).length := by
  rw [digs]; split <;> simp
theorem digs_len : ∀ (k n : Nat), n < 10 ^ (k + 1) → (digs n).length ≤ k + 1
  | 0, n, h => by rw [digs, if_pos (by simpa using h)]; simp
  | k + 1, n, h => by
    rw [digs]
    split
    · simp
    · have := digs_len k (n / 10) (by rw [Nat.pow_succ] at h; omega)
      simp; omega
theorem digs_ascii (n : Nat) : ∀ c ∈ digs n, 0 ≤ c ∧ c < 128 := fun c hc => by have := digs_in n c hc; omega
theorem cnt_all {p : Int → Bool} {a b : List Int} (h : ∀ c ∈ a, p c = true) : cnt p (a ++ b) = a.length + cnt p b := by
  induction a with
  | nil => simp
  | cons c r ih =>
    have h1 := h c (by simp)
    have h2 := ih (fun x hx => h x (by simp [hx]))
    unfold cnt at *
    rw [List.cons_append, List.takeWhile_cons, if_pos h1]
    simp only [List.length_cons]; omega
theorem cnt_head {p : Int → Bool} {c : Int} {r : List Int} (h : p c = false) : cnt p (c :: r) = 0 := by
  unfold cnt; rw [List.takeWhile_cons, if_neg (by rw [h]; decide)]; rfl
theorem cnt_head1 {p : Int → Bool} {c : Int} {r : List Int} (h : p c = false) : cnt p ([c] ++ r) = 0 := cnt_head h
theorem getD_pre {p r : List Int} {n : Nat} (h : n = p.length) : (p ++ r).getD n 0 = r.getD 0 0 := by
  subst h; rw [List.getD_eq_getElem?_getD, List.getElem?_append_right (Nat.le_refl _), Nat.sub_self, List.getD_eq_getElem?_getD]
theorem cnt_digs {n : Nat} {t : List Int} (h : cnt digitC t = 0) : cnt digitC (digs n ++ t) = (digs n).length := by
  rw [cnt_all (p := digitC) (fun c hc => decide_eq_true (digs_in n c hc)), h]; rfl
/-- A line of a version. -/
def verL (k a b : Nat) (t : List Int) : List Int := [37, 89, 65, 77, 76] ++ List.replicate k 32 ++ digs a ++ [46] ++ digs b ++ t
theorem verL_pre {k a b : Nat} {t : List Int} : verL k a b t = ([37, 89, 65, 77, 76] ++ List.replicate k 32) ++ (digs a ++ ([46] ++ (digs b ++ t))) := by
  simp [verL]
theorem drop_pre {p r : List Int} {n : Nat} (h : n = p.length) : (p ++ r).drop n = r := by subst h; simp
theorem take_drop_pre {p q r : List Int} {n m : Nat} (h : n = p.length) (h2 : m = p.length + q.length) : ((p ++ (q ++ r)).take m).drop n = q := by
  subst h; subst h2
  rw [← List.append_assoc, ← List.length_append, List.take_left', List.drop_left' rfl]
  rfl
theorem digs_blank {n : Nat} {t : List Int} : cnt blankI (digs n ++ t) = 0 := by
  cases h : digs n with
  | nil => have := digs_pos n; rw [h] at this; simp at this
  | cons c r =>
    have := digs_in n c (by rw [h]; simp)
    rw [List.cons_append, cnt_head]
    unfold blankI; exact decide_eq_false (by omega)
theorem verL_dirN {k a b : Nat} {t : List Int} (hk : 0 < k) : dirN (verL k a b t) = 5 := by
  unfold dirN
  obtain ⟨m, rfl⟩ : ∃ m, k = m + 1 := ⟨k - 1, by omega⟩
  have : (verL (m + 1) a b t).drop 1 = [89, 65, 77, 76] ++ (32 :: (List.replicate m 32 ++ (digs a ++ ([46] ++ (digs b ++ t))))) := by
    simp [verL, List.replicate_succ]
  rw [this, cnt_all (by decide), cnt_head (by decide)]; rfl
theorem verL_dirM {k a b : Nat} {t : List Int} (hk : 0 < k) : dirM (verL k a b t) = k := by
  unfold dirM
  rw [verL_dirN hk]
  have : (verL k a b t).drop 5 = List.replicate k 32 ++ (digs a ++ ([46] ++ (digs b ++ t))) := by
    simp [verL]
  rw [this, cnt_all (fun c hc => by rw [List.mem_replicate] at hc; rw [hc.2]; decide), digs_blank]; simp
theorem verL_dirT {k a b : Nat} {t : List Int} (hk : 0 < k) : dirT (verL k a b t) = litY := by
  unfold dirT
  rw [verL_dirN hk]
  have : ((verL k a b t).take 5).drop 1 = [89, 65, 77, 76] := by simp [verL]
  rw [this]; decide +kernel
theorem verL_vers {k a b : Nat} {t : List Int} (ht : cnt digitC t = 0) : versP (verL k a b t) (5 + k) = (textI (digs a), textI (digs b), tailI t) := by
  have ep : ([37, 89, 65, 77, 76] ++ List.replicate k 32 : List Int).length = 5 + k := by simp; omega
  have e1 : (verL k a b t).drop (5 + k) = digs a ++ ([46] ++ (digs b ++ t)) := by rw [verL_pre, drop_pre ep.symm]
  have c1 : cnt digitC ((verL k a b t).drop (5 + k)) = (digs a).length := by rw [e1, cnt_digs (cnt_head1 (p := digitC) (by decide))]
  have h46 : atI (verL k a b t) (5 + k + (digs a).length) 46 = true := by
    refine decide_eq_true ⟨?_, ?_⟩
    · rw [verL_pre]; simp; omega
    · rw [verL_pre, ← List.append_assoc, getD_pre (by rw [List.length_append, ep])]
      rfl
  have e2 : (verL k a b t).drop (5 + k + (digs a).length + 1) = digs b ++ t := by
    have : verL k a b t = (([37, 89, 65, 77, 76] ++ List.replicate k 32) ++ digs a ++ [46]) ++ (digs b ++ t) := by simp [verL]
    rw [this, drop_pre (by simp; omega)]
  have c2 : cnt digitC ((verL k a b t).drop (5 + k + (digs a).length + 1)) = (digs b).length := by rw [e2, cnt_digs ht]
  have e3 : (verL k a b t).drop (5 + k + (digs a).length + 1 + (digs b).length) = t := by
    have : verL k a b t = (([37, 89, 65, 77, 76] ++ List.replicate k 32) ++ digs a ++ [46] ++ digs b) ++ t := by simp [verL]
    rw [this, drop_pre (by simp; omega)]
  have hb := digs_pos b
  have ha := digs_pos a
  rw [versP_yes (by rw [c1, h46]; exact fun h => h.elim (fun h => by omega) (fun h => by cases h)), c1, c2, e3]
  have t1 : ((verL k a b t).take (5 + k + (digs a).length)).drop (5 + k) = digs a := by
    rw [verL_pre, take_drop_pre ep.symm (by rw [ep])]
  have t2 : ((verL k a b t).take (5 + k + (digs a).length + 1 + (digs b).length)).drop (5 + k + (digs a).length + 1) = digs b := by
    have : verL k a b t = (([37, 89, 65, 77, 76] ++ List.replicate k 32) ++ digs a ++ [46]) ++ (digs b ++ t) := by simp [verL]
    rw [this, take_drop_pre (by simp; omega) (by simp; omega)]
  rw [t1, t2]
  simp [hb]
theorem verL_at {k a b : Nat} {t : List Int} : atI (verL k a b t) 0 37 = true := decide_eq_true ⟨by simp [verL], by simp [verL]⟩
theorem verL_dir {k a b : Nat} {t : List Int} (hk : 0 < k) (ht : cnt digitC t = 0) : dirI (verL k a b t) = if tailI t = true then (litY, textI (digs a), textI (digs b), true) else noneD := by
  unfold dirI
  rw [if_neg (by rw [verL_at]; decide), verL_dirT hk, if_pos rfl, verL_dirN hk, verL_dirM hk, verL_vers ht]
  simp only [hk, and_true]
/-- Without blanks the name is another. -/
theorem verL_name {a b : Nat} {t : List Int} (ht : ∀ c ∈ t, 0 ≤ c ∧ c < 128) : ¬ (dirT (verL 0 a b t)).toList = litY.toList ∧ ¬ (dirT (verL 0 a b t)).toList = litT.toList := by
  have h5 : 6 ≤ dirN (verL 0 a b t) := by
    unfold dirN
    have : (verL 0 a b t).drop 1 = ([89, 65, 77, 76] ++ digs a) ++ ([46] ++ (digs b ++ t)) := by simp [verL]
    have hd := digs_pos a
    rw [this, cnt_all (fun c hc => by
      rw [List.mem_append] at hc
      rcases hc with hc | hc
      · revert hc; revert c; decide
      · have := digs_in a c hc
        unfold nameI
        simp only [Bool.and_eq_true, Bool.not_eq_true', beq_eq_false_iff_ne, printI, blankI, flowI, decide_eq_true_eq, decide_eq_false_iff_not]
        omega)]
    simp; omega
  have hl : dirN (verL 0 a b t) ≤ (verL 0 a b t).length := dirN_le (by simp [verL])
  have hasc : ∀ c ∈ verL 0 a b t, 0 ≤ c ∧ c < 128 := by
    intro c hc
    simp only [verL, List.replicate_zero, List.append_nil, List.mem_append] at hc
    rcases hc with (((hc | hc) | hc) | hc) | hc
    · revert hc; revert c; decide
    · exact digs_ascii a c hc
    · simp at hc; omega
    · exact digs_ascii b c hc
    · exact ht c hc
  have hs : (dirT (verL 0 a b t)).size = dirN (verL 0 a b t) - 1 := by
    unfold dirT
    rw [txt_size (fun c hc => hasc c (List.mem_of_mem_take (List.mem_of_mem_drop hc)))]
    simp; omega
  constructor
  · intro h
    have := congrArg List.length h
    rw [ByteArray.toList_eq, ByteArray.toList_eq] at this
    simp only [Array.length_toList] at this
    have h3 : (dirT (verL 0 a b t)).size = 4 := this
    omega
  · intro h
    have := congrArg List.length h
    rw [ByteArray.toList_eq, ByteArray.toList_eq] at this
    simp only [Array.length_toList] at this
    have h3 : (dirT (verL 0 a b t)).size = 3 := this
    omega
theorem verL_dir0 {a b : Nat} {t : List Int} (ht : ∀ c ∈ t, 0 ≤ c ∧ c < 128) : (dirI (verL 0 a b t)).2.1 = ByteArray.empty ∧ (dirI (verL 0 a b t)).2.2.1 = ByteArray.empty ∧ ¬ (dirI (verL 0 a b t)).1.toList = litY.toList := by
  obtain ⟨h1, h2⟩ := verL_name (a := a) (b := b) ht
  unfold dirI
  rw [if_neg (by rw [verL_at]; decide), if_neg h1, if_neg h2]
  split
  · exact ⟨rfl, rfl, h1⟩
  · exact ⟨rfl, rfl, by decide +kernel⟩
end Go.Abs
