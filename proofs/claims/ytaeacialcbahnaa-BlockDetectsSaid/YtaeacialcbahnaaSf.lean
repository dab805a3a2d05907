/-
  Plain specifications for chapter 6: folding. No program in sight.
-/
import Derived.Test.YtaeacialcbahnaaSm
namespace Go.Abs
set_option linter.unusedSimpArgs false
/-- A line without the blanks at its end. -/
def backI (l : List Int) : List Int := (l.reverse.dropWhile blankI).reverse
def trimAt (n i : Nat) (t : List Int) : List Int :=
  if i + 1 < n then backI (if 0 < i then t.dropWhile blankI else t) else if 0 < i then t.dropWhile blankI else t
/-- The lines from i on, of n, without the blanks that do not count. -/
def trims (n : Nat) : Nat → List (List Int) → List (List Int)
  | _, [] => []
  | i, t :: r => trimAt n i t :: trims n (i + 1) r
def between (e : Nat) : List Int := if e = 0 then [32] else List.replicate e 10
/-- What is folded out of lines that are trimmed: so many empty ones stand ahead. -/
def flowGo : Bool → Nat → List (List Int) → List Int
  | _, _, [] => []
  | true, e, t :: r => t ++ flowGo false e r
  | false, e, t :: r => if t = [] ∧ r ≠ [] then flowGo false (e + 1) r else between e ++ t ++ flowGo false 0 r
def flowF (l : List (List Int)) : List Int := flowGo true 0 (trims l.length 0 l)
/-- How much there is. -/
def tot (l : List (List Int)) : Nat := (l.map fun t => t.length + 1).sum

theorem backI_le (l : List Int) : (backI l).length ≤ l.length := by
  unfold backI
  have := (List.dropWhile_suffix blankI (l := l.reverse)).length_le
  simpa using this
theorem frontI_le (l : List Int) : (l.dropWhile blankI).length ≤ l.length := (List.dropWhile_suffix blankI).length_le
theorem trimAt_le (n i : Nat) (t : List Int) : (trimAt n i t).length ≤ t.length := by
  unfold trimAt
  have h1 := frontI_le t
  have h2 := backI_le t
  have h3 := backI_le (t.dropWhile blankI)
  split <;> split <;> omega
theorem trims_len (n : Nat) : ∀ (i : Nat) (l : List (List Int)), (trims n i l).length = l.length
  | _, [] => rfl
  | i, t :: r => by simp [trims, trims_len n (i + 1) r]
theorem trims_tot (n : Nat) : ∀ (i : Nat) (l : List (List Int)), tot (trims n i l) ≤ tot l
  | _, [] => by simp [trims, tot]
  | i, t :: r => by
    have := trims_tot n (i + 1) r
    have := trimAt_le n i t
    simp only [trims, tot, List.map_cons, List.sum_cons] at *
    omega
theorem tot_len (l : List (List Int)) : l.length ≤ tot l := by
  induction l with
  | nil => simp [tot]
  | cons t r ih => simp only [tot, List.map_cons, List.sum_cons, List.length_cons] at *; omega
theorem tot_mem {l : List (List Int)} {t : List Int} (h : t ∈ l) : t.length + 1 ≤ tot l := by
  induction l with
  | nil => simp at h
  | cons x r ih =>
    simp only [tot, List.map_cons, List.sum_cons] at *
    rcases List.mem_cons.1 h with rfl | h
    · omega
    · have := ih h; omega
theorem tot_get {l : List (List Int)} (k : Nat) : (l.getD k []).length ≤ tot l := by
  by_cases h : k < l.length
  · have : l.getD k [] ∈ l := by simp [List.getD_eq_getElem?_getD, h]
    have := tot_mem this; omega
  · simp [List.getD_eq_getElem?_getD, h]
theorem between_len (e : Nat) : (between e).length ≤ e + 1 := by unfold between; split <;> simp
theorem flowGo_len : ∀ (b : Bool) (e : Nat) (l : List (List Int)), (flowGo b e l).length ≤ e + tot l
  | _, _, [] => by simp [flowGo]
  | true, e, t :: r => by
    have := flowGo_len false e r
    simp only [flowGo, tot, List.map_cons, List.sum_cons, List.length_append] at *
    omega
  | false, e, t :: r => by
    have h1 := flowGo_len false (e + 1) r
    have h2 := flowGo_len false 0 r
    have h3 := between_len e
    simp only [flowGo, tot, List.map_cons, List.sum_cons] at *
    split
    · omega
    · simp only [List.length_append]; omega
theorem flowF_len (l : List (List Int)) : (flowF l).length ≤ tot l := by
  unfold flowF
  have h1 := flowGo_len true 0 (trims l.length 0 l)
  have h2 := trims_tot l.length 0 l
  omega
theorem trims_drop (n : Nat) : ∀ (k i : Nat) (l : List (List Int)), (trims n i l).drop k = trims n (i + k) (l.drop k)
  | 0, i, l => by simp
  | k + 1, i, [] => by simp [trims]
  | k + 1, i, t :: r => by
    simp only [trims, List.drop_succ_cons]
    rw [trims_drop n k (i + 1) r]
    congr 1; omega
theorem drop_getDL {l : List (List Int)} {k : Nat} (h : k < l.length) : l.drop k = l.getD k [] :: l.drop (k + 1) := by
  rw [List.drop_eq_getElem_cons h]
  simp [List.getD_eq_getElem?_getD, h]
abbrev SSI (o : Option (Option (Nat × Nat))) (l : List (List Int)) : AV := .sl 1 o (l.map (SI none))
theorem getS {l : List (List Int)} {k : Nat} (h : k < l.length) : (l.map (SI none)).getD k .any = SI none (l.getD k []) := by
  simp [List.getD_eq_getElem?_getD, h]
theorem goodSS (l : List (List Int)) : goodL (l.map (SI none)) = true := by
  unfold goodL
  rw [List.all_map, List.all_eq_true]
  intro x _
  rfl
theorem backI_step {l : List Int} (h : 0 < l.length) (hb : blankI (l.getD (l.length - 1) 0) = true) : backI l = backI (l.take (l.length - 1)) := by
  have hne : l ≠ [] := fun e => by subst e; simp at h
  have e : l = l.take (l.length - 1) ++ [l.getD (l.length - 1) 0] := by
    have := List.dropLast_concat_getLast hne
    rw [List.dropLast_eq_take] at this
    rw [List.getLast_eq_getElem] at this
    have h2 : l.getD (l.length - 1) 0 = l[l.length - 1]'(by omega) := by simp [List.getD_eq_getElem?_getD, show l.length - 1 < l.length by omega]
    rw [h2]; exact this.symm
  conv => lhs; rw [e]
  unfold backI
  rw [List.reverse_append, List.reverse_singleton, List.singleton_append, List.dropWhile_cons, if_pos hb]
theorem backI_stop {l : List Int} (h : 0 < l.length) (hb : blankI (l.getD (l.length - 1) 0) = false) : backI l = l := by
  have hne : l ≠ [] := fun e => by subst e; simp at h
  unfold backI
  have h1 : l.reverse = l.getD (l.length - 1) 0 :: l.dropLast.reverse := by
    have := List.dropLast_concat_getLast hne
    have h2 : l.getD (l.length - 1) 0 = l.getLast hne := by
      rw [List.getLast_eq_getElem]; simp [List.getD_eq_getElem?_getD, show l.length - 1 < l.length by omega]
    rw [h2]
    conv => lhs; rw [← this]
    simp
  rw [h1, List.dropWhile_cons, if_neg (by rw [hb]; decide), ← h1, List.reverse_reverse]

/-! ### Texts of whole lines -/
def fullN (l : List (List Int)) : Nat := (l.reverse.dropWhile (·.isEmpty)).length
def endsC (n full : Nat) (chomp : Int) : List Int :=
  if chomp = 2 then (if full = 0 then List.replicate n 10 else List.replicate (n - full + 1) 10) else if chomp = 1 ∨ full = 0 then [] else [10]
def litGo : Bool → List (List Int) → List Int
  | _, [] => []
  | true, t :: r => t ++ litGo false r
  | false, t :: r => 10 :: t ++ litGo false r
def litF (l : List (List Int)) (chomp : Int) : List Int := litGo true (l.take (fullN l)) ++ endsC l.length (fullN l) chomp
def spacedI (l : List Int) : Bool := decide (0 < l.length) && blankI (l.getD 0 0)
def sep (last : Option (List Int)) (e : Nat) (t : List Int) : List Int :=
  match last with
  | none => List.replicate e 10
  | some s => if spacedI s || spacedI t then between (e + 1) else between e
def blkGo : Option (List Int) → Nat → List (List Int) → List Int
  | _, _, [] => []
  | last, e, t :: r => if t = [] then blkGo last (e + 1) r else sep last e t ++ t ++ blkGo (some t) 0 r
def blkF (l : List (List Int)) (chomp : Int) : List Int := blkGo none 0 (l.take (fullN l)) ++ endsC l.length (fullN l) chomp
theorem fullN_le (l : List (List Int)) : fullN l ≤ l.length := by
  unfold fullN
  have := (List.dropWhile_suffix (fun t : List Int => t.isEmpty) (l := l.reverse)).length_le
  simpa using this
theorem fullN_take {l : List (List Int)} {k : Nat} (h : k < l.length) (hk : (l.getD k []).length = 0) (hf : fullN l = fullN (l.take (k + 1))) : fullN l = fullN (l.take k) := by
  rw [hf, List.take_succ_eq_append_getElem h]
  unfold fullN
  rw [List.reverse_append, List.reverse_singleton, List.singleton_append, List.dropWhile_cons]
  have : (l[k]).isEmpty = true := by
    have h1 : l.getD k [] = l[k] := by simp [List.getD_eq_getElem?_getD, h]
    rw [h1] at hk
    rw [List.isEmpty_iff]
    exact List.eq_nil_of_length_eq_zero hk
  rw [if_pos this]
theorem fullN_stop {l : List (List Int)} {k : Nat} (h : k < l.length) (hk : ¬ (l.getD k []).length = 0) : fullN (l.take (k + 1)) = k + 1 := by
  rw [List.take_succ_eq_append_getElem h]
  unfold fullN
  rw [List.reverse_append, List.reverse_singleton, List.singleton_append, List.dropWhile_cons]
  have : ¬ (l[k]).isEmpty = true := by
    have h1 : l.getD k [] = l[k] := by simp [List.getD_eq_getElem?_getD, h]
    rw [h1] at hk
    rw [List.isEmpty_iff]
    intro e; rw [e] at hk; simp at hk
  rw [if_neg this]
  simp; omega
theorem litGo_len : ∀ (b : Bool) (l : List (List Int)), (litGo b l).length ≤ tot l
  | _, [] => by simp [litGo]
  | true, t :: r => by
    have := litGo_len false r
    simp only [litGo, tot, List.map_cons, List.sum_cons, List.length_append] at *; omega
  | false, t :: r => by
    have := litGo_len false r
    simp only [litGo, tot, List.map_cons, List.sum_cons, List.length_append, List.length_cons] at *; omega
theorem sep_len (s : Option (List Int)) (e : Nat) (t : List Int) : (sep s e t).length ≤ e + 1 := by
  unfold sep
  split
  · simp
  · split
    · unfold between; simp
    · exact between_len e
theorem blkGo_len : ∀ (s : Option (List Int)) (e : Nat) (l : List (List Int)), (blkGo s e l).length ≤ e + tot l
  | _, _, [] => by simp [blkGo]
  | s, e, t :: r => by
    have h1 := blkGo_len s (e + 1) r
    have h2 := blkGo_len (some t) 0 r
    have h3 := sep_len s e t
    simp only [blkGo, tot, List.map_cons, List.sum_cons] at *
    split
    · omega
    · simp only [List.length_append]; omega
theorem tot_take (l : List (List Int)) (k : Nat) : tot (l.take k) ≤ tot l := by
  have e : tot l = tot (l.take k) + tot (l.drop k) := by
    unfold tot
    rw [← List.sum_append, ← List.map_append, List.take_append_drop]
  omega
theorem endsC_len (n f : Nat) (c : Int) (h : f ≤ n) : (endsC n f c).length ≤ n + 1 := by
  unfold endsC
  split
  · split <;> simp <;> omega
  · split <;> simp
theorem flowGo_first {t : List Int} {r : List (List Int)} {e : Nat} : flowGo true e (t :: r) = t ++ flowGo false e r := rfl
theorem flowGo_empty {t : List Int} {r : List (List Int)} {e : Nat} (h : t = []) (h2 : r ≠ []) : flowGo false e (t :: r) = flowGo false (e + 1) r := by
  simp only [flowGo]; rw [if_pos ⟨h, h2⟩]
theorem flowGo_cons {t : List Int} {r : List (List Int)} {e : Nat} (h : ¬ (t = [] ∧ r ≠ [])) : flowGo false e (t :: r) = between e ++ t ++ flowGo false 0 r := by
  simp only [flowGo]; rw [if_neg h]
theorem flow_out {l : List (List Int)} {a b : List Int} (h : flowF l = a ++ b) : a.length + b.length ≤ tot l := by
  have := flowF_len l
  rw [h] at this
  simpa using this
theorem trims_nil {n i : Nat} {l : List (List Int)} (h : trims n i l = []) : l = [] := by
  cases l with
  | nil => rfl
  | cons => simp [trims] at h
theorem litGo_first {t : List Int} {r : List (List Int)} : litGo true (t :: r) = t ++ litGo false r := rfl
theorem litGo_next {t : List Int} {r : List (List Int)} : litGo false (t :: r) = 10 :: t ++ litGo false r := rfl
theorem blkGo_empty {s : Option (List Int)} {e : Nat} {t : List Int} {r : List (List Int)} (h : t = []) : blkGo s e (t :: r) = blkGo s (e + 1) r := by
  simp only [blkGo]; rw [if_pos h]
theorem blkGo_cons {s : Option (List Int)} {e : Nat} {t : List Int} {r : List (List Int)} (h : ¬ t = []) : blkGo s e (t :: r) = sep s e t ++ t ++ blkGo (some t) 0 r := by
  simp only [blkGo]; rw [if_neg h]
theorem lit_out {l : List (List Int)} {n : Nat} {a b : List Int} (h : litGo true (l.take n) = a ++ b) : a.length + b.length ≤ tot l := by
  have h1 := litGo_len true (l.take n)
  have h2 := tot_take l n
  rw [h, List.length_append] at h1
  omega
theorem blk_out {l : List (List Int)} {n : Nat} {a b : List Int} (h : blkGo none 0 (l.take n) = a ++ b) : a.length + b.length ≤ tot l := by
  have h1 := blkGo_len none 0 (l.take n)
  have h2 := tot_take l n
  rw [h, List.length_append] at h1
  omega
theorem take_drop_cons {l : List (List Int)} {n k : Nat} (h : k < n) (hn : n ≤ l.length) : (l.take n).drop k = l.getD k [] :: (l.take n).drop (k + 1) := by
  rw [drop_getDL (by simp; omega)]
  congr 1
  simp [List.getD_eq_getElem?_getD, List.getElem?_take_of_lt h]
theorem getD_take {l : List (List Int)} {n k : Nat} (h : k < n) : (l.take n).getD k [] = l.getD k [] := by
  simp [List.getD_eq_getElem?_getD, List.getElem?_take_of_lt h]
theorem litF_len (l : List (List Int)) (c : Int) : (litF l c).length ≤ tot l + l.length + 1 := by
  have h1 := litGo_len true (l.take (fullN l))
  have h2 := tot_take l (fullN l)
  have h3 := endsC_len l.length (fullN l) c (fullN_le l)
  unfold litF
  rw [List.length_append]; omega
theorem blkF_len (l : List (List Int)) (c : Int) : (blkF l c).length ≤ tot l + l.length + 1 := by
  have h1 := blkGo_len none 0 (l.take (fullN l))
  have h2 := tot_take l (fullN l)
  have h3 := endsC_len l.length (fullN l) c (fullN_le l)
  unfold blkF
  rw [List.length_append]; omega
end Go.Abs
