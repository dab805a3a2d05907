/-
  Plain specifications for chapter 8: texts between single quotes. No program in sight.
-/
import Derived.Test.YtaeacialcbahnaaSf
namespace Go.Abs
set_option linter.unusedSimpArgs false
/-- Two quotes are one. -/
def und : List Int → List Int
  | [] => []
  | [c] => [c]
  | c :: d :: r => if c = 39 ∧ d = 39 then 39 :: und r else c :: und (d :: r)
/-- Where a text's quote is closed: how many signs stand ahead. -/
def endG : Nat → List Int → Int × Bool
  | _, [] => (0, false)
  | k, [c] => if c = 39 then (k, true) else (0, false)
  | k, c :: d :: r => if c = 39 then (if d = 39 then endG (k + 2) r else (k, true)) else endG (k + 1) (d :: r)

theorem und_ne {c : Int} {r : List Int} (h : ¬ c = 39) : und (c :: r) = c :: und r := by
  cases r with
  | nil => rfl
  | cons d r => simp [und, h]
theorem und_two {r : List Int} : und (39 :: 39 :: r) = 39 :: und r := by simp [und]
theorem und_lone {c d : Int} {r : List Int} (h : ¬ (c = 39 ∧ d = 39)) : und (c :: d :: r) = c :: und (d :: r) := by simp [und, h]
theorem und_app {c : Int} {r : List Int} (hc : ¬ c = 39) : ∀ a : List Int, und (a ++ c :: r) = und a ++ und (c :: r)
  | [] => rfl
  | [x] => by rw [List.singleton_append, und_lone (fun h => hc h.2)]; rfl
  | x :: y :: a => by
    by_cases h : x = 39 ∧ y = 39
    · obtain ⟨rfl, rfl⟩ := h
      rw [List.cons_append, List.cons_append, und_two, und_two, und_app hc a]; rfl
    · have := und_app (r := r) hc (y :: a)
      rw [List.cons_append] at this
      rw [List.cons_append, List.cons_append, und_lone h, und_lone h, this]; rfl
theorem und_keep {b : List Int} : ∀ {s : List Int}, (∀ x ∈ s, ¬ x = 39) → und (s ++ b) = s ++ und b
  | [], _ => rfl
  | c :: s, h => by rw [List.cons_append, und_ne (h c (by simp)), und_keep (fun x hx => h x (by simp [hx]))]; rfl
theorem und_sep {a s b : List Int} (h : ∀ x ∈ s, ¬ x = 39) (hs : s ≠ []) : und (a ++ (s ++ b)) = und a ++ (s ++ und b) := by
  cases s with
  | nil => exact absurd rfl hs
  | cons c s =>
    rw [List.cons_append, und_app (h c (by simp)), ← List.cons_append, und_keep h]
theorem und_len : ∀ l : List Int, (und l).length ≤ l.length
  | [] => by simp [und]
  | [c] => by simp [und]
  | c :: d :: r => by
    have h1 := und_len r
    have h2 := und_len (d :: r)
    unfold und
    split <;> simp only [List.length_cons] at * <;> omega
theorem und_nil {l : List Int} : und l = [] ↔ l = [] := by
  match l with
  | [] => simp [und]
  | [c] => simp [und]
  | c :: d :: r => unfold und; split <;> simp
theorem und_head {c : Int} {r : List Int} : ∃ m, und (c :: r) = c :: m := by
  cases r with
  | nil => exact ⟨[], rfl⟩
  | cons d r =>
    by_cases h : c = 39 ∧ d = 39
    · obtain ⟨rfl, rfl⟩ := h; exact ⟨_, und_two⟩
    · exact ⟨_, und_lone h⟩
theorem blank_no {c : Int} (h : blankI c = true) : ¬ c = 39 := by
  unfold blankI at h
  have := of_decide_eq_true h
  omega
theorem und_front (t : List Int) : (und t).dropWhile blankI = und (t.dropWhile blankI) := by
  induction t with
  | nil => rfl
  | cons c r ih =>
    by_cases h : blankI c = true
    · rw [und_ne (blank_no h), List.dropWhile_cons, if_pos h, List.dropWhile_cons, if_pos h, ih]
    · obtain ⟨m, hm⟩ := und_head (c := c) (r := r)
      rw [List.dropWhile_cons, if_neg h, hm, List.dropWhile_cons, if_neg h]
theorem und_last : ∀ l : List Int, (und l).getLast? = l.getLast?
  | [] => rfl
  | [c] => rfl
  | c :: d :: r => by
    by_cases h : c = 39 ∧ d = 39
    · obtain ⟨rfl, rfl⟩ := h
      rw [und_two]
      have := und_last r
      cases r with
      | nil => rfl
      | cons x r =>
        obtain ⟨m, hm⟩ := und_head (c := x) (r := r)
        rw [hm] at this ⊢
        rw [List.getLast?_cons_cons, this, List.getLast?_cons_cons, List.getLast?_cons_cons]
    · rw [und_lone h]
      have := und_last (d :: r)
      obtain ⟨m, hm⟩ := und_head (c := d) (r := r)
      rw [hm] at this ⊢
      rw [List.getLast?_cons_cons, this, List.getLast?_cons_cons]
theorem backI_split (t : List Int) : ∃ s, t = backI t ++ s ∧ ∀ x ∈ s, blankI x = true := by
  refine ⟨(t.reverse.takeWhile blankI).reverse, ?_, fun x hx => ?_⟩
  · unfold backI
    rw [← List.reverse_append, List.takeWhile_append_dropWhile, List.reverse_reverse]
  · have h5 : (t.reverse.takeWhile blankI).all blankI = true := List.all_takeWhile
    exact List.all_eq_true.1 h5 x (by simpa using hx)
theorem dw_over {p : Int → Bool} {b : List Int} : ∀ {s : List Int}, (∀ x ∈ s, p x = true) → (s ++ b).dropWhile p = b.dropWhile p
  | [], _ => rfl
  | c :: s, h => by rw [List.cons_append, List.dropWhile_cons, if_pos (h c (by simp)), dw_over (fun x hx => h x (by simp [hx]))]
theorem backI_blanks {a s : List Int} (h : ∀ x ∈ s, blankI x = true) : backI (a ++ s) = backI a := by
  unfold backI
  rw [List.reverse_append, dw_over (fun x hx => h x (by simpa using hx))]
theorem backI_end {a : List Int} (h : ∀ c, a.getLast? = some c → blankI c = false) : backI a = a := by
  unfold backI
  cases h2 : a.reverse with
  | nil => simpa using h2.symm
  | cons c r =>
    have h3 : a.getLast? = some c := by rw [← List.head?_reverse, h2]; rfl
    rw [List.dropWhile_cons, if_neg (by rw [h c h3]; decide), ← h2, List.reverse_reverse]
theorem backI_last (t : List Int) : ∀ c, (backI t).getLast? = some c → blankI c = false := by
  intro c h
  unfold backI at h
  rw [List.getLast?_reverse] at h
  have := List.head?_dropWhile_not blankI t.reverse
  rw [h] at this
  simpa using this
theorem und_back (t : List Int) : backI (und t) = und (backI t) := by
  obtain ⟨s, hs, hb⟩ := backI_split t
  have h1 : und t = und (backI t) ++ s := by
    conv => lhs; rw [hs]
    cases s with
    | nil => simp
    | cons c s =>
      have := und_sep (a := backI t) (s := c :: s) (b := []) (fun x hx => blank_no (hb x hx)) (by simp)
      simpa [und] using this
  rw [h1, backI_blanks hb]
  exact backI_end (fun c hc => backI_last t c (by rw [← und_last]; exact hc))
theorem und_trim (n i : Nat) (t : List Int) : trimAt n i (und t) = und (trimAt n i t) := by
  unfold trimAt
  split <;> split <;> simp only [und_front, und_back]
theorem und_trims (n : Nat) : ∀ (i : Nat) (l : List (List Int)), trims n i (l.map und) = (trims n i l).map und
  | _, [] => rfl
  | i, t :: r => by simp only [List.map_cons, trims, und_trim, und_trims n (i + 1) r]
theorem between_no (e : Nat) : (∀ x ∈ between e, ¬ x = 39) ∧ between e ≠ [] := by
  unfold between
  split
  · exact ⟨by simp, by simp⟩
  · rename_i h
    refine ⟨fun x hx => ?_, fun h2 => h (by simpa using h2)⟩
    rw [List.eq_of_mem_replicate hx]; decide
theorem und_go : ∀ (r : List (List Int)) (e : Nat) (x : List Int), und (x ++ flowGo false e r) = und x ++ flowGo false e (r.map und)
  | [], e, x => by simp [flowGo]
  | t :: r, e, x => by
    by_cases h : t = [] ∧ r ≠ []
    · have h2 : und t = [] ∧ r.map und ≠ [] := ⟨und_nil.2 h.1, by simpa using h.2⟩
      rw [flowGo_empty h.1 h.2, List.map_cons, flowGo_empty h2.1 h2.2]
      exact und_go r (e + 1) x
    · have h2 : ¬ (und t = [] ∧ r.map und ≠ []) := fun h3 => h ⟨und_nil.1 h3.1, by simpa using h3.2⟩
      rw [flowGo_cons h, List.map_cons, flowGo_cons h2, List.append_assoc, List.append_assoc, und_sep (between_no e).1 (between_no e).2, und_go r 0 t]
/-- Quotes may be made one ahead of folding or behind it. -/
theorem und_flow (l : List (List Int)) : und (flowF l) = flowF (l.map und) := by
  unfold flowF
  rw [List.length_map, und_trims]
  cases h : trims l.length 0 l with
  | nil => rfl
  | cons t r => rw [flowGo_first, List.map_cons, flowGo_first]; exact und_go r 0 t
theorem und_same {l : List Int} (h : ∀ x ∈ l, ¬ x = 39) : und l = l := by
  have := und_keep (b := []) h
  simpa [und] using this
end Go.Abs
