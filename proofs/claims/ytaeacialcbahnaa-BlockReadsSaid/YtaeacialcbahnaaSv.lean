/-
  Plain specifications for chapter 8: at places of a text. No program in sight.
-/
import Derived.Test.YtaeacialcbahnaaSt
import Derived.Test.YtaeacialcbahnaaSm
namespace Go.Abs
theorem und_at_two {l : List Int} {k : Nat} (h : k + 1 < l.length) (h1 : l.getD k 0 = 39) (h2 : l.getD (k + 1) 0 = 39) : und (l.drop k) = 39 :: und (l.drop (k + 2)) := by
  rw [drop_getD (show k < l.length by omega), drop_getD h, h1, h2, und_two]
theorem und_at_one {l : List Int} {k : Nat} (h : k < l.length) (hn : ¬ (l.getD k 0 = 39 ∧ k + 1 < l.length ∧ l.getD (k + 1) 0 = 39)) : und (l.drop k) = l.getD k 0 :: und (l.drop (k + 1)) := by
  rw [drop_getD h]
  by_cases hk : k + 1 < l.length
  · rw [drop_getD hk, und_lone (fun h3 => hn ⟨h3.1, hk, h3.2⟩)]
  · rw [List.drop_eq_nil_of_le (by omega)]; rfl
theorem endG_at_no {l : List Int} {k n : Nat} (h : k < l.length) (hn : ¬ l.getD k 0 = 39) : endG n (l.drop k) = endG (n + 1) (l.drop (k + 1)) := by
  rw [drop_getD h]
  by_cases hk : k + 1 < l.length
  · rw [drop_getD hk]; simp only [endG]; rw [if_neg hn]
  · rw [List.drop_eq_nil_of_le (by omega)]; simp only [endG]; rw [if_neg hn]
theorem endG_at_two {l : List Int} {k n : Nat} (h : k + 1 < l.length) (h1 : l.getD k 0 = 39) (h2 : l.getD (k + 1) 0 = 39) : endG n (l.drop k) = endG (n + 2) (l.drop (k + 2)) := by
  rw [drop_getD (show k < l.length by omega), drop_getD h, h1, h2]; simp [endG]
theorem endG_at_end {l : List Int} {k n : Nat} (h : k < l.length) (h1 : l.getD k 0 = 39) (h2 : ¬ (k + 1 < l.length ∧ l.getD (k + 1) 0 = 39)) : endG n (l.drop k) = ((n : Int), true) := by
  rw [drop_getD h, h1]
  by_cases hk : k + 1 < l.length
  · rw [drop_getD hk]; simp only [endG]; rw [if_pos trivial, if_neg (fun e => h2 ⟨hk, e⟩)]
  · rw [List.drop_eq_nil_of_le (by omega)]; simp [endG]
theorem endG_nil {n : Nat} : endG n [] = (0, false) := rfl
theorem und_tot : ∀ l : List (List Int), tot (l.map und) ≤ tot l
  | [] => Nat.le_refl _
  | t :: r => by
    have h1 := und_tot r
    have h2 := und_len t
    simp only [tot, List.map_cons, List.sum_cons] at *
    omega
/-- Which texts may stand between quotes on one line. -/
def mayC (c : Int) : Bool := printI c && !(c == 10) && !(c == 13) && !(c == 65279)
theorem mayC_no {c : Int} (h : printI c = false ∨ c = 10 ∨ c = 13 ∨ c = 65279) : mayC c = false := by
  rcases h with h | rfl | rfl | rfl <;> simp [mayC, *]
theorem mayC_yes {c : Int} (h : printI c = true) (h1 : ¬ c = 10) (h2 : ¬ c = 13) (h3 : ¬ c = 65279) : mayC c = true := by simp [mayC, *]
def mayI (l : List Int) : Bool := l.all mayC
/-- A text with each quote twice. -/
def dbl : List Int → List Int
  | [] => []
  | c :: r => if c = 39 then 39 :: 39 :: dbl r else c :: dbl r
def wrI (l : List Int) : List Int := if mayI l then 39 :: (dbl l ++ [39]) else []
theorem dbl_app (a b : List Int) : dbl (a ++ b) = dbl a ++ dbl b := by
  induction a with
  | nil => rfl
  | cons c r ih => simp only [List.cons_append, dbl]; split <;> simp [ih]
theorem dbl_len (a : List Int) : (dbl a).length ≤ 2 * a.length := by
  induction a with
  | nil => simp [dbl]
  | cons c r ih => simp only [dbl]; split <;> simp only [List.length_cons] <;> omega
theorem may_take {l : List Int} {k : Nat} (h : k < l.length) (hb : ∀ j, j < k → mayC (l.getD j 0) = true) (hc : mayC (l.getD k 0) = true) : ∀ j, j < k + 1 → mayC (l.getD j 0) = true := fun j hj => by
  rcases Nat.lt_succ_iff_lt_or_eq.1 hj with h | rfl
  · exact hb j h
  · exact hc
theorem may_no {l : List Int} {k : Nat} (h : k < l.length) (hc : mayC (l.getD k 0) = false) : mayI l = false := by
  rw [Bool.eq_false_iff]
  intro hm
  have := List.all_eq_true.1 hm (l.getD k 0) (by simp [List.getD_eq_getElem?_getD, h])
  rw [hc] at this; cases this
theorem may_yes {l : List Int} (hb : ∀ j, j < l.length → mayC (l.getD j 0) = true) : mayI l = true := by
  refine List.all_eq_true.2 fun x hx => ?_
  obtain ⟨j, hj, rfl⟩ := List.getElem_of_mem hx
  have := hb j hj
  simpa [List.getD_eq_getElem?_getD, hj] using this
theorem dbl_take {l : List Int} {k : Nat} (h : k < l.length) : dbl (l.take (k + 1)) = dbl (l.take k) ++ (if l.getD k 0 = 39 then [39, 39] else [l.getD k 0]) := by
  rw [List.take_succ_eq_append_getElem h, dbl_app]
  simp only [List.getD_eq_getElem?_getD, List.getElem?_eq_getElem h, Option.getD_some, dbl]
/-- What is written is closed at its end, and read as it was. -/
theorem endG_dbl (l : List Int) : ∀ n, endG n (dbl l ++ [39]) = (((n + (dbl l).length : Nat) : Int), true) := by
  induction l with
  | nil => intro n; simp [dbl, endG]
  | cons c r ih =>
    intro n
    simp only [dbl]
    split
    · have := ih (n + 2)
      simp only [List.cons_append, endG, if_pos, List.length_cons]
      rw [this]; congr 2; omega
    · rename_i hc
      have := ih (n + 1)
      simp only [List.cons_append, List.length_cons]
      cases h : dbl r ++ [39] with
      | nil => simp at h
      | cons d m =>
        rw [h] at this
        simp only [endG]
        rw [if_neg hc, this]; congr 2; omega
theorem und_dbl (l : List Int) : und (dbl l) = l := by
  induction l with
  | nil => rfl
  | cons c r ih =>
    simp only [dbl]
    split
    · rename_i hc; rw [und_two, ih, hc]
    · rename_i hc; rw [und_ne hc, ih]
theorem flowF_one (t : List Int) : flowF [t] = t := by simp [flowF, trims, trimAt, flowGo]
theorem und_take {l : List (List Int)} {k : Nat} (h : k < l.length) : (l.take (k + 1)).map und = (l.take k).map und ++ [und (l.getD k [])] := by
  rw [List.take_succ_eq_append_getElem h, List.map_append, List.map_cons, List.map_nil, List.getD_eq_getElem?_getD, List.getElem?_eq_getElem h]
  rfl
end Go.Abs
