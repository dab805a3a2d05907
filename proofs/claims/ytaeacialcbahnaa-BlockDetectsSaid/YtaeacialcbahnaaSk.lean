/-
  Plain specifications for chapter 10: texts of whole lines. No program in sight.
-/
import Derived.Test.YtaeacialcbahnaaSu
import Derived.Test.YtaeacialcbahnaaSq
import Derived.Test.YtaeacialcbahnaaSm
namespace Go.Abs
set_option linter.unusedSimpArgs false
set_option linter.unusedVariables false
/-! ### Heads -/
def signsGo (ch ind : Int) : List Int → Int × Int × List Int
  | [] => (ch, ind, [])
  | c :: r => if 49 ≤ c ∧ c ≤ 57 ∧ ind = 0 then signsGo ch (c - 48) r else if c = 45 ∧ ch = 0 then signsGo 1 ind r else if c = 43 ∧ ch = 0 then signsGo 2 ind r else (ch, ind, c :: r)
abbrev HD := Bool × Int × Int
def headI (l : List Int) : HD × Int × Int :=
  if 0 < l.length ∧ (l.getD 0 0 = 124 ∨ l.getD 0 0 = 62) then
    if (signsGo 0 0 (l.drop 1)).2.2.dropWhile blankI ≠ [] ∧ (((signsGo 0 0 (l.drop 1)).2.2.dropWhile blankI).length = (signsGo 0 0 (l.drop 1)).2.2.length ∨ ¬ ((signsGo 0 0 (l.drop 1)).2.2.dropWhile blankI).getD 0 0 = 35) then ((false, 0, 0), 0, 2)
    else ((l.getD 0 0 == 62, (signsGo 0 0 (l.drop 1)).1, (signsGo 0 0 (l.drop 1)).2.1), (l.length : Nat), 0)
  else ((false, 0, 0), 0, 2)
theorem headI_none {l : List Int} (h : ¬ (0 < l.length ∧ (l.getD 0 0 = 124 ∨ l.getD 0 0 = 62))) : headI l = ((false, 0, 0), 0, 2) := by unfold headI; rw [if_neg h]
theorem headI_at {l : List Int} {ch ind : Int} {i j : Nat} (h : 0 < l.length) (h1 : l.getD 0 0 = 124 ∨ l.getD 0 0 = 62) (hs : signsGo 0 0 (l.drop 1) = (ch, ind, l.drop i)) (hi : i ≤ l.length) (hij : i ≤ j) (hj : j ≤ l.length)
    (hd : (l.drop i).dropWhile blankI = l.drop j) : headI l = (if j < l.length ∧ (j = i ∨ ¬ l.getD j 0 = 35) then ((false, 0, 0), 0, 2) else ((l.getD 0 0 == 62, ch, ind), (l.length : Nat), 0) : HD × Int × Int) := by
  unfold headI
  rw [if_pos ⟨h, h1⟩, hs]
  simp only [hd]
  have e1 : (l.drop j ≠ []) = (j < l.length) := by simp
  have e2 : ((l.drop j).length = (l.drop i).length) = (l.length - j = l.length - i) := by simp
  by_cases hjl : j < l.length
  · have e3 : (l.drop j).getD 0 0 = l.getD j 0 := by rw [drop_getD hjl]; rfl
    have e4 : (l.length - j = l.length - i) = (j = i) := by apply propext; omega
    simp only [e1, e2, e3, e4]
  · simp only [e1, hjl, false_and, if_false]
theorem signs_num {ch ind : Int} {l : List Int} {i : Nat} (h : i < l.length) (h1 : 49 ≤ l.getD i 0) (h2 : l.getD i 0 ≤ 57) (h3 : ind = 0) : signsGo ch ind (l.drop i) = signsGo ch (l.getD i 0 - 48) (l.drop (i + 1)) := by
  rw [drop_getD h]; simp only [signsGo]; rw [if_pos ⟨h1, h2, h3⟩]
theorem signs_min {ch ind : Int} {l : List Int} {i : Nat} (h : i < l.length) (h1 : l.getD i 0 = 45) (h2 : ch = 0) : signsGo ch ind (l.drop i) = signsGo 1 ind (l.drop (i + 1)) := by
  rw [drop_getD h]; simp only [signsGo]; rw [if_neg (by omega), if_pos ⟨h1, h2⟩]
theorem signs_plus {ch ind : Int} {l : List Int} {i : Nat} (h : i < l.length) (h1 : l.getD i 0 = 43) (h2 : ch = 0) : signsGo ch ind (l.drop i) = signsGo 2 ind (l.drop (i + 1)) := by
  rw [drop_getD h]; simp only [signsGo]; rw [if_neg (by omega), if_neg (by omega), if_pos ⟨h1, h2⟩]
theorem signs_stop {ch ind : Int} {l : List Int} {i : Nat} (h : i < l.length) (h1 : ¬ (49 ≤ l.getD i 0 ∧ l.getD i 0 ≤ 57 ∧ ind = 0)) (h2 : ¬ (l.getD i 0 = 45 ∧ ch = 0)) (h3 : ¬ (l.getD i 0 = 43 ∧ ch = 0)) : signsGo ch ind (l.drop i) = (ch, ind, l.drop i) := by
  rw [drop_getD h]; simp only [signsGo]; rw [if_neg h1, if_neg h2, if_neg h3]
theorem signs_end {ch ind : Int} {l : List Int} {i : Nat} (h : l.length ≤ i) : signsGo ch ind (l.drop i) = (ch, ind, l.drop i) := by rw [List.drop_eq_nil_of_le h]; rfl
theorem blank_at {l : List Int} {j : Nat} (h : j < l.length) (hb : blankI (l.getD j 0) = true) : (l.drop j).dropWhile blankI = (l.drop (j + 1)).dropWhile blankI := by
  rw [drop_getD h, List.dropWhile_cons, if_pos hb]
theorem blank_stop {l : List Int} {j : Nat} (h : j < l.length) (hb : blankI (l.getD j 0) = false) : (l.drop j).dropWhile blankI = l.drop j := by
  conv => lhs; rw [drop_getD h, List.dropWhile_cons, if_neg (by rw [hb]; decide)]
  rw [drop_getD h]
/-! ### Where lines stand -/
abbrev Ln := Int × List Int
def scanI (w : Int) : List Ln → Int × Option Int
  | [] => (w, none)
  | x :: r => if x.2 = [] then scanI (max w x.1) r else (w, if markerI x.1 x.2 = 0 then some x.1 else none)
def indI (l : List Ln) (ind n : Int) : Int × Int :=
  if 0 < ind then (max 0 n + min ind 1099511627776, 0)
  else
    if (scanI 0 l).2.getD n ≤ n then (max (scanI 0 l).1 (n + 1), 0)
    else if (scanI 0 l).2.getD n < (scanI 0 l).1 then (0, 7)
    else ((scanI 0 l).2.getD n, 0)
def overB (ind : Int) (x : Ln) : Bool := decide ((x.2 ≠ [] ∧ x.1 < ind) ∨ markerI x.1 x.2 ≠ 0)
def contB (ind : Int) (x : Ln) : List Int := List.replicate (x.1 - ind).toNat 32 ++ x.2
def rowsB (ind : Int) (l : List Ln) : List (List Int) := (l.takeWhile fun x => !overB ind x).map (contB ind)
def blockB (l : List Ln) (h : HD) (n : Int) : ByteArray × Int × Int :=
  if ¬ (indI l h.2.2 (min (max (-1) n) 1099511627776)).2 = 0 then (ByteArray.empty, 0, (indI l h.2.2 (min (max (-1) n) 1099511627776)).2)
  else (textI (if h.1 then blkF (rowsB (indI l h.2.2 (min (max (-1) n) 1099511627776)).1 l) h.2.1 else litF (rowsB (indI l h.2.2 (min (max (-1) n) 1099511627776)).1 l) h.2.1), ((rowsB (indI l h.2.2 (min (max (-1) n) 1099511627776)).1 l).length : Nat), 0)
theorem drop_getLn {l : List Ln} {k : Nat} (h : k < l.length) : l.drop k = l.getD k (0, []) :: l.drop (k + 1) := by
  rw [List.drop_eq_getElem_cons h]
  simp [List.getD_eq_getElem?_getD, h]
theorem scan_void {l : List Ln} {w : Int} {k : Nat} (h : k < l.length) (h1 : (l.getD k (0, [])).2 = []) : scanI w (l.drop k) = scanI (max w (l.getD k (0, [])).1) (l.drop (k + 1)) := by
  rw [drop_getLn h]; simp only [scanI]; rw [if_pos h1]
theorem scan_mark {l : List Ln} {w : Int} {k : Nat} (h : k < l.length) (h1 : ¬ (l.getD k (0, [])).2 = []) (h2 : ¬ markerI (l.getD k (0, [])).1 (l.getD k (0, [])).2 = 0) : scanI w (l.drop k) = (w, none) := by
  rw [drop_getLn h]; simp only [scanI]; rw [if_neg h1, if_neg h2]
theorem scan_text {l : List Ln} {w : Int} {k : Nat} (h : k < l.length) (h1 : ¬ (l.getD k (0, [])).2 = []) (h2 : markerI (l.getD k (0, [])).1 (l.getD k (0, [])).2 = 0) : scanI w (l.drop k) = (w, some (l.getD k (0, [])).1) := by
  rw [drop_getLn h]; simp only [scanI]; rw [if_neg h1, if_pos h2]
theorem scan_end {l : List Ln} {w : Int} {k : Nat} (h : l.length ≤ k) : scanI w (l.drop k) = (w, none) := by rw [List.drop_eq_nil_of_le h]; rfl
theorem rows_over {l : List Ln} {d : Int} {k : Nat} (h : k < l.length) (h1 : overB d (l.getD k (0, [])) = true) : rowsB d (l.drop k) = [] := by
  unfold rowsB
  rw [drop_getLn h, List.takeWhile_cons, if_neg (by rw [h1]; decide)]; rfl
theorem rows_take {l : List Ln} {d : Int} {k : Nat} (h : k < l.length) (h1 : overB d (l.getD k (0, [])) = false) : rowsB d (l.drop k) = contB d (l.getD k (0, [])) :: rowsB d (l.drop (k + 1)) := by
  unfold rowsB
  rw [drop_getLn h, List.takeWhile_cons, if_pos (by rw [h1]; rfl)]; rfl
theorem rows_end {l : List Ln} {d : Int} {k : Nat} (h : l.length ≤ k) : rowsB d (l.drop k) = [] := by rw [List.drop_eq_nil_of_le h]; rfl
theorem over_yes {d : Int} {x : Ln} (h : (¬ x.2.length = 0 ∧ x.1 < d) ∨ ¬ markerI x.1 x.2 = 0) : overB d x = true := by
  unfold overB
  refine decide_eq_true ?_
  rcases h with ⟨h1, h2⟩ | h
  · exact .inl ⟨fun e => h1 (by rw [e]; rfl), h2⟩
  · exact .inr h
theorem over_no {d : Int} {x : Ln} (h : x.2.length = 0 ∨ d ≤ x.1) (h2 : markerI x.1 x.2 = 0) : overB d x = false := by
  unfold overB
  refine decide_eq_false ?_
  rintro (⟨h3, h4⟩ | h5)
  · rcases h with h | h
    · exact h3 (List.eq_nil_of_length_eq_zero h)
    · omega
  · exact h5 h2
end Go.Abs
