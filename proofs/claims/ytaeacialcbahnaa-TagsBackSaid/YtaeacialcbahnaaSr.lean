/-
  Plain specifications for chapter 11: anchors and tags. No program in sight.
-/
import Derived.Test.YtaeacialcbahnaaSp
namespace Go.Abs
set_option linter.unusedSimpArgs false
set_option linter.unusedVariables false
/-- How many code points at a list's beginning are of a kind. -/
def cnt (p : Int → Bool) (l : List Int) : Nat := (l.takeWhile p).length
theorem cnt_le (p : Int → Bool) (l : List Int) : cnt p l ≤ l.length := (List.takeWhile_prefix p).length_le
theorem cnt_step {p : Int → Bool} {l : List Int} {k : Nat} (h : k ≤ cnt p l) (h1 : k < l.length) (h2 : p (l.getD k 0) = true) : k + 1 ≤ cnt p l := tw_step h h1 h2
theorem cnt_stop {p : Int → Bool} {l : List Int} {k : Nat} (h : k ≤ cnt p l) (h1 : l.length ≤ k ∨ p (l.getD k 0) = false) : k = cnt p l := by
  rcases Nat.lt_or_ge k l.length with hk | hk
  · exact tw_stop h hk (by rcases h1 with h1 | h1; · omega
                           · exact h1)
  · have := cnt_le p l; omega
theorem cnt_nil (p : Int → Bool) : cnt p [] = 0 := rfl
theorem cnt_in {p : Int → Bool} {l : List Int} {k : Nat} (h : k < cnt p l) : p (l.getD k 0) = true := by
  induction l generalizing k with
  | nil => simp [cnt] at h
  | cons c r ih =>
    unfold cnt at h ih
    by_cases e : p c = true
    · simp only [List.takeWhile_cons, e, if_true, List.length_cons] at h
      cases k with
      | zero => simpa using e
      | succ k => simpa using ih (k := k) (by omega)
    · simp [List.takeWhile_cons, e] at h
theorem cnt_out {p : Int → Bool} {l : List Int} (h : cnt p l < l.length) : p (l.getD (cnt p l) 0) = false := by
  cases e : p (l.getD (cnt p l) 0)
  · rfl
  · have := cnt_step (Nat.le_refl _) h e; omega
/-- Does a code point stand at a place? -/
def atI (l : List Int) (i : Nat) (c : Int) : Bool := decide (i < l.length ∧ l.getD i 0 = c)
theorem atI_lt {l : List Int} {i : Nat} {c : Int} (h : atI l i c = true) : i < l.length ∧ l.getD i 0 = c := of_decide_eq_true h
theorem atI_no {l : List Int} {i : Nat} {c : Int} (h : atI l i c = false) : ¬ (i < l.length ∧ l.getD i 0 = c) := of_decide_eq_false h
theorem w37 : wordI 37 = false := by decide
theorem u37 : uriC 37 = false := by decide
theorem sign_w {l : List Int} {i : Nat} (h : i < l.length) (hw : wordI (l.getD i 0) = true) : signN (l.drop i) = 1 := by
  rw [signN_at h, if_neg (fun e => by rw [e, w37] at hw; cases hw), hw]; rfl
theorem sign_u {l : List Int} {i : Nat} (h : i < l.length) (hw : uriC (l.getD i 0) = true) : signN (l.drop i) = 1 := by
  rw [signN_at h, if_neg (fun e => by rw [e, u37] at hw; cases hw), hw, Bool.or_true]; rfl
theorem sign_p {l : List Int} {i : Nat} (h : i + 2 < l.length) (h1 : l.getD i 0 = 37) (h2 : 0 ≤ hexI (l.getD (i + 1) 0)) (h3 : 0 ≤ hexI (l.getD (i + 2) 0)) : signN (l.drop i) = 3 := by
  rw [signN_at (by omega), if_pos h1, if_pos ⟨h, h2, h3⟩]
theorem sign_pn {l : List Int} {i : Nat} (h : i < l.length) (h1 : l.getD i 0 = 37) (h2 : l.length ≤ i + 2 ∨ hexI (l.getD (i + 1) 0) < 0 ∨ hexI (l.getD (i + 2) 0) < 0) : signN (l.drop i) = 0 := by
  rw [signN_at h, if_pos h1, if_neg (by omega)]
theorem sign_n {l : List Int} {i : Nat} (h : i < l.length) (h1 : ¬ l.getD i 0 = 37) (h2 : wordI (l.getD i 0) = false) (h3 : uriC (l.getD i 0) = false) : signN (l.drop i) = 0 := by
  rw [signN_at h, if_neg h1, h2, h3]; rfl
theorem sign_e {l : List Int} {i : Nat} (h : l.length ≤ i) : signN (l.drop i) = 0 := by rw [List.drop_eq_nil_of_le h]; rfl
theorem uriC_iff {c : Int} : uriC c = true ↔ c ∈ uriL := by unfold uriC; exact decide_eq_true_iff
/-- The signs, one behind the other: where each stands, and where it ends. -/
def signsL : Nat → Nat → List Int → List (Nat × Nat)
  | 0, _, _ => []
  | f + 1, i, l => if signN (l.drop i) = 0 then [] else (i, i + signN (l.drop i)) :: signsL f (i + signN (l.drop i)) l
def signsAt (l : List Int) (i : Nat) : List (Nat × Nat) := signsL (l.length - i + 1) i l
theorem signN_drop_le {l : List Int} {i : Nat} : signN (l.drop i) ≤ l.length - i := by
  have := (signN_le (l.drop i)).2; rwa [List.length_drop] at this
theorem signsL_fuel : ∀ (f f' i : Nat) (l : List Int), l.length - i < f → l.length - i < f' → signsL f i l = signsL f' i l
  | 0, _, _, _, h, _ => by omega
  | _, 0, _, _, _, h => by omega
  | f + 1, f' + 1, i, l, h, h' => by
    have := signN_drop_le (l := l) (i := i)
    simp only [signsL]
    split
    · rfl
    · rw [signsL_fuel f f' _ l (by omega) (by omega)]
theorem signsAt_no {l : List Int} {i : Nat} (h : signN (l.drop i) = 0) : signsAt l i = [] := by
  unfold signsAt signsL; rw [if_pos h]
theorem signsAt_yes {l : List Int} {i : Nat} (h : ¬ signN (l.drop i) = 0) : signsAt l i = (i, i + signN (l.drop i)) :: signsAt l (i + signN (l.drop i)) := by
  have := signN_drop_le (l := l) (i := i)
  unfold signsAt
  rw [signsL, if_neg h, signsL_fuel (l.length - i) (l.length - (i + signN (l.drop i)) + 1) _ _ (by omega) (by omega)]
theorem uriN_no {may : Int → Bool} {l : List Int} (h : signN l = 0 ∨ may (l.getD 0 0) = false) : uriN may l = 0 := by rw [uriN_at, if_pos h]
theorem uriN_yes {may : Int → Bool} {l : List Int} (h : ¬ signN l = 0) (h1 : may (l.getD 0 0) = true) : uriN may l = signN l + uriN may (l.drop (signN l)) := by
  rw [uriN_at, if_neg]; rw [h1]; simp [h]
theorem getD_drop0 {l : List Int} {i : Nat} : (l.drop i).getD 0 0 = l.getD i 0 := by simp [List.getD_eq_getElem?_getD]
/-- A handle of two !. -/
def handleN (l : List Int) : Nat := if atI l (1 + cnt wordI (l.drop 1)) 33 then 1 + cnt wordI (l.drop 1) + 1 else 0
theorem handleN_le (l : List Int) : handleN l ≤ l.length := by
  unfold handleN
  split
  · rename_i h; have := (atI_lt h).1; omega
  · omega
def anchorI (l : List Int) : ByteArray × Int × Bool := (textI (l.take (cnt nameI l)), (cnt nameI l : Nat), decide (0 < cnt nameI l))
def noneT : ByteArray × Int × Bool := (ByteArray.empty, 0, false)
def wholeI (l : List Int) : ByteArray × Int × Bool :=
  if uriN anyC (l.drop 2) = 0 ∨ atI l (uriN anyC (l.drop 2) + 2) 62 = false then noneT else (textI ((l.take (uriN anyC (l.drop 2) + 2)).drop 1), (uriN anyC (l.drop 2) + 3 : Nat), true)
def shortI (l : List Int) : ByteArray × Int × Bool :=
  if 0 < handleN l ∧ uriN shortC (l.drop (max (handleN l) 1)) = 0 then noneT else (textI (l.take (uriN shortC (l.drop (max (handleN l) 1)) + max (handleN l) 1)), (uriN shortC (l.drop (max (handleN l) 1)) + max (handleN l) 1 : Nat), true)
def tagI (l : List Int) : ByteArray × Int × Bool := if atI l 0 33 = false then noneT else if atI l 1 60 then wholeI l else shortI l
/-! ### Directives -/
def digitC (c : Int) : Bool := decide (48 ≤ c ∧ c ≤ 57)
def tailI (l : List Int) : Bool := decide (cnt blankI l = l.length ∨ (0 < cnt blankI l ∧ l.getD (cnt blankI l) 0 = 35))
def versP (l : List Int) (i : Nat) : ByteArray × ByteArray × Bool :=
  if cnt digitC (l.drop i) = 0 ∨ atI l (i + cnt digitC (l.drop i)) 46 = false then (ByteArray.empty, ByteArray.empty, false)
  else (textI ((l.take (i + cnt digitC (l.drop i))).drop i), textI ((l.take (i + cnt digitC (l.drop i) + 1 + cnt digitC (l.drop (i + cnt digitC (l.drop i) + 1)))).drop (i + cnt digitC (l.drop i) + 1)),
    decide (0 < cnt digitC (l.drop (i + cnt digitC (l.drop i) + 1))) && tailI (l.drop (i + cnt digitC (l.drop i) + 1 + cnt digitC (l.drop (i + cnt digitC (l.drop i) + 1)))))
theorem versP_yes {l : List Int} {i : Nat} (h : ¬ (cnt digitC (l.drop i) = 0 ∨ atI l (i + cnt digitC (l.drop i)) 46 = false)) : versP l i =
    (textI ((l.take (i + cnt digitC (l.drop i))).drop i), textI ((l.take (i + cnt digitC (l.drop i) + 1 + cnt digitC (l.drop (i + cnt digitC (l.drop i) + 1)))).drop (i + cnt digitC (l.drop i) + 1)),
    decide (0 < cnt digitC (l.drop (i + cnt digitC (l.drop i) + 1))) && tailI (l.drop (i + cnt digitC (l.drop i) + 1 + cnt digitC (l.drop (i + cnt digitC (l.drop i) + 1))))) := by rw [versP, if_neg h]
def preH (l : List Int) (i : Nat) : Nat := i + max 1 (handleN (l.drop i))
def preF (l : List Int) (i : Nat) : Nat := preH l i + cnt blankI (l.drop (preH l i))
def preU (l : List Int) (i : Nat) : Nat := uriN anyC (l.drop (preF l i))
def preP (l : List Int) (i : Nat) : ByteArray × ByteArray × Bool :=
  if atI l i 33 = false then (ByteArray.empty, ByteArray.empty, false)
  else (textI ((l.take (preH l i)).drop i), textI ((l.take (preF l i + preU l i)).drop (preF l i)), decide (preH l i < preF l i) && (decide (0 < preU l i) && tailI (l.drop (preF l i + preU l i))))
theorem preP_yes {l : List Int} {i : Nat} (h : atI l i 33 = true) : preP l i = (textI ((l.take (preH l i)).drop i), textI ((l.take (preF l i + preU l i)).drop (preF l i)), decide (preH l i < preF l i) && (decide (0 < preU l i) && tailI (l.drop (preF l i + preU l i)))) := by
  rw [preP, if_neg (by rw [h]; decide)]
abbrev litY : ByteArray := { data := #[89, 65, 77, 76] }
abbrev litT : ByteArray := { data := #[84, 65, 71] }
def noneD : ByteArray × ByteArray × ByteArray × Bool := (ByteArray.empty, ByteArray.empty, ByteArray.empty, false)
def dirN (l : List Int) : Nat := 1 + cnt nameI (l.drop 1)
def dirM (l : List Int) : Nat := cnt blankI (l.drop (dirN l))
def dirT (l : List Int) : ByteArray := textI ((l.take (dirN l)).drop 1)
def dirI (l : List Int) : ByteArray × ByteArray × ByteArray × Bool :=
  if atI l 0 37 = false then noneD
  else if (dirT l).toList = litY.toList then (if (versP l (dirN l + dirM l)).2.2 = true ∧ 0 < dirM l then (dirT l, (versP l (dirN l + dirM l)).1, (versP l (dirN l + dirM l)).2.1, true) else noneD)
  else if (dirT l).toList = litT.toList then (if (preP l (dirN l + dirM l)).2.2 = true ∧ 0 < dirM l then (dirT l, (preP l (dirN l + dirM l)).1, (preP l (dirN l + dirM l)).2.1, true) else noneD)
  else if ¬ (dirT l).toList = ({ data := #[] } : ByteArray).toList ∧ (dirN l = l.length ∨ 0 < dirM l) then (dirT l, ByteArray.empty, ByteArray.empty, true) else noneD
theorem dirN_le {l : List Int} (h : 0 < l.length) : dirN l ≤ l.length := by
  have := cnt_le nameI (l.drop 1)
  rw [List.length_drop] at this
  unfold dirN; omega
theorem dirM_le (l : List Int) : dirM l ≤ l.length - dirN l := by
  have := cnt_le blankI (l.drop (dirN l))
  rwa [List.length_drop] at this
theorem preH_le {l : List Int} {i : Nat} (h : i < l.length) : i + 1 ≤ preH l i ∧ preH l i ≤ l.length := by
  have := handleN_le (l.drop i)
  rw [List.length_drop] at this
  unfold preH; omega
theorem preF_le {l : List Int} {i : Nat} (h : i < l.length) : preH l i ≤ preF l i ∧ preF l i ≤ l.length := by
  have h1 := preH_le h
  have := cnt_le blankI (l.drop (preH l i))
  rw [List.length_drop] at this
  unfold preF; omega
theorem preU_le {l : List Int} {i : Nat} (h : i < l.length) : preF l i + preU l i ≤ l.length := by
  have h1 := preF_le h
  have := uriN_le anyC (l.drop (preF l i))
  rw [List.length_drop] at this
  unfold preU; omega
end Go.Abs
