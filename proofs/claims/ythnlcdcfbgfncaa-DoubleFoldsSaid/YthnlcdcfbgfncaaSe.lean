/-
  Plain facts for chapter 7's laws. No program in sight.
-/
import Derived.Test.YthnlcdcfbgfncaaSd
namespace Go.Abs
set_option linter.unusedSimpArgs false
set_option linter.unusedVariables false
/-! ### Texts without escapes -/
def plainG (c : Int) : Int × Bool := (c, false)
theorem readGo_plain (last : Bool) : ∀ (f : Nat) (acc : List (Int × Bool)) (l : List Int), l.length ≤ f → (∀ c ∈ l, ¬ c = 92) → readGo last f acc l = (acc ++ l.map plainG, false, 0)
  | 0, acc, l, h, _ => by
    obtain rfl := List.eq_nil_of_length_eq_zero (by omega : l.length = 0)
    simp [readGo]
  | f + 1, acc, [], _, _ => by simp [readGo]
  | f + 1, acc, c :: r, h, hc => by
    simp only [readGo]
    rw [if_pos (hc c (by simp)), readGo_plain last f _ r (by simpa using h) (fun x hx => hc x (by simp [hx]))]
    simp [plainG]
theorem readLine_plain {last : Bool} {l : List Int} (h : ∀ c ∈ l, ¬ c = 92) : readLine last l = (l.map plainG, false, 0) := by
  unfold readLine
  rw [readGo_plain last _ _ _ (Nat.le_refl _) h]; rfl
theorem linesD_plain : ∀ {l : List (List Int)}, (∀ t ∈ l, ∀ c ∈ t, ¬ c = 92) → linesD l = (l.map (fun t => (t.map plainG, false)), 0)
  | [], _ => rfl
  | t :: r, h => by
    simp only [linesD]
    rw [readLine_plain (h t (by simp)), linesD_plain (fun x hx => h x (by simp [hx]))]
    simp
theorem soft_plain (c : Int) : softG (plainG c) = blankI c := by simp [softG, plainG]
theorem dw_plain (t : List Int) : (t.map plainG).dropWhile softG = (t.dropWhile blankI).map plainG := by
  induction t with
  | nil => rfl
  | cons c r ih =>
    rw [List.map_cons, List.dropWhile_cons, List.dropWhile_cons, soft_plain]
    split
    · exact ih
    · rfl
theorem back_plain (t : List Int) : ((t.map plainG).reverse.dropWhile softG).reverse = (backI t).map plainG := by
  rw [← List.map_reverse, dw_plain, ← List.map_reverse]; rfl
theorem trimG_plain (i n : Nat) (t : List Int) : trimG i n (t.map plainG, false) = (trimAt n i t).map plainG := by
  unfold trimG trimAt backG frontG
  by_cases h1 : 0 < i <;> by_cases h2 : i + 1 < n <;> simp [h1, h2, dw_plain, back_plain]
theorem map_plain_fst (t : List Int) : (t.map plainG).map (·.1) = t := by rw [List.map_map]; exact List.map_id t
theorem map_plain_nil (t : List Int) : t.map plainG = [] ↔ t = [] := by simp
theorem between_sep (e : Nat) : (if e = 0 then [(32 : Int)] else []) ++ List.replicate e 10 = between e := by
  unfold between
  split
  · rename_i h; rw [h]; rfl
  · rfl
theorem foldG_plain (n : Nat) : ∀ (l : List (List Int)) (i e : Nat), n = i + l.length → foldG n i false e (l.map (fun t => (t.map plainG, false))) = flowGo false e (trims n i l)
  | [], i, e, _ => rfl
  | t :: r, i, e, h => by
    simp only [List.length_cons] at h
    have hr : (i + 1 < n) ↔ trims n (i + 1) r ≠ [] := by
      rw [Ne, ← List.length_eq_zero_iff, trims_len]; omega
    simp only [List.map_cons, foldG, trims, trimG_plain, map_plain_nil, map_plain_fst]
    by_cases hs : trimAt n i t = [] ∧ i + 1 < n
    · rw [if_pos ⟨hs.1, trivial, trivial, hs.2⟩, flowGo_empty hs.1 (hr.1 hs.2), foldG_plain n r (i + 1) (e + 1) (by omega)]
    · rw [if_neg (fun h2 => hs ⟨h2.1, h2.2.2.2⟩), flowGo_cons (fun h2 => hs ⟨h2.1, hr.2 h2.2⟩), foldG_plain n r (i + 1) 0 (by omega)]
      simp only [true_and]
      rw [← between_sep e]
theorem foldD_plain (l : List (List Int)) : foldD (l.map (fun t => (t.map plainG, false))) = flowF l := by
  unfold foldD flowF
  rw [List.length_map]
  cases l with
  | nil => rfl
  | cons t r =>
    simp only [List.map_cons, foldG, trims, trimG_plain, map_plain_fst, flowGo_first]
    rw [if_neg (fun h => by cases h.2.2.1), foldG_plain _ r 1 0 (by simp; omega)]
    simp
theorem readD_plain {l : List (List Int)} (h : ∀ t ∈ l, ∀ c ∈ t, ¬ c = 92) : readD l = (flowF l, 0) := by
  rw [readD_ok (by rw [linesD_plain h]), linesD_plain h, foldD_plain]
/-! ### Escapes of one sign -/
def fromL : List Int := [48, 97, 98, 116, 9, 110, 118, 102, 114, 101, 32, 34, 47, 92, 78, 95, 76, 80]
def toL : List Int := [0, 7, 8, 9, 9, 10, 11, 12, 13, 27, 32, 34, 47, 92, 133, 160, 8232, 8233]
theorem short_at {i : Nat} {c : Int} (h : i < 18) (e : fromL.getD i 0 = c) : shortI c = (toL.getD i 0, true) := by
  subst e
  have : ∀ i : Fin 18, shortI (fromL.getD i.1 0) = (toL.getD i.1 0, true) := by decide
  exact this ⟨i, h⟩
theorem short_none {c : Int} (h : ∀ i, i < 18 → ¬ fromL.getD i 0 = c) : shortI c = (0, false) := by
  have g : ∀ (k : Nat) (d : Int), k < 18 → fromL.getD k 0 = d → ¬ c = d := fun k d hk hd e => h k hk (by rw [hd, e])
  have h0 := g 0 48 (by decide) rfl
  have h1 := g 1 97 (by decide) rfl
  have h2 := g 2 98 (by decide) rfl
  have h3 := g 3 116 (by decide) rfl
  have h4 := g 4 9 (by decide) rfl
  have h5 := g 5 110 (by decide) rfl
  have h6 := g 6 118 (by decide) rfl
  have h7 := g 7 102 (by decide) rfl
  have h8 := g 8 114 (by decide) rfl
  have h9 := g 9 101 (by decide) rfl
  have ha := g 10 32 (by decide) rfl
  have hb := g 11 34 (by decide) rfl
  have hc := g 12 47 (by decide) rfl
  have hd := g 13 92 (by decide) rfl
  have he := g 14 78 (by decide) rfl
  have hf := g 15 95 (by decide) rfl
  have hg := g 16 76 (by decide) rfl
  have hh := g 17 80 (by decide) rfl
  simp only [shortI, *, if_false, false_or]
theorem flowD_one (t : List (Int × Bool)) (j : Bool) : foldD [(t, j)] = t.map (·.1) := by
  simp [foldD, foldG, trimG, backG, frontG]
theorem readD_one {t : List Int} {x : List (Int × Bool) × Bool × Int} (h : readLine true t = x) : readD [t] = if x.2.2 = 0 then (x.1.map (·.1), 0) else ([], x.2.2) := by
  unfold readD
  simp only [linesD, List.isEmpty_nil, h]
  by_cases hx : x.2.2 = 0
  · simp [hx, flowD_one]
  · simp [hx]
theorem names_yes {c d : Int} (h : shortI c = (d, true)) : readD [[97, 92, c, 98]] = ([97, d, 98], 0) := by
  rw [readD_one (x := ([(97, false), (d, true), (98, false)], false, 0)) (by simp [readLine, readGo, escI, h])]
  simp
theorem names_no {c d : Int} (h : shortI c = (d, false)) (h2 : longI c = 0) : readD [[97, 92, c, 98]] = ([], 2) := by
  rw [readD_one (x := ([], false, 2)) (by simp [readLine, readGo, escI, h, h2])]
  simp
end Go.Abs
