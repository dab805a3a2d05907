/-
  Plain specifications for chapter 7: texts between double quotes. No program in sight.
-/
import Derived.Test.YthnlcdcfbgfncaaSc
import Derived.Test.YthnlcdcfbgfncaaSf
import Derived.Test.YthnlcdcfbgfncaaSm
namespace Go.Abs
set_option linter.unusedSimpArgs false
set_option linter.unusedVariables false
/-- Where a text's quote is closed. -/
def endD : Nat → List Int → Int × Bool
  | _, [] => (0, false)
  | k, [c] => if c = 34 then (k, true) else (0, false)
  | k, c :: d :: r => if c = 92 then endD (k + 2) r else if c = 34 then (k, true) else endD (k + 1) (d :: r)
theorem endD_at_esc {l : List Int} {k n : Nat} (h : k < l.length) (h1 : l.getD k 0 = 92) : endD n (l.drop k) = endD (n + 2) (l.drop (k + 2)) := by
  rw [drop_getD h, h1]
  by_cases hk : k + 1 < l.length
  · rw [drop_getD hk]; simp only [endD]; rw [if_pos trivial]
  · rw [List.drop_eq_nil_of_le (show l.length ≤ k + 1 by omega), List.drop_eq_nil_of_le (show l.length ≤ k + 2 by omega)]; simp [endD]
theorem endD_at_end {l : List Int} {k n : Nat} (h : k < l.length) (h1 : l.getD k 0 = 34) : endD n (l.drop k) = ((n : Int), true) := by
  rw [drop_getD h, h1]
  by_cases hk : k + 1 < l.length
  · rw [drop_getD hk]; simp only [endD]; rw [if_neg (by decide), if_pos trivial]
  · rw [List.drop_eq_nil_of_le (show l.length ≤ k + 1 by omega)]; simp [endD]
theorem endD_at_no {l : List Int} {k n : Nat} (h : k < l.length) (h1 : ¬ l.getD k 0 = 92) (h2 : ¬ l.getD k 0 = 34) : endD n (l.drop k) = endD (n + 1) (l.drop (k + 1)) := by
  rw [drop_getD h]
  by_cases hk : k + 1 < l.length
  · rw [drop_getD hk]; simp only [endD]; rw [if_neg h1, if_neg h2]
  · rw [List.drop_eq_nil_of_le (show l.length ≤ k + 1 by omega)]; simp only [endD]; rw [if_neg h2]
theorem endD_nil {n : Nat} : endD n [] = (0, false) := rfl
/-- A sign: a code point, and whether it stood as an escape. -/
abbrev SGA (x : Int × Bool) : AV := .agg [I x.1, B x.2]
abbrev SG (o : Option (Option (Nat × Nat))) (l : List (Int × Bool)) : AV := .sl 2 o (l.map SGA)
theorem goodSG (l : List (Int × Bool)) : goodL (l.map SGA) = true := by
  unfold goodL
  rw [List.all_map, List.all_eq_true]
  intro x _
  rfl
theorem getG {l : List (Int × Bool)} {k : Nat} (h : k < l.length) : (l.map SGA).getD k .any = SGA (l.getD k (0, false)) := by
  simp [List.getD_eq_getElem?_getD, h]
def softG (x : Int × Bool) : Bool := !x.2 && blankI x.1
def shortI (c : Int) : Int × Bool :=
  if c = 48 then (0, true) else if c = 97 then (7, true) else if c = 98 then (8, true) else if c = 116 ∨ c = 9 then (9, true) else if c = 110 then (10, true)
  else if c = 118 then (11, true) else if c = 102 then (12, true) else if c = 114 then (13, true) else if c = 101 then (27, true) else if c = 32 ∨ c = 34 ∨ c = 47 ∨ c = 92 then (c, true)
  else if c = 78 then (133, true) else if c = 95 then (160, true) else if c = 76 then (8232, true) else if c = 80 then (8233, true) else (0, false)
def longI (c : Int) : Nat := if c = 120 then 2 else if c = 117 then 4 else if c = 85 then 8 else 0
theorem longI_le (c : Int) : longI c ≤ 8 := by unfold longI; (repeat' split) <;> omega
def numGo : Int → List Int → Option Int
  | a, [] => some a
  | a, d :: r => if hexI d < 0 then none else numGo (a * 16 + hexI d) r
def numEnd : Option Int → Int × Int
  | none => (0, 2)
  | some c => if rightI c then (c, 0) else (0, 4)
def numberI (l : List Int) (n : Nat) : Int × Int := if l.length < n then (0, 2) else numEnd (numGo 0 (l.take n))
theorem dwg_step {α : Type} {p : α → Bool} {d : α} : ∀ {l : List α}, 0 < l.length → p (l.getD 0 d) = true → l.dropWhile p = (l.drop 1).dropWhile p
  | [], h, _ => by simp at h
  | x :: l, _, h => by
    have : p x = true := by simpa using h
    simp [List.dropWhile_cons, this]
theorem dwg_stop {α : Type} {p : α → Bool} {d : α} : ∀ {l : List α}, 0 < l.length → p (l.getD 0 d) = false → l.dropWhile p = l
  | [], h, _ => by simp at h
  | x :: l, _, h => by
    have : p x = false := by simpa using h
    simp [List.dropWhile_cons, this]
theorem take_last {α : Type} {d : α} {l : List α} (h : 0 < l.length) : l = l.take (l.length - 1) ++ [l.getD (l.length - 1) d] := by
  have h2 : l.length - 1 < l.length := by omega
  conv => lhs; rw [← List.take_length (l := l), show l.length = l.length - 1 + 1 by omega]
  rw [List.take_succ_eq_append_getElem h2, List.getD_eq_getElem?_getD, List.getElem?_eq_getElem h2]
  rfl
theorem bkg_step {α : Type} {p : α → Bool} {d : α} {l : List α} (h : 0 < l.length) (hb : p (l.getD (l.length - 1) d) = true) : (l.reverse.dropWhile p).reverse = ((l.take (l.length - 1)).reverse.dropWhile p).reverse := by
  conv => lhs; rw [take_last (d := d) h]
  rw [List.reverse_append]
  simp only [List.reverse_cons, List.reverse_nil, List.nil_append, List.cons_append, List.dropWhile_cons, hb, if_true]
theorem bkg_stop {α : Type} {p : α → Bool} {d : α} {l : List α} (h : 0 < l.length) (hb : p (l.getD (l.length - 1) d) = false) : (l.reverse.dropWhile p).reverse = l := by
  conv => lhs; rw [take_last (d := d) h]
  rw [List.reverse_append]
  simp only [List.reverse_cons, List.reverse_nil, List.nil_append, List.cons_append, List.dropWhile_cons, hb, Bool.false_eq_true, if_false]
  rw [List.reverse_reverse]
  exact (take_last h).symm
def escI (l : List Int) : Int × Int × Int :=
  match l with
  | [] => (0, 0, 2)
  | c :: r => if (shortI c).2 then ((shortI c).1, 1, 0) else if longI c = 0 then (0, 0, 2) else ((numberI r (longI c)).1, (longI c : Int) + 1, (numberI r (longI c)).2)
theorem escI_def {l : List Int} (h : 0 < l.length) : escI l = if (shortI (l.getD 0 0)).2 then ((shortI (l.getD 0 0)).1, 1, 0) else if longI (l.getD 0 0) = 0 then (0, 0, 2) else ((numberI (l.drop 1) (longI (l.getD 0 0))).1, (longI (l.getD 0 0) : Int) + 1, (numberI (l.drop 1) (longI (l.getD 0 0))).2) := by
  cases l with
  | nil => simp at h
  | cons c r => rfl
theorem escI_nil {l : List Int} (h : l.length = 0) : escI l = (0, 0, 2) := by
  obtain rfl := List.eq_nil_of_length_eq_zero h
  rfl
theorem numGo_at {m : List Int} {a : Int} {k : Nat} (h : k < m.length) : numGo a (m.drop k) = if hexI (m.getD k 0) < 0 then none else numGo (a * 16 + hexI (m.getD k 0)) (m.drop (k + 1)) := by
  rw [drop_getD h]; rfl
theorem pow16 {k : Nat} (h : k ≤ 8) : 2 ^ (4 * k) ≤ 4294967296 ∧ 2 ^ (4 * (k + 1)) = 16 * 2 ^ (4 * k) := by
  refine ⟨Nat.le_trans (Nat.pow_le_pow_right (by decide) (show 4 * k ≤ 32 by omega)) (by decide), ?_⟩
  rw [show 4 * (k + 1) = 4 * k + 4 by omega, Nat.pow_add]; omega
theorem escI_n (l : List Int) : 0 ≤ (escI l).2.1 ∧ (escI l).2.1 ≤ 9 := by
  unfold escI
  split
  · decide
  · rename_i c r
    have := longI_le c
    (repeat' split) <;> (try simp only) <;> omega
/-- A line's signs, whether it goes on without its end, and the error. -/
def readGo (last : Bool) : Nat → List (Int × Bool) → List Int → List (Int × Bool) × Bool × Int
  | 0, acc, _ => (acc, false, 0)
  | _ + 1, acc, [] => (acc, false, 0)
  | f + 1, acc, c :: r =>
    if ¬ c = 92 then readGo last f (acc ++ [(c, false)]) r
    else if r = [] ∧ last = false then (acc, true, 0)
    else if ¬ (escI r).2.2 = 0 then ([], false, (escI r).2.2)
    else readGo last f (acc ++ [((escI r).1, true)]) (r.drop (escI r).2.1.toNat)
def readLine (last : Bool) (l : List Int) : List (Int × Bool) × Bool × Int := readGo last l.length [] l
theorem readGo_len (last : Bool) : ∀ (f : Nat) (acc : List (Int × Bool)) (l : List Int), (readGo last f acc l).1.length ≤ acc.length + l.length
  | 0, acc, l => by simp [readGo]
  | f + 1, acc, [] => by simp [readGo]
  | f + 1, acc, c :: r => by
    have h1 := readGo_len last f (acc ++ [(c, false)]) r
    have h2 := readGo_len last f (acc ++ [((escI r).1, true)]) (r.drop (escI r).2.1.toNat)
    simp only [List.length_append, List.length_cons, List.length_nil, List.length_drop] at h1 h2 ⊢
    unfold readGo
    (repeat' split)
    all_goals first | omega | (simp; done) | (simp; omega)
theorem readLine_len (last : Bool) (l : List Int) : (readLine last l).1.length ≤ l.length := by
  have := readGo_len last l.length [] l
  simpa [readLine] using this
theorem readGo_fuel (last : Bool) : ∀ (f f' : Nat) (acc : List (Int × Bool)) (l : List Int), l.length ≤ f → l.length ≤ f' → readGo last f acc l = readGo last f' acc l
  | 0, 0, _, _, _, _ => rfl
  | 0, f' + 1, acc, l, h, _ => by
    obtain rfl := List.eq_nil_of_length_eq_zero (by omega : l.length = 0)
    rfl
  | f + 1, 0, acc, l, _, h => by
    obtain rfl := List.eq_nil_of_length_eq_zero (by omega : l.length = 0)
    rfl
  | f + 1, f' + 1, acc, [], _, _ => rfl
  | f + 1, f' + 1, acc, c :: r, h, h' => by
    simp only [List.length_cons] at h h'
    have h1 := readGo_fuel last f f' (acc ++ [(c, false)]) r (by omega) (by omega)
    have h2 := readGo_fuel last f f' (acc ++ [((escI r).1, true)]) (r.drop (escI r).2.1.toNat) (by simp; omega) (by simp; omega)
    unfold readGo
    rw [h1, h2]
/-- At a place: fuel as much as there is left. -/
def readAt (last : Bool) (l : List Int) (acc : List (Int × Bool)) (k : Nat) : List (Int × Bool) × Bool × Int := readGo last (l.length - k) acc (l.drop k)
theorem readAt_end {last : Bool} {l : List Int} {acc : List (Int × Bool)} {k : Nat} (h : l.length ≤ k) : readAt last l acc k = (acc, false, 0) := by
  unfold readAt; rw [show l.length - k = 0 by omega]; rfl
theorem readAt_plain {last : Bool} {l : List Int} {acc : List (Int × Bool)} {k : Nat} (h : k < l.length) (h1 : ¬ l.getD k 0 = 92) : readAt last l acc k = readAt last l (acc ++ [(l.getD k 0, false)]) (k + 1) := by
  unfold readAt
  rw [show l.length - k = (l.length - (k + 1)) + 1 by omega, drop_getD h]
  simp only [readGo]
  rw [if_pos h1]
theorem readAt_join {last : Bool} {l : List Int} {acc : List (Int × Bool)} {k : Nat} (h : k + 1 = l.length) (h1 : l.getD k 0 = 92) (h2 : last = false) : readAt last l acc k = (acc, true, 0) := by
  unfold readAt
  rw [show l.length - k = (l.length - (k + 1)) + 1 by omega, drop_getD (show k < l.length by omega)]
  simp only [readGo]
  rw [if_neg (by simpa using h1), if_pos ⟨List.drop_eq_nil_of_le (by omega), h2⟩]
theorem readAt_bad {last : Bool} {l : List Int} {acc : List (Int × Bool)} {k : Nat} (h : k < l.length) (h1 : l.getD k 0 = 92) (h2 : ¬ (k + 1 = l.length ∧ last = false)) (h3 : ¬ (escI (l.drop (k + 1))).2.2 = 0) : readAt last l acc k = ([], false, (escI (l.drop (k + 1))).2.2) := by
  unfold readAt
  rw [show l.length - k = (l.length - (k + 1)) + 1 by omega, drop_getD h]
  simp only [readGo]
  rw [if_neg (by simpa using h1), if_neg (fun e => h2 ⟨by have := e.1; simp at this; omega, e.2⟩), if_pos h3]
theorem readAt_esc {last : Bool} {l : List Int} {acc : List (Int × Bool)} {k : Nat} {n : Nat} (h : k < l.length) (h1 : l.getD k 0 = 92) (h2 : ¬ (k + 1 = l.length ∧ last = false)) (h3 : (escI (l.drop (k + 1))).2.2 = 0) (hn : (escI (l.drop (k + 1))).2.1 = (n : Int)) : readAt last l acc k = readAt last l (acc ++ [((escI (l.drop (k + 1))).1, true)]) (k + 1 + n) := by
  unfold readAt
  rw [show l.length - k = (l.length - (k + 1)) + 1 by omega, drop_getD h]
  simp only [readGo]
  rw [if_neg (by simpa using h1), if_neg (fun e => h2 ⟨by have := e.1; simp at this; omega, e.2⟩), if_neg (by simpa using h3), hn]
  rw [Int.toNat_natCast, List.drop_drop]
  exact readGo_fuel last _ _ _ _ (by simp; omega) (by simp)
/-- What joins two lines. -/
def frontG (b : Bool) (t : List (Int × Bool)) : List (Int × Bool) := if b then t.dropWhile softG else t
def backG (b : Bool) (t : List (Int × Bool)) : List (Int × Bool) := if b then (t.reverse.dropWhile softG).reverse else t
def trimG (i n : Nat) (x : List (Int × Bool) × Bool) : List (Int × Bool) := backG (decide (i + 1 < n) && !x.2) (frontG (decide (0 < i)) x.1)
def foldG (n : Nat) : Nat → Bool → Nat → List (List (Int × Bool) × Bool) → List Int
  | _, _, _, [] => []
  | i, j, e, x :: r =>
    if trimG i n x = [] ∧ x.2 = false ∧ j = false ∧ i + 1 < n then foldG n (i + 1) j (e + 1) r
    else (if j = false ∧ e = 0 then [32] else []) ++ List.replicate e 10 ++ (trimG i n x).map (·.1) ++ foldG n (i + 1) x.2 0 r
def foldD (l : List (List (Int × Bool) × Bool)) : List Int := foldG l.length 0 true 0 l
/-- The lines' signs, or the first error. -/
def linesD : List (List Int) → List (List (Int × Bool) × Bool) × Int
  | [] => ([], 0)
  | t :: r => let x := readLine r.isEmpty t
    if ¬ x.2.2 = 0 then ([], x.2.2) else if ¬ (linesD r).2 = 0 then ([], (linesD r).2) else ((x.1, x.2.1) :: (linesD r).1, 0)
def readD (l : List (List Int)) : List Int × Int := if ¬ (linesD l).2 = 0 then ([], (linesD l).2) else (foldD (linesD l).1, 0)
/-! ### Lines -/
abbrev LNA (x : List (Int × Bool) × Bool) : AV := .agg [SG none x.1, B x.2]
abbrev LLA (o : Option (Option (Nat × Nat))) (l : List (List (Int × Bool) × Bool)) : AV := .sl 2 o (l.map LNA)
theorem getLNA {l : List (List (Int × Bool) × Bool)} {k : Nat} (h : k < l.length) : (l.map LNA).getD k .any = LNA (l.getD k ([], false)) := by
  simp [List.getD_eq_getElem?_getD, h]
def totG (l : List (List (Int × Bool) × Bool)) : Nat := (l.map fun t => t.1.length + 1).sum
theorem totG_len (l : List (List (Int × Bool) × Bool)) : l.length ≤ totG l := by
  induction l with
  | nil => simp [totG]
  | cons x r ih => simp only [totG, List.map_cons, List.sum_cons, List.length_cons] at *; omega
theorem totG_get {l : List (List (Int × Bool) × Bool)} (k : Nat) : (l.getD k ([], false)).1.length ≤ totG l := by
  induction l generalizing k with
  | nil => simp [totG]
  | cons x r ih =>
    cases k with
    | zero => simp [totG]; omega
    | succ k => have := ih k; simp only [totG, List.map_cons, List.sum_cons, List.getD_cons_succ] at *; omega
theorem backG_le (b : Bool) (t : List (Int × Bool)) : (backG b t).length ≤ t.length := by
  unfold backG
  split
  · have := (List.dropWhile_suffix softG (l := t.reverse)).length_le
    simpa using this
  · exact Nat.le_refl _
theorem frontG_le (b : Bool) (t : List (Int × Bool)) : (frontG b t).length ≤ t.length := by
  unfold frontG
  split
  · exact (List.dropWhile_suffix softG).length_le
  · exact Nat.le_refl _
theorem trimG_le (i n : Nat) (x : List (Int × Bool) × Bool) : (trimG i n x).length ≤ x.1.length := Nat.le_trans (backG_le _ _) (frontG_le _ _)
theorem foldG_len (n : Nat) : ∀ (l : List (List (Int × Bool) × Bool)) (i : Nat) (j : Bool) (e : Nat), (foldG n i j e l).length ≤ e + totG l
  | [], i, j, e => by simp [foldG]
  | x :: r, i, j, e => by
    have h1 := foldG_len n r (i + 1) j (e + 1)
    have h2 := foldG_len n r (i + 1) x.2 0
    have h3 := trimG_le i n x
    simp only [totG, List.map_cons, List.sum_cons] at *
    unfold foldG
    split
    · omega
    · simp only [List.length_append, List.length_replicate, List.length_map]
      split <;> simp <;> omega
theorem foldD_len (l : List (List (Int × Bool) × Bool)) : (foldD l).length ≤ totG l := by have := foldG_len l.length l 0 true 0; unfold foldD; omega
theorem drop_getG {l : List (List (Int × Bool) × Bool)} {k : Nat} (h : k < l.length) : l.drop k = l.getD k ([], false) :: l.drop (k + 1) := by
  rw [List.drop_eq_getElem_cons h]
  simp [List.getD_eq_getElem?_getD, h]
theorem foldG_skip {n i : Nat} {j : Bool} {e : Nat} {l : List (List (Int × Bool) × Bool)} {T : List (Int × Bool)} (h : i < l.length) (hT : trimG i n (l.getD i ([], false)) = T) (h1 : T.length = 0) (h2 : (l.getD i ([], false)).2 = false) (h3 : j = false) (h4 : i + 1 < n) :
    foldG n i j e (l.drop i) = foldG n (i + 1) j (e + 1) (l.drop (i + 1)) := by
  rw [drop_getG h]
  simp only [foldG]
  rw [if_pos ⟨by rw [hT]; exact List.eq_nil_of_length_eq_zero h1, h2, h3, h4⟩]
theorem foldG_take {n i : Nat} {j : Bool} {e : Nat} {l : List (List (Int × Bool) × Bool)} {T : List (Int × Bool)} {s : List Int} (h : i < l.length) (hT : trimG i n (l.getD i ([], false)) = T) (h1 : ¬ (T.length = 0 ∧ (l.getD i ([], false)).2 = false ∧ j = false ∧ i + 1 < n))
    (hs : s = if j = false ∧ e = 0 then [32] else []) : foldG n i j e (l.drop i) = s ++ List.replicate e 10 ++ T.map (·.1) ++ foldG n (i + 1) (l.getD i ([], false)).2 0 (l.drop (i + 1)) := by
  rw [drop_getG h]
  simp only [foldG]
  rw [if_neg (fun e => h1 ⟨by rw [← hT, e.1]; rfl, e.2⟩), hT, hs]
theorem mapfst_take {T : List (Int × Bool)} {m : Nat} (h : m < T.length) : (T.take (m + 1)).map (·.1) = (T.take m).map (·.1) ++ [(T.getD m (0, false)).1] := by
  rw [List.take_succ_eq_append_getElem h, List.map_append, List.getD_eq_getElem?_getD, List.getElem?_eq_getElem h]
  rfl
theorem linesD_bad {t : List Int} {r : List (List Int)} (h : ¬ (readLine r.isEmpty t).2.2 = 0) : linesD (t :: r) = ([], (readLine r.isEmpty t).2.2) := by
  simp only [linesD]; rw [if_pos h]
theorem linesD_ok {t : List Int} {r : List (List Int)} (h : (readLine r.isEmpty t).2.2 = 0) : (linesD (t :: r)).2 = (linesD r).2 ∧ ((linesD r).2 = 0 → (linesD (t :: r)).1 = ((readLine r.isEmpty t).1, (readLine r.isEmpty t).2.1) :: (linesD r).1) := by
  simp only [linesD]
  rw [if_neg (by simpa using h)]
  split
  · rename_i h2; exact ⟨rfl, fun h3 => (h2 h3).elim⟩
  · rename_i h2; exact ⟨by simp only [Decidable.not_not] at h2; exact h2.symm, fun _ => rfl⟩
theorem linesD_tot : ∀ l : List (List Int), totG (linesD l).1 ≤ tot l
  | [] => by simp [linesD, totG]
  | t :: r => by
    have h1 := linesD_tot r
    have h2 := readLine_len r.isEmpty t
    simp only [tot, totG, List.map_cons, List.sum_cons] at *
    simp only [linesD]
    (repeat' split) <;> simp <;> omega
theorem last_at {l : List (List Int)} {i : Nat} (h : i < l.length) : (((i : Int) + 1) == (l.length : Int)) = (l.drop (i + 1)).isEmpty := by
  rw [Bool.eq_iff_iff, beq_iff_eq, List.isEmpty_iff, List.drop_eq_nil_iff]
  omega
theorem readD_bad {l : List (List Int)} {e : Int} (h : (linesD l).2 = e) (h0 : ¬ e = 0) : readD l = ([], e) := by unfold readD; rw [h, if_pos h0]
theorem readD_ok {l : List (List Int)} (h : (linesD l).2 = 0) : readD l = (foldD (linesD l).1, 0) := by unfold readD; rw [h, if_neg (by decide)]
theorem goodLNA (l : List (List (Int × Bool) × Bool)) : goodL (l.map LNA) = true := by
  unfold goodL
  rw [List.all_map, List.all_eq_true]
  intro x _
  rfl
end Go.Abs
