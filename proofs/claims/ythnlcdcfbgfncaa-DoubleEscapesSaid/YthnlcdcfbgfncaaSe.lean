/-
  Plain facts for chapter 7's laws. No program in sight.
-/
import Derived.Test.YthnlcdcfbgfncaaSd
namespace Go.Abs
set_option linter.unusedSimpArgs false
set_option linter.unusedVariables false
/-! ### Texts without escapes -/
def plainG (c : Int) : Int × Bool := (c, false)
theorem readGo_plain (last : Bool) : ∀ (f : Nat) (acc : List (Int × Bool)) (l : List Int), l.length ≤ f → (∀ c ∈ l, ¬ c = 92) → readGo last f acc l = (acc ++ l.map plainG, false, 0)
  | 0, acc, l, h, _ => by
    obtain rfl := List.eq_nil_of_length_eq_zero (by omega : l.length = 0)
    simp [readGo]
  | f + 1, acc, [], _, _ => by simp [readGo]
  | f + 1, acc, c :: r, h, hc => by
    simp only [readGo]
    rw [if_pos (hc c (by simp)), readGo_plain last f _ r (by simpa using h) (fun x hx => hc x (by simp [hx]))]
    simp [plainG]
theorem readLine_plain {last : Bool} {l : List Int} (h : ∀ c ∈ l, ¬ c = 92) : readLine last l = (l.map plainG, false, 0) := by
  unfold readLine
  rw [readGo_plain last _ _ _ (Nat.le_refl _) h]; rfl
theorem linesD_plain : ∀ {l : List (List Int)}, (∀ t ∈ l, ∀ c ∈ t, ¬ c = 92) → linesD l = (l.map (fun t => (t.map plainG, false)), 0)
  | [], _ => rfl
  | t :: r, h => by
    simp only [linesD]
    rw [readLine_plain (h t (by simp)), linesD_plain (fun x hx => h x (by simp [hx]))]
    simp
theorem soft_plain (c : Int) : softG (plainG c) = blankI c := by simp [softG, plainG]
theorem dw_plain (t : List Int) : (t.map plainG).dropWhile softG = (t.dropWhile blankI).map plainG := by
  induction t with
  | nil => rfl
  | cons c r ih =>
    rw [List.map_cons, List.dropWhile_cons, List.dropWhile_cons, soft_plain]
    split
    · exact ih
    · rfl
theorem back_plain (t : List Int) : ((t.map plainG).reverse.dropWhile softG).reverse = (backI t).map plainG := by
  rw [← List.map_reverse, dw_plain, ← List.map_reverse]; rfl
theorem trimG_plain (i n : Nat) (t : List Int) : trimG i n (t.map plainG, false) = (trimAt n i t).map plainG := by
  unfold trimG trimAt backG frontG
  by_cases h1 : 0 < i <;> by_cases h2 : i + 1 < n <;> simp [h1, h2, dw_plain, back_plain]
theorem map_plain_fst (t : List Int) : (t.map plainG).map (·.1) = t := by rw [List.map_map]; exact List.map_id t
theorem map_plain_nil (t : List Int) : t.map plainG = [] ↔ t = [] := by simp
theorem between_sep (e : Nat) : (if e = 0 then [(32 : Int)] else []) ++ List.replicate e 10 = between e := by
  unfold between
  split
  · rename_i h; rw [h]; rfl
  · rfl
theorem foldG_plain (n : Nat) : ∀ (l : List (List Int)) (i e : Nat), n = i + l.length → foldG n i false e (l.map (fun t => (t.map plainG, false))) = flowGo false e (trims n i l)
  | [], i, e, _ => rfl
  | t :: r, i, e, h => by
    simp only [List.length_cons] at h
    have hr : (i + 1 < n) ↔ trims n (i + 1) r ≠ [] := by
      rw [Ne, ← List.length_eq_zero_iff, trims_len]; omega
    simp only [List.map_cons, foldG, trims, trimG_plain, map_plain_nil, map_plain_fst]
    by_cases hs : trimAt n i t = [] ∧ i + 1 < n
    · rw [if_pos ⟨hs.1, trivial, trivial, hs.2⟩, flowGo_empty hs.1 (hr.1 hs.2), foldG_plain n r (i + 1) (e + 1) (by omega)]
    · rw [if_neg (fun h2 => hs ⟨h2.1, h2.2.2.2⟩), flowGo_cons (fun h2 => hs ⟨h2.1, hr.2 h2.2⟩), foldG_plain n r (i + 1) 0 (by omega)]
      simp only [true_and]
      rw [← between_sep e]
theorem foldD_plain (l : List (List Int)) : foldD (l.map (fun t => (t.map plainG, false))) = flowF l := by
  unfold foldD flowF
  rw [List.length_map]
  cases l with
  | nil => rfl
  | cons t r =>
    simp only [List.map_cons, foldG, trims, trimG_plain, map_plain_fst, flowGo_first]
    rw [if_neg (fun h => by cases h.2.2.1), foldG_plain _ r 1 0 (by simp; omega)]
    simp
theorem readD_plain {l : List (List Int)} (h : ∀ t ∈ l, ∀ c ∈ t, ¬ c = 92) : readD l = (flowF l, 0) := by
  rw [readD_ok (by rw [linesD_plain h]), linesD_plain h, foldD_plain]
/-! ### Escapes of one sign -/
def fromL : List Int := [48, 97, 98, 116, 9, 110, 118, 102, 114, 101, 32, 34, 47, 92, 78, 95, 76, 80]
def toL : List Int := [0, 7, 8, 9, 9, 10, 11, 12, 13, 27, 32, 34, 47, 92, 133, 160, 8232, 8233]
theorem short_at {i : Nat} {c : Int} (h : i < 18) (e : fromL.getD i 0 = c) : shortI c = (toL.getD i 0, true) := by
  subst e
  have : ∀ i : Fin 18, shortI (fromL.getD i.1 0) = (toL.getD i.1 0, true) := by decide
  exact this ⟨i, h⟩
theorem short_none {c : Int} (h : ∀ i, i < 18 → ¬ fromL.getD i 0 = c) : shortI c = (0, false) := by
  have g : ∀ (k : Nat) (d : Int), k < 18 → fromL.getD k 0 = d → ¬ c = d := fun k d hk hd e => h k hk (by rw [hd, e])
  have h0 := g 0 48 (by decide) rfl
  have h1 := g 1 97 (by decide) rfl
  have h2 := g 2 98 (by decide) rfl
  have h3 := g 3 116 (by decide) rfl
  have h4 := g 4 9 (by decide) rfl
  have h5 := g 5 110 (by decide) rfl
  have h6 := g 6 118 (by decide) rfl
  have h7 := g 7 102 (by decide) rfl
  have h8 := g 8 114 (by decide) rfl
  have h9 := g 9 101 (by decide) rfl
  have ha := g 10 32 (by decide) rfl
  have hb := g 11 34 (by decide) rfl
  have hc := g 12 47 (by decide) rfl
  have hd := g 13 92 (by decide) rfl
  have he := g 14 78 (by decide) rfl
  have hf := g 15 95 (by decide) rfl
  have hg := g 16 76 (by decide) rfl
  have hh := g 17 80 (by decide) rfl
  simp only [shortI, *, if_false, false_or]
theorem flowD_one (t : List (Int × Bool)) (j : Bool) : foldD [(t, j)] = t.map (·.1) := by
  simp [foldD, foldG, trimG, backG, frontG]
theorem readD_one {t : List Int} {x : List (Int × Bool) × Bool × Int} (h : readLine true t = x) : readD [t] = if x.2.2 = 0 then (x.1.map (·.1), 0) else ([], x.2.2) := by
  unfold readD
  simp only [linesD, List.isEmpty_nil, h]
  by_cases hx : x.2.2 = 0
  · simp [hx, flowD_one]
  · simp [hx]
theorem names_yes {c d : Int} (h : shortI c = (d, true)) : readD [[97, 92, c, 98]] = ([97, d, 98], 0) := by
  rw [readD_one (x := ([(97, false), (d, true), (98, false)], false, 0)) (by simp [readLine, readGo, escI, h])]
  simp
theorem names_no {c d : Int} (h : shortI c = (d, false)) (h2 : longI c = 0) : readD [[97, 92, c, 98]] = ([], 2) := by
  rw [readD_one (x := ([], false, 2)) (by simp [readLine, readGo, escI, h, h2])]
  simp
/-! ### Escapes of digits -/
theorem esc_short {s : Int} {n : Nat} {D : List Int} (h : (shortI s).2 = false) (hl : longI s = n) (hn : 0 < n) (hD : D.length < n) : readD [120 :: 92 :: s :: D] = ([], 2) := by
  have hn2 : ¬ n = 0 := by omega
  rw [readD_one (x := ([], false, 2)) (by simp [readLine, readGo, escI, h, hl, hn2, numberI, hD])]
  simp
theorem esc_full {s c : Int} {n : Nat} {D : List Int} (h : (shortI s).2 = false) (hl : longI s = n) (hn : 0 < n) (hD : D.length = n) (hg : numGo 0 D = some c) : readD [120 :: 92 :: s :: (D ++ [121])] = if rightI c then ([120, c, 121], 0) else ([], 4) := by
  have hn2 : ¬ n = 0 := by omega
  have ht : (D ++ [121]).take n = D := by rw [← hD]; simp
  have hu : numberI (D ++ [121]) n = numEnd (some c) := by
    unfold numberI
    rw [if_neg (by simp; omega), ht, hg]
  have he : escI (s :: (D ++ [121])) = ((numEnd (some c)).1, (n : Int) + 1, (numEnd (some c)).2) := by
    simp only [escI, h, hl, hu]
    rw [if_neg (by decide), if_neg hn2]
  have hd : (s :: (D ++ [121])).drop ((n : Int) + 1).toNat = [121] := by
    rw [show ((n : Int) + 1).toNat = n + 1 by omega, List.drop_succ_cons, ← hD]; simp
  by_cases hr : rightI c = true
  · rw [readD_one (x := ([(120, false), (c, true), (121, false)], false, 0)) ?_]
    · simp [hr]
    · simp only [readLine, List.length_cons, readGo, he, hd, numEnd, hr, if_true]
      simp [readGo]
  · rw [readD_one (x := ([], false, 4)) ?_]
    · simp [hr]
    · simp only [readLine, List.length_cons, readGo, he, hd, numEnd, hr]
      simp
def hexD (up : Bool) (x : Int) : Int := if x < 10 then 48 + x else if up then 55 + x else 87 + x
theorem hexD_le {up : Bool} {x : Int} (h : 0 ≤ x) (h2 : x < 16) : 48 ≤ hexD up x ∧ hexD up x ≤ 102 := by unfold hexD; (repeat' split) <;> omega
theorem hexI_hexD {up : Bool} {x : Int} (h : 0 ≤ x) (h2 : x < 16) : hexI (hexD up x) = x := by
  unfold hexD
  cases up
  all_goals (repeat' split) <;> (unfold hexI; (repeat' split) <;> first | omega | contradiction)
def digs (up : Bool) (c : Int) : Nat → List Int
  | 0 => []
  | n + 1 => hexD up (c / 2 ^ (4 * n) % 16) :: digs up c n
theorem digs_len (up : Bool) (c : Int) (n : Nat) : (digs up c n).length = n := by induction n with | zero => rfl | succ n ih => simp [digs, ih]
theorem pow4 (n : Nat) : (2 : Int) ^ (4 * (n + 1)) = 16 * 2 ^ (4 * n) := by
  rw [show 4 * (n + 1) = 4 * n + 4 by omega, Int.pow_add]; omega
theorem pow4_pos (n : Nat) : (0 : Int) < 2 ^ (4 * n) := Int.pow_pos (by decide)
theorem numGo_digs {up : Bool} {c : Int} (hc : 0 ≤ c) : ∀ (n : Nat) (a : Int), numGo a (digs up c n) = some (a * 2 ^ (4 * n) + c % 2 ^ (4 * n))
  | 0, a => by simp [digs, numGo, Int.emod_one]
  | n + 1, a => by
    have hx : 0 ≤ c / 2 ^ (4 * n) % 16 ∧ c / 2 ^ (4 * n) % 16 < 16 := by omega
    simp only [digs, numGo, hexI_hexD hx.1 hx.2]
    rw [if_neg (by omega), numGo_digs hc n, pow4]
    congr 1
    have hp := pow4_pos n
    generalize (2 : Int) ^ (4 * n) = p at *
    have e1 : c % (16 * p) = p * (c / p % 16) + c % p := by
      have h1 := Int.emod_add_mul_ediv c p
      have h2 := Int.emod_add_mul_ediv (c / p) 16
      have h3 : 0 ≤ c % p ∧ c % p < p := ⟨Int.emod_nonneg _ (by omega), Int.emod_lt_of_pos _ hp⟩
      have h4 : c = 16 * p * (c / p / 16) + (p * (c / p % 16) + c % p) := by
        conv => lhs; rw [← h1]
        conv => lhs; rw [← h2]
        rw [Int.mul_add, show 16 * p * (c / p / 16) = p * (16 * (c / p / 16)) by rw [Int.mul_comm 16 p, Int.mul_assoc]]
        omega
      have h5 : 0 ≤ p * (c / p % 16) := Int.mul_nonneg (by omega) (by omega)
      have h6 : p * (c / p % 16) ≤ p * 15 := Int.mul_le_mul_of_nonneg_left (by omega) (by omega)
      conv => lhs; rw [h4]
      rw [Int.add_comm, Int.add_mul_emod_self_left]
      exact Int.emod_eq_of_lt (by omega) (by omega)
    rw [e1, Int.add_mul, Int.mul_comm (c / p % 16) p]
    rw [show a * 16 * p = a * (16 * p) by rw [Int.mul_assoc]]
    omega
/-! ### Lines that are joined -/
theorem readGo_over (last : Bool) : ∀ (P : List Int) (f : Nat) (acc : List (Int × Bool)) (r : List Int), (∀ c ∈ P, ¬ c = 92) → readGo last (P.length + f) acc (P ++ r) = readGo last f (acc ++ P.map plainG) r
  | [], f, acc, r, _ => by simp
  | c :: P, f, acc, r, h => by
    rw [List.length_cons, show P.length + 1 + f = (P.length + f) + 1 by omega, List.cons_append]
    simp only [readGo]
    rw [if_pos (h c (by simp)), readGo_over last P f _ r (fun x hx => h x (by simp [hx]))]
    simp [plainG]
theorem readLine_join {P : List Int} (h : ∀ c ∈ P, ¬ c = 92) : readLine false (P ++ [92]) = (P.map plainG, true, 0) := by
  unfold readLine
  rw [List.length_append, readGo_over false P _ _ _ h]
  simp [readGo]
theorem readLine_hard {P : List Int} (h : ∀ c ∈ P, ¬ c = 92) : readLine false (92 :: 32 :: (P ++ [92, 32])) = ((32, true) :: (P.map plainG ++ [(32, true)]), false, 0) := by
  have e1 : ∀ r, escI (32 :: r) = (32, 1, 0) := fun r => by simp [escI, shortI]
  unfold readLine
  simp only [List.length_cons, readGo, e1]
  simp only [Decidable.not_not, if_true, Int.toNat_one, List.drop_succ_cons, List.drop_zero]
  rw [if_neg (by decide), if_neg (by rintro ⟨e, _⟩; cases e), if_neg (by decide)]
  rw [List.length_append, show P.length + [92, (32 : Int)].length + 1 = P.length + 3 by simp, readGo_over false P _ _ _ h]
  simp [readGo, e1]
theorem dw_gap {k : Nat} {b : List Int} (hb : ∀ c ∈ b, 97 ≤ c ∧ c ≤ 122) : (List.replicate k 32 ++ b).dropWhile blankI = b := by
  induction k with
  | zero =>
    cases b with
    | nil => rfl
    | cons c r =>
      have := hb c (by simp)
      rw [List.replicate_zero, List.nil_append, List.dropWhile_cons, if_neg]
      unfold blankI; simp; omega
  | succ k ih => rw [List.replicate_succ, List.cons_append, List.dropWhile_cons, if_pos (by decide), ih]
theorem joins_one {a b : List Int} {k : Nat} (ha : ∀ c ∈ a, 97 ≤ c ∧ c ≤ 122) (hb : ∀ c ∈ b, 97 ≤ c ∧ c ≤ 122) : readD [a ++ List.replicate k 32 ++ [92], List.replicate k 32 ++ b] = (a ++ List.replicate k 32 ++ b, 0) := by
  have h1 : ∀ c ∈ a ++ List.replicate k 32, ¬ c = 92 := by
    intro c hc
    rcases List.mem_append.1 hc with hc | hc
    · have := ha c hc; omega
    · rw [(List.mem_replicate.1 hc).2]; decide
  have h2 : ∀ c ∈ List.replicate k 32 ++ b, ¬ c = 92 := by
    intro c hc
    rcases List.mem_append.1 hc with hc | hc
    · rw [(List.mem_replicate.1 hc).2]; decide
    · have := hb c hc; omega
  have hl : linesD [a ++ List.replicate k 32 ++ [92], List.replicate k 32 ++ b] = ([((a ++ List.replicate k 32).map plainG, true), ((List.replicate k 32 ++ b).map plainG, false)], 0) := by
    simp only [linesD, List.isEmpty_cons, List.isEmpty_nil, readLine_join h1, readLine_plain h2]
    simp
  rw [readD_ok (by rw [hl]), hl]
  have t2 : trimG 1 2 ((List.replicate k 32 ++ b).map plainG, false) = b.map plainG := by rw [trimG_plain]; simp [trimAt, dw_gap hb]
  have t1 : trimG 0 2 ((a ++ List.replicate k 32).map plainG, true) = (a ++ List.replicate k 32).map plainG := by simp [trimG, backG, frontG]
  simp only [foldD, List.length_cons, List.length_nil, foldG, Nat.zero_add, Nat.reduceAdd, t1, t2, map_plain_fst]
  simp
theorem joins_two {a b : List Int} {k : Nat} (ha : ∀ c ∈ a, 97 ≤ c ∧ c ≤ 122) (hb : ∀ c ∈ b, 97 ≤ c ∧ c ≤ 122) : readD [92 :: 32 :: (a ++ List.replicate k 32 ++ [92, 32]), List.replicate k 32 ++ b] = (32 :: (a ++ List.replicate k 32 ++ [32, 32] ++ b), 0) := by
  have h1 : ∀ c ∈ a ++ List.replicate k 32, ¬ c = 92 := by
    intro c hc
    rcases List.mem_append.1 hc with hc | hc
    · have := ha c hc; omega
    · rw [(List.mem_replicate.1 hc).2]; decide
  have h2 : ∀ c ∈ List.replicate k 32 ++ b, ¬ c = 92 := by
    intro c hc
    rcases List.mem_append.1 hc with hc | hc
    · rw [(List.mem_replicate.1 hc).2]; decide
    · have := hb c hc; omega
  have hl : linesD [92 :: 32 :: (a ++ List.replicate k 32 ++ [92, 32]), List.replicate k 32 ++ b] = ([((32, true) :: ((a ++ List.replicate k 32).map plainG ++ [(32, true)]), false), ((List.replicate k 32 ++ b).map plainG, false)], 0) := by
    simp only [linesD, List.isEmpty_cons, List.isEmpty_nil, readLine_hard h1, readLine_plain h2]
    simp
  rw [readD_ok (by rw [hl]), hl]
  have t2 : trimG 1 2 ((List.replicate k 32 ++ b).map plainG, false) = b.map plainG := by rw [trimG_plain]; simp [trimAt, dw_gap hb]
  have t1 : trimG 0 2 ((32, true) :: ((a ++ List.replicate k 32).map plainG ++ [(32, true)]), false) = (32, true) :: ((a ++ List.replicate k 32).map plainG ++ [(32, true)]) := by
    simp only [trimG, frontG, backG]
    simp [softG, List.dropWhile_cons]
  simp only [foldD, List.length_cons, List.length_nil, foldG, Nat.zero_add, Nat.reduceAdd, t1, t2]
  have hid : ((fun x : Int × Bool => x.1) ∘ plainG) = id := rfl
  simp [hid, plainG]
end Go.Abs
