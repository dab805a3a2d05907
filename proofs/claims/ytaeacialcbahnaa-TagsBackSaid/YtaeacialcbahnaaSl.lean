/-
  Plain specifications for chapter 3: lines. No program in sight.
-/
import Derived.Test.YtaeacialcbahnaaS
namespace Go.Abs
set_option linter.unusedSimpArgs false
set_option linter.unusedVariables false

def brk (c : Int) : Bool := c == 10 || c == 13

/-- The texts of lines; 'acc': what stands on this line already. -/
def tx : List Int → List Int → List (List Int)
  | acc, [] => if acc.isEmpty then [] else [acc]
  | acc, [c] => if brk c then [acc] else [acc ++ [c]]
  | acc, c :: d :: r => if c == 13 && d == 10 then acc :: tx [] r else if brk c then acc :: tx [] (d :: r) else tx (acc ++ [c]) (d :: r)

theorem tx_push {acc r : List Int} {c : Int} (h : brk c = false) : tx acc (c :: r) = tx (acc ++ [c]) r := by
  have h13 : (c == 13) = false := by simp [brk] at h; simp [h]
  cases r with
  | nil => simp [tx, h]
  | cons d r => simp [tx, h, h13]

theorem tx_brk {acc r : List Int} {c : Int} (h : brk c = true) (h2 : ¬ (c = 13 ∧ r.head? = some 10)) : tx acc (c :: r) = acc :: tx [] r := by
  cases r with
  | nil => simp [tx, h]
  | cons d r =>
    have : (c == 13 && d == 10) = false := by
      rw [Bool.eq_false_iff]; intro e; simp at e; exact h2 (by simp [e])
    simp [tx, h, this]

theorem tx_crlf {acc r : List Int} : tx acc (13 :: 10 :: r) = acc :: tx [] r := by simp [tx]

theorem tx_none : ∀ {l acc : List Int}, (∀ c ∈ l, brk c = false) → tx acc l = if (acc ++ l).isEmpty then [] else [acc ++ l]
  | [], acc, _ => by simp [tx]
  | c :: r, acc, h => by
    rw [tx_push (h c (by simp)), tx_none (fun x hx => h x (by simp [hx]))]
    simp

theorem tx_app : ∀ {p acc r : List Int}, (∀ c ∈ p, brk c = false) → tx acc (p ++ r) = tx (acc ++ p) r
  | [], acc, r, _ => by simp
  | c :: p, acc, r, h => by
    rw [List.cons_append, tx_push (h c (by simp)), tx_app (fun x hx => h x (by simp [hx]))]
    simp

theorem tx_stepA {a r : List Int} (ha : ∀ x ∈ a, brk x = false) (h : 0 < r.length) (h10 : r.getD 0 0 = 10) : tx [] (a ++ 13 :: r) = a :: tx [] (r.drop 1) := by
  rw [tx_app ha, List.nil_append]
  match r, h, h10 with
  | x :: r, _, h => simp at h; subst h; exact tx_crlf
theorem tx_stepB {a r : List Int} {c : Int} (ha : ∀ x ∈ a, brk x = false) (hc : brk c = true) (h : ¬ (c = 13 ∧ 0 < r.length ∧ r.getD 0 0 = 10)) : tx [] (a ++ c :: r) = a :: tx [] r := by
  rw [tx_app ha, List.nil_append]
  refine tx_brk hc (fun ⟨h1, h2⟩ => h ⟨h1, ?_⟩)
  cases r with
  | nil => cases h2
  | cons x r => simp at h2; simp [h2]

/-- A line: how far it is set in, and its text. -/
def lineOf (t : List Int) : Int × List Int := (((t.takeWhile (· == 32)).length : Nat), t.dropWhile (· == 32))
def linesOf (l : List Int) : List (Int × List Int) := (tx [] l).map lineOf
def goodC (c : Int) : Bool := printI c && !(c == 65279)
theorem goodC_no {c : Int} (h : printI c = false ∨ c = 65279) : goodC c = false := by
  rcases h with h | rfl
  · simp [goodC, h]
  · simp [goodC]
theorem goodC_yes {c : Int} (h : printI c = true) (h2 : ¬ c = 65279) : goodC c = true := by simp [goodC, h, h2]
def readOk (l : List Int) : Bool := l.all goodC

def readR (l : List Int) : List (Int × List Int) × Int := if readOk l then (linesOf l, 0) else ([], 4)
theorem readR_bad {l : List Int} {k : Nat} (hk : k < l.length) (h : goodC (l.getD k 0) = false) : readR l = ([], 4) := by
  unfold readR
  rw [if_neg]
  intro hc
  have := List.all_eq_true.1 hc (l.getD k 0) (by simp [List.getD_eq_getElem?_getD, hk])
  rw [h] at this; cases this
theorem readR_ok {l : List Int} (h : ∀ j, j < l.length → goodC (l.getD j 0) = true) : readR l = (linesOf l, 0) := by
  unfold readR
  rw [if_pos]
  refine List.all_eq_true.2 fun x hx => ?_
  obtain ⟨j, hj, rfl⟩ := List.getElem_of_mem hx
  have := h j hj
  simpa [List.getD_eq_getElem?_getD, hj] using this

abbrev LN (x : Int × List Int) : AV := .agg [I x.1, SI none x.2]
abbrev SL (o : Option (Option (Nat × Nat))) (l : List (Int × List Int)) : AV := .sl 2 o (l.map LN)

theorem goodSL (l : List (Int × List Int)) : goodL (l.map LN) = true := by
  unfold goodL
  rw [List.all_map, List.all_eq_true]
  intro x _
  rfl

theorem getL {l : List (Int × List Int)} {k : Nat} (h : k < l.length) : (l.map LN).getD k .any = LN (l.getD k (0, [])) := by
  simp [List.getD_eq_getElem?_getD, h]

theorem tx_length : ∀ (l acc : List Int), (tx acc l).length ≤ acc.length + l.length
  | [], acc => by
    unfold tx
    split
    · simp
    · rename_i h; cases acc <;> simp at h ⊢
  | [c], acc => by
    unfold tx; split <;> simp
  | c :: d :: r, acc => by
    have h1 := tx_length r []
    have h2 := tx_length (d :: r) []
    have h3 := tx_length (d :: r) (acc ++ [c])
    unfold tx
    simp only [List.length_nil, List.length_cons, List.length_append] at *
    split
    · simp only [List.length_cons]; omega
    · split
      · simp only [List.length_cons]; omega
      · omega

theorem tx_each : ∀ (l acc : List Int), ∀ t ∈ tx acc l, t.length ≤ acc.length + l.length
  | [], acc => by
    unfold tx
    split <;> intro t ht <;> simp at ht
    subst ht; simp
  | [c], acc => by
    unfold tx; split <;> intro t ht <;> simp at ht <;> subst ht <;> simp
  | c :: d :: r, acc => by
    have h1 := tx_each r []
    have h2 := tx_each (d :: r) []
    have h3 := tx_each (d :: r) (acc ++ [c])
    intro t ht
    unfold tx at ht
    simp only [List.length_nil, List.length_cons, List.length_append] at *
    split at ht
    · rcases List.mem_cons.1 ht with rfl | ht
      · omega
      · have := h1 t ht; omega
    · split at ht
      · rcases List.mem_cons.1 ht with rfl | ht
        · omega
        · have := h2 t ht; omega
      · have := h3 t ht; omega

/-- Texts one behind the other, with a line's end between. -/
theorem tx_parts {e : List Int} (he : e = [10] ∨ e = [13] ∨ e = [13, 10]) {b : List Int} (hb : e = [13] → b.head? ≠ some 10) : ∀ (a acc : List Int), (a = [] → acc ≠ []) → (∀ c, a.getLast? = some c → brk c = false) → tx acc (a ++ e ++ b) = tx acc a ++ tx [] b
  | [], acc, h1, _ => by
    have hacc : acc.isEmpty = false := by cases acc with
      | nil => exact absurd rfl (h1 rfl)
      | cons x acc => rfl
    have ht : tx acc [] = [acc] := by simp [tx, hacc]
    rw [ht]
    rcases he with rfl | rfl | rfl
    · exact tx_brk rfl (fun h => by cases h.1)
    · exact tx_brk rfl (fun h => hb rfl h.2)
    · exact tx_crlf
  | [c], acc, h1, h2 => by
    have hc := h2 c rfl
    have := tx_parts he hb [] (acc ++ [c]) (fun _ => by simp) (fun c h => by cases h)
    rw [List.cons_append, List.cons_append, tx_push hc, tx_push hc]
    exact this
  | c :: d :: r, acc, h1, h2 => by
    have ih1 := tx_parts he hb (d :: r) [] (fun h => by cases h) (fun x hx => h2 x (by simpa using hx))
    have ih2 := tx_parts he hb (d :: r) (acc ++ [c]) (fun h => by cases h) (fun x hx => h2 x (by simpa using hx))
    by_cases hcd : c = 13 ∧ d = 10
    · obtain ⟨rfl, rfl⟩ := hcd
      cases r with
      | nil => exact absurd (h2 10 rfl) (by decide)
      | cons x r =>
        have ih3 := tx_parts he hb (x :: r) [] (fun h => by cases h) (fun y hy => h2 y (by simpa using hy))
        simp only [List.cons_append] at ih3 ⊢
        rw [tx_crlf, tx_crlf, ih3, List.cons_append]
    · cases hb' : brk c with
      | true =>
        simp only [List.cons_append] at ih1 ⊢
        rw [tx_brk hb' (by simpa using hcd), tx_brk hb' (by simpa using hcd), ih1, List.cons_append]
      | false =>
        simp only [List.cons_append] at ih2 ⊢
        rw [tx_push hb', tx_push hb', ih2]

end Go.Abs
