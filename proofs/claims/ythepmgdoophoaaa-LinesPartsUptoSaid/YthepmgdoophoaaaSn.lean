/-
  Plain specifications for chapter 3: the three ends of lines. No program in sight.
-/
import Derived.Test.YthepmgdoophoaaaSm
import Derived.Test.YthepmgdoophoaaaSb
namespace Go.Abs
/-- How many blanks stand ahead. -/
def low3 (n : Int) : Nat := (n % 8).toNat
def endOf (n : Int) : List Int := if n % 4 = 0 then [10] else if n % 4 = 1 then [13] else [13, 10]
def endsL : List (Int × Int) → List Int
  | [] => []
  | (w, i) :: r => List.replicate (low3 i) 32 ++ [9, 120, 32] ++ endOf w ++ endsL r
def endsW : List (Int × Int) → List (Int × List Int)
  | [] => []
  | (_, i) :: r => ((low3 i : Nat), [9, 120, 32]) :: endsW r
theorem endsL_app (a b : List (Int × Int)) : endsL (a ++ b) = endsL a ++ endsL b := by
  induction a with
  | nil => rfl
  | cons x a ih => obtain ⟨w, i⟩ := x; simp [endsL, ih]
theorem endsW_app (a b : List (Int × Int)) : endsW (a ++ b) = endsW a ++ endsW b := by
  induction a with
  | nil => rfl
  | cons x a ih => obtain ⟨w, i⟩ := x; simp [endsW, ih]
theorem endOf_len (n : Int) : (endOf n).length ≤ 2 := by unfold endOf; (repeat' split) <;> simp
theorem low3_le (n : Int) : low3 n ≤ 7 := by unfold low3; omega
theorem endsL_len (a : List (Int × Int)) : (endsL a).length ≤ 12 * a.length := by
  induction a with
  | nil => simp [endsL]
  | cons x a ih =>
    obtain ⟨w, i⟩ := x
    have := endOf_len w
    have := low3_le i
    simp only [endsL, List.length_append, List.length_replicate, List.length_cons, List.length_nil]
    omega
theorem endsW_len (a : List (Int × Int)) : (endsW a).length = a.length := by
  induction a with
  | nil => rfl
  | cons x a ih => obtain ⟨w, i⟩ := x; simp [endsW, ih]
theorem zip_take {a b : List Int} {k : Nat} (h : k < a.length) (h2 : k < b.length) : (a.zip b).take (k + 1) = (a.zip b).take k ++ [(a.getD k 0, b.getD k 0)] := by
  rw [List.take_succ_eq_append_getElem (by simp; omega)]
  simp [List.getD_eq_getElem?_getD, h, h2]
theorem lineOf_rep (k : Nat) {r : List Int} (h : r.head? ≠ some 32) : lineOf (List.replicate k 32 ++ r) = (((k : Nat) : Int), r) := by
  induction k with
  | zero =>
    cases r with
    | nil => rfl
    | cons x r =>
      have : (x == 32) = false := by simp at h; simp [h]
      simp [lineOf, List.takeWhile_cons, List.dropWhile_cons, this]
  | succ k ih =>
    simp only [lineOf, Prod.mk.injEq] at ih ⊢
    rw [List.replicate_succ, List.cons_append, List.takeWhile_cons, List.dropWhile_cons]
    simp only [beq_self_eq_true, if_true, List.length_cons]
    exact ⟨by omega, ih.2⟩
theorem tx_endOf {acc : List Int} {n : Int} {r : List Int} (h : r.head? ≠ some 10) (w : Int) : tx acc (endOf w ++ r) = acc :: tx [] r := by
  unfold endOf
  split
  · exact tx_brk rfl (fun h => by cases h.1)
  · split
    · exact tx_brk rfl (fun hh => h hh.2)
    · exact tx_crlf
theorem endsL_head (a : List (Int × Int)) : (endsL a).head? ≠ some 10 := by
  cases a with
  | nil => simp [endsL]
  | cons x a =>
    obtain ⟨w, i⟩ := x
    unfold endsL
    cases h : low3 i with
    | zero => simp
    | succ n => simp [List.replicate_succ]
theorem endsL_read (a : List (Int × Int)) : readR (endsL a) = (endsW a, 0) := by
  have h1 : readOk (endsL a) = true := by
    unfold readOk
    induction a with
    | nil => rfl
    | cons x a ih =>
      obtain ⟨w, i⟩ := x
      have he : (endOf w).all goodC = true := by unfold endOf; (repeat' split) <;> decide
      have hr : (List.replicate (low3 i) (32 : Int)).all goodC = true := by
        rw [List.all_eq_true]; intro x hx; rw [(List.mem_replicate.1 hx).2]; decide
      simp only [endsL, List.all_append, ih, he, hr, Bool.and_true, Bool.true_and]
      decide
  unfold readR
  rw [if_pos h1]
  congr 1
  clear h1
  unfold linesOf
  induction a with
  | nil => rfl
  | cons x a ih =>
    obtain ⟨w, i⟩ := x
    have hnb : ∀ c ∈ List.replicate (low3 i) (32 : Int) ++ [9, 120, 32], brk c = false := by
      intro c hc
      rcases List.mem_append.1 hc with hc | hc
      · rw [(List.mem_replicate.1 hc).2]; rfl
      · simp at hc; rcases hc with rfl | rfl | rfl <;> rfl
    unfold endsL
    rw [List.append_assoc (List.replicate (low3 i) 32 ++ [9, 120, 32]), tx_app hnb, tx_endOf (n := 0) (endsL_head a), List.map_cons, ih]
    simp only [List.nil_append, endsW]
    rw [lineOf_rep _ (by simp)]
end Go.Abs
