/-
  Plain specifications for chapter 3: more on lines. No program in sight.
-/
import Derived.Test.YtaeacialcbahnaaSl
namespace Go.Abs
theorem ext_getDL {a b : List (Int × List Int)} (h : a.length = b.length) (hj : ∀ j, j < a.length → a.getD j (0, []) = b.getD j (0, [])) : a = b := by
  refine List.ext_getElem h (fun j h1 h2 => ?_)
  have := hj j h1
  simpa [List.getD_eq_getElem?_getD, h1, h2] using this
theorem drop_getD {l : List Int} {k : Nat} (h : k < l.length) : l.drop k = l.getD k 0 :: l.drop (k + 1) := by
  rw [List.drop_eq_getElem_cons h]
  simp [List.getD_eq_getElem?_getD, h]
theorem take_getD {l : List Int} {k f : Nat} (h : k < l.length) (hf : f ≤ k) : (l.take (k + 1)).drop f = (l.take k).drop f ++ [l.getD k 0] := by
  rw [List.take_succ_eq_append_getElem h, List.drop_append_of_le_length (by simp; omega)]
  simp [List.getD_eq_getElem?_getD, h]
theorem tx_at_push {l : List Int} {k f : Nat} (h : k < l.length) (hf : f ≤ k) (hb : brk (l.getD k 0) = false) : tx ((l.take k).drop f) (l.drop k) = tx ((l.take (k + 1)).drop f) (l.drop (k + 1)) := by
  rw [drop_getD h, tx_push hb, take_getD h hf]
theorem tx_at_brk {l : List Int} {k f : Nat} (h : k < l.length) (hb : brk (l.getD k 0) = true) (hn : ¬ (l.getD k 0 = 13 ∧ k + 1 < l.length ∧ l.getD (k + 1) 0 = 10)) : tx ((l.take k).drop f) (l.drop k) = (l.take k).drop f :: tx [] (l.drop (k + 1)) := by
  rw [drop_getD h]
  refine tx_brk hb (fun ⟨h1, h2⟩ => hn ⟨h1, ?_⟩)
  by_cases hk : k + 1 < l.length
  · rw [drop_getD hk] at h2
    exact ⟨hk, by simpa using h2⟩
  · rw [List.drop_eq_nil_of_le (by omega)] at h2
    cases h2
theorem tx_at_crlf {l : List Int} {k f : Nat} (h : k + 1 < l.length) (h13 : l.getD k 0 = 13) (h10 : l.getD (k + 1) 0 = 10) : tx ((l.take k).drop f) (l.drop k) = (l.take k).drop f :: tx [] (l.drop (k + 2)) := by
  rw [drop_getD (show k < l.length by omega), drop_getD h, h13, h10]
  exact tx_crlf
theorem tx_at_end {l : List Int} {k f : Nat} (h : l.length ≤ k) : tx ((l.take k).drop f) (l.drop k) = if f < l.length then [l.drop f] else [] := by
  rw [List.drop_eq_nil_of_le h, List.take_of_length_le h]
  by_cases hf : f < l.length
  · rw [if_pos hf]
    have : (l.drop f).isEmpty = false := by
      rw [drop_getD hf]; rfl
    simp [tx, this]
  · rw [if_neg hf, List.drop_eq_nil_of_le (by omega)]; rfl
theorem take_drop_self {l : List Int} {k : Nat} : (l.take k).drop k = [] := List.drop_eq_nil_of_le (by simp; omega)
theorem brk_no {c : Int} (h : ¬ c = 10) (h2 : ¬ c = 13) : brk c = false := by simp [brk, h, h2]
theorem brk_yes {c : Int} (h : c = 10 ∨ c = 13) : brk c = true := by rcases h with h | h <;> simp [brk, h]
theorem readR_len (l : List Int) : (readR l).1.length ≤ l.length := by
  unfold readR
  split
  · have := tx_length l []
    simpa [linesOf] using this
  · simp
theorem readR_each (l : List Int) : ∀ x ∈ (readR l).1, x.2.length ≤ l.length := by
  unfold readR
  split
  · intro x hx
    simp only [linesOf, List.mem_map] at hx
    obtain ⟨t, ht, rfl⟩ := hx
    have h1 := tx_each l [] t ht
    have h2 := (List.dropWhile_suffix (· == 32) (l := t)).length_le
    simp only [lineOf, List.length_nil] at *
    omega
  · intro x hx; simp at hx
end Go.Abs
