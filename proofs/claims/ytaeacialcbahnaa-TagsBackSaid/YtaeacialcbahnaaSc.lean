/-
  Plain specifications for chapter 2: kinds of code points. No program in sight.
-/
import Derived.Test.YtaeacialcbahnaaSu
namespace Go.Abs
def flowI (c : Int) : Bool := decide (c = 44 ∨ c = 91 ∨ c = 93 ∨ c = 123 ∨ c = 125)
def nameI (c : Int) : Bool := printI c && !blankI c && !(c == 10) && !(c == 13) && !(c == 65279) && !flowI c
def wordI (c : Int) : Bool := decide ((48 ≤ c ∧ c ≤ 57) ∨ (97 ≤ c ∧ c ≤ 122) ∨ (65 ≤ c ∧ c ≤ 90) ∨ c = 45)
def hexI (c : Int) : Int := if 48 ≤ c ∧ c ≤ 57 then c - 48 else if 97 ≤ c ∧ c ≤ 102 then c - 97 + 10 else if 65 ≤ c ∧ c ≤ 70 then c - 65 + 10 else -1
theorem hexI_le (c : Int) : -1 ≤ hexI c ∧ hexI c ≤ 15 := by unfold hexI; (repeat' split) <;> omega
theorem mem_getD {l : List Int} {c : Int} {k : Nat} (h : k < l.length) (e : l.getD k 0 = c) : c ∈ l := by
  rw [← e, List.getD_eq_getElem?_getD, List.getElem?_eq_getElem h]
  exact List.getElem_mem h
theorem not_mem_getD {l : List Int} {c : Int} (h : ∀ j, j < l.length → ¬ l.getD j 0 = c) : ¬ c ∈ l := by
  intro hm
  obtain ⟨j, hj, e⟩ := List.getElem_of_mem hm
  refine h j hj ?_
  rw [List.getD_eq_getElem?_getD, List.getElem?_eq_getElem hj]
  exact e
theorem flow_mem {s : ByteArray} (hs : bytesI s = [44, 91, 93, 123, 125]) (c : Int) : decide (c ∈ bytesI s) = flowI c := by
  rw [hs, Bool.eq_iff_iff, decide_eq_true_eq]
  simp [flowI]
end Go.Abs
