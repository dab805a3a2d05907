/-
  Plain facts for chapter 10's laws. No program in sight.
-/
import Derived.Test.YtaeacialcbahnaaSk
namespace Go.Abs
set_option linter.unusedSimpArgs false
set_option linter.unusedVariables false
/-- A line that is set in so far more. -/
def inLine (d : Int) (t : List Int) : Ln := (d + ((t.takeWhile (· == 32)).length : Nat), t.dropWhile (· == 32))
theorem tw_rep (t : List Int) : t.takeWhile (· == 32) = List.replicate (t.takeWhile (· == 32)).length 32 := by
  rw [List.eq_replicate_iff]
  refine ⟨rfl, fun c hc => ?_⟩
  have h5 : (t.takeWhile (· == 32)).all (· == 32) = true := List.all_takeWhile
  have := List.all_eq_true.1 h5 c hc
  simpa using this
theorem cont_in (d : Int) (t : List Int) : contB d (inLine d t) = t := by
  unfold contB inLine
  rw [show (d + ((t.takeWhile (· == 32)).length : Nat) - d).toNat = (t.takeWhile (· == 32)).length by omega, ← tw_rep, List.takeWhile_append_dropWhile]
theorem over_in {d : Int} (hd : 1 ≤ d) (t : List Int) : overB d (inLine d t) = false := by
  refine over_no (.inr ?_) ?_
  · simp only [inLine]; omega
  · unfold markerI inLine
    rw [if_neg (fun h => by have := h.1; simp only at this; omega)]
theorem rows_in {d : Int} (hd : 1 ≤ d) {x : Ln} (hx : overB d x = true) : ∀ l : List (List Int), rowsB d (l.map (inLine d) ++ [x]) = l
  | [] => by simp [rowsB, List.takeWhile_cons, hx]
  | t :: r => by
    have ih := rows_in hd hx r
    unfold rowsB at ih ⊢
    rw [List.map_cons, List.cons_append, List.takeWhile_cons, if_pos (by rw [over_in hd]; rfl), List.map_cons, cont_in, ih]
theorem back_law {n more : Int} {l : List (List Int)} (hn : -1 ≤ n) (hn2 : n ≤ 20) (hm : 1 ≤ more) (hm2 : more ≤ 9) :
    blockB (l.map (inLine (max 0 n + more)) ++ [(0, [120])]) (false, 2, more) n = ((textI (linesF l), (l.length : Nat), 0) : ByteArray × Int × Int) := by
  have hi : indI (l.map (inLine (max 0 n + more)) ++ [(0, [120])]) more (min (max (-1) n) 1099511627776) = (max 0 n + more, 0) := by
    unfold indI
    rw [if_pos (by omega)]
    congr 1; omega
  have ho : overB (max 0 n + more) ((0, [120]) : Ln) = true := over_yes (.inl ⟨by simp, by simp only; omega⟩)
  unfold blockB
  simp only [hi]
  rw [if_neg (by decide), rows_in (by omega) ho]
  simp [litF_lines]
/-! ### Where lines stand that say nothing of it -/
def detL (ahead at_ back : Int) : List Ln := [(ahead, []), (at_, [97]), (back, [98])]
theorem mark1 (n c : Int) : markerI n [c] = 0 := by unfold markerI; rw [if_neg (fun h => by have := h.2.1; simp at this)]
theorem det_scan {ahead at_ back : Int} (h : 0 ≤ ahead) : scanI 0 (detL ahead at_ back) = (ahead, some at_) := by
  simp only [detL, scanI, mark1]
  simp
  omega
theorem det_low {n ahead at_ back : Int} {f : Bool} (hn : -1 ≤ n) (hn2 : n ≤ 20) (ha : 0 ≤ ahead) (h : at_ ≤ n) : blockB (detL ahead at_ back) (f, 0, 0) n = ((textI [], 1, 0) : ByteArray × Int × Int) := by
  have hi : indI (detL ahead at_ back) 0 (min (max (-1) n) 1099511627776) = (max ahead (n + 1), 0) := by
    unfold indI
    rw [if_neg (by decide), det_scan ha]
    simp only [Option.getD_some]
    rw [if_pos (by omega)]
    congr 1; omega
  have hr : rowsB (max ahead (n + 1)) (detL ahead at_ back) = [[]] := by
    have o1 : overB (max ahead (n + 1)) ((ahead, []) : Ln) = false := over_no (.inl rfl) (by unfold markerI; simp)
    have o2 : overB (max ahead (n + 1)) ((at_, [97]) : Ln) = true := over_yes (.inl ⟨by simp, by simp only; omega⟩)
    have e1 : (ahead - max ahead (n + 1)).toNat = 0 := by omega
    simp only [rowsB, detL, List.takeWhile_cons, o1, o2, contB]
    simp [e1, contB]
  unfold blockB
  simp only [hi, hr]
  cases f <;> simp [fullN, litF, blkF, litGo, blkGo, endsC]
theorem det_wide {n ahead at_ back : Int} {f : Bool} (hn : -1 ≤ n) (hn2 : n ≤ 20) (ha : 0 ≤ ahead) (h : n < at_) (h2 : at_ < ahead) : blockB (detL ahead at_ back) (f, 0, 0) n = ((ByteArray.empty, 0, 7) : ByteArray × Int × Int) := by
  have hi : indI (detL ahead at_ back) 0 (min (max (-1) n) 1099511627776) = (0, 7) := by
    unfold indI
    rw [if_neg (by decide), det_scan ha]
    simp only [Option.getD_some]
    rw [if_neg (by omega), if_pos (by omega)]
  unfold blockB
  simp only [hi]
  simp
theorem det_ok {n ahead at_ back : Int} {f : Bool} (hn : -1 ≤ n) (hn2 : n ≤ 20) (ha : 0 ≤ ahead) (h : n < at_) (h2 : ahead ≤ at_) :
    blockB (detL ahead at_ back) (f, 0, 0) n = (if back < at_ then (textI [10, 97, 10], 2, 0) else if back = at_ then (textI (if f then [10, 97, 32, 98, 10] else [10, 97, 10, 98, 10]), 3, 0) else (textI ([10, 97, 10] ++ List.replicate (back - at_).toNat 32 ++ [98, 10]), 3, 0) : ByteArray × Int × Int) := by
  have hi : indI (detL ahead at_ back) 0 (min (max (-1) n) 1099511627776) = (at_, 0) := by
    unfold indI
    rw [if_neg (by decide), det_scan ha]
    simp only [Option.getD_some]
    rw [if_neg (by omega), if_neg (by omega)]
  have o1 : overB at_ ((ahead, []) : Ln) = false := over_no (.inl rfl) (by unfold markerI; simp)
  have o2 : overB at_ ((at_, [97]) : Ln) = false := over_no (.inr (Int.le_refl _)) (mark1 _ _)
  unfold blockB
  simp only [hi]
  by_cases hb : back < at_
  · have o3 : overB at_ ((back, [98]) : Ln) = true := over_yes (.inl ⟨by simp, hb⟩)
    have hr : rowsB at_ (detL ahead at_ back) = [[], [97]] := by
      have e1 : (ahead - at_).toNat = 0 := by omega
      simp only [rowsB, detL, List.takeWhile_cons, o1, o2, o3, contB]
      simp [e1, contB]
    simp only [hr, hb]
    cases f <;> simp [fullN, litF, blkF, litGo, blkGo, endsC, sep, between]
  · have o3 : overB at_ ((back, [98]) : Ln) = false := over_no (.inr (by simp only; omega)) (mark1 _ _)
    have hr : rowsB at_ (detL ahead at_ back) = [[], [97], List.replicate (back - at_).toNat 32 ++ [98]] := by
      have e1 : (ahead - at_).toNat = 0 := by omega
      simp only [rowsB, detL, List.takeWhile_cons, o1, o2, o3, contB]
      simp [e1, contB]
    simp only [hr, hb]
    by_cases he : back = at_
    · subst he
      cases f <;> simp [fullN, litF, blkF, litGo, blkGo, endsC, sep, between, spacedI, blankI]
    · obtain ⟨k, hk⟩ : ∃ k, (back - at_).toNat = k + 1 := ⟨(back - at_).toNat - 1, by omega⟩
      simp only [hk, List.replicate_succ, he]
      cases f <;> simp [fullN, litF, blkF, litGo, blkGo, endsC, sep, between, spacedI, blankI]
end Go.Abs
