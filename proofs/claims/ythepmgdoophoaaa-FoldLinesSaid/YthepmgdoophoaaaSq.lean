/-
  Plain facts for chapter 6's laws on texts that are built. No program in sight.
-/
import Derived.Test.YthepmgdoophoaaaSf
namespace Go.Abs
set_option linter.unusedSimpArgs false
/-- Each line with its end. -/
def linesF : List (List Int) → List Int
  | [] => []
  | t :: r => t ++ 10 :: linesF r
theorem linesF_app (a b : List (List Int)) : linesF (a ++ b) = linesF a ++ linesF b := by
  induction a with
  | nil => rfl
  | cons t r ih => simp [linesF, ih]
theorem linesF_snoc (a : List (List Int)) (t : List Int) : linesF (a ++ [t]) = linesF a ++ t ++ [10] := by
  rw [linesF_app]; simp [linesF]
theorem linesF_len (l : List (List Int)) : (linesF l).length = tot l := by
  induction l with
  | nil => simp [linesF, tot]
  | cons t r ih => simp only [linesF, tot, List.map_cons, List.sum_cons, List.length_append, List.length_cons] at *; omega
theorem linesF_rep (n : Nat) : linesF (List.replicate n []) = List.replicate n 10 := by
  induction n with
  | zero => rfl
  | succ n ih => simp [List.replicate_succ, linesF, ih]
theorem litGo_lines : ∀ (l : List (List Int)), l ≠ [] → litGo true l ++ [10] = linesF l
  | [t], _ => by simp [litGo, linesF]
  | t :: u :: r, _ => by
    have := litGo_lines (u :: r) (by simp)
    simp only [litGo, linesF, List.append_assoc, List.cons_append] at *
    rw [this]
theorem full_split (l : List (List Int)) : l = l.take (fullN l) ++ List.replicate (l.length - fullN l) [] := by
  have h1 : l.reverse = l.reverse.takeWhile (·.isEmpty) ++ l.reverse.dropWhile (·.isEmpty) := (List.takeWhile_append_dropWhile).symm
  have h2 : l = (l.reverse.dropWhile (·.isEmpty)).reverse ++ (l.reverse.takeWhile (·.isEmpty)).reverse := by
    have := congrArg List.reverse h1
    rwa [List.reverse_reverse, List.reverse_append] at this
  have hlen : (l.reverse.dropWhile (·.isEmpty)).length + (l.reverse.takeWhile (·.isEmpty)).length = l.length := by
    have := congrArg List.length h2
    simp only [List.length_append, List.length_reverse] at this
    omega
  have h3 : l.reverse.takeWhile (·.isEmpty) = List.replicate (l.length - fullN l) [] := by
    rw [List.eq_replicate_iff]
    refine ⟨by unfold fullN; omega, fun t ht => ?_⟩
    have h5 : (l.reverse.takeWhile (·.isEmpty)).all (·.isEmpty) = true := List.all_takeWhile
    have := List.all_eq_true.1 h5 t ht
    simpa using this
  have h4 : (l.reverse.dropWhile (·.isEmpty)).reverse = l.take (fullN l) := by
    conv => rhs; rw [h2]
    rw [List.take_left' (by simp [fullN])]
  rw [h3, h4, List.reverse_replicate] at h2
  exact h2
theorem litF_lines (l : List (List Int)) : litF l 2 = linesF l := by
  conv => rhs; rw [full_split l]
  rw [linesF_app, linesF_rep]
  unfold litF endsC
  rw [if_pos rfl]
  have hf := fullN_le l
  rcases Nat.eq_zero_or_pos (fullN l) with h | h
  · rw [if_pos h, h]; simp [litGo, linesF]
  · rw [if_neg (by omega), List.replicate_succ, ← litGo_lines (l.take (fullN l)) (by intro e; have := congrArg List.length e; rw [List.length_take, List.length_nil] at this; omega)]
    simp

/-! ### Words -/
theorem flow_go {g : Nat} {w : List Int} {m : List (List Int)} (hw : w ≠ []) : ∀ e, flowGo false e (List.replicate g [] ++ w :: m) = between (e + g) ++ w ++ flowGo false 0 m := by
  induction g with
  | zero =>
    intro e
    rw [List.replicate_zero, List.nil_append, flowGo_cons (by simp [hw])]; rfl
  | succ g ih =>
    intro e
    rw [List.replicate_succ, List.cons_append, flowGo_empty rfl (by simp), ih, show e + 1 + g = e + (g + 1) by omega]
theorem blk_go {g : Nat} {w : List Int} {m : List (List Int)} (hw : w ≠ []) (s : Option (List Int)) : ∀ e, blkGo s e (List.replicate g [] ++ w :: m) = sep s (e + g) w ++ w ++ blkGo (some w) 0 m := by
  induction g with
  | zero => intro e; rw [List.replicate_zero, List.nil_append, blkGo_cons hw]; rfl
  | succ g ih => intro e; rw [List.replicate_succ, List.cons_append, blkGo_empty rfl, ih, show e + 1 + g = e + (g + 1) by omega]
theorem fullN_full {l : List (List Int)} {w : List Int} (hw : w ≠ []) : fullN (l ++ [w]) = (l ++ [w]).length := by
  unfold fullN
  rw [List.reverse_append, List.reverse_singleton, List.singleton_append, List.dropWhile_cons, if_neg (by simp [hw])]
  simp
theorem trims_snoc (n : Nat) : ∀ (i : Nat) (l : List (List Int)) (x : List Int), trims n i (l ++ [x]) = trims n i l ++ [trimAt n (i + l.length) x]
  | i, [], x => by simp [trims]
  | i, t :: r, x => by
    simp only [trims, List.cons_append, trims_snoc n (i + 1) r x, List.length_cons]
    rw [show i + 1 + r.length = i + (r.length + 1) by omega]
theorem trimAt_nil (n i : Nat) : trimAt n i [] = [] := by unfold trimAt backI; simp
theorem trims_rep (n : Nat) (i : Nat) (l : List (List Int)) (g : Nat) : trims n i (l ++ List.replicate g []) = trims n i l ++ List.replicate g [] := by
  induction g with
  | zero => simp
  | succ g ih => rw [List.replicate_succ', ← List.append_assoc, trims_snoc, ih, trimAt_nil, ← List.append_assoc]
theorem backI_snoc {l : List Int} {c : Int} (h : blankI c = true) : backI (l ++ [c]) = backI l := by
  unfold backI; rw [List.reverse_append, List.reverse_singleton, List.singleton_append, List.dropWhile_cons, if_pos h]
theorem backI_keep {l : List Int} {c : Int} (h : blankI c = false) : backI (l ++ [c]) = l ++ [c] := by
  unfold backI; rw [List.reverse_append, List.reverse_singleton, List.singleton_append, List.dropWhile_cons, if_neg (by rw [h]; decide)]; simp
/-- A word, as it stands in a line: with blanks ahead, with a blank behind. -/
def padW (a b : Bool) (c : Int) : List Int := (if a then [32, 9] else []) ++ [c] ++ (if b then [32] else [])
theorem trimAt_pad {n p : Nat} {a b : Bool} {c : Int} (hc : blankI c = false) (ha : a = true → 0 < p) (hb : b = true → p + 1 < n) : trimAt n p (padW a b c) = [c] := by
  have h32 : blankI 32 = true := by decide
  have h9 : blankI 9 = true := by decide
  have e1 : backI [c, 32] = [c] := by
    rw [show [c, 32] = ([] ++ [c]) ++ [32] by rfl, backI_snoc h32, backI_keep hc]; rfl
  have e2 : backI [c] = [c] := backI_keep (l := []) hc
  unfold trimAt padW
  cases a <;> cases b <;> simp only [Bool.false_eq_true, if_false, if_true, List.nil_append, List.append_nil, List.cons_append] <;> split <;> rename_i h1 <;> split <;> rename_i h2 <;>
    simp_all [List.dropWhile_cons]
  all_goals trace_state
  all_goals sorry
end Go.Abs
