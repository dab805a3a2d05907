/-
  Plain facts for chapter 6's laws on texts that are built. No program in sight.
-/
import Derived.Test.YtaeacialcbahnaaSf
namespace Go.Abs
set_option linter.unusedSimpArgs false
/-- Each line with its end. -/
def linesF : List (List Int) → List Int
  | [] => []
  | t :: r => t ++ 10 :: linesF r
theorem linesF_app (a b : List (List Int)) : linesF (a ++ b) = linesF a ++ linesF b := by
  induction a with
  | nil => rfl
  | cons t r ih => simp [linesF, ih]
theorem linesF_snoc (a : List (List Int)) (t : List Int) : linesF (a ++ [t]) = linesF a ++ t ++ [10] := by
  rw [linesF_app]; simp [linesF]
theorem linesF_len (l : List (List Int)) : (linesF l).length = tot l := by
  induction l with
  | nil => simp [linesF, tot]
  | cons t r ih => simp only [linesF, tot, List.map_cons, List.sum_cons, List.length_append, List.length_cons] at *; omega
theorem linesF_rep (n : Nat) : linesF (List.replicate n []) = List.replicate n 10 := by
  induction n with
  | zero => rfl
  | succ n ih => simp [List.replicate_succ, linesF, ih]
theorem litGo_lines : ∀ (l : List (List Int)), l ≠ [] → litGo true l ++ [10] = linesF l
  | [t], _ => by simp [litGo, linesF]
  | t :: u :: r, _ => by
    have := litGo_lines (u :: r) (by simp)
    simp only [litGo, linesF, List.append_assoc, List.cons_append] at *
    rw [this]
theorem full_split (l : List (List Int)) : l = l.take (fullN l) ++ List.replicate (l.length - fullN l) [] := by
  have h1 : l.reverse = l.reverse.takeWhile (·.isEmpty) ++ l.reverse.dropWhile (·.isEmpty) := (List.takeWhile_append_dropWhile).symm
  have h2 : l = (l.reverse.dropWhile (·.isEmpty)).reverse ++ (l.reverse.takeWhile (·.isEmpty)).reverse := by
    have := congrArg List.reverse h1
    rwa [List.reverse_reverse, List.reverse_append] at this
  have hlen : (l.reverse.dropWhile (·.isEmpty)).length + (l.reverse.takeWhile (·.isEmpty)).length = l.length := by
    have := congrArg List.length h2
    simp only [List.length_append, List.length_reverse] at this
    omega
  have h3 : l.reverse.takeWhile (·.isEmpty) = List.replicate (l.length - fullN l) [] := by
    rw [List.eq_replicate_iff]
    refine ⟨by unfold fullN; omega, fun t ht => ?_⟩
    have h5 : (l.reverse.takeWhile (·.isEmpty)).all (·.isEmpty) = true := List.all_takeWhile
    have := List.all_eq_true.1 h5 t ht
    simpa using this
  have h4 : (l.reverse.dropWhile (·.isEmpty)).reverse = l.take (fullN l) := by
    conv => rhs; rw [h2]
    rw [List.take_left' (by simp [fullN])]
  rw [h3, h4, List.reverse_replicate] at h2
  exact h2
theorem litF_lines (l : List (List Int)) : litF l 2 = linesF l := by
  conv => rhs; rw [full_split l]
  rw [linesF_app, linesF_rep]
  unfold litF endsC
  rw [if_pos rfl]
  have hf := fullN_le l
  rcases Nat.eq_zero_or_pos (fullN l) with h | h
  · rw [if_pos h, h]; simp [litGo, linesF]
  · rw [if_neg (by omega), List.replicate_succ, ← litGo_lines (l.take (fullN l)) (by intro e; have := congrArg List.length e; rw [List.length_take, List.length_nil] at this; omega)]
    simp

/-! ### Words -/
theorem flow_go {g : Nat} {w : List Int} {m : List (List Int)} (hw : w ≠ []) : ∀ e, flowGo false e (List.replicate g [] ++ w :: m) = between (e + g) ++ w ++ flowGo false 0 m := by
  induction g with
  | zero =>
    intro e
    rw [List.replicate_zero, List.nil_append, flowGo_cons (by simp [hw])]; rfl
  | succ g ih =>
    intro e
    rw [List.replicate_succ, List.cons_append, flowGo_empty rfl (by simp), ih, show e + 1 + g = e + (g + 1) by omega]
theorem blk_go {g : Nat} {w : List Int} {m : List (List Int)} (hw : w ≠ []) (s : Option (List Int)) : ∀ e, blkGo s e (List.replicate g [] ++ w :: m) = sep s (e + g) w ++ w ++ blkGo (some w) 0 m := by
  induction g with
  | zero => intro e; rw [List.replicate_zero, List.nil_append, blkGo_cons hw]; rfl
  | succ g ih => intro e; rw [List.replicate_succ, List.cons_append, blkGo_empty rfl, ih, show e + 1 + g = e + (g + 1) by omega]
theorem fullN_full {l : List (List Int)} {w : List Int} (hw : w ≠ []) : fullN (l ++ [w]) = (l ++ [w]).length := by
  unfold fullN
  rw [List.reverse_append, List.reverse_singleton, List.singleton_append, List.dropWhile_cons, if_neg (by simp [hw])]
  simp
theorem trims_snoc (n : Nat) : ∀ (i : Nat) (l : List (List Int)) (x : List Int), trims n i (l ++ [x]) = trims n i l ++ [trimAt n (i + l.length) x]
  | i, [], x => by simp [trims]
  | i, t :: r, x => by
    simp only [trims, List.cons_append, trims_snoc n (i + 1) r x, List.length_cons]
    rw [show i + 1 + r.length = i + (r.length + 1) by omega]
theorem trimAt_nil (n i : Nat) : trimAt n i [] = [] := by unfold trimAt backI; simp
theorem trims_rep (n : Nat) (i : Nat) (l : List (List Int)) (g : Nat) : trims n i (l ++ List.replicate g []) = trims n i l ++ List.replicate g [] := by
  induction g with
  | zero => simp
  | succ g ih => rw [List.replicate_succ', ← List.append_assoc, trims_snoc, ih, trimAt_nil, ← List.append_assoc]
theorem backI_snoc {l : List Int} {c : Int} (h : blankI c = true) : backI (l ++ [c]) = backI l := by
  unfold backI; rw [List.reverse_append, List.reverse_singleton, List.singleton_append, List.dropWhile_cons, if_pos h]
theorem backI_keep {l : List Int} {c : Int} (h : blankI c = false) : backI (l ++ [c]) = l ++ [c] := by
  unfold backI; rw [List.reverse_append, List.reverse_singleton, List.singleton_append, List.dropWhile_cons, if_neg (by rw [h]; decide)]; simp
/-- A word, as it stands in a line: with blanks ahead, with a blank behind. -/
def padW (a b : Bool) (c : Int) : List Int := (if a then [32, 9] else []) ++ [c] ++ (if b then [32] else [])
theorem trimAt_pad {n p : Nat} {a b : Bool} {c : Int} (hc : blankI c = false) (ha : a = true → 0 < p) (hb : b = true → p + 1 < n) : trimAt n p (padW a b c) = [c] := by
  have h32 : blankI 32 = true := by decide
  have h9 : blankI 9 = true := by decide
  have e1 : backI [c, 32] = [c] := by
    rw [show [c, 32] = ([] ++ [c]) ++ [32] by rfl, backI_snoc h32, backI_keep hc]; rfl
  have e2 : backI [c] = [c] := backI_keep (l := []) hc
  unfold trimAt padW
  cases a <;> cases b <;> simp only [Bool.false_eq_true, if_false, if_true, List.nil_append, List.append_nil, List.cons_append] <;> split <;> rename_i h1 <;> split <;> rename_i h2 <;>
    simp_all [List.dropWhile_cons]

/-! ### Lines that begin with a blank -/
def spW (i : Nat) : List Int := if i % 2 = 1 then [32, 98] else [97]
theorem spW_ne (i : Nat) : spW i ≠ [] := by unfold spW; split <;> simp
theorem spW_sp (i : Nat) : spacedI (spW i) = decide (i % 2 = 1) := by
  unfold spW
  by_cases h : i % 2 = 1
  · rw [if_pos h, decide_eq_true h]; rfl
  · rw [if_neg h, decide_eq_false h]; rfl
theorem spW_len (i : Nat) : (spW i).length ≤ 2 := by unfold spW; split <;> simp
structure SpP (i : Nat) (ls : List (List Int)) (want : List Int) : Prop where
  hb : ∀ m, blkGo none 0 (ls ++ m) = want ++ blkGo (if i = 0 then none else some (spW (i - 1))) 0 m
  h0 : i = 0 → ls = [] ∧ want = []
  h1 : 0 < i → ∃ r, ls = r ++ [spW (i - 1)]
  hl : ls.length ≤ 4 * i
  hw : want.length ≤ 6 * i
  hm : ∀ t ∈ ls, t.length ≤ 2
theorem SpP.zero : SpP 0 [] [] := ⟨fun m => by simp, fun _ => ⟨rfl, rfl⟩, fun h => by omega, by simp, by simp, fun t h => by simp at h⟩
theorem SpP.first {ls : List (List Int)} {want : List Int} (h : SpP 0 ls want) : SpP 1 (ls ++ [spW 0]) (want ++ spW 0) := by
  obtain ⟨rfl, rfl⟩ := h.h0 rfl
  refine ⟨fun m => ?_, fun h => by omega, fun _ => ⟨[], rfl⟩, by simp, by have := spW_len 0; simp; omega, fun t h => ?_⟩
  · rw [List.nil_append, List.singleton_append, blkGo_cons (spW_ne 0)]; rfl
  · simp at h; subst h; exact spW_len 0
theorem SpP.step {i g : Nat} {ls : List (List Int)} {want : List Int} (h : SpP i ls want) (hi : 0 < i) (hg : g ≤ 3) :
    SpP (i + 1) (ls ++ List.replicate g [] ++ [spW i]) (want ++ [10] ++ List.replicate g 10 ++ spW i) := by
  have h2 := spW_len i
  refine ⟨fun m => ?_, fun h => by omega, fun _ => ⟨_, rfl⟩, ?_, ?_, fun t ht => ?_⟩
  · rw [List.append_assoc, List.append_assoc, h.hb, if_neg (by omega), if_neg (by omega), List.singleton_append, blk_go (spW_ne i)]
    have : (spacedI (spW (i - 1)) || spacedI (spW i)) = true := by
      rw [spW_sp, spW_sp]
      by_cases h3 : i % 2 = 1
      · simp [h3]
      · simp; omega
    simp only [sep, this, if_true, Nat.zero_add]
    rw [show between (g + 1) = [10] ++ List.replicate g 10 by unfold between; rw [if_neg (by omega), List.replicate_succ]; rfl]
    simp
  · have := h.hl; simp; omega
  · have := h.hw; simp; omega
  · simp only [List.mem_append, List.mem_singleton] at ht
    rcases ht with (ht | ht) | rfl
    · exact h.hm t ht
    · rw [List.eq_of_mem_replicate ht]; simp
    · exact h2
theorem SpP.tot {i : Nat} {ls : List (List Int)} {want : List Int} (h : SpP i ls want) (hi : i ≤ 1000) : tot ls ≤ 20000 := by
  have : ∀ l : List (List Int), (∀ t ∈ l, t.length ≤ 2) → Go.Abs.tot l ≤ 3 * l.length := by
    intro l
    induction l with
    | nil => intro _; simp [Go.Abs.tot]
    | cons t r ih =>
      intro h
      have h1 := ih (fun x hx => h x (by simp [hx]))
      have h2 := h t (by simp)
      simp only [Go.Abs.tot, List.map_cons, List.sum_cons, List.length_cons] at *
      omega
  have h1 := this ls h.hm
  have h2 := h.hl
  omega
theorem SpP.fin {i : Nat} {ls : List (List Int)} {want : List Int} (h : SpP i ls want) (hi : 0 < i) : blkF ls 1 = want := by
  obtain ⟨r, rfl⟩ := h.h1 hi
  have h2 := h.hb []
  unfold blkF endsC
  rw [fullN_full (spW_ne _), List.take_length, if_neg (by decide), if_pos (.inl rfl), List.append_nil]
  rw [List.append_nil] at h2
  rw [h2]
  simp [blkGo]

/-! ### Words -/
structure WdP (n i : Nat) (b : Bool) (ls bs : List (List Int)) (want : List Int) : Prop where
  hf : ∀ m, 0 < i → flowGo true 0 (bs ++ m) = want ++ flowGo false 0 m
  hb : ∀ m, 0 < i → ∃ w, spacedI w = false ∧ blkGo none 0 (bs ++ m) = want ++ blkGo (some w) 0 m
  ht : ∀ k, (ls.length < k ∨ (ls.length = k ∧ i = n)) → trims k 0 ls = bs
  h0 : i = 0 → ls = [] ∧ bs = [] ∧ want = []
  h1 : 0 < i → ∃ r w, bs = r ++ [w] ∧ w ≠ []
  he : ls.length = bs.length
  hl : ls.length ≤ 4 * i
  hw : want.length ≤ 5 * i
  hm : ∀ t ∈ ls, t.length ≤ 4
  hm2 : ∀ t ∈ bs, t.length ≤ 4
theorem WdP.zero (n : Nat) (b : Bool) : WdP n 0 b [] [] [] :=
  ⟨fun m h => by omega, fun m h => by omega, fun k h => rfl, fun _ => ⟨rfl, rfl, rfl⟩, fun h => by omega, rfl, by simp, by simp, fun t h => by simp at h, fun t h => by simp at h⟩
theorem padW_len (a b : Bool) (c : Int) : (padW a b c).length ≤ 4 := by unfold padW; cases a <;> cases b <;> simp
theorem sp_one {c : Int} (hc : blankI c = false) : spacedI [c] = false := by unfold spacedI; simp [hc]
theorem WdP.first {n : Nat} {b : Bool} {ls bs : List (List Int)} {want : List Int} {c : Int} (h : WdP n 0 b ls bs want) (hc : blankI c = false) :
    WdP n 1 b (ls ++ [padW (b && false) (b && decide (1 < n)) c]) (bs ++ [[c]]) (want ++ [c]) := by
  obtain ⟨rfl, rfl, rfl⟩ := h.h0 rfl
  refine ⟨fun m _ => ?_, fun m _ => ⟨[c], sp_one hc, ?_⟩, fun k hk => ?_, fun h => by omega, fun _ => ⟨[], [c], rfl, by simp⟩, rfl, by simp, by simp, fun t h => ?_, fun t h => ?_⟩
  · rw [List.nil_append, List.singleton_append, flowGo_first]; rfl
  · rw [List.nil_append, List.singleton_append, blkGo_cons (by simp)]; rfl
  · simp only [List.nil_append, trims]
    rw [trimAt_pad hc (by simp) (fun hb => ?_)]
    simp only [Bool.and_eq_true, decide_eq_true_eq] at hb
    rcases hk with hk | ⟨_, hk⟩
    · simpa using hk
    · omega
  · simp at h; subst h; exact padW_len ..
  · simp at h; subst h; simp
theorem WdP.step {n i g : Nat} {b : Bool} {ls bs : List (List Int)} {want : List Int} {c : Int} (h : WdP n i b ls bs want) (hc : blankI c = false) (hi : 0 < i) (hin : i < n) (hg : g ≤ 3) :
    WdP n (i + 1) b (ls ++ List.replicate g [] ++ [padW b (b && decide (i + 1 < n)) c]) (bs ++ List.replicate g [] ++ [[c]]) (want ++ between g ++ [c]) := by
  have hbt := between_len g
  refine ⟨fun m _ => ?_, fun m _ => ⟨[c], sp_one hc, ?_⟩, fun k hk => ?_, fun h => by omega, fun _ => ⟨_, [c], rfl, by simp⟩, ?_, ?_, ?_, fun t ht => ?_, fun t ht => ?_⟩
  · rw [List.append_assoc, List.append_assoc, h.hf _ hi, List.singleton_append, flow_go (by simp)]
    simp
  · obtain ⟨w, hw, hb⟩ := h.hb (List.replicate g [] ++ ([[c]] ++ m)) hi
    rw [List.append_assoc, List.append_assoc, hb, List.singleton_append, blk_go (by simp)]
    simp only [sep, hw, sp_one hc, Bool.or_self, Bool.false_eq_true, if_false, Nat.zero_add]
    simp
  · have hk2 : ls.length + g + 1 < k ∨ (ls.length + g + 1 = k ∧ i + 1 = n) := by
      simp only [List.length_append, List.length_replicate, List.length_singleton] at hk
      exact hk
    rw [trims_snoc, trims_rep, h.ht k (.inl (by omega)), trimAt_pad hc]
    · intro _
      simp only [List.length_append, List.length_replicate]
      have : ls ≠ [] := fun e => by
        have := h.he; obtain ⟨r, w, hr, _⟩ := h.h1 hi
        rw [e, hr] at this; simp at this
      have := List.length_pos_iff.2 this
      omega
    · intro hb
      simp only [Bool.and_eq_true, decide_eq_true_eq] at hb
      simp only [List.length_append, List.length_replicate]
      omega
  · have := h.he; simp; omega
  · have := h.hl; simp; omega
  · have := h.hw; simp; omega
  · simp only [List.mem_append, List.mem_singleton] at ht
    rcases ht with (ht | ht) | rfl
    · exact h.hm t ht
    · rw [List.eq_of_mem_replicate ht]; simp
    · exact padW_len ..
  · simp only [List.mem_append, List.mem_singleton] at ht
    rcases ht with (ht | ht) | rfl
    · exact h.hm2 t ht
    · rw [List.eq_of_mem_replicate ht]; simp
    · simp
theorem tot_four {l : List (List Int)} (h : ∀ t ∈ l, t.length ≤ 4) : tot l ≤ 5 * l.length := by
  induction l with
  | nil => simp [tot]
  | cons t r ih =>
    have h1 := ih (fun x hx => h x (by simp [hx]))
    have h2 := h t (by simp)
    simp only [tot, List.map_cons, List.sum_cons, List.length_cons] at *
    omega
theorem WdP.fin {n i : Nat} {b : Bool} {ls bs : List (List Int)} {want : List Int} (h : WdP n i b ls bs want) (hi : 0 < i) (hn : i = n) :
    flowF ls = want ∧ blkF bs 1 = want ∧ blkF bs 0 = want ++ [10] := by
  obtain ⟨r, w, hr, hw⟩ := h.h1 hi
  have h2 := h.hf [] hi
  obtain ⟨u, _, h3⟩ := h.hb [] hi
  have hfu : fullN bs = bs.length := by rw [hr]; exact fullN_full hw
  have hpos : 0 < bs.length := by rw [hr]; simp
  rw [List.append_nil] at h2 h3
  refine ⟨?_, ?_, ?_⟩
  · unfold flowF
    rw [h.ht _ (.inr ⟨rfl, hn⟩), h2]; simp [flowGo]
  · unfold blkF endsC
    rw [hfu, List.take_length, if_neg (by decide), if_pos (.inl rfl), h3]; simp [blkGo]
  · unfold blkF endsC
    rw [hfu, List.take_length, if_neg (by decide), if_neg (by omega), h3]; simp [blkGo]
end Go.Abs
