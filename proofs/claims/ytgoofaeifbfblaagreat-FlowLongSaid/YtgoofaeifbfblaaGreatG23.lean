/-
  Texts Iy, MN, Iz, one behind the other.
-/
import Derived.Test.YtgoofaeifbfblaaGreatG21
import Derived.Test.YtgoofaeifbfblaaGreatG22
set_option linter.unusedVariables false
set_option linter.unusedSimpArgs false
/-
  Chapter 13: lists of words: plain facts.
-/

namespace Go.Proofs.YtgoofaeifbfblaaGreat
open Go.Abs
set_option linter.unusedVariables false
set_option linter.unusedSimpArgs false
abbrev Ws := List (List Int × Nat)
def GoodW (ws : Ws) : Prop := ∀ x ∈ ws, Lets x.1 ∧ 0 < x.1.length
def sepT (mp : Bool) (i : Nat) : List Int := if (mp && decide (i % 2 = 0)) = true then [58, 32] else [44]
def pieceT (n : Nat) (mp tl : Bool) (i : Nat) (x : List Int × Nat) : List Int := gapT x.2 ++ (x.1 ++ (if (decide (i + 1 < n) || tl) = true then gapT x.2 ++ sepT mp i else []))
def wordsT (n : Nat) (mp tl : Bool) : Nat → Ws → List Int
  | _, [] => []
  | i, x :: r => pieceT n mp tl i x ++ wordsT n mp tl (i + 1) r
set_option maxHeartbeats 4000000 in
theorem words_snoc {n : Nat} {mp tl : Bool} {x : List Int × Nat} : ∀ {l : Ws} {i : Nat}, wordsT n mp tl i (l ++ [x]) = wordsT n mp tl i l ++ pieceT n mp tl (i + l.length) x
  | [], i => by simp [wordsT]
  | y :: l, i => by
    rw [List.cons_append, wordsT, words_snoc (l := l), wordsT, List.append_assoc, List.length_cons, show i + 1 + l.length = i + (l.length + 1) by omega]
def nextG (gl : Nat) : Ws → Nat
  | [] => gl
  | y :: _ => y.2
def restT (n : Nat) (mp tl : Bool) (gl : Nat) (z : Int) : Nat → Ws → List Int
  | _, [] => [z]
  | i, x :: r => x.1 ++ ((if (decide (i + 1 < n) || tl) = true then gapT x.2 ++ sepT mp i else []) ++ (gapT (nextG gl r) ++ restT n mp tl gl z (i + 1) r))
set_option maxHeartbeats 4000000 in
theorem words_rest {n : Nat} {mp tl : Bool} {gl : Nat} {z : Int} : ∀ {ws : Ws} {i : Nat}, wordsT n mp tl i ws ++ (gapT gl ++ [z]) = gapT (nextG gl ws) ++ restT n mp tl gl z i ws
  | [], i => rfl
  | x :: r, i => by
    rw [wordsT, List.append_assoc, words_rest (ws := r), restT, pieceT]
    simp only [List.append_assoc]
    rfl
set_option maxHeartbeats 4000000 in
theorem item_word {ls : List Ln} {d : Int} {k : Nat} {N N1 : Int × Int → NodeR} {q p : Int × Int} {w t t' : List Int} {c : Int} (hw : Lets w) (h0 : 0 < w.length) (hq : Tx ls q (w ++ t')) (hN : N q = .ok ([wordE w], (q.1, q.2 + (w.length : Nat)), false)) (hm : mustF ls (-1) (q.1, q.2 + (w.length : Nat)) = .ok p) (hp : Tx ls p (c :: t)) (hc : c = 44 ∨ c = 93) : itemF ls (-1) d k N N1 q = .ok ([wordE w], (q.1, q.2 + (w.length : Nat))) := by
  obtain ⟨x, w', rfl⟩ : ∃ x w', w = x :: w' := by cases w with | nil => simp at h0 | cons x w' => exact ⟨x, w', rfl⟩
  have hx := hw x (by simp)
  unfold itemF
  rw [hq.loose_f (by omega) (by omega), if_neg Bool.false_ne_true, hN]
  dsimp only
  rw [hm]
  dsimp only
  have hsg : signF ls p ((q.1, q.2 + ((x :: w').length : Nat)), false) = false := by
    unfold signF
    rw [hp.loose_f (by omega) (by omega)]
    simp
  unfold keyB
  rw [hsg, if_pos (by simp)]
set_option maxHeartbeats 4000000 in
theorem seq_entries {ls : List Ln} {d : Int} {k n : Nat} {tl : Bool} {gl : Nat} {NN : Nat → Int × Int → NodeR} {N1 : Int × Int → NodeR} (hN : ∃ N, NN k = nodeS ls (-1) d false N k) : ∀ (ws : Ws) (i f : Nat) (q : Int × Int) (acc : List EvV), i + ws.length = n → GoodW ws → ws.length < f → Tx ls q (restT n false tl gl 93 i ws) → ∃ e, entriesF ls (-1) (itemF ls (-1) d k (NN k) N1) 93 f q acc = .ok (acc ++ ws.map (fun x => wordE x.1), e)
  | [], i, f, q, acc, _, _, hf, h => by
    obtain ⟨f, rfl⟩ : ∃ j, f = j + 1 := ⟨f - 1, by simp at hf; omega⟩
    have h : Tx ls q [93] := h
    rw [entriesF, if_pos (by rw [h.is (by decide)]; rfl)]
    exact ⟨q, by simp⟩
  | x :: r, i, f, q, acc, hi, hg, hf, h => by
    obtain ⟨f, rfl⟩ : ∃ j, f = j + 1 := ⟨f - 1, by simp at hf; omega⟩
    obtain ⟨N, hN0⟩ := hN
    obtain ⟨hw, hw0⟩ := hg x (by simp)
    have hx : isF ls q 93 = false := by
      obtain ⟨x, g⟩ := x
      dsimp only at hw hw0
      obtain ⟨y, w', rfl⟩ : ∃ y w', x = y :: w' := by cases x with | nil => simp at hw0 | cons y w' => exact ⟨y, w', rfl⟩
      have hy := hw y (by simp)
      rw [restT, List.cons_append] at h
      rw [h.is (by omega)]
      exact beq_eq_false_iff_ne.2 (by omega)
    rw [entriesF, if_neg (by rw [hx]; exact Bool.false_ne_true)]
    rw [restT] at h
    by_cases hc : (decide (i + 1 < n) || tl) = true
    · rw [if_pos hc, show sepT false i = [44] from rfl, List.append_assoc] at h
      obtain ⟨w1, w2⟩ := word_T (n := -1) (d := d) (bk := false) (N := N) (k := k) (by decide) rfl hw hw0 (.inl (by decide)) h
      rw [← hN0] at w1
      obtain ⟨p, m1, m2⟩ := gap_on (n := -1) (b := []) (by decide) w2 (fun c hc => by simp at hc) ⟨by decide, by decide, by decide⟩
      rw [item_word hw hw0 h w1 (must_of m1) m2 (.inl rfl)]
      dsimp only
      rw [must_of m1]
      dsimp only
      rw [if_neg (by rw [m2.is (by decide)]; decide)]
      have hr : ∃ c t, Beg c ∧ restT n false tl gl 93 (i + 1) r = c :: t := by
        cases r with
        | nil => exact ⟨93, [], ⟨by decide, by decide, by decide⟩, rfl⟩
        | cons y r =>
          obtain ⟨hy, hy0⟩ := hg y (by simp)
          obtain ⟨y, g⟩ := y
          dsimp only at hy hy0
          obtain ⟨z, w', rfl⟩ : ∃ z w', y = z :: w' := by cases y with | nil => simp at hy0 | cons z w' => exact ⟨z, w', rfl⟩
          exact ⟨z, _, let_beg (hy z (by simp)), rfl⟩
      obtain ⟨c, t, hb, ht⟩ := hr
      have h3 := m2.next (by decide)
      rw [ht] at h3
      obtain ⟨p3, n1, n2⟩ := gap_on (n := -1) (b := []) (by decide) h3 (fun c hc => by simp at hc) hb
      rw [must_of n1]
      dsimp only
      rw [← ht] at n2
      obtain ⟨e, he⟩ := seq_entries ⟨N, hN0⟩ r (i + 1) f p3 (acc ++ [wordE x.1]) (by simp at hi; omega) (fun y hy => hg y (by simp [hy])) (by simp at hf; omega) n2
      exact ⟨e, by rw [he]; simp⟩
    · rw [if_neg hc, List.nil_append] at h
      obtain rfl : r = [] := by
        cases r with
        | nil => rfl
        | cons y r => exfalso; apply hc; simp at hi; rw [decide_eq_true (by omega)]; rfl
      have h : Tx ls q (x.1 ++ (gapT gl ++ (93 :: []))) := h
      obtain ⟨w1, w2⟩ := word_T (n := -1) (d := d) (bk := false) (N := N) (k := k) (by decide) rfl hw hw0 (.inl (by decide)) h
      rw [← hN0] at w1
      obtain ⟨p, m1, m2⟩ := gap_on (n := -1) (b := []) (by decide) w2 (fun c hc => by simp at hc) ⟨by decide, by decide, by decide⟩
      rw [item_word hw hw0 h w1 (must_of m1) m2 (.inr rfl)]
      dsimp only
      rw [must_of m1]
      dsimp only
      rw [if_pos (by rw [m2.is (by decide)]; rfl), if_pos (by rw [m2.is (by decide)]; rfl)]
      exact ⟨p, rfl⟩
set_option maxHeartbeats 4000000 in
theorem pair_words {ls : List Ln} {d : Int} {k : Nat} {N : Nat → Int × Int → NodeR} {NN : Int × Int → NodeR} {q : Int × Int} {w v t : List Int} {g h g' : Nat} {c : Int} (hN : NN = nodeS ls (-1) d false N k) (hw : Lets w) (hw0 : 0 < w.length) (hv : Lets v) (hv0 : 0 < v.length) (hc : c = 44 ∨ c = 125) (hq : Tx ls q (w ++ (gapT g ++ (58 :: 32 :: (gapT h ++ (v ++ (gapT g' ++ (c :: t)))))))) :
    ∃ e, pairF ls (-1) NN q = .ok ([wordE w, wordE v], e) ∧ Tx ls e (gapT g' ++ (c :: t)) := by
  obtain ⟨w1, w2⟩ := word_T (n := -1) (d := d) (bk := false) (N := N) (k := k) (by decide) rfl hw hw0 (.inr ⟨rfl, _, rfl⟩) hq
  rw [← hN] at w1
  obtain ⟨p, m1, m2⟩ := gap_on (n := -1) (b := []) (by decide) w2 (fun c hc => by simp at hc) ⟨by decide, by decide, by decide⟩
  have h3 := m2.next (by decide)
  obtain ⟨y, v', hv1⟩ : ∃ y v', v = y :: v' := by cases v with | nil => simp at hv0 | cons y v' => exact ⟨y, v', rfl⟩
  have hy := hv y (by rw [hv1]; simp)
  have h4 : Tx ls (p.1, p.2 + 1) ([32] ++ (gapT h ++ (y :: (v' ++ (gapT g' ++ (c :: t)))))) := by rw [hv1] at h3; exact h3
  obtain ⟨p4, n1, n2⟩ := gap_on (n := -1) (b := [32]) (by decide) h4 (fun c hc => by simp at hc; subst hc; rfl) (let_beg hy)
  have hn44 : isF ls p4 44 = false := by rw [n2.is (by omega)]; exact beq_eq_false_iff_ne.2 (by omega)
  have hn125 : isF ls p4 125 = false := by rw [n2.is (by omega)]; exact beq_eq_false_iff_ne.2 (by omega)
  have n3 : Tx ls p4 (v ++ (gapT g' ++ (c :: t))) := by rw [hv1]; exact n2
  obtain ⟨v1, v2⟩ := word_T (n := -1) (d := d) (bk := false) (N := N) (k := k) (by decide) rfl hv hv0 (.inl (by rcases hc with h | h <;> rw [h] <;> decide)) n3
  rw [← hN] at v1
  refine ⟨_, ?_, v2⟩
  have hl : looseF ls q 63 = false := by
    obtain ⟨x, w', rfl⟩ : ∃ x w', w = x :: w' := by cases w with | nil => simp at hw0 | cons x w' => exact ⟨x, w', rfl⟩
    have hx := hw x (by simp)
    exact hq.loose_f (by omega) (by omega)
  unfold pairF
  rw [hl, if_neg Bool.false_ne_true, w1]
  unfold keyedF
  dsimp only
  unfold valueF
  dsimp only
  rw [must_of m1]
  dsimp only
  have hsg : signF ls p ((q.1, q.2 + (w.length : Nat)), false) = true := by unfold signF; rw [m2.colon]; rfl
  rw [hsg, if_neg (by decide), must_of n1]
  dsimp only
  rw [if_neg (by rw [hn44, hn125]; decide), v1]
  rfl
set_option maxHeartbeats 4000000 in
theorem map_entries {ls : List Ln} {d : Int} {k n : Nat} {tl : Bool} {gl : Nat} {NN : Int × Int → NodeR} (hN : ∃ N, NN = nodeS ls (-1) d false N k) (hn : n % 2 = 0) : ∀ (ws : Ws) (i f : Nat) (q : Int × Int) (acc : List EvV), i % 2 = 0 → i + ws.length = n → GoodW ws → ws.length < f → Tx ls q (restT n true tl gl 125 i ws) → ∃ e, entriesF ls (-1) (pairF ls (-1) NN) 125 f q acc = .ok (acc ++ ws.map (fun x => wordE x.1), e)
  | [], i, f, q, acc, _, _, _, hf, h => by
    obtain ⟨f, rfl⟩ : ∃ j, f = j + 1 := ⟨f - 1, by simp at hf; omega⟩
    have h : Tx ls q [125] := h
    rw [entriesF, if_pos (by rw [h.is (by decide)]; rfl)]
    exact ⟨q, by simp⟩
  | [x], i, f, q, acc, h2, hi, _, _, _ => by simp at hi; omega
  | x :: v :: r, i, f, q, acc, h2, hi, hg, hf, h => by
    obtain ⟨f, rfl⟩ : ∃ j, f = j + 1 := ⟨f - 1, by simp at hf; omega⟩
    obtain ⟨N, hN0⟩ := hN
    obtain ⟨hw, hw0⟩ := hg x (by simp)
    obtain ⟨hv, hv0⟩ := hg v (by simp)
    have hx : isF ls q 125 = false := by
      obtain ⟨x, g⟩ := x
      dsimp only at hw hw0
      obtain ⟨y, w', rfl⟩ : ∃ y w', x = y :: w' := by cases x with | nil => simp at hw0 | cons y w' => exact ⟨y, w', rfl⟩
      have hy := hw y (by simp)
      rw [restT, List.cons_append] at h
      rw [h.is (by omega)]
      exact beq_eq_false_iff_ne.2 (by omega)
    rw [entriesF, if_neg (by rw [hx]; exact Bool.false_ne_true)]
    rw [restT, if_pos (by simp at hi; rw [decide_eq_true (by omega)]; rfl), show sepT true i = [58, 32] by unfold sepT; rw [decide_eq_true h2]; rfl, List.append_assoc, restT] at h
    by_cases hc : (decide (i + 1 + 1 < n) || tl) = true
    · rw [if_pos hc, show sepT true (i + 1) = [44] by unfold sepT; rw [decide_eq_false (by omega)]; rfl, List.append_assoc] at h
      obtain ⟨e, e1, e2⟩ := pair_words (c := 44) hN0 hw hw0 hv hv0 (.inl rfl) h
      rw [e1]
      dsimp only
      obtain ⟨p, m1, m2⟩ := gap_on (n := -1) (b := []) (by decide) e2 (fun c hc => by simp at hc) ⟨by decide, by decide, by decide⟩
      rw [must_of m1]
      dsimp only
      rw [if_neg (by rw [m2.is (by decide)]; decide)]
      have hr : ∃ c t, Beg c ∧ restT n true tl gl 125 (i + 1 + 1) r = c :: t := by
        cases r with
        | nil => exact ⟨125, [], ⟨by decide, by decide, by decide⟩, rfl⟩
        | cons y r =>
          obtain ⟨hy, hy0⟩ := hg y (by simp)
          obtain ⟨y, g⟩ := y
          dsimp only at hy hy0
          obtain ⟨z, w', rfl⟩ : ∃ z w', y = z :: w' := by cases y with | nil => simp at hy0 | cons z w' => exact ⟨z, w', rfl⟩
          exact ⟨z, _, let_beg (hy z (by simp)), rfl⟩
      obtain ⟨c, t, hb, ht⟩ := hr
      have h3 := m2.next (by decide)
      rw [ht] at h3
      obtain ⟨p3, n1, n2⟩ := gap_on (n := -1) (b := []) (by decide) h3 (fun c hc => by simp at hc) hb
      rw [must_of n1]
      dsimp only
      rw [← ht] at n2
      obtain ⟨e, he⟩ := map_entries ⟨N, hN0⟩ hn r (i + 1 + 1) f p3 (acc ++ [wordE x.1, wordE v.1]) (by omega) (by simp at hi; omega) (fun y hy => hg y (by simp [hy])) (by simp at hf; omega) n2
      exact ⟨e, by rw [he]; simp⟩
    · rw [if_neg hc, List.nil_append] at h
      obtain rfl : r = [] := by
        cases r with
        | nil => rfl
        | cons y r => exfalso; apply hc; simp at hi; rw [decide_eq_true (by omega)]; rfl
      obtain ⟨e, e1, e2⟩ := pair_words (c := 125) (t := []) hN0 hw hw0 hv hv0 (.inr rfl) h
      rw [e1]
      dsimp only
      obtain ⟨p, m1, m2⟩ := gap_on (n := -1) (b := []) (by decide) e2 (fun c hc => by simp at hc) ⟨by decide, by decide, by decide⟩
      rw [must_of m1]
      dsimp only
      rw [if_pos (by rw [m2.is (by decide)]; rfl), if_pos (by rw [m2.is (by decide)]; rfl)]
      exact ⟨p, rfl⟩
/-! ### The whole text -/
def listT (mp tl : Bool) (gl : Nat) (ws : Ws) : List Int := (if mp then 123 else 91) :: (wordsT ws.length mp tl 0 ws ++ (gapT gl ++ [if mp then 125 else 93]))
def listE (mp : Bool) (ws : Ws) : List EvV := openE (if mp then 5 else 3) tr0 :: (ws.map (fun x => wordE x.1) ++ [shutE (if mp then 6 else 4)])
set_option maxHeartbeats 4000000 in
theorem list_whole {ls : List Ln} {mp tl : Bool} {gl : Nat} {ws : Ws} (hg : GoodW ws) (hm : mp = true → ws.length % 2 = 0) (hl : ws.length ≤ 100) (h : Tx ls (0, 0) (listT mp tl gl ws)) : ∃ e, wholeF ls (-1) 0 false (0, 0) = .ok (listE mp ws, e, true) := by
  have hmu : 100 < mu (0, 0) + 1 := by decide
  have hN : ∀ k, ∃ N, nodeF ls (-1) 0 false 199 k = nodeS ls (-1) 0 false N k := fun k => node_any
  unfold wholeF
  rw [show nodeF ls (-1) 0 false 200 0 (0, 0) = nodeS _ _ _ _ (nodeF ls (-1) 0 false 199) 0 (0, 0) from rfl]
  generalize nodeF ls (-1) 0 false 199 = NN at *
  have hb : ∀ z : Int, z = 93 ∨ z = 125 → ∃ c t, Beg c ∧ restT ws.length mp tl gl z 0 ws = c :: t := fun z hz => by
    cases ws with
    | nil => exact ⟨z, [], ⟨by rcases hz with h | h <;> rw [h] <;> decide, by omega, by omega⟩, rfl⟩
    | cons y r =>
      obtain ⟨hy, hy0⟩ := hg y (by simp)
      obtain ⟨y, g⟩ := y
      dsimp only at hy hy0
      obtain ⟨z, w', rfl⟩ : ∃ z w', y = z :: w' := by cases y with | nil => simp at hy0 | cons z w' => exact ⟨z, w', rfl⟩
      exact ⟨z, _, let_beg (hy z (by simp)), rfl⟩
  unfold listT at h
  rw [words_rest] at h
  cases mp
  · simp only [Bool.false_eq_true, if_false] at h ⊢
    obtain ⟨c, t, hbc, ht⟩ := hb 93 (.inl rfl)
    rw [coll_node h (.inl rfl)]
    unfold collF
    rw [room_zero (by decide), if_neg (by decide)]
    simp only [show ¬ (91 : Int) = 123 by decide, if_false]
    have h1 := h.next (by decide)
    rw [ht] at h1
    obtain ⟨q, m1, m2⟩ := gap_on (n := -1) (b := []) (by decide) h1 (fun c hc => by simp at hc) hbc
    rw [must_of m1]
    dsimp only
    rw [← ht] at m2
    obtain ⟨e, he⟩ := seq_entries (d := 0) (k := 0 + 1) (NN := NN) (N1 := NN (0 + 2)) (hN (0 + 1)) ws 0 (mu (0, 0) + 1) q [] (Nat.zero_add _) hg (by omega) m2
    rw [he]
    exact ⟨_, rfl⟩
  · simp only [if_true] at h ⊢
    obtain ⟨c, t, hbc, ht⟩ := hb 125 (.inr rfl)
    rw [coll_node h (.inr rfl)]
    unfold collF
    rw [room_zero (by decide), if_neg (by decide)]
    simp only [if_true]
    have h1 := h.next (by decide)
    rw [ht] at h1
    obtain ⟨q, m1, m2⟩ := gap_on (n := -1) (b := []) (by decide) h1 (fun c hc => by simp at hc) hbc
    rw [must_of m1]
    dsimp only
    rw [← ht] at m2
    obtain ⟨e, he⟩ := map_entries (d := 0) (k := 0 + 1) (NN := NN (0 + 1)) (hN (0 + 1)) (hm rfl) ws 0 (mu (0, 0) + 1) q [] rfl (Nat.zero_add _) hg (by omega) m2
    rw [he]
    exact ⟨_, rfl⟩
/-! ### Its lines -/
set_option maxHeartbeats 4000000 in
theorem cut_len : ∀ T : List Int, (cutL T).1.length + (cutL T).2.length ≤ T.length ∧ ∀ l ∈ (cutL T).2, l.length ≤ T.length
  | [] => ⟨Nat.le_refl _, fun l h => by simp [cutL] at h⟩
  | c :: t => by
    obtain ⟨h1, h2⟩ := cut_len t
    by_cases h : c = 10
    · subst h
      rw [cut_nl]
      refine ⟨by simp; omega, fun l hl => ?_⟩
      rcases List.mem_cons.1 hl with rfl | hl
      · simp; omega
      · have := h2 l hl; simp; omega
    · rw [cut_c h]
      refine ⟨by simp; omega, fun l hl => ?_⟩
      have := h2 l hl; simp; omega
set_option maxHeartbeats 4000000 in
theorem lineOf_small {l : List Int} (h : l.length ≤ 2000) : (lineOf l).2.length ≤ 2000 ∧ 0 ≤ (lineOf l).1 ∧ (lineOf l).1 ≤ 2000 := by
  unfold lineOf
  have h1 := List.Sublist.length_le (List.takeWhile_sublist (l := l) (· == 32))
  have h2 := List.Sublist.length_le (List.dropWhile_sublist (l := l) (· == 32))
  refine ⟨?_, ?_, ?_⟩ <;> dsimp only <;> omega
set_option maxHeartbeats 4000000 in
theorem lines_T {T : List Int} (h : ∀ c ∈ T, c = 9 ∨ c = 10 ∨ 32 ≤ c ∧ c ≤ 126) (h0 : 0 < T.length) (hb : ¬ T.getD 0 0 = 32 ∧ ¬ T.getD 0 0 = 10) (hl : ¬ T.getD (T.length - 1) 0 = 10) (h2 : T.length ≤ 1990) : Tx (readR T).1 (0, 0) T ∧ Small (readR T).1 := by
  have hg : readOk T = true := by
    unfold readOk
    rw [List.all_eq_true]
    intro c hc
    have := h c hc
    refine goodC_yes ?_ (by omega)
    unfold printI
    simp; omega
  have e : (readR T).1 = ((cutL T).1 :: (cutL T).2).map lineOf := by
    unfold readR
    rw [if_pos hg]
    show linesOf T = _
    unfold linesOf
    rw [tx_cut T [] (fun c hc => by have := h c hc; omega) h0 hl, List.nil_append]
  obtain ⟨c1, c2⟩ := cut_len T
  rw [e]
  have e0 : lineOf (cutL T).1 = (0, (cutL T).1) := by
    refine lineOf_in (k := 0) (.inr ?_)
    cases T with
    | nil => simp at h0
    | cons c t =>
      obtain ⟨b1, b2⟩ := hb
      rw [List.getD_cons_zero] at b1 b2
      rw [cut_c b2, List.getD_cons_zero]
      exact b1
  refine ⟨⟨at_mk (Int.le_refl 0) (by simp) (by rw [List.map_cons, e0]; rfl) (Int.le_refl 0), by rw [List.map_cons]; rfl⟩, by simp; omega, fun x hx => ?_⟩
  obtain ⟨l, hl, rfl⟩ := List.mem_map.1 hx
  refine lineOf_small ?_
  rcases List.mem_cons.1 hl with rfl | hl
  · omega
  · have := c2 l hl; omega
def CharsW (T : List Int) : Prop := ∀ c ∈ T, c = 9 ∨ c = 10 ∨ 32 ≤ c ∧ c ≤ 126
set_option maxHeartbeats 4000000 in
theorem CharsW.app {a b : List Int} (ha : CharsW a) (hb : CharsW b) : CharsW (a ++ b) := fun c hc => by rcases List.mem_append.1 hc with h | h; exact ha c h; exact hb c h
set_option maxHeartbeats 4000000 in
theorem gap_chars (g : Nat) : CharsW (gapT g) ∧ (gapT g).length ≤ 8 := by
  match g with
  | 0 => exact ⟨fun c hc => by simp [gapT] at hc, by decide⟩
  | 1 => exact ⟨fun c hc => by simp [gapT] at hc; omega, by decide⟩
  | 2 => exact ⟨fun c hc => by simp [gapT] at hc; omega, by decide⟩
  | 3 => exact ⟨fun c hc => by simp [gapT] at hc; omega, by decide⟩
  | g + 4 => exact ⟨fun c hc => by simp [gapT] at hc; omega, by show 1 ≤ 8; decide⟩
set_option maxHeartbeats 4000000 in
theorem sep_chars (mp : Bool) (i : Nat) : CharsW (sepT mp i) ∧ (sepT mp i).length ≤ 2 := by
  unfold sepT
  split
  · exact ⟨fun c hc => by simp at hc; omega, by decide⟩
  · exact ⟨fun c hc => by simp at hc; omega, by decide⟩
set_option maxHeartbeats 4000000 in
theorem piece_chars {n : Nat} {mp tl : Bool} {i : Nat} {x : List Int × Nat} (hx : Lets x.1) (hl : x.1.length ≤ 40) : CharsW (pieceT n mp tl i x) ∧ (pieceT n mp tl i x).length ≤ 58 := by
  have hg := gap_chars x.2
  have hs := sep_chars mp i
  have hw : CharsW x.1 := fun c hc => by have := hx c hc; omega
  unfold pieceT
  split
  · refine ⟨hg.1.app (hw.app (hg.1.app hs.1)), ?_⟩
    simp only [List.length_append]; omega
  · refine ⟨hg.1.app (hw.app (fun c hc => by simp at hc)), ?_⟩
    simp only [List.length_append, List.length_nil]; omega
set_option maxHeartbeats 4000000 in
theorem words_chars {n : Nat} {mp tl : Bool} : ∀ {ws : Ws} {i : Nat}, (∀ x ∈ ws, Lets x.1 ∧ x.1.length ≤ 40) → CharsW (wordsT n mp tl i ws) ∧ (wordsT n mp tl i ws).length ≤ 58 * ws.length
  | [], i, _ => ⟨fun c hc => by simp [wordsT] at hc, by simp [wordsT]⟩
  | x :: r, i, h => by
    obtain ⟨p1, p2⟩ := piece_chars (n := n) (mp := mp) (tl := tl) (i := i) (h x (by simp)).1 (h x (by simp)).2
    obtain ⟨q1, q2⟩ := words_chars (n := n) (mp := mp) (tl := tl) (ws := r) (i := i + 1) (fun y hy => h y (by simp [hy]))
    rw [wordsT]
    refine ⟨p1.app q1, ?_⟩
    rw [List.length_append, List.length_cons]; omega
set_option maxHeartbeats 4000000 in
theorem list_lines {mp tl : Bool} {gl : Nat} {ws : Ws} (hg : ∀ x ∈ ws, Lets x.1 ∧ x.1.length ≤ 40) (hl : ws.length ≤ 20) : CharsW (listT mp tl gl ws) ∧ (listT mp tl gl ws).length ≤ 1990 ∧ Tx (readR (listT mp tl gl ws)).1 (0, 0) (listT mp tl gl ws) ∧ Small (readR (listT mp tl gl ws)).1 := by
  obtain ⟨h1, h2⟩ := words_chars (n := ws.length) (mp := mp) (tl := tl) (i := 0) hg
  obtain ⟨g1, g2⟩ := gap_chars gl
  have hc : CharsW (listT mp tl gl ws) := by
    intro c hc
    rcases List.mem_cons.1 hc with h | h
    · cases mp <;> simp at h <;> omega
    · refine (h1.app (g1.app (fun c hc => ?_))) c h
      simp at hc
      cases mp <;> simp at hc <;> omega
  have hlen : (listT mp tl gl ws).length ≤ 1990 := by
    unfold listT
    simp only [List.length_cons, List.length_append, List.length_nil]; omega
  have hlast : (listT mp tl gl ws).getD ((listT mp tl gl ws).length - 1) 0 = if mp then 125 else 93 := by
    unfold listT
    rw [← List.append_assoc, ← List.cons_append]
    generalize (if mp = true then (123 : Int) else 91) :: (wordsT ws.length mp tl 0 ws ++ gapT gl) = L
    rw [List.length_append, List.getD_eq_getElem?_getD]
    simp
  obtain ⟨t1, t2⟩ := lines_T hc (by unfold listT; simp) (by unfold listT; rw [List.getD_cons_zero]; cases mp <;> decide) (by rw [hlast]; cases mp <;> decide) hlen
  exact ⟨hc, hlen, t1, t2⟩
end Go.Proofs.YtgoofaeifbfblaaGreat
/-
  The abstract layer, part N: structs of six parts, that are the same; elements of rows of one's own.
-/

namespace Go.Abs
/-- A struct of a number, three texts, a number and a truth. -/
class TSix (P : Program) (t : TypeId) : Prop where
  ex : ∃ (f1 f2 f3 f4 f5 f6 : Field) (k1 k5 : IntKind), P.underlying t = some (.struct #[f1, f2, f3, f4, f5, f6]) ∧ (f1.offset = 0 ∧ f2.offset = 1 ∧ f3.offset = 2 ∧ f4.offset = 3 ∧ f5.offset = 4 ∧ f6.offset = 5) ∧
    (P.underlying f1.type = some (.int k1) ∧ P.underlying f2.type = some .string ∧ P.underlying f3.type = some .string ∧ P.underlying f4.type = some .string ∧ P.underlying f5.type = some (.int k5) ∧ P.underlying f6.type = some .bool) ∧
    (aggT P f1.type = some false ∧ aggT P f2.type = some false ∧ aggT P f3.type = some false ∧ aggT P f4.type = some false ∧ aggT P f5.type = some false ∧ aggT P f6.type = some false)
  stood : P.stoodInHeld t = false
  guard : P.eqGuardType P.depth t = false
section
variable {κ : Ctx} {P : Program} {all rest : List Oper} {Q : Exit → St → Prop} {d : Option Tmp} {t : List AV} {σ : List Res} {fr : Bool} {df : List Deferred}
theorem eqIn_str {ty : TypeId} (n : Nat) (h : P.underlying ty = some .string) {a c : ByteArray} {w : World} : (Op.equalIn (n + 1) ty (.string a) (.string c)).run P w = .ok (a == c) w := by
  simp [Op.equalIn, run_und h]
theorem eqIn_bool {ty : TypeId} (n : Nat) (h : P.underlying ty = some .bool) {a c : Bool} {w : World} : (Op.equalIn (n + 1) ty (.bool a) (.bool c)).run P w = .ok (a == c) w := by
  simp [Op.equalIn, run_und h]
theorem ba_refl (x : ByteArray) : (x == x) = true := by
  cases x with
  | mk d => show (d == d) = true; exact beq_self_eq_true d
abbrev six (k : Int) (x t a : ByteArray) (s : Int) (f : Bool) : Array Value := #[.int .i64 k, .string x, .string t, .string a, .int .i64 s, .bool f]
theorem eqIn_six {ty : TypeId} (n : Nat) (h : TSix P ty) {k s : Int} {x t a : ByteArray} {f : Bool} {w : World} : (Op.equalIn (n + 1 + 1) ty (.agg (six k x t a s f)) (.agg (six k x t a s f))).run P w = .ok true w := by
  obtain ⟨f1, f2, f3, f4, f5, f6, k1, k5, h1, ⟨o1, o2, o3, o4, o5, o6⟩, ⟨u1, u2, u3, u4, u5, u6⟩, ⟨g1, g2, g3, g4, g5, g6⟩⟩ := h.ex
  have hp : (program).run P w = .ok P w := rfl
  have s1 := eqIn_int n u1 (a := k) (c := k) (w := w)
  have s2 := eqIn_str n u2 (a := x) (c := x) (w := w)
  have s3 := eqIn_str n u3 (a := t) (c := t) (w := w)
  have s4 := eqIn_str n u4 (a := a) (c := a) (w := w)
  have s5 := eqIn_int n u5 (a := s) (c := s) (w := w)
  have s6 := eqIn_bool n u6 (a := f) (c := f) (w := w)
  have p1 : (part f1.type (six k x t a s f) f1.offset).run P w = .ok (.int .i64 k) w := by simp [part, run_isAgg g1, o1]
  have p2 : (part f2.type (six k x t a s f) f2.offset).run P w = .ok (.string x) w := by simp [part, run_isAgg g2, o2]
  have p3 : (part f3.type (six k x t a s f) f3.offset).run P w = .ok (.string t) w := by simp [part, run_isAgg g3, o3]
  have p4 : (part f4.type (six k x t a s f) f4.offset).run P w = .ok (.string a) w := by simp [part, run_isAgg g4, o4]
  have p5 : (part f5.type (six k x t a s f) f5.offset).run P w = .ok (.int .i64 s) w := by simp [part, run_isAgg g5, o5]
  have p6 : (part f6.type (six k x t a s f) f6.offset).run P w = .ok (.bool f) w := by simp [part, run_isAgg g6, o6]
  rw [Op.equalIn]
  simp only [Sem.run_bind, run_und h1, Result.andThen_ok, hp, h.stood]
  simp only [beq_self_eq_true, ba_refl] at s1 s2 s3 s4 s5 s6
  generalize six k x t a s f = vs at *
  simp [s1, s2, s3, s4, s5, s6, p1, p2, p3, p4, p5, p6]
theorem act_neq_six {ty : TypeId} {k s : Int} {x tt a : ByteArray} {f : Bool} (h : TSix P ty) : AAct κ P (.bin .neq ty) [.agg [I k, .raw (.string x), .raw (.string tt), .raw (.string a), I s, B f], .agg [I k, .raw (.string x), .raw (.string tt), .raw (.string a), I s, B f]] σ (isA (B false) σ) := by
  intro φ g w vs hR hvs
  obtain ⟨v, u, rfl, hu, hv⟩ := two_vs hvs
  cases agg_raw_inv (l := [.int .i64 k, .string x, .string tt, .string a, .int .i64 s, .bool f]) hu
  cases agg_raw_inv (l := [.int .i64 k, .string x, .string tt, .string a, .int .i64 s, .bool f]) hv
  refine ⟨.bool false, w, g, _, σ, ?_, hR, GE.refl _ _, .raw _, isA_mk⟩
  show (binOp .neq ty (.agg (six k x tt a s f)) (.agg (six k x tt a s f))).run P w = _
  have he : (Op.equal ty (.agg (six k x tt a s f)) (.agg (six k x tt a s f))).run P w = .ok true w := by
    have := eqIn_six (w := w) (k := k) (s := s) (x := x) (t := tt) (a := a) (f := f) 9998 h
    simp only [Op.equal, show Op.maxDepth = 9998 + 1 + 1 from rfl, this]
  simp only [binOp, Sem.run_bind, he]
  rfl
theorem y_neq_six {dm : Bool} {ty : TypeId} {k s : Int} {x tt a : ByteArray} {f : Bool} [h : TSix P ty] (hK : goK κ dm P all Q d rest ⟨t, σ, fr, df⟩ (B false) σ) : binC κ dm P all Q d rest ⟨t, σ, fr, df⟩ .neq ty (.agg [I k, .raw (.string x), .raw (.string tt), .raw (.string a), I s, B f]) (.agg [I k, .raw (.string x), .raw (.string tt), .raw (.string a), I s, B f]) :=
  ⟨by unfold calmT; rw [h.guard]; rfl, actC_q (act_neq_six h) hK⟩
end
theorem cells_at {sz : Nat} (hsz : 0 < sz) : ∀ (l : List AV) (cs : List AV), (∀ (i : Nat) (x : AV), l[i]? = some x → x.cells.length = sz) → ∀ (i : Nat) (x : AV), l[i]? = some x → ((cellsL l ++ cs).drop (i * sz)).take sz = x.cells
  | [], _, _, i, x, h => by simp at h
  | y :: l, cs, hl, 0, x, h => by
    have hy := hl 0 y rfl
    simp at h
    subst h
    show (((y.cells ++ cellsL l) ++ cs).drop (0 * sz)).take sz = _
    rw [Nat.zero_mul, List.drop_zero, List.append_assoc, ← hy, List.take_left]
  | y :: l, cs, hl, i + 1, x, h => by
    have hy := hl 0 y rfl
    show (((y.cells ++ cellsL l) ++ cs).drop ((i + 1) * sz)).take sz = _
    rw [List.append_assoc, Nat.add_mul, Nat.one_mul, Nat.add_comm (i * sz), ← List.drop_drop, ← hy, List.drop_left, hy]
    exact cells_at hsz l cs (fun j z hz => hl (j + 1) z (by simpa using hz)) i x (by simpa using h)
end Go.Abs
/-
  Walks: chapter 13's laws: events that are the same.
-/



namespace Go.Proofs.YtgoofaeifbfblaaGreat
open Go.Abs
set_option linter.unusedVariables false
set_option linter.unusedSimpArgs false
variable {κ : Ctx} {σ : List Res} {K : Ret → List Res → Prop} {o o' : Option (Option (Nat × Nat))}
instance : TSix Tryz.prog 41 := ⟨⟨_, _, _, _, _, _, _, _, Tryz.underlying41, ⟨rfl, rfl, rfl, rfl, rfl, rfl⟩, ⟨Tryz.underlying3, Tryz.underlying9, Tryz.underlying9, Tryz.underlying9, Tryz.underlying3, Tryz.underlying4⟩, ⟨ag3, ag9, ag9, ag9, ag3, ag4⟩⟩, by decide +kernel, by decide +kernel⟩
set_option maxHeartbeats 8000000 in
theorem ev_at {l : List EvV} {i : Nat} (h : i < l.length) (cs : List AV) : ((cellsL (l.map EVA) ++ cs).drop (i * 6)).take 6 = [I (l.getD i ev0).k, .raw (.string (l.getD i ev0).x), .raw (.string (l.getD i ev0).t), .raw (.string (l.getD i ev0).a), I (l.getD i ev0).s, B (l.getD i ev0).f] := by
  have := cells_at (sz := 6) (by decide) (l.map EVA) cs (evs_el l) i (EVA (l.getD i ev0)) (by rw [List.getElem?_map, List.getElem?_eq_getElem h, List.getD_eq_getElem?_getD, List.getElem?_eq_getElem h]; rfl)
  rw [this]; rfl
set_option maxHeartbeats 8000000 in
theorem rSameRow {rb rc ix : Nat} {l : List EvV} {cs : List AV} [hH : Hold σ rb ix (cellsL (l.map EVA) ++ cs)] (hl : l.length ≤ 1000000000) (hK : K (.ret (B true)) σ) : ACallF κ Tryz.prog 18 [rowV rb 0 l.length rc, .sl 6 o (l.map EVA)] σ K := by
  have hlm : (l.map EVA).length = l.length := List.length_map _
  have hcl : (cellsL (l.map EVA)).length = l.length * 6 := by rw [cellsL_len _ (evs_el l), hlm]
  refine ACallF.dropL (ACallF_intro Tryz.func18 rfl ?_)
  simp only [Tryz.ntmps18]
  repeat' (first | simp only [WL, intF, WM, reduceCtorEq, WLb, Nat.reduceAdd, Nat.reduceSub, true_and, T27, hlm, bne_self_eq_false])
  refine loop_by (fun i : Nat => ⟨(rowV rb 0 l.length rc :: .sl 6 o (l.map EVA) :: .any :: .any :: .any :: I i :: .any :: .any :: .any :: .any :: .any :: .any :: .any :: .any :: .any :: .any :: .any :: .any :: .any :: .any :: .any :: .any :: .any :: .any :: .any :: .any :: []), σ, true, []⟩) (fun i => i ≤ l.length) (fun i => l.length - i) 0 (St_le_same (by repeat (first | exact trivial | refine ⟨le_rfl, ?_⟩ | refine ⟨le_any, ?_⟩ | refine ⟨le_ro, ?_⟩ | refine ⟨le_nil (by decide), ?_⟩ | refine ⟨le_wrap (by omega) (by omega) (by omega), ?_⟩ | refine ⟨le_int (by omega), ?_⟩ | refine ⟨le_eq (by simp), ?_⟩)) id) (Nat.zero_le _) ?_
  intro i hi
  rcases Nat.lt_or_ge i l.length with h | h
  · have e1 := ev_at h cs
    repeat' (first | ( with_reducible refine y_idx_row (hK := ?_)) | ( with_reducible refine y_neq_six ?_) | ( with_reducible refine y_loadA (hn := by rw [List.length_append, hcl]; omega) (hK := ?_)) | simp only [WL, intF, WM, reduceCtorEq, WLb, Nat.reduceAdd, true_and, T27, T41, Tryz.results18, hlm, e1, Nat.zero_add] | simp (disch := first | omega | (simp only [LN_]; omega)) only [wrap_id, getEV] | with_reducible refine andA (hb := ?_) | ((with_reducible refine AW_drawM (id := 6) 9 mixed ?_ ?_); kernel_rfl) | (with_reducible refine dmQ_mk ?_) | ((with_reducible first | refine grd_cases (fun h => ?_) (fun h => ?_) | refine condC_split (fun h => ?_) (fun h => ?_)) <;> (try simp only [h]) <;> (try simp only [NR_, NRb] at h)) | omega)
    exact ⟨i + 1, St_le_same (by repeat (first | exact trivial | refine ⟨le_rfl, ?_⟩ | refine ⟨le_any, ?_⟩ | refine ⟨le_ro, ?_⟩ | refine ⟨le_nil (by decide), ?_⟩ | refine ⟨le_wrap (by omega) (by omega) (by omega), ?_⟩ | refine ⟨le_int (by omega), ?_⟩ | refine ⟨le_eq (by simp), ?_⟩)) id, by omega, by omega⟩
  · repeat' (first | simp only [WL, intF, WM, ne_eq, reduceCtorEq, not_false_eq_true, true_and, T27, Tryz.results18] | ((with_reducible refine AW_drawM (id := 6) 9 mixed ?_ ?_); kernel_rfl) | ((with_reducible first | refine grd_cases (fun h => ?_) (fun h => ?_) | refine condC_split (fun h => ?_) (fun h => ?_)) <;> (try simp only [h]) <;> (try simp only [NR_, NRb] at h)) | omega)
    exact leafL sub_rfl (leT_eq rfl) hK
end Go.Proofs.YtgoofaeifbfblaaGreat
