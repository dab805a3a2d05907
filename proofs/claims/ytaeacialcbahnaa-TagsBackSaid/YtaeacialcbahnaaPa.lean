/-
  Walks: the reference's reading of UTF-8.
-/
import Derived.Test.YtaeacialcbahnaaSw
import Derived.Test.YtaeacialcbahnaaUb
import Derived.Test.YtaeacialcbahnaaPd
namespace Go.Proofs.Ytaeacialcbahnaa
open Go.Abs
set_option linter.unusedVariables false
set_option linter.unusedSimpArgs false
-- hb: 8000000
variable {κ : Ctx} {σ : List Res} {K : Ret → List Res → Prop} {o o' : Option (Option (Nat × Nat))}

set_option maxHeartbeats 8000000 in
theorem and31 {a : Int} : andI a 31 = a % 32 := andI_mod (a := a) 5 (by decide)
set_option maxHeartbeats 8000000 in
theorem and15 {a : Int} : andI a 15 = a % 16 := andI_mod (a := a) 4 (by decide)
set_option maxHeartbeats 8000000 in
theorem and7 {a : Int} : andI a 7 = a % 8 := andI_mod (a := a) 3 (by decide)
set_option maxHeartbeats 8000000 in
theorem contGo_short : ∀ {n : Nat} {c : Int} {l : List Int}, l.length < n → contGo n c l = none
  | 0, _, _, h => by omega
  | n + 1, c, [], _ => rfl
  | n + 1, c, y :: r, h => by
    simp only [contGo]
    split
    · exact contGo_short (by simpa using h)
    · rfl
set_option maxHeartbeats 8000000 in
theorem contGo_bad {n : Nat} {c : Int} {l : List Int} {i : Nat} (h : i < l.length) (h2 : l.getD i 0 < 128 ∨ 191 < l.getD i 0) : contGo (n + 1) c (l.drop i) = none := by
  rw [drop_getD h]; simp only [contGo]; rw [if_neg (by omega)]
set_option maxHeartbeats 8000000 in
theorem contGo_ok {n : Nat} {c : Int} {l : List Int} {i : Nat} (h : i < l.length) (h1 : 128 ≤ l.getD i 0) (h2 : l.getD i 0 ≤ 191) : contGo (n + 1) c (l.drop i) = contGo n (c * 64 + l.getD i 0 % 64) (l.drop (i + 1)) := by
  rw [drop_getD h]; simp only [contGo]; rw [if_pos ⟨h1, h2⟩]
set_option maxHeartbeats 8000000 in
theorem pointI_at {b : List Int} (h : 0 < b.length) : pointI b = (if b.getD 0 0 < 128 then (b.getD 0 0, 1)
    else if 194 ≤ b.getD 0 0 ∧ b.getD 0 0 < 224 then ptEnd 2 128 (contGo 1 (b.getD 0 0 % 32) (b.drop 1))
    else if 224 ≤ b.getD 0 0 ∧ b.getD 0 0 < 240 then ptEnd 3 2048 (contGo 2 (b.getD 0 0 % 16) (b.drop 1))
    else if 240 ≤ b.getD 0 0 ∧ b.getD 0 0 < 245 then ptEnd 4 65536 (contGo 3 (b.getD 0 0 % 8) (b.drop 1))
    else (0, 0)) := by
  cases b with
  | nil => simp at h
  | cons x r => rfl

-- marginaliaref1.point
set_option maxHeartbeats 8000000 in
theorem rPoint {b : List Int} (hl : b.length ≤ 1000000000) (h0 : 0 < b.length) (hb : ∀ x ∈ b, 0 ≤ x ∧ x ≤ 255) (hK : K (.ret (.tup [I (pointI b).1, I (pointI b).2])) σ) : ACallF κ Try.prog 79 [SU o b] σ K := by
  have hg : ∀ j, j < b.length → 0 ≤ b.getD j 0 ∧ b.getD j 0 ≤ 255 := fun j hj => by
    rw [List.getD_eq_getElem?_getD, List.getElem?_eq_getElem hj]
    exact hb _ (List.getElem_mem hj)
  have h00 := hg 0 h0
  have hp := pointI_at h0
  refine ACallF.dropL (ACallF_introA Try.func79 rfl ?_)
  simp only [Try.ntmps79]
  repeat' (first
    | with_reducible first | refine cut_blk (id := 0) ?_ | refine AW_seqA (AW_block ?_) | refine AW_block ?_ | refine cut_seqloop ?_ | refine cut_loop ?_ | refine AW_seqA (AW_seqA ?_) | refine AW_seq ?_ | refine AW_runReg ?_ | refine AW_runCond ?_ | refine AW_runExit ?_ | refine AW_runRet ?_ | refine AW_runSkip ?_ | refine AW_runLabel ?_
    | simp only [WL, intF, strF, WM, Int.reduceToNat, ne_eq, reduceCtorEq, not_false_eq_true, Nat.reduceAdd, Nat.reduceSub, Nat.reduceLT, Nat.reduceLeDiff, Nat.reduceEqDiff, Bool.not_true, Bool.not_false, beq_self_eq_true, true_and, and_true, reduceIte, Bool.false_eq_true, T3, T4, T5, T30, cI in3, cok83, Try.results79]
    | simp (disch := first | omega | (simp only [LN_]; omega)) only [wrap_id, getI, getU]
    | with_reducible first | refine andA (hb := ?_) | refine y_load (hK := ?_) | refine cD (rRight ?_)
    | with_reducible refine y_nil (hK := ?_)
    | (with_reducible refine nilTC_split (fun h => ?_) (fun h bn => ?_) <;> (try simp only [List.length_map] at h))
    | ((with_reducible first | refine grd_cases (fun h => ?_) (fun h => ?_) | refine condC_split (fun h => ?_) (fun h => ?_)) <;> (try simp only [h]) <;> (try simp only [NR_, Bool.not_true, Bool.not_false, Bool.not_eq_eq_eq_not, ne_eq] at h))
    | omega | (simp only [LN_]; omega) | (refine maxLen_ok ?_; (first | omega | (simp only [LN_]; omega))))
  refine midA (fun x : Int × Int × Int => ⟨(SU o b :: .any :: .any :: .any :: .any :: I x.1 :: I x.2.1 :: I x.2.2 :: .any :: .any :: .any :: .any :: .any :: .any :: .any :: .any :: .any :: .any :: .any :: .any :: .any :: .any :: .any :: .any :: .any :: .any :: .any :: .any :: .any :: .any :: .any :: .any :: .any :: .any :: .any :: .any :: .any :: .any :: .any :: .any :: .any :: .any :: .any :: .any :: .any :: .any :: .any :: .any :: .any :: .any :: .any :: .any :: .any :: .any :: .any :: .any :: .any :: .any :: .any :: .any :: .any :: .any :: .any :: .any :: .any :: .any :: .any :: .any :: .any :: .any :: .any :: .any :: .any :: .any :: .any :: .any :: .any :: .any :: .any :: .any :: []), σ, true, []⟩) (fun x => ∃ n : Nat, x.1 = n ∧ 2 ≤ n ∧ n ≤ 4 ∧ 0 ≤ x.2.2 ∧ x.2.2 < 32 ∧ pointI b = ptEnd n x.2.1 (contGo (n - 1) x.2.2 (b.drop 1))) ?_ ?_
  · skip
    repeat' (first
      | with_reducible first | refine AW_seqA (AW_block ?_) | refine AW_block ?_ | refine cut_seqloop ?_ | refine cut_loop ?_ | refine AW_seqA (AW_seqA ?_) | refine AW_seq ?_ | refine AW_runReg ?_ | refine AW_runCond ?_ | refine AW_runExit ?_ | refine AW_runRet ?_ | refine AW_runSkip ?_ | refine AW_runLabel ?_
      | simp only [WL, intF, strF, WM, Int.reduceToNat, ne_eq, reduceCtorEq, not_false_eq_true, Nat.reduceAdd, Nat.reduceSub, Nat.reduceLT, Nat.reduceLeDiff, Nat.reduceEqDiff, Bool.not_true, Bool.not_false, beq_self_eq_true, true_and, and_true, reduceIte, Bool.false_eq_true, T3, T4, T5, T30, cI in3, cok83, Try.results79, fold_and, and31, and15, and7]
      | simp (disch := first | omega | (simp only [LN_]; omega)) only [wrap_id, getI, getU]
      | with_reducible first | refine andA (hb := ?_) | refine y_load (hK := ?_) | refine cD (rRight ?_)
      | with_reducible refine y_nil (hK := ?_)
      | (with_reducible refine nilTC_split (fun h => ?_) (fun h bn => ?_) <;> (try simp only [List.length_map] at h))
      | ((with_reducible first | refine grd_cases (fun h => ?_) (fun h => ?_) | refine condC_split (fun h => ?_) (fun h => ?_)) <;> (try simp only [h]) <;> (try simp only [NR_, Bool.not_true, Bool.not_false, Bool.not_eq_eq_eq_not, ne_eq] at h))
      | omega | (simp only [LN_]; omega) | (refine maxLen_ok ?_; (first | omega | (simp only [LN_]; omega))))
    all_goals first
      | (refine ⟨(2, 128, b.getD 0 0 % 32), St_le_same (by repeat (first | exact trivial | refine ⟨le_rfl, ?_⟩ | refine ⟨le_any, ?_⟩ | refine ⟨le_ro, ?_⟩ | refine ⟨le_nil (by decide), ?_⟩ | refine ⟨le_wrap (by omega) (by omega) (by omega), ?_⟩ | refine ⟨le_int (by omega), ?_⟩ | refine ⟨le_eq (by simp), ?_⟩)) id, 2, rfl, by omega, by omega, by dsimp only; omega, by dsimp only; omega, ?_⟩
         rw [hp, if_neg (by omega), if_pos (by omega)])
      | (refine ⟨(3, 2048, b.getD 0 0 % 16), St_le_same (by repeat (first | exact trivial | refine ⟨le_rfl, ?_⟩ | refine ⟨le_any, ?_⟩ | refine ⟨le_ro, ?_⟩ | refine ⟨le_nil (by decide), ?_⟩ | refine ⟨le_wrap (by omega) (by omega) (by omega), ?_⟩ | refine ⟨le_int (by omega), ?_⟩ | refine ⟨le_eq (by simp), ?_⟩)) id, 3, rfl, by omega, by omega, by dsimp only; omega, by dsimp only; omega, ?_⟩
         rw [hp, if_neg (by omega), if_neg (by omega), if_pos (by omega)])
      | (refine ⟨(4, 65536, b.getD 0 0 % 8), St_le_same (by repeat (first | exact trivial | refine ⟨le_rfl, ?_⟩ | refine ⟨le_any, ?_⟩ | refine ⟨le_ro, ?_⟩ | refine ⟨le_nil (by decide), ?_⟩ | refine ⟨le_wrap (by omega) (by omega) (by omega), ?_⟩ | refine ⟨le_int (by omega), ?_⟩ | refine ⟨le_eq (by simp), ?_⟩)) id, 4, rfl, by omega, by omega, by dsimp only; omega, by dsimp only; omega, ?_⟩
         rw [hp, if_neg (by omega), if_neg (by omega), if_neg (by omega), if_pos (by omega)])
      | (rw [hp, if_pos (by omega)] at hK; exact leafL sub_rfl (leT_eq rfl) hK)
      | (rw [hp, if_neg (by omega), if_neg (by omega), if_neg (by omega), if_neg (by omega)] at hK; exact leafL sub_rfl (leT_eq rfl) hK)
      | (exfalso; omega)
      | trace_state
  · rintro ⟨n', least, c⟩ ⟨n, rfl, hn1, hn2, hc1, hc2, hpt⟩
    dsimp only at hc1 hc2 hpt ⊢
    by_cases hlen : b.length < n
    · rw [contGo_short (by rw [List.length_drop]; omega)] at hpt
      rw [hpt] at hK
      repeat' (first
        | with_reducible first | refine AW_seqA (AW_block ?_) | refine AW_block ?_ | refine cut_seqloop ?_ | refine cut_loop ?_ | refine AW_seqA (AW_seqA ?_) | refine AW_seq ?_ | refine AW_runReg ?_ | refine AW_runCond ?_ | refine AW_runExit ?_ | refine AW_runRet ?_ | refine AW_runSkip ?_ | refine AW_runLabel ?_
        | simp only [WL, intF, strF, WM, Int.reduceToNat, ne_eq, reduceCtorEq, not_false_eq_true, Nat.reduceAdd, Nat.reduceSub, Nat.reduceLT, Nat.reduceLeDiff, Nat.reduceEqDiff, Bool.not_true, Bool.not_false, beq_self_eq_true, true_and, and_true, reduceIte, Bool.false_eq_true, T3, T4, T5, T30, cI in3, cok83, Try.results79]
        | simp (disch := first | omega | (simp only [LN_]; omega)) only [wrap_id, getI]
        | with_reducible first | refine andA (hb := ?_) | refine y_load (hK := ?_) | refine cD (rRight ?_)
        | with_reducible refine y_nil (hK := ?_)
        | (with_reducible refine nilTC_split (fun h => ?_) (fun h bn => ?_) <;> (try simp only [List.length_map] at h))
        | ((with_reducible first | refine grd_cases (fun h => ?_) (fun h => ?_) | refine condC_split (fun h => ?_) (fun h => ?_)) <;> (try simp only [h]) <;> (try simp only [NR_, Bool.not_true, Bool.not_false, Bool.not_eq_eq_eq_not, ne_eq] at h))
        | omega | (simp only [LN_]; omega) | (refine maxLen_ok ?_; (first | omega | (simp only [LN_]; omega))))
      all_goals first
        | exact leafL sub_rfl (leT_eq rfl) hK
        | (exfalso; omega)
        | trace_state
    · skip
      repeat' (first
        | with_reducible first | refine AW_seqA (AW_block ?_) | refine AW_block ?_ | refine cut_seqloop ?_ | refine cut_loop ?_ | refine AW_seqA (AW_seqA ?_) | refine AW_seq ?_ | refine AW_runReg ?_ | refine AW_runCond ?_ | refine AW_runExit ?_ | refine AW_runRet ?_ | refine AW_runSkip ?_ | refine AW_runLabel ?_
        | simp only [WL, intF, strF, WM, Int.reduceToNat, ne_eq, reduceCtorEq, not_false_eq_true, Nat.reduceAdd, Nat.reduceSub, Nat.reduceLT, Nat.reduceLeDiff, Nat.reduceEqDiff, Bool.not_true, Bool.not_false, beq_self_eq_true, true_and, and_true, reduceIte, Bool.false_eq_true, T3, T4, T5, T30, cI in3, cok83, Try.results79]
        | simp (disch := first | omega | (simp only [LN_]; omega)) only [wrap_id, getI]
        | with_reducible first | refine andA (hb := ?_) | refine y_load (hK := ?_) | refine cD (rRight ?_)
        | with_reducible refine y_nil (hK := ?_)
        | (with_reducible refine nilTC_split (fun h => ?_) (fun h bn => ?_) <;> (try simp only [List.length_map] at h))
        | ((with_reducible first | refine grd_cases (fun h => ?_) (fun h => ?_) | refine condC_split (fun h => ?_) (fun h => ?_)) <;> (try simp only [h]) <;> (try simp only [NR_, Bool.not_true, Bool.not_false, Bool.not_eq_eq_eq_not, ne_eq] at h))
        | omega | (simp only [LN_]; omega) | (refine maxLen_ok ?_; (first | omega | (simp only [LN_]; omega))))
      all_goals first
        | (exfalso; omega)
        | skip
      refine loopA (fun x : Nat × Int => ⟨(SU o b :: .any :: .any :: .any :: .any :: I n :: I least :: I x.2 :: I x.1 :: .any :: .any :: .any :: .any :: .any :: .any :: .any :: .any :: .any :: .any :: .any :: .any :: .any :: .any :: .any :: .any :: .any :: .any :: .any :: .any :: .any :: .any :: .any :: .any :: .any :: .any :: .any :: .any :: .any :: .any :: .any :: .any :: .any :: .any :: .any :: .any :: .any :: .any :: .any :: .any :: .any :: .any :: .any :: .any :: .any :: .any :: .any :: .any :: .any :: .any :: .any :: .any :: .any :: .any :: .any :: .any :: .any :: .any :: .any :: .any :: .any :: .any :: .any :: .any :: .any :: .any :: .any :: .any :: .any :: .any :: .any :: []), σ, true, []⟩) (fun x => 1 ≤ x.1 ∧ x.1 ≤ n ∧ 0 ≤ x.2 ∧ ((x.1 = 1 ∧ x.2 < 32) ∨ (x.1 = 2 ∧ x.2 < 2048) ∨ (x.1 = 3 ∧ x.2 < 131072) ∨ (x.1 = 4 ∧ x.2 < 8388608)) ∧ pointI b = ptEnd n least (contGo (n - x.1) x.2 (b.drop x.1))) (fun x => n - x.1) (1, c) (St_le_same (by repeat (first | exact trivial | refine ⟨le_rfl, ?_⟩ | refine ⟨le_any, ?_⟩ | refine ⟨le_ro, ?_⟩ | refine ⟨le_nil (by decide), ?_⟩ | refine ⟨le_wrap (by omega) (by omega) (by omega), ?_⟩ | refine ⟨le_int (by omega), ?_⟩ | refine ⟨le_eq (by simp), ?_⟩)) id) ⟨Nat.le_refl _, by dsimp only; omega, hc1, .inl ⟨rfl, hc2⟩, hpt⟩ ?_
      rintro ⟨i, c⟩ hx
      dsimp only at hx ⊢
      obtain ⟨hi1, hin, hc3, hc4, hpt⟩ := hx
      rcases Nat.lt_or_ge i n with hlt | hge
      · have hgi := hg i (by omega)
        obtain ⟨m, hm⟩ : ∃ m, n - i = m + 1 := ⟨n - i - 1, by omega⟩
        have hm2 : n - (i + 1) = m := by omega
        rw [hm] at hpt
        repeat' (first
          | with_reducible first | refine AW_seqA (AW_block ?_) | refine AW_block ?_ | refine cut_seqloop ?_ | refine cut_loop ?_ | refine AW_seqA (AW_seqA ?_) | refine AW_seq ?_ | refine AW_runReg ?_ | refine AW_runCond ?_ | refine AW_runExit ?_ | refine AW_runRet ?_ | refine AW_runSkip ?_ | refine AW_runLabel ?_
          | simp only [WL, intF, strF, WM, Int.reduceToNat, ne_eq, reduceCtorEq, not_false_eq_true, Nat.reduceAdd, Nat.reduceSub, Nat.reduceLT, Nat.reduceLeDiff, Nat.reduceEqDiff, Bool.not_true, Bool.not_false, beq_self_eq_true, true_and, and_true, reduceIte, Bool.false_eq_true, T3, T4, T5, T30, cI in3, cok83, Try.results79, fold_and, and63]
          | simp (disch := first | omega | (simp only [LN_]; omega)) only [wrap_id, getI, getU]
          | with_reducible first | refine andA (hb := ?_) | refine y_load (hK := ?_) | refine cD (rRight ?_)
          | with_reducible refine y_nil (hK := ?_)
          | (with_reducible refine nilTC_split (fun h => ?_) (fun h bn => ?_) <;> (try simp only [List.length_map] at h))
          | ((with_reducible first | refine grd_cases (fun h => ?_) (fun h => ?_) | refine condC_split (fun h => ?_) (fun h => ?_)) <;> (try simp only [h]) <;> (try simp only [NR_, Bool.not_true, Bool.not_false, Bool.not_eq_eq_eq_not, ne_eq] at h))
          | omega | (simp only [LN_]; omega) | (refine maxLen_ok ?_; (first | omega | (simp only [LN_]; omega))))
        all_goals first
          | (rw [contGo_bad (by omega) (by omega)] at hpt; rw [hpt] at hK; exact leafL sub_rfl (leT_eq rfl) hK)
          | (rw [contGo_ok (by omega) (by omega) (by omega)] at hpt
             exact ⟨(i + 1, c * 64 + b.getD i 0 % 64), St_le_same (by repeat (first | exact trivial | refine ⟨le_rfl, ?_⟩ | refine ⟨le_any, ?_⟩ | refine ⟨le_ro, ?_⟩ | refine ⟨le_nil (by decide), ?_⟩ | refine ⟨le_wrap (by omega) (by omega) (by omega), ?_⟩ | refine ⟨le_int (by omega), ?_⟩ | refine ⟨le_eq (by simp), ?_⟩)) id, ⟨by omega, by omega, by dsimp only; omega, by dsimp only; omega, by dsimp only; rw [hm2]; exact hpt⟩, by dsimp only; omega⟩)
          | trace_state
      · obtain rfl : i = n := by omega
        rw [Nat.sub_self] at hpt
        simp only [contGo, ptEnd] at hpt
        rw [hpt] at hK
        repeat' (first
          | with_reducible first | refine AW_seqA (AW_block ?_) | refine AW_block ?_ | refine cut_seqloop ?_ | refine cut_loop ?_ | refine AW_seqA (AW_seqA ?_) | refine AW_seq ?_ | refine AW_runReg ?_ | refine AW_runCond ?_ | refine AW_runExit ?_ | refine AW_runRet ?_ | refine AW_runSkip ?_ | refine AW_runLabel ?_
          | simp only [WL, intF, strF, WM, Int.reduceToNat, ne_eq, reduceCtorEq, not_false_eq_true, Nat.reduceAdd, Nat.reduceSub, Nat.reduceLT, Nat.reduceLeDiff, Nat.reduceEqDiff, Bool.not_true, Bool.not_false, beq_self_eq_true, true_and, and_true, reduceIte, Bool.false_eq_true, T3, T4, T5, T30, cI in3, cok83, Try.results79]
          | simp (disch := first | omega | (simp only [LN_]; omega)) only [wrap_id, getI]
          | with_reducible first | refine andA (hb := ?_) | refine y_load (hK := ?_) | refine cD (rRight ?_)
          | with_reducible refine y_nil (hK := ?_)
          | (with_reducible refine nilTC_split (fun h => ?_) (fun h bn => ?_) <;> (try simp only [List.length_map] at h))
          | ((with_reducible first | refine grd_cases (fun h => ?_) (fun h => ?_) | refine condC_split (fun h => ?_) (fun h => ?_)) <;> (try simp only [h]) <;> (try simp only [NR_, Bool.not_true, Bool.not_false, Bool.not_eq_eq_eq_not, ne_eq] at h))
          | omega | (simp only [LN_]; omega) | (refine maxLen_ok ?_; (first | omega | (simp only [LN_]; omega))))
        all_goals first
          | (rw [if_pos (by first | exact .inl (by omega) | exact .inr (by assumption))] at hK; exact leafL sub_rfl (leT_eq rfl) hK)
          | (rw [if_neg (fun h => h.elim (fun h => by omega) (fun h => by simp_all))] at hK; exact leafL sub_rfl (leT_eq rfl) hK)
          | (exfalso; omega)
          | trace_state

set_option maxHeartbeats 8000000 in
theorem smallGo_at {b acc : List Int} {i : Nat} (h : i < b.length) (hb : ∀ x ∈ b, 0 ≤ x ∧ x ≤ 255) : smallGo (b.length - i) acc (b.drop i) = if (pointI (b.drop i)).2 = 0 then none else smallGo (b.length - (i + (pointI (b.drop i)).2)) (acc ++ [(pointI (b.drop i)).1]) (b.drop (i + (pointI (b.drop i)).2)) := by
  obtain ⟨f, hf⟩ : ∃ f, b.length - i = f + 1 := ⟨b.length - i - 1, by omega⟩
  rw [hf]
  have e := drop_getD h
  generalize b.drop (i + 1) = r at e
  conv => lhs; rw [e]
  simp only [smallGo]
  rw [← e]
  split
  · rfl
  · rename_i hn
    have := point_enc (fun x hx => hb x (List.mem_of_mem_drop hx)) (b := b.drop i) (c := (pointI (b.drop i)).1) (n := (pointI (b.drop i)).2) rfl (by omega)
    rw [List.drop_drop]
    exact smallGo_fuel _ _ _ _ (by rw [List.length_drop]; omega) (by rw [List.length_drop]; omega)

-- marginaliaref1.small
set_option maxHeartbeats 8000000 in
theorem rSmall {b : List Int} (hl : b.length ≤ 1000000000) (hb : ∀ x ∈ b, 0 ≤ x ∧ x ≤ 255) (hK : K (.ret (.tup [SI none ((smallI b).getD []), B (smallI b).isSome])) σ) : ACallF κ Try.prog 38 [SU o b] σ K := by
  refine ACallF.dropL (ACallF_introA Try.func38 rfl ?_)
  simp only [Try.ntmps38]
  repeat' (first
    | with_reducible first | refine AW_seqA (AW_block ?_) | refine AW_block ?_ | refine cut_seqloop ?_ | refine cut_loop ?_ | refine AW_seqA (AW_seqA ?_) | refine AW_seq ?_ | refine AW_runReg ?_ | refine AW_runCond ?_ | refine AW_runExit ?_ | refine AW_runRet ?_ | refine AW_runSkip ?_ | refine AW_runLabel ?_
    | simp only [WL, intF, strF, WM, Int.reduceToNat, ne_eq, reduceCtorEq, not_false_eq_true, Nat.reduceAdd, Nat.reduceSub, Nat.reduceLT, Nat.reduceLeDiff, Nat.reduceEqDiff, Bool.not_true, Bool.not_false, beq_self_eq_true, true_and, and_true, reduceIte, Bool.false_eq_true, T3, T4, T5, T24, T30, cok79, Try.results38]
    | simp (disch := first | omega | (simp only [LN_]; omega)) only [wrap_id, getI]
    | with_reducible first | refine andA (hb := ?_) | refine y_appN ?_ | refine y_appS ?_ | refine y_app (hlen := ?_) (hmax := ?_) (hK := fun tk => ?_) | refine y_bs0 ?_ | refine y_bs (hK := ?_) | refine cD (rPoint ?_ ?_ ?_ ?_)
    | with_reducible refine y_nil (hK := ?_)
    | (with_reducible refine nilTC_split (fun h => ?_) (fun h bn => ?_) <;> (try simp only [List.length_map] at h))
    | ((with_reducible first | refine grd_cases (fun h => ?_) (fun h => ?_) | refine condC_split (fun h => ?_) (fun h => ?_)) <;> (try simp only [h]) <;> (try simp only [NR_, Bool.not_true, Bool.not_false, Bool.not_eq_eq_eq_not, ne_eq] at h))
    | omega | (simp only [LN_]; omega) | (refine maxLen_ok ?_; (first | omega | (simp only [LN_]; omega))))
  refine loopA (fun x : Nat × List Int × Option (Nat × Nat) => ⟨(SU o b :: .any :: .any :: .any :: SI (some x.2.2) x.2.1 :: I x.1 :: .any :: .any :: .any :: .any :: .any :: .any :: .any :: .any :: .any :: .any :: .any :: .any :: .any :: .any :: .any :: .any :: .any :: .any :: .any :: .any :: .any :: .any :: .any :: []), .tip x.2.2 :: σ, true, []⟩) (fun x => x.1 ≤ b.length ∧ x.2.1.length ≤ x.1 ∧ smallI b = smallGo (b.length - x.1) x.2.1 (b.drop x.1)) (fun x => b.length - x.1) (0, [], none) (St_leW (by repeat (first | exact trivial | refine ⟨le_rfl, ?_⟩ | refine ⟨le_any, ?_⟩ | refine ⟨le_ro, ?_⟩ | refine ⟨le_nil (by decide), ?_⟩ | refine ⟨le_wrap (by omega) (by omega) (by omega), ?_⟩ | refine ⟨le_int (by omega), ?_⟩ | refine ⟨le_eq (by simp), ?_⟩)) ResW.void id) ⟨Nat.zero_le _, Nat.le_refl _, rfl⟩ ?_
  rintro ⟨i, acc, tk⟩ hx
  dsimp only at hx ⊢
  obtain ⟨hi, hacc, hs⟩ := hx
  rcases Nat.lt_or_ge i b.length with hlt | hge
  · have hb2 : ∀ x ∈ b.drop i, 0 ≤ x ∧ x ≤ 255 := fun x hx => hb x (List.mem_of_mem_drop hx)
    have hp4 := pointI_n (b.drop i)
    rw [smallGo_at hlt hb] at hs
    have hpe := fun hn => (point_enc hb2 (c := (pointI (b.drop i)).1) (n := (pointI (b.drop i)).2) rfl hn).1
    rw [List.length_drop] at hpe
    repeat' (first
      | with_reducible first | refine AW_seqA (AW_block ?_) | refine AW_block ?_ | refine cut_seqloop ?_ | refine cut_loop ?_ | refine AW_seqA (AW_seqA ?_) | refine AW_seq ?_ | refine AW_runReg ?_ | refine AW_runCond ?_ | refine AW_runExit ?_ | refine AW_runRet ?_ | refine AW_runSkip ?_ | refine AW_runLabel ?_
      | simp only [WL, intF, strF, WM, Int.reduceToNat, ne_eq, reduceCtorEq, not_false_eq_true, Nat.reduceAdd, Nat.reduceSub, Nat.reduceLT, Nat.reduceLeDiff, Nat.reduceEqDiff, Bool.not_true, Bool.not_false, beq_self_eq_true, true_and, and_true, reduceIte, Bool.false_eq_true, T3, T4, T5, T24, T30, cok79, Try.results38]
      | simp (disch := first | omega | (simp only [LN_]; omega)) only [wrap_id, getI]
      | with_reducible first | refine andA (hb := ?_) | refine y_appN ?_ | refine y_appS ?_ | refine y_app (hlen := ?_) (hmax := ?_) (hK := fun tk => ?_) | refine y_bs0 ?_ | refine y_bs (hK := ?_) | refine cD (rPoint ?_ ?_ ?_ ?_)
      | with_reducible refine y_nil (hK := ?_)
      | (with_reducible refine nilTC_split (fun h => ?_) (fun h bn => ?_) <;> (try simp only [List.length_map] at h))
      | ((with_reducible first | refine grd_cases (fun h => ?_) (fun h => ?_) | refine condC_split (fun h => ?_) (fun h => ?_)) <;> (try simp only [h]) <;> (try simp only [NR_, Bool.not_true, Bool.not_false, Bool.not_eq_eq_eq_not, ne_eq] at h))
      | omega | (simp only [LN_]; omega) | (refine maxLen_ok ?_; (first | omega | (simp only [LN_]; omega))))
    · rw [if_pos (by omega)] at hs
      rw [hs] at hK
      exact leafL (sub_cons sub_rfl) (leT_tup (leL_two (le_nilro (by decide)) le_rfl)) hK
    · rw [if_neg (by omega)] at hs
      have := hpe (by omega)
      exact ⟨(i + (pointI (b.drop i)).2, acc ++ [(pointI (b.drop i)).1], tk), St_leW (by repeat (first | exact trivial | refine ⟨le_rfl, ?_⟩ | refine ⟨le_any, ?_⟩ | refine ⟨le_ro, ?_⟩ | refine ⟨le_nil (by decide), ?_⟩ | refine ⟨le_wrap (by omega) (by omega) (by omega), ?_⟩ | refine ⟨le_int (by omega), ?_⟩ | refine ⟨le_eq (by simp), ?_⟩)) (ResW.refl _) id, ⟨by dsimp only; omega, by dsimp only; simp; omega, hs⟩, by dsimp only; omega⟩
  · rw [List.drop_eq_nil_of_le hge] at hs
    have e : smallI b = some acc := by rw [hs]; cases b.length - i <;> rfl
    rw [e] at hK
    repeat' (first
      | with_reducible first | refine AW_seqA (AW_block ?_) | refine AW_block ?_ | refine cut_seqloop ?_ | refine cut_loop ?_ | refine AW_seqA (AW_seqA ?_) | refine AW_seq ?_ | refine AW_runReg ?_ | refine AW_runCond ?_ | refine AW_runExit ?_ | refine AW_runRet ?_ | refine AW_runSkip ?_ | refine AW_runLabel ?_
      | simp only [WL, intF, strF, WM, Int.reduceToNat, ne_eq, reduceCtorEq, not_false_eq_true, Nat.reduceAdd, Nat.reduceSub, Nat.reduceLT, Nat.reduceLeDiff, Nat.reduceEqDiff, Bool.not_true, Bool.not_false, beq_self_eq_true, true_and, and_true, reduceIte, Bool.false_eq_true, T3, T4, T5, T24, T30, cok79, Try.results38]
      | simp (disch := first | omega | (simp only [LN_]; omega)) only [wrap_id, getI]
      | with_reducible first | refine andA (hb := ?_) | refine y_appN ?_ | refine y_appS ?_ | refine y_app (hlen := ?_) (hmax := ?_) (hK := fun tk => ?_) | refine y_bs0 ?_ | refine y_bs (hK := ?_) | refine cD (rPoint ?_ ?_ ?_ ?_)
      | with_reducible refine y_nil (hK := ?_)
      | (with_reducible refine nilTC_split (fun h => ?_) (fun h bn => ?_) <;> (try simp only [List.length_map] at h))
      | ((with_reducible first | refine grd_cases (fun h => ?_) (fun h => ?_) | refine condC_split (fun h => ?_) (fun h => ?_)) <;> (try simp only [h]) <;> (try simp only [NR_, Bool.not_true, Bool.not_false, Bool.not_eq_eq_eq_not, ne_eq] at h))
      | omega | (simp only [LN_]; omega) | (refine maxLen_ok ?_; (first | omega | (simp only [LN_]; omega))))
    exact leafL (sub_cons sub_rfl) (leT_tup (leL_two le_ro le_rfl)) hK

set_option maxHeartbeats 8000000 in
theorem encL_ge (l : List Int) : l.length ≤ (encL l).length := by
  induction l with
  | nil => simp
  | cons c r ih =>
    have := encC_len c
    simp only [encL, List.flatMap_cons, List.length_append, List.length_cons] at *
    omega
set_option maxHeartbeats 8000000 in
theorem bytesI_byte (s : ByteArray) : ∀ x ∈ bytesI s, 0 ≤ x ∧ x ≤ 255 := by
  intro x hx
  simp only [bytesI, List.mem_map] at hx
  obtain ⟨y, _, rfl⟩ := hx
  have := y.toNat_lt
  omega
-- marginaliaref1.Text
set_option maxHeartbeats 8000000 in
theorem rText {s : ByteArray} (hl : s.size ≤ 1000000000) (hK : K (.ret (.tup [SI none ((smallI (bytesI s)).getD []), B (smallI (bytesI s)).isSome])) σ) : ACallF κ Try.prog 14 [.raw (.string s)] σ K := by
  have h1 := bytesI_len s
  refine ACallF.dropL (ACallF_intro Try.func14 rfl ?_)
  simp only [Try.ntmps14]
  repeat' (first
    | simp only [WL, intF, strF, WM, Int.reduceToNat, ne_eq, reduceCtorEq, not_false_eq_true, Nat.reduceAdd, Nat.reduceSub, Nat.reduceLT, Nat.reduceLeDiff, Nat.reduceEqDiff, Bool.not_true, Bool.not_false, beq_self_eq_true, true_and, and_true, reduceIte, Bool.false_eq_true, convC_sl, convC_str, List.eraseIdx_cons_zero, List.eraseIdx_cons_succ, T3, T4, T5, T9, T24, T30, cok38, Try.results14]
    | simp (disch := first | omega | (simp only [LN_]; omega)) only [wrap_id, getI]
    | with_reducible first | refine andA (hb := ?_) | refine y_str ?_ ?_ | refine cD (rSmall ?_ (bytesI_byte _) ?_) | refine cD (rSmall ?_ ?_ (fun tks => ?_))
    | ((with_reducible first | refine grd_cases (fun h => ?_) (fun h => ?_) | refine condC_split (fun h => ?_) (fun h => ?_)) <;> (try simp only [h]) <;> (try simp only [NR_, Bool.not_true, Bool.not_false, Bool.not_eq_eq_eq_not, ne_eq] at h))
    | omega | (simp only [LN_]; omega) | (refine maxLen_ok ?_; (first | omega | (simp only [LN_]; omega))))
  all_goals first
    | exact leafL sub_rfl (leT_eq rfl) hK
    | trace_state

-- marginaliaref1.Valid
set_option maxHeartbeats 8000000 in
theorem rValid {s : ByteArray} (hl : s.size ≤ 1000000000) (hK : K (.ret (B (validI (bytesI s)))) σ) : ACallF κ Try.prog 13 [.raw (.string s)] σ K := by
  rw [valid_small (bytesI_byte s)] at hK
  cases hm : smallI (bytesI s) with
  | none =>
    rw [hm] at hK
    simp only at hK
    refine ACallF.dropL (ACallF_intro Try.func13 rfl ?_)
    simp only [Try.ntmps13]
    repeat' (first
      | simp only [WL, intF, strF, WM, Int.reduceToNat, ne_eq, reduceCtorEq, not_false_eq_true, Nat.reduceAdd, Nat.reduceSub, Nat.reduceLT, Nat.reduceLeDiff, Nat.reduceEqDiff, Bool.not_true, Bool.not_false, beq_self_eq_true, true_and, and_true, reduceIte, Bool.false_eq_true, T3, T4, T9, T24, cok14, cok37, Try.results13, hm]
      | simp (disch := first | omega | (simp only [LN_]; omega)) only [wrap_id, getI]
      | with_reducible first | refine andA (hb := ?_) | refine cD (rText ?_ ?_) | refine cD (rUri ?_ ?_)
      | with_reducible refine y_nil (hK := ?_)
      | (with_reducible refine nilTC_split (fun h => ?_) (fun h bn => ?_) <;> (try simp only [List.length_map] at h))
      | ((with_reducible first | refine grd_cases (fun h => ?_) (fun h => ?_) | refine condC_split (fun h => ?_) (fun h => ?_)) <;> (try simp only [h]) <;> (try simp only [NR_, Bool.not_true, Bool.not_false, Bool.not_eq_eq_eq_not, ne_eq] at h))
      | omega | (simp only [LN_]; omega))
    all_goals first
      | exact leafL sub_rfl (leT_eq rfl) hK
      | trace_state
  | some m =>
    rw [hm] at hK
    simp only at hK
    have hml : m.length ≤ s.size := by
      have := (smallI_enc (bytesI_byte s) hm).1
      have h2 := encL_ge m
      rw [this, bytesI_len] at h2
      exact h2
    have ev : validI m = decide (0 < m.length ∧ uriN anyC m = m.length) := rfl
    refine ACallF.dropL (ACallF_intro Try.func13 rfl ?_)
    simp only [Try.ntmps13]
    repeat' (first
      | simp only [WL, intF, strF, WM, Int.reduceToNat, ne_eq, reduceCtorEq, not_false_eq_true, Nat.reduceAdd, Nat.reduceSub, Nat.reduceLT, Nat.reduceLeDiff, Nat.reduceEqDiff, Bool.not_true, Bool.not_false, beq_self_eq_true, true_and, and_true, reduceIte, Bool.false_eq_true, T3, T4, T9, T24, cok14, cok37, Try.results13, hm, Option.getD_some]
      | simp (disch := first | omega | (simp only [LN_]; omega)) only [wrap_id, getI]
      | with_reducible first | refine andA (hb := ?_) | refine cD (rText ?_ ?_) | refine cD (rUri ?_ ?_)
      | with_reducible refine y_nil (hK := ?_)
      | (with_reducible refine nilTC_split (fun h => ?_) (fun h bn => ?_) <;> (try simp only [List.length_map] at h))
      | ((with_reducible first | refine grd_cases (fun h => ?_) (fun h => ?_) | refine condC_split (fun h => ?_) (fun h => ?_)) <;> (try simp only [h]) <;> (try simp only [NR_, Bool.not_true, Bool.not_false, Bool.not_eq_eq_eq_not, ne_eq] at h))
      | omega | (simp only [LN_]; omega))
    · exact leafL sub_rfl (leT_eq (congrArg B (by rw [ev, decide_eq_false (by omega)]))) hK
    refine loop_by (fun i : Nat => ⟨(.raw (.string s) :: .any :: .any :: SI none m :: .any :: I i :: .any :: .any :: .any :: .any :: .any :: .any :: .any :: .any :: .any :: .any :: .any :: .any :: .any :: .any :: .any :: .any :: .any :: .any :: .any :: .any :: .any :: .any :: .any :: .any :: .any :: []), σ, true, []⟩) (fun i => i ≤ m.length ∧ uriN anyC m = i + uriN anyC (m.drop i)) (fun i => m.length - i) 0 (St_le_same (by repeat (first | exact trivial | refine ⟨le_rfl, ?_⟩ | refine ⟨le_any, ?_⟩ | refine ⟨le_ro, ?_⟩ | refine ⟨le_nil (by decide), ?_⟩ | refine ⟨le_wrap (by omega) (by omega) (by omega), ?_⟩ | refine ⟨le_int (by omega), ?_⟩ | refine ⟨le_eq (by simp), ?_⟩)) id) ⟨Nat.zero_le _, (Nat.zero_add _).symm⟩ ?_
    rintro i ⟨hi, hu⟩
    have hsn := signN_drop_le (l := m) (i := i)
    rcases Nat.lt_or_ge i m.length with hlt | hge
    · by_cases hz : signN (m.drop i) = 0
      · rw [uriN_no (l := m.drop i) (.inl hz)] at hu
        repeat' (first
          | simp only [WL, intF, strF, WM, Int.reduceToNat, ne_eq, reduceCtorEq, not_false_eq_true, Nat.reduceAdd, Nat.reduceSub, Nat.reduceLT, Nat.reduceLeDiff, Nat.reduceEqDiff, Bool.not_true, Bool.not_false, beq_self_eq_true, true_and, and_true, reduceIte, Bool.false_eq_true, T3, T4, T9, T24, cok14, cok37, Try.results13, hz]
          | simp (disch := first | omega | (simp only [LN_]; omega)) only [wrap_id, getI]
          | with_reducible first | refine andA (hb := ?_) | refine cD (rText ?_ ?_) | refine cD (rUri ?_ ?_)
          | with_reducible refine y_nil (hK := ?_)
          | (with_reducible refine nilTC_split (fun h => ?_) (fun h bn => ?_) <;> (try simp only [List.length_map] at h))
          | ((with_reducible first | refine grd_cases (fun h => ?_) (fun h => ?_) | refine condC_split (fun h => ?_) (fun h => ?_)) <;> (try simp only [h]) <;> (try simp only [NR_, Bool.not_true, Bool.not_false, Bool.not_eq_eq_eq_not, ne_eq] at h))
          | omega | (simp only [LN_]; omega))
        all_goals first
          | exact leafL sub_rfl (leT_eq (congrArg B (by rw [ev, decide_eq_false (by omega)]))) hK
          | (exfalso; omega)
          | trace_state
      · rw [uriN_yes hz rfl, List.drop_drop] at hu
        repeat' (first
          | simp only [WL, intF, strF, WM, Int.reduceToNat, ne_eq, reduceCtorEq, not_false_eq_true, Nat.reduceAdd, Nat.reduceSub, Nat.reduceLT, Nat.reduceLeDiff, Nat.reduceEqDiff, Bool.not_true, Bool.not_false, beq_self_eq_true, true_and, and_true, reduceIte, Bool.false_eq_true, T3, T4, T9, T24, cok14, cok37, Try.results13]
          | simp (disch := first | omega | (simp only [LN_]; omega)) only [wrap_id, getI]
          | with_reducible first | refine andA (hb := ?_) | refine cD (rText ?_ ?_) | refine cD (rUri ?_ ?_)
          | with_reducible refine y_nil (hK := ?_)
          | (with_reducible refine nilTC_split (fun h => ?_) (fun h bn => ?_) <;> (try simp only [List.length_map] at h))
          | ((with_reducible first | refine grd_cases (fun h => ?_) (fun h => ?_) | refine condC_split (fun h => ?_) (fun h => ?_)) <;> (try simp only [h]) <;> (try simp only [NR_, Bool.not_true, Bool.not_false, Bool.not_eq_eq_eq_not, ne_eq] at h))
          | omega | (simp only [LN_]; omega))
        all_goals first
          | exact ⟨i + signN (m.drop i), St_le_same (by repeat (first | exact trivial | refine ⟨le_rfl, ?_⟩ | refine ⟨le_any, ?_⟩ | refine ⟨le_ro, ?_⟩ | refine ⟨le_nil (by decide), ?_⟩ | refine ⟨le_wrap (by omega) (by omega) (by omega), ?_⟩ | refine ⟨le_int (by omega), ?_⟩ | refine ⟨le_eq (by simp), ?_⟩)) id, ⟨by omega, by omega⟩, by omega⟩
          | (exfalso; omega)
          | trace_state
    · rw [List.drop_eq_nil_of_le hge, show uriN anyC [] = 0 from rfl] at hu
      repeat' (first
        | simp only [WL, intF, strF, WM, Int.reduceToNat, ne_eq, reduceCtorEq, not_false_eq_true, Nat.reduceAdd, Nat.reduceSub, Nat.reduceLT, Nat.reduceLeDiff, Nat.reduceEqDiff, Bool.not_true, Bool.not_false, beq_self_eq_true, true_and, and_true, reduceIte, Bool.false_eq_true, T3, T4, T9, T24, cok14, cok37, Try.results13]
        | simp (disch := first | omega | (simp only [LN_]; omega)) only [wrap_id, getI]
        | with_reducible first | refine andA (hb := ?_) | refine cD (rText ?_ ?_) | refine cD (rUri ?_ ?_)
        | with_reducible refine y_nil (hK := ?_)
        | (with_reducible refine nilTC_split (fun h => ?_) (fun h bn => ?_) <;> (try simp only [List.length_map] at h))
        | ((with_reducible first | refine grd_cases (fun h => ?_) (fun h => ?_) | refine condC_split (fun h => ?_) (fun h => ?_)) <;> (try simp only [h]) <;> (try simp only [NR_, Bool.not_true, Bool.not_false, Bool.not_eq_eq_eq_not, ne_eq] at h))
        | omega | (simp only [LN_]; omega))
      all_goals first
        | exact leafL sub_rfl (leT_eq (congrArg B (by rw [ev, decide_eq_true (by omega)]))) hK
        | trace_state

-- props.Valid
set_option maxHeartbeats 8000000 in
theorem pValid {s : ByteArray} (hl : s.size ≤ 1000000000) (hK : K (.ret (B (validI (bytesI s)))) σ) : ACallF κ Try.prog 18 [.raw (.string s)] σ K := by
  have h1 := bytesI_len s
  have hbb := bytesI_byte s
  have ev : validI (bytesI s) = decide (0 < (bytesI s).length ∧ uriN anyC (bytesI s) = (bytesI s).length) := rfl
  refine ACallF.dropL (ACallF_introA Try.func18 rfl ?_)
  simp only [Try.ntmps18]
  repeat' (first
    | with_reducible first | refine AW_seqA (AW_block ?_) | refine AW_block ?_ | refine cut_seqloop ?_ | refine cut_loop ?_ | refine AW_seqA (AW_seqA ?_) | refine AW_seq ?_ | refine AW_runReg ?_ | refine AW_runCond ?_ | refine AW_runExit ?_ | refine AW_runRet ?_ | refine AW_runSkip ?_ | refine AW_runLabel ?_
    | simp only [WL, intF, strF, WM, Int.reduceToNat, ne_eq, reduceCtorEq, not_false_eq_true, Nat.reduceAdd, Nat.reduceSub, Nat.reduceLT, Nat.reduceLeDiff, Nat.reduceEqDiff, Bool.not_true, Bool.not_false, beq_self_eq_true, true_and, and_true, reduceIte, Bool.false_eq_true, convC_sl, convC_str, List.eraseIdx_cons_zero, List.eraseIdx_cons_succ, T3, T4, T5, T9, T24, T29, T30, cI in3, cok42, cok46, Try.results18]
    | simp (disch := first | omega | (simp only [LN_]; omega)) only [wrap_id, getI]
    | with_reducible first | refine andA (hb := ?_) | refine y_load (hK := ?_) | refine y_appN ?_ | refine y_appS ?_ | refine y_app (hlen := ?_) (hmax := ?_) (hK := fun tk => ?_) | refine y_bs0 ?_ | refine y_bs (hK := ?_) | refine y_str ?_ ?_
    | with_reducible refine y_nil (hK := ?_)
    | (with_reducible refine nilTC_split (fun h => ?_) (fun h bn => ?_) <;> (try simp only [List.length_map] at h))
    | ((with_reducible first | refine grd_cases (fun h => ?_) (fun h => ?_) | refine condC_split (fun h => ?_) (fun h => ?_)) <;> (try simp only [h]) <;> (try simp only [NR_, Bool.not_true, Bool.not_false, Bool.not_eq_eq_eq_not, ne_eq] at h))
    | omega | (simp only [LN_]; omega) | (refine maxLen_ok ?_; (first | omega | (simp only [LN_]; omega))))
  generalize bytesI s = bs at *
  have hg : ∀ j, j < bs.length → 0 ≤ bs.getD j 0 ∧ bs.getD j 0 ≤ 255 := fun j hj => by
    rw [List.getD_eq_getElem?_getD, List.getElem?_eq_getElem hj]
    exact hbb _ (List.getElem_mem hj)
  refine loopA (fun x : Nat × Option (Nat × Nat) => ⟨(.raw (.string s) :: .any :: .any :: SI (some x.2) (bs.take x.1) :: .any :: .any :: .any :: SU none bs :: I bs.length :: I x.1 :: .any :: .any :: .any :: .any :: .any :: .any :: .any :: .any :: .any :: .any :: .any :: .any :: .any :: .any :: .any :: .any :: .any :: .any :: .any :: []), .tip x.2 :: σ, true, []⟩) (fun x => x.1 ≤ bs.length) (fun x => bs.length - x.1) (0, none) (St_leW (by repeat (first | exact trivial | refine ⟨le_rfl, ?_⟩ | refine ⟨le_any, ?_⟩ | refine ⟨le_ro, ?_⟩ | refine ⟨le_nil (by decide), ?_⟩ | refine ⟨le_wrap (by omega) (by omega) (by omega), ?_⟩ | refine ⟨le_int (by omega), ?_⟩ | refine ⟨le_eq (by simp), ?_⟩)) ResW.void id) (Nat.zero_le _) ?_
  rintro ⟨k, tk⟩ hk
  dsimp only at hk ⊢
  rcases Nat.lt_or_ge k bs.length with hlt | hge
  · have hgk := hg k hlt
    have ht : (bs.take k).length = k := by simp; omega
    repeat' (first
      | with_reducible first | refine AW_seqA (AW_block ?_) | refine AW_block ?_ | refine cut_seqloop ?_ | refine cut_loop ?_ | refine AW_seqA (AW_seqA ?_) | refine AW_seq ?_ | refine AW_runReg ?_ | refine AW_runCond ?_ | refine AW_runExit ?_ | refine AW_runRet ?_ | refine AW_runSkip ?_ | refine AW_runLabel ?_
      | simp only [WL, intF, strF, WM, Int.reduceToNat, ne_eq, reduceCtorEq, not_false_eq_true, Nat.reduceAdd, Nat.reduceSub, Nat.reduceLT, Nat.reduceLeDiff, Nat.reduceEqDiff, Bool.not_true, Bool.not_false, beq_self_eq_true, true_and, and_true, reduceIte, Bool.false_eq_true, convC_sl, convC_str, List.eraseIdx_cons_zero, List.eraseIdx_cons_succ, T3, T4, T5, T9, T24, T29, T30, cI in3, cok42, cok46, Try.results18]
      | simp (disch := first | omega | (simp only [LN_]; omega)) only [wrap_id, getI, getU]
      | with_reducible first | refine andA (hb := ?_) | refine y_load (hK := ?_) | refine y_appN ?_ | refine y_appS ?_ | refine y_app (hlen := ?_) (hmax := ?_) (hK := fun tk => ?_) | refine y_bs0 ?_ | refine y_bs (hK := ?_) | refine y_str ?_ ?_
      | with_reducible refine y_nil (hK := ?_)
      | (with_reducible refine nilTC_split (fun h => ?_) (fun h bn => ?_) <;> (try simp only [List.length_map] at h))
      | ((with_reducible first | refine grd_cases (fun h => ?_) (fun h => ?_) | refine condC_split (fun h => ?_) (fun h => ?_)) <;> (try simp only [h]) <;> (try simp only [NR_, Bool.not_true, Bool.not_false, Bool.not_eq_eq_eq_not, ne_eq] at h))
      | omega | (simp only [LN_]; omega) | (refine maxLen_ok ?_; (first | omega | (simp only [LN_]; omega))))
    have et : bs.take (k + 1) = bs.take k ++ [bs.getD k 0] := by rw [List.take_succ_eq_append_getElem hlt]; simp [List.getD_eq_getElem?_getD, hlt]
    exact ⟨(k + 1, _), St_leW (by simp only [et]; repeat (first | exact trivial | refine ⟨le_rfl, ?_⟩ | refine ⟨le_any, ?_⟩ | refine ⟨le_ro, ?_⟩ | refine ⟨le_nil (by decide), ?_⟩ | refine ⟨le_wrap (by omega) (by omega) (by omega), ?_⟩ | refine ⟨le_int (by omega), ?_⟩ | refine ⟨le_eq (by simp), ?_⟩)) (ResW.refl _) id, by dsimp only; omega, by dsimp only; omega⟩
  · obtain rfl : k = bs.length := by omega
    rw [List.take_length]
    repeat' (first
      | with_reducible first | refine AW_seqA (AW_block ?_) | refine AW_block ?_ | refine cut_seqloop ?_ | refine cut_loop ?_ | refine AW_seqA (AW_seqA ?_) | refine AW_seq ?_ | refine AW_runReg ?_ | refine AW_runCond ?_ | refine AW_runExit ?_ | refine AW_runRet ?_ | refine AW_runSkip ?_ | refine AW_runLabel ?_
      | simp only [WL, intF, strF, WM, Int.reduceToNat, ne_eq, reduceCtorEq, not_false_eq_true, Nat.reduceAdd, Nat.reduceSub, Nat.reduceLT, Nat.reduceLeDiff, Nat.reduceEqDiff, Bool.not_true, Bool.not_false, beq_self_eq_true, true_and, and_true, reduceIte, Bool.false_eq_true, convC_sl, convC_str, List.eraseIdx_cons_zero, List.eraseIdx_cons_succ, T3, T4, T5, T9, T24, T29, T30, cI in3, cok42, cok46, Try.results18]
      | simp (disch := first | omega | (simp only [LN_]; omega)) only [wrap_id, getI]
      | with_reducible first | refine andA (hb := ?_) | refine y_load (hK := ?_) | refine y_appN ?_ | refine y_appS ?_ | refine y_app (hlen := ?_) (hmax := ?_) (hK := fun tk => ?_) | refine y_bs0 ?_ | refine y_bs (hK := ?_) | refine y_str ?_ ?_ | refine cD (pUriAll ?_ ?_)
      | with_reducible refine y_nil (hK := ?_)
      | (with_reducible refine nilTC_split (fun h => ?_) (fun h bn => ?_) <;> (try simp only [List.length_map] at h))
      | ((with_reducible first | refine grd_cases (fun h => ?_) (fun h => ?_) | refine condC_split (fun h => ?_) (fun h => ?_)) <;> (try simp only [h]) <;> (try simp only [NR_, Bool.not_true, Bool.not_false, Bool.not_eq_eq_eq_not, ne_eq] at h))
      | omega | (simp only [LN_]; omega) | (refine maxLen_ok ?_; (first | omega | (simp only [LN_]; omega))))
    · exact leafL (sub_cons sub_rfl) (leT_eq (congrArg B (by rw [ev, Bool.eq_iff_iff]; simp; omega))) hK
    · exact leafL (sub_cons sub_rfl) (leT_eq (congrArg B (by rw [ev, decide_eq_false (by omega)]))) hK
end Go.Proofs.Ytaeacialcbahnaa
