/-
  Texts Pa, Pl, MB, Ta, So, one behind the other.
-/
import Derived.Test.YtaeacialcbahnaaG10
import Derived.MapKept
/-
  Walks: the reference's reading of UTF-8.
-/



namespace Go.Proofs.Ytaeacialcbahnaa
open Go.Abs
set_option linter.unusedVariables false
set_option linter.unusedSimpArgs false
-- hb: 8000000
variable {κ : Ctx} {σ : List Res} {K : Ret → List Res → Prop} {o o' : Option (Option (Nat × Nat))}

set_option maxHeartbeats 8000000 in
theorem and31 {a : Int} : andI a 31 = a % 32 := andI_mod (a := a) 5 (by decide)
set_option maxHeartbeats 8000000 in
theorem and15 {a : Int} : andI a 15 = a % 16 := andI_mod (a := a) 4 (by decide)
set_option maxHeartbeats 8000000 in
theorem and7 {a : Int} : andI a 7 = a % 8 := andI_mod (a := a) 3 (by decide)
set_option maxHeartbeats 8000000 in
theorem contGo_short : ∀ {n : Nat} {c : Int} {l : List Int}, l.length < n → contGo n c l = none
  | 0, _, _, h => by omega
  | n + 1, c, [], _ => rfl
  | n + 1, c, y :: r, h => by
    simp only [contGo]
    split
    · exact contGo_short (by simpa using h)
    · rfl
set_option maxHeartbeats 8000000 in
theorem contGo_bad {n : Nat} {c : Int} {l : List Int} {i : Nat} (h : i < l.length) (h2 : l.getD i 0 < 128 ∨ 191 < l.getD i 0) : contGo (n + 1) c (l.drop i) = none := by
  rw [drop_getD h]; simp only [contGo]; rw [if_neg (by omega)]
set_option maxHeartbeats 8000000 in
theorem contGo_ok {n : Nat} {c : Int} {l : List Int} {i : Nat} (h : i < l.length) (h1 : 128 ≤ l.getD i 0) (h2 : l.getD i 0 ≤ 191) : contGo (n + 1) c (l.drop i) = contGo n (c * 64 + l.getD i 0 % 64) (l.drop (i + 1)) := by
  rw [drop_getD h]; simp only [contGo]; rw [if_pos ⟨h1, h2⟩]
set_option maxHeartbeats 8000000 in
theorem pointI_at {b : List Int} (h : 0 < b.length) : pointI b = (if b.getD 0 0 < 128 then (b.getD 0 0, 1)
    else if 194 ≤ b.getD 0 0 ∧ b.getD 0 0 < 224 then ptEnd 2 128 (contGo 1 (b.getD 0 0 % 32) (b.drop 1))
    else if 224 ≤ b.getD 0 0 ∧ b.getD 0 0 < 240 then ptEnd 3 2048 (contGo 2 (b.getD 0 0 % 16) (b.drop 1))
    else if 240 ≤ b.getD 0 0 ∧ b.getD 0 0 < 245 then ptEnd 4 65536 (contGo 3 (b.getD 0 0 % 8) (b.drop 1))
    else (0, 0)) := by
  cases b with
  | nil => simp at h
  | cons x r => rfl

-- marginaliaref1.point
set_option maxHeartbeats 8000000 in
theorem rPoint {b : List Int} (hl : b.length ≤ 1000000000) (h0 : 0 < b.length) (hb : ∀ x ∈ b, 0 ≤ x ∧ x ≤ 255) (hK : K (.ret (.tup [I (pointI b).1, I (pointI b).2])) σ) : ACallF κ Try.prog 79 [SU o b] σ K := by
  have hg : ∀ j, j < b.length → 0 ≤ b.getD j 0 ∧ b.getD j 0 ≤ 255 := fun j hj => by
    rw [List.getD_eq_getElem?_getD, List.getElem?_eq_getElem hj]
    exact hb _ (List.getElem_mem hj)
  have h00 := hg 0 h0
  have hp := pointI_at h0
  refine ACallF.dropL (ACallF_introA Try.func79 rfl ?_)
  simp only [Try.ntmps79]
  repeat' (first
    | with_reducible first | refine cut_blk (id := 0) ?_ | refine AW_seqA (AW_block ?_) | refine AW_block ?_ | refine cut_seqloop ?_ | refine cut_loop ?_ | refine AW_seqA (AW_seqA ?_) | refine AW_seq ?_ | refine AW_runReg ?_ | refine AW_runCond ?_ | refine AW_runExit ?_ | refine AW_runRet ?_ | refine AW_runSkip ?_ | refine AW_runLabel ?_
    | simp only [WL, intF, strF, WM, Int.reduceToNat, ne_eq, reduceCtorEq, not_false_eq_true, Nat.reduceAdd, Nat.reduceSub, Nat.reduceLT, Nat.reduceLeDiff, Nat.reduceEqDiff, Bool.not_true, Bool.not_false, beq_self_eq_true, true_and, and_true, reduceIte, Bool.false_eq_true, T3, T4, T5, T30, cI in3, cok83, Try.results79]
    | simp (disch := first | omega | (simp only [LN_]; omega)) only [wrap_id, getI, getU]
    | with_reducible first | refine andA (hb := ?_) | refine y_load (hK := ?_) | refine cD (rRight ?_)
    | with_reducible refine y_nil (hK := ?_)
    | (with_reducible refine nilTC_split (fun h => ?_) (fun h bn => ?_) <;> (try simp only [List.length_map] at h))
    | ((with_reducible first | refine grd_cases (fun h => ?_) (fun h => ?_) | refine condC_split (fun h => ?_) (fun h => ?_)) <;> (try simp only [h]) <;> (try simp only [NR_, Bool.not_true, Bool.not_false, Bool.not_eq_eq_eq_not, ne_eq] at h))
    | omega | (simp only [LN_]; omega) | (refine maxLen_ok ?_; (first | omega | (simp only [LN_]; omega))))
  refine midA (fun x : Int × Int × Int => ⟨(SU o b :: .any :: .any :: .any :: .any :: I x.1 :: I x.2.1 :: I x.2.2 :: .any :: .any :: .any :: .any :: .any :: .any :: .any :: .any :: .any :: .any :: .any :: .any :: .any :: .any :: .any :: .any :: .any :: .any :: .any :: .any :: .any :: .any :: .any :: .any :: .any :: .any :: .any :: .any :: .any :: .any :: .any :: .any :: .any :: .any :: .any :: .any :: .any :: .any :: .any :: .any :: .any :: .any :: .any :: .any :: .any :: .any :: .any :: .any :: .any :: .any :: .any :: .any :: .any :: .any :: .any :: .any :: .any :: .any :: .any :: .any :: .any :: .any :: .any :: .any :: .any :: .any :: .any :: .any :: .any :: .any :: .any :: .any :: []), σ, true, []⟩) (fun x => ∃ n : Nat, x.1 = n ∧ 2 ≤ n ∧ n ≤ 4 ∧ 0 ≤ x.2.2 ∧ x.2.2 < 32 ∧ pointI b = ptEnd n x.2.1 (contGo (n - 1) x.2.2 (b.drop 1))) ?_ ?_
  · skip
    repeat' (first
      | with_reducible first | refine AW_seqA (AW_block ?_) | refine AW_block ?_ | refine cut_seqloop ?_ | refine cut_loop ?_ | refine AW_seqA (AW_seqA ?_) | refine AW_seq ?_ | refine AW_runReg ?_ | refine AW_runCond ?_ | refine AW_runExit ?_ | refine AW_runRet ?_ | refine AW_runSkip ?_ | refine AW_runLabel ?_
      | simp only [WL, intF, strF, WM, Int.reduceToNat, ne_eq, reduceCtorEq, not_false_eq_true, Nat.reduceAdd, Nat.reduceSub, Nat.reduceLT, Nat.reduceLeDiff, Nat.reduceEqDiff, Bool.not_true, Bool.not_false, beq_self_eq_true, true_and, and_true, reduceIte, Bool.false_eq_true, T3, T4, T5, T30, cI in3, cok83, Try.results79, fold_and, and31, and15, and7]
      | simp (disch := first | omega | (simp only [LN_]; omega)) only [wrap_id, getI, getU]
      | with_reducible first | refine andA (hb := ?_) | refine y_load (hK := ?_) | refine cD (rRight ?_)
      | with_reducible refine y_nil (hK := ?_)
      | (with_reducible refine nilTC_split (fun h => ?_) (fun h bn => ?_) <;> (try simp only [List.length_map] at h))
      | ((with_reducible first | refine grd_cases (fun h => ?_) (fun h => ?_) | refine condC_split (fun h => ?_) (fun h => ?_)) <;> (try simp only [h]) <;> (try simp only [NR_, Bool.not_true, Bool.not_false, Bool.not_eq_eq_eq_not, ne_eq] at h))
      | omega | (simp only [LN_]; omega) | (refine maxLen_ok ?_; (first | omega | (simp only [LN_]; omega))))
    all_goals first
      | (refine ⟨(2, 128, b.getD 0 0 % 32), St_le_same (by repeat (first | exact trivial | refine ⟨le_rfl, ?_⟩ | refine ⟨le_any, ?_⟩ | refine ⟨le_ro, ?_⟩ | refine ⟨le_nil (by decide), ?_⟩ | refine ⟨le_wrap (by omega) (by omega) (by omega), ?_⟩ | refine ⟨le_int (by omega), ?_⟩ | refine ⟨le_eq (by simp), ?_⟩)) id, 2, rfl, by omega, by omega, by dsimp only; omega, by dsimp only; omega, ?_⟩
         rw [hp, if_neg (by omega), if_pos (by omega)])
      | (refine ⟨(3, 2048, b.getD 0 0 % 16), St_le_same (by repeat (first | exact trivial | refine ⟨le_rfl, ?_⟩ | refine ⟨le_any, ?_⟩ | refine ⟨le_ro, ?_⟩ | refine ⟨le_nil (by decide), ?_⟩ | refine ⟨le_wrap (by omega) (by omega) (by omega), ?_⟩ | refine ⟨le_int (by omega), ?_⟩ | refine ⟨le_eq (by simp), ?_⟩)) id, 3, rfl, by omega, by omega, by dsimp only; omega, by dsimp only; omega, ?_⟩
         rw [hp, if_neg (by omega), if_neg (by omega), if_pos (by omega)])
      | (refine ⟨(4, 65536, b.getD 0 0 % 8), St_le_same (by repeat (first | exact trivial | refine ⟨le_rfl, ?_⟩ | refine ⟨le_any, ?_⟩ | refine ⟨le_ro, ?_⟩ | refine ⟨le_nil (by decide), ?_⟩ | refine ⟨le_wrap (by omega) (by omega) (by omega), ?_⟩ | refine ⟨le_int (by omega), ?_⟩ | refine ⟨le_eq (by simp), ?_⟩)) id, 4, rfl, by omega, by omega, by dsimp only; omega, by dsimp only; omega, ?_⟩
         rw [hp, if_neg (by omega), if_neg (by omega), if_neg (by omega), if_pos (by omega)])
      | (rw [hp, if_pos (by omega)] at hK; exact leafL sub_rfl (leT_eq rfl) hK)
      | (rw [hp, if_neg (by omega), if_neg (by omega), if_neg (by omega), if_neg (by omega)] at hK; exact leafL sub_rfl (leT_eq rfl) hK)
      | (exfalso; omega)
      | trace_state
  · rintro ⟨n', least, c⟩ ⟨n, rfl, hn1, hn2, hc1, hc2, hpt⟩
    dsimp only at hc1 hc2 hpt ⊢
    by_cases hlen : b.length < n
    · rw [contGo_short (by rw [List.length_drop]; omega)] at hpt
      rw [hpt] at hK
      repeat' (first
        | with_reducible first | refine AW_seqA (AW_block ?_) | refine AW_block ?_ | refine cut_seqloop ?_ | refine cut_loop ?_ | refine AW_seqA (AW_seqA ?_) | refine AW_seq ?_ | refine AW_runReg ?_ | refine AW_runCond ?_ | refine AW_runExit ?_ | refine AW_runRet ?_ | refine AW_runSkip ?_ | refine AW_runLabel ?_
        | simp only [WL, intF, strF, WM, Int.reduceToNat, ne_eq, reduceCtorEq, not_false_eq_true, Nat.reduceAdd, Nat.reduceSub, Nat.reduceLT, Nat.reduceLeDiff, Nat.reduceEqDiff, Bool.not_true, Bool.not_false, beq_self_eq_true, true_and, and_true, reduceIte, Bool.false_eq_true, T3, T4, T5, T30, cI in3, cok83, Try.results79]
        | simp (disch := first | omega | (simp only [LN_]; omega)) only [wrap_id, getI]
        | with_reducible first | refine andA (hb := ?_) | refine y_load (hK := ?_) | refine cD (rRight ?_)
        | with_reducible refine y_nil (hK := ?_)
        | (with_reducible refine nilTC_split (fun h => ?_) (fun h bn => ?_) <;> (try simp only [List.length_map] at h))
        | ((with_reducible first | refine grd_cases (fun h => ?_) (fun h => ?_) | refine condC_split (fun h => ?_) (fun h => ?_)) <;> (try simp only [h]) <;> (try simp only [NR_, Bool.not_true, Bool.not_false, Bool.not_eq_eq_eq_not, ne_eq] at h))
        | omega | (simp only [LN_]; omega) | (refine maxLen_ok ?_; (first | omega | (simp only [LN_]; omega))))
      all_goals first
        | exact leafL sub_rfl (leT_eq rfl) hK
        | (exfalso; omega)
        | trace_state
    · skip
      repeat' (first
        | with_reducible first | refine AW_seqA (AW_block ?_) | refine AW_block ?_ | refine cut_seqloop ?_ | refine cut_loop ?_ | refine AW_seqA (AW_seqA ?_) | refine AW_seq ?_ | refine AW_runReg ?_ | refine AW_runCond ?_ | refine AW_runExit ?_ | refine AW_runRet ?_ | refine AW_runSkip ?_ | refine AW_runLabel ?_
        | simp only [WL, intF, strF, WM, Int.reduceToNat, ne_eq, reduceCtorEq, not_false_eq_true, Nat.reduceAdd, Nat.reduceSub, Nat.reduceLT, Nat.reduceLeDiff, Nat.reduceEqDiff, Bool.not_true, Bool.not_false, beq_self_eq_true, true_and, and_true, reduceIte, Bool.false_eq_true, T3, T4, T5, T30, cI in3, cok83, Try.results79]
        | simp (disch := first | omega | (simp only [LN_]; omega)) only [wrap_id, getI]
        | with_reducible first | refine andA (hb := ?_) | refine y_load (hK := ?_) | refine cD (rRight ?_)
        | with_reducible refine y_nil (hK := ?_)
        | (with_reducible refine nilTC_split (fun h => ?_) (fun h bn => ?_) <;> (try simp only [List.length_map] at h))
        | ((with_reducible first | refine grd_cases (fun h => ?_) (fun h => ?_) | refine condC_split (fun h => ?_) (fun h => ?_)) <;> (try simp only [h]) <;> (try simp only [NR_, Bool.not_true, Bool.not_false, Bool.not_eq_eq_eq_not, ne_eq] at h))
        | omega | (simp only [LN_]; omega) | (refine maxLen_ok ?_; (first | omega | (simp only [LN_]; omega))))
      all_goals first
        | (exfalso; omega)
        | skip
      refine loopA (fun x : Nat × Int => ⟨(SU o b :: .any :: .any :: .any :: .any :: I n :: I least :: I x.2 :: I x.1 :: .any :: .any :: .any :: .any :: .any :: .any :: .any :: .any :: .any :: .any :: .any :: .any :: .any :: .any :: .any :: .any :: .any :: .any :: .any :: .any :: .any :: .any :: .any :: .any :: .any :: .any :: .any :: .any :: .any :: .any :: .any :: .any :: .any :: .any :: .any :: .any :: .any :: .any :: .any :: .any :: .any :: .any :: .any :: .any :: .any :: .any :: .any :: .any :: .any :: .any :: .any :: .any :: .any :: .any :: .any :: .any :: .any :: .any :: .any :: .any :: .any :: .any :: .any :: .any :: .any :: .any :: .any :: .any :: .any :: .any :: .any :: []), σ, true, []⟩) (fun x => 1 ≤ x.1 ∧ x.1 ≤ n ∧ 0 ≤ x.2 ∧ ((x.1 = 1 ∧ x.2 < 32) ∨ (x.1 = 2 ∧ x.2 < 2048) ∨ (x.1 = 3 ∧ x.2 < 131072) ∨ (x.1 = 4 ∧ x.2 < 8388608)) ∧ pointI b = ptEnd n least (contGo (n - x.1) x.2 (b.drop x.1))) (fun x => n - x.1) (1, c) (St_le_same (by repeat (first | exact trivial | refine ⟨le_rfl, ?_⟩ | refine ⟨le_any, ?_⟩ | refine ⟨le_ro, ?_⟩ | refine ⟨le_nil (by decide), ?_⟩ | refine ⟨le_wrap (by omega) (by omega) (by omega), ?_⟩ | refine ⟨le_int (by omega), ?_⟩ | refine ⟨le_eq (by simp), ?_⟩)) id) ⟨Nat.le_refl _, by dsimp only; omega, hc1, .inl ⟨rfl, hc2⟩, hpt⟩ ?_
      rintro ⟨i, c⟩ hx
      dsimp only at hx ⊢
      obtain ⟨hi1, hin, hc3, hc4, hpt⟩ := hx
      rcases Nat.lt_or_ge i n with hlt | hge
      · have hgi := hg i (by omega)
        obtain ⟨m, hm⟩ : ∃ m, n - i = m + 1 := ⟨n - i - 1, by omega⟩
        have hm2 : n - (i + 1) = m := by omega
        rw [hm] at hpt
        repeat' (first
          | with_reducible first | refine AW_seqA (AW_block ?_) | refine AW_block ?_ | refine cut_seqloop ?_ | refine cut_loop ?_ | refine AW_seqA (AW_seqA ?_) | refine AW_seq ?_ | refine AW_runReg ?_ | refine AW_runCond ?_ | refine AW_runExit ?_ | refine AW_runRet ?_ | refine AW_runSkip ?_ | refine AW_runLabel ?_
          | simp only [WL, intF, strF, WM, Int.reduceToNat, ne_eq, reduceCtorEq, not_false_eq_true, Nat.reduceAdd, Nat.reduceSub, Nat.reduceLT, Nat.reduceLeDiff, Nat.reduceEqDiff, Bool.not_true, Bool.not_false, beq_self_eq_true, true_and, and_true, reduceIte, Bool.false_eq_true, T3, T4, T5, T30, cI in3, cok83, Try.results79, fold_and, and63]
          | simp (disch := first | omega | (simp only [LN_]; omega)) only [wrap_id, getI, getU]
          | with_reducible first | refine andA (hb := ?_) | refine y_load (hK := ?_) | refine cD (rRight ?_)
          | with_reducible refine y_nil (hK := ?_)
          | (with_reducible refine nilTC_split (fun h => ?_) (fun h bn => ?_) <;> (try simp only [List.length_map] at h))
          | ((with_reducible first | refine grd_cases (fun h => ?_) (fun h => ?_) | refine condC_split (fun h => ?_) (fun h => ?_)) <;> (try simp only [h]) <;> (try simp only [NR_, Bool.not_true, Bool.not_false, Bool.not_eq_eq_eq_not, ne_eq] at h))
          | omega | (simp only [LN_]; omega) | (refine maxLen_ok ?_; (first | omega | (simp only [LN_]; omega))))
        all_goals first
          | (rw [contGo_bad (by omega) (by omega)] at hpt; rw [hpt] at hK; exact leafL sub_rfl (leT_eq rfl) hK)
          | (rw [contGo_ok (by omega) (by omega) (by omega)] at hpt
             exact ⟨(i + 1, c * 64 + b.getD i 0 % 64), St_le_same (by repeat (first | exact trivial | refine ⟨le_rfl, ?_⟩ | refine ⟨le_any, ?_⟩ | refine ⟨le_ro, ?_⟩ | refine ⟨le_nil (by decide), ?_⟩ | refine ⟨le_wrap (by omega) (by omega) (by omega), ?_⟩ | refine ⟨le_int (by omega), ?_⟩ | refine ⟨le_eq (by simp), ?_⟩)) id, ⟨by omega, by omega, by dsimp only; omega, by dsimp only; omega, by dsimp only; rw [hm2]; exact hpt⟩, by dsimp only; omega⟩)
          | trace_state
      · obtain rfl : i = n := by omega
        rw [Nat.sub_self] at hpt
        simp only [contGo, ptEnd] at hpt
        rw [hpt] at hK
        repeat' (first
          | with_reducible first | refine AW_seqA (AW_block ?_) | refine AW_block ?_ | refine cut_seqloop ?_ | refine cut_loop ?_ | refine AW_seqA (AW_seqA ?_) | refine AW_seq ?_ | refine AW_runReg ?_ | refine AW_runCond ?_ | refine AW_runExit ?_ | refine AW_runRet ?_ | refine AW_runSkip ?_ | refine AW_runLabel ?_
          | simp only [WL, intF, strF, WM, Int.reduceToNat, ne_eq, reduceCtorEq, not_false_eq_true, Nat.reduceAdd, Nat.reduceSub, Nat.reduceLT, Nat.reduceLeDiff, Nat.reduceEqDiff, Bool.not_true, Bool.not_false, beq_self_eq_true, true_and, and_true, reduceIte, Bool.false_eq_true, T3, T4, T5, T30, cI in3, cok83, Try.results79]
          | simp (disch := first | omega | (simp only [LN_]; omega)) only [wrap_id, getI]
          | with_reducible first | refine andA (hb := ?_) | refine y_load (hK := ?_) | refine cD (rRight ?_)
          | with_reducible refine y_nil (hK := ?_)
          | (with_reducible refine nilTC_split (fun h => ?_) (fun h bn => ?_) <;> (try simp only [List.length_map] at h))
          | ((with_reducible first | refine grd_cases (fun h => ?_) (fun h => ?_) | refine condC_split (fun h => ?_) (fun h => ?_)) <;> (try simp only [h]) <;> (try simp only [NR_, Bool.not_true, Bool.not_false, Bool.not_eq_eq_eq_not, ne_eq] at h))
          | omega | (simp only [LN_]; omega) | (refine maxLen_ok ?_; (first | omega | (simp only [LN_]; omega))))
        all_goals first
          | (rw [if_pos (by first | exact .inl (by omega) | exact .inr (by assumption))] at hK; exact leafL sub_rfl (leT_eq rfl) hK)
          | (rw [if_neg (fun h => h.elim (fun h => by omega) (fun h => by simp_all))] at hK; exact leafL sub_rfl (leT_eq rfl) hK)
          | (exfalso; omega)
          | trace_state

set_option maxHeartbeats 8000000 in
theorem smallGo_at {b acc : List Int} {i : Nat} (h : i < b.length) (hb : ∀ x ∈ b, 0 ≤ x ∧ x ≤ 255) : smallGo (b.length - i) acc (b.drop i) = if (pointI (b.drop i)).2 = 0 then none else smallGo (b.length - (i + (pointI (b.drop i)).2)) (acc ++ [(pointI (b.drop i)).1]) (b.drop (i + (pointI (b.drop i)).2)) := by
  obtain ⟨f, hf⟩ : ∃ f, b.length - i = f + 1 := ⟨b.length - i - 1, by omega⟩
  rw [hf]
  have e := drop_getD h
  generalize b.drop (i + 1) = r at e
  conv => lhs; rw [e]
  simp only [smallGo]
  rw [← e]
  split
  · rfl
  · rename_i hn
    have := point_enc (fun x hx => hb x (List.mem_of_mem_drop hx)) (b := b.drop i) (c := (pointI (b.drop i)).1) (n := (pointI (b.drop i)).2) rfl (by omega)
    rw [List.drop_drop]
    exact smallGo_fuel _ _ _ _ (by rw [List.length_drop]; omega) (by rw [List.length_drop]; omega)

-- marginaliaref1.small
set_option maxHeartbeats 8000000 in
theorem rSmall {b : List Int} (hl : b.length ≤ 1000000000) (hb : ∀ x ∈ b, 0 ≤ x ∧ x ≤ 255) (hK : K (.ret (.tup [SI none ((smallI b).getD []), B (smallI b).isSome])) σ) : ACallF κ Try.prog 38 [SU o b] σ K := by
  refine ACallF.dropL (ACallF_introA Try.func38 rfl ?_)
  simp only [Try.ntmps38]
  repeat' (first
    | with_reducible first | refine AW_seqA (AW_block ?_) | refine AW_block ?_ | refine cut_seqloop ?_ | refine cut_loop ?_ | refine AW_seqA (AW_seqA ?_) | refine AW_seq ?_ | refine AW_runReg ?_ | refine AW_runCond ?_ | refine AW_runExit ?_ | refine AW_runRet ?_ | refine AW_runSkip ?_ | refine AW_runLabel ?_
    | simp only [WL, intF, strF, WM, Int.reduceToNat, ne_eq, reduceCtorEq, not_false_eq_true, Nat.reduceAdd, Nat.reduceSub, Nat.reduceLT, Nat.reduceLeDiff, Nat.reduceEqDiff, Bool.not_true, Bool.not_false, beq_self_eq_true, true_and, and_true, reduceIte, Bool.false_eq_true, T3, T4, T5, T24, T30, cok79, Try.results38]
    | simp (disch := first | omega | (simp only [LN_]; omega)) only [wrap_id, getI]
    | with_reducible first | refine andA (hb := ?_) | refine y_appN ?_ | refine y_appS ?_ | refine y_app (hlen := ?_) (hmax := ?_) (hK := fun tk => ?_) | refine y_bs0 ?_ | refine y_bs (hK := ?_) | refine cD (rPoint ?_ ?_ ?_ ?_)
    | with_reducible refine y_nil (hK := ?_)
    | (with_reducible refine nilTC_split (fun h => ?_) (fun h bn => ?_) <;> (try simp only [List.length_map] at h))
    | ((with_reducible first | refine grd_cases (fun h => ?_) (fun h => ?_) | refine condC_split (fun h => ?_) (fun h => ?_)) <;> (try simp only [h]) <;> (try simp only [NR_, Bool.not_true, Bool.not_false, Bool.not_eq_eq_eq_not, ne_eq] at h))
    | omega | (simp only [LN_]; omega) | (refine maxLen_ok ?_; (first | omega | (simp only [LN_]; omega))))
  refine loopA (fun x : Nat × List Int × Option (Nat × Nat) => ⟨(SU o b :: .any :: .any :: .any :: SI (some x.2.2) x.2.1 :: I x.1 :: .any :: .any :: .any :: .any :: .any :: .any :: .any :: .any :: .any :: .any :: .any :: .any :: .any :: .any :: .any :: .any :: .any :: .any :: .any :: .any :: .any :: .any :: .any :: []), .tip x.2.2 :: σ, true, []⟩) (fun x => x.1 ≤ b.length ∧ x.2.1.length ≤ x.1 ∧ smallI b = smallGo (b.length - x.1) x.2.1 (b.drop x.1)) (fun x => b.length - x.1) (0, [], none) (St_leW (by repeat (first | exact trivial | refine ⟨le_rfl, ?_⟩ | refine ⟨le_any, ?_⟩ | refine ⟨le_ro, ?_⟩ | refine ⟨le_nil (by decide), ?_⟩ | refine ⟨le_wrap (by omega) (by omega) (by omega), ?_⟩ | refine ⟨le_int (by omega), ?_⟩ | refine ⟨le_eq (by simp), ?_⟩)) ResW.void id) ⟨Nat.zero_le _, Nat.le_refl _, rfl⟩ ?_
  rintro ⟨i, acc, tk⟩ hx
  dsimp only at hx ⊢
  obtain ⟨hi, hacc, hs⟩ := hx
  rcases Nat.lt_or_ge i b.length with hlt | hge
  · have hb2 : ∀ x ∈ b.drop i, 0 ≤ x ∧ x ≤ 255 := fun x hx => hb x (List.mem_of_mem_drop hx)
    have hp4 := pointI_n (b.drop i)
    rw [smallGo_at hlt hb] at hs
    have hpe := fun hn => (point_enc hb2 (c := (pointI (b.drop i)).1) (n := (pointI (b.drop i)).2) rfl hn).1
    rw [List.length_drop] at hpe
    repeat' (first
      | with_reducible first | refine AW_seqA (AW_block ?_) | refine AW_block ?_ | refine cut_seqloop ?_ | refine cut_loop ?_ | refine AW_seqA (AW_seqA ?_) | refine AW_seq ?_ | refine AW_runReg ?_ | refine AW_runCond ?_ | refine AW_runExit ?_ | refine AW_runRet ?_ | refine AW_runSkip ?_ | refine AW_runLabel ?_
      | simp only [WL, intF, strF, WM, Int.reduceToNat, ne_eq, reduceCtorEq, not_false_eq_true, Nat.reduceAdd, Nat.reduceSub, Nat.reduceLT, Nat.reduceLeDiff, Nat.reduceEqDiff, Bool.not_true, Bool.not_false, beq_self_eq_true, true_and, and_true, reduceIte, Bool.false_eq_true, T3, T4, T5, T24, T30, cok79, Try.results38]
      | simp (disch := first | omega | (simp only [LN_]; omega)) only [wrap_id, getI]
      | with_reducible first | refine andA (hb := ?_) | refine y_appN ?_ | refine y_appS ?_ | refine y_app (hlen := ?_) (hmax := ?_) (hK := fun tk => ?_) | refine y_bs0 ?_ | refine y_bs (hK := ?_) | refine cD (rPoint ?_ ?_ ?_ ?_)
      | with_reducible refine y_nil (hK := ?_)
      | (with_reducible refine nilTC_split (fun h => ?_) (fun h bn => ?_) <;> (try simp only [List.length_map] at h))
      | ((with_reducible first | refine grd_cases (fun h => ?_) (fun h => ?_) | refine condC_split (fun h => ?_) (fun h => ?_)) <;> (try simp only [h]) <;> (try simp only [NR_, Bool.not_true, Bool.not_false, Bool.not_eq_eq_eq_not, ne_eq] at h))
      | omega | (simp only [LN_]; omega) | (refine maxLen_ok ?_; (first | omega | (simp only [LN_]; omega))))
    · rw [if_pos (by omega)] at hs
      rw [hs] at hK
      exact leafL (sub_cons sub_rfl) (leT_tup (leL_two (le_nilro (by decide)) le_rfl)) hK
    · rw [if_neg (by omega)] at hs
      have := hpe (by omega)
      exact ⟨(i + (pointI (b.drop i)).2, acc ++ [(pointI (b.drop i)).1], tk), St_leW (by repeat (first | exact trivial | refine ⟨le_rfl, ?_⟩ | refine ⟨le_any, ?_⟩ | refine ⟨le_ro, ?_⟩ | refine ⟨le_nil (by decide), ?_⟩ | refine ⟨le_wrap (by omega) (by omega) (by omega), ?_⟩ | refine ⟨le_int (by omega), ?_⟩ | refine ⟨le_eq (by simp), ?_⟩)) (ResW.refl _) id, ⟨by dsimp only; omega, by dsimp only; simp; omega, hs⟩, by dsimp only; omega⟩
  · rw [List.drop_eq_nil_of_le hge] at hs
    have e : smallI b = some acc := by rw [hs]; cases b.length - i <;> rfl
    rw [e] at hK
    repeat' (first
      | with_reducible first | refine AW_seqA (AW_block ?_) | refine AW_block ?_ | refine cut_seqloop ?_ | refine cut_loop ?_ | refine AW_seqA (AW_seqA ?_) | refine AW_seq ?_ | refine AW_runReg ?_ | refine AW_runCond ?_ | refine AW_runExit ?_ | refine AW_runRet ?_ | refine AW_runSkip ?_ | refine AW_runLabel ?_
      | simp only [WL, intF, strF, WM, Int.reduceToNat, ne_eq, reduceCtorEq, not_false_eq_true, Nat.reduceAdd, Nat.reduceSub, Nat.reduceLT, Nat.reduceLeDiff, Nat.reduceEqDiff, Bool.not_true, Bool.not_false, beq_self_eq_true, true_and, and_true, reduceIte, Bool.false_eq_true, T3, T4, T5, T24, T30, cok79, Try.results38]
      | simp (disch := first | omega | (simp only [LN_]; omega)) only [wrap_id, getI]
      | with_reducible first | refine andA (hb := ?_) | refine y_appN ?_ | refine y_appS ?_ | refine y_app (hlen := ?_) (hmax := ?_) (hK := fun tk => ?_) | refine y_bs0 ?_ | refine y_bs (hK := ?_) | refine cD (rPoint ?_ ?_ ?_ ?_)
      | with_reducible refine y_nil (hK := ?_)
      | (with_reducible refine nilTC_split (fun h => ?_) (fun h bn => ?_) <;> (try simp only [List.length_map] at h))
      | ((with_reducible first | refine grd_cases (fun h => ?_) (fun h => ?_) | refine condC_split (fun h => ?_) (fun h => ?_)) <;> (try simp only [h]) <;> (try simp only [NR_, Bool.not_true, Bool.not_false, Bool.not_eq_eq_eq_not, ne_eq] at h))
      | omega | (simp only [LN_]; omega) | (refine maxLen_ok ?_; (first | omega | (simp only [LN_]; omega))))
    exact leafL (sub_cons sub_rfl) (leT_tup (leL_two le_ro le_rfl)) hK

set_option maxHeartbeats 8000000 in
theorem encL_ge (l : List Int) : l.length ≤ (encL l).length := by
  induction l with
  | nil => simp
  | cons c r ih =>
    have := encC_len c
    simp only [encL, List.flatMap_cons, List.length_append, List.length_cons] at *
    omega
set_option maxHeartbeats 8000000 in
theorem bytesI_byte (s : ByteArray) : ∀ x ∈ bytesI s, 0 ≤ x ∧ x ≤ 255 := by
  intro x hx
  simp only [bytesI, List.mem_map] at hx
  obtain ⟨y, _, rfl⟩ := hx
  have := y.toNat_lt
  omega
-- marginaliaref1.Text
set_option maxHeartbeats 8000000 in
theorem rText {s : ByteArray} (hl : s.size ≤ 1000000000) (hK : K (.ret (.tup [SI none ((smallI (bytesI s)).getD []), B (smallI (bytesI s)).isSome])) σ) : ACallF κ Try.prog 14 [.raw (.string s)] σ K := by
  have h1 := bytesI_len s
  refine ACallF.dropL (ACallF_intro Try.func14 rfl ?_)
  simp only [Try.ntmps14]
  repeat' (first
    | simp only [WL, intF, strF, WM, Int.reduceToNat, ne_eq, reduceCtorEq, not_false_eq_true, Nat.reduceAdd, Nat.reduceSub, Nat.reduceLT, Nat.reduceLeDiff, Nat.reduceEqDiff, Bool.not_true, Bool.not_false, beq_self_eq_true, true_and, and_true, reduceIte, Bool.false_eq_true, convC_sl, convC_str, List.eraseIdx_cons_zero, List.eraseIdx_cons_succ, T3, T4, T5, T9, T24, T30, cok38, Try.results14]
    | simp (disch := first | omega | (simp only [LN_]; omega)) only [wrap_id, getI]
    | with_reducible first | refine andA (hb := ?_) | refine y_str ?_ ?_ | refine cD (rSmall ?_ (bytesI_byte _) ?_) | refine cD (rSmall ?_ ?_ (fun tks => ?_))
    | ((with_reducible first | refine grd_cases (fun h => ?_) (fun h => ?_) | refine condC_split (fun h => ?_) (fun h => ?_)) <;> (try simp only [h]) <;> (try simp only [NR_, Bool.not_true, Bool.not_false, Bool.not_eq_eq_eq_not, ne_eq] at h))
    | omega | (simp only [LN_]; omega) | (refine maxLen_ok ?_; (first | omega | (simp only [LN_]; omega))))
  all_goals first
    | exact leafL sub_rfl (leT_eq rfl) hK
    | trace_state

-- marginaliaref1.Valid
set_option maxHeartbeats 8000000 in
theorem rValid {s : ByteArray} (hl : s.size ≤ 1000000000) (hK : K (.ret (B (validI (bytesI s)))) σ) : ACallF κ Try.prog 13 [.raw (.string s)] σ K := by
  rw [valid_small (bytesI_byte s)] at hK
  cases hm : smallI (bytesI s) with
  | none =>
    rw [hm] at hK
    simp only at hK
    refine ACallF.dropL (ACallF_intro Try.func13 rfl ?_)
    simp only [Try.ntmps13]
    repeat' (first
      | simp only [WL, intF, strF, WM, Int.reduceToNat, ne_eq, reduceCtorEq, not_false_eq_true, Nat.reduceAdd, Nat.reduceSub, Nat.reduceLT, Nat.reduceLeDiff, Nat.reduceEqDiff, Bool.not_true, Bool.not_false, beq_self_eq_true, true_and, and_true, reduceIte, Bool.false_eq_true, T3, T4, T9, T24, cok14, cok37, Try.results13, hm]
      | simp (disch := first | omega | (simp only [LN_]; omega)) only [wrap_id, getI]
      | with_reducible first | refine andA (hb := ?_) | refine cD (rText ?_ ?_) | refine cD (rUri ?_ ?_)
      | with_reducible refine y_nil (hK := ?_)
      | (with_reducible refine nilTC_split (fun h => ?_) (fun h bn => ?_) <;> (try simp only [List.length_map] at h))
      | ((with_reducible first | refine grd_cases (fun h => ?_) (fun h => ?_) | refine condC_split (fun h => ?_) (fun h => ?_)) <;> (try simp only [h]) <;> (try simp only [NR_, Bool.not_true, Bool.not_false, Bool.not_eq_eq_eq_not, ne_eq] at h))
      | omega | (simp only [LN_]; omega))
    all_goals first
      | exact leafL sub_rfl (leT_eq rfl) hK
      | trace_state
  | some m =>
    rw [hm] at hK
    simp only at hK
    have hml : m.length ≤ s.size := by
      have := (smallI_enc (bytesI_byte s) hm).1
      have h2 := encL_ge m
      rw [this, bytesI_len] at h2
      exact h2
    have ev : validI m = decide (0 < m.length ∧ uriN anyC m = m.length) := rfl
    refine ACallF.dropL (ACallF_intro Try.func13 rfl ?_)
    simp only [Try.ntmps13]
    repeat' (first
      | simp only [WL, intF, strF, WM, Int.reduceToNat, ne_eq, reduceCtorEq, not_false_eq_true, Nat.reduceAdd, Nat.reduceSub, Nat.reduceLT, Nat.reduceLeDiff, Nat.reduceEqDiff, Bool.not_true, Bool.not_false, beq_self_eq_true, true_and, and_true, reduceIte, Bool.false_eq_true, T3, T4, T9, T24, cok14, cok37, Try.results13, hm, Option.getD_some]
      | simp (disch := first | omega | (simp only [LN_]; omega)) only [wrap_id, getI]
      | with_reducible first | refine andA (hb := ?_) | refine cD (rText ?_ ?_) | refine cD (rUri ?_ ?_)
      | with_reducible refine y_nil (hK := ?_)
      | (with_reducible refine nilTC_split (fun h => ?_) (fun h bn => ?_) <;> (try simp only [List.length_map] at h))
      | ((with_reducible first | refine grd_cases (fun h => ?_) (fun h => ?_) | refine condC_split (fun h => ?_) (fun h => ?_)) <;> (try simp only [h]) <;> (try simp only [NR_, Bool.not_true, Bool.not_false, Bool.not_eq_eq_eq_not, ne_eq] at h))
      | omega | (simp only [LN_]; omega))
    · exact leafL sub_rfl (leT_eq (congrArg B (by rw [ev, decide_eq_false (by omega)]))) hK
    refine loop_by (fun i : Nat => ⟨(.raw (.string s) :: .any :: .any :: SI none m :: .any :: I i :: .any :: .any :: .any :: .any :: .any :: .any :: .any :: .any :: .any :: .any :: .any :: .any :: .any :: .any :: .any :: .any :: .any :: .any :: .any :: .any :: .any :: .any :: .any :: .any :: .any :: []), σ, true, []⟩) (fun i => i ≤ m.length ∧ uriN anyC m = i + uriN anyC (m.drop i)) (fun i => m.length - i) 0 (St_le_same (by repeat (first | exact trivial | refine ⟨le_rfl, ?_⟩ | refine ⟨le_any, ?_⟩ | refine ⟨le_ro, ?_⟩ | refine ⟨le_nil (by decide), ?_⟩ | refine ⟨le_wrap (by omega) (by omega) (by omega), ?_⟩ | refine ⟨le_int (by omega), ?_⟩ | refine ⟨le_eq (by simp), ?_⟩)) id) ⟨Nat.zero_le _, (Nat.zero_add _).symm⟩ ?_
    rintro i ⟨hi, hu⟩
    have hsn := signN_drop_le (l := m) (i := i)
    rcases Nat.lt_or_ge i m.length with hlt | hge
    · by_cases hz : signN (m.drop i) = 0
      · rw [uriN_no (l := m.drop i) (.inl hz)] at hu
        repeat' (first
          | simp only [WL, intF, strF, WM, Int.reduceToNat, ne_eq, reduceCtorEq, not_false_eq_true, Nat.reduceAdd, Nat.reduceSub, Nat.reduceLT, Nat.reduceLeDiff, Nat.reduceEqDiff, Bool.not_true, Bool.not_false, beq_self_eq_true, true_and, and_true, reduceIte, Bool.false_eq_true, T3, T4, T9, T24, cok14, cok37, Try.results13, hz]
          | simp (disch := first | omega | (simp only [LN_]; omega)) only [wrap_id, getI]
          | with_reducible first | refine andA (hb := ?_) | refine cD (rText ?_ ?_) | refine cD (rUri ?_ ?_)
          | with_reducible refine y_nil (hK := ?_)
          | (with_reducible refine nilTC_split (fun h => ?_) (fun h bn => ?_) <;> (try simp only [List.length_map] at h))
          | ((with_reducible first | refine grd_cases (fun h => ?_) (fun h => ?_) | refine condC_split (fun h => ?_) (fun h => ?_)) <;> (try simp only [h]) <;> (try simp only [NR_, Bool.not_true, Bool.not_false, Bool.not_eq_eq_eq_not, ne_eq] at h))
          | omega | (simp only [LN_]; omega))
        all_goals first
          | exact leafL sub_rfl (leT_eq (congrArg B (by rw [ev, decide_eq_false (by omega)]))) hK
          | (exfalso; omega)
          | trace_state
      · rw [uriN_yes hz rfl, List.drop_drop] at hu
        repeat' (first
          | simp only [WL, intF, strF, WM, Int.reduceToNat, ne_eq, reduceCtorEq, not_false_eq_true, Nat.reduceAdd, Nat.reduceSub, Nat.reduceLT, Nat.reduceLeDiff, Nat.reduceEqDiff, Bool.not_true, Bool.not_false, beq_self_eq_true, true_and, and_true, reduceIte, Bool.false_eq_true, T3, T4, T9, T24, cok14, cok37, Try.results13]
          | simp (disch := first | omega | (simp only [LN_]; omega)) only [wrap_id, getI]
          | with_reducible first | refine andA (hb := ?_) | refine cD (rText ?_ ?_) | refine cD (rUri ?_ ?_)
          | with_reducible refine y_nil (hK := ?_)
          | (with_reducible refine nilTC_split (fun h => ?_) (fun h bn => ?_) <;> (try simp only [List.length_map] at h))
          | ((with_reducible first | refine grd_cases (fun h => ?_) (fun h => ?_) | refine condC_split (fun h => ?_) (fun h => ?_)) <;> (try simp only [h]) <;> (try simp only [NR_, Bool.not_true, Bool.not_false, Bool.not_eq_eq_eq_not, ne_eq] at h))
          | omega | (simp only [LN_]; omega))
        all_goals first
          | exact ⟨i + signN (m.drop i), St_le_same (by repeat (first | exact trivial | refine ⟨le_rfl, ?_⟩ | refine ⟨le_any, ?_⟩ | refine ⟨le_ro, ?_⟩ | refine ⟨le_nil (by decide), ?_⟩ | refine ⟨le_wrap (by omega) (by omega) (by omega), ?_⟩ | refine ⟨le_int (by omega), ?_⟩ | refine ⟨le_eq (by simp), ?_⟩)) id, ⟨by omega, by omega⟩, by omega⟩
          | (exfalso; omega)
          | trace_state
    · rw [List.drop_eq_nil_of_le hge, show uriN anyC [] = 0 from rfl] at hu
      repeat' (first
        | simp only [WL, intF, strF, WM, Int.reduceToNat, ne_eq, reduceCtorEq, not_false_eq_true, Nat.reduceAdd, Nat.reduceSub, Nat.reduceLT, Nat.reduceLeDiff, Nat.reduceEqDiff, Bool.not_true, Bool.not_false, beq_self_eq_true, true_and, and_true, reduceIte, Bool.false_eq_true, T3, T4, T9, T24, cok14, cok37, Try.results13]
        | simp (disch := first | omega | (simp only [LN_]; omega)) only [wrap_id, getI]
        | with_reducible first | refine andA (hb := ?_) | refine cD (rText ?_ ?_) | refine cD (rUri ?_ ?_)
        | with_reducible refine y_nil (hK := ?_)
        | (with_reducible refine nilTC_split (fun h => ?_) (fun h bn => ?_) <;> (try simp only [List.length_map] at h))
        | ((with_reducible first | refine grd_cases (fun h => ?_) (fun h => ?_) | refine condC_split (fun h => ?_) (fun h => ?_)) <;> (try simp only [h]) <;> (try simp only [NR_, Bool.not_true, Bool.not_false, Bool.not_eq_eq_eq_not, ne_eq] at h))
        | omega | (simp only [LN_]; omega))
      all_goals first
        | exact leafL sub_rfl (leT_eq (congrArg B (by rw [ev, decide_eq_true (by omega)]))) hK
        | trace_state

-- props.Valid
set_option maxHeartbeats 8000000 in
theorem pValid {s : ByteArray} (hl : s.size ≤ 1000000000) (hK : K (.ret (B (validI (bytesI s)))) σ) : ACallF κ Try.prog 18 [.raw (.string s)] σ K := by
  have h1 := bytesI_len s
  have hbb := bytesI_byte s
  have ev : validI (bytesI s) = decide (0 < (bytesI s).length ∧ uriN anyC (bytesI s) = (bytesI s).length) := rfl
  refine ACallF.dropL (ACallF_introA Try.func18 rfl ?_)
  simp only [Try.ntmps18]
  repeat' (first
    | with_reducible first | refine AW_seqA (AW_block ?_) | refine AW_block ?_ | refine cut_seqloop ?_ | refine cut_loop ?_ | refine AW_seqA (AW_seqA ?_) | refine AW_seq ?_ | refine AW_runReg ?_ | refine AW_runCond ?_ | refine AW_runExit ?_ | refine AW_runRet ?_ | refine AW_runSkip ?_ | refine AW_runLabel ?_
    | simp only [WL, intF, strF, WM, Int.reduceToNat, ne_eq, reduceCtorEq, not_false_eq_true, Nat.reduceAdd, Nat.reduceSub, Nat.reduceLT, Nat.reduceLeDiff, Nat.reduceEqDiff, Bool.not_true, Bool.not_false, beq_self_eq_true, true_and, and_true, reduceIte, Bool.false_eq_true, convC_sl, convC_str, List.eraseIdx_cons_zero, List.eraseIdx_cons_succ, T3, T4, T5, T9, T24, T29, T30, cI in3, cok42, cok46, Try.results18]
    | simp (disch := first | omega | (simp only [LN_]; omega)) only [wrap_id, getI]
    | with_reducible first | refine andA (hb := ?_) | refine y_load (hK := ?_) | refine y_appN ?_ | refine y_appS ?_ | refine y_app (hlen := ?_) (hmax := ?_) (hK := fun tk => ?_) | refine y_bs0 ?_ | refine y_bs (hK := ?_) | refine y_str ?_ ?_
    | with_reducible refine y_nil (hK := ?_)
    | (with_reducible refine nilTC_split (fun h => ?_) (fun h bn => ?_) <;> (try simp only [List.length_map] at h))
    | ((with_reducible first | refine grd_cases (fun h => ?_) (fun h => ?_) | refine condC_split (fun h => ?_) (fun h => ?_)) <;> (try simp only [h]) <;> (try simp only [NR_, Bool.not_true, Bool.not_false, Bool.not_eq_eq_eq_not, ne_eq] at h))
    | omega | (simp only [LN_]; omega) | (refine maxLen_ok ?_; (first | omega | (simp only [LN_]; omega))))
  generalize bytesI s = bs at *
  have hg : ∀ j, j < bs.length → 0 ≤ bs.getD j 0 ∧ bs.getD j 0 ≤ 255 := fun j hj => by
    rw [List.getD_eq_getElem?_getD, List.getElem?_eq_getElem hj]
    exact hbb _ (List.getElem_mem hj)
  refine loopA (fun x : Nat × Option (Nat × Nat) => ⟨(.raw (.string s) :: .any :: .any :: SI (some x.2) (bs.take x.1) :: .any :: .any :: .any :: SU none bs :: I bs.length :: I x.1 :: .any :: .any :: .any :: .any :: .any :: .any :: .any :: .any :: .any :: .any :: .any :: .any :: .any :: .any :: .any :: .any :: .any :: .any :: .any :: []), .tip x.2 :: σ, true, []⟩) (fun x => x.1 ≤ bs.length) (fun x => bs.length - x.1) (0, none) (St_leW (by repeat (first | exact trivial | refine ⟨le_rfl, ?_⟩ | refine ⟨le_any, ?_⟩ | refine ⟨le_ro, ?_⟩ | refine ⟨le_nil (by decide), ?_⟩ | refine ⟨le_wrap (by omega) (by omega) (by omega), ?_⟩ | refine ⟨le_int (by omega), ?_⟩ | refine ⟨le_eq (by simp), ?_⟩)) ResW.void id) (Nat.zero_le _) ?_
  rintro ⟨k, tk⟩ hk
  dsimp only at hk ⊢
  rcases Nat.lt_or_ge k bs.length with hlt | hge
  · have hgk := hg k hlt
    have ht : (bs.take k).length = k := by simp; omega
    repeat' (first
      | with_reducible first | refine AW_seqA (AW_block ?_) | refine AW_block ?_ | refine cut_seqloop ?_ | refine cut_loop ?_ | refine AW_seqA (AW_seqA ?_) | refine AW_seq ?_ | refine AW_runReg ?_ | refine AW_runCond ?_ | refine AW_runExit ?_ | refine AW_runRet ?_ | refine AW_runSkip ?_ | refine AW_runLabel ?_
      | simp only [WL, intF, strF, WM, Int.reduceToNat, ne_eq, reduceCtorEq, not_false_eq_true, Nat.reduceAdd, Nat.reduceSub, Nat.reduceLT, Nat.reduceLeDiff, Nat.reduceEqDiff, Bool.not_true, Bool.not_false, beq_self_eq_true, true_and, and_true, reduceIte, Bool.false_eq_true, convC_sl, convC_str, List.eraseIdx_cons_zero, List.eraseIdx_cons_succ, T3, T4, T5, T9, T24, T29, T30, cI in3, cok42, cok46, Try.results18]
      | simp (disch := first | omega | (simp only [LN_]; omega)) only [wrap_id, getI, getU]
      | with_reducible first | refine andA (hb := ?_) | refine y_load (hK := ?_) | refine y_appN ?_ | refine y_appS ?_ | refine y_app (hlen := ?_) (hmax := ?_) (hK := fun tk => ?_) | refine y_bs0 ?_ | refine y_bs (hK := ?_) | refine y_str ?_ ?_
      | with_reducible refine y_nil (hK := ?_)
      | (with_reducible refine nilTC_split (fun h => ?_) (fun h bn => ?_) <;> (try simp only [List.length_map] at h))
      | ((with_reducible first | refine grd_cases (fun h => ?_) (fun h => ?_) | refine condC_split (fun h => ?_) (fun h => ?_)) <;> (try simp only [h]) <;> (try simp only [NR_, Bool.not_true, Bool.not_false, Bool.not_eq_eq_eq_not, ne_eq] at h))
      | omega | (simp only [LN_]; omega) | (refine maxLen_ok ?_; (first | omega | (simp only [LN_]; omega))))
    have et : bs.take (k + 1) = bs.take k ++ [bs.getD k 0] := by rw [List.take_succ_eq_append_getElem hlt]; simp [List.getD_eq_getElem?_getD, hlt]
    exact ⟨(k + 1, _), St_leW (by simp only [et]; repeat (first | exact trivial | refine ⟨le_rfl, ?_⟩ | refine ⟨le_any, ?_⟩ | refine ⟨le_ro, ?_⟩ | refine ⟨le_nil (by decide), ?_⟩ | refine ⟨le_wrap (by omega) (by omega) (by omega), ?_⟩ | refine ⟨le_int (by omega), ?_⟩ | refine ⟨le_eq (by simp), ?_⟩)) (ResW.refl _) id, by dsimp only; omega, by dsimp only; omega⟩
  · obtain rfl : k = bs.length := by omega
    rw [List.take_length]
    repeat' (first
      | with_reducible first | refine AW_seqA (AW_block ?_) | refine AW_block ?_ | refine cut_seqloop ?_ | refine cut_loop ?_ | refine AW_seqA (AW_seqA ?_) | refine AW_seq ?_ | refine AW_runReg ?_ | refine AW_runCond ?_ | refine AW_runExit ?_ | refine AW_runRet ?_ | refine AW_runSkip ?_ | refine AW_runLabel ?_
      | simp only [WL, intF, strF, WM, Int.reduceToNat, ne_eq, reduceCtorEq, not_false_eq_true, Nat.reduceAdd, Nat.reduceSub, Nat.reduceLT, Nat.reduceLeDiff, Nat.reduceEqDiff, Bool.not_true, Bool.not_false, beq_self_eq_true, true_and, and_true, reduceIte, Bool.false_eq_true, convC_sl, convC_str, List.eraseIdx_cons_zero, List.eraseIdx_cons_succ, T3, T4, T5, T9, T24, T29, T30, cI in3, cok42, cok46, Try.results18]
      | simp (disch := first | omega | (simp only [LN_]; omega)) only [wrap_id, getI]
      | with_reducible first | refine andA (hb := ?_) | refine y_load (hK := ?_) | refine y_appN ?_ | refine y_appS ?_ | refine y_app (hlen := ?_) (hmax := ?_) (hK := fun tk => ?_) | refine y_bs0 ?_ | refine y_bs (hK := ?_) | refine y_str ?_ ?_ | refine cD (pUriAll ?_ ?_)
      | with_reducible refine y_nil (hK := ?_)
      | (with_reducible refine nilTC_split (fun h => ?_) (fun h bn => ?_) <;> (try simp only [List.length_map] at h))
      | ((with_reducible first | refine grd_cases (fun h => ?_) (fun h => ?_) | refine condC_split (fun h => ?_) (fun h => ?_)) <;> (try simp only [h]) <;> (try simp only [NR_, Bool.not_true, Bool.not_false, Bool.not_eq_eq_eq_not, ne_eq] at h))
      | omega | (simp only [LN_]; omega) | (refine maxLen_ok ?_; (first | omega | (simp only [LN_]; omega))))
    · exact leafL (sub_cons sub_rfl) (leT_eq (congrArg B (by rw [ev, Bool.eq_iff_iff]; simp; omega))) hK
    · exact leafL (sub_cons sub_rfl) (leT_eq (congrArg B (by rw [ev, decide_eq_false (by omega)]))) hK
end Go.Proofs.Ytaeacialcbahnaa
/-
  The laws of chapter 11: PropsValid, PropsDirects.
-/


namespace Go.Proofs.Ytaeacialcbahnaa
open Go.Abs
set_option linter.unusedVariables false
set_option linter.unusedSimpArgs false
-- hb: 8000000
-- rd: 20000
variable {κ : Ctx} {σ : List Res} {K : Ret → List Res → Prop} {o o' : Option (Option (Nat × Nat))}

set_option maxHeartbeats 8000000 in
set_option maxRecDepth 20000 in
theorem alive11_ex : tagI [33, 33, 115, 116, 114, 32, 120] = (({ data := #[33, 33, 115, 116, 114] } : ByteArray), 5, true) := by decide +kernel
-- marginalialaw11.alive
set_option maxHeartbeats 8000000 in
set_option maxRecDepth 20000 in
theorem alive11 (hK : K (.ret (B true)) σ) : ACallF κ Try.prog 12 [] σ K := by
  refine ACallF.dropL (ACallF_intro Try.func12 rfl ?_)
  simp only [Try.ntmps12]
  repeat' (first
    | simp only [WL, intF, strF, WM, Int.reduceToNat, ne_eq, reduceCtorEq, not_false_eq_true, Nat.reduceAdd, Nat.reduceSub, Nat.reduceLT, Nat.reduceLeDiff, Nat.reduceEqDiff, Bool.not_true, Bool.not_false, beq_self_eq_true, true_and, and_true, reduceIte, Bool.false_eq_true, T3, T4, T9, T24, cok15, Try.results12, alive11_ex]
    | simp (disch := first | omega | (simp only [LN_]; omega)) only [wrap_id, getI]
    | with_reducible first | refine andA (hb := ?_) | refine y_bs0 ?_ | refine y_bs (hK := ?_)
    | ( refine callD_mk (ACallF.argsS (ys := [SI none [33, 33, 115, 116, 114, 32, 120]]) ⟨leS_le le_rfl, trivial⟩ (pTag (by decide) ?_)))
    | with_reducible first | refine cD (pTag ?_ ?_)
    | with_reducible refine y_nil (hK := ?_)
    | (with_reducible refine nilTC_split (fun h => ?_) (fun h bn => ?_) <;> (try simp only [List.length_map] at h))
    | ((with_reducible first | refine grd_cases (fun h => ?_) (fun h => ?_) | refine condC_split (fun h => ?_) (fun h => ?_)) <;> (try simp only [h]) <;> (try simp only [NR_, Bool.not_true, Bool.not_false, Bool.not_eq_eq_eq_not, ne_eq] at h))
    | omega | (simp only [LN_]; omega))
  all_goals exact leafL sub_rfl (leT_eq rfl) hK

-- marginalialaw11.PropsValid
set_option maxHeartbeats 8000000 in
set_option maxRecDepth 20000 in
theorem law_PropsValid (κ : Ctx) (s : ByteArray) (hs : s.size ≤ maxLen) : ACallF κ Try.prog 4 [.raw (.string s)] [] (fun r _ => r = .ret (B true)) := by
  refine ACallF.dropL (ACallF_intro Try.func4 rfl ?_)
  simp only [Try.ntmps4]
  repeat' (first
    | simp only [WL, intF, strF, WM, Int.reduceToNat, ne_eq, reduceCtorEq, not_false_eq_true, Nat.reduceAdd, Nat.reduceSub, Nat.reduceLT, Nat.reduceLeDiff, Nat.reduceEqDiff, Bool.not_true, Bool.not_false, beq_self_eq_true, true_and, and_true, reduceIte, Bool.false_eq_true, T3, T4, T9, cok12, cok13, cok18, Try.results4]
    | simp (disch := first | omega | (simp only [LN_]; omega)) only [wrap_id, getI]
    | with_reducible first | refine andA (hb := ?_) | refine cD (alive11 ?_) | refine cD (rValid ?_ ?_) | refine cD (pValid ?_ ?_)
    | with_reducible refine y_nil (hK := ?_)
    | (with_reducible refine nilTC_split (fun h => ?_) (fun h bn => ?_) <;> (try simp only [List.length_map] at h))
    | ((with_reducible first | refine grd_cases (fun h => ?_) (fun h => ?_) | refine condC_split (fun h => ?_) (fun h => ?_)) <;> (try simp only [h]) <;> (try simp only [NR_, Bool.not_true, Bool.not_false, Bool.not_eq_eq_eq_not, ne_eq] at h))
    | omega | (simp only [LN_]; omega))
  all_goals exact leafLaw (by simp)

-- marginalialaw11.PropsDirects
set_option maxHeartbeats 8000000 in
set_option maxRecDepth 20000 in
theorem law_PropsDirects (κ : Ctx) (l : List Int) (hl : l.length ≤ maxLen ∧ ∀ a ∈ l, IntKind.i64.min ≤ a ∧ a ≤ IntKind.i64.max) : ACallF κ Try.prog 5 [.sl 1 none (l.map fun n => I n)] [] (fun r _ => r = .ret (B true)) := by
  refine ACallF.dropL (ACallF_intro Try.func5 rfl ?_)
  simp only [Try.ntmps5]
  repeat' (first
    | simp only [WL, intF, strF, WM, Int.reduceToNat, ne_eq, reduceCtorEq, not_false_eq_true, Nat.reduceAdd, Nat.reduceSub, Nat.reduceLT, Nat.reduceLeDiff, Nat.reduceEqDiff, Bool.not_true, Bool.not_false, beq_self_eq_true, true_and, and_true, reduceIte, Bool.false_eq_true, T3, T4, T9, T24, cok12, cok19, cok20, Try.results5]
    | simp (disch := first | omega | (simp only [LN_]; omega)) only [wrap_id, getI]
    | with_reducible first | refine andA (hb := ?_) | refine cD (alive11 ?_) | refine cD (pDirective ?_ ?_) | refine cD (rDirective ?_ ?_)
    | with_reducible refine y_nil (hK := ?_)
    | (with_reducible refine nilTC_split (fun h => ?_) (fun h bn => ?_) <;> (try simp only [List.length_map] at h))
    | ((with_reducible first | refine grd_cases (fun h => ?_) (fun h => ?_) | refine condC_split (fun h => ?_) (fun h => ?_)) <;> (try simp only [h]) <;> (try simp only [NR_, Bool.not_true, Bool.not_false, Bool.not_eq_eq_eq_not, ne_eq] at h))
    | omega | (simp only [LN_]; omega))
  all_goals exact leafLaw (by simp)
end Go.Proofs.Ytaeacialcbahnaa
/-
  Own layer, part B: ranges over texts, and maps from texts to texts.
-/


namespace Go.Abs
open Go.RowKit Go.MapKept
set_option linter.unusedVariables false
/-- An object that is no cells turns. -/
theorem Rel.set_blk {κ : Ctx} {g : Nat → Nat} {ρ : List Res} {w : World} {b : Nat} {o : Obj} (o' : Obj) (h : Rel κ g (.blk b o :: ρ) w) (ho : notCells o') :
    Rel κ g (.blk b o' :: ρ) { w with heap := w.heap.setIfInBounds b o' } ∧ GE g w g { w with heap := w.heap.setIfInBounds b o' } := by
  obtain ⟨hg, hb, hn⟩ := h.holds (.blk b o) (by simp)
  have hlt := (h.bnd (.blk b o) (by simp) b rfl).2
  have hsame : ∀ k, k ≠ b → (w.heap.setIfInBounds b o')[k]? = w.heap[k]? := fun k hk => by simp [Ne.symm hk]
  have hnew : (w.heap.setIfInBounds b o')[b]? = some o' := by simp [hlt]
  have H : GE g w g { w with heap := w.heap.setIfInBounds b o' } := by
    refine ⟨by simp, fun _ => Nat.le_refl _, fun k j hk => ?_, fun k => ?_⟩
    · by_cases e : k = b
      · subst e; rw [hg] at hk; omega
      · simp only [World.cell?]; rw [hsame k e]
    · by_cases e : k = b
      · subst e
        simp only [blockLen, hb]
        cases o <;> first | exact Nat.zero_le _ | exact absurd hn id
      · simp only [blockLen]; rw [hsame k e]; exact Nat.le_refl _
  exact ⟨h.change H rfl rfl rfl (by simp) hsame (fun _ _ => rfl) rfl rfl ⟨hg, hnew, ho⟩, H⟩
theorem VR.tup_raw {g : Nat → Nat} {w : World} {l : List Value} : VR g w (.tup (l.map .raw)) (.tuple l.toArray) :=
  .tup _ (by simp) (fun k y hy => by
    rw [List.getElem?_map] at hy
    cases h : l[k]? with
    | none => rw [h] at hy; cases hy
    | some v =>
      rw [h] at hy; cases hy
      have : l.toArray.getD k undef = v := by simp [Array.getD_eq_getD_getElem?, h]
      rw [this]; exact .raw _)
section
variable {κ : Ctx} {P : Program} {σ : List Res} {K : AV → List Res → Prop}
theorem act_range_str {t : TypeId} {s : ByteArray} (ht : isStr P t = true) (hK : ∀ b, K (.raw (.pointer (some ⟨b, 0, none⟩))) (.blk b (.stringIter s 0) :: σ)) : AAct κ P (.range t) [.raw (.string s)] σ K := by
  intro φ g w vs hR hvs
  obtain ⟨v, rfl, hu⟩ := one_vs hvs
  cases hu.raw_eq
  obtain ⟨a1, a2⟩ := hR.new_blk (.stringIter s 0) trivial
  refine ⟨.pointer (some ⟨w.heap.size, 0, none⟩), _, g, _, _, ?_, a1.perm List.perm_middle.symm, a2, .raw _, hK _⟩
  show (Instr.range t (.string s)).run P w = _
  simp [Instr.range, run_underlying (und_of_isStr ht)]
theorem act_next_end {t : TypeId} {s : ByteArray} {b pos : Nat} (i : Nat) (h : σ[i]? = some (.blk b (.stringIter s pos))) (hp : s.size ≤ pos) (hK : K (.tup [B false]) σ) :
    AAct κ P (.next true t) [.raw (.pointer (some ⟨b, 0, none⟩))] σ K := by
  intro φ g w vs hR hvs
  obtain ⟨v, rfl, hu⟩ := one_vs hvs
  cases hu.raw_eq
  have hR2 := hR.perm (perm_front (φ := φ) (perm_get h))
  obtain ⟨hg, hb, hn⟩ := hR2.holds (.blk b (.stringIter s pos)) (by simp)
  refine ⟨.tuple #[.bool false], w, g, _, σ, ?_, hR, GE.refl _ _, VR.tup_raw (l := [.bool false]), hK⟩
  show (Instr.next (.pointer (some ⟨b, 0, none⟩)) true t).run P w = _
  simp [Instr.next, getObj, Sem.run, hb, Nat.not_lt.2 hp]
theorem act_next_str {t : TypeId} {s : ByteArray} {b pos : Nat} (i : Nat) (h : σ[i]? = some (.blk b (.stringIter s pos))) (hp : pos < s.size)
    (hK : K (.tup [B true, I pos, .raw (.int .i32 (Utf8.decode s pos).1)]) (σ.set i (.blk b (.stringIter s (pos + (Utf8.decode s pos).2))))) :
    AAct κ P (.next true t) [.raw (.pointer (some ⟨b, 0, none⟩))] σ K := by
  intro φ g w vs hR hvs
  obtain ⟨v, rfl, hu⟩ := one_vs hvs
  cases hu.raw_eq
  have hR2 := hR.perm (perm_front (φ := φ) (perm_get h))
  obtain ⟨hg, hb, hn⟩ := hR2.holds (.blk b (.stringIter s pos)) (by simp)
  obtain ⟨a1, a2⟩ := hR2.set_blk (.stringIter s (pos + (Utf8.decode s pos).2)) trivial
  refine ⟨.tuple #[.bool true, .int .i64 pos, .int .i32 (Utf8.decode s pos).1], _, g, _, _, ?_, a1.perm (List.perm_middle.symm.trans ((perm_set h).append_left φ)), a2, VR.tup_raw (l := [.bool true, .int .i64 pos, .int .i32 (Utf8.decode s pos).1]), hK⟩
  show (Instr.next (.pointer (some ⟨b, 0, none⟩)) true t).run P w = _
  simp [Instr.next, getObj, setObj, Sem.run, hb, hp, goInt]

/-! ### Maps from texts to texts -/
abbrev MapL := List (ByteArray × ByteArray × Nat)
def mapE (l : MapL) : List MapEntry := l.map fun e => { key := .string e.1, val := .string e.2.1, born := e.2.2 }
theorem mapE_app (l : MapL) (k x : ByteArray) (c : Nat) : mapE (l ++ [(k, x, c)]) = mapE l ++ [{ key := .string k, val := .string x, born := c }] := by simp [mapE]
def mapO (l : MapL) (clock : Nat) : Obj := .map (mapE l).toArray clock
def lookL : MapL → ByteArray → Option ByteArray
  | [], _ => none
  | e :: l, k => if k = e.1 then some e.2.1 else lookL l k
theorem findNow_L (k : ByteArray) : ∀ (l : MapL) (i : Nat), ∃ j, Instr.findNow .string (.string k) (mapE l) i = some ((lookL l k).map fun v => (j, .string v))
  | [], _ => ⟨0, rfl⟩
  | e :: l, i => by
    obtain ⟨r, hr, hiff⟩ := sameNow_of_keys (d := .string) (a := .string k) (b := .string e.1) trivial trivial
    by_cases h : k = e.1
    · obtain rfl : r = true := hiff.2 (by rw [h])
      exact ⟨i, by simp only [mapE, List.map_cons, Instr.findNow, hr, lookL, if_pos h]; rfl⟩
    · obtain ⟨j, hj⟩ := findNow_L k l (i + 1)
      refine ⟨j, ?_⟩
      obtain rfl : r = false := by
        cases r with
        | false => rfl
        | true => exact absurd (Value.string.inj (hiff.1 rfl)) h
      simp only [mapE, List.map_cons, Instr.findNow, hr, lookL, if_neg h]
      exact hj
structure TMap (P : Program) (t kt et : TypeId) : Prop where
  map : P.underlying t = some (.map kt et)
  key : P.underlying kt = some .string
  elem : zrT P et = some (.string ByteArray.empty)
theorem run_zeroT {P : Program} {t : TypeId} {z : Value} {w : World} (hz : zrT P t = some z) : (zeroValue t).run P w = .ok z w := by
  unfold zrT at hz
  cases hi : P.info? t with
  | none => simp [hi] at hz
  | some i =>
    have : i.zero = some z := by simpa [hi] using hz
    simp [zeroValue, run_info hi, this]
theorem act_lookup_nil {t kt et : TypeId} {k : ByteArray} (T : TMap P t kt et) (hK : K (.tup [.raw (.string ByteArray.empty), B false]) σ) : AAct κ P (.lookup t true) [.raw (.map none), .raw (.string k)] σ K := by
  intro φ g w vs hR hvs
  obtain ⟨v, u, rfl, hu, hv⟩ := two_vs hvs
  cases hu.raw_eq
  cases hv.raw_eq
  refine ⟨.tuple #[.string ByteArray.empty, .bool false], w, g, _, σ, ?_, hR, GE.refl _ _, VR.tup_raw (l := [.string ByteArray.empty, .bool false]), hK⟩
  show (Instr.lookup t (.map none) (.string k) true).run P w = _
  have h1 := run_checkKey (P := P) (w := w) (k := .string k) T.key trivial true 9999
  have h2 := run_findKey (P := P) (w := w) (k := .string k) (l := []) (a := none) T.key rfl
  simp [Instr.lookup, run_underlying T.map, h1, h2, run_zeroT T.elem]
theorem act_lookup {t kt et : TypeId} {k : ByteArray} {l : MapL} {clock b : Nat} (i : Nat) (h : σ[i]? = some (.blk b (mapO l clock))) (T : TMap P t kt et)
    (hK : K (.tup [.raw (.string ((lookL l k).getD ByteArray.empty)), B (lookL l k).isSome]) σ) : AAct κ P (.lookup t true) [.raw (.map (some b)), .raw (.string k)] σ K := by
  intro φ g w vs hR hvs
  obtain ⟨v, u, rfl, hu, hv⟩ := two_vs hvs
  cases hu.raw_eq
  cases hv.raw_eq
  have hR2 := hR.perm (perm_front (φ := φ) (perm_get h))
  obtain ⟨hg, hb, hn⟩ := hR2.holds (.blk b (mapO l clock)) (by simp)
  refine ⟨.tuple #[.string ((lookL l k).getD ByteArray.empty), .bool (lookL l k).isSome], w, g, _, σ, ?_, hR, GE.refl _ _, VR.tup_raw (l := [.string ((lookL l k).getD ByteArray.empty), .bool (lookL l k).isSome]), hK⟩
  show (Instr.lookup t (.map (some b)) (.string k) true).run P w = _
  obtain ⟨j, hj⟩ := findNow_L k l 0
  have h1 := fun e => run_checkKey (P := P) (w := w) (k := .string k) T.key trivial e 9999
  have h2 := run_findKey (P := P) (w := w) (k := .string k) T.key hj
  have h3 : (getObj b).run P w = .ok (.map (mapE l).toArray clock) w := Go.MapKept.run_getObj_map hb
  cases hl : lookL l k <;> simp [Instr.lookup, run_underlying T.map, h1, h2, h3, hl, run_zeroT T.elem]
theorem act_mkmap {t : TypeId} (hK : ∀ b, K (.raw (.map (some b))) (.blk b (mapO [] 0) :: σ)) : AAct κ P (.makeMap t) [] σ K := by
  intro φ g w vs hR hvs
  have := nil_vs hvs
  subst this
  obtain ⟨a1, a2⟩ := hR.new_blk (mapO [] 0) trivial
  refine ⟨.map (some w.heap.size), _, g, _, _, ?_, a1.perm List.perm_middle.symm, a2, .raw _, hK _⟩
  show (Instr.makeMap t none).run P w = _
  simp [Instr.makeMap]
  rfl
theorem act_mapset {t kt et : TypeId} {k x : ByteArray} {l : MapL} {clock b : Nat} (i : Nat) (h : σ[i]? = some (.blk b (mapO l clock))) (T : TMap P t kt et) (hn : lookL l k = none)
    (hK : K .any (σ.set i (.blk b (mapO (l ++ [(k, x, clock)]) (clock + 1))))) : AAct κ P (.mapUpdate t) [.raw (.map (some b)), .raw (.string k), .raw (.string x)] σ K := by
  intro φ g w vs hR hvs
  obtain ⟨v, u, y, rfl, hu, hv, hy⟩ : ∃ v u y, vs = [v, u, y] ∧ VR g w (.raw (.map (some b))) v ∧ VR g w (.raw (.string k)) u ∧ VR g w (.raw (.string x)) y := by
    match vs, hvs.size with
    | [v, u, y], _ => exact ⟨v, u, y, rfl, hvs.get 0 _ rfl, hvs.get 1 _ rfl, hvs.get 2 _ rfl⟩
  cases hu.raw_eq
  cases hv.raw_eq
  cases hy.raw_eq
  have hR2 := hR.perm (perm_front (φ := φ) (perm_get h))
  obtain ⟨hg, hb, _⟩ := hR2.holds (.blk b (mapO l clock)) (by simp)
  obtain ⟨a1, a2⟩ := hR2.set_blk (mapO (l ++ [(k, x, clock)]) (clock + 1)) trivial
  refine ⟨undef, _, g, .any, _, ?_, a1.perm (List.perm_middle.symm.trans ((perm_set h).append_left φ)), a2, .any _, hK⟩
  obtain ⟨j, hj⟩ := findNow_L k l 0
  rw [hn, Option.map_none] at hj
  have h1 := fun e => run_checkKey (P := P) (w := w) (k := .string k) T.key trivial e 9999
  have h2 := run_findKey (P := P) (w := w) (k := .string k) T.key hj
  have h3 : (getObj b).run P w = .ok (.map (mapE l).toArray clock) w := Go.MapKept.run_getObj_map hb
  have h4 := fun o => Go.MapKept.run_setObj_map (P := P) o hb
  simp [MA.sem, nth, Instr.mapUpdate, run_underlying T.map, h1, h2, h3, h4, mapO, mapE_app]
theorem equalIn_nil {t kt et : TypeId} {m : Option Nat} {w : World} (n : Nat) (T : TMap P t kt et) : (Op.equalIn (n + 1) t (.map none) (.map m)).run P w = .ok m.isNone w := by
  simp [Op.equalIn, run_underlying T.map]
theorem equalIn_map {t kt et : TypeId} {b : Nat} {w : World} (n : Nat) (T : TMap P t kt et) : (Op.equalIn (n + 1) t (.map (some b)) (.map none)).run P w = .ok false w := by
  simp [Op.equalIn, run_underlying T.map]
theorem act_mapnil {t kt et : TypeId} {m : Option Nat} (T : TMap P t kt et) (hK : K (B m.isNone) σ) : AAct κ P (.bin .eql t) [.raw (.map none), .raw (.map m)] σ K := by
  intro φ g w vs hR hvs
  obtain ⟨v, u, rfl, hu, hv⟩ := two_vs hvs
  cases hu.raw_eq
  cases hv.raw_eq
  refine ⟨.bool m.isNone, w, g, _, σ, ?_, hR, GE.refl _ _, .raw _, hK⟩
  show (binOp .eql t (.map none) (.map m)).run P w = _
  have := equalIn_nil (w := w) (m := m) 9999 T
  simp only [binOp, Op.equal, show Op.maxDepth = 9999 + 1 from rfl, Sem.run_bind, this]
  rfl
theorem act_mapeq {t kt et : TypeId} {b : Nat} (T : TMap P t kt et) (hK : K (B false) σ) : AAct κ P (.bin .eql t) [.raw (.map (some b)), .raw (.map none)] σ K := by
  intro φ g w vs hR hvs
  obtain ⟨v, u, rfl, hu, hv⟩ := two_vs hvs
  cases hu.raw_eq
  cases hv.raw_eq
  refine ⟨.bool false, w, g, _, σ, ?_, hR, GE.refl _ _, .raw _, hK⟩
  show (binOp .eql t (.map (some b)) (.map none)).run P w = _
  have := equalIn_map (w := w) (b := b) 9999 T
  simp only [binOp, Op.equal, show Op.maxDepth = 9999 + 1 from rfl, Sem.run_bind, this]
  rfl
end
/-- What a proved summary of the library says of a call. -/
theorem ACallF_of_calls {κ : Ctx} {P : Program} {f : FuncId} {xs : List Value} {v : Value} {σ : List Res} {K : Ret → List Res → Prop} (h : ∀ w, Calls P f xs.toArray w fun e w' => e = .returned v ∧ w' = w)
    (hK : K (.ret (.raw v)) σ) : ACallF κ P f (xs.map .raw) σ K := by
  intro φ g w vs hR hvs
  have hvs2 : vs = xs.toArray := by
    apply Array.ext'
    apply List.ext_getElem?
    intro k
    have hs := hvs.size
    rw [List.length_map] at hs
    rcases Nat.lt_or_ge k xs.length with hk | hk
    · have := hvs.get k (.raw xs[k]) (by simp [hk])
      have e := this.raw_eq
      simp only [Array.getD_eq_getD_getElem?] at e
      have hk2 : k < vs.size := by omega
      simp [hk] at e ⊢
      simp [hk2] at e ⊢
      exact e
    · rw [List.getElem?_eq_none (by simpa [hs] using hk), List.getElem?_eq_none (by simpa using hk)]
  subst hvs2
  refine callsIn_wide.2 ?_
  intro cs
  obtain ⟨e, w', fr, ⟨rfl, rfl⟩, s, x⟩ := h w cs
  exact ⟨.returned v, w', fr, ⟨g, σ, .ret (.raw v), hR, GE.refl _ _, .raw _, hK⟩, s, x⟩
end Go.Abs
/-
  Walks: chapter 16, texts.
-/


namespace Go.Proofs.Ytaeacialcbahnaa
open Go.Abs
set_option linter.unusedVariables false
set_option linter.unusedSimpArgs false
-- hb: 8000000
variable {κ : Ctx} {σ : List Res} {K : Ret → List Res → Prop} {o o' : Option (Option (Nat × Nat))}
/-- Whether a text begins with another. -/
def hasB (s p : ByteArray) : Bool := if p.size ≤ s.size then (s.extract 0 p.size).toList == p.toList else false
set_option maxHeartbeats 8000000 in
theorem hasB_le {s p : ByteArray} (h : hasB s p = true) : p.size ≤ s.size := by
  unfold hasB at h
  by_cases hp : p.size ≤ s.size
  · exact hp
  · rw [if_neg hp] at h; cases h

-- stringslite.HasPrefix
set_option maxHeartbeats 8000000 in
theorem sHasP0 {s p : ByteArray} (hK : K (.ret (B (hasB s p))) σ) : ACallF κ Try.prog 113 [.raw (.string s), .raw (.string p)] σ K := by
  unfold hasB at hK
  refine ACallF.dropL (ACallF_intro Try.func113 rfl ?_)
  simp only [Try.ntmps113]
  repeat' (first
    | simp only [WL, intF, strF, WM, Int.reduceToNat, ne_eq, reduceCtorEq, not_false_eq_true, Nat.reduceAdd, Nat.reduceSub, Nat.reduceLT, Nat.reduceLeDiff, Nat.reduceEqDiff, Bool.not_true, Bool.not_false, beq_self_eq_true, true_and, and_true, reduceIte, Bool.false_eq_true, T3, T4, T9, Try.results113]
    | simp (disch := first | omega | (simp only [LN_]; omega)) only [wrap_id, getI]
    | with_reducible first | refine andA (hb := ?_)
    | with_reducible refine y_nil (hK := ?_)
    | (with_reducible refine nilTC_split (fun h => ?_) (fun h bn => ?_) <;> (try simp only [List.length_map] at h))
    | ((with_reducible first | refine grd_cases (fun h => ?_) (fun h => ?_) | refine condC_split (fun h => ?_) (fun h => ?_)) <;> (try simp only [h]) <;> (try simp only [NR_, Bool.not_true, Bool.not_false, Bool.not_eq_eq_eq_not, ne_eq] at h))
    | omega | (simp only [LN_]; omega))
  all_goals first
    | (rw [if_pos (by omega)] at hK; exact leafL sub_rfl (leT_eq rfl) hK)
    | (rw [if_neg (by omega)] at hK; exact leafL sub_rfl (leT_eq rfl) hK)
    | trace_state

set_option maxHeartbeats 8000000 in
theorem cok113 : callOk Try.prog 113 = True := eq_true ⟨_, Try.func113, by kernel_rfl, by kernel_rfl⟩
set_option maxHeartbeats 8000000 in
theorem cok92 : callOk Try.prog 92 = True := eq_true ⟨_, Try.func92, by kernel_rfl, by kernel_rfl⟩

-- strings.HasPrefix
set_option maxHeartbeats 8000000 in
theorem sHasP {s p : ByteArray} (hK : K (.ret (B (hasB s p))) σ) : ACallF κ Try.prog 91 [.raw (.string s), .raw (.string p)] σ K := by
  refine ACallF.dropL (ACallF_intro Try.func91 rfl ?_)
  simp only [Try.ntmps91]
  repeat' (first
    | simp only [WL, intF, strF, WM, Int.reduceToNat, ne_eq, reduceCtorEq, not_false_eq_true, Nat.reduceAdd, Nat.reduceSub, Nat.reduceLT, Nat.reduceLeDiff, Nat.reduceEqDiff, Bool.not_true, Bool.not_false, beq_self_eq_true, true_and, and_true, reduceIte, Bool.false_eq_true, T4, T9, cok113, Try.results91]
    | simp (disch := first | omega | (simp only [LN_]; omega)) only [wrap_id, getI]
    | with_reducible first | refine andA (hb := ?_) | refine cD (sHasP0 ?_)
    | ((with_reducible first | refine grd_cases (fun h => ?_) (fun h => ?_) | refine condC_split (fun h => ?_) (fun h => ?_)) <;> (try simp only [h]) <;> (try simp only [NR_, Bool.not_true, Bool.not_false, Bool.not_eq_eq_eq_not, ne_eq] at h))
    | omega | (simp only [LN_]; omega))
  all_goals exact leafL sub_rfl (leT_eq rfl) hK

def cutB (s p : ByteArray) : ByteArray × Bool := if hasB s p = true then (s.extract p.size s.size, true) else (s, false)
set_option maxHeartbeats 8000000 in
theorem cutB_yes {s p : ByteArray} (h : hasB s p = true) : cutB s p = (s.extract p.size s.size, true) := if_pos h
set_option maxHeartbeats 8000000 in
theorem cutB_no {s p : ByteArray} (h : hasB s p = false) : cutB s p = (s, false) := if_neg (by rw [h]; decide)

-- stringslite.CutPrefix
set_option maxHeartbeats 8000000 in
theorem sCutP0 {s p : ByteArray} (hK : K (.ret (.tup [.raw (.string (cutB s p).1), B (cutB s p).2])) σ) : ACallF κ Try.prog 92 [.raw (.string s), .raw (.string p)] σ K := by
  cases h : hasB s p
  · rw [cutB_no h] at hK
    refine ACallF.dropL (ACallF_intro Try.func92 rfl ?_)
    simp only [Try.ntmps92]
    repeat' (first
      | simp only [WL, intF, strF, WM, Int.reduceToNat, ne_eq, reduceCtorEq, not_false_eq_true, Nat.reduceAdd, Nat.reduceSub, Nat.reduceLT, Nat.reduceLeDiff, Nat.reduceEqDiff, Bool.not_true, Bool.not_false, beq_self_eq_true, true_and, and_true, reduceIte, Bool.false_eq_true, T3, T4, T9, cok113, Try.results92, h]
      | simp (disch := first | omega | (simp only [LN_]; omega)) only [wrap_id, getI]
      | with_reducible first | refine andA (hb := ?_) | refine cD (sHasP0 ?_)
      | ((with_reducible first | refine grd_cases (fun h => ?_) (fun h => ?_) | refine condC_split (fun h => ?_) (fun h => ?_)) <;> (try simp only [h]) <;> (try simp only [NR_, Bool.not_true, Bool.not_false, Bool.not_eq_eq_eq_not, ne_eq] at h))
      | omega | (simp only [LN_]; omega))
    all_goals first
      | exact leafL sub_rfl (leT_eq rfl) hK
      | trace_state
  · rw [cutB_yes h] at hK
    have hle := hasB_le h
    refine ACallF.dropL (ACallF_intro Try.func92 rfl ?_)
    simp only [Try.ntmps92]
    repeat' (first
      | simp only [WL, intF, strF, WM, Int.reduceToNat, ne_eq, reduceCtorEq, not_false_eq_true, Nat.reduceAdd, Nat.reduceSub, Nat.reduceLT, Nat.reduceLeDiff, Nat.reduceEqDiff, Bool.not_true, Bool.not_false, beq_self_eq_true, true_and, and_true, reduceIte, Bool.false_eq_true, T3, T4, T9, cok113, Try.results92, h]
      | simp (disch := first | omega | (simp only [LN_]; omega)) only [wrap_id, getI]
      | with_reducible first | refine andA (hb := ?_) | refine cD (sHasP0 ?_)
      | ((with_reducible first | refine grd_cases (fun h => ?_) (fun h => ?_) | refine condC_split (fun h => ?_) (fun h => ?_)) <;> (try simp only [h]) <;> (try simp only [NR_, Bool.not_true, Bool.not_false, Bool.not_eq_eq_eq_not, ne_eq] at h))
      | omega | (simp only [LN_]; omega))
    all_goals first
      | exact leafL sub_rfl (leT_eq rfl) hK
      | trace_state

-- strings.CutPrefix
set_option maxHeartbeats 8000000 in
theorem sCutP {s p : ByteArray} (hK : K (.ret (.tup [.raw (.string (cutB s p).1), B (cutB s p).2])) σ) : ACallF κ Try.prog 57 [.raw (.string s), .raw (.string p)] σ K := by
  refine ACallF.dropL (ACallF_intro Try.func57 rfl ?_)
  simp only [Try.ntmps57]
  repeat' (first
    | simp only [WL, intF, strF, WM, Int.reduceToNat, ne_eq, reduceCtorEq, not_false_eq_true, Nat.reduceAdd, Nat.reduceSub, Nat.reduceLT, Nat.reduceLeDiff, Nat.reduceEqDiff, Bool.not_true, Bool.not_false, beq_self_eq_true, true_and, and_true, reduceIte, Bool.false_eq_true, T4, T9, cok92, Try.results57]
    | simp (disch := first | omega | (simp only [LN_]; omega)) only [wrap_id, getI]
    | with_reducible first | refine andA (hb := ?_) | refine cD (sCutP0 ?_)
    | ((with_reducible first | refine grd_cases (fun h => ?_) (fun h => ?_) | refine condC_split (fun h => ?_) (fun h => ?_)) <;> (try simp only [h]) <;> (try simp only [NR_, Bool.not_true, Bool.not_false, Bool.not_eq_eq_eq_not, ne_eq] at h))
    | omega | (simp only [LN_]; omega))
  all_goals exact leafL sub_rfl (leT_eq rfl) hK

set_option maxHeartbeats 8000000 in
theorem all_take {l : List Int} {k : Nat} (h : k < l.length) (h1 : (l.take k).all wordI = true) (h2 : wordI (l.getD k 0) = true) : (l.take (k + 1)).all wordI = true := by
  have : l.take (k + 1) = l.take k ++ [l.getD k 0] := by rw [List.take_succ_eq_append_getElem h]; simp [List.getD_eq_getElem?_getD, h]
  rw [this, List.all_append, h1]; simpa using h2
set_option maxHeartbeats 8000000 in
theorem all_not {l : List Int} {k : Nat} (h : k < l.length) (h2 : wordI (l.getD k 0) = false) : l.all wordI = false := by
  rw [Bool.eq_false_iff]
  intro e
  rw [List.all_eq_true] at e
  have := e (l.getD k 0) (by rw [List.getD_eq_getElem?_getD, List.getElem?_eq_getElem h]; exact List.getElem_mem h)
  rw [h2] at this; cases this
def wordsB (s : ByteArray) : Bool := (bytesI s).all wordI && !(s.toList == ({ data := #[] } : ByteArray).toList)

-- tags.words
set_option maxHeartbeats 8000000 in
theorem tWords {s : ByteArray} (hs : s.size ≤ 1000000000) (hK : K (.ret (B (wordsB s))) σ) : ACallF κ Try.prog 62 [.raw (.string s)] σ K := by
  have hz := bytesI_len s
  have hbb := bytesI_byte s
  unfold wordsB at hK
  refine ACallF.dropL (ACallF_introA Try.func62 rfl ?_)
  simp only [Try.ntmps62]
  repeat' (first
    | with_reducible first | refine AW_seqA (AW_block ?_) | refine AW_block ?_ | refine cut_seqloop ?_ | refine cut_loop ?_ | refine AW_seqA (AW_seqA ?_) | refine AW_seq ?_ | refine AW_runReg ?_ | refine AW_runCond ?_ | refine AW_runExit ?_ | refine AW_runRet ?_ | refine AW_runSkip ?_ | refine AW_runLabel ?_
    | simp only [WL, intF, strF, WM, Int.reduceToNat, ne_eq, reduceCtorEq, not_false_eq_true, Nat.reduceAdd, Nat.reduceSub, Nat.reduceLT, Nat.reduceLeDiff, Nat.reduceEqDiff, Bool.not_true, Bool.not_false, beq_self_eq_true, true_and, and_true, reduceIte, Bool.false_eq_true, convC_sl, convC_str, List.eraseIdx_cons_zero, List.eraseIdx_cons_succ, T3, T4, T5, T9, T30, cI in3, cok95, Try.results62]
    | simp (disch := first | omega | (simp only [LN_]; omega)) only [wrap_id, getI]
    | with_reducible first | refine andA (hb := ?_) | refine y_load (hK := ?_) | refine y_str ?_ ?_ | refine cD (cWord ?_)
    | with_reducible refine y_nil (hK := ?_)
    | (with_reducible refine nilTC_split (fun h => ?_) (fun h bn => ?_) <;> (try simp only [List.length_map] at h))
    | ((with_reducible first | refine grd_cases (fun h => ?_) (fun h => ?_) | refine condC_split (fun h => ?_) (fun h => ?_)) <;> (try simp only [h]) <;> (try simp only [NR_, Bool.not_true, Bool.not_false, Bool.not_eq_eq_eq_not, ne_eq] at h))
    | omega | (simp only [LN_]; omega) | (refine maxLen_ok ?_; (first | omega | (simp only [LN_]; omega))))
  generalize bytesI s = bs at *
  have hg : ∀ j, j < bs.length → 0 ≤ bs.getD j 0 ∧ bs.getD j 0 ≤ 255 := fun j hj => by
    rw [List.getD_eq_getElem?_getD, List.getElem?_eq_getElem hj]
    exact hbb _ (List.getElem_mem hj)
  refine loopA (fun k : Nat => ⟨(.raw (.string s) :: .any :: .any :: .any :: .any :: .any :: SU none bs :: I bs.length :: I k :: .any :: .any :: .any :: .any :: .any :: .any :: .any :: .any :: .any :: .any :: []), σ, true, []⟩) (fun k => k ≤ bs.length ∧ (bs.take k).all wordI = true) (fun k => bs.length - k) 0 (St_le_same (by repeat (first | exact trivial | refine ⟨le_rfl, ?_⟩ | refine ⟨le_any, ?_⟩ | refine ⟨le_ro, ?_⟩ | refine ⟨le_nil (by decide), ?_⟩ | refine ⟨le_wrap (by omega) (by omega) (by omega), ?_⟩ | refine ⟨le_int (by omega), ?_⟩ | refine ⟨le_eq (by simp), ?_⟩)) id) ⟨Nat.zero_le _, rfl⟩ ?_
  rintro k ⟨hk, hall⟩
  rcases Nat.lt_or_ge k bs.length with hlt | hge
  · have hgk := hg k hlt
    cases hw : wordI (bs.getD k 0)
    · rw [all_not hlt hw] at hK
      repeat' (first
        | with_reducible first | refine AW_seqA (AW_block ?_) | refine AW_block ?_ | refine cut_seqloop ?_ | refine cut_loop ?_ | refine AW_seqA (AW_seqA ?_) | refine AW_seq ?_ | refine AW_runReg ?_ | refine AW_runCond ?_ | refine AW_runExit ?_ | refine AW_runRet ?_ | refine AW_runSkip ?_ | refine AW_runLabel ?_
        | simp only [WL, intF, strF, WM, Int.reduceToNat, ne_eq, reduceCtorEq, not_false_eq_true, Nat.reduceAdd, Nat.reduceSub, Nat.reduceLT, Nat.reduceLeDiff, Nat.reduceEqDiff, Bool.not_true, Bool.not_false, beq_self_eq_true, true_and, and_true, reduceIte, Bool.false_eq_true, convC_sl, convC_str, List.eraseIdx_cons_zero, List.eraseIdx_cons_succ, T3, T4, T5, T9, T30, cI in3, cok95, Try.results62, hw]
        | simp (disch := first | omega | (simp only [LN_]; omega)) only [wrap_id, getI, getU]
        | with_reducible first | refine andA (hb := ?_) | refine y_load (hK := ?_) | refine y_str ?_ ?_ | refine cD (cWord ?_)
        | with_reducible refine y_nil (hK := ?_)
        | (with_reducible refine nilTC_split (fun h => ?_) (fun h bn => ?_) <;> (try simp only [List.length_map] at h))
        | ((with_reducible first | refine grd_cases (fun h => ?_) (fun h => ?_) | refine condC_split (fun h => ?_) (fun h => ?_)) <;> (try simp only [h]) <;> (try simp only [NR_, Bool.not_true, Bool.not_false, Bool.not_eq_eq_eq_not, ne_eq] at h))
        | omega | (simp only [LN_]; omega) | (refine maxLen_ok ?_; (first | omega | (simp only [LN_]; omega))))
      all_goals first
        | exact leafL sub_rfl (leT_eq rfl) hK
        | trace_state
    · skip
      repeat' (first
        | with_reducible first | refine AW_seqA (AW_block ?_) | refine AW_block ?_ | refine cut_seqloop ?_ | refine cut_loop ?_ | refine AW_seqA (AW_seqA ?_) | refine AW_seq ?_ | refine AW_runReg ?_ | refine AW_runCond ?_ | refine AW_runExit ?_ | refine AW_runRet ?_ | refine AW_runSkip ?_ | refine AW_runLabel ?_
        | simp only [WL, intF, strF, WM, Int.reduceToNat, ne_eq, reduceCtorEq, not_false_eq_true, Nat.reduceAdd, Nat.reduceSub, Nat.reduceLT, Nat.reduceLeDiff, Nat.reduceEqDiff, Bool.not_true, Bool.not_false, beq_self_eq_true, true_and, and_true, reduceIte, Bool.false_eq_true, convC_sl, convC_str, List.eraseIdx_cons_zero, List.eraseIdx_cons_succ, T3, T4, T5, T9, T30, cI in3, cok95, Try.results62, hw]
        | simp (disch := first | omega | (simp only [LN_]; omega)) only [wrap_id, getI, getU]
        | with_reducible first | refine andA (hb := ?_) | refine y_load (hK := ?_) | refine y_str ?_ ?_ | refine cD (cWord ?_)
        | with_reducible refine y_nil (hK := ?_)
        | (with_reducible refine nilTC_split (fun h => ?_) (fun h bn => ?_) <;> (try simp only [List.length_map] at h))
        | ((with_reducible first | refine grd_cases (fun h => ?_) (fun h => ?_) | refine condC_split (fun h => ?_) (fun h => ?_)) <;> (try simp only [h]) <;> (try simp only [NR_, Bool.not_true, Bool.not_false, Bool.not_eq_eq_eq_not, ne_eq] at h))
        | omega | (simp only [LN_]; omega) | (refine maxLen_ok ?_; (first | omega | (simp only [LN_]; omega))))
      all_goals first
        | exact ⟨k + 1, St_le_same (by repeat (first | exact trivial | refine ⟨le_rfl, ?_⟩ | refine ⟨le_any, ?_⟩ | refine ⟨le_ro, ?_⟩ | refine ⟨le_nil (by decide), ?_⟩ | refine ⟨le_wrap (by omega) (by omega) (by omega), ?_⟩ | refine ⟨le_int (by omega), ?_⟩ | refine ⟨le_eq (by simp), ?_⟩)) id, ⟨by omega, all_take hlt hall hw⟩, by omega⟩
        | trace_state
  · obtain rfl : k = bs.length := by omega
    rw [List.take_length] at hall
    rw [hall] at hK
    repeat' (first
      | with_reducible first | refine AW_seqA (AW_block ?_) | refine AW_block ?_ | refine cut_seqloop ?_ | refine cut_loop ?_ | refine AW_seqA (AW_seqA ?_) | refine AW_seq ?_ | refine AW_runReg ?_ | refine AW_runCond ?_ | refine AW_runExit ?_ | refine AW_runRet ?_ | refine AW_runSkip ?_ | refine AW_runLabel ?_
      | simp only [WL, intF, strF, WM, Int.reduceToNat, ne_eq, reduceCtorEq, not_false_eq_true, Nat.reduceAdd, Nat.reduceSub, Nat.reduceLT, Nat.reduceLeDiff, Nat.reduceEqDiff, Bool.not_true, Bool.not_false, beq_self_eq_true, true_and, and_true, reduceIte, Bool.false_eq_true, convC_sl, convC_str, List.eraseIdx_cons_zero, List.eraseIdx_cons_succ, T3, T4, T5, T9, T30, cI in3, cok95, Try.results62]
      | simp (disch := first | omega | (simp only [LN_]; omega)) only [wrap_id, getI]
      | with_reducible first | refine andA (hb := ?_) | refine y_load (hK := ?_) | refine y_str ?_ ?_ | refine cD (cWord ?_)
      | with_reducible refine y_nil (hK := ?_)
      | (with_reducible refine nilTC_split (fun h => ?_) (fun h bn => ?_) <;> (try simp only [List.length_map] at h))
      | ((with_reducible first | refine grd_cases (fun h => ?_) (fun h => ?_) | refine condC_split (fun h => ?_) (fun h => ?_)) <;> (try simp only [h]) <;> (try simp only [NR_, Bool.not_true, Bool.not_false, Bool.not_eq_eq_eq_not, ne_eq] at h))
      | omega | (simp only [LN_]; omega) | (refine maxLen_ok ?_; (first | omega | (simp only [LN_]; omega))))
    all_goals first
      | exact leafL sub_rfl (leT_eq rfl) hK
      | trace_state

-- marginaliaref1.Begins
set_option maxHeartbeats 8000000 in
theorem rBegins {s p : ByteArray} (hK : K (.ret (B (hasB s p))) σ) : ACallF κ Try.prog 63 [.raw (.string s), .raw (.string p)] σ K := by
  unfold hasB at hK
  refine ACallF.dropL (ACallF_intro Try.func63 rfl ?_)
  simp only [Try.ntmps63]
  repeat' (first
    | simp only [WL, intF, strF, WM, Int.reduceToNat, ne_eq, reduceCtorEq, not_false_eq_true, Nat.reduceAdd, Nat.reduceSub, Nat.reduceLT, Nat.reduceLeDiff, Nat.reduceEqDiff, Bool.not_true, Bool.not_false, beq_self_eq_true, true_and, and_true, reduceIte, Bool.false_eq_true, T3, T4, T9, Try.results63]
    | simp (disch := first | omega | (simp only [LN_]; omega)) only [wrap_id, getI]
    | with_reducible first | refine andA (hb := ?_)
    | with_reducible refine y_nil (hK := ?_)
    | (with_reducible refine nilTC_split (fun h => ?_) (fun h bn => ?_) <;> (try simp only [List.length_map] at h))
    | ((with_reducible first | refine grd_cases (fun h => ?_) (fun h => ?_) | refine condC_split (fun h => ?_) (fun h => ?_)) <;> (try simp only [h]) <;> (try simp only [NR_, Bool.not_true, Bool.not_false, Bool.not_eq_eq_eq_not, ne_eq] at h))
    | omega | (simp only [LN_]; omega))
  all_goals first
    | (rw [if_pos (by omega)] at hK; exact leafL sub_rfl (leT_eq rfl) hK)
    | (rw [if_neg (by omega)] at hK; exact leafL sub_rfl (leT_eq rfl) hK)
    | trace_state

set_option maxHeartbeats 8000000 in
theorem getB {s : ByteArray} {k : Nat} (h : k < s.size) : (((s.data.toList.getD k 0).toNat : Nat) : Int) = (bytesI s).getD k 0 := by
  have h2 : k < s.data.toList.length := by simpa using h
  rw [bytesI, List.getD_eq_getElem?_getD, List.getD_eq_getElem?_getD, List.getElem?_map, List.getElem?_eq_getElem h2]
  rfl

-- marginaliaref13.words
set_option maxHeartbeats 8000000 in
theorem rWords {s : ByteArray} (hs : s.size ≤ 1000000000) (hK : K (.ret (B (wordsB s))) σ) : ACallF κ Try.prog 64 [.raw (.string s)] σ K := by
  have hz := bytesI_len s
  have hbb := bytesI_byte s
  unfold wordsB at hK
  refine ACallF.dropL (ACallF_introA Try.func64 rfl ?_)
  simp only [Try.ntmps64]
  repeat' (first
    | with_reducible first | refine AW_seqA (AW_block ?_) | refine AW_block ?_ | refine cut_seqloop ?_ | refine cut_loop ?_ | refine AW_seqA (AW_seqA ?_) | refine AW_seq ?_ | refine AW_runReg ?_ | refine AW_runCond ?_ | refine AW_runExit ?_ | refine AW_runRet ?_ | refine AW_runSkip ?_ | refine AW_runLabel ?_
    | simp only [WL, intF, strF, WM, Int.reduceToNat, ne_eq, reduceCtorEq, not_false_eq_true, Nat.reduceAdd, Nat.reduceSub, Nat.reduceLT, Nat.reduceLeDiff, Nat.reduceEqDiff, Bool.not_true, Bool.not_false, beq_self_eq_true, true_and, and_true, reduceIte, Bool.false_eq_true, T3, T4, T5, T9, cI in3, cok16, Try.results64]
    | simp (disch := first | omega | (simp only [LN_]; omega)) only [wrap_id, getI]
    | with_reducible first | refine andA (hb := ?_) | refine cD (rWord ?_)
    | with_reducible refine y_nil (hK := ?_)
    | (with_reducible refine nilTC_split (fun h => ?_) (fun h bn => ?_) <;> (try simp only [List.length_map] at h))
    | ((with_reducible first | refine grd_cases (fun h => ?_) (fun h => ?_) | refine condC_split (fun h => ?_) (fun h => ?_)) <;> (try simp only [h]) <;> (try simp only [NR_, Bool.not_true, Bool.not_false, Bool.not_eq_eq_eq_not, ne_eq] at h))
    | omega | (simp only [LN_]; omega) | (refine maxLen_ok ?_; (first | omega | (simp only [LN_]; omega))))
  have hg : ∀ j, j < s.size → 0 ≤ (bytesI s).getD j 0 ∧ (bytesI s).getD j 0 ≤ 255 := fun j hj => by
    rw [← hz] at hj
    rw [List.getD_eq_getElem?_getD, List.getElem?_eq_getElem hj]
    exact hbb _ (List.getElem_mem hj)
  refine loopA (fun k : Nat => ⟨(.raw (.string s) :: .any :: .any :: I k :: .any :: .any :: .any :: .any :: .any :: .any :: .any :: .any :: .any :: .any :: .any :: .any :: .any :: .any :: []), σ, true, []⟩) (fun k => k ≤ s.size ∧ ((bytesI s).take k).all wordI = true) (fun k => s.size - k) 0 (St_le_same (by repeat (first | exact trivial | refine ⟨le_rfl, ?_⟩ | refine ⟨le_any, ?_⟩ | refine ⟨le_ro, ?_⟩ | refine ⟨le_nil (by decide), ?_⟩ | refine ⟨le_wrap (by omega) (by omega) (by omega), ?_⟩ | refine ⟨le_int (by omega), ?_⟩ | refine ⟨le_eq (by simp), ?_⟩)) id) ⟨Nat.zero_le _, rfl⟩ ?_
  rintro k ⟨hk, hall⟩
  rcases Nat.lt_or_ge k s.size with hlt | hge
  · have hgk := hg k hlt
    have hgb := getB hlt
    cases hw : wordI ((bytesI s).getD k 0)
    · rw [all_not (by rw [hz]; exact hlt) hw] at hK
      repeat' (first
        | with_reducible first | refine AW_seqA (AW_block ?_) | refine AW_block ?_ | refine cut_seqloop ?_ | refine cut_loop ?_ | refine AW_seqA (AW_seqA ?_) | refine AW_seq ?_ | refine AW_runReg ?_ | refine AW_runCond ?_ | refine AW_runExit ?_ | refine AW_runRet ?_ | refine AW_runSkip ?_ | refine AW_runLabel ?_
        | simp only [WL, intF, strF, WM, Int.reduceToNat, ne_eq, reduceCtorEq, not_false_eq_true, Nat.reduceAdd, Nat.reduceSub, Nat.reduceLT, Nat.reduceLeDiff, Nat.reduceEqDiff, Bool.not_true, Bool.not_false, beq_self_eq_true, true_and, and_true, reduceIte, Bool.false_eq_true, T3, T4, T5, T9, cI in3, cok16, Try.results64, hw, hgb, Int.toNat_natCast]
        | simp (disch := first | omega | (simp only [LN_]; omega)) only [wrap_id, getI]
        | with_reducible first | refine andA (hb := ?_) | refine cD (rWord ?_)
        | with_reducible refine y_nil (hK := ?_)
        | (with_reducible refine nilTC_split (fun h => ?_) (fun h bn => ?_) <;> (try simp only [List.length_map] at h))
        | ((with_reducible first | refine grd_cases (fun h => ?_) (fun h => ?_) | refine condC_split (fun h => ?_) (fun h => ?_)) <;> (try simp only [h]) <;> (try simp only [NR_, Bool.not_true, Bool.not_false, Bool.not_eq_eq_eq_not, ne_eq] at h))
        | omega | (simp only [LN_]; omega) | (refine maxLen_ok ?_; (first | omega | (simp only [LN_]; omega))))
      all_goals first
        | exact leafL sub_rfl (leT_eq rfl) hK
        | trace_state
    · skip
      repeat' (first
        | with_reducible first | refine AW_seqA (AW_block ?_) | refine AW_block ?_ | refine cut_seqloop ?_ | refine cut_loop ?_ | refine AW_seqA (AW_seqA ?_) | refine AW_seq ?_ | refine AW_runReg ?_ | refine AW_runCond ?_ | refine AW_runExit ?_ | refine AW_runRet ?_ | refine AW_runSkip ?_ | refine AW_runLabel ?_
        | simp only [WL, intF, strF, WM, Int.reduceToNat, ne_eq, reduceCtorEq, not_false_eq_true, Nat.reduceAdd, Nat.reduceSub, Nat.reduceLT, Nat.reduceLeDiff, Nat.reduceEqDiff, Bool.not_true, Bool.not_false, beq_self_eq_true, true_and, and_true, reduceIte, Bool.false_eq_true, T3, T4, T5, T9, cI in3, cok16, Try.results64, hw, hgb, Int.toNat_natCast]
        | simp (disch := first | omega | (simp only [LN_]; omega)) only [wrap_id, getI]
        | with_reducible first | refine andA (hb := ?_) | refine cD (rWord ?_)
        | with_reducible refine y_nil (hK := ?_)
        | (with_reducible refine nilTC_split (fun h => ?_) (fun h bn => ?_) <;> (try simp only [List.length_map] at h))
        | ((with_reducible first | refine grd_cases (fun h => ?_) (fun h => ?_) | refine condC_split (fun h => ?_) (fun h => ?_)) <;> (try simp only [h]) <;> (try simp only [NR_, Bool.not_true, Bool.not_false, Bool.not_eq_eq_eq_not, ne_eq] at h))
        | omega | (simp only [LN_]; omega) | (refine maxLen_ok ?_; (first | omega | (simp only [LN_]; omega))))
      all_goals first
        | exact ⟨k + 1, St_le_same (by repeat (first | exact trivial | refine ⟨le_rfl, ?_⟩ | refine ⟨le_any, ?_⟩ | refine ⟨le_ro, ?_⟩ | refine ⟨le_nil (by decide), ?_⟩ | refine ⟨le_wrap (by omega) (by omega) (by omega), ?_⟩ | refine ⟨le_int (by omega), ?_⟩ | refine ⟨le_eq (by simp), ?_⟩)) id, ⟨by omega, all_take (by rw [hz]; exact hlt) hall hw⟩, by omega⟩
        | trace_state
  · obtain rfl : k = s.size := by omega
    rw [← hz, List.take_length] at hall
    rw [hall] at hK
    repeat' (first
      | with_reducible first | refine AW_seqA (AW_block ?_) | refine AW_block ?_ | refine cut_seqloop ?_ | refine cut_loop ?_ | refine AW_seqA (AW_seqA ?_) | refine AW_seq ?_ | refine AW_runReg ?_ | refine AW_runCond ?_ | refine AW_runExit ?_ | refine AW_runRet ?_ | refine AW_runSkip ?_ | refine AW_runLabel ?_
      | simp only [WL, intF, strF, WM, Int.reduceToNat, ne_eq, reduceCtorEq, not_false_eq_true, Nat.reduceAdd, Nat.reduceSub, Nat.reduceLT, Nat.reduceLeDiff, Nat.reduceEqDiff, Bool.not_true, Bool.not_false, beq_self_eq_true, true_and, and_true, reduceIte, Bool.false_eq_true, T3, T4, T5, T9, cI in3, cok16, Try.results64]
      | simp (disch := first | omega | (simp only [LN_]; omega)) only [wrap_id, getI]
      | with_reducible first | refine andA (hb := ?_) | refine cD (rWord ?_)
      | with_reducible refine y_nil (hK := ?_)
      | (with_reducible refine nilTC_split (fun h => ?_) (fun h bn => ?_) <;> (try simp only [List.length_map] at h))
      | ((with_reducible first | refine grd_cases (fun h => ?_) (fun h => ?_) | refine condC_split (fun h => ?_) (fun h => ?_)) <;> (try simp only [h]) <;> (try simp only [NR_, Bool.not_true, Bool.not_false, Bool.not_eq_eq_eq_not, ne_eq] at h))
      | omega | (simp only [LN_]; omega) | (refine maxLen_ok ?_; (first | omega | (simp only [LN_]; omega))))
    all_goals first
      | exact leafL sub_rfl (leT_eq rfl) hK
      | trace_state
end Go.Proofs.Ytaeacialcbahnaa
/-
  Plain facts: texts' sizes, digits, directives of a version. No program in sight.
-/

namespace Go.Abs
set_option linter.unusedSimpArgs false
set_option linter.unusedVariables false
theorem txt_size {l : List Int} (h : ∀ c ∈ l, 0 ≤ c ∧ c < 128) : (textI l).size = l.length := by
  rw [textI, strOfNums_size, encL_ascii h]
theorem str_add {x y : ByteArray} {v : Option Value} (h : x.size + y.size ≤ 1000000000) : (if ((x.size + y.size : Nat) : Int) > IntKind.i64.max then none else v) = v := by
  rw [if_neg]
  have : IntKind.i64.max = 9223372036854775807 := by decide
  omega
theorem small_text {l : List Int} (h : ∀ c ∈ l, 0 ≤ c ∧ c < 128) : smallI (bytesI (textI l)) = some l := by
  rw [bytesI_text, encL_ascii h, smallI_ascii h]
def digs (n : Nat) : List Int := if n < 10 then [48 + (n : Int)] else digs (n / 10) ++ [48 + ((n % 10 : Nat) : Int)]
termination_by n
decreasing_by omega
theorem digs_in (n : Nat) : ∀ c ∈ digs n, 48 ≤ c ∧ c ≤ 57 := by
  induction n using Nat.strongRecOn with
  | _ n ih =>
    intro c hc
    rw [digs] at hc
    split at hc
    · simp at hc; omega
    · rw [List.mem_append] at hc
      rcases hc with hc | hc
      · exact ih (n / 10) (by omega) c hc
      · simp at hc; omega
theorem digs_pos (n : Nat) : 0 < (digs n).length := by
  rw [digs]; split <;> simp
theorem digs_len : ∀ (k n : Nat), n < 10 ^ (k + 1) → (digs n).length ≤ k + 1
  | 0, n, h => by rw [digs, if_pos (by simpa using h)]; simp
  | k + 1, n, h => by
    rw [digs]
    split
    · simp
    · have := digs_len k (n / 10) (by rw [Nat.pow_succ] at h; omega)
      simp; omega
theorem digs_ascii (n : Nat) : ∀ c ∈ digs n, 0 ≤ c ∧ c < 128 := fun c hc => by have := digs_in n c hc; omega
theorem cnt_all {p : Int → Bool} {a b : List Int} (h : ∀ c ∈ a, p c = true) : cnt p (a ++ b) = a.length + cnt p b := by
  induction a with
  | nil => simp
  | cons c r ih =>
    have h1 := h c (by simp)
    have h2 := ih (fun x hx => h x (by simp [hx]))
    unfold cnt at *
    rw [List.cons_append, List.takeWhile_cons, if_pos h1]
    simp only [List.length_cons]; omega
theorem cnt_head {p : Int → Bool} {c : Int} {r : List Int} (h : p c = false) : cnt p (c :: r) = 0 := by
  unfold cnt; rw [List.takeWhile_cons, if_neg (by rw [h]; decide)]; rfl
theorem cnt_head1 {p : Int → Bool} {c : Int} {r : List Int} (h : p c = false) : cnt p ([c] ++ r) = 0 := cnt_head h
theorem getD_pre {p r : List Int} {n : Nat} (h : n = p.length) : (p ++ r).getD n 0 = r.getD 0 0 := by
  subst h; rw [List.getD_eq_getElem?_getD, List.getElem?_append_right (Nat.le_refl _), Nat.sub_self, List.getD_eq_getElem?_getD]
theorem cnt_digs {n : Nat} {t : List Int} (h : cnt digitC t = 0) : cnt digitC (digs n ++ t) = (digs n).length := by
  rw [cnt_all (p := digitC) (fun c hc => decide_eq_true (digs_in n c hc)), h]; rfl
/-- A line of a version. -/
def verL (k a b : Nat) (t : List Int) : List Int := [37, 89, 65, 77, 76] ++ List.replicate k 32 ++ digs a ++ [46] ++ digs b ++ t
theorem verL_pre {k a b : Nat} {t : List Int} : verL k a b t = ([37, 89, 65, 77, 76] ++ List.replicate k 32) ++ (digs a ++ ([46] ++ (digs b ++ t))) := by
  simp [verL]
theorem drop_pre {p r : List Int} {n : Nat} (h : n = p.length) : (p ++ r).drop n = r := by subst h; simp
theorem take_drop_pre {p q r : List Int} {n m : Nat} (h : n = p.length) (h2 : m = p.length + q.length) : ((p ++ (q ++ r)).take m).drop n = q := by
  subst h; subst h2
  rw [← List.append_assoc, ← List.length_append, List.take_left', List.drop_left' rfl]
  rfl
theorem digs_blank {n : Nat} {t : List Int} : cnt blankI (digs n ++ t) = 0 := by
  cases h : digs n with
  | nil => have := digs_pos n; rw [h] at this; simp at this
  | cons c r =>
    have := digs_in n c (by rw [h]; simp)
    rw [List.cons_append, cnt_head]
    unfold blankI; exact decide_eq_false (by omega)
theorem verL_dirN {k a b : Nat} {t : List Int} (hk : 0 < k) : dirN (verL k a b t) = 5 := by
  unfold dirN
  obtain ⟨m, rfl⟩ : ∃ m, k = m + 1 := ⟨k - 1, by omega⟩
  have : (verL (m + 1) a b t).drop 1 = [89, 65, 77, 76] ++ (32 :: (List.replicate m 32 ++ (digs a ++ ([46] ++ (digs b ++ t))))) := by
    simp [verL, List.replicate_succ]
  rw [this, cnt_all (by decide), cnt_head (by decide)]; rfl
theorem verL_dirM {k a b : Nat} {t : List Int} (hk : 0 < k) : dirM (verL k a b t) = k := by
  unfold dirM
  rw [verL_dirN hk]
  have : (verL k a b t).drop 5 = List.replicate k 32 ++ (digs a ++ ([46] ++ (digs b ++ t))) := by
    simp [verL]
  rw [this, cnt_all (fun c hc => by rw [List.mem_replicate] at hc; rw [hc.2]; decide), digs_blank]; simp
theorem verL_dirT {k a b : Nat} {t : List Int} (hk : 0 < k) : dirT (verL k a b t) = litY := by
  unfold dirT
  rw [verL_dirN hk]
  have : ((verL k a b t).take 5).drop 1 = [89, 65, 77, 76] := by simp [verL]
  rw [this]; decide +kernel
theorem verL_vers {k a b : Nat} {t : List Int} (ht : cnt digitC t = 0) : versP (verL k a b t) (5 + k) = (textI (digs a), textI (digs b), tailI t) := by
  have ep : ([37, 89, 65, 77, 76] ++ List.replicate k 32 : List Int).length = 5 + k := by simp; omega
  have e1 : (verL k a b t).drop (5 + k) = digs a ++ ([46] ++ (digs b ++ t)) := by rw [verL_pre, drop_pre ep.symm]
  have c1 : cnt digitC ((verL k a b t).drop (5 + k)) = (digs a).length := by rw [e1, cnt_digs (cnt_head1 (p := digitC) (by decide))]
  have h46 : atI (verL k a b t) (5 + k + (digs a).length) 46 = true := by
    refine decide_eq_true ⟨?_, ?_⟩
    · rw [verL_pre]; simp; omega
    · rw [verL_pre, ← List.append_assoc, getD_pre (by rw [List.length_append, ep])]
      rfl
  have e2 : (verL k a b t).drop (5 + k + (digs a).length + 1) = digs b ++ t := by
    have : verL k a b t = (([37, 89, 65, 77, 76] ++ List.replicate k 32) ++ digs a ++ [46]) ++ (digs b ++ t) := by simp [verL]
    rw [this, drop_pre (by simp; omega)]
  have c2 : cnt digitC ((verL k a b t).drop (5 + k + (digs a).length + 1)) = (digs b).length := by rw [e2, cnt_digs ht]
  have e3 : (verL k a b t).drop (5 + k + (digs a).length + 1 + (digs b).length) = t := by
    have : verL k a b t = (([37, 89, 65, 77, 76] ++ List.replicate k 32) ++ digs a ++ [46] ++ digs b) ++ t := by simp [verL]
    rw [this, drop_pre (by simp; omega)]
  have hb := digs_pos b
  have ha := digs_pos a
  rw [versP_yes (by rw [c1, h46]; exact fun h => h.elim (fun h => by omega) (fun h => by cases h)), c1, c2, e3]
  have t1 : ((verL k a b t).take (5 + k + (digs a).length)).drop (5 + k) = digs a := by
    rw [verL_pre, take_drop_pre ep.symm (by rw [ep])]
  have t2 : ((verL k a b t).take (5 + k + (digs a).length + 1 + (digs b).length)).drop (5 + k + (digs a).length + 1) = digs b := by
    have : verL k a b t = (([37, 89, 65, 77, 76] ++ List.replicate k 32) ++ digs a ++ [46]) ++ (digs b ++ t) := by simp [verL]
    rw [this, take_drop_pre (by simp; omega) (by simp; omega)]
  rw [t1, t2]
  simp [hb]
theorem verL_at {k a b : Nat} {t : List Int} : atI (verL k a b t) 0 37 = true := decide_eq_true ⟨by simp [verL], by simp [verL]⟩
theorem verL_dir {k a b : Nat} {t : List Int} (hk : 0 < k) (ht : cnt digitC t = 0) : dirI (verL k a b t) = if tailI t = true then (litY, textI (digs a), textI (digs b), true) else noneD := by
  unfold dirI
  rw [if_neg (by rw [verL_at]; decide), verL_dirT hk, if_pos rfl, verL_dirN hk, verL_dirM hk, verL_vers ht]
  simp only [hk, and_true]
/-- Without blanks the name is another. -/
theorem verL_name {a b : Nat} {t : List Int} (ht : ∀ c ∈ t, 0 ≤ c ∧ c < 128) : ¬ (dirT (verL 0 a b t)).toList = litY.toList ∧ ¬ (dirT (verL 0 a b t)).toList = litT.toList := by
  have h5 : 6 ≤ dirN (verL 0 a b t) := by
    unfold dirN
    have : (verL 0 a b t).drop 1 = ([89, 65, 77, 76] ++ digs a) ++ ([46] ++ (digs b ++ t)) := by simp [verL]
    have hd := digs_pos a
    rw [this, cnt_all (fun c hc => by
      rw [List.mem_append] at hc
      rcases hc with hc | hc
      · revert hc; revert c; decide
      · have := digs_in a c hc
        unfold nameI
        simp only [Bool.and_eq_true, Bool.not_eq_true', beq_eq_false_iff_ne, printI, blankI, flowI, decide_eq_true_eq, decide_eq_false_iff_not]
        omega)]
    simp; omega
  have hl : dirN (verL 0 a b t) ≤ (verL 0 a b t).length := dirN_le (by simp [verL])
  have hasc : ∀ c ∈ verL 0 a b t, 0 ≤ c ∧ c < 128 := by
    intro c hc
    simp only [verL, List.replicate_zero, List.append_nil, List.mem_append] at hc
    rcases hc with (((hc | hc) | hc) | hc) | hc
    · revert hc; revert c; decide
    · exact digs_ascii a c hc
    · simp at hc; omega
    · exact digs_ascii b c hc
    · exact ht c hc
  have hs : (dirT (verL 0 a b t)).size = dirN (verL 0 a b t) - 1 := by
    unfold dirT
    rw [txt_size (fun c hc => hasc c (List.mem_of_mem_take (List.mem_of_mem_drop hc)))]
    simp; omega
  constructor
  · intro h
    have := congrArg List.length h
    rw [ByteArray.toList_eq, ByteArray.toList_eq] at this
    simp only [Array.length_toList] at this
    have h3 : (dirT (verL 0 a b t)).size = 4 := this
    omega
  · intro h
    have := congrArg List.length h
    rw [ByteArray.toList_eq, ByteArray.toList_eq] at this
    simp only [Array.length_toList] at this
    have h3 : (dirT (verL 0 a b t)).size = 3 := this
    omega
theorem verL_dir0 {a b : Nat} {t : List Int} (ht : ∀ c ∈ t, 0 ≤ c ∧ c < 128) : (dirI (verL 0 a b t)).2.1 = ByteArray.empty ∧ (dirI (verL 0 a b t)).2.2.1 = ByteArray.empty ∧ ¬ (dirI (verL 0 a b t)).1.toList = litY.toList := by
  obtain ⟨h1, h2⟩ := verL_name (a := a) (b := b) ht
  unfold dirI
  rw [if_neg (by rw [verL_at]; decide), if_neg h1, if_neg h2]
  split
  · exact ⟨rfl, rfl, h1⟩
  · exact ⟨rfl, rfl, by decide +kernel⟩
end Go.Abs
