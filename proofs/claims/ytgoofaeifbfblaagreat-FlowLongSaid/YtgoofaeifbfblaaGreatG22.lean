/-
  Texts Ix, one behind the other.
-/
import Derived.Test.YtgoofaeifbfblaaGreatG21
set_option linter.unusedVariables false
set_option linter.unusedSimpArgs false
/-
  Walks: chapter 13's law FlowLong.
-/


namespace Go.Proofs.YtgoofaeifbfblaaGreat
open Go.Abs
set_option linter.unusedVariables false
set_option linter.unusedSimpArgs false
variable {κ : Ctx} {σ : List Res} {K : Ret → List Res → Prop} {o o' : Option (Option (Nat × Nat))}
set_option maxHeartbeats 8000000 in
set_option maxRecDepth 4000 in
theorem lg_a : ({ data := #[120] } : ByteArray) = textI [120] := by decide +kernel
set_option maxHeartbeats 8000000 in
set_option maxRecDepth 4000 in
theorem lg_b : ({ data := #[123] } : ByteArray) = textI [123] := by decide +kernel
set_option maxHeartbeats 8000000 in
set_option maxRecDepth 4000 in
theorem lg_c : ({ data := #[58, 32, 98, 93] } : ByteArray) = textI [58, 32, 98, 93] := by decide +kernel
set_option maxHeartbeats 8000000 in
set_option maxRecDepth 4000 in
theorem lg_d : ({ data := #[58, 32, 98, 125] } : ByteArray) = textI [58, 32, 98, 125] := by decide +kernel
set_option maxHeartbeats 8000000 in
set_option maxRecDepth 4000 in
theorem lg_e : ({ data := #[58, 32, 98] } : ByteArray) = textI [58, 32, 98] := by decide +kernel
set_option maxHeartbeats 8000000 in
set_option maxRecDepth 4000 in
theorem xs_step (i : Nat) : xs (i + 1) = xs i ++ [120] := List.replicate_succ'
set_option maxHeartbeats 8000000 in
set_option maxRecDepth 4000 in
theorem xs_chars (i : Nat) : ∀ c ∈ xs i, 32 ≤ c ∧ c ≤ 126 := fun c hc => by rw [(List.mem_replicate.1 hc).2]; decide
set_option maxHeartbeats 8000000 in
set_option maxRecDepth 4000 in
theorem law_FlowLong (κ : Ctx) (n : Int) (hn : IntKind.i64.min ≤ n ∧ n ≤ IntKind.i64.max) : ACallF κ Tryz.prog 10 [I n] [] (fun r _ => r = .ret (B true)) := by
  have hmin : IntKind.i64.min = -9223372036854775808 := by decide
  have hmax : IntKind.i64.max = 9223372036854775807 := by decide
  rw [hmin, hmax] at hn
  by_cases hr : 1 ≤ n ∧ n ≤ 1100
  · obtain ⟨n, rfl⟩ : ∃ k : Nat, n = k := ⟨n.toNat, by omega⟩
    obtain ⟨r1, r2⟩ := hr
    refine ACallF.dropL (ACallF_introA Tryz.func10 rfl ?_)
    simp only [Tryz.ntmps10]
    repeat' (first | (with_reducible first | refine AW_seqA (AW_block ?_) | refine AW_block ?_ | refine cut_seqloop ?_ | refine cut_loop ?_ | refine AW_seqA (AW_seqA ?_) | refine AW_seq ?_ | refine AW_runReg ?_ | refine AW_runCond ?_ | refine AW_runExit ?_ | refine AW_runRet ?_ | refine AW_runSkip ?_ | refine AW_runLabel ?_) | simp only [WL, intF, strF, WM, Int.reduceToNat, reduceCtorEq, WLb, Nat.reduceAdd, Nat.reduceSub, Nat.reduceLT, Nat.reduceLeDiff, Nat.reduceEqDiff, reduceIte, T3, T4, T9, T22, T25, T27, T28, T39, T41, T52, T59, cok12, cok14, cok15, cok17, cok19, cok20, Tryz.results10, lf_e] | simp (disch := first | omega | (simp only [LN_]; omega)) only [wrap_id, getI] | (with_reducible first | refine andA (hb := ?_) | refine cD (lAlive ?_) | refine cD (lAlive ?_) | refine cD (lNum ?_) | refine cD (lLines ?_ ?_)) | with_reducible refine y_nil (hK := ?_) | (with_reducible refine nilTC_split (fun h => ?_) (fun h bn => ?_) <;> (try simp only [List.length_map] at h)) | ((with_reducible first | refine grd_cases (fun h => ?_) (fun h => ?_) | refine condC_split (fun h => ?_) (fun h => ?_)) <;> (try simp only [h]) <;> (try simp only [NR_, NRb] at h)) | omega | (simp only [LN_]; omega))
    refine loopA (fun i : Nat => ⟨(I n :: .any :: .any :: B true :: .raw (.string (textI (xs i))) :: I i :: .any :: .any :: .any :: .any :: .any :: .any :: .any :: .any :: .any :: .any :: .any :: .any :: .any :: .any :: .any :: .any :: .any :: .any :: .any :: .any :: .any :: .any :: .any :: .any :: .any :: .any :: .any :: .any :: .any :: .any :: .any :: .any :: .any :: .any :: .any :: .any :: .any :: .any :: .any :: .any :: .any :: .any :: .any :: .any :: .any :: .any :: .any :: .any :: .any :: .any :: .any :: .any :: .any :: .any :: .any :: .any :: .any :: .any :: .any :: .any :: .any :: .any :: .any :: .any :: .any :: .any :: .any :: .any :: .any :: .any :: .any :: .any :: .any :: .any :: .any :: .any :: .any :: .any :: .any :: .any :: .any :: .any :: .any :: .any :: .any :: .any :: .any :: .any :: .any :: .any :: .any :: .any :: .any :: .any :: .any :: .any :: .any :: .any :: .any :: .any :: .any :: .any :: .any :: []), [], true, []⟩) (fun i => i ≤ n) (fun i => n - i) 0 (St_le_same (by repeat (first | exact trivial | refine ⟨le_rfl, ?_⟩ | refine ⟨le_any, ?_⟩ | refine ⟨le_ro, ?_⟩ | refine ⟨le_nil (by decide), ?_⟩ | refine ⟨le_wrap (by omega) (by omega) (by omega), ?_⟩ | refine ⟨le_int (by omega), ?_⟩ | refine ⟨le_eq (by simp), ?_⟩)) id) (Nat.zero_le _) ?_
    intro i hi
    have hx := asc_of (xs_chars i) (by simp; omega)
    have hxs := asc_size hx
    have hxl : (xs i).length = i := List.length_replicate
    have z1 : (textI [120]).size = 1 := by decide
    have z2 : (textI [91]).size = 1 := by decide
    have z3 : (textI [123]).size = 1 := by decide
    have z4 : (textI [58, 32, 98, 93]).size = 4 := by decide
    have z5 : (textI [58, 32, 98, 125]).size = 4 := by decide
    have z6 : (textI [58, 32, 98]).size = 3 := by decide
    rcases Nat.lt_or_ge i n with hin | hin
    · have e1 := xs_step i
      generalize xs i = S at *
      repeat' (first | (with_reducible first | refine AW_seqA (AW_block ?_) | refine AW_block ?_ | refine cut_seqloop ?_ | refine cut_loop ?_ | refine AW_seqA (AW_seqA ?_) | refine AW_seq ?_ | refine AW_runReg ?_ | refine AW_runCond ?_ | refine AW_runExit ?_ | refine AW_runRet ?_ | refine AW_runSkip ?_ | refine AW_runLabel ?_) | simp only [WL, intF, strF, WM, Int.reduceToNat, reduceCtorEq, WLb, Nat.reduceAdd, Nat.reduceSub, Nat.reduceLT, Nat.reduceLeDiff, Nat.reduceEqDiff, reduceIte, T3, T4, T9, T22, T25, T27, T28, T39, T41, T52, T59, cok12, cok14, cok15, cok17, cok19, cok20, Tryz.results10, lg_a, textI_app] | simp (disch := first | omega | (simp only [LN_]; omega)) only [wrap_id, getI, str_add3] | (with_reducible first | refine andA (hb := ?_) | refine cD (lAlive ?_) | refine cD (lNum ?_) | refine cD (lLines ?_ ?_)) | with_reducible refine y_nil (hK := ?_) | (with_reducible refine nilTC_split (fun h => ?_) (fun h bn => ?_) <;> (try simp only [List.length_map] at h)) | ((with_reducible first | refine grd_cases (fun h => ?_) (fun h => ?_) | refine condC_split (fun h => ?_) (fun h => ?_)) <;> (try simp only [h]) <;> (try simp only [NR_, NRb] at h)) | omega | (simp only [LN_]; omega))
      exact ⟨i + 1, St_le_same (by simp only [e1]; repeat (first | exact trivial | refine ⟨le_rfl, ?_⟩ | refine ⟨le_any, ?_⟩ | refine ⟨le_ro, ?_⟩ | refine ⟨le_nil (by decide), ?_⟩ | refine ⟨le_wrap (by omega) (by omega) (by omega), ?_⟩ | refine ⟨le_int (by omega), ?_⟩ | refine ⟨le_eq (by simp), ?_⟩)) id, hin, by omega⟩
    · obtain rfl : i = n := by omega
      have ch1 : ∀ c ∈ 91 :: (xs i ++ [58, 32, 98, 93]), 32 ≤ c ∧ c ≤ 126 := fun c hc => by
        rcases List.mem_cons.1 hc with h | h
        · omega
        · rcases List.mem_append.1 h with h | h
          · exact xs_chars i c h
          · simp at h; omega
      have ch2 : ∀ c ∈ 123 :: (xs i ++ [58, 32, 98, 125]), 32 ≤ c ∧ c ≤ 126 := fun c hc => by
        rcases List.mem_cons.1 hc with h | h
        · omega
        · rcases List.mem_append.1 h with h | h
          · exact xs_chars i c h
          · simp at h; omega
      have ch3 : ∀ c ∈ xs i ++ [58, 32, 98], 32 ≤ c ∧ c ≤ 126 := fun c hc => by
        rcases List.mem_append.1 hc with h | h
        · exact xs_chars i c h
        · simp at h; omega
      have A1 := asc_of ch1 (by simp; omega)
      have A2 := asc_of ch2 (by simp; omega)
      have A3 := asc_of ch3 (by simp; omega)
      have B1 : Asc (bytesI (textI (91 :: (xs i ++ [58, 32, 98, 93])))) := by rw [asc_text A1]; exact A1
      have B2 : Asc (bytesI (textI (123 :: (xs i ++ [58, 32, 98, 125])))) := by rw [asc_text A2]; exact A2
      have B3 : Asc (bytesI (textI (xs i ++ [58, 32, 98]))) := by rw [asc_text A3]; exact A3
      have z7 : (textI (91 :: xs i)).size = i + 1 := by
        rw [asc_size (asc_of (l := 91 :: xs i) (fun c hc => ch1 c (List.cons_subset_cons _ (List.subset_append_left _ _) hc)) (by simp; omega)), List.length_cons, hxl]
      have z8 : (textI (123 :: xs i)).size = i + 1 := by
        rw [asc_size (asc_of (l := 123 :: xs i) (fun c hc => ch2 c (List.cons_subset_cons _ (List.subset_append_left _ _) hc)) (by simp; omega)), List.length_cons, hxl]
      have L1 : (readR (bytesI (textI (91 :: (xs i ++ [58, 32, 98, 93]))))).1 = oneL (longT 91 93 i) := by
        rw [asc_text A1]
        exact one_lines ch1 (by simp) (show ¬ (91 : Int) = 32 by decide)
      have L2 : (readR (bytesI (textI (123 :: (xs i ++ [58, 32, 98, 125]))))).1 = oneL (longT 123 125 i) := by
        rw [asc_text A2]
        exact one_lines ch2 (by simp) (show ¬ (123 : Int) = 32 by decide)
      have L3 : (readR (bytesI (textI (xs i ++ [58, 32, 98])))).1 = oneL (keyT i) := by
        rw [asc_text A3]
        refine one_lines ch3 (by simp) ?_
        obtain ⟨j, rfl⟩ : ∃ j, i = j + 1 := ⟨i - 1, by omega⟩
        rw [xs, List.replicate_succ]
        show ¬ (120 : Int) = 32
        decide
      have S1 := one_small (T := longT 91 93 i) (by simp; omega)
      have S2 := one_small (T := longT 123 125 i) (by simp; omega)
      have S3 := one_small (T := keyT i) (by simp; omega)
      obtain ⟨w1, w2⟩ := long_seq (n := i) (by omega)
      obtain ⟨ev2, e2, w3⟩ := long_map (n := i) (by omega)
      have w4 := long_key (n := i) (by omega)
      have hg2 := (nodeF_good S2 200 0 (0, 0) ev2 e2 true ⟨Int.le_refl _, by simp, Int.le_refl _, by decide⟩ w3).2.2.2
      generalize longT 91 93 i = La at *
      generalize longT 123 125 i = Lb at *
      generalize keyT i = Lc at *
      generalize xs i = S at *
      rcases Nat.lt_or_ge 1024 i with hg | hg
      · have w1 := w2 hg
        rw [if_neg (by omega)] at w4
        have hx : decide ((i : Int) > 1024) = true := decide_eq_true (by omega)
        repeat' (first | (with_reducible first | refine AW_seqA (AW_block ?_) | refine AW_block ?_ | refine cut_seqloop ?_ | refine cut_loop ?_ | refine AW_seqA (AW_seqA ?_) | refine AW_seq ?_ | refine AW_runReg ?_ | refine AW_runCond ?_ | refine AW_runExit ?_ | refine AW_runRet ?_ | refine AW_runSkip ?_ | refine AW_runLabel ?_) | simp only [WL, intF, strF, WM, Int.reduceToNat, reduceCtorEq, WLb, Nat.reduceAdd, Nat.reduceSub, Nat.reduceLT, Nat.reduceLeDiff, Nat.reduceEqDiff, reduceIte, T3, T4, T9, T22, T25, T27, T28, T39, T41, T52, T59, cok12, cok14, cok15, cok17, cok19, cok20, Tryz.results10, textI_app, lf_c, lg_b, lg_c, lg_d, lg_e, L1, L2, L3, w4, keyA_none, hx] | simp (disch := first | omega | (simp only [LN_]; omega)) only [wrap_id, getI, str_add3] | (with_reducible first | refine andA (hb := ?_) | refine cD (lLines B1 ?_) | refine cD (lLines B2 ?_) | refine cD (lLines B3 ?_) | refine cD (jNew (ls := oneL La) (by simp) (by simp) (fun br1 => ?_)) | refine cD (jNew (ls := oneL Lb) (by simp) (by simp) (fun br2 => ?_)) | refine cD (jNew (ls := oneL Lc) (by simp) (by simp) (fun br3 => ?_)) | refine cD (jNodeR (ls := oneL La) S1 (by omega) ⟨by decide, by decide⟩ (by decide) (fun bj hc => ?_) (fun ev e t hw bj x' y' τ' hJ' => ?_) (fun e hw bj x' y' op' l' τ' hJ' => ?_)) | refine cD (jNodeRow (ls := oneL Lb) S2 (by omega) ⟨by decide, by decide⟩ (by decide) w3 ⟨by decide, by simp, by decide⟩ hg2 (fun rb rc cs ρ hrc hsub => ?_)) | refine cD (jKey (ls := oneL Lc) S3 (by decide) ?_) | refine cD (lNum ?_) | refine cD (lAlive ?_) | refine cD (lNum ?_) | refine cD (lLines ?_ ?_)) | with_reducible refine y_nil (hK := ?_) | (with_reducible refine nilTC_split (fun h => ?_) (fun h bn => ?_) <;> (try simp only [List.length_map] at h)) | ((with_reducible first | refine grd_cases (fun h => ?_) (fun h => ?_) | refine condC_split (fun h => ?_) (fun h => ?_)) <;> (try simp only [h]) <;> (try simp only [NR_, NRb] at h)) | omega | (simp only [LN_]; omega))
        all_goals first
          | (exfalso; simp at hc; done)
          | (exfalso; rw [w1] at hw; cases hw; done)
          | (rw [w1] at hw; cases hw; first | exact leafL sub_rfl (leT_eq rfl) rfl | (exfalso; omega))
          | trace_state
      · obtain ⟨ev, e, w1, hev⟩ := w1 hg
        rw [if_pos hg] at w4
        have h0 : 0 < ev.length := by omega
        have hx : decide ((i : Int) > 1024) = false := decide_eq_false (by omega)
        repeat' (first | (with_reducible first | refine AW_seqA (AW_block ?_) | refine AW_block ?_ | refine cut_seqloop ?_ | refine cut_loop ?_ | refine AW_seqA (AW_seqA ?_) | refine AW_seq ?_ | refine AW_runReg ?_ | refine AW_runCond ?_ | refine AW_runExit ?_ | refine AW_runRet ?_ | refine AW_runSkip ?_ | refine AW_runLabel ?_) | simp only [WL, intF, strF, WM, Int.reduceToNat, reduceCtorEq, WLb, Nat.reduceAdd, Nat.reduceSub, Nat.reduceLT, Nat.reduceLeDiff, Nat.reduceEqDiff, reduceIte, T3, T4, T9, T22, T25, T27, T28, T39, T41, T52, T59, cok12, cok14, cok15, cok17, cok19, cok20, Tryz.results10, textI_app, lf_c, lg_b, lg_c, lg_d, lg_e, L1, L2, L3, w4, keyA_some, hev, hx] | simp (disch := first | omega | (simp only [LN_]; omega)) only [wrap_id, getI, str_add3] | (with_reducible first | refine andA (hb := ?_) | refine cD (lLines B1 ?_) | refine cD (lLines B2 ?_) | refine cD (lLines B3 ?_) | refine cD (jNew (ls := oneL La) (by simp) (by simp) (fun br1 => ?_)) | refine cD (jNew (ls := oneL Lb) (by simp) (by simp) (fun br2 => ?_)) | refine cD (jNew (ls := oneL Lc) (by simp) (by simp) (fun br3 => ?_)) | refine cD (jNodeRow (ls := oneL La) S1 (by omega) ⟨by decide, by decide⟩ (by decide) w1 ⟨by decide, by simp, by decide⟩ h0 (fun rb1 rc1 cs1 ρ1 hrc1 hsub1 => ?_)) | refine cD (jNodeRow (ls := oneL Lb) S2 (by omega) ⟨by decide, by decide⟩ (by decide) w3 ⟨by decide, by simp, by decide⟩ hg2 (fun rb rc cs ρ hrc hsub => ?_)) | refine cD (jKey (ls := oneL Lc) S3 (by decide) ?_) | refine cD (lNum ?_) | refine cD (lAlive ?_) | refine cD (lNum ?_) | refine cD (lLines ?_ ?_)) | with_reducible refine y_nil (hK := ?_) | (with_reducible refine nilTC_split (fun h => ?_) (fun h bn => ?_) <;> (try simp only [List.length_map] at h)) | ((with_reducible first | refine grd_cases (fun h => ?_) (fun h => ?_) | refine condC_split (fun h => ?_) (fun h => ?_)) <;> (try simp only [h]) <;> (try simp only [NR_, NRb] at h)) | omega | (simp only [LN_]; omega))
        all_goals first
          | exact leafL sub_rfl (leT_eq rfl) rfl
          | exact leafL sub_rfl (leT_eq (congrArg B (beq_iff_eq.2 (by omega)))) rfl
          | (exfalso; omega)
          | trace_state
  · skip
    refine ACallF.dropL (ACallF_intro Tryz.func10 rfl ?_)
    simp only [Tryz.ntmps10]
    repeat' (first | simp only [WL, intF, strF, WM, Int.reduceToNat, reduceCtorEq, WLb, Nat.reduceAdd, Nat.reduceSub, Nat.reduceLT, Nat.reduceLeDiff, Nat.reduceEqDiff, reduceIte, T3, T4, T9, T22, T25, T27, T28, T39, T41, T52, T59, cok12, cok14, cok15, cok17, cok19, cok20, Tryz.results10] | simp (disch := first | omega | (simp only [LN_]; omega)) only [wrap_id, getI] | (with_reducible first | refine andA (hb := ?_) | refine cD (lAlive ?_) | refine cD (lAlive ?_) | refine cD (lNum ?_) | refine cD (lLines ?_ ?_)) | with_reducible refine y_nil (hK := ?_) | (with_reducible refine nilTC_split (fun h => ?_) (fun h bn => ?_) <;> (try simp only [List.length_map] at h)) | ((with_reducible first | refine grd_cases (fun h => ?_) (fun h => ?_) | refine condC_split (fun h => ?_) (fun h => ?_)) <;> (try simp only [h]) <;> (try simp only [NR_, NRb] at h)) | omega | (simp only [LN_]; omega))
    all_goals first
      | exact leafL sub_rfl (leT_eq rfl) rfl
      | (exfalso; omega)
      | trace_state
end Go.Proofs.YtgoofaeifbfblaaGreat
