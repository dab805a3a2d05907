/-
  The law BlockDetects.
-/
import Derived.Test.YtaeacialcbahnaaBo
import Derived.Test.YtaeacialcbahnaaSz
namespace Go.Proofs.Ytaeacialcbahnaa
open Go.Abs
set_option linter.unusedVariables false
set_option linter.unusedSimpArgs false
-- hb: 8000000
-- rd: 20000
variable {κ : Ctx} {σ : List Res} {K : Ret → List Res → Prop} {o o' : Option (Option (Nat × Nat))}

set_option maxHeartbeats 8000000 in
set_option maxRecDepth 20000 in
theorem lit_a : ({ data := #[10, 97, 10] } : ByteArray) = textI [10, 97, 10] := by decide +kernel
set_option maxHeartbeats 8000000 in
set_option maxRecDepth 20000 in
theorem lit_b : ({ data := #[10, 97, 10, 98, 10] } : ByteArray) = textI [10, 97, 10, 98, 10] := by decide +kernel
set_option maxHeartbeats 8000000 in
set_option maxRecDepth 20000 in
theorem lit_c : ({ data := #[10, 97, 32, 98, 10] } : ByteArray) = textI [10, 97, 32, 98, 10] := by decide +kernel
set_option maxHeartbeats 8000000 in
set_option maxRecDepth 20000 in
theorem lit_0 : ({ data := #[] } : ByteArray) = textI [] := by decide +kernel
set_option maxHeartbeats 8000000 in
set_option maxRecDepth 20000 in
theorem lit_1 : ({ data := #[32] } : ByteArray) = textI [32] := by decide +kernel
set_option maxHeartbeats 8000000 in
set_option maxRecDepth 20000 in
theorem lit_2 : ({ data := #[98, 10] } : ByteArray) = textI [98, 10] := by decide +kernel
set_option maxHeartbeats 8000000 in
set_option maxRecDepth 20000 in
theorem text_size {l : List Int} (h : ∀ c ∈ l, 0 ≤ c ∧ c < 128) : (textI l).size = l.length := by
  rw [textI, strOfNums_size, encL_ascii h]
set_option maxHeartbeats 8000000 in
set_option maxRecDepth 20000 in
theorem str_add_if {x y : ByteArray} {v : Option Value} (h : x.size + y.size ≤ 1000000000) : (if ((x.size + y.size : Nat) : Int) > IntKind.i64.max then none else v) = v := by
  rw [if_neg]
  have : IntKind.i64.max = 9223372036854775807 := by decide
  omega

abbrev DLA (h a b : Int) : AV := .sl 2 none [.agg [I h, nilS], .agg [I a, .sl 1 none [I 97]], .agg [I b, .sl 1 none [I 98]]]
set_option maxHeartbeats 8000000 in
set_option maxRecDepth 20000 in
theorem DLA_le {h a b : Int} : leS (DLA h a b) (SL none (detL h a b)) := leS_sl ⟨⟨leS_le le_rfl, leS_le (le_nilro (by decide)), trivial⟩, leSL_rfl, leSL_rfl, trivial⟩

-- marginalialaw10.BlockDetects
set_option maxHeartbeats 8000000 in
set_option maxRecDepth 20000 in
theorem law_BlockDetects (κ : Ctx) (n : Int) (hn : IntKind.i64.min ≤ n ∧ n ≤ IntKind.i64.max) (a : Int) (ha : IntKind.i64.min ≤ a ∧ a ≤ IntKind.i64.max) (hd : Int) (hh : IntKind.i64.min ≤ hd ∧ hd ≤ IntKind.i64.max) (b : Int) (hb : IntKind.i64.min ≤ b ∧ b ≤ IntKind.i64.max) (f : Bool) (hf : True) : ACallF κ Try.prog 11 [I n, I a, I hd, I b, B f] [] (fun r _ => r = .ret (B true)) := by
  clear hn ha hh hb hf
  refine ACallF.dropL (ACallF_introA Try.func11 rfl ?_)
  simp only [Try.ntmps11]
  repeat' (first
    | with_reducible first | refine AW_seqA (AW_block ?_) | refine AW_block ?_ | refine cut_seqloop ?_ | refine cut_loop ?_ | refine AW_seqA (AW_seqA ?_) | refine AW_seq ?_ | refine AW_runReg ?_ | refine AW_runCond ?_ | refine AW_runExit ?_ | refine AW_runRet ?_ | refine AW_runSkip ?_ | refine AW_runLabel ?_
    | simp only [WL, intF, strF, WM, Int.reduceToNat, ne_eq, reduceCtorEq, not_false_eq_true, Nat.reduceAdd, Nat.reduceSub, Nat.reduceLT, Nat.reduceLeDiff, Nat.reduceEqDiff, Bool.not_true, Bool.not_false, beq_self_eq_true, true_and, and_true, reduceIte, Bool.false_eq_true, T3, T4, T9, T24, T50, T59, T64, T71, cok30, cok32, cok34, Try.results11]
    | simp (disch := first | omega | (simp only [LN_]; omega)) only [wrap_id, getI]
    | with_reducible first | refine andA (hb := ?_) | refine y_bs0 ?_ | refine y_bs (hK := ?_) | refine y_build (hK := ?_) | refine cD (alive10 ?_) | refine cD (bRead ?_ ?_ ?_) | refine cD (num10 ?_)
    | with_reducible refine y_nil (hK := ?_)
    | (with_reducible refine nilTC_split (fun h => ?_) (fun h bn => ?_) <;> (try simp only [List.length_map] at h))
    | ((with_reducible first | refine grd_cases (fun h => ?_) (fun h => ?_) | refine condC_split (fun h => ?_) (fun h => ?_)) <;> (try simp only [h]) <;> (try simp only [NR_, Bool.not_true, Bool.not_false, Bool.not_eq_eq_eq_not, ne_eq] at h))
    | omega | (simp only [LN_]; omega))
  all_goals try exact leafLaw rfl
  have hok : ∀ x ∈ detL hd a b, x.2.length ≤ 1000 ∧ 0 ≤ x.1 ∧ x.1 ≤ 1000 := fun x hx => by
    simp only [detL, List.mem_cons, List.not_mem_nil, or_false] at hx
    rcases hx with rfl | rfl | rfl <;> simp <;> omega
  have hlen : (detL hd a b).length ≤ 1000 := by simp [detL]
  rcases Int.lt_or_le n a with h1 | h1
  · rcases Int.lt_or_le a hd with h2 | h2
    · have e := det_wide (f := f) (back := b) (by assumption) (by assumption) (show 0 ≤ hd by assumption) h1 h2
      repeat' (first
        | with_reducible first | refine AW_seqA (AW_block ?_) | refine AW_block ?_ | refine cut_seqloop ?_ | refine cut_loop ?_ | refine AW_seqA (AW_seqA ?_) | refine AW_seq ?_ | refine AW_runReg ?_ | refine AW_runCond ?_ | refine AW_runExit ?_ | refine AW_runRet ?_ | refine AW_runSkip ?_ | refine AW_runLabel ?_
        | simp only [WL, intF, strF, WM, Int.reduceToNat, ne_eq, reduceCtorEq, not_false_eq_true, Nat.reduceAdd, Nat.reduceSub, Nat.reduceLT, Nat.reduceLeDiff, Nat.reduceEqDiff, Bool.not_true, Bool.not_false, beq_self_eq_true, true_and, and_true, reduceIte, Bool.false_eq_true, T3, T4, T9, T24, T50, T59, T64, T71, cok30, cok32, cok34, Try.results11, e, lit_0, textI_nil]
        | simp (disch := first | omega | (simp only [LN_]; omega)) only [wrap_id, getI]
        | with_reducible first | refine andA (hb := ?_) | refine y_bs0 ?_ | refine y_bs (hK := ?_) | refine y_build (hK := ?_)
        | ( refine callD_mk (ACallF.argsS (ys := [SL none (detL hd a b), HDA (f, 0, 0), I n]) ⟨DLA_le, leS_le le_rfl, leS_le le_rfl, trivial⟩ (bRead hlen hok ?_)))
        | with_reducible first | refine cD (alive10 ?_) | refine cD (bRead ?_ ?_ ?_) | refine cD (num10 ?_)
        | with_reducible refine y_nil (hK := ?_)
        | (with_reducible refine nilTC_split (fun h => ?_) (fun h bn => ?_) <;> (try simp only [List.length_map] at h))
        | ((with_reducible first | refine grd_cases (fun h => ?_) (fun h => ?_) | refine condC_split (fun h => ?_) (fun h => ?_)) <;> (try simp only [h]) <;> (try simp only [NR_, Bool.not_true, Bool.not_false, Bool.not_eq_eq_eq_not, ne_eq] at h))
        | omega | (simp only [LN_]; omega))
      all_goals exact leafLaw rfl
    · have e := det_ok (f := f) (back := b) (by assumption) (by assumption) (show 0 ≤ hd by assumption) h1 h2
      rcases Int.lt_trichotomy b a with h3 | h3 | h3
      · rw [if_pos h3] at e
        repeat' (first
          | with_reducible first | refine AW_seqA (AW_block ?_) | refine AW_block ?_ | refine cut_seqloop ?_ | refine cut_loop ?_ | refine AW_seqA (AW_seqA ?_) | refine AW_seq ?_ | refine AW_runReg ?_ | refine AW_runCond ?_ | refine AW_runExit ?_ | refine AW_runRet ?_ | refine AW_runSkip ?_ | refine AW_runLabel ?_
          | simp only [WL, intF, strF, WM, Int.reduceToNat, ne_eq, reduceCtorEq, not_false_eq_true, Nat.reduceAdd, Nat.reduceSub, Nat.reduceLT, Nat.reduceLeDiff, Nat.reduceEqDiff, Bool.not_true, Bool.not_false, beq_self_eq_true, true_and, and_true, reduceIte, Bool.false_eq_true, T3, T4, T9, T24, T50, T59, T64, T71, cok30, cok32, cok34, Try.results11, e, lit_a]
          | simp (disch := first | omega | (simp only [LN_]; omega)) only [wrap_id, getI]
          | with_reducible first | refine andA (hb := ?_) | refine y_bs0 ?_ | refine y_bs (hK := ?_) | refine y_build (hK := ?_)
          | ( refine callD_mk (ACallF.argsS (ys := [SL none (detL hd a b), HDA (f, 0, 0), I n]) ⟨DLA_le, leS_le le_rfl, leS_le le_rfl, trivial⟩ (bRead hlen hok ?_)))
          | with_reducible first | refine cD (alive10 ?_) | refine cD (bRead ?_ ?_ ?_) | refine cD (num10 ?_)
          | with_reducible refine y_nil (hK := ?_)
          | (with_reducible refine nilTC_split (fun h => ?_) (fun h bn => ?_) <;> (try simp only [List.length_map] at h))
          | ((with_reducible first | refine grd_cases (fun h => ?_) (fun h => ?_) | refine condC_split (fun h => ?_) (fun h => ?_)) <;> (try simp only [h]) <;> (try simp only [NR_, Bool.not_true, Bool.not_false, Bool.not_eq_eq_eq_not, ne_eq] at h))
          | omega | (simp only [LN_]; omega))
        all_goals exact leafLaw rfl
      · rw [if_neg (by omega), if_pos h3] at e
        cases f
        · skip
          repeat' (first
            | with_reducible first | refine AW_seqA (AW_block ?_) | refine AW_block ?_ | refine cut_seqloop ?_ | refine cut_loop ?_ | refine AW_seqA (AW_seqA ?_) | refine AW_seq ?_ | refine AW_runReg ?_ | refine AW_runCond ?_ | refine AW_runExit ?_ | refine AW_runRet ?_ | refine AW_runSkip ?_ | refine AW_runLabel ?_
            | simp only [WL, intF, strF, WM, Int.reduceToNat, ne_eq, reduceCtorEq, not_false_eq_true, Nat.reduceAdd, Nat.reduceSub, Nat.reduceLT, Nat.reduceLeDiff, Nat.reduceEqDiff, Bool.not_true, Bool.not_false, beq_self_eq_true, true_and, and_true, reduceIte, Bool.false_eq_true, T3, T4, T9, T24, T50, T59, T64, T71, cok30, cok32, cok34, Try.results11, e, lit_b]
            | simp (disch := first | omega | (simp only [LN_]; omega)) only [wrap_id, getI]
            | with_reducible first | refine andA (hb := ?_) | refine y_bs0 ?_ | refine y_bs (hK := ?_) | refine y_build (hK := ?_)
            | ( refine callD_mk (ACallF.argsS (ys := [SL none (detL hd a b), HDA (false, 0, 0), I n]) ⟨DLA_le, leS_le le_rfl, leS_le le_rfl, trivial⟩ (bRead hlen hok ?_)))
            | with_reducible first | refine cD (alive10 ?_) | refine cD (bRead ?_ ?_ ?_) | refine cD (num10 ?_)
            | with_reducible refine y_nil (hK := ?_)
            | (with_reducible refine nilTC_split (fun h => ?_) (fun h bn => ?_) <;> (try simp only [List.length_map] at h))
            | ((with_reducible first | refine grd_cases (fun h => ?_) (fun h => ?_) | refine condC_split (fun h => ?_) (fun h => ?_)) <;> (try simp only [h]) <;> (try simp only [NR_, Bool.not_true, Bool.not_false, Bool.not_eq_eq_eq_not, ne_eq] at h))
            | omega | (simp only [LN_]; omega))
          all_goals exact leafLaw rfl
        · skip
          repeat' (first
            | with_reducible first | refine AW_seqA (AW_block ?_) | refine AW_block ?_ | refine cut_seqloop ?_ | refine cut_loop ?_ | refine AW_seqA (AW_seqA ?_) | refine AW_seq ?_ | refine AW_runReg ?_ | refine AW_runCond ?_ | refine AW_runExit ?_ | refine AW_runRet ?_ | refine AW_runSkip ?_ | refine AW_runLabel ?_
            | simp only [WL, intF, strF, WM, Int.reduceToNat, ne_eq, reduceCtorEq, not_false_eq_true, Nat.reduceAdd, Nat.reduceSub, Nat.reduceLT, Nat.reduceLeDiff, Nat.reduceEqDiff, Bool.not_true, Bool.not_false, beq_self_eq_true, true_and, and_true, reduceIte, Bool.false_eq_true, T3, T4, T9, T24, T50, T59, T64, T71, cok30, cok32, cok34, Try.results11, e, lit_c]
            | simp (disch := first | omega | (simp only [LN_]; omega)) only [wrap_id, getI]
            | with_reducible first | refine andA (hb := ?_) | refine y_bs0 ?_ | refine y_bs (hK := ?_) | refine y_build (hK := ?_)
            | ( refine callD_mk (ACallF.argsS (ys := [SL none (detL hd a b), HDA (true, 0, 0), I n]) ⟨DLA_le, leS_le le_rfl, leS_le le_rfl, trivial⟩ (bRead hlen hok ?_)))
            | with_reducible first | refine cD (alive10 ?_) | refine cD (bRead ?_ ?_ ?_) | refine cD (num10 ?_)
            | with_reducible refine y_nil (hK := ?_)
            | (with_reducible refine nilTC_split (fun h => ?_) (fun h bn => ?_) <;> (try simp only [List.length_map] at h))
            | ((with_reducible first | refine grd_cases (fun h => ?_) (fun h => ?_) | refine condC_split (fun h => ?_) (fun h => ?_)) <;> (try simp only [h]) <;> (try simp only [NR_, Bool.not_true, Bool.not_false, Bool.not_eq_eq_eq_not, ne_eq] at h))
            | omega | (simp only [LN_]; omega))
          all_goals exact leafLaw rfl
      · rw [if_neg (by omega), if_neg (by omega)] at e
        repeat' (first
          | with_reducible first | refine AW_seqA (AW_block ?_) | refine AW_block ?_ | refine cut_seqloop ?_ | refine cut_loop ?_ | refine AW_seqA (AW_seqA ?_) | refine AW_seq ?_ | refine AW_runReg ?_ | refine AW_runCond ?_ | refine AW_runExit ?_ | refine AW_runRet ?_ | refine AW_runSkip ?_ | refine AW_runLabel ?_
          | simp only [WL, intF, strF, WM, Int.reduceToNat, ne_eq, reduceCtorEq, not_false_eq_true, Nat.reduceAdd, Nat.reduceSub, Nat.reduceLT, Nat.reduceLeDiff, Nat.reduceEqDiff, Bool.not_true, Bool.not_false, beq_self_eq_true, true_and, and_true, reduceIte, Bool.false_eq_true, T3, T4, T9, T24, T50, T59, T64, T71, cok30, cok32, cok34, Try.results11, e, lit_0, lit_1, lit_2, lit_a]
          | simp (disch := first | omega | (simp only [LN_]; omega)) only [wrap_id, getI]
          | with_reducible first | refine andA (hb := ?_) | refine y_bs0 ?_ | refine y_bs (hK := ?_) | refine y_build (hK := ?_)
          | ( refine callD_mk (ACallF.argsS (ys := [SL none (detL hd a b), HDA (f, 0, 0), I n]) ⟨DLA_le, leS_le le_rfl, leS_le le_rfl, trivial⟩ (bRead hlen hok ?_)))
          | with_reducible first | refine cD (alive10 ?_) | refine cD (bRead ?_ ?_ ?_) | refine cD (num10 ?_)
          | with_reducible refine y_nil (hK := ?_)
          | (with_reducible refine nilTC_split (fun h => ?_) (fun h bn => ?_) <;> (try simp only [List.length_map] at h))
          | ((with_reducible first | refine grd_cases (fun h => ?_) (fun h => ?_) | refine condC_split (fun h => ?_) (fun h => ?_)) <;> (try simp only [h]) <;> (try simp only [NR_, Bool.not_true, Bool.not_false, Bool.not_eq_eq_eq_not, ne_eq] at h))
          | omega | (simp only [LN_]; omega))
        refine loop_by (fun k : Nat => ⟨(I n :: I a :: .any :: I b :: .any :: .any :: .any :: .any :: .any :: .any :: .any :: .any :: .any :: .raw (.string (textI ([10, 97, 10] ++ List.replicate (b - a).toNat 32 ++ [98, 10]))) :: I 3 :: .raw (.int .i64 0) :: .any :: .raw (.string (textI (List.replicate k 32))) :: I (a + k) :: .any :: .any :: .any :: .any :: .any :: .any :: .any :: .any :: .any :: .any :: .any :: .any :: .any :: .any :: .any :: .any :: .any :: .any :: .any :: .any :: .any :: .any :: .any :: .any :: .any :: .any :: .any :: .any :: .any :: .any :: .any :: .any :: .any :: .any :: .any :: .any :: .any :: .any :: .any :: .any :: .any :: .any :: .any :: .any :: .any :: .any :: .any :: .any :: .any :: .any :: .any :: .any :: .any :: .any :: .any :: .any :: .any :: .any :: .any :: .any :: .any :: .any :: .any :: .any :: .any :: .any :: .any :: .any :: .any :: .any :: .any :: .any :: .any :: .any :: .any :: .any :: .any :: .any :: .any :: .any :: .any :: .any :: .any :: .any :: .any :: .any :: .any :: .any :: .any :: .any :: .any :: .any :: .any :: .any :: .any :: .any :: .any :: .any :: .any :: .any :: .any :: .any :: .any :: .any :: .any :: .any :: .any :: .any :: .any :: .any :: .any :: .any :: .any :: .any :: .any :: .any :: .any :: []), [], true, []⟩) (fun k => (k : Int) ≤ b - a) (fun k => (b - a).toNat - k) 0 (St_le_same (by repeat (first | exact trivial | refine ⟨le_rfl, ?_⟩ | refine ⟨le_any, ?_⟩ | refine ⟨le_ro, ?_⟩ | refine ⟨le_nil (by decide), ?_⟩ | refine ⟨le_wrap (by omega) (by omega) (by omega), ?_⟩ | refine ⟨le_int (by omega), ?_⟩ | refine ⟨le_eq (by simp), ?_⟩)) id) (by omega) ?_
        intro k hk
        have z1 : (textI (List.replicate k 32)).size = k := by rw [text_size (fun c hc => by rw [List.mem_replicate] at hc; omega), List.length_replicate]
        have z2 : (textI [32]).size = 1 := by decide +kernel
        have z3 : (textI [10, 97, 10]).size = 3 := by decide +kernel
        have z4 : (textI [98, 10]).size = 2 := by decide +kernel
        have z5 : (textI (10 :: 97 :: 10 :: List.replicate k 32)).size = 3 + k := by rw [show (10 :: 97 :: 10 :: List.replicate k 32 : List Int) = [10, 97, 10] ++ List.replicate k 32 from rfl, ← textI_app]; simp [ByteArray.size_append, z1, z3]
        rcases Int.lt_or_le (a + k) b with hlt | hge
        · skip
          repeat' (first
            | simp only [WL, intF, strF, WM, Int.reduceToNat, ne_eq, reduceCtorEq, not_false_eq_true, Nat.reduceAdd, Nat.reduceSub, Nat.reduceLT, Nat.reduceLeDiff, Nat.reduceEqDiff, Bool.not_true, Bool.not_false, beq_self_eq_true, true_and, and_true, reduceIte, Bool.false_eq_true, T3, T4, T9, T24, T50, T59, T64, T71, cok30, cok32, cok34, Try.results11, textI_app, lit_1]
            | simp (disch := first | omega | (simp only [LN_]; omega)) only [wrap_id, getI, str_add_if]
            | with_reducible first | refine andA (hb := ?_) | refine y_bs0 ?_ | refine y_bs (hK := ?_) | refine y_build (hK := ?_) | refine cD (alive10 ?_) | refine cD (bRead ?_ ?_ ?_) | refine cD (num10 ?_)
            | with_reducible refine y_nil (hK := ?_)
            | (with_reducible refine nilTC_split (fun h => ?_) (fun h bn => ?_) <;> (try simp only [List.length_map] at h))
            | ((with_reducible first | refine grd_cases (fun h => ?_) (fun h => ?_) | refine condC_split (fun h => ?_) (fun h => ?_)) <;> (try simp only [h]) <;> (try simp only [NR_, Bool.not_true, Bool.not_false, Bool.not_eq_eq_eq_not, ne_eq] at h))
            | omega | (simp only [LN_]; omega))
          exact ⟨k + 1, St_le_same (by simp only [List.replicate_succ']; repeat (first | exact trivial | refine ⟨le_rfl, ?_⟩ | refine ⟨le_any, ?_⟩ | refine ⟨le_ro, ?_⟩ | refine ⟨le_nil (by decide), ?_⟩ | refine ⟨le_wrap (by omega) (by omega) (by omega), ?_⟩ | refine ⟨le_int (by omega), ?_⟩ | refine ⟨le_eq (by simp), ?_⟩)) id, by omega, by omega⟩
        · obtain rfl : k = (b - a).toNat := by omega
          repeat' (first
            | with_reducible first | refine AW_seqA (AW_block ?_) | refine AW_block ?_ | refine cut_seqloop ?_ | refine cut_loop ?_ | refine AW_seqA (AW_seqA ?_) | refine AW_seq ?_ | refine AW_runReg ?_ | refine AW_runCond ?_ | refine AW_runExit ?_ | refine AW_runRet ?_ | refine AW_runSkip ?_ | refine AW_runLabel ?_
            | simp only [WL, intF, strF, WM, Int.reduceToNat, ne_eq, reduceCtorEq, not_false_eq_true, Nat.reduceAdd, Nat.reduceSub, Nat.reduceLT, Nat.reduceLeDiff, Nat.reduceEqDiff, Bool.not_true, Bool.not_false, beq_self_eq_true, true_and, and_true, reduceIte, Bool.false_eq_true, T3, T4, T9, T24, T50, T59, T64, T71, cok30, cok32, cok34, Try.results11, textI_app, lit_0, lit_1, lit_2, lit_a, e]
            | simp (disch := first | omega | (simp only [LN_]; omega)) only [wrap_id, getI, str_add_if]
            | with_reducible first | refine andA (hb := ?_) | refine y_bs0 ?_ | refine y_bs (hK := ?_) | refine y_build (hK := ?_) | refine cD (alive10 ?_) | refine cD (bRead ?_ ?_ ?_) | refine cD (num10 ?_)
            | with_reducible refine y_nil (hK := ?_)
            | (with_reducible refine nilTC_split (fun h => ?_) (fun h bn => ?_) <;> (try simp only [List.length_map] at h))
            | ((with_reducible first | refine grd_cases (fun h => ?_) (fun h => ?_) | refine condC_split (fun h => ?_) (fun h => ?_)) <;> (try simp only [h]) <;> (try simp only [NR_, Bool.not_true, Bool.not_false, Bool.not_eq_eq_eq_not, ne_eq] at h))
            | omega | (simp only [LN_]; omega))
          all_goals exact leafLaw rfl
  · have e := det_low (f := f) (back := b) (by assumption) (by assumption) (show 0 ≤ hd by assumption) h1
    repeat' (first
      | with_reducible first | refine AW_seqA (AW_block ?_) | refine AW_block ?_ | refine cut_seqloop ?_ | refine cut_loop ?_ | refine AW_seqA (AW_seqA ?_) | refine AW_seq ?_ | refine AW_runReg ?_ | refine AW_runCond ?_ | refine AW_runExit ?_ | refine AW_runRet ?_ | refine AW_runSkip ?_ | refine AW_runLabel ?_
      | simp only [WL, intF, strF, WM, Int.reduceToNat, ne_eq, reduceCtorEq, not_false_eq_true, Nat.reduceAdd, Nat.reduceSub, Nat.reduceLT, Nat.reduceLeDiff, Nat.reduceEqDiff, Bool.not_true, Bool.not_false, beq_self_eq_true, true_and, and_true, reduceIte, Bool.false_eq_true, T3, T4, T9, T24, T50, T59, T64, T71, cok30, cok32, cok34, Try.results11, e, lit_0]
      | simp (disch := first | omega | (simp only [LN_]; omega)) only [wrap_id, getI]
      | with_reducible first | refine andA (hb := ?_) | refine y_bs0 ?_ | refine y_bs (hK := ?_) | refine y_build (hK := ?_)
      | ( refine callD_mk (ACallF.argsS (ys := [SL none (detL hd a b), HDA (f, 0, 0), I n]) ⟨DLA_le, leS_le le_rfl, leS_le le_rfl, trivial⟩ (bRead hlen hok ?_)))
      | with_reducible first | refine cD (alive10 ?_) | refine cD (bRead ?_ ?_ ?_) | refine cD (num10 ?_)
      | with_reducible refine y_nil (hK := ?_)
      | (with_reducible refine nilTC_split (fun h => ?_) (fun h bn => ?_) <;> (try simp only [List.length_map] at h))
      | ((with_reducible first | refine grd_cases (fun h => ?_) (fun h => ?_) | refine condC_split (fun h => ?_) (fun h => ?_)) <;> (try simp only [h]) <;> (try simp only [NR_, Bool.not_true, Bool.not_false, Bool.not_eq_eq_eq_not, ne_eq] at h))
      | omega | (simp only [LN_]; omega))
    all_goals exact leafLaw rfl
end Go.Proofs.Ytaeacialcbahnaa
