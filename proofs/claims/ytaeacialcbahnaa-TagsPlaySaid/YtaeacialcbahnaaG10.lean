/-
  Texts Pf, one behind the other.
-/
import Derived.Test.YtaeacialcbahnaaG9
/-
  Walks: chapter 11, the reference's directives.
-/

namespace Go.Proofs.Ytaeacialcbahnaa
open Go.Abs
set_option linter.unusedVariables false
set_option linter.unusedSimpArgs false
-- hb: 8000000
variable {κ : Ctx} {σ : List Res} {K : Ret → List Res → Prop} {o o' : Option (Option (Nat × Nat))}

-- marginaliaref1.tail
set_option maxHeartbeats 8000000 in
theorem rTail {l : List Int} (hl : l.length ≤ 1000000000) (hK : K (.ret (B (tailI l))) σ) : ACallF κ Try.prog 90 [SI o l] σ K := by
  have hcl := cnt_le blankI l
  have em : (l.takeWhile blankI).length = cnt blankI l := rfl
  refine ACallF.dropL (ACallF_intro Try.func90 rfl ?_)
  simp only [Try.ntmps90]
  repeat' (first
    | simp only [WL, intF, strF, WM, Int.reduceToNat, ne_eq, reduceCtorEq, not_false_eq_true, Nat.reduceAdd, Nat.reduceSub, Nat.reduceLT, Nat.reduceLeDiff, Nat.reduceEqDiff, Bool.not_true, Bool.not_false, beq_self_eq_true, true_and, and_true, reduceIte, Bool.false_eq_true, T3, T4, T24, cok88, Try.results90, em]
    | simp (disch := first | omega | (simp only [LN_]; omega)) only [wrap_id, getI]
    | with_reducible first | refine andA (hb := ?_) | refine y_load (hK := ?_) | refine cD (rPast ?_ ?_)
    | with_reducible refine y_nil (hK := ?_)
    | (with_reducible refine nilTC_split (fun h => ?_) (fun h bn => ?_) <;> (try simp only [List.length_map] at h))
    | ((with_reducible first | refine grd_cases (fun h => ?_) (fun h => ?_) | refine condC_split (fun h => ?_) (fun h => ?_)) <;> (try simp only [h]) <;> (try simp only [NR_, Bool.not_true, Bool.not_false, Bool.not_eq_eq_eq_not, ne_eq] at h))
    | omega | (simp only [LN_]; omega))
  all_goals
    refine leafL sub_rfl (leT_eq (congrArg B ?_)) hK
    rw [Bool.eq_iff_iff]
    simp only [tailI, decide_eq_true_eq, beq_iff_eq, Bool.false_eq_true, false_iff, true_iff]
    first
      | omega
      | trace_state

-- marginaliaref1.count
set_option maxHeartbeats 8000000 in
theorem rCount {l : List Int} {i : Nat} (hl : l.length ≤ 1000000000) (hi : i ≤ 2000000000) (hK : K (.ret (I (cnt digitC (l.drop i)))) σ) : ACallF κ Try.prog 89 [SI o l, I i] σ K := by
  have hcl := cnt_le digitC (l.drop i)
  rw [List.length_drop] at hcl
  refine ACallF.dropL (ACallF_introA Try.func89 rfl ?_)
  simp only [Try.ntmps89]
  repeat' (first
    | with_reducible first | refine AW_seqA (AW_block ?_) | refine AW_block ?_ | refine cut_seqloop ?_ | refine cut_loop ?_ | refine AW_seqA (AW_seqA ?_) | refine AW_seq ?_ | refine AW_runReg ?_ | refine AW_runCond ?_ | refine AW_runExit ?_ | refine AW_runRet ?_ | refine AW_runSkip ?_ | refine AW_runLabel ?_
    | simp only [WL, intF, strF, WM, Int.reduceToNat, ne_eq, reduceCtorEq, not_false_eq_true, Nat.reduceAdd, Nat.reduceSub, Nat.reduceLT, Nat.reduceLeDiff, Nat.reduceEqDiff, Bool.not_true, Bool.not_false, beq_self_eq_true, true_and, and_true, reduceIte, Bool.false_eq_true, T3, T4, T24, Try.results89]
    | simp (disch := first | omega | (simp only [LN_]; omega)) only [wrap_id, getI]
    | with_reducible first | refine andA (hb := ?_) | refine y_load (hK := ?_)
    | with_reducible refine y_nil (hK := ?_)
    | (with_reducible refine nilTC_split (fun h => ?_) (fun h bn => ?_) <;> (try simp only [List.length_map] at h))
    | ((with_reducible first | refine grd_cases (fun h => ?_) (fun h => ?_) | refine condC_split (fun h => ?_) (fun h => ?_)) <;> (try simp only [h]) <;> (try simp only [NR_, Bool.not_true, Bool.not_false, Bool.not_eq_eq_eq_not, ne_eq] at h))
    | omega | (simp only [LN_]; omega))
  refine loopA (fun k : Nat => ⟨(SI o l :: I i :: .any :: .any :: .any :: I k :: .any :: .any :: .any :: .any :: .any :: .any :: .any :: .any :: .any :: .any :: .any :: .any :: .any :: .any :: .any :: .any :: .any :: .any :: .any :: .any :: .any :: .any :: .any :: .any :: .any :: .any :: .any :: []), σ, true, []⟩) (fun k => k ≤ cnt digitC (l.drop i)) (fun k => l.length - k) 0 (St_le_same (by repeat (first | exact trivial | refine ⟨le_rfl, ?_⟩ | refine ⟨le_any, ?_⟩ | refine ⟨le_ro, ?_⟩ | refine ⟨le_nil (by decide), ?_⟩ | refine ⟨le_wrap (by omega) (by omega) (by omega), ?_⟩ | refine ⟨le_int (by omega), ?_⟩ | refine ⟨le_eq (by simp), ?_⟩)) id) (Nat.zero_le _) ?_
  intro k hk
  have e1 : ((i : Int) + (k : Int)).toNat = i + k := by omega
  repeat' (first
    | with_reducible first | refine AW_seqA (AW_block ?_) | refine AW_block ?_ | refine cut_seqloop ?_ | refine cut_loop ?_ | refine AW_seqA (AW_seqA ?_) | refine AW_seq ?_ | refine AW_runReg ?_ | refine AW_runCond ?_ | refine AW_runExit ?_ | refine AW_runRet ?_ | refine AW_runSkip ?_ | refine AW_runLabel ?_
    | simp only [WL, intF, strF, WM, Int.reduceToNat, ne_eq, reduceCtorEq, not_false_eq_true, Nat.reduceAdd, Nat.reduceSub, Nat.reduceLT, Nat.reduceLeDiff, Nat.reduceEqDiff, Bool.not_true, Bool.not_false, beq_self_eq_true, true_and, and_true, reduceIte, Bool.false_eq_true, T3, T4, T24, Try.results89, e1]
    | simp (disch := first | omega | (simp only [LN_]; omega)) only [wrap_id, getI]
    | with_reducible first | refine andA (hb := ?_) | refine y_load (hK := ?_)
    | with_reducible refine y_nil (hK := ?_)
    | (with_reducible refine nilTC_split (fun h => ?_) (fun h bn => ?_) <;> (try simp only [List.length_map] at h))
    | ((with_reducible first | refine grd_cases (fun h => ?_) (fun h => ?_) | refine condC_split (fun h => ?_) (fun h => ?_)) <;> (try simp only [h]) <;> (try simp only [NR_, Bool.not_true, Bool.not_false, Bool.not_eq_eq_eq_not, ne_eq] at h))
    | omega | (simp only [LN_]; omega))
  all_goals first
    | exact ⟨k + 1, St_le_same (by repeat (first | exact trivial | refine ⟨le_rfl, ?_⟩ | refine ⟨le_any, ?_⟩ | refine ⟨le_ro, ?_⟩ | refine ⟨le_nil (by decide), ?_⟩ | refine ⟨le_wrap (by omega) (by omega) (by omega), ?_⟩ | refine ⟨le_int (by omega), ?_⟩ | refine ⟨le_eq (by simp), ?_⟩)) id, cnt_step hk (by rw [List.length_drop]; omega) (by rw [getD_dropI]; exact decide_eq_true ⟨by omega, by omega⟩), by omega⟩
    | (have e := cnt_stop hk (by first | exact .inl (by rw [List.length_drop]; omega) | exact .inr (by rw [getD_dropI]; exact decide_eq_false (by omega)))
       exact leafL sub_rfl (leT_eq (by rw [← e])) hK)
    | trace_state

-- marginaliaref1.text
set_option maxHeartbeats 8000000 in
theorem rTextOf {l : List Int} (hl : l.length ≤ 1000000000) (hK : K (.ret (.raw (.string (textI l)))) σ) : ACallF κ Try.prog 52 [SI o l] σ K := by
  refine ACallF.dropL (ACallF_intro Try.func52 rfl ?_)
  simp only [Try.ntmps52]
  repeat' (first
    | simp only [WL, intF, strF, WM, Int.reduceToNat, ne_eq, reduceCtorEq, not_false_eq_true, Nat.reduceAdd, Nat.reduceSub, Nat.reduceLT, Nat.reduceLeDiff, Nat.reduceEqDiff, Bool.not_true, Bool.not_false, beq_self_eq_true, true_and, and_true, reduceIte, Bool.false_eq_true, convC_sl, convC_str, List.eraseIdx_cons_zero, List.eraseIdx_cons_succ, T3, T5, T9, T24, T30, cok17, Try.results52]
    | simp (disch := first | omega | (simp only [LN_]; omega)) only [wrap_id, getI]
    | with_reducible first | refine andA (hb := ?_) | refine y_bytes ?_ | refine cD (rBytes ?_ ?_)
    | ((with_reducible first | refine grd_cases (fun h => ?_) (fun h => ?_) | refine condC_split (fun h => ?_) (fun h => ?_)) <;> (try simp only [h]) <;> (try simp only [NR_, Bool.not_true, Bool.not_false, Bool.not_eq_eq_eq_not, ne_eq] at h))
    | omega | (simp only [LN_]; omega) | (refine maxLen_ok ?_; (first | omega | (simp only [LN_]; omega))))
  exact leafL sub_rfl (leT_eq rfl) hK

set_option maxHeartbeats 8000000 in
theorem bytes_inj {a b : ByteArray} (h : a.toList = b.toList) : a = b := by
  rw [ByteArray.toList_eq, ByteArray.toList_eq] at h
  exact ByteArray.ext (Array.toList_inj.mp h)
def noneV : AV := .tup [.raw (.string ByteArray.empty), .raw (.string ByteArray.empty), .raw (.string ByteArray.empty), B false]
def retV (x : ByteArray) (m : Nat) (v : ByteArray × ByteArray × Bool) : AV := if v.2.2 = true ∧ 0 < m then .tup [.raw (.string x), .raw (.string v.1), .raw (.string v.2.1), B true] else noneV
set_option maxHeartbeats 8000000 in
theorem retV_no {x : ByteArray} {m : Nat} {v : ByteArray × ByteArray × Bool} (h : m = 0 ∨ v.2.2 = false) : retV x m v = noneV := by
  unfold retV
  rw [if_neg (fun e => h.elim (fun h => by omega) (fun h => by rw [h] at e; cases e.1))]
set_option maxHeartbeats 8000000 in
theorem retV_yes {x : ByteArray} {m : Nat} {v : ByteArray × ByteArray × Bool} (h : 0 < m) (h2 : v.2.2 = true) : retV x m v = .tup [.raw (.string x), .raw (.string v.1), .raw (.string v.2.1), B true] := by
  unfold retV; rw [if_pos ⟨h2, h⟩]
-- marginaliaref1.version
set_option maxHeartbeats 8000000 in
theorem rVersion {l : List Int} {i : Nat} (hl : l.length ≤ 1000000000) (hi : i ≤ l.length) (hK : K (.ret (retV litY (cnt blankI (l.drop i)) (versP l (i + cnt blankI (l.drop i))))) σ) : ACallF κ Try.prog 53 [SI o l, I i] σ K := by
  have hm := cnt_le blankI (l.drop i)
  rw [List.length_drop] at hm
  have em : ((l.drop i).takeWhile blankI).length = cnt blankI (l.drop i) := rfl
  generalize cnt blankI (l.drop i) = m at *
  have hcl := cnt_le digitC (l.drop (i + m))
  rw [List.length_drop] at hcl
  have e1 : (i : Int) + (m : Int) = ((i + m : Nat) : Int) := by omega
  by_cases hbad : m = 0 ∨ cnt digitC (l.drop (i + m)) = 0 ∨ atI l (i + m + cnt digitC (l.drop (i + m))) 46 = false
  · rw [retV_no (by rcases hbad with h | h
                    · exact .inl h
                    · exact .inr (by rw [versP, if_pos h]))] at hK
    have e2 : ((i + m : Nat) : Int) + ((cnt digitC (l.drop (i + m)) : Nat) : Int) = ((i + m + cnt digitC (l.drop (i + m)) : Nat) : Int) := by omega
    have e3 : ((i + m + cnt digitC (l.drop (i + m)) : Nat) : Int) + 1 = ((i + m + cnt digitC (l.drop (i + m)) + 1 : Nat) : Int) := by omega
    refine ACallF.dropL (ACallF_intro Try.func53 rfl ?_)
    simp only [Try.ntmps53]
    repeat' (first
      | simp only [WL, intF, strF, WM, Int.reduceToNat, ne_eq, reduceCtorEq, not_false_eq_true, Nat.reduceAdd, Nat.reduceSub, Nat.reduceLT, Nat.reduceLeDiff, Nat.reduceEqDiff, Bool.not_true, Bool.not_false, beq_self_eq_true, true_and, and_true, reduceIte, Bool.false_eq_true, T3, T4, T9, T24, cok52, cok88, cok89, cok90, Try.results53, em, e1, e2]
      | simp (disch := first | omega | (simp only [LN_]; omega)) only [wrap_id, getI]
      | with_reducible first | refine andA (hb := ?_) | refine y_load (hK := ?_) | refine cD (rCount (i := i + m) ?_ ?_ ?_) | refine cD (rCount (i := i + m + cnt digitC (l.drop (i + m)) + 1) ?_ ?_ ?_) | refine cQ (rTextOf ?_ isR_mk) ?_ | refine cD (rTextOf ?_ ?_) | refine cQ (rPast ?_ isR_mk) ?_ | refine cD (rPast ?_ ?_) | refine cQ (rCount ?_ ?_ isR_mk) ?_ | refine cD (rCount ?_ ?_ ?_) | refine cQ (rTail ?_ isR_mk) ?_ | refine cD (rTail ?_ ?_)
      | ((with_reducible refine AW_drawM (id := 10) 18 mixed ?_ ?_); kernel_rfl)
      | (with_reducible refine dmQ_mk ?_)
      | with_reducible refine y_nil (hK := ?_)
      | (with_reducible refine nilTC_split (fun h => ?_) (fun h bn => ?_) <;> (try simp only [List.length_map] at h))
      | ((with_reducible first | refine grd_cases (fun h => ?_) (fun h => ?_) | refine condC_split (fun h => ?_) (fun h => ?_)) <;> (try simp only [h]) <;> (try simp only [NR_, Bool.not_true, Bool.not_false, Bool.not_eq_eq_eq_not, ne_eq] at h))
      | omega | (simp only [LN_]; omega))
    all_goals first
      | exact leafL sub_rfl (leT_eq rfl) hK
      | (exfalso
         rcases hbad with h | h | h
         · omega
         · omega
         · have := atI_no h; omega)
      | trace_state
  · have hm0 : 0 < m := by omega
    have ha0 : 0 < cnt digitC (l.drop (i + m)) := by omega
    have hdot : atI l (i + m + cnt digitC (l.drop (i + m))) 46 = true := by
      cases e : atI l (i + m + cnt digitC (l.drop (i + m))) 46
      · exact absurd (.inr (.inr e)) hbad
      · rfl
    obtain ⟨hlt, h46⟩ := atI_lt hdot
    have hb := cnt_le digitC (l.drop (i + m + cnt digitC (l.drop (i + m)) + 1))
    rw [List.length_drop] at hb
    rw [versP_yes (fun h => hbad (.inr h))] at hK
    have hcnt0 : ∀ (K : Ret → List Res → Prop), K (.ret (I (cnt digitC (l.drop (i + m))))) σ → ACallF κ Try.prog 89 [SI o l, I (i + m : Nat)] σ K := fun K h => rCount (i := i + m) hl (by omega) h
    generalize cnt digitC (l.drop (i + m)) = a at *
    have hcnt : ∀ (K : Ret → List Res → Prop), K (.ret (I (cnt digitC (l.drop (i + m + a + 1))))) σ → ACallF κ Try.prog 89 [SI o l, I (i + m + a + 1 : Nat)] σ K := fun K h => rCount (i := i + m + a + 1) hl (by omega) h
    generalize cnt digitC (l.drop (i + m + a + 1)) = b at *
    have e2 : ((i + m : Nat) : Int) + (a : Int) = ((i + m + a : Nat) : Int) := by omega
    have e3 : ((i + m + a : Nat) : Int) + 1 = ((i + m + a + 1 : Nat) : Int) := by omega
    have e4 : ((i + m + a + 1 : Nat) : Int) + (b : Int) = ((i + m + a + 1 + b : Nat) : Int) := by omega
    by_cases hb0 : b = 0
    · rw [retV_no (.inr (by simp [hb0]))] at hK
      refine ACallF.dropL (ACallF_intro Try.func53 rfl ?_)
      simp only [Try.ntmps53]
      repeat' (first
        | simp only [WL, intF, strF, WM, Int.reduceToNat, ne_eq, reduceCtorEq, not_false_eq_true, Nat.reduceAdd, Nat.reduceSub, Nat.reduceLT, Nat.reduceLeDiff, Nat.reduceEqDiff, Bool.not_true, Bool.not_false, beq_self_eq_true, true_and, and_true, reduceIte, Bool.false_eq_true, T3, T4, T9, T24, cok52, cok88, cok89, cok90, Try.results53, em, e1, e2, e3, e4]
        | simp (disch := first | omega | (simp only [LN_]; omega)) only [wrap_id, getI]
        | with_reducible first | refine andA (hb := ?_) | refine y_load (hK := ?_) | refine callD_mk (hcnt0 _ ?_) | refine callD_mk (hcnt _ ?_) | refine callD_q (hcnt0 _ isR_mk) ?_ | refine callD_q (hcnt _ isR_mk) ?_ | refine cQ (rTextOf ?_ isR_mk) ?_ | refine cD (rTextOf ?_ ?_) | refine cQ (rPast ?_ isR_mk) ?_ | refine cD (rPast ?_ ?_) | refine cQ (rCount ?_ ?_ isR_mk) ?_ | refine cD (rCount ?_ ?_ ?_) | refine cQ (rTail ?_ isR_mk) ?_ | refine cD (rTail ?_ ?_)
        | ((with_reducible refine AW_drawM (id := 10) 18 mixed ?_ ?_); kernel_rfl)
        | (with_reducible refine dmQ_mk ?_)
        | with_reducible refine y_nil (hK := ?_)
        | (with_reducible refine nilTC_split (fun h => ?_) (fun h bn => ?_) <;> (try simp only [List.length_map] at h))
        | ((with_reducible first | refine grd_cases (fun h => ?_) (fun h => ?_) | refine condC_split (fun h => ?_) (fun h => ?_)) <;> (try simp only [h]) <;> (try simp only [NR_, Bool.not_true, Bool.not_false, Bool.not_eq_eq_eq_not, ne_eq] at h))
        | omega | (simp only [LN_]; omega))
      all_goals first
        | exact leafL sub_rfl (leT_eq rfl) hK
        | (exfalso; omega)
        | trace_state
    · have hb1 : 0 < b := by omega
      cases ht : tailI (l.drop (i + m + a + 1 + b))
      · rw [retV_no (.inr (by simp [ht]))] at hK
        refine ACallF.dropL (ACallF_intro Try.func53 rfl ?_)
        simp only [Try.ntmps53]
        repeat' (first
          | simp only [WL, intF, strF, WM, Int.reduceToNat, ne_eq, reduceCtorEq, not_false_eq_true, Nat.reduceAdd, Nat.reduceSub, Nat.reduceLT, Nat.reduceLeDiff, Nat.reduceEqDiff, Bool.not_true, Bool.not_false, beq_self_eq_true, true_and, and_true, reduceIte, Bool.false_eq_true, T3, T4, T9, T24, cok52, cok88, cok89, cok90, Try.results53, em, e1, e2, e3, e4, ht]
          | simp (disch := first | omega | (simp only [LN_]; omega)) only [wrap_id, getI]
          | with_reducible first | refine andA (hb := ?_) | refine y_load (hK := ?_) | refine callD_mk (hcnt0 _ ?_) | refine callD_mk (hcnt _ ?_) | refine callD_q (hcnt0 _ isR_mk) ?_ | refine callD_q (hcnt _ isR_mk) ?_ | refine cQ (rTextOf ?_ isR_mk) ?_ | refine cD (rTextOf ?_ ?_) | refine cQ (rPast ?_ isR_mk) ?_ | refine cD (rPast ?_ ?_) | refine cQ (rCount ?_ ?_ isR_mk) ?_ | refine cD (rCount ?_ ?_ ?_) | refine cQ (rTail ?_ isR_mk) ?_ | refine cD (rTail ?_ ?_)
          | ((with_reducible refine AW_drawM (id := 10) 18 mixed ?_ ?_); kernel_rfl)
          | (with_reducible refine dmQ_mk ?_)
          | with_reducible refine y_nil (hK := ?_)
          | (with_reducible refine nilTC_split (fun h => ?_) (fun h bn => ?_) <;> (try simp only [List.length_map] at h))
          | ((with_reducible first | refine grd_cases (fun h => ?_) (fun h => ?_) | refine condC_split (fun h => ?_) (fun h => ?_)) <;> (try simp only [h]) <;> (try simp only [NR_, Bool.not_true, Bool.not_false, Bool.not_eq_eq_eq_not, ne_eq] at h))
          | omega | (simp only [LN_]; omega))
        all_goals first
          | exact leafL sub_rfl (leT_eq rfl) hK
          | (exfalso; omega)
          | trace_state
      · rw [retV_yes hm0 (by simp [ht, hb1])] at hK
        refine ACallF.dropL (ACallF_intro Try.func53 rfl ?_)
        simp only [Try.ntmps53]
        repeat' (first
          | simp only [WL, intF, strF, WM, Int.reduceToNat, ne_eq, reduceCtorEq, not_false_eq_true, Nat.reduceAdd, Nat.reduceSub, Nat.reduceLT, Nat.reduceLeDiff, Nat.reduceEqDiff, Bool.not_true, Bool.not_false, beq_self_eq_true, true_and, and_true, reduceIte, Bool.false_eq_true, T3, T4, T9, T24, cok52, cok88, cok89, cok90, Try.results53, em, e1, e2, e3, e4, ht]
          | simp (disch := first | omega | (simp only [LN_]; omega)) only [wrap_id, getI]
          | with_reducible first | refine andA (hb := ?_) | refine y_load (hK := ?_) | refine callD_mk (hcnt0 _ ?_) | refine callD_mk (hcnt _ ?_) | refine callD_q (hcnt0 _ isR_mk) ?_ | refine callD_q (hcnt _ isR_mk) ?_ | refine cQ (rTextOf ?_ isR_mk) ?_ | refine cD (rTextOf ?_ ?_) | refine cQ (rPast ?_ isR_mk) ?_ | refine cD (rPast ?_ ?_) | refine cQ (rCount ?_ ?_ isR_mk) ?_ | refine cD (rCount ?_ ?_ ?_) | refine cQ (rTail ?_ isR_mk) ?_ | refine cD (rTail ?_ ?_)
          | ((with_reducible refine AW_drawM (id := 10) 18 mixed ?_ ?_); kernel_rfl)
          | (with_reducible refine dmQ_mk ?_)
          | with_reducible refine y_nil (hK := ?_)
          | (with_reducible refine nilTC_split (fun h => ?_) (fun h bn => ?_) <;> (try simp only [List.length_map] at h))
          | ((with_reducible first | refine grd_cases (fun h => ?_) (fun h => ?_) | refine condC_split (fun h => ?_) (fun h => ?_)) <;> (try simp only [h]) <;> (try simp only [NR_, Bool.not_true, Bool.not_false, Bool.not_eq_eq_eq_not, ne_eq] at h))
          | omega | (simp only [LN_]; omega))
        all_goals first
          | exact leafL sub_rfl (leT_eq rfl) hK
          | (exfalso; omega)
          | trace_state

-- marginaliaref1.prefix
set_option maxHeartbeats 8000000 in
theorem rPrefix {l : List Int} {i : Nat} (hl : l.length ≤ 1000000000) (hi : i ≤ l.length) (hK : K (.ret (retV litT (cnt blankI (l.drop i)) (preP l (i + cnt blankI (l.drop i))))) σ) : ACallF κ Try.prog 54 [SI o l, I i] σ K := by
  have hm := cnt_le blankI (l.drop i)
  rw [List.length_drop] at hm
  have em : ((l.drop i).takeWhile blankI).length = cnt blankI (l.drop i) := rfl
  generalize cnt blankI (l.drop i) = m at *
  have e1 : (i : Int) + (m : Int) = ((i + m : Nat) : Int) := by omega
  by_cases hbad : m = 0 ∨ atI l (i + m) 33 = false
  · rw [retV_no (by rcases hbad with h | h
                    · exact .inl h
                    · exact .inr (by rw [preP, if_pos h]))] at hK
    refine ACallF.dropL (ACallF_intro Try.func54 rfl ?_)
    simp only [Try.ntmps54]
    repeat' (first
      | simp only [WL, intF, strF, WM, Int.reduceToNat, ne_eq, reduceCtorEq, not_false_eq_true, Nat.reduceAdd, Nat.reduceSub, Nat.reduceLT, Nat.reduceLeDiff, Nat.reduceEqDiff, Bool.not_true, Bool.not_false, beq_self_eq_true, true_and, and_true, reduceIte, Bool.false_eq_true, T3, T4, T9, T24, cok16, cok37, cok52, cok88, cok90, Try.results54, em, e1]
      | simp (disch := first | omega | (simp only [LN_]; omega)) only [wrap_id, getI]
      | with_reducible first | refine andA (hb := ?_) | refine y_load (hK := ?_) | refine cQ (rWord isR_mk) ?_ | refine cD (rWord ?_) | refine cQ (rUri ?_ isR_mk) ?_ | refine cD (rUri ?_ ?_) | refine cQ (rTextOf ?_ isR_mk) ?_ | refine cD (rTextOf ?_ ?_) | refine cQ (rPast ?_ isR_mk) ?_ | refine cD (rPast ?_ ?_) | refine cQ (rTail ?_ isR_mk) ?_ | refine cD (rTail ?_ ?_)
      | ((with_reducible refine AW_drawM (id := 19) 14 mixed ?_ ?_); kernel_rfl)
      | (with_reducible refine dmQ_mk ?_)
      | with_reducible refine y_nil (hK := ?_)
      | (with_reducible refine nilTC_split (fun h => ?_) (fun h bn => ?_) <;> (try simp only [List.length_map] at h))
      | ((with_reducible first | refine grd_cases (fun h => ?_) (fun h => ?_) | refine condC_split (fun h => ?_) (fun h => ?_)) <;> (try simp only [h]) <;> (try simp only [NR_, Bool.not_true, Bool.not_false, Bool.not_eq_eq_eq_not, ne_eq] at h))
      | omega | (simp only [LN_]; omega))
    all_goals first
      | exact leafL sub_rfl (leT_eq rfl) hK
      | (exfalso
         rcases hbad with h | h
         · omega
         · have := atI_no h; omega)
      | trace_state
  have hm0 : 0 < m := by omega
  have h33 : atI l (i + m) 33 = true := by
    cases e : atI l (i + m) 33
    · exact absurd (.inr e) hbad
    · rfl
  clear hbad
  obtain ⟨hlt, h33'⟩ := atI_lt h33
  rw [preP_yes h33] at hK
  generalize i + m = p at *
  have h3 := preH_le hlt
  have h4 := preF_le hlt
  have h5 := preU_le hlt
  have hw := cnt_le wordI (l.drop (p + 1))
  rw [List.length_drop] at hw
  have hhn : handleN (l.drop p) = if atI l (p + 1 + cnt wordI (l.drop (p + 1))) 33 then 2 + cnt wordI (l.drop (p + 1)) else 0 := by
    unfold handleN
    rw [List.drop_drop, show atI (l.drop p) (1 + cnt wordI (l.drop (p + 1))) 33 = atI l (p + 1 + cnt wordI (l.drop (p + 1))) 33 by
      rw [Bool.eq_iff_iff]; simp only [atI, decide_eq_true_eq, List.length_drop, getD_dropI]; rw [Nat.add_assoc]; omega]
    split <;> omega
  refine ACallF.dropL (ACallF_introA Try.func54 rfl ?_)
  simp only [Try.ntmps54]
  repeat' (first
    | with_reducible first | refine cut_blk (id := 0) ?_ | refine AW_seqA (AW_block ?_) | refine AW_block ?_ | refine cut_seqloop ?_ | refine cut_loop ?_ | refine AW_seqA (AW_seqA ?_) | refine AW_seq ?_ | refine AW_runReg ?_ | refine AW_runCond ?_ | refine AW_runExit ?_ | refine AW_runRet ?_ | refine AW_runSkip ?_ | refine AW_runLabel ?_
    | simp only [WL, intF, strF, WM, Int.reduceToNat, ne_eq, reduceCtorEq, not_false_eq_true, Nat.reduceAdd, Nat.reduceSub, Nat.reduceLT, Nat.reduceLeDiff, Nat.reduceEqDiff, Bool.not_true, Bool.not_false, beq_self_eq_true, true_and, and_true, reduceIte, Bool.false_eq_true, T3, T4, T9, T24, cok16, cok37, cok52, cok88, cok90, Try.results54, em, e1]
    | simp (disch := first | omega | (simp only [LN_]; omega)) only [wrap_id, getI]
    | with_reducible first | refine andA (hb := ?_) | refine y_load (hK := ?_) | refine cQ (rWord isR_mk) ?_ | refine cD (rWord ?_) | refine cQ (rUri ?_ isR_mk) ?_ | refine cD (rUri ?_ ?_) | refine cQ (rTextOf ?_ isR_mk) ?_ | refine cD (rTextOf ?_ ?_) | refine cQ (rPast ?_ isR_mk) ?_ | refine cD (rPast ?_ ?_) | refine cQ (rTail ?_ isR_mk) ?_ | refine cD (rTail ?_ ?_)
    | ((with_reducible refine AW_drawM (id := 19) 14 mixed ?_ ?_); kernel_rfl)
    | (with_reducible refine dmQ_mk ?_)
    | with_reducible refine y_nil (hK := ?_)
    | (with_reducible refine nilTC_split (fun h => ?_) (fun h bn => ?_) <;> (try simp only [List.length_map] at h))
    | ((with_reducible first | refine grd_cases (fun h => ?_) (fun h => ?_) | refine condC_split (fun h => ?_) (fun h => ?_)) <;> (try simp only [h]) <;> (try simp only [NR_, Bool.not_true, Bool.not_false, Bool.not_eq_eq_eq_not, ne_eq] at h))
    | omega | (simp only [LN_]; omega))
  all_goals first
    | (exfalso; omega)
    | skip
  refine midA (fun _ : Unit => ⟨(SI o l :: I p :: .any :: .any :: .any :: .any :: .any :: .any :: I m :: I (p + 1 + cnt wordI (l.drop (p + 1)) : Nat) :: .any :: .any :: .any :: .any :: .any :: .any :: .any :: .any :: .any :: .any :: .any :: .any :: .any :: .any :: .any :: .any :: .any :: .any :: .any :: .any :: .any :: .any :: .any :: .any :: .any :: .any :: .any :: .any :: .any :: .any :: .any :: .any :: .any :: .any :: .any :: .any :: .any :: .any :: .any :: .any :: .any :: .any :: .any :: .any :: .any :: .any :: .any :: .any :: .any :: .any :: .any :: .any :: .any :: .any :: .any :: .any :: .any :: .any :: .any :: .any :: .any :: .any :: .any :: .any :: .any :: .any :: .any :: .any :: .any :: .any :: .any :: .any :: .any :: .any :: .any :: .any :: .any :: .any :: .any :: .any :: .any :: .any :: .any :: .any :: .any :: .any :: .any :: .any :: .any :: .any :: .any :: .any :: .any :: .any :: .any :: .any :: .any :: .any :: []), σ, true, []⟩) (fun _ => True) ?_ ?_
  · skip
    repeat' (first
      | with_reducible first | refine AW_seqA (AW_block ?_) | refine AW_block ?_ | refine cut_seqloop ?_ | refine cut_loop ?_ | refine AW_seqA (AW_seqA ?_) | refine AW_seq ?_ | refine AW_runReg ?_ | refine AW_runCond ?_ | refine AW_runExit ?_ | refine AW_runRet ?_ | refine AW_runSkip ?_ | refine AW_runLabel ?_
      | simp only [WL, intF, strF, WM, Int.reduceToNat, ne_eq, reduceCtorEq, not_false_eq_true, Nat.reduceAdd, Nat.reduceSub, Nat.reduceLT, Nat.reduceLeDiff, Nat.reduceEqDiff, Bool.not_true, Bool.not_false, beq_self_eq_true, true_and, and_true, reduceIte, Bool.false_eq_true, T3, T4, T9, T24, cok16, cok37, cok52, cok88, cok90, Try.results54]
      | simp (disch := first | omega | (simp only [LN_]; omega)) only [wrap_id, getI]
      | with_reducible first | refine andA (hb := ?_) | refine y_load (hK := ?_) | refine cQ (rWord isR_mk) ?_ | refine cD (rWord ?_) | refine cQ (rUri ?_ isR_mk) ?_ | refine cD (rUri ?_ ?_) | refine cQ (rTextOf ?_ isR_mk) ?_ | refine cD (rTextOf ?_ ?_) | refine cQ (rPast ?_ isR_mk) ?_ | refine cD (rPast ?_ ?_) | refine cQ (rTail ?_ isR_mk) ?_ | refine cD (rTail ?_ ?_)
      | ((with_reducible refine AW_drawM (id := 19) 14 mixed ?_ ?_); kernel_rfl)
      | (with_reducible refine dmQ_mk ?_)
      | with_reducible refine y_nil (hK := ?_)
      | (with_reducible refine nilTC_split (fun h => ?_) (fun h bn => ?_) <;> (try simp only [List.length_map] at h))
      | ((with_reducible first | refine grd_cases (fun h => ?_) (fun h => ?_) | refine condC_split (fun h => ?_) (fun h => ?_)) <;> (try simp only [h]) <;> (try simp only [NR_, Bool.not_true, Bool.not_false, Bool.not_eq_eq_eq_not, ne_eq] at h))
      | omega | (simp only [LN_]; omega))
    refine loopA (fun k : Nat => ⟨(SI o l :: I p :: .any :: .any :: .any :: .any :: .any :: .any :: I m :: I (p + 1 + k : Nat) :: .any :: .any :: .any :: .any :: .any :: .any :: .any :: .any :: .any :: .any :: .any :: .any :: .any :: .any :: .any :: .any :: .any :: .any :: .any :: .any :: .any :: .any :: .any :: .any :: .any :: .any :: .any :: .any :: .any :: .any :: .any :: .any :: .any :: .any :: .any :: .any :: .any :: .any :: .any :: .any :: .any :: .any :: .any :: .any :: .any :: .any :: .any :: .any :: .any :: .any :: .any :: .any :: .any :: .any :: .any :: .any :: .any :: .any :: .any :: .any :: .any :: .any :: .any :: .any :: .any :: .any :: .any :: .any :: .any :: .any :: .any :: .any :: .any :: .any :: .any :: .any :: .any :: .any :: .any :: .any :: .any :: .any :: .any :: .any :: .any :: .any :: .any :: .any :: .any :: .any :: .any :: .any :: .any :: .any :: .any :: .any :: .any :: .any :: []), σ, true, []⟩) (fun k => k ≤ cnt wordI (l.drop (p + 1))) (fun k => l.length - k) 0 (St_le_same (by repeat (first | exact trivial | refine ⟨le_rfl, ?_⟩ | refine ⟨le_any, ?_⟩ | refine ⟨le_ro, ?_⟩ | refine ⟨le_nil (by decide), ?_⟩ | refine ⟨le_wrap (by omega) (by omega) (by omega), ?_⟩ | refine ⟨le_int (by omega), ?_⟩ | refine ⟨le_eq (by simp), ?_⟩)) id) (Nat.zero_le _) ?_
    intro k hk
    repeat' (first
      | with_reducible first | refine AW_seqA (AW_block ?_) | refine AW_block ?_ | refine cut_seqloop ?_ | refine cut_loop ?_ | refine AW_seqA (AW_seqA ?_) | refine AW_seq ?_ | refine AW_runReg ?_ | refine AW_runCond ?_ | refine AW_runExit ?_ | refine AW_runRet ?_ | refine AW_runSkip ?_ | refine AW_runLabel ?_
      | simp only [WL, intF, strF, WM, Int.reduceToNat, ne_eq, reduceCtorEq, not_false_eq_true, Nat.reduceAdd, Nat.reduceSub, Nat.reduceLT, Nat.reduceLeDiff, Nat.reduceEqDiff, Bool.not_true, Bool.not_false, beq_self_eq_true, true_and, and_true, reduceIte, Bool.false_eq_true, T3, T4, T9, T24, cok16, cok37, cok52, cok88, cok90, Try.results54]
      | simp (disch := first | omega | (simp only [LN_]; omega)) only [wrap_id, getI]
      | with_reducible first | refine andA (hb := ?_) | refine y_load (hK := ?_) | refine cQ (rWord isR_mk) ?_ | refine cD (rWord ?_) | refine cQ (rUri ?_ isR_mk) ?_ | refine cD (rUri ?_ ?_) | refine cQ (rTextOf ?_ isR_mk) ?_ | refine cD (rTextOf ?_ ?_) | refine cQ (rPast ?_ isR_mk) ?_ | refine cD (rPast ?_ ?_) | refine cQ (rTail ?_ isR_mk) ?_ | refine cD (rTail ?_ ?_)
      | ((with_reducible refine AW_drawM (id := 19) 14 mixed ?_ ?_); kernel_rfl)
      | (with_reducible refine dmQ_mk ?_)
      | with_reducible refine y_nil (hK := ?_)
      | (with_reducible refine nilTC_split (fun h => ?_) (fun h bn => ?_) <;> (try simp only [List.length_map] at h))
      | ((with_reducible first | refine grd_cases (fun h => ?_) (fun h => ?_) | refine condC_split (fun h => ?_) (fun h => ?_)) <;> (try simp only [h]) <;> (try simp only [NR_, Bool.not_true, Bool.not_false, Bool.not_eq_eq_eq_not, ne_eq] at h))
      | omega | (simp only [LN_]; omega))
    all_goals first
      | exact ⟨k + 1, St_le_same (by repeat (first | exact trivial | refine ⟨le_rfl, ?_⟩ | refine ⟨le_any, ?_⟩ | refine ⟨le_ro, ?_⟩ | refine ⟨le_nil (by decide), ?_⟩ | refine ⟨le_wrap (by omega) (by omega) (by omega), ?_⟩ | refine ⟨le_int (by omega), ?_⟩ | refine ⟨le_eq (by simp), ?_⟩)) id, cnt_step hk (by rw [List.length_drop]; omega) (by rw [getD_dropI]; assumption), by omega⟩
      | (have e := cnt_stop hk (by first | exact .inl (by rw [List.length_drop]; omega) | exact .inr (by rw [getD_dropI]; assumption))
         subst e
         exact ⟨(), St_le_same (by repeat (first | exact trivial | refine ⟨le_rfl, ?_⟩ | refine ⟨le_any, ?_⟩ | refine ⟨le_ro, ?_⟩ | refine ⟨le_nil (by decide), ?_⟩ | refine ⟨le_wrap (by omega) (by omega) (by omega), ?_⟩ | refine ⟨le_int (by omega), ?_⟩ | refine ⟨le_eq (by simp), ?_⟩)) id⟩)
  rintro _ _
  generalize hgw : cnt wordI (l.drop (p + 1)) = w at *
  by_cases hwz : atI l (p + 1 + w) 33 = false ∧ 0 < w
  · obtain ⟨ha, hw0⟩ := hwz
    have hpH : preH l p = p + 1 := by unfold preH; rw [hhn, if_neg (by rw [ha]; decide)]; omega
    have hcz : cnt blankI (l.drop (p + 1)) = 0 := by
      have h1 := cnt_in (p := wordI) (l := l.drop (p + 1)) (k := 0) (by omega)
      have h2 := cnt_out (p := blankI) (l := l.drop (p + 1))
      rcases Nat.eq_zero_or_pos (cnt blankI (l.drop (p + 1))) with h0 | h0
      · exact h0
      · have h3 := cnt_in (p := blankI) (l := l.drop (p + 1)) (k := 0) h0
        exfalso
        unfold wordI at h1; unfold blankI at h3
        have h1' := of_decide_eq_true h1
        have h3' := of_decide_eq_true h3
        omega
    have hpF : preF l p = p + 1 := by unfold preF; rw [hpH, hcz]
    rw [retV_no (.inr (by simp [hpH, hpF]))] at hK
    have ha' := atI_no ha
    repeat' (first
      | with_reducible first | refine AW_seqA (AW_block ?_) | refine AW_block ?_ | refine cut_seqloop ?_ | refine cut_loop ?_ | refine AW_seqA (AW_seqA ?_) | refine AW_seq ?_ | refine AW_runReg ?_ | refine AW_runCond ?_ | refine AW_runExit ?_ | refine AW_runRet ?_ | refine AW_runSkip ?_ | refine AW_runLabel ?_
      | simp only [WL, intF, strF, WM, Int.reduceToNat, ne_eq, reduceCtorEq, not_false_eq_true, Nat.reduceAdd, Nat.reduceSub, Nat.reduceLT, Nat.reduceLeDiff, Nat.reduceEqDiff, Bool.not_true, Bool.not_false, beq_self_eq_true, true_and, and_true, reduceIte, Bool.false_eq_true, T3, T4, T9, T24, cok16, cok37, cok52, cok88, cok90, Try.results54]
      | simp (disch := first | omega | (simp only [LN_]; omega)) only [wrap_id, getI]
      | with_reducible first | refine andA (hb := ?_) | refine y_load (hK := ?_) | refine cQ (rWord isR_mk) ?_ | refine cD (rWord ?_) | refine cQ (rUri ?_ isR_mk) ?_ | refine cD (rUri ?_ ?_) | refine cQ (rTextOf ?_ isR_mk) ?_ | refine cD (rTextOf ?_ ?_) | refine cQ (rPast ?_ isR_mk) ?_ | refine cD (rPast ?_ ?_) | refine cQ (rTail ?_ isR_mk) ?_ | refine cD (rTail ?_ ?_)
      | ((with_reducible refine AW_drawM (id := 19) 14 mixed ?_ ?_); kernel_rfl)
      | (with_reducible refine dmQ_mk ?_)
      | with_reducible refine y_nil (hK := ?_)
      | (with_reducible refine nilTC_split (fun h => ?_) (fun h bn => ?_) <;> (try simp only [List.length_map] at h))
      | ((with_reducible first | refine grd_cases (fun h => ?_) (fun h => ?_) | refine condC_split (fun h => ?_) (fun h => ?_)) <;> (try simp only [h]) <;> (try simp only [NR_, Bool.not_true, Bool.not_false, Bool.not_eq_eq_eq_not, ne_eq] at h))
      | omega | (simp only [LN_]; omega))
    all_goals first
      | exact leafL sub_rfl (leT_eq rfl) hK
      | (exfalso; omega)
      | trace_state
  have hpk : preH l p = if atI l (p + 1 + w) 33 then p + 1 + w + 1 else p + 1 + w := by
    unfold preH; rw [hhn]
    cases ha : atI l (p + 1 + w) 33
    · have : w = 0 := by
        rcases Nat.eq_zero_or_pos w with h | h
        · exact h
        · exact absurd ⟨ha, h⟩ hwz
      simp; omega
    · simp; omega
  repeat' (first
    | with_reducible first | refine cut_at (id := 8) ?_ | refine cut_unit (id := 8) ?_ | refine cut_one (id := 8) ?_ | refine AW_seqA (AW_block ?_) | refine AW_block ?_ | refine cut_seqloop ?_ | refine cut_loop ?_ | refine AW_seqA (AW_seqA ?_) | refine AW_seq ?_ | refine AW_runReg ?_ | refine AW_runCond ?_ | refine AW_runExit ?_ | refine AW_runRet ?_ | refine AW_runSkip ?_ | refine AW_runLabel ?_
    | simp only [WL, intF, strF, WM, Int.reduceToNat, ne_eq, reduceCtorEq, not_false_eq_true, Nat.reduceAdd, Nat.reduceSub, Nat.reduceLT, Nat.reduceLeDiff, Nat.reduceEqDiff, Bool.not_true, Bool.not_false, beq_self_eq_true, true_and, and_true, reduceIte, Bool.false_eq_true, T3, T4, T9, T24, cok16, cok37, cok52, cok88, cok90, Try.results54]
    | simp (disch := first | omega | (simp only [LN_]; omega)) only [wrap_id, getI]
    | with_reducible first | refine andA (hb := ?_) | refine y_load (hK := ?_) | refine cQ (rWord isR_mk) ?_ | refine cD (rWord ?_) | refine cQ (rUri ?_ isR_mk) ?_ | refine cD (rUri ?_ ?_) | refine cQ (rTextOf ?_ isR_mk) ?_ | refine cD (rTextOf ?_ ?_) | refine cQ (rPast ?_ isR_mk) ?_ | refine cD (rPast ?_ ?_) | refine cQ (rTail ?_ isR_mk) ?_ | refine cD (rTail ?_ ?_)
    | ((with_reducible refine AW_drawM (id := 19) 14 mixed ?_ ?_); kernel_rfl)
    | (with_reducible refine dmQ_mk ?_)
    | with_reducible refine y_nil (hK := ?_)
    | (with_reducible refine nilTC_split (fun h => ?_) (fun h bn => ?_) <;> (try simp only [List.length_map] at h))
    | ((with_reducible first | refine grd_cases (fun h => ?_) (fun h => ?_) | refine condC_split (fun h => ?_) (fun h => ?_)) <;> (try simp only [h]) <;> (try simp only [NR_, Bool.not_true, Bool.not_false, Bool.not_eq_eq_eq_not, ne_eq] at h))
    | omega | (simp only [LN_]; omega))
  refine midA (fun _ : Unit => ⟨(SI o l :: I p :: .any :: .any :: .any :: .any :: .any :: .any :: I m :: I (preH l p : Nat) :: .any :: .any :: .any :: .any :: .any :: .any :: .any :: .any :: .any :: .any :: .any :: .any :: .any :: .any :: .any :: .any :: .any :: .any :: .any :: .any :: .any :: .any :: .any :: .any :: .any :: .any :: .any :: .any :: .any :: .any :: .any :: .any :: .any :: .any :: .any :: .any :: .any :: .any :: .any :: .any :: .any :: .any :: .any :: .any :: .any :: .any :: .any :: .any :: .any :: .any :: .any :: .any :: .any :: .any :: .any :: .any :: .any :: .any :: .any :: .any :: .any :: .any :: .any :: .any :: .any :: .any :: .any :: .any :: .any :: .any :: .any :: .any :: .any :: .any :: .any :: .any :: .any :: .any :: .any :: .any :: .any :: .any :: .any :: .any :: .any :: .any :: .any :: .any :: .any :: .any :: .any :: .any :: .any :: .any :: .any :: .any :: .any :: .any :: []), σ, true, []⟩) (fun _ => True) ?_ ?_
  · skip
    repeat' (first
      | with_reducible first | refine AW_seqA (AW_block ?_) | refine AW_block ?_ | refine cut_seqloop ?_ | refine cut_loop ?_ | refine AW_seqA (AW_seqA ?_) | refine AW_seq ?_ | refine AW_runReg ?_ | refine AW_runCond ?_ | refine AW_runExit ?_ | refine AW_runRet ?_ | refine AW_runSkip ?_ | refine AW_runLabel ?_
      | simp only [WL, intF, strF, WM, Int.reduceToNat, ne_eq, reduceCtorEq, not_false_eq_true, Nat.reduceAdd, Nat.reduceSub, Nat.reduceLT, Nat.reduceLeDiff, Nat.reduceEqDiff, Bool.not_true, Bool.not_false, beq_self_eq_true, true_and, and_true, reduceIte, Bool.false_eq_true, T3, T4, T9, T24, cok16, cok37, cok52, cok88, cok90, Try.results54]
      | simp (disch := first | omega | (simp only [LN_]; omega)) only [wrap_id, getI]
      | with_reducible first | refine andA (hb := ?_) | refine y_load (hK := ?_) | refine cQ (rWord isR_mk) ?_ | refine cD (rWord ?_) | refine cQ (rUri ?_ isR_mk) ?_ | refine cD (rUri ?_ ?_) | refine cQ (rTextOf ?_ isR_mk) ?_ | refine cD (rTextOf ?_ ?_) | refine cQ (rPast ?_ isR_mk) ?_ | refine cD (rPast ?_ ?_) | refine cQ (rTail ?_ isR_mk) ?_ | refine cD (rTail ?_ ?_)
      | ((with_reducible refine AW_drawM (id := 19) 14 mixed ?_ ?_); kernel_rfl)
      | (with_reducible refine dmQ_mk ?_)
      | with_reducible refine y_nil (hK := ?_)
      | (with_reducible refine nilTC_split (fun h => ?_) (fun h bn => ?_) <;> (try simp only [List.length_map] at h))
      | ((with_reducible first | refine grd_cases (fun h => ?_) (fun h => ?_) | refine condC_split (fun h => ?_) (fun h => ?_)) <;> (try simp only [h]) <;> (try simp only [NR_, Bool.not_true, Bool.not_false, Bool.not_eq_eq_eq_not, ne_eq] at h))
      | omega | (simp only [LN_]; omega))
    all_goals first
      | exact ⟨(), St_le_same (by rw [hpk, if_pos (atI_mk (by omega) (by assumption))]; repeat (first | exact trivial | refine ⟨le_rfl, ?_⟩ | refine ⟨le_any, ?_⟩ | refine ⟨le_ro, ?_⟩ | refine ⟨le_nil (by decide), ?_⟩ | refine ⟨le_wrap (by omega) (by omega) (by omega), ?_⟩ | refine ⟨le_int (by omega), ?_⟩ | refine ⟨le_eq (by simp), ?_⟩)) id⟩
      | exact ⟨(), St_le_same (by rw [hpk, if_neg (by rw [atI_mk0 (by first | exact .inl (by omega) | exact .inr (by assumption))]; decide)]; repeat (first | exact trivial | refine ⟨le_rfl, ?_⟩ | refine ⟨le_any, ?_⟩ | refine ⟨le_ro, ?_⟩ | refine ⟨le_nil (by decide), ?_⟩ | refine ⟨le_wrap (by omega) (by omega) (by omega), ?_⟩ | refine ⟨le_int (by omega), ?_⟩ | refine ⟨le_eq (by simp), ?_⟩)) id⟩
      | (exfalso
         exact hwz ⟨atI_mk0 (by first | exact .inl (by omega) | exact .inr (by assumption)), by omega⟩)
      | trace_state
  rintro _ _
  have em2 : ((l.drop (preH l p)).takeWhile blankI).length = cnt blankI (l.drop (preH l p)) := rfl
  have eF : ((preH l p : Nat) : Int) + ((cnt blankI (l.drop (preH l p)) : Nat) : Int) = ((preF l p : Nat) : Int) := by unfold preF; omega
  have eB : cnt blankI (l.drop (preH l p)) = preF l p - preH l p := by unfold preF; omega
  rw [eB] at em2 eF
  repeat' (first
    | with_reducible first | refine AW_seqA (AW_block ?_) | refine AW_block ?_ | refine cut_seqloop ?_ | refine cut_loop ?_ | refine AW_seqA (AW_seqA ?_) | refine AW_seq ?_ | refine AW_runReg ?_ | refine AW_runCond ?_ | refine AW_runExit ?_ | refine AW_runRet ?_ | refine AW_runSkip ?_ | refine AW_runLabel ?_
    | simp only [WL, intF, strF, WM, Int.reduceToNat, ne_eq, reduceCtorEq, not_false_eq_true, Nat.reduceAdd, Nat.reduceSub, Nat.reduceLT, Nat.reduceLeDiff, Nat.reduceEqDiff, Bool.not_true, Bool.not_false, beq_self_eq_true, true_and, and_true, reduceIte, Bool.false_eq_true, T3, T4, T9, T24, cok16, cok37, cok52, cok88, cok90, Try.results54, em2, eF]
    | simp (disch := first | omega | (simp only [LN_]; omega)) only [wrap_id, getI]
    | with_reducible first | refine andA (hb := ?_) | refine y_load (hK := ?_) | refine cQ (rWord isR_mk) ?_ | refine cD (rWord ?_) | refine cQ (rUri ?_ isR_mk) ?_ | refine cD (rUri ?_ ?_) | refine cQ (rTextOf ?_ isR_mk) ?_ | refine cD (rTextOf ?_ ?_) | refine cQ (rPast ?_ isR_mk) ?_ | refine cD (rPast ?_ ?_) | refine cQ (rTail ?_ isR_mk) ?_ | refine cD (rTail ?_ ?_)
    | ((with_reducible refine AW_drawM (id := 19) 14 mixed ?_ ?_); kernel_rfl)
    | (with_reducible refine dmQ_mk ?_)
    | with_reducible refine y_nil (hK := ?_)
    | (with_reducible refine nilTC_split (fun h => ?_) (fun h bn => ?_) <;> (try simp only [List.length_map] at h))
    | ((with_reducible first | refine grd_cases (fun h => ?_) (fun h => ?_) | refine condC_split (fun h => ?_) (fun h => ?_)) <;> (try simp only [h]) <;> (try simp only [NR_, Bool.not_true, Bool.not_false, Bool.not_eq_eq_eq_not, ne_eq] at h))
    | omega | (simp only [LN_]; omega))
  refine loopA (fun k : Nat => ⟨(SI o l :: I p :: .any :: .any :: .any :: .any :: .any :: .any :: I m :: I (preH l p : Nat) :: I (preF l p - preH l p : Nat) :: I (preF l p : Nat) :: I k :: .any :: .any :: .any :: .any :: .any :: .any :: .any :: .any :: .any :: .any :: .any :: .any :: .any :: .any :: .any :: .any :: .any :: .any :: .any :: .any :: .any :: .any :: .any :: .any :: .any :: .any :: .any :: .any :: .any :: .any :: .any :: .any :: .any :: .any :: .any :: .any :: .any :: .any :: .any :: .any :: .any :: .any :: .any :: .any :: .any :: .any :: .any :: .any :: .any :: .any :: .any :: .any :: .any :: .any :: .any :: .any :: .any :: .any :: .any :: .any :: .any :: .any :: .any :: .any :: .any :: .any :: .any :: .any :: .any :: .any :: .any :: .any :: .any :: .any :: .any :: .any :: .any :: .any :: .any :: .any :: .any :: .any :: .any :: .any :: .any :: .any :: .any :: .any :: .any :: .any :: .any :: .any :: .any :: .any :: .any :: []), σ, true, []⟩) (fun k => preF l p ≤ k ∧ k ≤ l.length ∧ preF l p + preU l p = k + uriN anyC (l.drop k)) (fun k => l.length - k) (preF l p) (St_le_same (by repeat (first | exact trivial | refine ⟨le_rfl, ?_⟩ | refine ⟨le_any, ?_⟩ | refine ⟨le_ro, ?_⟩ | refine ⟨le_nil (by decide), ?_⟩ | refine ⟨le_wrap (by omega) (by omega) (by omega), ?_⟩ | refine ⟨le_int (by omega), ?_⟩ | refine ⟨le_eq (by simp), ?_⟩)) id) ⟨Nat.le_refl _, by omega, rfl⟩ ?_
  rintro k ⟨hk1, hk2, hk3⟩
  have hsn := signN_drop_le (l := l) (i := k)
  by_cases hz : signN (l.drop k) = 0
  · rw [uriN_no (l := l.drop k) (.inl hz), Nat.add_zero] at hk3
    rw [hk3] at hK
    have hkr : ∀ b : Bool, (decide (preH l p < preF l p) && (decide (0 < preU l p) && tailI (l.drop k))) = b → K (.ret (retV litT m (textI ((l.take (preH l p)).drop p), textI ((l.take k).drop (preF l p)), b))) σ := fun b h => by rw [← h]; exact hK
    by_cases hq : preH l p < preF l p ∧ 0 < preU l p ∧ tailI (l.drop k) = true
    · have hK2 := hkr true (by simp [hq])
      rw [retV_yes hm0 rfl] at hK2
      have ht := hq.2.2
      repeat' (first
        | with_reducible first | refine AW_seqA (AW_block ?_) | refine AW_block ?_ | refine cut_seqloop ?_ | refine cut_loop ?_ | refine AW_seqA (AW_seqA ?_) | refine AW_seq ?_ | refine AW_runReg ?_ | refine AW_runCond ?_ | refine AW_runExit ?_ | refine AW_runRet ?_ | refine AW_runSkip ?_ | refine AW_runLabel ?_
        | simp only [WL, intF, strF, WM, Int.reduceToNat, ne_eq, reduceCtorEq, not_false_eq_true, Nat.reduceAdd, Nat.reduceSub, Nat.reduceLT, Nat.reduceLeDiff, Nat.reduceEqDiff, Bool.not_true, Bool.not_false, beq_self_eq_true, true_and, and_true, reduceIte, Bool.false_eq_true, T3, T4, T9, T24, cok16, cok37, cok52, cok88, cok90, Try.results54, hz, ht]
        | simp (disch := first | omega | (simp only [LN_]; omega)) only [wrap_id, getI]
        | with_reducible first | refine andA (hb := ?_) | refine y_load (hK := ?_) | refine cQ (rWord isR_mk) ?_ | refine cD (rWord ?_) | refine cQ (rUri ?_ isR_mk) ?_ | refine cD (rUri ?_ ?_) | refine cQ (rTextOf ?_ isR_mk) ?_ | refine cD (rTextOf ?_ ?_) | refine cQ (rPast ?_ isR_mk) ?_ | refine cD (rPast ?_ ?_) | refine cQ (rTail ?_ isR_mk) ?_ | refine cD (rTail ?_ ?_)
        | ((with_reducible refine AW_drawM (id := 19) 14 mixed ?_ ?_); kernel_rfl)
        | (with_reducible refine dmQ_mk ?_)
        | with_reducible refine y_nil (hK := ?_)
        | (with_reducible refine nilTC_split (fun h => ?_) (fun h bn => ?_) <;> (try simp only [List.length_map] at h))
        | ((with_reducible first | refine grd_cases (fun h => ?_) (fun h => ?_) | refine condC_split (fun h => ?_) (fun h => ?_)) <;> (try simp only [h]) <;> (try simp only [NR_, Bool.not_true, Bool.not_false, Bool.not_eq_eq_eq_not, ne_eq] at h))
        | omega | (simp only [LN_]; omega))
      all_goals first
        | exact leafL sub_rfl (leT_eq rfl) hK2
        | (exfalso; omega)
        | trace_state
    · have hK2 := hkr false (by
        rw [Bool.eq_false_iff]
        intro h
        simp only [Bool.and_eq_true, decide_eq_true_eq] at h
        exact hq h)
      rw [retV_no (.inr rfl)] at hK2
      repeat' (first
        | with_reducible first | refine AW_seqA (AW_block ?_) | refine AW_block ?_ | refine cut_seqloop ?_ | refine cut_loop ?_ | refine AW_seqA (AW_seqA ?_) | refine AW_seq ?_ | refine AW_runReg ?_ | refine AW_runCond ?_ | refine AW_runExit ?_ | refine AW_runRet ?_ | refine AW_runSkip ?_ | refine AW_runLabel ?_
        | simp only [WL, intF, strF, WM, Int.reduceToNat, ne_eq, reduceCtorEq, not_false_eq_true, Nat.reduceAdd, Nat.reduceSub, Nat.reduceLT, Nat.reduceLeDiff, Nat.reduceEqDiff, Bool.not_true, Bool.not_false, beq_self_eq_true, true_and, and_true, reduceIte, Bool.false_eq_true, T3, T4, T9, T24, cok16, cok37, cok52, cok88, cok90, Try.results54, hz]
        | simp (disch := first | omega | (simp only [LN_]; omega)) only [wrap_id, getI]
        | with_reducible first | refine andA (hb := ?_) | refine y_load (hK := ?_) | refine cQ (rWord isR_mk) ?_ | refine cD (rWord ?_) | refine cQ (rUri ?_ isR_mk) ?_ | refine cD (rUri ?_ ?_) | refine cQ (rTextOf ?_ isR_mk) ?_ | refine cD (rTextOf ?_ ?_) | refine cQ (rPast ?_ isR_mk) ?_ | refine cD (rPast ?_ ?_) | refine cQ (rTail ?_ isR_mk) ?_ | refine cD (rTail ?_ ?_)
        | ((with_reducible refine AW_drawM (id := 19) 14 mixed ?_ ?_); kernel_rfl)
        | (with_reducible refine dmQ_mk ?_)
        | with_reducible refine y_nil (hK := ?_)
        | (with_reducible refine nilTC_split (fun h => ?_) (fun h bn => ?_) <;> (try simp only [List.length_map] at h))
        | ((with_reducible first | refine grd_cases (fun h => ?_) (fun h => ?_) | refine condC_split (fun h => ?_) (fun h => ?_)) <;> (try simp only [h]) <;> (try simp only [NR_, Bool.not_true, Bool.not_false, Bool.not_eq_eq_eq_not, ne_eq] at h))
        | omega | (simp only [LN_]; omega))
      all_goals first
        | exact leafL sub_rfl (leT_eq rfl) hK2
        | (exfalso; omega)
        | (exfalso; exact hq ⟨by omega, by omega, by assumption⟩)
        | trace_state
  · rw [uriN_yes hz rfl, List.drop_drop] at hk3
    repeat' (first
      | with_reducible first | refine AW_seqA (AW_block ?_) | refine AW_block ?_ | refine cut_seqloop ?_ | refine cut_loop ?_ | refine AW_seqA (AW_seqA ?_) | refine AW_seq ?_ | refine AW_runReg ?_ | refine AW_runCond ?_ | refine AW_runExit ?_ | refine AW_runRet ?_ | refine AW_runSkip ?_ | refine AW_runLabel ?_
      | simp only [WL, intF, strF, WM, Int.reduceToNat, ne_eq, reduceCtorEq, not_false_eq_true, Nat.reduceAdd, Nat.reduceSub, Nat.reduceLT, Nat.reduceLeDiff, Nat.reduceEqDiff, Bool.not_true, Bool.not_false, beq_self_eq_true, true_and, and_true, reduceIte, Bool.false_eq_true, T3, T4, T9, T24, cok16, cok37, cok52, cok88, cok90, Try.results54]
      | simp (disch := first | omega | (simp only [LN_]; omega)) only [wrap_id, getI]
      | with_reducible first | refine andA (hb := ?_) | refine y_load (hK := ?_) | refine cQ (rWord isR_mk) ?_ | refine cD (rWord ?_) | refine cQ (rUri ?_ isR_mk) ?_ | refine cD (rUri ?_ ?_) | refine cQ (rTextOf ?_ isR_mk) ?_ | refine cD (rTextOf ?_ ?_) | refine cQ (rPast ?_ isR_mk) ?_ | refine cD (rPast ?_ ?_) | refine cQ (rTail ?_ isR_mk) ?_ | refine cD (rTail ?_ ?_)
      | ((with_reducible refine AW_drawM (id := 19) 14 mixed ?_ ?_); kernel_rfl)
      | (with_reducible refine dmQ_mk ?_)
      | with_reducible refine y_nil (hK := ?_)
      | (with_reducible refine nilTC_split (fun h => ?_) (fun h bn => ?_) <;> (try simp only [List.length_map] at h))
      | ((with_reducible first | refine grd_cases (fun h => ?_) (fun h => ?_) | refine condC_split (fun h => ?_) (fun h => ?_)) <;> (try simp only [h]) <;> (try simp only [NR_, Bool.not_true, Bool.not_false, Bool.not_eq_eq_eq_not, ne_eq] at h))
      | omega | (simp only [LN_]; omega))
    all_goals first
      | exact ⟨k + signN (l.drop k), St_le_same (by repeat (first | exact trivial | refine ⟨le_rfl, ?_⟩ | refine ⟨le_any, ?_⟩ | refine ⟨le_ro, ?_⟩ | refine ⟨le_nil (by decide), ?_⟩ | refine ⟨le_wrap (by omega) (by omega) (by omega), ?_⟩ | refine ⟨le_int (by omega), ?_⟩ | refine ⟨le_eq (by simp), ?_⟩)) id, ⟨by omega, by omega, by omega⟩, by omega⟩
      | (exfalso; omega)
      | trace_state

-- marginaliaref1.Directive
set_option maxHeartbeats 8000000 in
theorem rDirective {l : List Int} (hl : l.length ≤ 1000000000) (hK : K (.ret (.tup [.raw (.string (dirI l).1), .raw (.string (dirI l).2.1), .raw (.string (dirI l).2.2.1), B (dirI l).2.2.2])) σ) : ACallF κ Try.prog 20 [SI o l] σ K := by
  unfold dirI at hK
  cases h0 : atI l 0 37
  · rw [if_pos h0] at hK
    have h0' := atI_no h0
    refine ACallF.dropL (ACallF_intro Try.func20 rfl ?_)
    simp only [Try.ntmps20]
    repeat' (first
      | simp only [WL, intF, strF, WM, Int.reduceToNat, ne_eq, reduceCtorEq, not_false_eq_true, Nat.reduceAdd, Nat.reduceSub, Nat.reduceLT, Nat.reduceLeDiff, Nat.reduceEqDiff, Bool.not_true, Bool.not_false, beq_self_eq_true, true_and, and_true, reduceIte, Bool.false_eq_true, T3, T4, T9, T24, cok51, cok52, cok53, cok54, cok55, Try.results20]
      | simp (disch := first | omega | (simp only [LN_]; omega)) only [wrap_id, getI]
      | with_reducible first | refine andA (hb := ?_) | refine y_load (hK := ?_) | refine cD (rName ?_) | refine cD (rTextOf ?_ ?_) | refine cD (rVersion ?_ ?_ ?_) | refine cD (rPrefix ?_ ?_ ?_) | refine cD (rBlank ?_)
      | with_reducible refine y_nil (hK := ?_)
      | (with_reducible refine nilTC_split (fun h => ?_) (fun h bn => ?_) <;> (try simp only [List.length_map] at h))
      | ((with_reducible first | refine grd_cases (fun h => ?_) (fun h => ?_) | refine condC_split (fun h => ?_) (fun h => ?_)) <;> (try simp only [h]) <;> (try simp only [NR_, Bool.not_true, Bool.not_false, Bool.not_eq_eq_eq_not, ne_eq] at h))
      | omega | (simp only [LN_]; omega))
    all_goals first
      | exact leafL sub_rfl (leT_eq rfl) hK
      | (exfalso; omega)
  rw [if_neg (by rw [h0]; decide)] at hK
  obtain ⟨hlt, h37⟩ := atI_lt h0
  have hn := dirN_le hlt
  have hm := dirM_le l
  have hn1 : 1 ≤ dirN l := by unfold dirN; omega
  refine ACallF.dropL (ACallF_introA Try.func20 rfl ?_)
  simp only [Try.ntmps20]
  repeat' (first
    | with_reducible first | refine cut_blk (id := 0) ?_ | refine AW_seqA (AW_block ?_) | refine AW_block ?_ | refine cut_seqloop ?_ | refine cut_loop ?_ | refine AW_seqA (AW_seqA ?_) | refine AW_seq ?_ | refine AW_runReg ?_ | refine AW_runCond ?_ | refine AW_runExit ?_ | refine AW_runRet ?_ | refine AW_runSkip ?_ | refine AW_runLabel ?_
    | simp only [WL, intF, strF, WM, Int.reduceToNat, ne_eq, reduceCtorEq, not_false_eq_true, Nat.reduceAdd, Nat.reduceSub, Nat.reduceLT, Nat.reduceLeDiff, Nat.reduceEqDiff, Bool.not_true, Bool.not_false, beq_self_eq_true, true_and, and_true, reduceIte, Bool.false_eq_true, T3, T4, T9, T24, cok51, cok52, cok53, cok54, cok55, Try.results20]
    | simp (disch := first | omega | (simp only [LN_]; omega)) only [wrap_id, getI]
    | with_reducible first | refine andA (hb := ?_) | refine y_load (hK := ?_) | refine cD (rName ?_) | refine cD (rTextOf ?_ ?_) | refine cD (rVersion ?_ ?_ ?_) | refine cD (rPrefix ?_ ?_ ?_) | refine cD (rBlank ?_)
    | with_reducible refine y_nil (hK := ?_)
    | (with_reducible refine nilTC_split (fun h => ?_) (fun h bn => ?_) <;> (try simp only [List.length_map] at h))
    | ((with_reducible first | refine grd_cases (fun h => ?_) (fun h => ?_) | refine condC_split (fun h => ?_) (fun h => ?_)) <;> (try simp only [h]) <;> (try simp only [NR_, Bool.not_true, Bool.not_false, Bool.not_eq_eq_eq_not, ne_eq] at h))
    | omega | (simp only [LN_]; omega))
  all_goals first
    | (exfalso; omega)
    | skip
  have hcn := cnt_le nameI (l.drop 1)
  rw [List.length_drop] at hcn
  refine midA (fun _ : Unit => ⟨(SI o l :: .any :: .any :: .any :: .any :: .any :: I (dirN l) :: .any :: .any :: .any :: .any :: .any :: .any :: .any :: .any :: .any :: .any :: .any :: .any :: .any :: .any :: .any :: .any :: .any :: .any :: .any :: .any :: .any :: .any :: .any :: .any :: .any :: .any :: .any :: .any :: .any :: .any :: .any :: .any :: .any :: .any :: .any :: .any :: .any :: .any :: .any :: .any :: .any :: .any :: .any :: .any :: .any :: .any :: .any :: .any :: .any :: .any :: .any :: .any :: .any :: .any :: .any :: .any :: .any :: .any :: .any :: .any :: .any :: []), σ, true, []⟩) (fun _ => True) ?_ ?_
  · skip
    repeat' (first
      | with_reducible first | refine AW_seqA (AW_block ?_) | refine AW_block ?_ | refine cut_seqloop ?_ | refine cut_loop ?_ | refine AW_seqA (AW_seqA ?_) | refine AW_seq ?_ | refine AW_runReg ?_ | refine AW_runCond ?_ | refine AW_runExit ?_ | refine AW_runRet ?_ | refine AW_runSkip ?_ | refine AW_runLabel ?_
      | simp only [WL, intF, strF, WM, Int.reduceToNat, ne_eq, reduceCtorEq, not_false_eq_true, Nat.reduceAdd, Nat.reduceSub, Nat.reduceLT, Nat.reduceLeDiff, Nat.reduceEqDiff, Bool.not_true, Bool.not_false, beq_self_eq_true, true_and, and_true, reduceIte, Bool.false_eq_true, T3, T4, T9, T24, cok51, cok52, cok53, cok54, cok55, Try.results20]
      | simp (disch := first | omega | (simp only [LN_]; omega)) only [wrap_id, getI]
      | with_reducible first | refine andA (hb := ?_) | refine y_load (hK := ?_) | refine cD (rName ?_) | refine cD (rTextOf ?_ ?_) | refine cD (rVersion ?_ ?_ ?_) | refine cD (rPrefix ?_ ?_ ?_) | refine cD (rBlank ?_)
      | with_reducible refine y_nil (hK := ?_)
      | (with_reducible refine nilTC_split (fun h => ?_) (fun h bn => ?_) <;> (try simp only [List.length_map] at h))
      | ((with_reducible first | refine grd_cases (fun h => ?_) (fun h => ?_) | refine condC_split (fun h => ?_) (fun h => ?_)) <;> (try simp only [h]) <;> (try simp only [NR_, Bool.not_true, Bool.not_false, Bool.not_eq_eq_eq_not, ne_eq] at h))
      | omega | (simp only [LN_]; omega))
    refine loopA (fun k : Nat => ⟨(SI o l :: .any :: .any :: .any :: .any :: .any :: I (1 + k : Nat) :: .any :: .any :: .any :: .any :: .any :: .any :: .any :: .any :: .any :: .any :: .any :: .any :: .any :: .any :: .any :: .any :: .any :: .any :: .any :: .any :: .any :: .any :: .any :: .any :: .any :: .any :: .any :: .any :: .any :: .any :: .any :: .any :: .any :: .any :: .any :: .any :: .any :: .any :: .any :: .any :: .any :: .any :: .any :: .any :: .any :: .any :: .any :: .any :: .any :: .any :: .any :: .any :: .any :: .any :: .any :: .any :: .any :: .any :: .any :: .any :: .any :: []), σ, true, []⟩) (fun k => k ≤ cnt nameI (l.drop 1)) (fun k => l.length - k) 0 (St_le_same (by repeat (first | exact trivial | refine ⟨le_rfl, ?_⟩ | refine ⟨le_any, ?_⟩ | refine ⟨le_ro, ?_⟩ | refine ⟨le_nil (by decide), ?_⟩ | refine ⟨le_wrap (by omega) (by omega) (by omega), ?_⟩ | refine ⟨le_int (by omega), ?_⟩ | refine ⟨le_eq (by simp), ?_⟩)) id) (Nat.zero_le _) ?_
    intro k hk
    repeat' (first
      | with_reducible first | refine AW_seqA (AW_block ?_) | refine AW_block ?_ | refine cut_seqloop ?_ | refine cut_loop ?_ | refine AW_seqA (AW_seqA ?_) | refine AW_seq ?_ | refine AW_runReg ?_ | refine AW_runCond ?_ | refine AW_runExit ?_ | refine AW_runRet ?_ | refine AW_runSkip ?_ | refine AW_runLabel ?_
      | simp only [WL, intF, strF, WM, Int.reduceToNat, ne_eq, reduceCtorEq, not_false_eq_true, Nat.reduceAdd, Nat.reduceSub, Nat.reduceLT, Nat.reduceLeDiff, Nat.reduceEqDiff, Bool.not_true, Bool.not_false, beq_self_eq_true, true_and, and_true, reduceIte, Bool.false_eq_true, T3, T4, T9, T24, cok51, cok52, cok53, cok54, cok55, Try.results20]
      | simp (disch := first | omega | (simp only [LN_]; omega)) only [wrap_id, getI]
      | with_reducible first | refine andA (hb := ?_) | refine y_load (hK := ?_) | refine cD (rName ?_) | refine cD (rTextOf ?_ ?_) | refine cD (rVersion ?_ ?_ ?_) | refine cD (rPrefix ?_ ?_ ?_) | refine cD (rBlank ?_)
      | with_reducible refine y_nil (hK := ?_)
      | (with_reducible refine nilTC_split (fun h => ?_) (fun h bn => ?_) <;> (try simp only [List.length_map] at h))
      | ((with_reducible first | refine grd_cases (fun h => ?_) (fun h => ?_) | refine condC_split (fun h => ?_) (fun h => ?_)) <;> (try simp only [h]) <;> (try simp only [NR_, Bool.not_true, Bool.not_false, Bool.not_eq_eq_eq_not, ne_eq] at h))
      | omega | (simp only [LN_]; omega))
    all_goals first
      | exact ⟨k + 1, St_le_same (by repeat (first | exact trivial | refine ⟨le_rfl, ?_⟩ | refine ⟨le_any, ?_⟩ | refine ⟨le_ro, ?_⟩ | refine ⟨le_nil (by decide), ?_⟩ | refine ⟨le_wrap (by omega) (by omega) (by omega), ?_⟩ | refine ⟨le_int (by omega), ?_⟩ | refine ⟨le_eq (by simp), ?_⟩)) id, cnt_step hk (by rw [List.length_drop]; omega) (by rw [getD_dropI]; assumption), by omega⟩
      | (have e := cnt_stop hk (by first | exact .inl (by rw [List.length_drop]; omega) | exact .inr (by rw [getD_dropI]; assumption))
         subst e
         exact ⟨(), St_le_same (by unfold dirN; repeat (first | exact trivial | refine ⟨le_rfl, ?_⟩ | refine ⟨le_any, ?_⟩ | refine ⟨le_ro, ?_⟩ | refine ⟨le_nil (by decide), ?_⟩ | refine ⟨le_wrap (by omega) (by omega) (by omega), ?_⟩ | refine ⟨le_int (by omega), ?_⟩ | refine ⟨le_eq (by simp), ?_⟩)) id⟩)
      | trace_state
  rintro _ _
  have eT : textI ((l.take (dirN l)).drop 1) = dirT l := rfl
  have ev : cnt blankI (l.drop (dirN l)) = dirM l := rfl
  have qn : ((dirT l).toList == ({ data := #[] } : ByteArray).toList) = decide ((dirT l).toList = ({ data := #[] } : ByteArray).toList) := by rw [Bool.eq_iff_iff]; simp
  have rv : ∀ (K : Ret → List Res → Prop), K (.ret (retV litY (dirM l) (versP l (dirN l + dirM l)))) σ → ACallF κ Try.prog 53 [SI o l, I (dirN l)] σ K := fun K h => rVersion hl hn h
  have rp : ∀ (K : Ret → List Res → Prop), K (.ret (retV litT (dirM l) (preP l (dirN l + dirM l)))) σ → ACallF κ Try.prog 54 [SI o l, I (dirN l)] σ K := fun K h => rPrefix hl hn h
  by_cases hY : (dirT l).toList = litY.toList
  · rw [if_pos hY, bytes_inj hY] at hK
    have q1 : ((dirT l).toList == litY.toList) = true := by simp [hY]
    have q2 : ((dirT l).toList == ({ data := #[] } : ByteArray).toList) = false := by rw [hY]; decide +kernel
    by_cases hv : (versP l (dirN l + dirM l)).2.2 = true ∧ 0 < dirM l
    · rw [if_pos hv] at hK
      have eR := retV_yes (x := litY) (v := versP l (dirN l + dirM l)) hv.2 hv.1
      repeat' (first
        | with_reducible first | refine AW_seqA (AW_block ?_) | refine AW_block ?_ | refine cut_seqloop ?_ | refine cut_loop ?_ | refine AW_seqA (AW_seqA ?_) | refine AW_seq ?_ | refine AW_runReg ?_ | refine AW_runCond ?_ | refine AW_runExit ?_ | refine AW_runRet ?_ | refine AW_runSkip ?_ | refine AW_runLabel ?_
        | simp only [WL, intF, strF, WM, Int.reduceToNat, ne_eq, reduceCtorEq, not_false_eq_true, Nat.reduceAdd, Nat.reduceSub, Nat.reduceLT, Nat.reduceLeDiff, Nat.reduceEqDiff, Bool.not_true, Bool.not_false, beq_self_eq_true, true_and, and_true, reduceIte, Bool.false_eq_true, T3, T4, T9, T24, cok51, cok52, cok53, cok54, cok55, Try.results20, eT, q1, q2, eR]
        | simp (disch := first | omega | (simp only [LN_]; omega)) only [wrap_id, getI]
        | with_reducible first | refine andA (hb := ?_) | refine y_load (hK := ?_) | refine callD_mk (rv _ ?_) | refine callD_q (rv _ isR_mk) ?_ | refine cD (rName ?_) | refine cD (rTextOf ?_ ?_) | refine cD (rVersion ?_ ?_ ?_) | refine cD (rPrefix ?_ ?_ ?_) | refine cD (rBlank ?_)
        | with_reducible refine y_nil (hK := ?_)
        | (with_reducible refine nilTC_split (fun h => ?_) (fun h bn => ?_) <;> (try simp only [List.length_map] at h))
        | ((with_reducible first | refine grd_cases (fun h => ?_) (fun h => ?_) | refine condC_split (fun h => ?_) (fun h => ?_)) <;> (try simp only [h]) <;> (try simp only [NR_, Bool.not_true, Bool.not_false, Bool.not_eq_eq_eq_not, ne_eq] at h))
        | omega | (simp only [LN_]; omega))
      all_goals first
        | exact leafL sub_rfl (leT_eq rfl) hK
        | trace_state
    · rw [if_neg hv] at hK
      have eR : retV litY (dirM l) (versP l (dirN l + dirM l)) = noneV := by unfold retV; rw [if_neg hv]
      repeat' (first
        | with_reducible first | refine AW_seqA (AW_block ?_) | refine AW_block ?_ | refine cut_seqloop ?_ | refine cut_loop ?_ | refine AW_seqA (AW_seqA ?_) | refine AW_seq ?_ | refine AW_runReg ?_ | refine AW_runCond ?_ | refine AW_runExit ?_ | refine AW_runRet ?_ | refine AW_runSkip ?_ | refine AW_runLabel ?_
        | simp only [WL, intF, strF, WM, Int.reduceToNat, ne_eq, reduceCtorEq, not_false_eq_true, Nat.reduceAdd, Nat.reduceSub, Nat.reduceLT, Nat.reduceLeDiff, Nat.reduceEqDiff, Bool.not_true, Bool.not_false, beq_self_eq_true, true_and, and_true, reduceIte, Bool.false_eq_true, T3, T4, T9, T24, cok51, cok52, cok53, cok54, cok55, Try.results20, eT, q1, q2, eR, noneV]
        | simp (disch := first | omega | (simp only [LN_]; omega)) only [wrap_id, getI]
        | with_reducible first | refine andA (hb := ?_) | refine y_load (hK := ?_) | refine callD_mk (rv _ ?_) | refine callD_q (rv _ isR_mk) ?_ | refine cD (rName ?_) | refine cD (rTextOf ?_ ?_) | refine cD (rVersion ?_ ?_ ?_) | refine cD (rPrefix ?_ ?_ ?_) | refine cD (rBlank ?_)
        | with_reducible refine y_nil (hK := ?_)
        | (with_reducible refine nilTC_split (fun h => ?_) (fun h bn => ?_) <;> (try simp only [List.length_map] at h))
        | ((with_reducible first | refine grd_cases (fun h => ?_) (fun h => ?_) | refine condC_split (fun h => ?_) (fun h => ?_)) <;> (try simp only [h]) <;> (try simp only [NR_, Bool.not_true, Bool.not_false, Bool.not_eq_eq_eq_not, ne_eq] at h))
        | omega | (simp only [LN_]; omega))
      all_goals first
        | exact leafL sub_rfl (leT_eq rfl) hK
        | trace_state
  · have q1 : ((dirT l).toList == litY.toList) = false := by simpa using hY
    rw [if_neg hY] at hK
    by_cases hT : (dirT l).toList = litT.toList
    · rw [if_pos hT, bytes_inj hT] at hK
      have q3 : ((dirT l).toList == litT.toList) = true := by simp [hT]
      have q2 : ((dirT l).toList == ({ data := #[] } : ByteArray).toList) = false := by rw [hT]; decide +kernel
      by_cases hv : (preP l (dirN l + dirM l)).2.2 = true ∧ 0 < dirM l
      · rw [if_pos hv] at hK
        have eR := retV_yes (x := litT) (v := preP l (dirN l + dirM l)) hv.2 hv.1
        repeat' (first
          | with_reducible first | refine AW_seqA (AW_block ?_) | refine AW_block ?_ | refine cut_seqloop ?_ | refine cut_loop ?_ | refine AW_seqA (AW_seqA ?_) | refine AW_seq ?_ | refine AW_runReg ?_ | refine AW_runCond ?_ | refine AW_runExit ?_ | refine AW_runRet ?_ | refine AW_runSkip ?_ | refine AW_runLabel ?_
          | simp only [WL, intF, strF, WM, Int.reduceToNat, ne_eq, reduceCtorEq, not_false_eq_true, Nat.reduceAdd, Nat.reduceSub, Nat.reduceLT, Nat.reduceLeDiff, Nat.reduceEqDiff, Bool.not_true, Bool.not_false, beq_self_eq_true, true_and, and_true, reduceIte, Bool.false_eq_true, T3, T4, T9, T24, cok51, cok52, cok53, cok54, cok55, Try.results20, eT, q1, q2, q3, eR]
          | simp (disch := first | omega | (simp only [LN_]; omega)) only [wrap_id, getI]
          | with_reducible first | refine andA (hb := ?_) | refine y_load (hK := ?_) | refine callD_mk (rp _ ?_) | refine callD_q (rp _ isR_mk) ?_ | refine cD (rName ?_) | refine cD (rTextOf ?_ ?_) | refine cD (rVersion ?_ ?_ ?_) | refine cD (rPrefix ?_ ?_ ?_) | refine cD (rBlank ?_)
          | with_reducible refine y_nil (hK := ?_)
          | (with_reducible refine nilTC_split (fun h => ?_) (fun h bn => ?_) <;> (try simp only [List.length_map] at h))
          | ((with_reducible first | refine grd_cases (fun h => ?_) (fun h => ?_) | refine condC_split (fun h => ?_) (fun h => ?_)) <;> (try simp only [h]) <;> (try simp only [NR_, Bool.not_true, Bool.not_false, Bool.not_eq_eq_eq_not, ne_eq] at h))
          | omega | (simp only [LN_]; omega))
        all_goals first
          | exact leafL sub_rfl (leT_eq rfl) hK
          | trace_state
      · rw [if_neg hv] at hK
        have eR : retV litT (dirM l) (preP l (dirN l + dirM l)) = noneV := by unfold retV; rw [if_neg hv]
        repeat' (first
          | with_reducible first | refine AW_seqA (AW_block ?_) | refine AW_block ?_ | refine cut_seqloop ?_ | refine cut_loop ?_ | refine AW_seqA (AW_seqA ?_) | refine AW_seq ?_ | refine AW_runReg ?_ | refine AW_runCond ?_ | refine AW_runExit ?_ | refine AW_runRet ?_ | refine AW_runSkip ?_ | refine AW_runLabel ?_
          | simp only [WL, intF, strF, WM, Int.reduceToNat, ne_eq, reduceCtorEq, not_false_eq_true, Nat.reduceAdd, Nat.reduceSub, Nat.reduceLT, Nat.reduceLeDiff, Nat.reduceEqDiff, Bool.not_true, Bool.not_false, beq_self_eq_true, true_and, and_true, reduceIte, Bool.false_eq_true, T3, T4, T9, T24, cok51, cok52, cok53, cok54, cok55, Try.results20, eT, q1, q2, q3, eR, noneV]
          | simp (disch := first | omega | (simp only [LN_]; omega)) only [wrap_id, getI]
          | with_reducible first | refine andA (hb := ?_) | refine y_load (hK := ?_) | refine callD_mk (rp _ ?_) | refine callD_q (rp _ isR_mk) ?_ | refine cD (rName ?_) | refine cD (rTextOf ?_ ?_) | refine cD (rVersion ?_ ?_ ?_) | refine cD (rPrefix ?_ ?_ ?_) | refine cD (rBlank ?_)
          | with_reducible refine y_nil (hK := ?_)
          | (with_reducible refine nilTC_split (fun h => ?_) (fun h bn => ?_) <;> (try simp only [List.length_map] at h))
          | ((with_reducible first | refine grd_cases (fun h => ?_) (fun h => ?_) | refine condC_split (fun h => ?_) (fun h => ?_)) <;> (try simp only [h]) <;> (try simp only [NR_, Bool.not_true, Bool.not_false, Bool.not_eq_eq_eq_not, ne_eq] at h))
          | omega | (simp only [LN_]; omega))
        all_goals first
          | exact leafL sub_rfl (leT_eq rfl) hK
          | trace_state
    · have q3 : ((dirT l).toList == litT.toList) = false := by simpa using hT
      rw [if_neg hT] at hK
      have hb1 : dirN l < l.length → (0 < dirM l ↔ blankI (l.getD (dirN l) 0) = true) := fun h => by
        constructor
        · intro h2
          have := cnt_in (p := blankI) (l := l.drop (dirN l)) (k := 0) h2
          rwa [getD_dropI] at this
        · intro h2
          exact cnt_step (p := blankI) (l := l.drop (dirN l)) (k := 0) (Nat.zero_le _) (by rw [List.length_drop]; omega) (by rw [getD_dropI]; exact h2)
      repeat' (first
        | with_reducible first | refine AW_seqA (AW_block ?_) | refine AW_block ?_ | refine cut_seqloop ?_ | refine cut_loop ?_ | refine AW_seqA (AW_seqA ?_) | refine AW_seq ?_ | refine AW_runReg ?_ | refine AW_runCond ?_ | refine AW_runExit ?_ | refine AW_runRet ?_ | refine AW_runSkip ?_ | refine AW_runLabel ?_
        | simp only [WL, intF, strF, WM, Int.reduceToNat, ne_eq, reduceCtorEq, not_false_eq_true, Nat.reduceAdd, Nat.reduceSub, Nat.reduceLT, Nat.reduceLeDiff, Nat.reduceEqDiff, Bool.not_true, Bool.not_false, beq_self_eq_true, true_and, and_true, reduceIte, Bool.false_eq_true, T3, T4, T9, T24, cok51, cok52, cok53, cok54, cok55, Try.results20, eT, q1, q3]
        | simp (disch := first | omega | (simp only [LN_]; omega)) only [wrap_id, getI]
        | with_reducible first | refine andA (hb := ?_) | refine y_load (hK := ?_) | refine cD (rName ?_) | refine cD (rTextOf ?_ ?_) | refine cD (rVersion ?_ ?_ ?_) | refine cD (rPrefix ?_ ?_ ?_) | refine cD (rBlank ?_)
        | with_reducible refine y_nil (hK := ?_)
        | (with_reducible refine nilTC_split (fun h => ?_) (fun h bn => ?_) <;> (try simp only [List.length_map] at h))
        | ((with_reducible first | refine grd_cases (fun h => ?_) (fun h => ?_) | refine condC_split (fun h => ?_) (fun h => ?_)) <;> (try simp only [h]) <;> (try simp only [NR_, Bool.not_true, Bool.not_false, Bool.not_eq_eq_eq_not, ne_eq] at h))
        | omega | (simp only [LN_]; omega))
      all_goals first
        | (rw [if_neg (fun h => h.1 (by assumption))] at hK; exact leafL sub_rfl (leT_eq rfl) hK)
        | (rw [if_pos ⟨by assumption, .inr ((hb1 (by omega)).2 (by assumption))⟩] at hK; exact leafL sub_rfl (leT_eq rfl) hK)
        | (rw [if_pos ⟨by assumption, .inl (by omega)⟩] at hK; exact leafL sub_rfl (leT_eq rfl) hK)
        | (rw [if_neg (fun h => h.2.elim (fun h => by omega) (fun h => by have := (hb1 (by omega)).1 h; simp_all))] at hK; exact leafL sub_rfl (leT_eq rfl) hK)
        | trace_state
end Go.Proofs.Ytaeacialcbahnaa
