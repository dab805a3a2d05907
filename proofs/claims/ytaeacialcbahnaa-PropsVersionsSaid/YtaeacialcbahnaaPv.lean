/-
  The law PropsVersions.
-/
import Derived.Test.YtaeacialcbahnaaPl
import Derived.Test.YtaeacialcbahnaaSo
namespace Go.Proofs.Ytaeacialcbahnaa
open Go.Abs
set_option linter.unusedVariables false
set_option linter.unusedSimpArgs false
-- hb: 8000000
-- rd: 20000
variable {κ : Ctx} {σ : List Res} {K : Ret → List Res → Prop} {o o' : Option (Option (Nat × Nat))}

set_option maxHeartbeats 8000000 in
set_option maxRecDepth 20000 in
theorem lit_digits {d : Nat} (h : d < 10) : ({ data := #[48, 49, 50, 51, 52, 53, 54, 55, 56, 57] } : ByteArray).extract d (d + 1) = textI [48 + (d : Int)] := by
  rcases (show d = 0 ∨ d = 1 ∨ d = 2 ∨ d = 3 ∨ d = 4 ∨ d = 5 ∨ d = 6 ∨ d = 7 ∨ d = 8 ∨ d = 9 by omega) with rfl | rfl | rfl | rfl | rfl | rfl | rfl | rfl | rfl | rfl <;> decide +kernel
set_option maxHeartbeats 8000000 in
set_option maxRecDepth 20000 in
theorem lit_digits_size : ({ data := #[48, 49, 50, 51, 52, 53, 54, 55, 56, 57] } : ByteArray).size = 10 := by decide +kernel
set_option maxHeartbeats 8000000 in
set_option maxRecDepth 20000 in
theorem ten0 : ((10 : Int) = 0) = False := by simp
set_option maxHeartbeats 8000000 in
set_option maxRecDepth 20000 in
theorem tmod10 {n : Nat} : (n : Int).tmod 10 = ((n % 10 : Nat) : Int) := by rw [Int.tmod_eq_emod_of_nonneg (by omega)]; omega
set_option maxHeartbeats 8000000 in
set_option maxRecDepth 20000 in
theorem tdiv10 {n : Nat} : (n : Int).tdiv 10 = ((n / 10 : Nat) : Int) := by rw [Int.tdiv_eq_ediv_of_nonneg (by omega)]; omega

-- marginaliaref1.Digits
set_option maxHeartbeats 8000000 in
set_option maxRecDepth 20000 in
theorem rDigitsAll (n : Nat) : n ≤ 9223372036854775807 → ∀ {K : Ret → List Res → Prop} {σ : List Res}, K (.ret (.raw (.string (textI (digs n))))) σ → ACallF κ Try.prog 21 [I n] σ K := by
  induction n using Nat.strongRecOn with
  | _ n ih =>
    intro hn K σ hK
    have hd : n % 10 < 10 := by omega
    have e1 := lit_digits hd
    have e2 : (((n % 10 : Nat) : Int) + 1).toNat = n % 10 + 1 := by omega
    by_cases h10 : n < 10
    · rw [digs, if_pos h10] at hK
      refine ACallF.dropL (ACallF_intro Try.func21 rfl ?_)
      simp only [Try.ntmps21]
      repeat' (first
        | simp only [WL, intF, strF, WM, Int.reduceToNat, ne_eq, reduceCtorEq, not_false_eq_true, Nat.reduceAdd, Nat.reduceSub, Nat.reduceLT, Nat.reduceLeDiff, Nat.reduceEqDiff, Bool.not_true, Bool.not_false, beq_self_eq_true, true_and, and_true, reduceIte, Bool.false_eq_true, T3, T4, T9, cok21, Try.results21, ten0, tmod10, tdiv10, e1, e2, lit_digits_size]
        | simp (disch := first | omega | (simp only [LN_]; omega)) only [wrap_id, getI]
        | with_reducible first | refine andA (hb := ?_)
        | with_reducible refine y_nil (hK := ?_)
        | (with_reducible refine nilTC_split (fun h => ?_) (fun h bn => ?_) <;> (try simp only [List.length_map] at h))
        | ((with_reducible first | refine grd_cases (fun h => ?_) (fun h => ?_) | refine condC_split (fun h => ?_) (fun h => ?_)) <;> (try simp only [h]) <;> (try simp only [NR_, Bool.not_true, Bool.not_false, Bool.not_eq_eq_eq_not, ne_eq] at h))
        | omega | (simp only [LN_]; omega))
      exact leafL sub_rfl (leT_eq (by rw [Nat.mod_eq_of_lt h10])) hK
    · rw [digs, if_neg h10] at hK
      have ih2 : ∀ (K : Ret → List Res → Prop), K (.ret (.raw (.string (textI (digs (n / 10)))))) σ → ACallF κ Try.prog 21 [I (n / 10 : Nat)] σ K := fun K h => ih (n / 10) (by omega) (by omega) h
      have z1 : (textI (digs (n / 10))).size ≤ 20 := by rw [txt_size (digs_ascii _)]; exact digs_len 19 _ (by omega)
      have z2 : (textI [48 + ((n % 10 : Nat) : Int)]).size = 1 := by rw [txt_size (fun c hc => by simp at hc; omega)]; rfl
      refine ACallF.dropL (ACallF_intro Try.func21 rfl ?_)
      simp only [Try.ntmps21]
      repeat' (first
        | simp only [WL, intF, strF, WM, Int.reduceToNat, ne_eq, reduceCtorEq, not_false_eq_true, Nat.reduceAdd, Nat.reduceSub, Nat.reduceLT, Nat.reduceLeDiff, Nat.reduceEqDiff, Bool.not_true, Bool.not_false, beq_self_eq_true, true_and, and_true, reduceIte, Bool.false_eq_true, T3, T4, T9, cok21, Try.results21, ten0, tmod10, tdiv10, e1, e2, lit_digits_size, textI_app]
        | simp (disch := first | omega | (simp only [LN_]; omega)) only [wrap_id, getI, str_add]
        | with_reducible first | refine andA (hb := ?_) | refine callD_mk (ih2 _ ?_)
        | with_reducible refine y_nil (hK := ?_)
        | (with_reducible refine nilTC_split (fun h => ?_) (fun h bn => ?_) <;> (try simp only [List.length_map] at h))
        | ((with_reducible first | refine grd_cases (fun h => ?_) (fun h => ?_) | refine condC_split (fun h => ?_) (fun h => ?_)) <;> (try simp only [h]) <;> (try simp only [NR_, Bool.not_true, Bool.not_false, Bool.not_eq_eq_eq_not, ne_eq] at h))
        | omega | (simp only [LN_]; omega))
      exact leafL sub_rfl (leT_eq rfl) hK
set_option maxHeartbeats 8000000 in
set_option maxRecDepth 20000 in
theorem rDigits {n : Int} (h : 0 ≤ n) (h2 : n ≤ 9223372036854775807) (hK : K (.ret (.raw (.string (textI (digs n.toNat))))) σ) : ACallF κ Try.prog 21 [I n] σ K := by
  obtain ⟨m, rfl⟩ : ∃ m : Nat, n = m := ⟨n.toNat, by omega⟩
  exact rDigitsAll m (by omega) hK

set_option maxHeartbeats 8000000 in
set_option maxRecDepth 20000 in
theorem lv_0 : ({ data := #[] } : ByteArray) = textI [] := by decide +kernel
set_option maxHeartbeats 8000000 in
set_option maxRecDepth 20000 in
theorem lv_1 : ({ data := #[32] } : ByteArray) = textI [32] := by decide +kernel
set_option maxHeartbeats 8000000 in
set_option maxRecDepth 20000 in
theorem lv_2 : ({ data := #[9, 35, 32, 99] } : ByteArray) = textI [9, 35, 32, 99] := by decide +kernel
set_option maxHeartbeats 8000000 in
set_option maxRecDepth 20000 in
theorem lv_3 : ({ data := #[120] } : ByteArray) = textI [120] := by decide +kernel
set_option maxHeartbeats 8000000 in
set_option maxRecDepth 20000 in
theorem lv_4 : ({ data := #[35] } : ByteArray) = textI [35] := by decide +kernel
set_option maxHeartbeats 8000000 in
set_option maxRecDepth 20000 in
theorem lv_5 : ({ data := #[32, 120] } : ByteArray) = textI [32, 120] := by decide +kernel
set_option maxHeartbeats 8000000 in
set_option maxRecDepth 20000 in
theorem lv_y : ({ data := #[37, 89, 65, 77, 76] } : ByteArray) = textI [37, 89, 65, 77, 76] := by decide +kernel
set_option maxHeartbeats 8000000 in
set_option maxRecDepth 20000 in
theorem lv_d : ({ data := #[46] } : ByteArray) = textI [46] := by decide +kernel
def tailsL : List (List Int) := [[], [32], [9, 35, 32, 99], [120], [35], [32, 120]]

-- marginalialaw11.PropsVersions
set_option maxHeartbeats 8000000 in
set_option maxRecDepth 20000 in
theorem law_PropsVersions (κ : Ctx) (a : Int) (ha : IntKind.i64.min ≤ a ∧ a ≤ IntKind.i64.max) (b : Int) (hb : IntKind.i64.min ≤ b ∧ b ≤ IntKind.i64.max) (k : Int) (hk : IntKind.i64.min ≤ k ∧ k ≤ IntKind.i64.max) (w : Int) (hw : IntKind.i64.min ≤ w ∧ w ≤ IntKind.i64.max) : ACallF κ Try.prog 6 [I a, I b, I k, I w] [] (fun r _ => r = .ret (B true)) := by
  have emax : IntKind.i64.max = 9223372036854775807 := by decide
  rw [emax] at ha hb
  clear emax hk hw
  refine ACallF.dropL (ACallF_introA Try.func6 rfl ?_)
  simp only [Try.ntmps6]
  repeat' (first
    | with_reducible first | refine AW_seqA (AW_block ?_) | refine AW_block ?_ | refine cut_seqloop ?_ | refine cut_loop ?_ | refine AW_seqA (AW_seqA ?_) | refine AW_seq ?_ | refine AW_runReg ?_ | refine AW_runCond ?_ | refine AW_runExit ?_ | refine AW_runRet ?_ | refine AW_runSkip ?_ | refine AW_runLabel ?_
    | simp only [WL, intF, strF, WM, Int.reduceToNat, ne_eq, reduceCtorEq, not_false_eq_true, Nat.reduceAdd, Nat.reduceSub, Nat.reduceLT, Nat.reduceLeDiff, Nat.reduceEqDiff, Bool.not_true, Bool.not_false, beq_self_eq_true, true_and, and_true, reduceIte, Bool.false_eq_true, T3, T4, T9, T24, T37, cok12, cok14, cok19, cok21, Try.results6]
    | simp (disch := first | omega | (simp only [LN_]; omega)) only [wrap_id, getI]
    | with_reducible first | refine andA (hb := ?_) | refine y_load (hK := ?_) | refine y_bs0 ?_ | refine y_bs (hK := ?_) | refine cD (alive11 ?_) | refine cD (rText ?_ ?_) | refine cD (pDirective ?_ ?_)
    | with_reducible refine y_nil (hK := ?_)
    | (with_reducible refine nilTC_split (fun h => ?_) (fun h bn => ?_) <;> (try simp only [List.length_map] at h))
    | ((with_reducible first | refine grd_cases (fun h => ?_) (fun h => ?_) | refine condC_split (fun h => ?_) (fun h => ?_)) <;> (try simp only [h]) <;> (try simp only [NR_, Bool.not_true, Bool.not_false, Bool.not_eq_eq_eq_not, ne_eq] at h))
    | omega | (simp only [LN_]; omega))
  all_goals try exact leafLaw rfl
  refine loopA (fun g : Nat => ⟨(I a :: I b :: I k :: I w :: .any :: .any :: .any :: .any :: .any :: .any :: .raw (.string (textI (List.replicate g 32))) :: I g :: .any :: .any :: .any :: .any :: .any :: .any :: .any :: .any :: .any :: .any :: .any :: .any :: .any :: .any :: .any :: .any :: .any :: .any :: .any :: .any :: .any :: .any :: .any :: .any :: .any :: .any :: .any :: .any :: .any :: .any :: .any :: .any :: .any :: .any :: .any :: .any :: .any :: .any :: .any :: .any :: .any :: .any :: .any :: .any :: .any :: .any :: .any :: .any :: .any :: .any :: .any :: .any :: .any :: .any :: .any :: .any :: .any :: .any :: .any :: .any :: .any :: .any :: .any :: .any :: .any :: .any :: .any :: .any :: .any :: .any :: .any :: .any :: .any :: .any :: .any :: .any :: .any :: .any :: .any :: .any :: .any :: .any :: .any :: .any :: .any :: .any :: .any :: .any :: .any :: .any :: .any :: .any :: .any :: .any :: .any :: .any :: .any :: .any :: .any :: .any :: .any :: .any :: .any :: .any :: .any :: .any :: .any :: []), [], true, []⟩) (fun g => (g : Int) ≤ k) (fun g => k.toNat - g) 0 (St_le_same (by rw [lv_0]; repeat (first | exact trivial | refine ⟨le_rfl, ?_⟩ | refine ⟨le_any, ?_⟩ | refine ⟨le_ro, ?_⟩ | refine ⟨le_nil (by decide), ?_⟩ | refine ⟨le_wrap (by omega) (by omega) (by omega), ?_⟩ | refine ⟨le_int (by omega), ?_⟩ | refine ⟨le_eq (by simp), ?_⟩)) id) (by omega) ?_
  intro g hg
  have z1 : (textI (List.replicate g 32)).size = g := by rw [txt_size (fun c hc => by rw [List.mem_replicate] at hc; omega), List.length_replicate]
  have z2 : (textI [32]).size = 1 := by decide +kernel
  rcases Int.lt_or_le (g : Int) k with hlt | hge
  · skip
    repeat' (first
      | with_reducible first | refine AW_seqA (AW_block ?_) | refine AW_block ?_ | refine cut_seqloop ?_ | refine cut_loop ?_ | refine AW_seqA (AW_seqA ?_) | refine AW_seq ?_ | refine AW_runReg ?_ | refine AW_runCond ?_ | refine AW_runExit ?_ | refine AW_runRet ?_ | refine AW_runSkip ?_ | refine AW_runLabel ?_
      | simp only [WL, intF, strF, WM, Int.reduceToNat, ne_eq, reduceCtorEq, not_false_eq_true, Nat.reduceAdd, Nat.reduceSub, Nat.reduceLT, Nat.reduceLeDiff, Nat.reduceEqDiff, Bool.not_true, Bool.not_false, beq_self_eq_true, true_and, and_true, reduceIte, Bool.false_eq_true, T3, T4, T9, T24, T37, cok12, cok14, cok19, cok21, Try.results6, lv_1, textI_app]
      | simp (disch := first | omega | (simp only [LN_]; omega)) only [wrap_id, getI, str_add]
      | with_reducible first | refine andA (hb := ?_) | refine y_load (hK := ?_) | refine y_bs0 ?_ | refine y_bs (hK := ?_) | refine cD (alive11 ?_) | refine cD (rText ?_ ?_) | refine cD (pDirective ?_ ?_)
      | with_reducible refine y_nil (hK := ?_)
      | (with_reducible refine nilTC_split (fun h => ?_) (fun h bn => ?_) <;> (try simp only [List.length_map] at h))
      | ((with_reducible first | refine grd_cases (fun h => ?_) (fun h => ?_) | refine condC_split (fun h => ?_) (fun h => ?_)) <;> (try simp only [h]) <;> (try simp only [NR_, Bool.not_true, Bool.not_false, Bool.not_eq_eq_eq_not, ne_eq] at h))
      | omega | (simp only [LN_]; omega))
    exact ⟨g + 1, St_le_same (by simp only [List.replicate_succ']; repeat (first | exact trivial | refine ⟨le_rfl, ?_⟩ | refine ⟨le_any, ?_⟩ | refine ⟨le_ro, ?_⟩ | refine ⟨le_nil (by decide), ?_⟩ | refine ⟨le_wrap (by omega) (by omega) (by omega), ?_⟩ | refine ⟨le_int (by omega), ?_⟩ | refine ⟨le_eq (by simp), ?_⟩)) id, by omega, by omega⟩
  · obtain rfl : k = g := by omega
    repeat' (first
      | with_reducible first | refine AW_seqA (AW_block ?_) | refine AW_block ?_ | refine cut_seqloop ?_ | refine cut_loop ?_ | refine AW_seqA (AW_seqA ?_) | refine AW_seq ?_ | refine AW_runReg ?_ | refine AW_runCond ?_ | refine AW_runExit ?_ | refine AW_runRet ?_ | refine AW_runSkip ?_ | refine AW_runLabel ?_
      | simp only [WL, intF, strF, WM, Int.reduceToNat, ne_eq, reduceCtorEq, not_false_eq_true, Nat.reduceAdd, Nat.reduceSub, Nat.reduceLT, Nat.reduceLeDiff, Nat.reduceEqDiff, Bool.not_true, Bool.not_false, beq_self_eq_true, true_and, and_true, reduceIte, Bool.false_eq_true, T3, T4, T9, T24, T37, cok12, cok14, cok19, cok21, Try.results6]
      | simp (disch := first | omega | (simp only [LN_]; omega)) only [wrap_id, getI]
      | with_reducible first | refine andA (hb := ?_) | refine y_load (hK := ?_) | refine y_bs0 ?_ | refine y_bs (hK := ?_) | refine callD_mk (rDigits (by assumption) (by omega) ?_) | refine cD (alive11 ?_) | refine cD (rText ?_ ?_) | refine cD (pDirective ?_ ?_)
      | with_reducible refine y_nil (hK := ?_)
      | (with_reducible refine nilTC_split (fun h => ?_) (fun h bn => ?_) <;> (try simp only [List.length_map] at h))
      | ((with_reducible first | refine grd_cases (fun h => ?_) (fun h => ?_) | refine condC_split (fun h => ?_) (fun h => ?_)) <;> (try simp only [h]) <;> (try simp only [NR_, Bool.not_true, Bool.not_false, Bool.not_eq_eq_eq_not, ne_eq] at h))
      | omega | (simp only [LN_]; omega))
    all_goals try exact leafLaw rfl
    have na : (digs a.toNat).length ≤ 20 := digs_len 19 _ (by omega)
    have nb : (digs b.toNat).length ≤ 20 := digs_len 19 _ (by omega)
    have za : (textI (digs a.toNat)).size ≤ 20 := by rw [txt_size (digs_ascii _)]; exact na
    have zb : (textI (digs b.toNat)).size ≤ 20 := by rw [txt_size (digs_ascii _)]; exact nb
    have zy : (textI [37, 89, 65, 77, 76]).size = 5 := by decide +kernel
    have zd : (textI [46]).size = 1 := by decide +kernel
    have p1 : (textI [37, 89, 65, 77, 76] ++ textI (List.replicate g 32)).size ≤ 100 := by rw [ByteArray.size_append]; omega
    have p2 : (textI [37, 89, 65, 77, 76] ++ textI (List.replicate g 32) ++ textI (digs a.toNat)).size ≤ 200 := by rw [ByteArray.size_append]; omega
    have p3 : (textI [37, 89, 65, 77, 76] ++ textI (List.replicate g 32) ++ textI (digs a.toNat) ++ textI [46]).size ≤ 300 := by rw [ByteArray.size_append]; omega
    have p4 : (textI [37, 89, 65, 77, 76] ++ textI (List.replicate g 32) ++ textI (digs a.toNat) ++ textI [46] ++ textI (digs b.toNat)).size ≤ 400 := by rw [ByteArray.size_append]; omega
    have eS : ∀ t, textI [37, 89, 65, 77, 76] ++ textI (List.replicate g 32) ++ textI (digs a.toNat) ++ textI [46] ++ textI (digs b.toNat) ++ textI t = textI (verL g a.toNat b.toNat t) := fun t => by simp only [textI_app, verL]
    have hasc : ∀ t, (∀ c ∈ t, 0 ≤ c ∧ c < 128) → ∀ c ∈ verL g a.toNat b.toNat t, 0 ≤ c ∧ c < 128 := by
      intro t ht c hc
      simp only [verL, List.mem_append] at hc
      rcases hc with ((((hc | hc) | hc) | hc) | hc) | hc
      · revert hc; revert c; decide
      · rw [List.mem_replicate] at hc; omega
      · exact digs_ascii _ c hc
      · simp at hc; omega
      · exact digs_ascii _ c hc
      · exact ht c hc
    have hlen : ∀ t, t.length ≤ 10 → (verL g a.toNat b.toNat t).length ≤ 100 := fun t ht => by
      simp only [verL, List.length_append, List.length_replicate, List.length_cons, List.length_nil]; omega
    have em0 : ByteArray.empty = ({ data := #[] } : ByteArray) := rfl
    rcases (show w = 0 ∨ w = 1 ∨ w = 2 ∨ w = 3 ∨ w = 4 ∨ w = 5 by omega) with rfl | rfl | rfl | rfl | rfl | rfl
    · have ht : ∀ c ∈ ([] : List Int), 0 ≤ c ∧ c < 128 := by decide
      have hsm := small_text (hasc _ ht)
      have zt : (textI []).size ≤ 10 := by decide +kernel
      have zs : (textI (verL g a.toNat b.toNat [])).size ≤ 1000000000 := by rw [txt_size (hasc _ ht)]; have := hlen [] (by decide); omega
      have zl : (verL g a.toNat b.toNat []).length ≤ 1000000000 := by have := hlen [] (by decide); omega
      by_cases hg0 : g = 0
      · obtain ⟨d1, d2, d3⟩ : _ ∧ _ ∧ _ := verL_dir0 (a := a.toNat) (b := b.toNat) (t := []) ht
        rw [← hg0] at d1 d2 d3
        have q1 : ((dirI (verL g a.toNat b.toNat [])).1.toList == litY.toList) = false := by simpa using d3
        repeat' (first
          | with_reducible first | refine AW_seqA (AW_block ?_) | refine AW_block ?_ | refine cut_seqloop ?_ | refine cut_loop ?_ | refine AW_seqA (AW_seqA ?_) | refine AW_seq ?_ | refine AW_runReg ?_ | refine AW_runCond ?_ | refine AW_runExit ?_ | refine AW_runRet ?_ | refine AW_runSkip ?_ | refine AW_runLabel ?_
          | simp only [WL, intF, strF, WM, Int.reduceToNat, ne_eq, reduceCtorEq, not_false_eq_true, Nat.reduceAdd, Nat.reduceSub, Nat.reduceLT, Nat.reduceLeDiff, Nat.reduceEqDiff, Bool.not_true, Bool.not_false, beq_self_eq_true, true_and, and_true, reduceIte, Bool.false_eq_true, T3, T4, T9, T24, T37, cok12, cok14, cok19, cok21, Try.results6, eS, lv_0, lv_y, lv_d, hsm, Option.getD_some, q1, d1, d2, em0]
          | simp (disch := first | omega | (simp only [LN_]; omega)) only [wrap_id, getI, str_add]
          | with_reducible first | refine andA (hb := ?_) | refine y_load (hK := ?_) | refine y_bs0 ?_ | refine y_bs (hK := ?_) | refine callD_mk (rText zs ?_) | refine callD_mk (pDirective zl ?_) | refine cD (alive11 ?_) | refine cD (rText ?_ ?_) | refine cD (pDirective ?_ ?_)
          | with_reducible refine y_nil (hK := ?_)
          | (with_reducible refine nilTC_split (fun h => ?_) (fun h bn => ?_) <;> (try simp only [List.length_map] at h))
          | ((with_reducible first | refine grd_cases (fun h => ?_) (fun h => ?_) | refine condC_split (fun h => ?_) (fun h => ?_)) <;> (try simp only [h]) <;> (try simp only [NR_, Bool.not_true, Bool.not_false, Bool.not_eq_eq_eq_not, ne_eq] at h))
          | omega | (simp only [LN_]; omega))
        all_goals first
          | exact leafLaw rfl
          | (exfalso; omega)
          | trace_state
      · have hd := verL_dir (a := a.toNat) (b := b.toNat) (t := []) (show 0 < g by omega) (by decide)
        rw [if_pos (by decide)] at hd
        repeat' (first
          | with_reducible first | refine AW_seqA (AW_block ?_) | refine AW_block ?_ | refine cut_seqloop ?_ | refine cut_loop ?_ | refine AW_seqA (AW_seqA ?_) | refine AW_seq ?_ | refine AW_runReg ?_ | refine AW_runCond ?_ | refine AW_runExit ?_ | refine AW_runRet ?_ | refine AW_runSkip ?_ | refine AW_runLabel ?_
          | simp only [WL, intF, strF, WM, Int.reduceToNat, ne_eq, reduceCtorEq, not_false_eq_true, Nat.reduceAdd, Nat.reduceSub, Nat.reduceLT, Nat.reduceLeDiff, Nat.reduceEqDiff, Bool.not_true, Bool.not_false, beq_self_eq_true, true_and, and_true, reduceIte, Bool.false_eq_true, T3, T4, T9, T24, T37, cok12, cok14, cok19, cok21, Try.results6, eS, lv_0, lv_y, lv_d, hsm, Option.getD_some, hd, noneD, em0]
          | simp (disch := first | omega | (simp only [LN_]; omega)) only [wrap_id, getI, str_add]
          | with_reducible first | refine andA (hb := ?_) | refine y_load (hK := ?_) | refine y_bs0 ?_ | refine y_bs (hK := ?_) | refine callD_mk (rText zs ?_) | refine callD_mk (pDirective zl ?_) | refine cD (alive11 ?_) | refine cD (rText ?_ ?_) | refine cD (pDirective ?_ ?_)
          | with_reducible refine y_nil (hK := ?_)
          | (with_reducible refine nilTC_split (fun h => ?_) (fun h bn => ?_) <;> (try simp only [List.length_map] at h))
          | ((with_reducible first | refine grd_cases (fun h => ?_) (fun h => ?_) | refine condC_split (fun h => ?_) (fun h => ?_)) <;> (try simp only [h]) <;> (try simp only [NR_, Bool.not_true, Bool.not_false, Bool.not_eq_eq_eq_not, ne_eq] at h))
          | omega | (simp only [LN_]; omega))
        all_goals first
          | exact leafLaw rfl
          | (exfalso; omega)
          | trace_state
    · have ht : ∀ c ∈ ([32] : List Int), 0 ≤ c ∧ c < 128 := by decide
      have hsm := small_text (hasc _ ht)
      have zt : (textI [32]).size ≤ 10 := by decide +kernel
      have zs : (textI (verL g a.toNat b.toNat [32])).size ≤ 1000000000 := by rw [txt_size (hasc _ ht)]; have := hlen [32] (by decide); omega
      have zl : (verL g a.toNat b.toNat [32]).length ≤ 1000000000 := by have := hlen [32] (by decide); omega
      by_cases hg0 : g = 0
      · obtain ⟨d1, d2, d3⟩ : _ ∧ _ ∧ _ := verL_dir0 (a := a.toNat) (b := b.toNat) (t := [32]) ht
        rw [← hg0] at d1 d2 d3
        have q1 : ((dirI (verL g a.toNat b.toNat [32])).1.toList == litY.toList) = false := by simpa using d3
        repeat' (first
          | with_reducible first | refine AW_seqA (AW_block ?_) | refine AW_block ?_ | refine cut_seqloop ?_ | refine cut_loop ?_ | refine AW_seqA (AW_seqA ?_) | refine AW_seq ?_ | refine AW_runReg ?_ | refine AW_runCond ?_ | refine AW_runExit ?_ | refine AW_runRet ?_ | refine AW_runSkip ?_ | refine AW_runLabel ?_
          | simp only [WL, intF, strF, WM, Int.reduceToNat, ne_eq, reduceCtorEq, not_false_eq_true, Nat.reduceAdd, Nat.reduceSub, Nat.reduceLT, Nat.reduceLeDiff, Nat.reduceEqDiff, Bool.not_true, Bool.not_false, beq_self_eq_true, true_and, and_true, reduceIte, Bool.false_eq_true, T3, T4, T9, T24, T37, cok12, cok14, cok19, cok21, Try.results6, eS, lv_1, lv_y, lv_d, hsm, Option.getD_some, q1, d1, d2, em0]
          | simp (disch := first | omega | (simp only [LN_]; omega)) only [wrap_id, getI, str_add]
          | with_reducible first | refine andA (hb := ?_) | refine y_load (hK := ?_) | refine y_bs0 ?_ | refine y_bs (hK := ?_) | refine callD_mk (rText zs ?_) | refine callD_mk (pDirective zl ?_) | refine cD (alive11 ?_) | refine cD (rText ?_ ?_) | refine cD (pDirective ?_ ?_)
          | with_reducible refine y_nil (hK := ?_)
          | (with_reducible refine nilTC_split (fun h => ?_) (fun h bn => ?_) <;> (try simp only [List.length_map] at h))
          | ((with_reducible first | refine grd_cases (fun h => ?_) (fun h => ?_) | refine condC_split (fun h => ?_) (fun h => ?_)) <;> (try simp only [h]) <;> (try simp only [NR_, Bool.not_true, Bool.not_false, Bool.not_eq_eq_eq_not, ne_eq] at h))
          | omega | (simp only [LN_]; omega))
        all_goals first
          | exact leafLaw rfl
          | (exfalso; omega)
          | trace_state
      · have hd := verL_dir (a := a.toNat) (b := b.toNat) (t := [32]) (show 0 < g by omega) (by decide)
        rw [if_pos (by decide)] at hd
        repeat' (first
          | with_reducible first | refine AW_seqA (AW_block ?_) | refine AW_block ?_ | refine cut_seqloop ?_ | refine cut_loop ?_ | refine AW_seqA (AW_seqA ?_) | refine AW_seq ?_ | refine AW_runReg ?_ | refine AW_runCond ?_ | refine AW_runExit ?_ | refine AW_runRet ?_ | refine AW_runSkip ?_ | refine AW_runLabel ?_
          | simp only [WL, intF, strF, WM, Int.reduceToNat, ne_eq, reduceCtorEq, not_false_eq_true, Nat.reduceAdd, Nat.reduceSub, Nat.reduceLT, Nat.reduceLeDiff, Nat.reduceEqDiff, Bool.not_true, Bool.not_false, beq_self_eq_true, true_and, and_true, reduceIte, Bool.false_eq_true, T3, T4, T9, T24, T37, cok12, cok14, cok19, cok21, Try.results6, eS, lv_1, lv_y, lv_d, hsm, Option.getD_some, hd, noneD, em0]
          | simp (disch := first | omega | (simp only [LN_]; omega)) only [wrap_id, getI, str_add]
          | with_reducible first | refine andA (hb := ?_) | refine y_load (hK := ?_) | refine y_bs0 ?_ | refine y_bs (hK := ?_) | refine callD_mk (rText zs ?_) | refine callD_mk (pDirective zl ?_) | refine cD (alive11 ?_) | refine cD (rText ?_ ?_) | refine cD (pDirective ?_ ?_)
          | with_reducible refine y_nil (hK := ?_)
          | (with_reducible refine nilTC_split (fun h => ?_) (fun h bn => ?_) <;> (try simp only [List.length_map] at h))
          | ((with_reducible first | refine grd_cases (fun h => ?_) (fun h => ?_) | refine condC_split (fun h => ?_) (fun h => ?_)) <;> (try simp only [h]) <;> (try simp only [NR_, Bool.not_true, Bool.not_false, Bool.not_eq_eq_eq_not, ne_eq] at h))
          | omega | (simp only [LN_]; omega))
        all_goals first
          | exact leafLaw rfl
          | (exfalso; omega)
          | trace_state
    · have ht : ∀ c ∈ ([9, 35, 32, 99] : List Int), 0 ≤ c ∧ c < 128 := by decide
      have hsm := small_text (hasc _ ht)
      have zt : (textI [9, 35, 32, 99]).size ≤ 10 := by decide +kernel
      have zs : (textI (verL g a.toNat b.toNat [9, 35, 32, 99])).size ≤ 1000000000 := by rw [txt_size (hasc _ ht)]; have := hlen [9, 35, 32, 99] (by decide); omega
      have zl : (verL g a.toNat b.toNat [9, 35, 32, 99]).length ≤ 1000000000 := by have := hlen [9, 35, 32, 99] (by decide); omega
      by_cases hg0 : g = 0
      · obtain ⟨d1, d2, d3⟩ : _ ∧ _ ∧ _ := verL_dir0 (a := a.toNat) (b := b.toNat) (t := [9, 35, 32, 99]) ht
        rw [← hg0] at d1 d2 d3
        have q1 : ((dirI (verL g a.toNat b.toNat [9, 35, 32, 99])).1.toList == litY.toList) = false := by simpa using d3
        repeat' (first
          | with_reducible first | refine AW_seqA (AW_block ?_) | refine AW_block ?_ | refine cut_seqloop ?_ | refine cut_loop ?_ | refine AW_seqA (AW_seqA ?_) | refine AW_seq ?_ | refine AW_runReg ?_ | refine AW_runCond ?_ | refine AW_runExit ?_ | refine AW_runRet ?_ | refine AW_runSkip ?_ | refine AW_runLabel ?_
          | simp only [WL, intF, strF, WM, Int.reduceToNat, ne_eq, reduceCtorEq, not_false_eq_true, Nat.reduceAdd, Nat.reduceSub, Nat.reduceLT, Nat.reduceLeDiff, Nat.reduceEqDiff, Bool.not_true, Bool.not_false, beq_self_eq_true, true_and, and_true, reduceIte, Bool.false_eq_true, T3, T4, T9, T24, T37, cok12, cok14, cok19, cok21, Try.results6, eS, lv_2, lv_y, lv_d, hsm, Option.getD_some, q1, d1, d2, em0]
          | simp (disch := first | omega | (simp only [LN_]; omega)) only [wrap_id, getI, str_add]
          | with_reducible first | refine andA (hb := ?_) | refine y_load (hK := ?_) | refine y_bs0 ?_ | refine y_bs (hK := ?_) | refine callD_mk (rText zs ?_) | refine callD_mk (pDirective zl ?_) | refine cD (alive11 ?_) | refine cD (rText ?_ ?_) | refine cD (pDirective ?_ ?_)
          | with_reducible refine y_nil (hK := ?_)
          | (with_reducible refine nilTC_split (fun h => ?_) (fun h bn => ?_) <;> (try simp only [List.length_map] at h))
          | ((with_reducible first | refine grd_cases (fun h => ?_) (fun h => ?_) | refine condC_split (fun h => ?_) (fun h => ?_)) <;> (try simp only [h]) <;> (try simp only [NR_, Bool.not_true, Bool.not_false, Bool.not_eq_eq_eq_not, ne_eq] at h))
          | omega | (simp only [LN_]; omega))
        all_goals first
          | exact leafLaw rfl
          | (exfalso; omega)
          | trace_state
      · have hd := verL_dir (a := a.toNat) (b := b.toNat) (t := [9, 35, 32, 99]) (show 0 < g by omega) (by decide)
        rw [if_pos (by decide)] at hd
        repeat' (first
          | with_reducible first | refine AW_seqA (AW_block ?_) | refine AW_block ?_ | refine cut_seqloop ?_ | refine cut_loop ?_ | refine AW_seqA (AW_seqA ?_) | refine AW_seq ?_ | refine AW_runReg ?_ | refine AW_runCond ?_ | refine AW_runExit ?_ | refine AW_runRet ?_ | refine AW_runSkip ?_ | refine AW_runLabel ?_
          | simp only [WL, intF, strF, WM, Int.reduceToNat, ne_eq, reduceCtorEq, not_false_eq_true, Nat.reduceAdd, Nat.reduceSub, Nat.reduceLT, Nat.reduceLeDiff, Nat.reduceEqDiff, Bool.not_true, Bool.not_false, beq_self_eq_true, true_and, and_true, reduceIte, Bool.false_eq_true, T3, T4, T9, T24, T37, cok12, cok14, cok19, cok21, Try.results6, eS, lv_2, lv_y, lv_d, hsm, Option.getD_some, hd, noneD, em0]
          | simp (disch := first | omega | (simp only [LN_]; omega)) only [wrap_id, getI, str_add]
          | with_reducible first | refine andA (hb := ?_) | refine y_load (hK := ?_) | refine y_bs0 ?_ | refine y_bs (hK := ?_) | refine callD_mk (rText zs ?_) | refine callD_mk (pDirective zl ?_) | refine cD (alive11 ?_) | refine cD (rText ?_ ?_) | refine cD (pDirective ?_ ?_)
          | with_reducible refine y_nil (hK := ?_)
          | (with_reducible refine nilTC_split (fun h => ?_) (fun h bn => ?_) <;> (try simp only [List.length_map] at h))
          | ((with_reducible first | refine grd_cases (fun h => ?_) (fun h => ?_) | refine condC_split (fun h => ?_) (fun h => ?_)) <;> (try simp only [h]) <;> (try simp only [NR_, Bool.not_true, Bool.not_false, Bool.not_eq_eq_eq_not, ne_eq] at h))
          | omega | (simp only [LN_]; omega))
        all_goals first
          | exact leafLaw rfl
          | (exfalso; omega)
          | trace_state
    · have ht : ∀ c ∈ ([120] : List Int), 0 ≤ c ∧ c < 128 := by decide
      have hsm := small_text (hasc _ ht)
      have zt : (textI [120]).size ≤ 10 := by decide +kernel
      have zs : (textI (verL g a.toNat b.toNat [120])).size ≤ 1000000000 := by rw [txt_size (hasc _ ht)]; have := hlen [120] (by decide); omega
      have zl : (verL g a.toNat b.toNat [120]).length ≤ 1000000000 := by have := hlen [120] (by decide); omega
      by_cases hg0 : g = 0
      · obtain ⟨d1, d2, d3⟩ : _ ∧ _ ∧ _ := verL_dir0 (a := a.toNat) (b := b.toNat) (t := [120]) ht
        rw [← hg0] at d1 d2 d3
        have q1 : ((dirI (verL g a.toNat b.toNat [120])).1.toList == litY.toList) = false := by simpa using d3
        repeat' (first
          | with_reducible first | refine AW_seqA (AW_block ?_) | refine AW_block ?_ | refine cut_seqloop ?_ | refine cut_loop ?_ | refine AW_seqA (AW_seqA ?_) | refine AW_seq ?_ | refine AW_runReg ?_ | refine AW_runCond ?_ | refine AW_runExit ?_ | refine AW_runRet ?_ | refine AW_runSkip ?_ | refine AW_runLabel ?_
          | simp only [WL, intF, strF, WM, Int.reduceToNat, ne_eq, reduceCtorEq, not_false_eq_true, Nat.reduceAdd, Nat.reduceSub, Nat.reduceLT, Nat.reduceLeDiff, Nat.reduceEqDiff, Bool.not_true, Bool.not_false, beq_self_eq_true, true_and, and_true, reduceIte, Bool.false_eq_true, T3, T4, T9, T24, T37, cok12, cok14, cok19, cok21, Try.results6, eS, lv_3, lv_y, lv_d, hsm, Option.getD_some, q1, d1, d2, em0]
          | simp (disch := first | omega | (simp only [LN_]; omega)) only [wrap_id, getI, str_add]
          | with_reducible first | refine andA (hb := ?_) | refine y_load (hK := ?_) | refine y_bs0 ?_ | refine y_bs (hK := ?_) | refine callD_mk (rText zs ?_) | refine callD_mk (pDirective zl ?_) | refine cD (alive11 ?_) | refine cD (rText ?_ ?_) | refine cD (pDirective ?_ ?_)
          | with_reducible refine y_nil (hK := ?_)
          | (with_reducible refine nilTC_split (fun h => ?_) (fun h bn => ?_) <;> (try simp only [List.length_map] at h))
          | ((with_reducible first | refine grd_cases (fun h => ?_) (fun h => ?_) | refine condC_split (fun h => ?_) (fun h => ?_)) <;> (try simp only [h]) <;> (try simp only [NR_, Bool.not_true, Bool.not_false, Bool.not_eq_eq_eq_not, ne_eq] at h))
          | omega | (simp only [LN_]; omega))
        all_goals first
          | exact leafLaw rfl
          | (exfalso; omega)
          | trace_state
      · have hd := verL_dir (a := a.toNat) (b := b.toNat) (t := [120]) (show 0 < g by omega) (by decide)
        rw [if_neg (by decide)] at hd
        repeat' (first
          | with_reducible first | refine AW_seqA (AW_block ?_) | refine AW_block ?_ | refine cut_seqloop ?_ | refine cut_loop ?_ | refine AW_seqA (AW_seqA ?_) | refine AW_seq ?_ | refine AW_runReg ?_ | refine AW_runCond ?_ | refine AW_runExit ?_ | refine AW_runRet ?_ | refine AW_runSkip ?_ | refine AW_runLabel ?_
          | simp only [WL, intF, strF, WM, Int.reduceToNat, ne_eq, reduceCtorEq, not_false_eq_true, Nat.reduceAdd, Nat.reduceSub, Nat.reduceLT, Nat.reduceLeDiff, Nat.reduceEqDiff, Bool.not_true, Bool.not_false, beq_self_eq_true, true_and, and_true, reduceIte, Bool.false_eq_true, T3, T4, T9, T24, T37, cok12, cok14, cok19, cok21, Try.results6, eS, lv_3, lv_y, lv_d, hsm, Option.getD_some, hd, noneD, em0]
          | simp (disch := first | omega | (simp only [LN_]; omega)) only [wrap_id, getI, str_add]
          | with_reducible first | refine andA (hb := ?_) | refine y_load (hK := ?_) | refine y_bs0 ?_ | refine y_bs (hK := ?_) | refine callD_mk (rText zs ?_) | refine callD_mk (pDirective zl ?_) | refine cD (alive11 ?_) | refine cD (rText ?_ ?_) | refine cD (pDirective ?_ ?_)
          | with_reducible refine y_nil (hK := ?_)
          | (with_reducible refine nilTC_split (fun h => ?_) (fun h bn => ?_) <;> (try simp only [List.length_map] at h))
          | ((with_reducible first | refine grd_cases (fun h => ?_) (fun h => ?_) | refine condC_split (fun h => ?_) (fun h => ?_)) <;> (try simp only [h]) <;> (try simp only [NR_, Bool.not_true, Bool.not_false, Bool.not_eq_eq_eq_not, ne_eq] at h))
          | omega | (simp only [LN_]; omega))
        all_goals first
          | exact leafLaw rfl
          | (exfalso; omega)
          | trace_state
    · have ht : ∀ c ∈ ([35] : List Int), 0 ≤ c ∧ c < 128 := by decide
      have hsm := small_text (hasc _ ht)
      have zt : (textI [35]).size ≤ 10 := by decide +kernel
      have zs : (textI (verL g a.toNat b.toNat [35])).size ≤ 1000000000 := by rw [txt_size (hasc _ ht)]; have := hlen [35] (by decide); omega
      have zl : (verL g a.toNat b.toNat [35]).length ≤ 1000000000 := by have := hlen [35] (by decide); omega
      by_cases hg0 : g = 0
      · obtain ⟨d1, d2, d3⟩ : _ ∧ _ ∧ _ := verL_dir0 (a := a.toNat) (b := b.toNat) (t := [35]) ht
        rw [← hg0] at d1 d2 d3
        have q1 : ((dirI (verL g a.toNat b.toNat [35])).1.toList == litY.toList) = false := by simpa using d3
        repeat' (first
          | with_reducible first | refine AW_seqA (AW_block ?_) | refine AW_block ?_ | refine cut_seqloop ?_ | refine cut_loop ?_ | refine AW_seqA (AW_seqA ?_) | refine AW_seq ?_ | refine AW_runReg ?_ | refine AW_runCond ?_ | refine AW_runExit ?_ | refine AW_runRet ?_ | refine AW_runSkip ?_ | refine AW_runLabel ?_
          | simp only [WL, intF, strF, WM, Int.reduceToNat, ne_eq, reduceCtorEq, not_false_eq_true, Nat.reduceAdd, Nat.reduceSub, Nat.reduceLT, Nat.reduceLeDiff, Nat.reduceEqDiff, Bool.not_true, Bool.not_false, beq_self_eq_true, true_and, and_true, reduceIte, Bool.false_eq_true, T3, T4, T9, T24, T37, cok12, cok14, cok19, cok21, Try.results6, eS, lv_4, lv_y, lv_d, hsm, Option.getD_some, q1, d1, d2, em0]
          | simp (disch := first | omega | (simp only [LN_]; omega)) only [wrap_id, getI, str_add]
          | with_reducible first | refine andA (hb := ?_) | refine y_load (hK := ?_) | refine y_bs0 ?_ | refine y_bs (hK := ?_) | refine callD_mk (rText zs ?_) | refine callD_mk (pDirective zl ?_) | refine cD (alive11 ?_) | refine cD (rText ?_ ?_) | refine cD (pDirective ?_ ?_)
          | with_reducible refine y_nil (hK := ?_)
          | (with_reducible refine nilTC_split (fun h => ?_) (fun h bn => ?_) <;> (try simp only [List.length_map] at h))
          | ((with_reducible first | refine grd_cases (fun h => ?_) (fun h => ?_) | refine condC_split (fun h => ?_) (fun h => ?_)) <;> (try simp only [h]) <;> (try simp only [NR_, Bool.not_true, Bool.not_false, Bool.not_eq_eq_eq_not, ne_eq] at h))
          | omega | (simp only [LN_]; omega))
        all_goals first
          | exact leafLaw rfl
          | (exfalso; omega)
          | trace_state
      · have hd := verL_dir (a := a.toNat) (b := b.toNat) (t := [35]) (show 0 < g by omega) (by decide)
        rw [if_neg (by decide)] at hd
        repeat' (first
          | with_reducible first | refine AW_seqA (AW_block ?_) | refine AW_block ?_ | refine cut_seqloop ?_ | refine cut_loop ?_ | refine AW_seqA (AW_seqA ?_) | refine AW_seq ?_ | refine AW_runReg ?_ | refine AW_runCond ?_ | refine AW_runExit ?_ | refine AW_runRet ?_ | refine AW_runSkip ?_ | refine AW_runLabel ?_
          | simp only [WL, intF, strF, WM, Int.reduceToNat, ne_eq, reduceCtorEq, not_false_eq_true, Nat.reduceAdd, Nat.reduceSub, Nat.reduceLT, Nat.reduceLeDiff, Nat.reduceEqDiff, Bool.not_true, Bool.not_false, beq_self_eq_true, true_and, and_true, reduceIte, Bool.false_eq_true, T3, T4, T9, T24, T37, cok12, cok14, cok19, cok21, Try.results6, eS, lv_4, lv_y, lv_d, hsm, Option.getD_some, hd, noneD, em0]
          | simp (disch := first | omega | (simp only [LN_]; omega)) only [wrap_id, getI, str_add]
          | with_reducible first | refine andA (hb := ?_) | refine y_load (hK := ?_) | refine y_bs0 ?_ | refine y_bs (hK := ?_) | refine callD_mk (rText zs ?_) | refine callD_mk (pDirective zl ?_) | refine cD (alive11 ?_) | refine cD (rText ?_ ?_) | refine cD (pDirective ?_ ?_)
          | with_reducible refine y_nil (hK := ?_)
          | (with_reducible refine nilTC_split (fun h => ?_) (fun h bn => ?_) <;> (try simp only [List.length_map] at h))
          | ((with_reducible first | refine grd_cases (fun h => ?_) (fun h => ?_) | refine condC_split (fun h => ?_) (fun h => ?_)) <;> (try simp only [h]) <;> (try simp only [NR_, Bool.not_true, Bool.not_false, Bool.not_eq_eq_eq_not, ne_eq] at h))
          | omega | (simp only [LN_]; omega))
        all_goals first
          | exact leafLaw rfl
          | (exfalso; omega)
          | trace_state
    · have ht : ∀ c ∈ ([32, 120] : List Int), 0 ≤ c ∧ c < 128 := by decide
      have hsm := small_text (hasc _ ht)
      have zt : (textI [32, 120]).size ≤ 10 := by decide +kernel
      have zs : (textI (verL g a.toNat b.toNat [32, 120])).size ≤ 1000000000 := by rw [txt_size (hasc _ ht)]; have := hlen [32, 120] (by decide); omega
      have zl : (verL g a.toNat b.toNat [32, 120]).length ≤ 1000000000 := by have := hlen [32, 120] (by decide); omega
      by_cases hg0 : g = 0
      · obtain ⟨d1, d2, d3⟩ : _ ∧ _ ∧ _ := verL_dir0 (a := a.toNat) (b := b.toNat) (t := [32, 120]) ht
        rw [← hg0] at d1 d2 d3
        have q1 : ((dirI (verL g a.toNat b.toNat [32, 120])).1.toList == litY.toList) = false := by simpa using d3
        repeat' (first
          | with_reducible first | refine AW_seqA (AW_block ?_) | refine AW_block ?_ | refine cut_seqloop ?_ | refine cut_loop ?_ | refine AW_seqA (AW_seqA ?_) | refine AW_seq ?_ | refine AW_runReg ?_ | refine AW_runCond ?_ | refine AW_runExit ?_ | refine AW_runRet ?_ | refine AW_runSkip ?_ | refine AW_runLabel ?_
          | simp only [WL, intF, strF, WM, Int.reduceToNat, ne_eq, reduceCtorEq, not_false_eq_true, Nat.reduceAdd, Nat.reduceSub, Nat.reduceLT, Nat.reduceLeDiff, Nat.reduceEqDiff, Bool.not_true, Bool.not_false, beq_self_eq_true, true_and, and_true, reduceIte, Bool.false_eq_true, T3, T4, T9, T24, T37, cok12, cok14, cok19, cok21, Try.results6, eS, lv_5, lv_y, lv_d, hsm, Option.getD_some, q1, d1, d2, em0]
          | simp (disch := first | omega | (simp only [LN_]; omega)) only [wrap_id, getI, str_add]
          | with_reducible first | refine andA (hb := ?_) | refine y_load (hK := ?_) | refine y_bs0 ?_ | refine y_bs (hK := ?_) | refine callD_mk (rText zs ?_) | refine callD_mk (pDirective zl ?_) | refine cD (alive11 ?_) | refine cD (rText ?_ ?_) | refine cD (pDirective ?_ ?_)
          | with_reducible refine y_nil (hK := ?_)
          | (with_reducible refine nilTC_split (fun h => ?_) (fun h bn => ?_) <;> (try simp only [List.length_map] at h))
          | ((with_reducible first | refine grd_cases (fun h => ?_) (fun h => ?_) | refine condC_split (fun h => ?_) (fun h => ?_)) <;> (try simp only [h]) <;> (try simp only [NR_, Bool.not_true, Bool.not_false, Bool.not_eq_eq_eq_not, ne_eq] at h))
          | omega | (simp only [LN_]; omega))
        all_goals first
          | exact leafLaw rfl
          | (exfalso; omega)
          | trace_state
      · have hd := verL_dir (a := a.toNat) (b := b.toNat) (t := [32, 120]) (show 0 < g by omega) (by decide)
        rw [if_neg (by decide)] at hd
        repeat' (first
          | with_reducible first | refine AW_seqA (AW_block ?_) | refine AW_block ?_ | refine cut_seqloop ?_ | refine cut_loop ?_ | refine AW_seqA (AW_seqA ?_) | refine AW_seq ?_ | refine AW_runReg ?_ | refine AW_runCond ?_ | refine AW_runExit ?_ | refine AW_runRet ?_ | refine AW_runSkip ?_ | refine AW_runLabel ?_
          | simp only [WL, intF, strF, WM, Int.reduceToNat, ne_eq, reduceCtorEq, not_false_eq_true, Nat.reduceAdd, Nat.reduceSub, Nat.reduceLT, Nat.reduceLeDiff, Nat.reduceEqDiff, Bool.not_true, Bool.not_false, beq_self_eq_true, true_and, and_true, reduceIte, Bool.false_eq_true, T3, T4, T9, T24, T37, cok12, cok14, cok19, cok21, Try.results6, eS, lv_5, lv_y, lv_d, hsm, Option.getD_some, hd, noneD, em0]
          | simp (disch := first | omega | (simp only [LN_]; omega)) only [wrap_id, getI, str_add]
          | with_reducible first | refine andA (hb := ?_) | refine y_load (hK := ?_) | refine y_bs0 ?_ | refine y_bs (hK := ?_) | refine callD_mk (rText zs ?_) | refine callD_mk (pDirective zl ?_) | refine cD (alive11 ?_) | refine cD (rText ?_ ?_) | refine cD (pDirective ?_ ?_)
          | with_reducible refine y_nil (hK := ?_)
          | (with_reducible refine nilTC_split (fun h => ?_) (fun h bn => ?_) <;> (try simp only [List.length_map] at h))
          | ((with_reducible first | refine grd_cases (fun h => ?_) (fun h => ?_) | refine condC_split (fun h => ?_) (fun h => ?_)) <;> (try simp only [h]) <;> (try simp only [NR_, Bool.not_true, Bool.not_false, Bool.not_eq_eq_eq_not, ne_eq] at h))
          | omega | (simp only [LN_]; omega))
        all_goals first
          | exact leafLaw rfl
          | (exfalso; omega)
          | trace_state
end Go.Proofs.Ytaeacialcbahnaa
