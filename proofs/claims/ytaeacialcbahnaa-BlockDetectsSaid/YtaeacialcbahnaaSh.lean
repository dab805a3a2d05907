/-
  Walks: rows of one sign (slices.Repeat).
-/
import Derived.Test.YtaeacialcbahnaaSg
import Derived.Test.YtaeacialcbahnaaSb
import Derived.Test.YtaeacialcbahnaaMu
namespace Go.Proofs.Ytaeacialcbahnaa
open Go.Abs
set_option linter.unusedVariables false
set_option linter.unusedSimpArgs false
-- hb: 4000000
variable {κ : Ctx} {σ : List Res} {K : Ret → List Res → Prop} {o o' : Option (Option (Nat × Nat))}

-- math/bits.Mul64
set_option maxHeartbeats 4000000 in
theorem mul64_1 {m : Nat} (hm : m ≤ 1000000000) (hK : K (.ret (.tup [.raw (.int .u64 0), .raw (.int .u64 m)])) σ) : ACallF κ Try.prog 120 [.raw (.int .u64 1), .raw (.int .u64 m)] σ K := by
  refine ACallF.dropL (ACallF_intro Try.func120 rfl ?_)
  simp only [Try.ntmps120]
  repeat' (first
    | simp only [WL, intF, strF, WM, Int.reduceToNat, ne_eq, reduceCtorEq, not_false_eq_true, Nat.reduceAdd, Nat.reduceSub, Nat.reduceLT, Nat.reduceLeDiff, Nat.reduceEqDiff, Bool.not_true, Bool.not_false, beq_self_eq_true, true_and, and_true, reduceIte, Bool.false_eq_true, T121, Try.results120, fold_andu, Int.reduceToNat, Int.reducePow, Int.reduceMul, Int.zero_mul, Int.one_mul, Int.zero_add, Int.add_zero, Int.mul_zero, Int.reduceDiv]
    | simp (disch := first | omega | (simp only [LN_]; omega)) only [wrap_id, getI, shr_u, andu32, ediv0, wrapu_id]
    | with_reducible first | refine andA (hb := ?_)
    | with_reducible refine y_nil (hK := ?_)
    | (with_reducible refine nilTC_split (fun h => ?_) (fun h bn => ?_) <;> (try simp only [List.length_map] at h))
    | ((with_reducible first | refine grd_cases (fun h => ?_) (fun h => ?_) | refine condC_split (fun h => ?_) (fun h => ?_)) <;> (try simp only [h]) <;> (try simp only [NR_, Bool.not_true, Bool.not_false, Bool.not_eq_eq_eq_not, ne_eq] at h))
    | omega | (simp only [LN_]; omega))
  exact leafL sub_rfl (leT_eq rfl) hK

-- math/bits.Mul
set_option maxHeartbeats 4000000 in
theorem mul_1 {m : Nat} (hm : m ≤ 1000000000) (hK : K (.ret (.tup [.raw (.int .u64 0), .raw (.int .u64 m)])) σ) : ACallF κ Try.prog 116 [.raw (.int .u64 1), .raw (.int .u64 m)] σ K := by
  refine ACallF.dropL (ACallF_intro Try.func116 rfl ?_)
  simp only [Try.ntmps116]
  repeat' (first
    | simp only [WL, intF, strF, WM, Int.reduceToNat, ne_eq, reduceCtorEq, not_false_eq_true, Nat.reduceAdd, Nat.reduceSub, Nat.reduceLT, Nat.reduceLeDiff, Nat.reduceEqDiff, Bool.not_true, Bool.not_false, beq_self_eq_true, true_and, and_true, reduceIte, Bool.false_eq_true, T105, T118, T121, cI in105, cI in118, cok119, cok120, Try.results116]
    | simp (disch := first | omega | (simp only [LN_]; omega)) only [wrap_id, getI]
    | with_reducible first | refine andA (hb := ?_) | refine cD (mul64_1 (by omega) ?_)
    | ((with_reducible first | refine grd_cases (fun h => ?_) (fun h => ?_) | refine condC_split (fun h => ?_) (fun h => ?_)) <;> (try simp only [h]) <;> (try simp only [NR_, Bool.not_true, Bool.not_false, Bool.not_eq_eq_eq_not, ne_eq] at h))
    | omega | (simp only [LN_]; omega) | (refine maxLen_ok ?_; (first | omega | (simp only [LN_]; omega))))
  exact leafL sub_rfl (leT_eq rfl) hK

set_option maxHeartbeats 4000000 in
theorem lay_rep {c : Int} {n m k : Nat} (h : n + k ≤ m) : lay (List.replicate n (I c) ++ List.replicate (m - n) (I 0)) n (List.replicate k (I c)) = List.replicate (n + k) (I c) ++ List.replicate (m - (n + k)) (I 0) := by
  unfold lay
  rw [List.take_left' (by simp), List.length_replicate, List.drop_append]
  simp only [List.length_replicate, List.drop_replicate]
  rw [show n - (n + k) = 0 by omega, List.replicate_zero, List.nil_append, show m - n - (n + k - n) = m - (n + k) by omega, List.replicate_append_replicate]

-- slices.Repeat[[]int,int]
set_option maxHeartbeats 4000000 in
theorem repeat1o {c : Int} {m : Nat} (hm : m ≤ 1000000000) (hK : ∀ tk, K (.ret (SI (some tk) (List.replicate m c))) (.tip tk :: σ)) : ACallF κ Try.prog 102 [SI o [c], I m] σ K := by
  refine ACallF.freeze ?_
  rcases Nat.eq_zero_or_pos m with rfl | hpos
  ·
    refine ACallF.dropL (ACallF_intro Try.func102 rfl ?_)
    simp only [Try.ntmps102]
    repeat' (first
      | simp only [WL, intF, strF, WM, Int.reduceToNat, ne_eq, reduceCtorEq, not_false_eq_true, Nat.reduceAdd, Nat.reduceSub, Nat.reduceLT, Nat.reduceLeDiff, Nat.reduceEqDiff, Bool.not_true, Bool.not_false, beq_self_eq_true, true_and, and_true, reduceIte, Bool.false_eq_true, T3, T4, T9, T20, T24, T105, cI in3, cI in105, cok116, Try.results102, wrapu_id, Int.natCast_zero, Int.cast_ofNat_Int]
      | simp (disch := first | omega | (simp only [LN_]; omega)) only [wrap_id, getI, wrapu_id]
      | with_reducible first | refine andA (hb := ?_)
      | ( refine actC_mk (act_mkrow sl24 sz3 by3 zr3 rfl rfl (by omega) (by decide) (fun b => ?_)))
      | ( refine actC_mk (act_copy_row 0 rfl rfl sl24 sz3 (goodI _) ?_ ?_))
      | with_reducible first | refine cQ (mul_1 (by omega) isR_mk) ?_ | refine cD (mul_1 (by omega) ?_)
      | ((with_reducible refine AW_phE (id := 9) [0, 1, 2, 3, 4, 5, 6] (some 7) [([8], some 9), ([], none)] (fun _ => True) trivial mixed ?_ ?_); kernel_rfl)
      | ((with_reducible apply phE_intro); intro σq hq)
      | (with_reducible exact isT_mk)
      | ((with_reducible apply phC_ops); rfl; rfl)
      | (with_reducible refine phQ_mk trivial ?_)
      | (with_reducible refine dmQ_mk ?_)
      | with_reducible refine y_nil (hK := ?_)
      | (with_reducible refine nilTC_split (fun h => ?_) (fun h bn => ?_) <;> (try simp only [List.length_map] at h))
      | ((with_reducible first | refine grd_cases (fun h => ?_) (fun h => ?_) | refine condC_split (fun h => ?_) (fun h => ?_)) <;> (try simp only [h]) <;> (try simp only [NR_, Bool.not_true, Bool.not_false, Bool.not_eq_eq_eq_not, ne_eq] at h))
      | omega | (simp only [LN_]; omega) | (refine maxLen_ok ?_; (first | omega | (simp only [LN_]; omega))))
    refine loop_by (fun _ : Unit => ⟨(.any :: .any :: .any :: .any :: .any :: .any :: .any :: rowV b 0 0 0 :: I 0 :: .any :: .any :: .any :: .any :: .any :: .any :: .any :: .any :: .any :: .any :: .any :: .any :: .any :: .any :: .any :: .any :: .any :: .any :: .any :: .any :: .any :: .any :: .any :: .any :: .any :: .any :: .any :: .any :: .any :: .any :: .any :: .any :: .any :: .any :: .any :: .any :: .any :: .any :: .any :: []), .obj b [] :: σ, true, []⟩) (fun _ => True) (fun _ => 0) () (St_le_same (by repeat (first | exact trivial | refine ⟨le_rfl, ?_⟩ | refine ⟨le_any, ?_⟩ | refine ⟨le_ro, ?_⟩ | refine ⟨le_nil (by decide), ?_⟩ | refine ⟨le_wrap (by omega) (by omega) (by omega), ?_⟩ | refine ⟨le_int (by omega), ?_⟩ | refine ⟨le_eq (by simp), ?_⟩)) id) trivial ?_
    rintro ⟨⟩ _
    repeat' (first
      | simp only [WL, intF, strF, WM, Int.reduceToNat, ne_eq, reduceCtorEq, not_false_eq_true, Nat.reduceAdd, Nat.reduceSub, Nat.reduceLT, Nat.reduceLeDiff, Nat.reduceEqDiff, Bool.not_true, Bool.not_false, beq_self_eq_true, true_and, and_true, reduceIte, Bool.false_eq_true, T3, T4, T9, T20, T24, T105, cI in3, cI in105, cok116, Try.results102]
      | simp (disch := first | omega | (simp only [LN_]; omega)) only [wrap_id, getI]
      | with_reducible first | refine andA (hb := ?_) | refine cQ (mul_1 (by omega) isR_mk) ?_ | refine cD (mul_1 (by omega) ?_)
      | ((with_reducible refine AW_phE (id := 9) [0, 1, 2, 3, 4, 5, 6] (some 7) [([8], some 9), ([], none)] (fun _ => True) trivial mixed ?_ ?_); kernel_rfl)
      | ((with_reducible apply phE_intro); intro σq hq)
      | (with_reducible exact isT_mk)
      | ((with_reducible apply phC_ops); rfl; rfl)
      | (with_reducible refine phQ_mk trivial ?_)
      | (with_reducible refine dmQ_mk ?_)
      | with_reducible refine y_nil (hK := ?_)
      | (with_reducible refine nilTC_split (fun h => ?_) (fun h bn => ?_) <;> (try simp only [List.length_map] at h))
      | ((with_reducible first | refine grd_cases (fun h => ?_) (fun h => ?_) | refine condC_split (fun h => ?_) (fun h => ?_)) <;> (try simp only [h]) <;> (try simp only [NR_, Bool.not_true, Bool.not_false, Bool.not_eq_eq_eq_not, ne_eq] at h))
      | omega | (simp only [LN_]; omega) | (refine maxLen_ok ?_; (first | omega | (simp only [LN_]; omega))))
    exact leafL sub_rfl (leT_eq rfl) (.inr ⟨b, [], σ, rfl, ResW.refl _, by simp, Nat.zero_le _, hK _⟩)
  ·
    refine ACallF.dropL (ACallF_intro Try.func102 rfl ?_)
    simp only [Try.ntmps102]
    repeat' (first
      | simp only [WL, intF, strF, WM, Int.reduceToNat, ne_eq, reduceCtorEq, not_false_eq_true, Nat.reduceAdd, Nat.reduceSub, Nat.reduceLT, Nat.reduceLeDiff, Nat.reduceEqDiff, Bool.not_true, Bool.not_false, beq_self_eq_true, true_and, and_true, reduceIte, Bool.false_eq_true, T3, T4, T9, T20, T24, T105, cI in3, cI in105, cok116, Try.results102, wrapu_id]
      | simp (disch := first | omega | (simp only [LN_]; omega)) only [wrap_id, getI, wrapu_id]
      | with_reducible first | refine andA (hb := ?_)
      | ( refine actC_mk (act_mkrow sl24 sz3 by3 zr3 rfl rfl (by omega) (by decide) (fun b => ?_)))
      | ( refine actC_mk (act_copy_row 0 rfl rfl sl24 sz3 (goodI _) ?_ ?_))
      | with_reducible first | refine cQ (mul_1 (by omega) isR_mk) ?_ | refine cD (mul_1 (by omega) ?_)
      | ((with_reducible refine AW_phE (id := 9) [0, 1, 2, 3, 4, 5, 6] (some 7) [([8], some 9), ([], none)] (fun _ => True) trivial mixed ?_ ?_); kernel_rfl)
      | ((with_reducible apply phE_intro); intro σq hq)
      | (with_reducible exact isT_mk)
      | ((with_reducible apply phC_ops); rfl; rfl)
      | (with_reducible refine phQ_mk trivial ?_)
      | (with_reducible refine dmQ_mk ?_)
      | with_reducible refine y_nil (hK := ?_)
      | (with_reducible refine nilTC_split (fun h => ?_) (fun h bn => ?_) <;> (try simp only [List.length_map] at h))
      | ((with_reducible first | refine grd_cases (fun h => ?_) (fun h => ?_) | refine condC_split (fun h => ?_) (fun h => ?_)) <;> (try simp only [h]) <;> (try simp only [NR_, Bool.not_true, Bool.not_false, Bool.not_eq_eq_eq_not, ne_eq] at h))
      | omega | (simp only [LN_]; omega) | (refine maxLen_ok ?_; (first | omega | (simp only [LN_]; omega))))
    have e0 : lay (List.replicate m (I 0)) 0 (((([c] : List Int).map I).take m).flatMap AV.cells) = List.replicate 1 (I c) ++ List.replicate (m - 1) (I 0) := by
      have := lay_rep (c := c) (n := 0) (m := m) (k := 1) (by omega)
      simp only [List.replicate_zero, List.nil_append, Nat.sub_zero, Nat.zero_add] at this
      rw [← this, List.map_cons, List.map_nil, List.take_of_length_le (by simp; omega)]
      rfl
    refine loop_by (fun n : Nat => ⟨(.any :: .any :: .any :: .any :: .any :: .any :: .any :: rowV b 0 m m :: I n :: .any :: .any :: .any :: .any :: .any :: .any :: .any :: .any :: .any :: .any :: .any :: .any :: .any :: .any :: .any :: .any :: .any :: .any :: .any :: .any :: .any :: .any :: .any :: .any :: .any :: .any :: .any :: .any :: .any :: .any :: .any :: .any :: .any :: .any :: .any :: .any :: .any :: .any :: .any :: []), .obj b (List.replicate n (I c) ++ List.replicate (m - n) (I 0)) :: σ, true, []⟩) (fun n => 1 ≤ n ∧ n ≤ m) (fun n => m - n) 1 (St_leW (by repeat (first | exact trivial | refine ⟨le_rfl, ?_⟩ | refine ⟨le_any, ?_⟩ | refine ⟨le_ro, ?_⟩ | refine ⟨le_nil (by decide), ?_⟩ | refine ⟨le_wrap (by omega) (by omega) (by omega), ?_⟩ | refine ⟨le_int (by omega), ?_⟩ | refine ⟨le_eq (by simp), ?_⟩)) ?_ id) ⟨Nat.le_refl _, hpos⟩ ?_
    · have := e0
      simp only [List.map_cons, List.map_nil] at this
      exact this ▸ ResW.refl _
    rintro n ⟨h1, h2⟩
    repeat' (first
      | simp only [WL, intF, strF, WM, Int.reduceToNat, ne_eq, reduceCtorEq, not_false_eq_true, Nat.reduceAdd, Nat.reduceSub, Nat.reduceLT, Nat.reduceLeDiff, Nat.reduceEqDiff, Bool.not_true, Bool.not_false, beq_self_eq_true, true_and, and_true, reduceIte, Bool.false_eq_true, T3, T4, T9, T20, T24, T105, cI in3, cI in105, cok116, Try.results102]
      | simp (disch := first | omega | (simp only [LN_]; omega)) only [wrap_id, getI]
      | with_reducible first | refine andA (hb := ?_)
      | ( refine actC_q (act_slice_lo sl24 sz3 (by omega) (by omega) isA_mk) ?_)
      | ( refine actC_q (act_slice_hi sl24 sz3 (by omega) (by omega) (by omega) isA_mk) ?_)
      | ( refine actC_mk (act_copy_self 0 rfl rfl sl24 sz3 ?_ ?_ ?_ ?_))
      | with_reducible first | refine cQ (mul_1 (by omega) isR_mk) ?_ | refine cD (mul_1 (by omega) ?_)
      | ((with_reducible refine AW_phE (id := 9) [0, 1, 2, 3, 4, 5, 6] (some 7) [([8], some 9), ([], none)] (fun _ => True) trivial mixed ?_ ?_); kernel_rfl)
      | ((with_reducible apply phE_intro); intro σq hq)
      | (with_reducible exact isT_mk)
      | ((with_reducible apply phC_ops); rfl; rfl)
      | (with_reducible refine phQ_mk trivial ?_)
      | (with_reducible refine dmQ_mk ?_)
      | with_reducible refine y_nil (hK := ?_)
      | (with_reducible refine nilTC_split (fun h => ?_) (fun h bn => ?_) <;> (try simp only [List.length_map] at h))
      | ((with_reducible first | refine grd_cases (fun h => ?_) (fun h => ?_) | refine condC_split (fun h => ?_) (fun h => ?_)) <;> (try simp only [h]) <;> (try simp only [NR_, Bool.not_true, Bool.not_false, Bool.not_eq_eq_eq_not, ne_eq] at h))
      | omega | (simp only [LN_]; omega) | (refine maxLen_ok ?_; (first | omega | (simp only [LN_]; omega))))
    · rw [List.all_eq_true]
      intro x hx
      rcases List.mem_append.1 hx with hx | hx <;> rw [(List.mem_replicate.1 hx).2] <;> rfl
    · have et : (List.replicate n (I c) ++ List.replicate (m - n) (I 0)).take (min n (m - n)) = List.replicate (min n (m - n)) (I c) := by
        rw [List.take_append_of_le_length (by simp; omega), List.take_replicate]
        congr 1; omega
      have e1 := lay_rep (c := c) (n := n) (m := m) (k := min n (m - n)) (by omega)
      refine ⟨n + min n (m - n), St_leW (by repeat (first | exact trivial | refine ⟨le_rfl, ?_⟩ | refine ⟨le_any, ?_⟩ | refine ⟨le_ro, ?_⟩ | refine ⟨le_nil (by decide), ?_⟩ | refine ⟨le_wrap (by omega) (by omega) (by omega), ?_⟩ | refine ⟨le_int (by omega), ?_⟩ | refine ⟨le_eq (by simp), ?_⟩)) ?_ id, ⟨by omega, by omega⟩, by omega⟩
      rw [← e1, ← et, Nat.zero_add]
      exact ResW.refl _
    · obtain rfl : n = m := by omega
      have ec : (List.replicate n (I c) ++ List.replicate (n - n) (I 0)) = (List.replicate n c).map I := by simp
      rw [ec]
      refine leafL sub_rfl (leT_eq rfl) (.inr ⟨b, (List.replicate n c).map I, σ, ?_, ResW.refl _, ?_, ?_, hK _⟩)
      · simp
      · intro x hx
        obtain ⟨y, _, rfl⟩ := List.mem_map.1 hx
        rfl
      · exact maxLen_ok (by simp; omega)

set_option maxHeartbeats 4000000 in
theorem repeat1 {c : Int} {m : Nat} (hm : m ≤ 1000000000) (hK : K (.ret (SI none (List.replicate m c))) σ) : ACallF κ Try.prog 102 [SI o [c], I m] σ K :=
  ACallF.dropL (repeat1o hm (fun _ => leafL (sub_cons sub_rfl) (leT_le le_ro) hK))

end Go.Proofs.Ytaeacialcbahnaa
