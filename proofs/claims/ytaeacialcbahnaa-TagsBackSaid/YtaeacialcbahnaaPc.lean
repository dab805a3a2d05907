/-
  Walks: chapter 11, tags.
-/
import Derived.Test.YtaeacialcbahnaaPb
namespace Go.Proofs.Ytaeacialcbahnaa
open Go.Abs
set_option linter.unusedVariables false
set_option linter.unusedSimpArgs false
-- hb: 8000000
variable {κ : Ctx} {σ : List Res} {K : Ret → List Res → Prop} {o o' : Option (Option (Nat × Nat))}

set_option maxHeartbeats 8000000 in
theorem lit_uri : bytesI ({ data := #[35, 59, 47, 63, 58, 64, 38, 61, 43, 36, 44, 95, 46, 33, 126, 42, 39, 40, 41, 91, 93] } : ByteArray) = uriL := by decide +kernel
set_option maxHeartbeats 8000000 in
theorem uriL_byte {k : Nat} (h : k < uriL.length) : 0 ≤ uriL.getD k 0 ∧ uriL.getD k 0 ≤ 255 := by
  have : ∀ c ∈ uriL, 0 ≤ c ∧ c ≤ 255 := by decide
  rw [List.getD_eq_getElem?_getD, List.getElem?_eq_getElem h]
  exact this _ (List.getElem_mem h)
set_option maxHeartbeats 8000000 in
theorem uriC_yes {c : Int} {k : Nat} (h : k < uriL.length) (hc : c = uriL.getD k 0) : uriC c = true := by
  unfold uriC
  rw [decide_eq_true_eq, hc, List.getD_eq_getElem?_getD, List.getElem?_eq_getElem h]
  exact List.getElem_mem h
set_option maxHeartbeats 8000000 in
theorem uriC_no {c : Int} (h : ∀ j, j < uriL.length → ¬ c = uriL.getD j 0) : uriC c = false := by
  unfold uriC
  rw [decide_eq_false_iff_not]
  intro hm
  obtain ⟨j, hj, e⟩ := List.getElem_of_mem hm
  exact h j hj (by rw [List.getD_eq_getElem?_getD, List.getElem?_eq_getElem hj]; exact e.symm)

set_option maxHeartbeats 8000000 in
theorem lit_uri_size : ({ data := #[35, 59, 47, 63, 58, 64, 38, 61, 43, 36, 44, 95, 46, 33, 126, 42, 39, 40, 41, 91, 93] } : ByteArray).size = 21 := by decide +kernel

-- marginaliaref1.uri
set_option maxHeartbeats 8000000 in
theorem rUri {l : List Int} {i : Nat} (hl : l.length ≤ 1000000000) (hK : K (.ret (I (signN (l.drop i)))) σ) : ACallF κ Try.prog 37 [SI o l, I i] σ K := by
  by_cases hi : i < l.length
  · skip
    refine ACallF.dropL (ACallF_intro Try.func37 rfl ?_)
    simp only [Try.ntmps37]
    repeat' (first
      | simp only [WL, intF, strF, WM, Int.reduceToNat, ne_eq, reduceCtorEq, not_false_eq_true, Nat.reduceAdd, Nat.reduceSub, Nat.reduceLT, Nat.reduceLeDiff, Nat.reduceEqDiff, Bool.not_true, Bool.not_false, beq_self_eq_true, true_and, and_true, reduceIte, Bool.false_eq_true, T3, T4, T9, T24, cok16, cok77, cok78, Try.results37, lit_uri, lit_uri_size, tn1, tn2]
      | simp (disch := first | omega | (simp only [LN_]; omega)) only [wrap_id, getI]
      | with_reducible first | refine andA (hb := ?_) | refine y_load (hK := ?_) | refine cD (rWord ?_) | refine cD (ramong ?_ ?_) | refine cD (rHex ?_)
      | with_reducible refine y_nil (hK := ?_)
      | (with_reducible refine nilTC_split (fun h => ?_) (fun h bn => ?_) <;> (try simp only [List.length_map] at h))
      | ((with_reducible first | refine grd_cases (fun h => ?_) (fun h => ?_) | refine condC_split (fun h => ?_) (fun h => ?_)) <;> (try simp only [h]) <;> (try simp only [NR_, Bool.not_true, Bool.not_false, Bool.not_eq_eq_eq_not, ne_eq] at h))
      | omega | (simp only [LN_]; omega))
    all_goals refine leafL sub_rfl (leT_eq (congrArg I ?_)) hK
    all_goals first
      | (rw [sign_w hi (by assumption)]; rfl)
      | (rw [sign_u hi (uriC_iff.2 (by assumption))]; rfl)
      | (rw [sign_p (by omega) (by assumption) (by assumption) (by assumption)]; rfl)
      | (rw [sign_pn hi (by assumption) (by first | exact .inl (by omega) | exact .inr (.inl (by assumption)) | exact .inr (.inr (by assumption)))]; rfl)
      | (rw [sign_n hi (by assumption) (by assumption) (by rw [← Bool.not_eq_true, uriC_iff]; assumption)]; rfl)
  · skip
    refine ACallF.dropL (ACallF_intro Try.func37 rfl ?_)
    simp only [Try.ntmps37]
    repeat' (first
      | simp only [WL, intF, strF, WM, Int.reduceToNat, ne_eq, reduceCtorEq, not_false_eq_true, Nat.reduceAdd, Nat.reduceSub, Nat.reduceLT, Nat.reduceLeDiff, Nat.reduceEqDiff, Bool.not_true, Bool.not_false, beq_self_eq_true, true_and, and_true, reduceIte, Bool.false_eq_true, T3, T4, T9, T24, cok16, cok77, cok78, Try.results37]
      | simp (disch := first | omega | (simp only [LN_]; omega)) only [wrap_id, getI]
      | with_reducible first | refine andA (hb := ?_) | refine y_load (hK := ?_) | refine cD (rWord ?_) | refine cD (ramong ?_ ?_) | refine cD (rHex ?_)
      | with_reducible refine y_nil (hK := ?_)
      | (with_reducible refine nilTC_split (fun h => ?_) (fun h bn => ?_) <;> (try simp only [List.length_map] at h))
      | ((with_reducible first | refine grd_cases (fun h => ?_) (fun h => ?_) | refine condC_split (fun h => ?_) (fun h => ?_)) <;> (try simp only [h]) <;> (try simp only [NR_, Bool.not_true, Bool.not_false, Bool.not_eq_eq_eq_not, ne_eq] at h))
      | omega | (simp only [LN_]; omega))
    exact leafL sub_rfl (leT_eq (by rw [sign_e (by omega)]; rfl)) hK

-- props.sign
set_option maxHeartbeats 8000000 in
theorem pSign {l : List Int} (hl : l.length ≤ 1000000000) (hK : K (.ret (I (signN l))) σ) : ACallF κ Try.prog 110 [SI o l] σ K := by
  have e0 : signN l = signN (l.drop 0) := rfl
  refine ACallF.dropL (ACallF_introA Try.func110 rfl ?_)
  simp only [Try.ntmps110]
  repeat' (first
    | with_reducible first | refine AW_seqA (AW_block ?_) | refine AW_block ?_ | refine cut_seqloop ?_ | refine cut_loop ?_ | refine AW_seqA (AW_seqA ?_) | refine AW_seq ?_ | refine AW_runReg ?_ | refine AW_runCond ?_ | refine AW_runExit ?_ | refine AW_runRet ?_ | refine AW_runSkip ?_ | refine AW_runLabel ?_
    | simp only [WL, intF, strF, WM, Int.reduceToNat, ne_eq, reduceCtorEq, not_false_eq_true, Nat.reduceAdd, Nat.reduceSub, Nat.reduceLT, Nat.reduceLeDiff, Nat.reduceEqDiff, Bool.not_true, Bool.not_false, beq_self_eq_true, true_and, and_true, reduceIte, Bool.false_eq_true, convC_sl, convC_str, List.eraseIdx_cons_zero, List.eraseIdx_cons_succ, T3, T4, T5, T24, T30, cI in3, cok95, cok118, Try.results110]
    | simp (disch := first | omega | (simp only [LN_]; omega)) only [wrap_id, getI]
    | with_reducible first | refine andA (hb := ?_) | refine y_load (hK := ?_) | refine y_bso (ty := 30) (hK := fun tb => ?_) | refine y_mark (hK := ?_) | refine cD (cWord ?_) | refine cD (cHex ?_)
    | with_reducible refine y_nil (hK := ?_)
    | (with_reducible refine nilTC_split (fun h => ?_) (fun h bn => ?_) <;> (try simp only [List.length_map] at h))
    | ((with_reducible first | refine grd_cases (fun h => ?_) (fun h => ?_) | refine condC_split (fun h => ?_) (fun h => ?_)) <;> (try simp only [h]) <;> (try simp only [NR_, Bool.not_true, Bool.not_false, Bool.not_eq_eq_eq_not, ne_eq] at h))
    | omega | (simp only [LN_]; omega) | (refine maxLen_ok ?_; (first | omega | (simp only [LN_]; omega))))
  · exact leafL sub_rfl (leT_eq (by rw [e0, sign_e (by omega)]; rfl)) hK
  · exact leafL sub_rfl (leT_eq (by rw [e0, sign_p (by omega) (by assumption) (by assumption) (by assumption)]; rfl)) hK
  · exact leafL sub_rfl (leT_eq (by rw [e0, sign_pn (by omega) (by assumption) (.inr (.inr (by assumption)))]; rfl)) hK
  · exact leafL sub_rfl (leT_eq (by rw [e0, sign_pn (by omega) (by assumption) (.inr (.inl (by assumption)))]; rfl)) hK
  · exact leafL sub_rfl (leT_eq (by rw [e0, sign_pn (by omega) (by assumption) (.inl (by omega))]; rfl)) hK
  · exact leafL sub_rfl (leT_eq (by rw [e0, sign_w (by omega) (by assumption)]; rfl)) hK
  have h21 : uriL.length = 21 := rfl
  refine loopA (fun k : Nat => ⟨(SI o l :: .any :: .any :: .any :: .any :: .any :: .any :: .any :: .any :: .any :: .any :: .any :: .any :: .any :: .any :: .any :: .any :: .any :: .any :: .any :: .any :: .any :: .any :: .any :: .any :: .any :: .any :: .any :: .any :: .any :: .any :: .any :: .any :: .any :: SU none uriL :: I 21 :: I k :: .any :: .any :: .any :: .any :: .any :: .any :: .any :: .any :: .any :: .any :: []), σ, true, []⟩) (fun k => k ≤ 21 ∧ ∀ j, j < k → ¬ l.getD 0 0 = uriL.getD j 0) (fun k => 21 - k) 0 (St_le_same (by repeat (first | exact trivial | refine ⟨le_rfl, ?_⟩ | refine ⟨le_any, ?_⟩ | refine ⟨le_ro, ?_⟩ | refine ⟨le_nil (by decide), ?_⟩ | refine ⟨le_wrap (by omega) (by omega) (by omega), ?_⟩ | refine ⟨le_int (by omega), ?_⟩ | refine ⟨le_eq (by simp), ?_⟩)) id) ⟨Nat.zero_le _, fun j h => by omega⟩ ?_
  rintro k ⟨hk, hn⟩
  have hb := fun h => uriL_byte (k := k) h
  repeat' (first
    | with_reducible first | refine AW_seqA (AW_block ?_) | refine AW_block ?_ | refine cut_seqloop ?_ | refine cut_loop ?_ | refine AW_seqA (AW_seqA ?_) | refine AW_seq ?_ | refine AW_runReg ?_ | refine AW_runCond ?_ | refine AW_runExit ?_ | refine AW_runRet ?_ | refine AW_runSkip ?_ | refine AW_runLabel ?_
    | simp only [WL, intF, strF, WM, Int.reduceToNat, ne_eq, reduceCtorEq, not_false_eq_true, Nat.reduceAdd, Nat.reduceSub, Nat.reduceLT, Nat.reduceLeDiff, Nat.reduceEqDiff, Bool.not_true, Bool.not_false, beq_self_eq_true, true_and, and_true, reduceIte, Bool.false_eq_true, convC_sl, convC_str, List.eraseIdx_cons_zero, List.eraseIdx_cons_succ, T3, T4, T5, T24, T30, cI in3, cok95, cok118, Try.results110]
    | simp (disch := first | omega | (simp only [LN_]; omega)) only [wrap_id, getI, getU]
    | with_reducible first | refine andA (hb := ?_) | refine y_load (hK := ?_) | refine y_bs0 ?_ | refine y_bs (hK := ?_) | refine y_mark (hK := ?_) | refine cD (cWord ?_) | refine cD (cHex ?_)
    | with_reducible refine y_nil (hK := ?_)
    | (with_reducible refine nilTC_split (fun h => ?_) (fun h bn => ?_) <;> (try simp only [List.length_map] at h))
    | ((with_reducible first | refine grd_cases (fun h => ?_) (fun h => ?_) | refine condC_split (fun h => ?_) (fun h => ?_)) <;> (try simp only [h]) <;> (try simp only [NR_, Bool.not_true, Bool.not_false, Bool.not_eq_eq_eq_not, ne_eq] at h))
    | omega | (simp only [LN_]; omega) | (refine maxLen_ok ?_; (first | omega | (simp only [LN_]; omega))))
  · exact leafL sub_rfl (leT_eq (by rw [e0, sign_u (by omega) (uriC_yes (k := k) (by omega) (by assumption))]; rfl)) hK
  · exact ⟨k + 1, St_le_same (by repeat (first | exact trivial | refine ⟨le_rfl, ?_⟩ | refine ⟨le_any, ?_⟩ | refine ⟨le_ro, ?_⟩ | refine ⟨le_nil (by decide), ?_⟩ | refine ⟨le_wrap (by omega) (by omega) (by omega), ?_⟩ | refine ⟨le_int (by omega), ?_⟩ | refine ⟨le_eq (by simp), ?_⟩)) id, ⟨by omega, fun j hj => by
      rcases Nat.lt_or_ge j k with h' | h'
      · exact hn j h'
      · obtain rfl : j = k := by omega
        assumption⟩, by omega⟩
  · exact leafL sub_rfl (leT_eq (by rw [e0, sign_n (by omega) (by assumption) (by assumption) (uriC_no (fun j hj => hn j (by omega)))]; rfl)) hK

-- props.each
set_option maxHeartbeats 8000000 in
theorem pEach {l : List Int} (hK : ∀ b, K (.ret (.raw (.func (.func 109) #[] #[.pointer (some ⟨b, 0, none⟩)]))) (.obj b [SI o l] :: σ)) : ACallF κ Try.prog 81 [SI o l] σ K := by
  refine ACallF.dropL (ACallF_intro Try.func81 rfl ?_)
  simp only [Try.ntmps81]
  repeat' (first
    | simp only [WL, intF, strF, WM, Int.reduceToNat, ne_eq, reduceCtorEq, not_false_eq_true, Nat.reduceAdd, Nat.reduceSub, Nat.reduceLT, Nat.reduceLeDiff, Nat.reduceEqDiff, Bool.not_true, Bool.not_false, beq_self_eq_true, true_and, and_true, reduceIte, Bool.false_eq_true, T3, T24, T103, cok109, Try.results81]
    | simp (disch := first | omega | (simp only [LN_]; omega)) only [wrap_id, getI]
    | with_reducible first | refine andA (hb := ?_) | refine y_box (hK := fun b => ?_) | refine y_new (hK := fun b => ?_)
    | ((with_reducible first | refine grd_cases (fun h => ?_) (fun h => ?_) | refine condC_split (fun h => ?_) (fun h => ?_)) <;> (try simp only [h]) <;> (try simp only [NR_, Bool.not_true, Bool.not_false, Bool.not_eq_eq_eq_not, ne_eq] at h))
    | omega | (simp only [LN_]; omega))
  exact leafL sub_rfl (leT_eq rfl) (hK _)

abbrev signsA (l : List Int) (i : Nat) : List (List AV) := (signsAt l i).map fun p => [I p.1, I p.2]
-- props.each$1
set_option maxHeartbeats 8000000 in
theorem pEachIt {b L : Nat} {l : List Int} (hl : l.length ≤ 1000000000) (hI : Iter κ Try.prog L K (signsA l 0) σ) :
    ACallF κ Try.prog 109 [.raw (.func (.yield L) #[] #[]), .raw (.pointer (some ⟨b, 0, none⟩))] (.obj b [SI o l] :: σ) K := by
  refine ACallF.dropL (ACallF_intro Try.func109 rfl ?_)
  simp only [Try.ntmps109]
  repeat' (first
    | simp only [WL, intF, strF, WM, Int.reduceToNat, ne_eq, reduceCtorEq, not_false_eq_true, Nat.reduceAdd, Nat.reduceSub, Nat.reduceLT, Nat.reduceLeDiff, Nat.reduceEqDiff, Bool.not_true, Bool.not_false, beq_self_eq_true, true_and, and_true, reduceIte, Bool.false_eq_true, T3, T4, T24, T114, cok110, Try.results109]
    | simp (disch := first | omega | (simp only [LN_]; omega)) only [wrap_id, getI]
    | with_reducible first | refine andA (hb := ?_) | refine y_load (hK := ?_) | refine cD (pSign ?_ ?_)
    | with_reducible refine y_nil (hK := ?_)
    | (with_reducible refine nilTC_split (fun h => ?_) (fun h bn => ?_) <;> (try simp only [List.length_map] at h))
    | ((with_reducible first | refine grd_cases (fun h => ?_) (fun h => ?_) | refine condC_split (fun h => ?_) (fun h => ?_)) <;> (try simp only [h]) <;> (try simp only [NR_, Bool.not_true, Bool.not_false, Bool.not_eq_eq_eq_not, ne_eq] at h))
    | omega | (simp only [LN_]; omega))
  refine loop_by (fun x : Nat × List Res => ⟨(.raw (.func (.yield L) #[] #[]) :: .raw (.pointer (some ⟨b, 0, none⟩)) :: .any :: I x.1 :: .any :: .any :: .any :: .any :: .any :: .any :: .any :: .any :: .any :: .any :: .any :: .any :: .any :: .any :: .any :: .any :: .any :: .any :: .any :: []), .obj b [SI o l] :: x.2, true, []⟩) (fun x => x.1 ≤ l.length ∧ Iter κ Try.prog L K (signsA l x.1) x.2) (fun x => l.length - x.1) (0, σ) (St_le_same (by repeat (first | exact trivial | refine ⟨le_rfl, ?_⟩ | refine ⟨le_any, ?_⟩ | refine ⟨le_ro, ?_⟩ | refine ⟨le_nil (by decide), ?_⟩ | refine ⟨le_wrap (by omega) (by omega) (by omega), ?_⟩ | refine ⟨le_int (by omega), ?_⟩ | refine ⟨le_eq (by simp), ?_⟩)) id) ⟨Nat.zero_le _, hI⟩ ?_
  rintro ⟨k, σ'⟩ hx
  dsimp only at hx ⊢
  have h1 := hx.1
  have h2 := hx.2
  have hsn := signN_drop_le (l := l) (i := k)
  by_cases hz : signN (l.drop k) = 0
  · rw [signsA, signsAt_no hz] at h2
    repeat' (first
      | simp only [WL, intF, strF, WM, Int.reduceToNat, ne_eq, reduceCtorEq, not_false_eq_true, Nat.reduceAdd, Nat.reduceSub, Nat.reduceLT, Nat.reduceLeDiff, Nat.reduceEqDiff, Bool.not_true, Bool.not_false, beq_self_eq_true, true_and, and_true, reduceIte, Bool.false_eq_true, T3, T4, T24, T114, cok110, Try.results109, hz]
      | simp (disch := first | omega | (simp only [LN_]; omega)) only [wrap_id, getI]
      | with_reducible first | refine andA (hb := ?_) | refine y_load (hK := ?_) | refine cD (pSign ?_ ?_)
      | with_reducible refine y_nil (hK := ?_)
      | (with_reducible refine nilTC_split (fun h => ?_) (fun h bn => ?_) <;> (try simp only [List.length_map] at h))
      | ((with_reducible first | refine grd_cases (fun h => ?_) (fun h => ?_) | refine condC_split (fun h => ?_) (fun h => ?_)) <;> (try simp only [h]) <;> (try simp only [NR_, Bool.not_true, Bool.not_false, Bool.not_eq_eq_eq_not, ne_eq] at h))
      | omega | (simp only [LN_]; omega))
    exact leafL (sub_cons sub_rfl) (leT_eq rfl) h2
  · rw [signsA, signsAt_yes hz, List.map_cons] at h2
    repeat' (first
      | simp only [WL, intF, strF, WM, Int.reduceToNat, ne_eq, reduceCtorEq, not_false_eq_true, Nat.reduceAdd, Nat.reduceSub, Nat.reduceLT, Nat.reduceLeDiff, Nat.reduceEqDiff, Bool.not_true, Bool.not_false, beq_self_eq_true, true_and, and_true, reduceIte, Bool.false_eq_true, T3, T4, T24, T114, cok110, Try.results109]
      | simp (disch := first | omega | (simp only [LN_]; omega)) only [wrap_id, getI]
      | with_reducible first | refine andA (hb := ?_) | refine y_load (hK := ?_) | refine cD (pSign ?_ ?_)
      | with_reducible refine y_nil (hK := ?_)
      | (with_reducible refine nilTC_split (fun h => ?_) (fun h bn => ?_) <;> (try simp only [List.length_map] at h))
      | ((with_reducible first | refine grd_cases (fun h => ?_) (fun h => ?_) | refine condC_split (fun h => ?_) (fun h => ?_)) <;> (try simp only [h]) <;> (try simp only [NR_, Bool.not_true, Bool.not_false, Bool.not_eq_eq_eq_not, ne_eq] at h))
      | omega | (simp only [LN_]; omega))
    refine callYD_iter [.obj b [SI o l]] (leL_two le_rfl (le_int (by simp))) h2 (fun σ3 h => ?_) (fun σ3 h => ?_) (fun c σ3 h => ?_)
    · skip
      repeat' (first
        | simp only [WL, intF, strF, WM, Int.reduceToNat, ne_eq, reduceCtorEq, not_false_eq_true, Nat.reduceAdd, Nat.reduceSub, Nat.reduceLT, Nat.reduceLeDiff, Nat.reduceEqDiff, Bool.not_true, Bool.not_false, beq_self_eq_true, true_and, and_true, reduceIte, Bool.false_eq_true, T3, T4, T24, T114, cok110, Try.results109]
        | simp (disch := first | omega | (simp only [LN_]; omega)) only [wrap_id, getI]
        | with_reducible first | refine andA (hb := ?_) | refine y_load (hK := ?_) | refine cD (pSign ?_ ?_)
        | with_reducible refine y_nil (hK := ?_)
        | (with_reducible refine nilTC_split (fun h => ?_) (fun h bn => ?_) <;> (try simp only [List.length_map] at h))
        | ((with_reducible first | refine grd_cases (fun h => ?_) (fun h => ?_) | refine condC_split (fun h => ?_) (fun h => ?_)) <;> (try simp only [h]) <;> (try simp only [NR_, Bool.not_true, Bool.not_false, Bool.not_eq_eq_eq_not, ne_eq] at h))
        | omega | (simp only [LN_]; omega))
      exact ⟨(k + signN (l.drop k), σ3), St_le_same (by repeat (first | exact trivial | refine ⟨le_rfl, ?_⟩ | refine ⟨le_any, ?_⟩ | refine ⟨le_ro, ?_⟩ | refine ⟨le_nil (by decide), ?_⟩ | refine ⟨le_wrap (by omega) (by omega) (by omega), ?_⟩ | refine ⟨le_int (by omega), ?_⟩ | refine ⟨le_eq (by simp), ?_⟩)) id, ⟨by dsimp only; omega, h⟩, by dsimp only; omega⟩
    · skip
      repeat' (first
        | simp only [WL, intF, strF, WM, Int.reduceToNat, ne_eq, reduceCtorEq, not_false_eq_true, Nat.reduceAdd, Nat.reduceSub, Nat.reduceLT, Nat.reduceLeDiff, Nat.reduceEqDiff, Bool.not_true, Bool.not_false, beq_self_eq_true, true_and, and_true, reduceIte, Bool.false_eq_true, T3, T4, T24, T114, cok110, Try.results109]
        | simp (disch := first | omega | (simp only [LN_]; omega)) only [wrap_id, getI]
        | with_reducible first | refine andA (hb := ?_) | refine y_load (hK := ?_) | refine cD (pSign ?_ ?_)
        | with_reducible refine y_nil (hK := ?_)
        | (with_reducible refine nilTC_split (fun h => ?_) (fun h bn => ?_) <;> (try simp only [List.length_map] at h))
        | ((with_reducible first | refine grd_cases (fun h => ?_) (fun h => ?_) | refine condC_split (fun h => ?_) (fun h => ?_)) <;> (try simp only [h]) <;> (try simp only [NR_, Bool.not_true, Bool.not_false, Bool.not_eq_eq_eq_not, ne_eq] at h))
        | omega | (simp only [LN_]; omega))
      exact leafL (sub_cons sub_rfl) (leT_eq rfl) h
    · skip
      repeat' (first
        | simp only [WL, intF, strF, WM, Int.reduceToNat, ne_eq, reduceCtorEq, not_false_eq_true, Nat.reduceAdd, Nat.reduceSub, Nat.reduceLT, Nat.reduceLeDiff, Nat.reduceEqDiff, Bool.not_true, Bool.not_false, beq_self_eq_true, true_and, and_true, reduceIte, Bool.false_eq_true, T3, T4, T24, T114, cok110, Try.results109]
        | simp (disch := first | omega | (simp only [LN_]; omega)) only [wrap_id, getI]
        | with_reducible first | refine andA (hb := ?_) | refine y_load (hK := ?_) | refine cD (pSign ?_ ?_)
        | with_reducible refine y_nil (hK := ?_)
        | (with_reducible refine nilTC_split (fun h => ?_) (fun h bn => ?_) <;> (try simp only [List.length_map] at h))
        | ((with_reducible first | refine grd_cases (fun h => ?_) (fun h => ?_) | refine condC_split (fun h => ?_) (fun h => ?_)) <;> (try simp only [h]) <;> (try simp only [NR_, Bool.not_true, Bool.not_false, Bool.not_eq_eq_eq_not, ne_eq] at h))
        | omega | (simp only [LN_]; omega))
      exact leafP (sub_cons sub_rfl) rfl h

-- props.uri
set_option maxHeartbeats 8000000 in
theorem pUri {l : List Int} {F : FuncId} {may : Int → Bool} (hF : callOk Try.prog F = True) (hmay : ∀ c σ K, K (.ret (B (may c))) σ → ACallF κ Try.prog F [I c] σ K) (hl : l.length ≤ 1000000000) (hK : K (.ret (I (uriN may l))) σ) : ACallF κ Try.prog 42 [SI o l, .raw (.func (.func F) #[] #[])] σ K := by
  refine ACallF.dropL (ACallF_introA Try.func42 rfl ?_)
  simp only [Try.ntmps42]
  repeat' (first
    | with_reducible first | refine AW_seqA (AW_block ?_) | refine AW_block ?_ | refine cut_seqloop ?_ | refine cut_loop ?_ | refine AW_seqA (AW_seqA ?_) | refine AW_seq ?_ | refine AW_runReg ?_ | refine AW_runCond ?_ | refine AW_runExit ?_ | refine AW_runRet ?_ | refine AW_runSkip ?_ | refine AW_runLabel ?_
    | simp only [WL, intF, strF, WM, Int.reduceToNat, ne_eq, reduceCtorEq, not_false_eq_true, Nat.reduceAdd, Nat.reduceSub, Nat.reduceLT, Nat.reduceLeDiff, Nat.reduceEqDiff, Bool.not_true, Bool.not_false, beq_self_eq_true, true_and, and_true, reduceIte, Bool.false_eq_true, T3, T4, T24, T29, T103, cok81, Try.results42]
    | simp (disch := first | omega | (simp only [LN_]; omega)) only [wrap_id, getI]
    | with_reducible first | refine andA (hb := ?_) | refine y_load (hK := ?_) | refine y_store (hK := ?_) | refine y_box (hK := fun b => ?_) | refine y_new (hK := fun b => ?_) | refine cD (pEach (fun eb => ?_))
    | ((with_reducible refine AW_drawM (id := 5) 7 mixed ?_ ?_); kernel_rfl)
    | (with_reducible refine dmQ_mk ?_)
    | ((with_reducible first | refine grd_cases (fun h => ?_) (fun h => ?_) | refine condC_split (fun h => ?_) (fun h => ?_)) <;> (try simp only [h]) <;> (try simp only [NR_, Bool.not_true, Bool.not_false, Bool.not_eq_eq_eq_not, ne_eq] at h))
    | omega | (simp only [LN_]; omega))
  rename_i b1 b2
  refine range_by 109 [] [.pointer (some ⟨eb, 0, none⟩)] (signsA l 0) [.obj eb [SI o l]] (.obj b [I 0] :: .obj b2 [.raw (.func (.func F) #[] #[])] :: .obj b1 [SI o l] :: σ)
    (fun xs τ => ∃ i : Nat, xs = signsA l i ∧ i ≤ l.length ∧ uriN may l = i + uriN may (l.drop i) ∧ τ = .obj b [I i] :: .obj b2 [.raw (.func (.func F) #[] #[])] :: .obj b1 [SI o l] :: σ)
    rfl cok109 (ResW.refl _) (fun L K σ' h => pEachIt hl h) ⟨0, rfl, Nat.zero_le _, (Nat.zero_add _).symm, rfl⟩ ?_ ?_
  · rintro τ ⟨i, h1, h2, h3, rfl⟩
    by_cases hz : signN (l.drop i) = 0
    · rw [uriN_no (.inl hz)] at h3
      repeat' (first
        | with_reducible first | refine AW_seqA (AW_block ?_) | refine AW_block ?_ | refine cut_seqloop ?_ | refine cut_loop ?_ | refine AW_seqA (AW_seqA ?_) | refine AW_seq ?_ | refine AW_runReg ?_ | refine AW_runCond ?_ | refine AW_runExit ?_ | refine AW_runRet ?_ | refine AW_runSkip ?_ | refine AW_runLabel ?_
        | simp only [WL, intF, strF, WM, Int.reduceToNat, ne_eq, reduceCtorEq, not_false_eq_true, Nat.reduceAdd, Nat.reduceSub, Nat.reduceLT, Nat.reduceLeDiff, Nat.reduceEqDiff, Bool.not_true, Bool.not_false, beq_self_eq_true, true_and, and_true, reduceIte, Bool.false_eq_true, T3, T4, T24, T29, T103, cok81, Try.results42]
        | simp (disch := first | omega | (simp only [LN_]; omega)) only [wrap_id, getI]
        | with_reducible first | refine andA (hb := ?_) | refine y_load (hK := ?_) | refine y_store (hK := ?_) | refine y_box (hK := fun b => ?_) | refine y_new (hK := fun b => ?_) | refine cD (pEach (fun eb => ?_))
        | ((with_reducible refine AW_drawM (id := 5) 7 mixed ?_ ?_); kernel_rfl)
        | (with_reducible refine dmQ_mk ?_)
        | ((with_reducible first | refine grd_cases (fun h => ?_) (fun h => ?_) | refine condC_split (fun h => ?_) (fun h => ?_)) <;> (try simp only [h]) <;> (try simp only [NR_, Bool.not_true, Bool.not_false, Bool.not_eq_eq_eq_not, ne_eq] at h))
        | omega | (simp only [LN_]; omega))
      exact leafL (sub_cons (sub_cons (sub_cons sub_rfl))) (leT_eq (by rw [h3]; rfl)) hK
    · rw [signsA, signsAt_yes hz] at h1; cases h1
  · rintro dd L Rr Rb hR x xs τ ⟨i, h1, h2, h3, rfl⟩
    by_cases hz : signN (l.drop i) = 0
    · rw [signsA, signsAt_no hz] at h1; cases h1
    rw [signsA, signsAt_yes hz, List.map_cons, List.cons.injEq] at h1
    obtain ⟨rfl, rfl⟩ := h1
    have hsn := signN_drop_le (l := l) (i := i)
    refine ⟨rfl, ?_⟩
    repeat' (first
      | simp only [WL, intF, strF, WM, Int.reduceToNat, ne_eq, reduceCtorEq, not_false_eq_true, Nat.reduceAdd, Nat.reduceSub, Nat.reduceLT, Nat.reduceLeDiff, Nat.reduceEqDiff, Bool.not_true, Bool.not_false, beq_self_eq_true, true_and, and_true, reduceIte, Bool.false_eq_true, T3, T4, T24, T29, T103, cok81, Try.results42]
      | simp (disch := first | omega | (simp only [LN_]; omega)) only [wrap_id, getI]
      | with_reducible first | refine andA (hb := ?_) | refine y_load (hK := ?_) | refine y_store (hK := ?_) | refine y_box (hK := fun b => ?_) | refine y_new (hK := fun b => ?_) | refine cD (pEach (fun eb => ?_))
      | ((with_reducible refine AW_drawM (id := 5) 7 mixed ?_ ?_); kernel_rfl)
      | (with_reducible refine dmQ_mk ?_)
      | ((with_reducible first | refine grd_cases (fun h => ?_) (fun h => ?_) | refine condC_split (fun h => ?_) (fun h => ?_)) <;> (try simp only [h]) <;> (try simp only [NR_, Bool.not_true, Bool.not_false, Bool.not_eq_eq_eq_not, ne_eq] at h))
      | omega | (simp only [LN_]; omega))
    refine rngA_mk ?_
    repeat' (first
      | simp only [WL, intF, strF, WM, Int.reduceToNat, ne_eq, reduceCtorEq, not_false_eq_true, Nat.reduceAdd, Nat.reduceSub, Nat.reduceLT, Nat.reduceLeDiff, Nat.reduceEqDiff, Bool.not_true, Bool.not_false, beq_self_eq_true, true_and, and_true, reduceIte, Bool.false_eq_true, T3, T4, T24, T29, T103, cok81, Try.results42, hF]
      | simp (disch := first | omega | (simp only [LN_]; omega)) only [wrap_id, getI]
      | with_reducible first | refine andA (hb := ?_) | refine y_load (hK := ?_) | refine y_store (hK := ?_) | refine y_box (hK := fun b => ?_) | refine y_new (hK := fun b => ?_) | refine callD_q (hmay _ _ _ isR_mk) ?_ | refine cD (pEach (fun eb => ?_))
      | ((with_reducible refine AW_drawM (id := 5) 7 mixed ?_ ?_); kernel_rfl)
      | (with_reducible refine dmQ_mk ?_)
      | ((with_reducible first | refine grd_cases (fun h => ?_) (fun h => ?_) | refine condC_split (fun h => ?_) (fun h => ?_)) <;> (try simp only [h]) <;> (try simp only [NR_, Bool.not_true, Bool.not_false, Bool.not_eq_eq_eq_not, ne_eq] at h))
      | omega | (simp only [LN_]; omega))
    · refine ⟨_, resS_rfl, ?_⟩
      rw [uriN_no (l := l.drop i) (.inr (by rw [getD_drop0]; assumption)), Nat.add_zero] at h3
      repeat' (first
        | with_reducible first | refine AW_seqA (AW_block ?_) | refine AW_block ?_ | refine cut_seqloop ?_ | refine cut_loop ?_ | refine AW_seqA (AW_seqA ?_) | refine AW_seq ?_ | refine AW_runReg ?_ | refine AW_runCond ?_ | refine AW_runExit ?_ | refine AW_runRet ?_ | refine AW_runSkip ?_ | refine AW_runLabel ?_
        | simp only [WL, intF, strF, WM, Int.reduceToNat, ne_eq, reduceCtorEq, not_false_eq_true, Nat.reduceAdd, Nat.reduceSub, Nat.reduceLT, Nat.reduceLeDiff, Nat.reduceEqDiff, Bool.not_true, Bool.not_false, beq_self_eq_true, true_and, and_true, reduceIte, Bool.false_eq_true, T3, T4, T24, T29, T103, cok81, Try.results42]
        | simp (disch := first | omega | (simp only [LN_]; omega)) only [wrap_id, getI]
        | with_reducible first | refine andA (hb := ?_) | refine y_load (hK := ?_) | refine y_store (hK := ?_) | refine y_box (hK := fun b => ?_) | refine y_new (hK := fun b => ?_) | refine cD (pEach (fun eb => ?_))
        | ((with_reducible refine AW_drawM (id := 5) 7 mixed ?_ ?_); kernel_rfl)
        | (with_reducible refine dmQ_mk ?_)
        | ((with_reducible first | refine grd_cases (fun h => ?_) (fun h => ?_) | refine condC_split (fun h => ?_) (fun h => ?_)) <;> (try simp only [h]) <;> (try simp only [NR_, Bool.not_true, Bool.not_false, Bool.not_eq_eq_eq_not, ne_eq] at h))
        | omega | (simp only [LN_]; omega))
      exact leafL (sub_cons (sub_cons (sub_cons sub_rfl))) (leT_eq (by rw [h3])) hK
    · exact ⟨_, resS_rfl, i + signN (l.drop i), rfl, by omega, by rw [h3, uriN_yes hz (by rw [getD_drop0]; assumption), List.drop_drop]; omega, rfl⟩
set_option maxHeartbeats 8000000 in
theorem pUriAll {l : List Int} (hl : l.length ≤ 1000000000) (hK : K (.ret (I (uriN anyC l))) σ) : ACallF κ Try.prog 42 [SI o l, .raw (.func (.func 46) #[] #[])] σ K := pUri cok46 (fun c σ K h => pAll h) hl hK
set_option maxHeartbeats 8000000 in
theorem pUriShort {l : List Int} (hl : l.length ≤ 1000000000) (hK : K (.ret (I (uriN shortC l))) σ) : ACallF κ Try.prog 42 [SI o l, .raw (.func (.func 43) #[] #[])] σ K := pUri cok43 (fun c σ K h => pShort h) hl hK

-- props.whole
set_option maxHeartbeats 8000000 in
theorem pWhole {l : List Int} (hl : l.length ≤ 1000000000) (h2 : 2 ≤ l.length) (hK : K (.ret (.tup [.raw (.string (wholeI l).1), I (wholeI l).2.1, B (wholeI l).2.2])) σ) : ACallF κ Try.prog 40 [SI o l] σ K := by
  have hu := uriN_le anyC (l.drop 2)
  rw [List.length_drop] at hu
  have e1 : ((uriN anyC (l.drop 2) : Int) + 2).toNat = uriN anyC (l.drop 2) + 2 := by omega
  have e2 : (uriN anyC (l.drop 2) : Int) + 2 = ((uriN anyC (l.drop 2) + 2 : Nat) : Int) := by omega
  by_cases hz : uriN anyC (l.drop 2) = 0
  · have ew : wholeI l = noneT := by rw [wholeI, if_pos (.inl hz)]
    rw [ew] at hK
    refine ACallF.dropL (ACallF_intro Try.func40 rfl ?_)
    simp only [Try.ntmps40]
    repeat' (first
      | simp only [WL, intF, strF, WM, Int.reduceToNat, ne_eq, reduceCtorEq, not_false_eq_true, Nat.reduceAdd, Nat.reduceSub, Nat.reduceLT, Nat.reduceLeDiff, Nat.reduceEqDiff, Bool.not_true, Bool.not_false, beq_self_eq_true, true_and, and_true, reduceIte, Bool.false_eq_true, T3, T4, T9, T24, T29, cok39, cok42, cok44, cok46, Try.results40, hz]
      | simp (disch := first | omega | (simp only [LN_]; omega)) only [wrap_id, getI]
      | with_reducible first | refine andA (hb := ?_) | refine cD (pUriAll ?_ ?_) | refine cD (pIs ?_ ?_ ?_) | refine cD (pText ?_ ?_)
      | with_reducible refine y_nil (hK := ?_)
      | (with_reducible refine nilTC_split (fun h => ?_) (fun h bn => ?_) <;> (try simp only [List.length_map] at h))
      | ((with_reducible first | refine grd_cases (fun h => ?_) (fun h => ?_) | refine condC_split (fun h => ?_) (fun h => ?_)) <;> (try simp only [h]) <;> (try simp only [NR_, Bool.not_true, Bool.not_false, Bool.not_eq_eq_eq_not, ne_eq] at h))
      | omega | (simp only [LN_]; omega))
    all_goals first
      | exact leafL sub_rfl (leT_eq rfl) hK
      | (exfalso; omega)
  · cases ha : atI l (uriN anyC (l.drop 2) + 2) 62
    · have ew : wholeI l = noneT := by rw [wholeI, if_pos (.inr ha)]
      rw [ew] at hK
      refine ACallF.dropL (ACallF_intro Try.func40 rfl ?_)
      simp only [Try.ntmps40]
      repeat' (first
        | simp only [WL, intF, strF, WM, Int.reduceToNat, ne_eq, reduceCtorEq, not_false_eq_true, Nat.reduceAdd, Nat.reduceSub, Nat.reduceLT, Nat.reduceLeDiff, Nat.reduceEqDiff, Bool.not_true, Bool.not_false, beq_self_eq_true, true_and, and_true, reduceIte, Bool.false_eq_true, T3, T4, T9, T24, T29, cok39, cok42, cok44, cok46, Try.results40, e2, ha]
        | simp (disch := first | omega | (simp only [LN_]; omega)) only [wrap_id, getI]
        | with_reducible first | refine andA (hb := ?_) | refine cD (pUriAll ?_ ?_) | refine cD (pIs (i := uriN anyC (l.drop 2) + 2) ?_ ?_ ?_) | refine cD (pIs ?_ ?_ ?_) | refine cD (pText ?_ ?_)
        | with_reducible refine y_nil (hK := ?_)
        | (with_reducible refine nilTC_split (fun h => ?_) (fun h bn => ?_) <;> (try simp only [List.length_map] at h))
        | ((with_reducible first | refine grd_cases (fun h => ?_) (fun h => ?_) | refine condC_split (fun h => ?_) (fun h => ?_)) <;> (try simp only [h]) <;> (try simp only [NR_, Bool.not_true, Bool.not_false, Bool.not_eq_eq_eq_not, ne_eq] at h))
        | omega | (simp only [LN_]; omega))
      all_goals first
        | exact leafL sub_rfl (leT_eq rfl) hK
        | (exfalso; omega)
    · have hn : ¬ (uriN anyC (l.drop 2) = 0 ∨ atI l (uriN anyC (l.drop 2) + 2) 62 = false) := fun h => by
        rcases h with h | h
        · exact hz h
        · rw [ha] at h; cases h
      have ew : wholeI l = (textI ((l.take (uriN anyC (l.drop 2) + 2)).drop 1), ((uriN anyC (l.drop 2) + 3 : Nat) : Int), true) := by rw [wholeI, if_neg hn]
      rw [ew] at hK
      have hl3 := (atI_lt ha).1
      refine ACallF.dropL (ACallF_intro Try.func40 rfl ?_)
      simp only [Try.ntmps40]
      repeat' (first
        | simp only [WL, intF, strF, WM, Int.reduceToNat, ne_eq, reduceCtorEq, not_false_eq_true, Nat.reduceAdd, Nat.reduceSub, Nat.reduceLT, Nat.reduceLeDiff, Nat.reduceEqDiff, Bool.not_true, Bool.not_false, beq_self_eq_true, true_and, and_true, reduceIte, Bool.false_eq_true, T3, T4, T9, T24, T29, cok39, cok42, cok44, cok46, Try.results40, e1, ha]
        | simp (disch := first | omega | (simp only [LN_]; omega)) only [wrap_id, getI]
        | with_reducible first | refine andA (hb := ?_) | refine cD (pUriAll ?_ ?_) | refine cD (pIs (i := uriN anyC (l.drop 2) + 2) ?_ ?_ ?_) | refine cD (pIs ?_ ?_ ?_) | refine cD (pText ?_ ?_)
        | with_reducible refine y_nil (hK := ?_)
        | (with_reducible refine nilTC_split (fun h => ?_) (fun h bn => ?_) <;> (try simp only [List.length_map] at h))
        | ((with_reducible first | refine grd_cases (fun h => ?_) (fun h => ?_) | refine condC_split (fun h => ?_) (fun h => ?_)) <;> (try simp only [h]) <;> (try simp only [NR_, Bool.not_true, Bool.not_false, Bool.not_eq_eq_eq_not, ne_eq] at h))
        | omega | (simp only [LN_]; omega))
      all_goals first
        | exact leafL sub_rfl (leT_eq (by simp; omega)) hK
        | (exfalso; omega)

-- props.Tag
set_option maxHeartbeats 8000000 in
theorem pTag {l : List Int} (hl : l.length ≤ 1000000000) (hK : K (.ret (.tup [.raw (.string (tagI l).1), I (tagI l).2.1, B (tagI l).2.2])) σ) : ACallF κ Try.prog 15 [SI o l] σ K := by
  cases h0 : atI l 0 33
  · have ew : tagI l = noneT := by rw [tagI, if_pos h0]
    rw [ew] at hK
    refine ACallF.dropL (ACallF_intro Try.func15 rfl ?_)
    simp only [Try.ntmps15]
    repeat' (first
      | simp only [WL, intF, strF, WM, Int.reduceToNat, ne_eq, reduceCtorEq, not_false_eq_true, Nat.reduceAdd, Nat.reduceSub, Nat.reduceLT, Nat.reduceLeDiff, Nat.reduceEqDiff, Bool.not_true, Bool.not_false, beq_self_eq_true, true_and, and_true, reduceIte, Bool.false_eq_true, T3, T4, T9, T24, T29, cok39, cok40, cok41, cok42, cok43, cok44, Try.results15, h0]
      | simp (disch := first | omega | (simp only [LN_]; omega)) only [wrap_id, getI]
      | with_reducible first | refine andA (hb := ?_) | refine y_max ?_ | refine y_min ?_ | refine cD (pIs (i := 0) ?_ ?_ ?_) | refine cD (pIs ?_ ?_ ?_) | refine cD (pWhole ?_ ?_ ?_) | refine cD (pHandle ?_ ?_ ?_) | refine cD (pText ?_ ?_)
      | with_reducible refine y_nil (hK := ?_)
      | (with_reducible refine nilTC_split (fun h => ?_) (fun h bn => ?_) <;> (try simp only [List.length_map] at h))
      | ((with_reducible first | refine grd_cases (fun h => ?_) (fun h => ?_) | refine condC_split (fun h => ?_) (fun h => ?_)) <;> (try simp only [h]) <;> (try simp only [NR_, Bool.not_true, Bool.not_false, Bool.not_eq_eq_eq_not, ne_eq] at h))
      | omega | (simp only [LN_]; omega))
    all_goals exact leafL sub_rfl (leT_eq rfl) hK
  have hp := (atI_lt h0).1
  cases h1 : atI l 1 60
  · have ew : tagI l = shortI l := by rw [tagI, if_neg (by rw [h0]; decide), if_neg (by rw [h1]; decide)]
    rw [ew] at hK
    have hh := handleN_le l
    have hu := uriN_le shortC (l.drop (max (handleN l) 1))
    rw [List.length_drop] at hu
    have e1 : max ((handleN l : Nat) : Int) 1 = ((max (handleN l) 1 : Nat) : Int) := by omega
    have e2 : ((uriN shortC (l.drop (max (handleN l) 1)) : Int) + ((max (handleN l) 1 : Nat) : Int)).toNat = uriN shortC (l.drop (max (handleN l) 1)) + max (handleN l) 1 := by omega
    by_cases hz : 0 < handleN l ∧ uriN shortC (l.drop (max (handleN l) 1)) = 0
    · have es : shortI l = noneT := by rw [shortI, if_pos hz]
      rw [es] at hK
      refine ACallF.dropL (ACallF_intro Try.func15 rfl ?_)
      simp only [Try.ntmps15]
      repeat' (first
        | simp only [WL, intF, strF, WM, Int.reduceToNat, ne_eq, reduceCtorEq, not_false_eq_true, Nat.reduceAdd, Nat.reduceSub, Nat.reduceLT, Nat.reduceLeDiff, Nat.reduceEqDiff, Bool.not_true, Bool.not_false, beq_self_eq_true, true_and, and_true, reduceIte, Bool.false_eq_true, T3, T4, T9, T24, T29, cok39, cok40, cok41, cok42, cok43, cok44, Try.results15, h0, h1, e1]
        | simp (disch := first | omega | (simp only [LN_]; omega)) only [wrap_id, getI]
        | with_reducible first | refine andA (hb := ?_) | refine y_max ?_ | refine y_min ?_ | refine cD (pIs (i := 0) ?_ ?_ ?_) | refine cD (pIs (i := 1) ?_ ?_ ?_) | refine cD (pUriShort ?_ ?_) | refine cD (pIs ?_ ?_ ?_) | refine cD (pWhole ?_ ?_ ?_) | refine cD (pHandle ?_ ?_ ?_) | refine cD (pText ?_ ?_)
        | with_reducible refine y_nil (hK := ?_)
        | (with_reducible refine nilTC_split (fun h => ?_) (fun h bn => ?_) <;> (try simp only [List.length_map] at h))
        | ((with_reducible first | refine grd_cases (fun h => ?_) (fun h => ?_) | refine condC_split (fun h => ?_) (fun h => ?_)) <;> (try simp only [h]) <;> (try simp only [NR_, Bool.not_true, Bool.not_false, Bool.not_eq_eq_eq_not, ne_eq] at h))
        | omega | (simp only [LN_]; omega))
      all_goals first
        | exact leafL sub_rfl (leT_eq rfl) hK
        | (exfalso; omega)
        | trace_state
    · have es : shortI l = (textI (l.take (uriN shortC (l.drop (max (handleN l) 1)) + max (handleN l) 1)), ((uriN shortC (l.drop (max (handleN l) 1)) + max (handleN l) 1 : Nat) : Int), true) := by rw [shortI, if_neg hz]
      rw [es] at hK
      refine ACallF.dropL (ACallF_intro Try.func15 rfl ?_)
      simp only [Try.ntmps15]
      repeat' (first
        | simp only [WL, intF, strF, WM, Int.reduceToNat, ne_eq, reduceCtorEq, not_false_eq_true, Nat.reduceAdd, Nat.reduceSub, Nat.reduceLT, Nat.reduceLeDiff, Nat.reduceEqDiff, Bool.not_true, Bool.not_false, beq_self_eq_true, true_and, and_true, reduceIte, Bool.false_eq_true, T3, T4, T9, T24, T29, cok39, cok40, cok41, cok42, cok43, cok44, Try.results15, h0, h1, e1, e2]
        | simp (disch := first | omega | (simp only [LN_]; omega)) only [wrap_id, getI]
        | with_reducible first | refine andA (hb := ?_) | refine y_max ?_ | refine y_min ?_ | refine cD (pIs (i := 0) ?_ ?_ ?_) | refine cD (pIs (i := 1) ?_ ?_ ?_) | refine cD (pUriShort ?_ ?_) | refine cD (pIs ?_ ?_ ?_) | refine cD (pWhole ?_ ?_ ?_) | refine cD (pHandle ?_ ?_ ?_) | refine cD (pText ?_ ?_)
        | with_reducible refine y_nil (hK := ?_)
        | (with_reducible refine nilTC_split (fun h => ?_) (fun h bn => ?_) <;> (try simp only [List.length_map] at h))
        | ((with_reducible first | refine grd_cases (fun h => ?_) (fun h => ?_) | refine condC_split (fun h => ?_) (fun h => ?_)) <;> (try simp only [h]) <;> (try simp only [NR_, Bool.not_true, Bool.not_false, Bool.not_eq_eq_eq_not, ne_eq] at h))
        | omega | (simp only [LN_]; omega))
      all_goals first
        | (exfalso; omega)
        | exact leafL sub_rfl (leT_eq (by simp)) hK
        | trace_state
  · have ew : tagI l = wholeI l := by rw [tagI, if_neg (by rw [h0]; decide), if_pos h1]
    rw [ew] at hK
    have hp2 := (atI_lt h1).1
    refine ACallF.dropL (ACallF_intro Try.func15 rfl ?_)
    simp only [Try.ntmps15]
    repeat' (first
      | simp only [WL, intF, strF, WM, Int.reduceToNat, ne_eq, reduceCtorEq, not_false_eq_true, Nat.reduceAdd, Nat.reduceSub, Nat.reduceLT, Nat.reduceLeDiff, Nat.reduceEqDiff, Bool.not_true, Bool.not_false, beq_self_eq_true, true_and, and_true, reduceIte, Bool.false_eq_true, T3, T4, T9, T24, T29, cok39, cok40, cok41, cok42, cok43, cok44, Try.results15, h0, h1]
      | simp (disch := first | omega | (simp only [LN_]; omega)) only [wrap_id, getI]
      | with_reducible first | refine andA (hb := ?_) | refine y_max ?_ | refine y_min ?_ | refine cD (pIs (i := 0) ?_ ?_ ?_) | refine cD (pIs (i := 1) ?_ ?_ ?_) | refine cD (pIs ?_ ?_ ?_) | refine cD (pWhole ?_ ?_ ?_) | refine cD (pHandle ?_ ?_ ?_) | refine cD (pText ?_ ?_)
      | with_reducible refine y_nil (hK := ?_)
      | (with_reducible refine nilTC_split (fun h => ?_) (fun h bn => ?_) <;> (try simp only [List.length_map] at h))
      | ((with_reducible first | refine grd_cases (fun h => ?_) (fun h => ?_) | refine condC_split (fun h => ?_) (fun h => ?_)) <;> (try simp only [h]) <;> (try simp only [NR_, Bool.not_true, Bool.not_false, Bool.not_eq_eq_eq_not, ne_eq] at h))
      | omega | (simp only [LN_]; omega))
    all_goals exact leafL sub_rfl (leT_eq rfl) hK
end Go.Proofs.Ytaeacialcbahnaa
