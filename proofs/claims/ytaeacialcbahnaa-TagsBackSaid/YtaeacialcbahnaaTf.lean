/-
  The law TagsBack.
-/
import Derived.Test.YtaeacialcbahnaaTe
namespace Go.Proofs.Ytaeacialcbahnaa
open Go.Abs
set_option linter.unusedVariables false
set_option linter.unusedSimpArgs false
-- hb: 8000000
-- rd: 20000
variable {κ : Ctx} {σ : List Res} {K : Ret → List Res → Prop} {o o' : Option (Option (Nat × Nat))}
def strB : ByteArray := { data := #[115, 116, 114] }
set_option maxHeartbeats 8000000 in
set_option maxRecDepth 20000 in
theorem ex_t : ({ data := #[33, 33, 115, 116, 114] } : ByteArray) = bang2B ++ strB := by decide +kernel
set_option maxHeartbeats 8000000 in
set_option maxRecDepth 20000 in
theorem ex_w : whole0 (bang2B ++ strB) = (yB ++ strB, 0) := whole_two (by decide +kernel)
set_option maxHeartbeats 8000000 in
set_option maxRecDepth 20000 in
theorem ex_y : ({ data := #[116, 97, 103, 58, 121, 97, 109, 108, 46, 111, 114, 103, 44, 50, 48, 48, 50, 58, 115, 116, 114] } : ByteArray) = yB ++ strB := by decide +kernel
set_option maxHeartbeats 8000000 in
set_option maxRecDepth 20000 in
theorem ex_z : (bang2B ++ strB).size = 5 := by decide +kernel

-- marginalialaw16.num
set_option maxHeartbeats 8000000 in
set_option maxRecDepth 20000 in
theorem lNum {k : IntKind} {c : Int} (hK : K (.ret (.raw (.int k c))) σ) : ACallF κ Try.prog 27 [.raw (.int k c)] σ K := by
  refine ACallF.dropL (ACallF_intro Try.func27 rfl ?_)
  simp only [Try.ntmps27]
  repeat' (first
    | simp only [WL, intF, strF, WM, Int.reduceToNat, ne_eq, reduceCtorEq, not_false_eq_true, Nat.reduceAdd, Nat.reduceSub, Nat.reduceLT, Nat.reduceLeDiff, Nat.reduceEqDiff, Bool.not_true, Bool.not_false, beq_self_eq_true, true_and, and_true, reduceIte, Bool.false_eq_true, T3, T50, Try.results27]
    | simp (disch := first | omega | (simp only [LN_]; omega)) only [wrap_id, getI]
    | with_reducible first | refine andA (hb := ?_)
    | ((with_reducible first | refine grd_cases (fun h => ?_) (fun h => ?_) | refine condC_split (fun h => ?_) (fun h => ?_)) <;> (try simp only [h]) <;> (try simp only [NR_, Bool.not_true, Bool.not_false, Bool.not_eq_eq_eq_not, ne_eq] at h))
    | omega | (simp only [LN_]; omega))
  all_goals exact leafL sub_rfl (leT_eq rfl) hK

-- tags.Scope).Whole
set_option maxHeartbeats 8000000 in
set_option maxRecDepth 20000 in
theorem whole_use {t x : ByteArray} {b : Nat} (h1 : 1 ≤ t.size) (h2 : t.size ≤ 1000000) (hw : whole0 t = (x, 0)) (hK : K (.ret (.tup [.raw (.string x), I 0])) (.obj b [.raw (.map none)] :: σ)) : ACallF κ Try.prog 25 [.raw (.pointer (some ⟨b, 0, none⟩)), .raw (.string t)] (.obj b [.raw (.map none)] :: σ) K := by
  have h3 := idxB_lt (t.extract 1 t.size) 33
  have h4 := z_ext (s := t) 1
  refine tWhole0 h2 (cutN_le h1) ⟨h3.1, by omega⟩ ?_
  rw [hw]; exact hK

-- marginalialaw16.alive
set_option maxHeartbeats 8000000 in
set_option maxRecDepth 20000 in
theorem lAlive16 (hK : K (.ret (B true)) σ) : ACallF κ Try.prog 22 [] σ K := by
  have hz := ex_z
  refine ACallF.dropL (ACallF_intro Try.func22 rfl ?_)
  simp only [Try.ntmps22]
  repeat' (first
    | simp only [WL, intF, strF, WM, Int.reduceToNat, ne_eq, reduceCtorEq, not_false_eq_true, Nat.reduceAdd, Nat.reduceSub, Nat.reduceLT, Nat.reduceLeDiff, Nat.reduceEqDiff, Bool.not_true, Bool.not_false, beq_self_eq_true, true_and, and_true, reduceIte, Bool.false_eq_true, T3, T4, T9, T40, T42, T50, cok25, cok27, Try.results22, ex_t, ex_y]
    | simp (disch := first | omega | (simp only [LN_]; omega)) only [wrap_id, getI]
    | with_reducible first | refine andA (hb := ?_) | refine y_box (hK := fun b => ?_) | refine y_new (hK := fun b => ?_) | refine callD_mk (whole_use (by omega) (by omega) ex_w ?_) | refine cD (tWhole0 ?_ ?_ ?_ ?_) | refine cD (tWhole0 ?_ ?_ ?_ ?_) | refine cD (lNum ?_)
    | with_reducible refine y_nil (hK := ?_)
    | (with_reducible refine nilTC_split (fun h => ?_) (fun h bn => ?_) <;> (try simp only [List.length_map] at h))
    | ((with_reducible first | refine grd_cases (fun h => ?_) (fun h => ?_) | refine condC_split (fun h => ?_) (fun h => ?_)) <;> (try simp only [h]) <;> (try simp only [NR_, Bool.not_true, Bool.not_false, Bool.not_eq_eq_eq_not, ne_eq] at h))
    | omega | (simp only [LN_]; omega))
  all_goals first
    | exact leafL (sub_cons sub_rfl) (leT_eq rfl) hK
    | trace_state

-- marginalialaw16.TagsBack
set_option maxHeartbeats 8000000 in
set_option maxRecDepth 20000 in
theorem law_TagsBack (κ : Ctx) (s : ByteArray) (hs : s.size ≤ maxLen) : ACallF κ Try.prog 8 [.raw (.string s)] [] (fun r _ => r = .ret (B true)) := by
  by_cases hbig : 300 < s.size
  · skip
    refine ACallF.dropL (ACallF_intro Try.func8 rfl ?_)
    simp only [Try.ntmps8]
    repeat' (first
      | simp only [WL, intF, strF, WM, Int.reduceToNat, ne_eq, reduceCtorEq, not_false_eq_true, Nat.reduceAdd, Nat.reduceSub, Nat.reduceLT, Nat.reduceLeDiff, Nat.reduceEqDiff, Bool.not_true, Bool.not_false, beq_self_eq_true, true_and, and_true, reduceIte, Bool.false_eq_true, T3, T4, T9, T40, T42, T50, cok13, cok22, cok25, cok27, cok28, cok29, Try.results8]
      | simp (disch := first | omega | (simp only [LN_]; omega)) only [wrap_id, getI]
      | with_reducible first | refine andA (hb := ?_) | refine y_box (hK := fun b => ?_) | refine y_new (hK := fun b => ?_) | refine cD (rValid ?_ ?_) | refine cD (lAlive16 ?_) | refine cD (tWhole0 ?_ ?_ ?_ ?_) | refine cD (tWhole0 ?_ ?_ ?_ ?_) | refine cD (lNum ?_) | refine cD (tShort ?_ ?_) | refine cD (rShort ?_ ?_)
      | with_reducible refine y_nil (hK := ?_)
      | (with_reducible refine nilTC_split (fun h => ?_) (fun h bn => ?_) <;> (try simp only [List.length_map] at h))
      | ((with_reducible first | refine grd_cases (fun h => ?_) (fun h => ?_) | refine condC_split (fun h => ?_) (fun h => ?_)) <;> (try simp only [h]) <;> (try simp only [NR_, Bool.not_true, Bool.not_false, Bool.not_eq_eq_eq_not, ne_eq] at h))
      | omega | (simp only [LN_]; omega))
    all_goals first
      | exact leafLaw rfl
      | (exfalso; omega)
  have hl : s.size ≤ 300 := by omega
  clear hs
  have hv := short_valid s
  cases hok : (shortB s).2
  · have h1 := short_no hok
    rw [hok] at hv
    have hv := hv.symm
    refine ACallF.dropL (ACallF_intro Try.func8 rfl ?_)
    simp only [Try.ntmps8]
    repeat' (first
      | simp only [WL, intF, strF, WM, Int.reduceToNat, ne_eq, reduceCtorEq, not_false_eq_true, Nat.reduceAdd, Nat.reduceSub, Nat.reduceLT, Nat.reduceLeDiff, Nat.reduceEqDiff, Bool.not_true, Bool.not_false, beq_self_eq_true, true_and, and_true, reduceIte, Bool.false_eq_true, T3, T4, T9, T40, T42, T50, cok13, cok22, cok25, cok27, cok28, cok29, Try.results8, hok, h1, hv]
      | simp (disch := first | omega | (simp only [LN_]; omega)) only [wrap_id, getI]
      | with_reducible first | refine andA (hb := ?_) | refine y_box (hK := fun b => ?_) | refine y_new (hK := fun b => ?_) | refine cD (rValid ?_ ?_) | refine cD (lAlive16 ?_) | refine cD (tWhole0 ?_ ?_ ?_ ?_) | refine cD (tWhole0 ?_ ?_ ?_ ?_) | refine cD (lNum ?_) | refine cD (tShort ?_ ?_) | refine cD (rShort ?_ ?_)
      | with_reducible refine y_nil (hK := ?_)
      | (with_reducible refine nilTC_split (fun h => ?_) (fun h bn => ?_) <;> (try simp only [List.length_map] at h))
      | ((with_reducible first | refine grd_cases (fun h => ?_) (fun h => ?_) | refine condC_split (fun h => ?_) (fun h => ?_)) <;> (try simp only [h]) <;> (try simp only [NR_, Bool.not_true, Bool.not_false, Bool.not_eq_eq_eq_not, ne_eq] at h))
      | omega | (simp only [LN_]; omega))
    all_goals first
      | exact leafLaw rfl
      | (exfalso; omega)
      | trace_state
  · obtain ⟨z1, z2⟩ := short_size s hok
    have hw := short_whole hok
    rw [hok] at hv
    have hv := hv.symm
    have z2 : (shortB s).1.size ≤ 1000000 := by omega
    refine ACallF.dropL (ACallF_intro Try.func8 rfl ?_)
    simp only [Try.ntmps8]
    repeat' (first
      | simp only [WL, intF, strF, WM, Int.reduceToNat, ne_eq, reduceCtorEq, not_false_eq_true, Nat.reduceAdd, Nat.reduceSub, Nat.reduceLT, Nat.reduceLeDiff, Nat.reduceEqDiff, Bool.not_true, Bool.not_false, beq_self_eq_true, true_and, and_true, reduceIte, Bool.false_eq_true, T3, T4, T9, T40, T42, T50, cok13, cok22, cok25, cok27, cok28, cok29, Try.results8, hok, hv]
      | simp (disch := first | omega | (simp only [LN_]; omega)) only [wrap_id, getI]
      | with_reducible first | refine andA (hb := ?_) | refine y_box (hK := fun b => ?_) | refine y_new (hK := fun b => ?_) | refine callD_mk (whole_use z1 z2 hw ?_) | refine cD (rValid ?_ ?_) | refine cD (lAlive16 ?_) | refine cD (tWhole0 ?_ ?_ ?_ ?_) | refine cD (tWhole0 ?_ ?_ ?_ ?_) | refine cD (lNum ?_) | refine cD (tShort ?_ ?_) | refine cD (rShort ?_ ?_)
      | with_reducible refine y_nil (hK := ?_)
      | (with_reducible refine nilTC_split (fun h => ?_) (fun h bn => ?_) <;> (try simp only [List.length_map] at h))
      | ((with_reducible first | refine grd_cases (fun h => ?_) (fun h => ?_) | refine condC_split (fun h => ?_) (fun h => ?_)) <;> (try simp only [h]) <;> (try simp only [NR_, Bool.not_true, Bool.not_false, Bool.not_eq_eq_eq_not, ne_eq] at h))
      | omega | (simp only [LN_]; omega))
    all_goals first
      | exact leafLaw rfl
      | (exfalso; omega)
      | trace_state
end Go.Proofs.Ytaeacialcbahnaa
