/-
  Walks: chapter 16, what is told of a tag as it is written.
-/
import Derived.Test.YtaeacialcbahnaaTb
import Derived.Laws.RangeAny
namespace Go.Proofs.Ytaeacialcbahnaa
open Go.Abs
set_option linter.unusedVariables false
set_option linter.unusedSimpArgs false
-- hb: 8000000
section
variable {κ : Ctx} {P : Program} {all rest : List Oper} {Q : Exit → St → Prop} {d : Option Tmp} {t : List AV} {σ : List Res} {fr : Bool} {df : List Deferred}
set_option maxHeartbeats 8000000 in
theorem y_rng {ty : TypeId} {s : ByteArray} [hs : TStr P ty] (hK : ∀ b, goK κ false P all Q d rest ⟨t, σ, fr, df⟩ (.raw (.pointer (some ⟨b, 0, none⟩))) (.blk b (.stringIter s 0) :: σ)) : actC κ false P all Q d rest ⟨t, σ, fr, df⟩ (.range ty) [.raw (.string s)] :=
  actC_mk (act_range_str hs.str hK)
set_option maxHeartbeats 8000000 in
theorem y_next {ty : TypeId} {s : ByteArray} {b p : Nat} (i : Nat) (h : σ[i]? = some (.blk b (.stringIter s p))) (hp : p < s.size)
    (hK : goK κ false P all Q d rest ⟨t, σ, fr, df⟩ (.tup [B true, I p, .raw (.int .i32 (Utf8.decode s p).1)]) (σ.set i (.blk b (.stringIter s (p + (Utf8.decode s p).2))))) : actC κ false P all Q d rest ⟨t, σ, fr, df⟩ (.next true ty) [.raw (.pointer (some ⟨b, 0, none⟩))] :=
  actC_mk (act_next_str i h hp hK)
set_option maxHeartbeats 8000000 in
theorem y_over {ty : TypeId} {s : ByteArray} {b p : Nat} (i : Nat) (h : σ[i]? = some (.blk b (.stringIter s p))) (hp : s.size ≤ p)
    (hK : goK κ false P all Q d rest ⟨t, σ, fr, df⟩ (.tup [B false]) σ) : actC κ false P all Q d rest ⟨t, σ, fr, df⟩ (.next true ty) [.raw (.pointer (some ⟨b, 0, none⟩))] :=
  actC_mk (act_next_end i h hp hK)
end
variable {κ : Ctx} {σ : List Res} {K : Ret → List Res → Prop} {o o' : Option (Option (Nat × Nat))}
/-- The code points that a range over a text tells, from a place on. -/
def runesB (s : ByteArray) (p : Nat) : List Int := if h : p < s.size then ((Utf8.decode s p).1 : Int) :: runesB s (p + max 1 (Utf8.decode s p).2) else []
termination_by s.size - p
set_option maxHeartbeats 8000000 in
theorem decode_pos {s : ByteArray} {p : Nat} (h : p < s.size) : 1 ≤ (Utf8.decode s p).2 := by
  by_cases ha : (s[p]'h).toNat < 128
  · rw [decode_ascii s p h ha]; exact Nat.le_refl _
  · exact (decode_high s p h (by omega)).2
set_option maxHeartbeats 8000000 in
theorem runes_step {s : ByteArray} {p : Nat} (h : p < s.size) : runesB s p = ((Utf8.decode s p).1 : Int) :: runesB s (p + (Utf8.decode s p).2) := by
  have := decode_pos h
  rw [runesB, dif_pos h, Nat.max_eq_right this]
set_option maxHeartbeats 8000000 in
theorem runes_end {s : ByteArray} {p : Nat} (h : s.size ≤ p) : runesB s p = [] := by rw [runesB, dif_neg (by omega)]
def less2B : ByteArray := { data := #[33, 60] }
set_option maxHeartbeats 8000000 in
theorem lt_2 : ({ data := #[33, 60] } : ByteArray) = less2B := rfl
def toldB (s : ByteArray) : Bool :=
  if hasB s lessB = true then validI (bytesI (s.extract 1 s.size))
  else (tagI (runesB s 0)).2.2 && decide ((tagI (runesB s 0)).2.1 = (runesB s 0).length) && !hasB s less2B

-- tags.told
set_option maxHeartbeats 8000000 in
theorem tTold {s : ByteArray} (hs : s.size ≤ 1000000) (hK : K (.ret (B (toldB s))) σ) : ACallF κ Try.prog 56 [.raw (.string s)] σ K := by
  have y4 := z_l
  have e2 := z_ext (s := s) 1
  have k2 : cutB s lessB = if hasB s lessB = true then (s.extract 1 s.size, true) else (s, false) := rfl
  unfold toldB at hK
  cases h1 : hasB s lessB
  · rw [if_neg (by rw [h1]; decide)] at hK
    rw [if_neg (by rw [h1]; decide)] at k2
    refine ACallF.dropL (ACallF_introA Try.func56 rfl ?_)
    simp only [Try.ntmps56]
    repeat' (first
      | with_reducible first | refine AW_seqA (AW_block ?_) | refine AW_block ?_ | refine cut_seqloop ?_ | refine cut_loop ?_ | refine AW_seqA (AW_seqA ?_) | refine AW_seq ?_ | refine AW_runReg ?_ | refine AW_runCond ?_ | refine AW_runExit ?_ | refine AW_runRet ?_ | refine AW_runSkip ?_ | refine AW_runLabel ?_
      | simp only [WL, intF, strF, WM, Int.reduceToNat, ne_eq, reduceCtorEq, not_false_eq_true, Nat.reduceAdd, Nat.reduceSub, Nat.reduceLT, Nat.reduceLeDiff, Nat.reduceEqDiff, Bool.not_true, Bool.not_false, beq_self_eq_true, true_and, and_true, reduceIte, Bool.false_eq_true, T3, T4, T9, T21, T24, cI in3, cok15, cok18, cok57, cok91, Try.results56, lt_l, k2]
      | simp (disch := first | omega | (simp only [LN_]; omega)) only [wrap_id, getI]
      | with_reducible first | refine andA (hb := ?_) | refine y_appN ?_ | refine y_appS ?_ | refine y_app (hlen := ?_) (hmax := ?_) (hK := fun tk => ?_) | refine y_bs0 ?_ | refine y_bs (hK := ?_)
      | ( refine y_rng (fun b => ?_))
      | with_reducible first | refine cD (pTag ?_ ?_) | refine cD (pValid ?_ ?_) | refine cD (sCutP ?_) | refine cD (sHasP ?_)
      | with_reducible refine y_nil (hK := ?_)
      | (with_reducible refine nilTC_split (fun h => ?_) (fun h bn => ?_) <;> (try simp only [List.length_map] at h))
      | ((with_reducible first | refine grd_cases (fun h => ?_) (fun h => ?_) | refine condC_split (fun h => ?_) (fun h => ?_)) <;> (try simp only [h]) <;> (try simp only [NR_, Bool.not_true, Bool.not_false, Bool.not_eq_eq_eq_not, ne_eq] at h))
      | omega | (simp only [LN_]; omega) | (refine maxLen_ok ?_; (first | omega | (simp only [LN_]; omega))))
    refine loopA (fun x : Nat × List Int × Option (Nat × Nat) => ⟨(.raw (.string s) :: .any :: .any :: .any :: .any :: SI (some x.2.2) x.2.1 :: .any :: .any :: .any :: .any :: .any :: .any :: .any :: .any :: .any :: .any :: .any :: .any :: .any :: .any :: .raw (.pointer (some ⟨b, 0, none⟩)) :: .any :: .any :: .any :: .any :: .any :: .any :: .any :: .any :: .any :: .any :: .any :: .any :: .any :: .any :: .any :: .any :: .any :: .any :: .any :: .any :: .any :: .any :: .any :: .any :: .any :: .any :: []), .tip x.2.2 :: .blk b (.stringIter s x.1) :: σ, true, []⟩) (fun x => x.2.1.length ≤ x.1 ∧ x.2.1.length ≤ s.size ∧ x.2.1 ++ runesB s x.1 = runesB s 0) (fun x => s.size - x.1) (0, [], none) (St_leW (by repeat (first | exact trivial | refine ⟨le_rfl, ?_⟩ | refine ⟨le_any, ?_⟩ | refine ⟨le_ro, ?_⟩ | refine ⟨le_nil (by decide), ?_⟩ | refine ⟨le_wrap (by omega) (by omega) (by omega), ?_⟩ | refine ⟨le_int (by omega), ?_⟩ | refine ⟨le_eq (by simp), ?_⟩)) ResW.void id) ⟨Nat.le_refl _, Nat.zero_le _, rfl⟩ ?_
    rintro ⟨p, l, tk⟩ ⟨hp, hp2, hl⟩
    dsimp only at hp hp2 hl ⊢
    rcases Nat.lt_or_ge p s.size with hlt | hge
    · rw [runes_step hlt] at hl
      have hd := decode_le s p
      have hw := decode_pos hlt
      repeat' (first
        | with_reducible first | refine AW_seqA (AW_block ?_) | refine AW_block ?_ | refine cut_seqloop ?_ | refine cut_loop ?_ | refine AW_seqA (AW_seqA ?_) | refine AW_seq ?_ | refine AW_runReg ?_ | refine AW_runCond ?_ | refine AW_runExit ?_ | refine AW_runRet ?_ | refine AW_runSkip ?_ | refine AW_runLabel ?_
        | simp only [WL, intF, strF, WM, Int.reduceToNat, ne_eq, reduceCtorEq, not_false_eq_true, Nat.reduceAdd, Nat.reduceSub, Nat.reduceLT, Nat.reduceLeDiff, Nat.reduceEqDiff, Bool.not_true, Bool.not_false, beq_self_eq_true, true_and, and_true, reduceIte, Bool.false_eq_true, T3, T4, T9, T21, T24, cI in3, cok15, cok18, cok57, cok91, Try.results56]
        | simp (disch := first | omega | (simp only [LN_]; omega)) only [wrap_id, getI]
        | with_reducible first | refine andA (hb := ?_) | refine y_appN ?_ | refine y_appS ?_ | refine y_app (hlen := ?_) (hmax := ?_) (hK := fun tk => ?_) | refine y_bs0 ?_ | refine y_bs (hK := ?_)
        | ( refine y_next 1 rfl hlt ?_)
        | with_reducible first | refine cD (pTag ?_ ?_) | refine cD (pValid ?_ ?_) | refine cD (sCutP ?_) | refine cD (sHasP ?_)
        | with_reducible refine y_nil (hK := ?_)
        | (with_reducible refine nilTC_split (fun h => ?_) (fun h bn => ?_) <;> (try simp only [List.length_map] at h))
        | ((with_reducible first | refine grd_cases (fun h => ?_) (fun h => ?_) | refine condC_split (fun h => ?_) (fun h => ?_)) <;> (try simp only [h]) <;> (try simp only [NR_, Bool.not_true, Bool.not_false, Bool.not_eq_eq_eq_not, ne_eq] at h))
        | omega | (simp only [LN_]; omega) | (refine maxLen_ok ?_; (first | omega | (simp only [LN_]; omega))))
      exact ⟨(p + (Utf8.decode s p).2, l ++ [((Utf8.decode s p).1 : Int)], _), St_leW (by dsimp only; simp only [SI, List.map_append, List.map_cons, List.map_nil]; repeat (first | exact trivial | refine ⟨le_rfl, ?_⟩ | refine ⟨le_any, ?_⟩ | refine ⟨le_ro, ?_⟩ | refine ⟨le_nil (by decide), ?_⟩ | refine ⟨le_wrap (by omega) (by omega) (by omega), ?_⟩ | refine ⟨le_int (by omega), ?_⟩ | refine ⟨le_eq (by simp), ?_⟩)) (ResW.refl _) id, ⟨by simp; omega, by simp; omega, by simpa using hl⟩, by dsimp only; omega⟩
    · rw [runes_end hge, List.append_nil] at hl
      subst hl
      repeat' (first
        | with_reducible first | refine AW_seqA (AW_block ?_) | refine AW_block ?_ | refine cut_seqloop ?_ | refine cut_loop ?_ | refine AW_seqA (AW_seqA ?_) | refine AW_seq ?_ | refine AW_runReg ?_ | refine AW_runCond ?_ | refine AW_runExit ?_ | refine AW_runRet ?_ | refine AW_runSkip ?_ | refine AW_runLabel ?_
        | simp only [WL, intF, strF, WM, Int.reduceToNat, ne_eq, reduceCtorEq, not_false_eq_true, Nat.reduceAdd, Nat.reduceSub, Nat.reduceLT, Nat.reduceLeDiff, Nat.reduceEqDiff, Bool.not_true, Bool.not_false, beq_self_eq_true, true_and, and_true, reduceIte, Bool.false_eq_true, T3, T4, T9, T21, T24, cI in3, cok15, cok18, cok57, cok91, Try.results56, lt_2]
        | simp (disch := first | omega | (simp only [LN_]; omega)) only [wrap_id, getI]
        | with_reducible first | refine andA (hb := ?_) | refine y_appN ?_ | refine y_appS ?_ | refine y_app (hlen := ?_) (hmax := ?_) (hK := fun tk => ?_) | refine y_bs0 ?_ | refine y_bs (hK := ?_)
        | ( refine y_over 1 rfl hge ?_)
        | with_reducible first | refine cD (pTag ?_ ?_) | refine cD (pValid ?_ ?_) | refine cD (sCutP ?_) | refine cD (sHasP ?_)
        | with_reducible refine y_nil (hK := ?_)
        | (with_reducible refine nilTC_split (fun h => ?_) (fun h bn => ?_) <;> (try simp only [List.length_map] at h))
        | ((with_reducible first | refine grd_cases (fun h => ?_) (fun h => ?_) | refine condC_split (fun h => ?_) (fun h => ?_)) <;> (try simp only [h]) <;> (try simp only [NR_, Bool.not_true, Bool.not_false, Bool.not_eq_eq_eq_not, ne_eq] at h))
        | omega | (simp only [LN_]; omega) | (refine maxLen_ok ?_; (first | omega | (simp only [LN_]; omega))))
      all_goals first
        | (have ha : (tagI (runesB s 0)).2.2 = false := by assumption
           rw [ha, Bool.false_and, Bool.false_and] at hK
           exact leafL (sub_cons (sub_cons sub_rfl)) (leT_eq rfl) hK)
        | (have ha : (tagI (runesB s 0)).2.2 = true := by assumption
           have hb : (tagI (runesB s 0)).2.1 = ((runesB s 0).length : Int) := by assumption
           rw [ha, decide_eq_true hb, Bool.true_and, Bool.true_and] at hK
           exact leafL (sub_cons (sub_cons sub_rfl)) (leT_eq rfl) hK)
        | (have ha : (tagI (runesB s 0)).2.2 = true := by assumption
           have hb : ¬ (tagI (runesB s 0)).2.1 = ((runesB s 0).length : Int) := by assumption
           rw [ha, decide_eq_false hb, Bool.true_and, Bool.false_and] at hK
           exact leafL (sub_cons (sub_cons sub_rfl)) (leT_eq rfl) hK)
        | trace_state
  · rw [if_pos h1] at hK
    rw [if_pos h1] at k2
    refine ACallF.dropL (ACallF_intro Try.func56 rfl ?_)
    simp only [Try.ntmps56]
    repeat' (first
      | simp only [WL, intF, strF, WM, Int.reduceToNat, ne_eq, reduceCtorEq, not_false_eq_true, Nat.reduceAdd, Nat.reduceSub, Nat.reduceLT, Nat.reduceLeDiff, Nat.reduceEqDiff, Bool.not_true, Bool.not_false, beq_self_eq_true, true_and, and_true, reduceIte, Bool.false_eq_true, T3, T4, T9, T21, T24, cI in3, cok15, cok18, cok57, cok91, Try.results56, lt_l, k2]
      | simp (disch := first | omega | (simp only [LN_]; omega)) only [wrap_id, getI]
      | with_reducible first | refine andA (hb := ?_) | refine y_appN ?_ | refine y_appS ?_ | refine y_app (hlen := ?_) (hmax := ?_) (hK := fun tk => ?_) | refine y_bs0 ?_ | refine y_bs (hK := ?_) | refine cD (pTag ?_ ?_) | refine cD (pValid ?_ ?_) | refine cD (sCutP ?_) | refine cD (sHasP ?_)
      | with_reducible refine y_nil (hK := ?_)
      | (with_reducible refine nilTC_split (fun h => ?_) (fun h bn => ?_) <;> (try simp only [List.length_map] at h))
      | ((with_reducible first | refine grd_cases (fun h => ?_) (fun h => ?_) | refine condC_split (fun h => ?_) (fun h => ?_)) <;> (try simp only [h]) <;> (try simp only [NR_, Bool.not_true, Bool.not_false, Bool.not_eq_eq_eq_not, ne_eq] at h))
      | omega | (simp only [LN_]; omega) | (refine maxLen_ok ?_; (first | omega | (simp only [LN_]; omega))))
    all_goals first
      | exact leafL sub_rfl (leT_eq rfl) hK
      | trace_state
end Go.Proofs.Ytaeacialcbahnaa
