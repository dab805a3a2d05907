/-
  Walks: chapter 16, a tag made whole, without handles.
-/
import Derived.Test.YtaeacialcbahnaaTc
import Derived.Shelf.Small.Strs
import Derived.KernelRfl
namespace Go.Proofs.Ytaeacialcbahnaa
open Go.Shelf
open Go.Abs
set_option linter.unusedVariables false
set_option linter.unusedSimpArgs false
-- hb: 8000000
section
variable {κ : Ctx} {P : Program} {all rest : List Oper} {Q : Exit → St → Prop} {d : Option Tmp} {t : List AV} {σ : List Res} {fr : Bool} {df : List Deferred}
set_option maxHeartbeats 8000000 in
theorem y_look0 {ty kt et : TypeId} {k : ByteArray} (T : TMap P ty kt et) (hK : goK κ false P all Q d rest ⟨t, σ, fr, df⟩ (.tup [.raw (.string ByteArray.empty), B false]) σ) : actC κ false P all Q d rest ⟨t, σ, fr, df⟩ (.lookup ty true) [.raw (.map none), .raw (.string k)] :=
  actC_mk (act_lookup_nil T hK)
set_option maxHeartbeats 8000000 in
theorem y_look {ty kt et : TypeId} {k : ByteArray} {l : MapL} {clock b : Nat} (i : Nat) (h : σ[i]? = some (.blk b (mapO l clock))) (T : TMap P ty kt et) (hK : goK κ false P all Q d rest ⟨t, σ, fr, df⟩ (.tup [.raw (.string ((lookL l k).getD ByteArray.empty)), B (lookL l k).isSome]) σ) : actC κ false P all Q d rest ⟨t, σ, fr, df⟩ (.lookup ty true) [.raw (.map (some b)), .raw (.string k)] :=
  actC_mk (act_lookup i h T hK)
end
set_option maxHeartbeats 8000000 in
theorem tm40 : TMap Try.prog 40 9 9 := ⟨by kernel_rfl, by kernel_rfl, by kernel_rfl⟩
variable {κ : Ctx} {σ : List Res} {K : Ret → List Res → Prop} {o o' : Option (Option (Nat × Nat))}
/-- The first place of a sign in a text; -1: none. -/
def idxB (s : ByteArray) (c : Int) : Int := Go.Lib.indexByte s.data.toList c.toNat.toUInt8

-- strings.IndexByte
def renI : Go.Shelf.Ren := ⟨fun | 137 => 58 | 217 => 93 | 266 => 114 | n => n, fun | 3 => 3 | 5 => 5 | 9 => 9 | n => n, fun n => n⟩
set_option maxHeartbeats 8000000 in
theorem laysI : Lays.n137 Try.prog renI where
  mixed := by kernel_rfl
  f137 := Try.func58.trans (congrArg some (by kernel_rfl))
  f217 := Try.func93.trans (congrArg some (by kernel_rfl))
  f266 := Try.func114.trans (congrArg some (by kernel_rfl))
  t3 := Try.underlying3
  a3 := Try.isAgg3
  z3 := Try.sizeOf3
  v3 := Try.zeroValue3
  t5 := Try.underlying5
  a5 := Try.isAgg5
  z5 := Try.sizeOf5
  v5 := Try.zeroValue5
  t9 := Try.underlying9
  a9 := Try.isAgg9
  z9 := Try.sizeOf9
  v9 := Try.zeroValue9
set_option maxHeartbeats 8000000 in
theorem sIndexB {s : ByteArray} {c : Int} (hK : K (.ret (I (idxB s c))) σ) : ACallF κ Try.prog 58 [.raw (.string s), .raw (.int .u8 c)] σ K :=
  ACallF_of_calls (xs := [.string s, .int .u8 c]) (fun w => Any.strings_IndexByte laysI s c w) hK

def pre0 (h : ByteArray) : ByteArray × Bool :=
  if (h.toList == bangB.toList) = true then (bangB, true) else if (h.toList == bang2B.toList) = true then (yB, true) else (({ data := #[] } : ByteArray), false)

-- tags.Scope).prefix
set_option maxHeartbeats 8000000 in
theorem tPrefix0 {h : ByteArray} {b : Nat} (hK : K (.ret (.tup [.raw (.string (pre0 h).1), B (pre0 h).2])) (.obj b [.raw (.map none)] :: σ)) : ACallF κ Try.prog 59 [.raw (.pointer (some ⟨b, 0, none⟩)), .raw (.string h)] (.obj b [.raw (.map none)] :: σ) K := by
  unfold pre0 at hK
  cases h1 : (h.toList == bangB.toList)
  · cases h2 : (h.toList == bang2B.toList)
    · rw [if_neg (by rw [h1]; decide), if_neg (by rw [h2]; decide)] at hK
      refine ACallF.dropL (ACallF_intro Try.func59 rfl ?_)
      simp only [Try.ntmps59]
      repeat' (first
        | simp only [WL, intF, strF, WM, Int.reduceToNat, ne_eq, reduceCtorEq, not_false_eq_true, Nat.reduceAdd, Nat.reduceSub, Nat.reduceLT, Nat.reduceLeDiff, Nat.reduceEqDiff, Bool.not_true, Bool.not_false, beq_self_eq_true, true_and, and_true, reduceIte, Bool.false_eq_true, T4, T9, T40, T42, T86, fC fl42_0, fR fl42_0, Try.results59, lt_y, lt_b, lt_b2, h1, h2]
        | simp (disch := first | omega | (simp only [LN_]; omega)) only [wrap_id, getI]
        | with_reducible first | refine andA (hb := ?_) | refine y_load (hK := ?_)
        | ( refine y_look0 tm40 ?_)
        | with_reducible refine y_nil (hK := ?_)
        | (with_reducible refine nilTC_split (fun h => ?_) (fun h bn => ?_) <;> (try simp only [List.length_map] at h))
        | ((with_reducible first | refine grd_cases (fun h => ?_) (fun h => ?_) | refine condC_split (fun h => ?_) (fun h => ?_)) <;> (try simp only [h]) <;> (try simp only [NR_, Bool.not_true, Bool.not_false, Bool.not_eq_eq_eq_not, ne_eq] at h))
        | omega | (simp only [LN_]; omega))
      all_goals first
        | exact leafL sub_rfl (leT_eq rfl) hK
        | trace_state
    · rw [if_neg (by rw [h1]; decide), if_pos h2] at hK
      refine ACallF.dropL (ACallF_intro Try.func59 rfl ?_)
      simp only [Try.ntmps59]
      repeat' (first
        | simp only [WL, intF, strF, WM, Int.reduceToNat, ne_eq, reduceCtorEq, not_false_eq_true, Nat.reduceAdd, Nat.reduceSub, Nat.reduceLT, Nat.reduceLeDiff, Nat.reduceEqDiff, Bool.not_true, Bool.not_false, beq_self_eq_true, true_and, and_true, reduceIte, Bool.false_eq_true, T4, T9, T40, T42, T86, fC fl42_0, fR fl42_0, Try.results59, lt_y, lt_b, lt_b2, h1, h2]
        | simp (disch := first | omega | (simp only [LN_]; omega)) only [wrap_id, getI]
        | with_reducible first | refine andA (hb := ?_) | refine y_load (hK := ?_)
        | ( refine y_look0 tm40 ?_)
        | with_reducible refine y_nil (hK := ?_)
        | (with_reducible refine nilTC_split (fun h => ?_) (fun h bn => ?_) <;> (try simp only [List.length_map] at h))
        | ((with_reducible first | refine grd_cases (fun h => ?_) (fun h => ?_) | refine condC_split (fun h => ?_) (fun h => ?_)) <;> (try simp only [h]) <;> (try simp only [NR_, Bool.not_true, Bool.not_false, Bool.not_eq_eq_eq_not, ne_eq] at h))
        | omega | (simp only [LN_]; omega))
      all_goals first
        | exact leafL sub_rfl (leT_eq rfl) hK
        | trace_state
  · rw [if_pos h1] at hK
    refine ACallF.dropL (ACallF_intro Try.func59 rfl ?_)
    simp only [Try.ntmps59]
    repeat' (first
      | simp only [WL, intF, strF, WM, Int.reduceToNat, ne_eq, reduceCtorEq, not_false_eq_true, Nat.reduceAdd, Nat.reduceSub, Nat.reduceLT, Nat.reduceLeDiff, Nat.reduceEqDiff, Bool.not_true, Bool.not_false, beq_self_eq_true, true_and, and_true, reduceIte, Bool.false_eq_true, T4, T9, T40, T42, T86, fC fl42_0, fR fl42_0, Try.results59, lt_y, lt_b, lt_b2, h1]
      | simp (disch := first | omega | (simp only [LN_]; omega)) only [wrap_id, getI]
      | with_reducible first | refine andA (hb := ?_) | refine y_load (hK := ?_)
      | ( refine y_look0 tm40 ?_)
      | with_reducible refine y_nil (hK := ?_)
      | (with_reducible refine nilTC_split (fun h => ?_) (fun h bn => ?_) <;> (try simp only [List.length_map] at h))
      | ((with_reducible first | refine grd_cases (fun h => ?_) (fun h => ?_) | refine condC_split (fun h => ?_) (fun h => ?_)) <;> (try simp only [h]) <;> (try simp only [NR_, Bool.not_true, Bool.not_false, Bool.not_eq_eq_eq_not, ne_eq] at h))
      | omega | (simp only [LN_]; omega))
    all_goals first
      | exact leafL sub_rfl (leT_eq rfl) hK
      | trace_state
/-- Where a handle ends. -/
def cutN (s : ByteArray) : Nat := if 0 ≤ idxB (s.extract 1 s.size) 33 then (idxB (s.extract 1 s.size) 33).toNat + 2 else 1
def whole0 (s : ByteArray) : ByteArray × Int :=
  if (s.toList == ({ data := #[] } : ByteArray).toList) = true ∨ (s.toList == bangB.toList) = true then (s, 0)
  else if toldB s = false then (({ data := #[] } : ByteArray), 11)
  else if hasB s lessB = true then (s.extract 1 s.size, 0)
  else if (pre0 (s.extract 0 (cutN s))).2 = false then (({ data := #[] } : ByteArray), 11)
  else ((pre0 (s.extract 0 (cutN s))).1 ++ s.extract (cutN s) s.size, 0)
set_option maxHeartbeats 8000000 in
theorem pre0_size (h : ByteArray) : (pre0 h).1.size ≤ 18 := by
  unfold pre0
  split
  · rw [z_b]; decide
  · split
    · rw [z_y]; decide
    · decide +kernel

-- tags.Scope).Whole
set_option maxHeartbeats 8000000 in
theorem tWhole0 {s : ByteArray} {b : Nat} (hs : s.size ≤ 1000000) (hn : cutN s ≤ s.size) (hi : -1 ≤ idxB (s.extract 1 s.size) 33 ∧ idxB (s.extract 1 s.size) 33 ≤ 1000000) (hK : K (.ret (.tup [.raw (.string (whole0 s).1), I (whole0 s).2])) (.obj b [.raw (.map none)] :: σ)) : ACallF κ Try.prog 25 [.raw (.pointer (some ⟨b, 0, none⟩)), .raw (.string s)] (.obj b [.raw (.map none)] :: σ) K := by
  have y4 := z_l
  have e2 := z_ext (s := s) 1
  have e3 := z_ext (s := s) (cutN s)
  have e4 := pre0_size (s.extract 0 (cutN s))
  have k2 : cutB s lessB = if hasB s lessB = true then (s.extract 1 s.size, true) else (s, false) := rfl
  unfold whole0 at hK
  cases h0 : (s.toList == ({ data := #[] } : ByteArray).toList)
  · cases h1 : (s.toList == bangB.toList)
    · rw [if_neg (fun e => by rw [h0, h1] at e; exact e.elim (fun e => by cases e) (fun e => by cases e))] at hK
      have hpos : 1 ≤ s.size := by
        rcases Nat.eq_zero_or_pos s.size with h | h
        · have : s = ByteArray.empty := ByteArray.size_eq_zero_iff.mp h
          subst this
          revert h0; decide +kernel
        · exact h
      cases h2 : toldB s
      · rw [if_pos h2] at hK
        refine ACallF.dropL (ACallF_intro Try.func25 rfl ?_)
        simp only [Try.ntmps25]
        repeat' (first
          | simp only [WL, intF, strF, WM, Int.reduceToNat, ne_eq, reduceCtorEq, not_false_eq_true, Nat.reduceAdd, Nat.reduceSub, Nat.reduceLT, Nat.reduceLeDiff, Nat.reduceEqDiff, Bool.not_true, Bool.not_false, beq_self_eq_true, true_and, and_true, reduceIte, Bool.false_eq_true, T3, T4, T5, T9, T40, T42, T50, T86, cok56, cok57, cok58, cok59, Try.results25, lt_b, lt_l, h0, h1, h2]
          | simp (disch := first | omega | (simp only [LN_]; omega)) only [wrap_id, getI]
          | with_reducible first | refine andA (hb := ?_) | refine cD (tTold ?_ ?_) | refine cD (sCutP ?_) | refine cD (sIndexB ?_) | refine cD (tPrefix0 ?_)
          | with_reducible refine y_nil (hK := ?_)
          | (with_reducible refine nilTC_split (fun h => ?_) (fun h bn => ?_) <;> (try simp only [List.length_map] at h))
          | ((with_reducible first | refine grd_cases (fun h => ?_) (fun h => ?_) | refine condC_split (fun h => ?_) (fun h => ?_)) <;> (try simp only [h]) <;> (try simp only [NR_, Bool.not_true, Bool.not_false, Bool.not_eq_eq_eq_not, ne_eq] at h))
          | omega | (simp only [LN_]; omega))
        all_goals first
          | exact leafL sub_rfl (leT_eq rfl) hK
          | trace_state
      · rw [if_neg (by rw [h2]; decide)] at hK
        cases h3 : hasB s lessB
        · rw [if_neg (by rw [h3]; decide)] at hK
          rw [if_neg (by rw [h3]; decide)] at k2
          have hc : 0 ≤ idxB (s.extract 1 s.size) 33 → idxB (s.extract 1 s.size) 33 + 2 = (cutN s : Int) := fun h => by unfold cutN; rw [if_pos h]; omega
          have hc2 : ¬ 0 ≤ idxB (s.extract 1 s.size) 33 → (1 : Int) = (cutN s : Int) := fun h => by unfold cutN; rw [if_neg h]; rfl
          by_cases h4 : 0 ≤ idxB (s.extract 1 s.size) 33
          · have hc := hc h4
            cases h5 : (pre0 (s.extract 0 (cutN s))).2
            · rw [if_pos h5] at hK
              refine ACallF.dropL (ACallF_intro Try.func25 rfl ?_)
              simp only [Try.ntmps25]
              repeat' (first
                | simp only [WL, intF, strF, WM, Int.reduceToNat, ne_eq, reduceCtorEq, not_false_eq_true, Nat.reduceAdd, Nat.reduceSub, Nat.reduceLT, Nat.reduceLeDiff, Nat.reduceEqDiff, Bool.not_true, Bool.not_false, beq_self_eq_true, true_and, and_true, reduceIte, Bool.false_eq_true, T3, T4, T5, T9, T40, T42, T50, T86, cok56, cok57, cok58, cok59, Try.results25, lt_b, lt_l, h0, h1, h2, k2, hc, h5, Int.toNat_natCast, Int.toNat_zero]
                | simp (disch := first | omega | (simp only [LN_]; omega)) only [wrap_id, getI, str_add]
                | with_reducible first | refine andA (hb := ?_) | refine cD (tTold ?_ ?_) | refine cD (sCutP ?_) | refine cD (sIndexB ?_) | refine cD (tPrefix0 ?_)
                | with_reducible refine y_nil (hK := ?_)
                | (with_reducible refine nilTC_split (fun h => ?_) (fun h bn => ?_) <;> (try simp only [List.length_map] at h))
                | ((with_reducible first | refine grd_cases (fun h => ?_) (fun h => ?_) | refine condC_split (fun h => ?_) (fun h => ?_)) <;> (try simp only [h]) <;> (try simp only [NR_, Bool.not_true, Bool.not_false, Bool.not_eq_eq_eq_not, ne_eq] at h))
                | omega | (simp only [LN_]; omega))
              all_goals first
                | exact leafL sub_rfl (leT_eq rfl) hK
                | (exfalso; omega)
                | trace_state
            · rw [if_neg (by rw [h5]; decide)] at hK
              refine ACallF.dropL (ACallF_intro Try.func25 rfl ?_)
              simp only [Try.ntmps25]
              repeat' (first
                | simp only [WL, intF, strF, WM, Int.reduceToNat, ne_eq, reduceCtorEq, not_false_eq_true, Nat.reduceAdd, Nat.reduceSub, Nat.reduceLT, Nat.reduceLeDiff, Nat.reduceEqDiff, Bool.not_true, Bool.not_false, beq_self_eq_true, true_and, and_true, reduceIte, Bool.false_eq_true, T3, T4, T5, T9, T40, T42, T50, T86, cok56, cok57, cok58, cok59, Try.results25, lt_b, lt_l, h0, h1, h2, k2, hc, h5, Int.toNat_natCast, Int.toNat_zero]
                | simp (disch := first | omega | (simp only [LN_]; omega)) only [wrap_id, getI, str_add]
                | with_reducible first | refine andA (hb := ?_) | refine cD (tTold ?_ ?_) | refine cD (sCutP ?_) | refine cD (sIndexB ?_) | refine cD (tPrefix0 ?_)
                | with_reducible refine y_nil (hK := ?_)
                | (with_reducible refine nilTC_split (fun h => ?_) (fun h bn => ?_) <;> (try simp only [List.length_map] at h))
                | ((with_reducible first | refine grd_cases (fun h => ?_) (fun h => ?_) | refine condC_split (fun h => ?_) (fun h => ?_)) <;> (try simp only [h]) <;> (try simp only [NR_, Bool.not_true, Bool.not_false, Bool.not_eq_eq_eq_not, ne_eq] at h))
                | omega | (simp only [LN_]; omega))
              all_goals first
                | exact leafL sub_rfl (leT_eq rfl) hK
                | (exfalso; omega)
                | trace_state
          · have hc := hc2 h4
            have hc1 : cutN s = 1 := by omega
            rw [hc1] at hK e3 e4
            cases h5 : (pre0 (s.extract 0 1)).2
            · rw [if_pos h5] at hK
              refine ACallF.dropL (ACallF_intro Try.func25 rfl ?_)
              simp only [Try.ntmps25]
              repeat' (first
                | simp only [WL, intF, strF, WM, Int.reduceToNat, ne_eq, reduceCtorEq, not_false_eq_true, Nat.reduceAdd, Nat.reduceSub, Nat.reduceLT, Nat.reduceLeDiff, Nat.reduceEqDiff, Bool.not_true, Bool.not_false, beq_self_eq_true, true_and, and_true, reduceIte, Bool.false_eq_true, T3, T4, T5, T9, T40, T42, T50, T86, cok56, cok57, cok58, cok59, Try.results25, lt_b, lt_l, h0, h1, h2, k2, h5, Int.toNat_natCast, Int.toNat_zero]
                | simp (disch := first | omega | (simp only [LN_]; omega)) only [wrap_id, getI, str_add]
                | with_reducible first | refine andA (hb := ?_) | refine cD (tTold ?_ ?_) | refine cD (sCutP ?_) | refine cD (sIndexB ?_) | refine cD (tPrefix0 ?_)
                | with_reducible refine y_nil (hK := ?_)
                | (with_reducible refine nilTC_split (fun h => ?_) (fun h bn => ?_) <;> (try simp only [List.length_map] at h))
                | ((with_reducible first | refine grd_cases (fun h => ?_) (fun h => ?_) | refine condC_split (fun h => ?_) (fun h => ?_)) <;> (try simp only [h]) <;> (try simp only [NR_, Bool.not_true, Bool.not_false, Bool.not_eq_eq_eq_not, ne_eq] at h))
                | omega | (simp only [LN_]; omega))
              all_goals first
                | exact leafL sub_rfl (leT_eq rfl) hK
                | (exfalso; omega)
                | trace_state
            · rw [if_neg (by rw [h5]; decide)] at hK
              refine ACallF.dropL (ACallF_intro Try.func25 rfl ?_)
              simp only [Try.ntmps25]
              repeat' (first
                | simp only [WL, intF, strF, WM, Int.reduceToNat, ne_eq, reduceCtorEq, not_false_eq_true, Nat.reduceAdd, Nat.reduceSub, Nat.reduceLT, Nat.reduceLeDiff, Nat.reduceEqDiff, Bool.not_true, Bool.not_false, beq_self_eq_true, true_and, and_true, reduceIte, Bool.false_eq_true, T3, T4, T5, T9, T40, T42, T50, T86, cok56, cok57, cok58, cok59, Try.results25, lt_b, lt_l, h0, h1, h2, k2, h5, Int.toNat_natCast, Int.toNat_zero]
                | simp (disch := first | omega | (simp only [LN_]; omega)) only [wrap_id, getI, str_add]
                | with_reducible first | refine andA (hb := ?_) | refine cD (tTold ?_ ?_) | refine cD (sCutP ?_) | refine cD (sIndexB ?_) | refine cD (tPrefix0 ?_)
                | with_reducible refine y_nil (hK := ?_)
                | (with_reducible refine nilTC_split (fun h => ?_) (fun h bn => ?_) <;> (try simp only [List.length_map] at h))
                | ((with_reducible first | refine grd_cases (fun h => ?_) (fun h => ?_) | refine condC_split (fun h => ?_) (fun h => ?_)) <;> (try simp only [h]) <;> (try simp only [NR_, Bool.not_true, Bool.not_false, Bool.not_eq_eq_eq_not, ne_eq] at h))
                | omega | (simp only [LN_]; omega))
              all_goals first
                | exact leafL sub_rfl (leT_eq rfl) hK
                | (exfalso; omega)
                | trace_state
        · rw [if_pos h3] at hK
          rw [if_pos h3] at k2
          refine ACallF.dropL (ACallF_intro Try.func25 rfl ?_)
          simp only [Try.ntmps25]
          repeat' (first
            | simp only [WL, intF, strF, WM, Int.reduceToNat, ne_eq, reduceCtorEq, not_false_eq_true, Nat.reduceAdd, Nat.reduceSub, Nat.reduceLT, Nat.reduceLeDiff, Nat.reduceEqDiff, Bool.not_true, Bool.not_false, beq_self_eq_true, true_and, and_true, reduceIte, Bool.false_eq_true, T3, T4, T5, T9, T40, T42, T50, T86, cok56, cok57, cok58, cok59, Try.results25, lt_b, lt_l, h0, h1, h2, k2]
            | simp (disch := first | omega | (simp only [LN_]; omega)) only [wrap_id, getI]
            | with_reducible first | refine andA (hb := ?_) | refine cD (tTold ?_ ?_) | refine cD (sCutP ?_) | refine cD (sIndexB ?_) | refine cD (tPrefix0 ?_)
            | with_reducible refine y_nil (hK := ?_)
            | (with_reducible refine nilTC_split (fun h => ?_) (fun h bn => ?_) <;> (try simp only [List.length_map] at h))
            | ((with_reducible first | refine grd_cases (fun h => ?_) (fun h => ?_) | refine condC_split (fun h => ?_) (fun h => ?_)) <;> (try simp only [h]) <;> (try simp only [NR_, Bool.not_true, Bool.not_false, Bool.not_eq_eq_eq_not, ne_eq] at h))
            | omega | (simp only [LN_]; omega))
          all_goals first
            | exact leafL sub_rfl (leT_eq rfl) hK
            | trace_state
    · rw [if_pos (.inr h1)] at hK
      refine ACallF.dropL (ACallF_intro Try.func25 rfl ?_)
      simp only [Try.ntmps25]
      repeat' (first
        | simp only [WL, intF, strF, WM, Int.reduceToNat, ne_eq, reduceCtorEq, not_false_eq_true, Nat.reduceAdd, Nat.reduceSub, Nat.reduceLT, Nat.reduceLeDiff, Nat.reduceEqDiff, Bool.not_true, Bool.not_false, beq_self_eq_true, true_and, and_true, reduceIte, Bool.false_eq_true, T3, T4, T5, T9, T40, T42, T50, T86, cok56, cok57, cok58, cok59, Try.results25, lt_b, h0, h1]
        | simp (disch := first | omega | (simp only [LN_]; omega)) only [wrap_id, getI]
        | with_reducible first | refine andA (hb := ?_) | refine cD (tTold ?_ ?_) | refine cD (sCutP ?_) | refine cD (sIndexB ?_) | refine cD (tPrefix0 ?_)
        | with_reducible refine y_nil (hK := ?_)
        | (with_reducible refine nilTC_split (fun h => ?_) (fun h bn => ?_) <;> (try simp only [List.length_map] at h))
        | ((with_reducible first | refine grd_cases (fun h => ?_) (fun h => ?_) | refine condC_split (fun h => ?_) (fun h => ?_)) <;> (try simp only [h]) <;> (try simp only [NR_, Bool.not_true, Bool.not_false, Bool.not_eq_eq_eq_not, ne_eq] at h))
        | omega | (simp only [LN_]; omega))
      all_goals first
        | exact leafL sub_rfl (leT_eq rfl) hK
        | trace_state
  · rw [if_pos (.inl h0)] at hK
    refine ACallF.dropL (ACallF_intro Try.func25 rfl ?_)
    simp only [Try.ntmps25]
    repeat' (first
      | simp only [WL, intF, strF, WM, Int.reduceToNat, ne_eq, reduceCtorEq, not_false_eq_true, Nat.reduceAdd, Nat.reduceSub, Nat.reduceLT, Nat.reduceLeDiff, Nat.reduceEqDiff, Bool.not_true, Bool.not_false, beq_self_eq_true, true_and, and_true, reduceIte, Bool.false_eq_true, T3, T4, T5, T9, T40, T42, T50, T86, cok56, cok57, cok58, cok59, Try.results25, lt_b, h0]
      | simp (disch := first | omega | (simp only [LN_]; omega)) only [wrap_id, getI]
      | with_reducible first | refine andA (hb := ?_) | refine cD (tTold ?_ ?_) | refine cD (sCutP ?_) | refine cD (sIndexB ?_) | refine cD (tPrefix0 ?_)
      | with_reducible refine y_nil (hK := ?_)
      | (with_reducible refine nilTC_split (fun h => ?_) (fun h bn => ?_) <;> (try simp only [List.length_map] at h))
      | ((with_reducible first | refine grd_cases (fun h => ?_) (fun h => ?_) | refine condC_split (fun h => ?_) (fun h => ?_)) <;> (try simp only [h]) <;> (try simp only [NR_, Bool.not_true, Bool.not_false, Bool.not_eq_eq_eq_not, ne_eq] at h))
      | omega | (simp only [LN_]; omega))
    all_goals first
      | exact leafL sub_rfl (leT_eq rfl) hK
      | trace_state
end Go.Proofs.Ytaeacialcbahnaa
