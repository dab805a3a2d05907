/-
  Texts Tg, Th, Ti, Tj, one behind the other.
-/
import Derived.Test.YtaeacialcbahnaaG12
/-
  Walks: chapter 16, handles that are set.
-/

namespace Go.Proofs.Ytaeacialcbahnaa
open Go.Abs
set_option linter.unusedVariables false
set_option linter.unusedSimpArgs false
-- hb: 8000000
section
variable {κ : Ctx} {P : Program} {all rest : List Oper} {Q : Exit → St → Prop} {d : Option Tmp} {t : List AV} {σ : List Res} {fr : Bool} {df : List Deferred}
set_option maxHeartbeats 8000000 in
theorem y_mkmap {ty : TypeId} (hK : ∀ b, goK κ false P all Q d rest ⟨t, σ, fr, df⟩ (.raw (.map (some b))) (.blk b (mapO [] 0) :: σ)) : actC κ false P all Q d rest ⟨t, σ, fr, df⟩ (.makeMap ty) [] :=
  actC_mk (act_mkmap hK)
def mapC (κ : Ctx) (dm : Bool) (P : Program) (all : List Oper) (Q : Exit → St → Prop) (d : Option Tmp) (rest : List Oper) (s : St) (ty : TypeId) (m k x : AV) : Prop := actM κ dm P (.mapUpdate ty) [m, k, x] s.σ (fun _ σ' => goK κ dm P all Q d rest s .any σ')
set_option maxHeartbeats 8000000 in
theorem op_mapset {dm : Bool} {ty : TypeId} {m k x : Operand} {ty' : TypeId} {pos : String} {af : Array Edge} : opsR κ dm P all Q (⟨d, .mapUpdate ty m k x, ty', pos, af, none⟩ :: rest) ⟨t, σ, fr, df⟩ = mapC κ dm P all Q d rest ⟨t, σ, fr, df⟩ ty (St.ev ⟨t, σ, fr, df⟩ m) (St.ev ⟨t, σ, fr, df⟩ k) (St.ev ⟨t, σ, fr, df⟩ x) := propext Iff.rfl
set_option maxHeartbeats 8000000 in
theorem y_mapset {ty kt et : TypeId} {k x : ByteArray} {l : MapL} {clock b : Nat} (i : Nat) (h : σ[i]? = some (.blk b (mapO l clock))) (T : TMap P ty kt et) (hn : lookL l k = none)
    (hK : goK κ false P all Q d rest ⟨t, σ, fr, df⟩ .any (σ.set i (.blk b (mapO (l ++ [(k, x, clock)]) (clock + 1))))) : mapC κ false P all Q d rest ⟨t, σ, fr, df⟩ ty (.raw (.map (some b))) (.raw (.string k)) (.raw (.string x)) :=
  act_mapset i h T hn hK
set_option maxHeartbeats 8000000 in
theorem y_mapeq {ty kt et : TypeId} {b : Nat} (T : TMap P ty kt et) (hK : goK κ false P all Q d rest ⟨t, σ, fr, df⟩ (B false) σ) : binC κ false P all Q d rest ⟨t, σ, fr, df⟩ .eql ty (.raw (.map (some b))) (.raw (.map none)) :=
  ⟨rfl, act_mapeq T hK⟩
set_option maxHeartbeats 8000000 in
theorem y_mapnil {ty kt et : TypeId} (T : TMap P ty kt et) (hK : goK κ false P all Q d rest ⟨t, σ, fr, df⟩ (B true) σ) : binC κ false P all Q d rest ⟨t, σ, fr, df⟩ .eql ty (.raw (.map none)) (.raw (.map none)) :=
  ⟨rfl, act_mapnil (m := none) T hK⟩
end
variable {κ : Ctx} {σ : List Res} {K : Ret → List Res → Prop} {o o' : Option (Option (Nat × Nat))}

-- tags.Scope).Set
set_option maxHeartbeats 8000000 in
theorem tSet0 {h p : ByteArray} {b : Nat} (hK : ∀ mb, K (.ret (B true)) (.blk mb (mapO [(h, p, 0)] 1) :: .obj b [.raw (.map (some mb))] :: σ)) : ACallF κ Try.prog 23 [.raw (.pointer (some ⟨b, 0, none⟩)), .raw (.string h), .raw (.string p)] (.obj b [.raw (.map none)] :: σ) K := by
  refine ACallF.dropL (ACallF_intro Try.func23 rfl ?_)
  simp only [Try.ntmps23]
  repeat' (first
    | simp only [WL, intF, strF, WM, Int.reduceToNat, ne_eq, reduceCtorEq, not_false_eq_true, Nat.reduceAdd, Nat.reduceSub, Nat.reduceLT, Nat.reduceLeDiff, Nat.reduceEqDiff, Bool.not_true, Bool.not_false, beq_self_eq_true, true_and, and_true, reduceIte, Bool.false_eq_true, T4, T9, T40, T42, T86, fC fl42_0, fR fl42_0, Try.results23, op_mapset]
    | simp (disch := first | omega | (simp only [LN_]; omega)) only [wrap_id, getI]
    | with_reducible first | refine andA (hb := ?_) | refine y_load (hK := ?_) | refine y_store (hK := ?_)
    | ( refine y_look0 tm40 ?_)
    | ( refine y_mapnil tm40 ?_)
    | ( refine y_mkmap (fun mb => ?_))
    | ( refine y_mapset 0 rfl tm40 rfl ?_)
    | with_reducible refine y_nil (hK := ?_)
    | (with_reducible refine nilTC_split (fun h => ?_) (fun h bn => ?_) <;> (try simp only [List.length_map] at h))
    | ((with_reducible first | refine grd_cases (fun h => ?_) (fun h => ?_) | refine condC_split (fun h => ?_) (fun h => ?_)) <;> (try simp only [h]) <;> (try simp only [NR_, Bool.not_true, Bool.not_false, Bool.not_eq_eq_eq_not, ne_eq] at h))
    | omega | (simp only [LN_]; omega))
  all_goals first
    | exact leafL sub_rfl (leT_eq rfl) (hK _)
    | trace_state
set_option maxHeartbeats 8000000 in
theorem tSet {h p : ByteArray} {b mb c : Nat} {l : MapL} (h1 : lookL l h = none → K (.ret (B true)) (.blk mb (mapO (l ++ [(h, p, c)]) (c + 1)) :: .obj b [.raw (.map (some mb))] :: σ)) (h2 : (lookL l h).isSome = true → K (.ret (B false)) (.blk mb (mapO l c) :: .obj b [.raw (.map (some mb))] :: σ)) : ACallF κ Try.prog 23 [.raw (.pointer (some ⟨b, 0, none⟩)), .raw (.string h), .raw (.string p)] (.blk mb (mapO l c) :: .obj b [.raw (.map (some mb))] :: σ) K := by
  cases hn : lookL l h
  · have hK := h1 hn
    have hs : (lookL l h).isSome = false := by rw [hn]; rfl
    refine ACallF.dropL (ACallF_intro Try.func23 rfl ?_)
    simp only [Try.ntmps23]
    repeat' (first
      | simp only [WL, intF, strF, WM, Int.reduceToNat, ne_eq, reduceCtorEq, not_false_eq_true, Nat.reduceAdd, Nat.reduceSub, Nat.reduceLT, Nat.reduceLeDiff, Nat.reduceEqDiff, Bool.not_true, Bool.not_false, beq_self_eq_true, true_and, and_true, reduceIte, Bool.false_eq_true, T4, T9, T40, T42, T86, fC fl42_0, fR fl42_0, Try.results23, hs, op_mapset]
      | simp (disch := first | omega | (simp only [LN_]; omega)) only [wrap_id, getI]
      | with_reducible first | refine andA (hb := ?_) | refine y_load (hK := ?_) | refine y_store (hK := ?_)
      | ( refine y_look 0 rfl tm40 ?_)
      | ( refine y_mapeq tm40 ?_)
      | ( refine y_mapset 0 rfl tm40 hn ?_)
      | with_reducible refine y_nil (hK := ?_)
      | (with_reducible refine nilTC_split (fun h => ?_) (fun h bn => ?_) <;> (try simp only [List.length_map] at h))
      | ((with_reducible first | refine grd_cases (fun h => ?_) (fun h => ?_) | refine condC_split (fun h => ?_) (fun h => ?_)) <;> (try simp only [h]) <;> (try simp only [NR_, Bool.not_true, Bool.not_false, Bool.not_eq_eq_eq_not, ne_eq] at h))
      | omega | (simp only [LN_]; omega))
    all_goals first
      | exact leafL sub_rfl (leT_eq rfl) hK
      | trace_state
  · have hs : (lookL l h).isSome = true := by rw [hn]; rfl
    have hK := h2 hs
    refine ACallF.dropL (ACallF_intro Try.func23 rfl ?_)
    simp only [Try.ntmps23]
    repeat' (first
      | simp only [WL, intF, strF, WM, Int.reduceToNat, ne_eq, reduceCtorEq, not_false_eq_true, Nat.reduceAdd, Nat.reduceSub, Nat.reduceLT, Nat.reduceLeDiff, Nat.reduceEqDiff, Bool.not_true, Bool.not_false, beq_self_eq_true, true_and, and_true, reduceIte, Bool.false_eq_true, T4, T9, T40, T42, T86, fC fl42_0, fR fl42_0, Try.results23, hs, op_mapset]
      | simp (disch := first | omega | (simp only [LN_]; omega)) only [wrap_id, getI]
      | with_reducible first | refine andA (hb := ?_) | refine y_load (hK := ?_) | refine y_store (hK := ?_)
      | ( refine y_look 0 rfl tm40 ?_)
      | with_reducible refine y_nil (hK := ?_)
      | (with_reducible refine nilTC_split (fun h => ?_) (fun h bn => ?_) <;> (try simp only [List.length_map] at h))
      | ((with_reducible first | refine grd_cases (fun h => ?_) (fun h => ?_) | refine condC_split (fun h => ?_) (fun h => ?_)) <;> (try simp only [h]) <;> (try simp only [NR_, Bool.not_true, Bool.not_false, Bool.not_eq_eq_eq_not, ne_eq] at h))
      | omega | (simp only [LN_]; omega))
    all_goals first
      | exact leafL sub_rfl (leT_eq rfl) hK
      | trace_state
def preM (l : MapL) (h : ByteArray) : ByteArray × Bool := match lookL l h with | some p => (p, true) | none => pre0 h

-- tags.Scope).prefix
set_option maxHeartbeats 8000000 in
theorem tPrefixM {h : ByteArray} {b mb c : Nat} {l : MapL} (hK : K (.ret (.tup [.raw (.string (preM l h).1), B (preM l h).2])) (.blk mb (mapO l c) :: .obj b [.raw (.map (some mb))] :: σ)) : ACallF κ Try.prog 59 [.raw (.pointer (some ⟨b, 0, none⟩)), .raw (.string h)] (.blk mb (mapO l c) :: .obj b [.raw (.map (some mb))] :: σ) K := by
  unfold preM at hK
  cases hn : lookL l h
  · simp only [hn] at hK
    unfold pre0 at hK
    have hs : (lookL l h).isSome = false := by rw [hn]; rfl
    cases h1 : (h.toList == bangB.toList)
    · cases h2 : (h.toList == bang2B.toList)
      · rw [if_neg (by rw [h1]; decide), if_neg (by rw [h2]; decide)] at hK
        refine ACallF.dropL (ACallF_intro Try.func59 rfl ?_)
        simp only [Try.ntmps59]
        repeat' (first
          | simp only [WL, intF, strF, WM, Int.reduceToNat, ne_eq, reduceCtorEq, not_false_eq_true, Nat.reduceAdd, Nat.reduceSub, Nat.reduceLT, Nat.reduceLeDiff, Nat.reduceEqDiff, Bool.not_true, Bool.not_false, beq_self_eq_true, true_and, and_true, reduceIte, Bool.false_eq_true, T4, T9, T40, T42, T86, fC fl42_0, fR fl42_0, Try.results59, hs, lt_y, lt_b, lt_b2, h1, h2]
          | simp (disch := first | omega | (simp only [LN_]; omega)) only [wrap_id, getI]
          | with_reducible first | refine andA (hb := ?_) | refine y_load (hK := ?_)
          | ( refine y_look 0 rfl tm40 ?_)
          | with_reducible refine y_nil (hK := ?_)
          | (with_reducible refine nilTC_split (fun h => ?_) (fun h bn => ?_) <;> (try simp only [List.length_map] at h))
          | ((with_reducible first | refine grd_cases (fun h => ?_) (fun h => ?_) | refine condC_split (fun h => ?_) (fun h => ?_)) <;> (try simp only [h]) <;> (try simp only [NR_, Bool.not_true, Bool.not_false, Bool.not_eq_eq_eq_not, ne_eq] at h))
          | omega | (simp only [LN_]; omega))
        all_goals first
          | exact leafL sub_rfl (leT_eq rfl) hK
          | trace_state
      · rw [if_neg (by rw [h1]; decide), if_pos h2] at hK
        refine ACallF.dropL (ACallF_intro Try.func59 rfl ?_)
        simp only [Try.ntmps59]
        repeat' (first
          | simp only [WL, intF, strF, WM, Int.reduceToNat, ne_eq, reduceCtorEq, not_false_eq_true, Nat.reduceAdd, Nat.reduceSub, Nat.reduceLT, Nat.reduceLeDiff, Nat.reduceEqDiff, Bool.not_true, Bool.not_false, beq_self_eq_true, true_and, and_true, reduceIte, Bool.false_eq_true, T4, T9, T40, T42, T86, fC fl42_0, fR fl42_0, Try.results59, hs, lt_y, lt_b, lt_b2, h1, h2]
          | simp (disch := first | omega | (simp only [LN_]; omega)) only [wrap_id, getI]
          | with_reducible first | refine andA (hb := ?_) | refine y_load (hK := ?_)
          | ( refine y_look 0 rfl tm40 ?_)
          | with_reducible refine y_nil (hK := ?_)
          | (with_reducible refine nilTC_split (fun h => ?_) (fun h bn => ?_) <;> (try simp only [List.length_map] at h))
          | ((with_reducible first | refine grd_cases (fun h => ?_) (fun h => ?_) | refine condC_split (fun h => ?_) (fun h => ?_)) <;> (try simp only [h]) <;> (try simp only [NR_, Bool.not_true, Bool.not_false, Bool.not_eq_eq_eq_not, ne_eq] at h))
          | omega | (simp only [LN_]; omega))
        all_goals first
          | exact leafL sub_rfl (leT_eq rfl) hK
          | trace_state
    · rw [if_pos h1] at hK
      refine ACallF.dropL (ACallF_intro Try.func59 rfl ?_)
      simp only [Try.ntmps59]
      repeat' (first
        | simp only [WL, intF, strF, WM, Int.reduceToNat, ne_eq, reduceCtorEq, not_false_eq_true, Nat.reduceAdd, Nat.reduceSub, Nat.reduceLT, Nat.reduceLeDiff, Nat.reduceEqDiff, Bool.not_true, Bool.not_false, beq_self_eq_true, true_and, and_true, reduceIte, Bool.false_eq_true, T4, T9, T40, T42, T86, fC fl42_0, fR fl42_0, Try.results59, hs, lt_y, lt_b, lt_b2, h1]
        | simp (disch := first | omega | (simp only [LN_]; omega)) only [wrap_id, getI]
        | with_reducible first | refine andA (hb := ?_) | refine y_load (hK := ?_)
        | ( refine y_look 0 rfl tm40 ?_)
        | with_reducible refine y_nil (hK := ?_)
        | (with_reducible refine nilTC_split (fun h => ?_) (fun h bn => ?_) <;> (try simp only [List.length_map] at h))
        | ((with_reducible first | refine grd_cases (fun h => ?_) (fun h => ?_) | refine condC_split (fun h => ?_) (fun h => ?_)) <;> (try simp only [h]) <;> (try simp only [NR_, Bool.not_true, Bool.not_false, Bool.not_eq_eq_eq_not, ne_eq] at h))
        | omega | (simp only [LN_]; omega))
      all_goals first
        | exact leafL sub_rfl (leT_eq rfl) hK
        | trace_state
  · rename_i p
    simp only [hn] at hK
    have hs : (lookL l h).isSome = true := by rw [hn]; rfl
    have hg : (lookL l h).getD ByteArray.empty = p := by rw [hn]; rfl
    refine ACallF.dropL (ACallF_intro Try.func59 rfl ?_)
    simp only [Try.ntmps59]
    repeat' (first
      | simp only [WL, intF, strF, WM, Int.reduceToNat, ne_eq, reduceCtorEq, not_false_eq_true, Nat.reduceAdd, Nat.reduceSub, Nat.reduceLT, Nat.reduceLeDiff, Nat.reduceEqDiff, Bool.not_true, Bool.not_false, beq_self_eq_true, true_and, and_true, reduceIte, Bool.false_eq_true, T4, T9, T40, T42, T86, fC fl42_0, fR fl42_0, Try.results59, hs, hg]
      | simp (disch := first | omega | (simp only [LN_]; omega)) only [wrap_id, getI]
      | with_reducible first | refine andA (hb := ?_) | refine y_load (hK := ?_)
      | ( refine y_look 0 rfl tm40 ?_)
      | with_reducible refine y_nil (hK := ?_)
      | (with_reducible refine nilTC_split (fun h => ?_) (fun h bn => ?_) <;> (try simp only [List.length_map] at h))
      | ((with_reducible first | refine grd_cases (fun h => ?_) (fun h => ?_) | refine condC_split (fun h => ?_) (fun h => ?_)) <;> (try simp only [h]) <;> (try simp only [NR_, Bool.not_true, Bool.not_false, Bool.not_eq_eq_eq_not, ne_eq] at h))
      | omega | (simp only [LN_]; omega))
    all_goals first
      | exact leafL sub_rfl (leT_eq rfl) hK
      | trace_state
set_option maxHeartbeats 8000000 in
theorem str_addB {x y : ByteArray} {v : Option Value} (h : x.size + y.size ≤ 4611686018427387904) : (if ((x.size + y.size : Nat) : Int) > IntKind.i64.max then none else v) = v := by
  rw [if_neg]
  have : IntKind.i64.max = 9223372036854775807 := by decide
  omega
def wholeM (l : MapL) (s : ByteArray) : ByteArray × Int :=
  if (s.toList == ({ data := #[] } : ByteArray).toList) = true ∨ (s.toList == bangB.toList) = true then (s, 0)
  else if toldB s = false then (({ data := #[] } : ByteArray), 11)
  else if hasB s lessB = true then (s.extract 1 s.size, 0)
  else if (preM l (s.extract 0 (cutN s))).2 = false then (({ data := #[] } : ByteArray), 11)
  else ((preM l (s.extract 0 (cutN s))).1 ++ s.extract (cutN s) s.size, 0)

-- tags.Scope).Whole
set_option maxHeartbeats 8000000 in
theorem tWholeM {s : ByteArray} {b mb c : Nat} {l : MapL} (hp : ∀ h, (preM l h).1.size ≤ 1152921504606846976) (hs : s.size ≤ 1000000) (hn : cutN s ≤ s.size) (hi : -1 ≤ idxB (s.extract 1 s.size) 33 ∧ idxB (s.extract 1 s.size) 33 ≤ 1000000) (hK : K (.ret (.tup [.raw (.string (wholeM l s).1), I (wholeM l s).2])) (.blk mb (mapO l c) :: .obj b [.raw (.map (some mb))] :: σ)) : ACallF κ Try.prog 25 [.raw (.pointer (some ⟨b, 0, none⟩)), .raw (.string s)] (.blk mb (mapO l c) :: .obj b [.raw (.map (some mb))] :: σ) K := by
  have y4 := z_l
  have e2 := z_ext (s := s) 1
  have e3 := z_ext (s := s) (cutN s)
  have e4 := hp (s.extract 0 (cutN s))
  have k2 : cutB s lessB = if hasB s lessB = true then (s.extract 1 s.size, true) else (s, false) := rfl
  unfold wholeM at hK
  cases h0 : (s.toList == ({ data := #[] } : ByteArray).toList)
  · cases h1 : (s.toList == bangB.toList)
    · rw [if_neg (fun e => by rw [h0, h1] at e; exact e.elim (fun e => by cases e) (fun e => by cases e))] at hK
      have hpos : 1 ≤ s.size := by
        rcases Nat.eq_zero_or_pos s.size with h | h
        · have : s = ByteArray.empty := ByteArray.size_eq_zero_iff.mp h
          subst this
          revert h0; decide +kernel
        · exact h
      cases h2 : toldB s
      · rw [if_pos h2] at hK
        refine ACallF.dropL (ACallF_intro Try.func25 rfl ?_)
        simp only [Try.ntmps25]
        repeat' (first
          | simp only [WL, intF, strF, WM, Int.reduceToNat, ne_eq, reduceCtorEq, not_false_eq_true, Nat.reduceAdd, Nat.reduceSub, Nat.reduceLT, Nat.reduceLeDiff, Nat.reduceEqDiff, Bool.not_true, Bool.not_false, beq_self_eq_true, true_and, and_true, reduceIte, Bool.false_eq_true, T3, T4, T5, T9, T40, T42, T50, T86, cok56, cok57, cok58, cok59, Try.results25, lt_b, lt_l, h0, h1, h2]
          | simp (disch := first | omega | (simp only [LN_]; omega)) only [wrap_id, getI]
          | with_reducible first | refine andA (hb := ?_) | refine cD (tTold ?_ ?_) | refine cD (sCutP ?_) | refine cD (sIndexB ?_) | refine cD (tPrefix0 ?_) | refine cD (tPrefix0 ?_) | refine cD (tPrefixM ?_)
          | with_reducible refine y_nil (hK := ?_)
          | (with_reducible refine nilTC_split (fun h => ?_) (fun h bn => ?_) <;> (try simp only [List.length_map] at h))
          | ((with_reducible first | refine grd_cases (fun h => ?_) (fun h => ?_) | refine condC_split (fun h => ?_) (fun h => ?_)) <;> (try simp only [h]) <;> (try simp only [NR_, Bool.not_true, Bool.not_false, Bool.not_eq_eq_eq_not, ne_eq] at h))
          | omega | (simp only [LN_]; omega))
        all_goals first
          | exact leafL sub_rfl (leT_eq rfl) hK
          | trace_state
      · rw [if_neg (by rw [h2]; decide)] at hK
        cases h3 : hasB s lessB
        · rw [if_neg (by rw [h3]; decide)] at hK
          rw [if_neg (by rw [h3]; decide)] at k2
          have hc : 0 ≤ idxB (s.extract 1 s.size) 33 → idxB (s.extract 1 s.size) 33 + 2 = (cutN s : Int) := fun h => by unfold cutN; rw [if_pos h]; omega
          have hc2 : ¬ 0 ≤ idxB (s.extract 1 s.size) 33 → (1 : Int) = (cutN s : Int) := fun h => by unfold cutN; rw [if_neg h]; rfl
          by_cases h4 : 0 ≤ idxB (s.extract 1 s.size) 33
          · have hc := hc h4
            cases h5 : (preM l (s.extract 0 (cutN s))).2
            · rw [if_pos h5] at hK
              refine ACallF.dropL (ACallF_intro Try.func25 rfl ?_)
              simp only [Try.ntmps25]
              repeat' (first
                | simp only [WL, intF, strF, WM, Int.reduceToNat, ne_eq, reduceCtorEq, not_false_eq_true, Nat.reduceAdd, Nat.reduceSub, Nat.reduceLT, Nat.reduceLeDiff, Nat.reduceEqDiff, Bool.not_true, Bool.not_false, beq_self_eq_true, true_and, and_true, reduceIte, Bool.false_eq_true, T3, T4, T5, T9, T40, T42, T50, T86, cok56, cok57, cok58, cok59, Try.results25, lt_b, lt_l, h0, h1, h2, k2, hc, h5, Int.toNat_natCast, Int.toNat_zero]
                | simp (disch := first | omega | (simp only [LN_]; omega)) only [wrap_id, getI, str_addB]
                | with_reducible first | refine andA (hb := ?_) | refine cD (tTold ?_ ?_) | refine cD (sCutP ?_) | refine cD (sIndexB ?_) | refine cD (tPrefix0 ?_) | refine cD (tPrefix0 ?_) | refine cD (tPrefixM ?_)
                | with_reducible refine y_nil (hK := ?_)
                | (with_reducible refine nilTC_split (fun h => ?_) (fun h bn => ?_) <;> (try simp only [List.length_map] at h))
                | ((with_reducible first | refine grd_cases (fun h => ?_) (fun h => ?_) | refine condC_split (fun h => ?_) (fun h => ?_)) <;> (try simp only [h]) <;> (try simp only [NR_, Bool.not_true, Bool.not_false, Bool.not_eq_eq_eq_not, ne_eq] at h))
                | omega | (simp only [LN_]; omega))
              all_goals first
                | exact leafL sub_rfl (leT_eq rfl) hK
                | (exfalso; omega)
                | trace_state
            · rw [if_neg (by rw [h5]; decide)] at hK
              refine ACallF.dropL (ACallF_intro Try.func25 rfl ?_)
              simp only [Try.ntmps25]
              repeat' (first
                | simp only [WL, intF, strF, WM, Int.reduceToNat, ne_eq, reduceCtorEq, not_false_eq_true, Nat.reduceAdd, Nat.reduceSub, Nat.reduceLT, Nat.reduceLeDiff, Nat.reduceEqDiff, Bool.not_true, Bool.not_false, beq_self_eq_true, true_and, and_true, reduceIte, Bool.false_eq_true, T3, T4, T5, T9, T40, T42, T50, T86, cok56, cok57, cok58, cok59, Try.results25, lt_b, lt_l, h0, h1, h2, k2, hc, h5, Int.toNat_natCast, Int.toNat_zero]
                | simp (disch := first | omega | (simp only [LN_]; omega)) only [wrap_id, getI, str_addB]
                | with_reducible first | refine andA (hb := ?_) | refine cD (tTold ?_ ?_) | refine cD (sCutP ?_) | refine cD (sIndexB ?_) | refine cD (tPrefix0 ?_) | refine cD (tPrefix0 ?_) | refine cD (tPrefixM ?_)
                | with_reducible refine y_nil (hK := ?_)
                | (with_reducible refine nilTC_split (fun h => ?_) (fun h bn => ?_) <;> (try simp only [List.length_map] at h))
                | ((with_reducible first | refine grd_cases (fun h => ?_) (fun h => ?_) | refine condC_split (fun h => ?_) (fun h => ?_)) <;> (try simp only [h]) <;> (try simp only [NR_, Bool.not_true, Bool.not_false, Bool.not_eq_eq_eq_not, ne_eq] at h))
                | omega | (simp only [LN_]; omega))
              all_goals first
                | exact leafL sub_rfl (leT_eq rfl) hK
                | (exfalso; omega)
                | trace_state
          · have hc := hc2 h4
            have hc1 : cutN s = 1 := by omega
            rw [hc1] at hK e3 e4
            cases h5 : (preM l (s.extract 0 1)).2
            · rw [if_pos h5] at hK
              refine ACallF.dropL (ACallF_intro Try.func25 rfl ?_)
              simp only [Try.ntmps25]
              repeat' (first
                | simp only [WL, intF, strF, WM, Int.reduceToNat, ne_eq, reduceCtorEq, not_false_eq_true, Nat.reduceAdd, Nat.reduceSub, Nat.reduceLT, Nat.reduceLeDiff, Nat.reduceEqDiff, Bool.not_true, Bool.not_false, beq_self_eq_true, true_and, and_true, reduceIte, Bool.false_eq_true, T3, T4, T5, T9, T40, T42, T50, T86, cok56, cok57, cok58, cok59, Try.results25, lt_b, lt_l, h0, h1, h2, k2, h5, Int.toNat_natCast, Int.toNat_zero]
                | simp (disch := first | omega | (simp only [LN_]; omega)) only [wrap_id, getI, str_addB]
                | with_reducible first | refine andA (hb := ?_) | refine cD (tTold ?_ ?_) | refine cD (sCutP ?_) | refine cD (sIndexB ?_) | refine cD (tPrefix0 ?_) | refine cD (tPrefix0 ?_) | refine cD (tPrefixM ?_)
                | with_reducible refine y_nil (hK := ?_)
                | (with_reducible refine nilTC_split (fun h => ?_) (fun h bn => ?_) <;> (try simp only [List.length_map] at h))
                | ((with_reducible first | refine grd_cases (fun h => ?_) (fun h => ?_) | refine condC_split (fun h => ?_) (fun h => ?_)) <;> (try simp only [h]) <;> (try simp only [NR_, Bool.not_true, Bool.not_false, Bool.not_eq_eq_eq_not, ne_eq] at h))
                | omega | (simp only [LN_]; omega))
              all_goals first
                | exact leafL sub_rfl (leT_eq rfl) hK
                | (exfalso; omega)
                | trace_state
            · rw [if_neg (by rw [h5]; decide)] at hK
              refine ACallF.dropL (ACallF_intro Try.func25 rfl ?_)
              simp only [Try.ntmps25]
              repeat' (first
                | simp only [WL, intF, strF, WM, Int.reduceToNat, ne_eq, reduceCtorEq, not_false_eq_true, Nat.reduceAdd, Nat.reduceSub, Nat.reduceLT, Nat.reduceLeDiff, Nat.reduceEqDiff, Bool.not_true, Bool.not_false, beq_self_eq_true, true_and, and_true, reduceIte, Bool.false_eq_true, T3, T4, T5, T9, T40, T42, T50, T86, cok56, cok57, cok58, cok59, Try.results25, lt_b, lt_l, h0, h1, h2, k2, h5, Int.toNat_natCast, Int.toNat_zero]
                | simp (disch := first | omega | (simp only [LN_]; omega)) only [wrap_id, getI, str_addB]
                | with_reducible first | refine andA (hb := ?_) | refine cD (tTold ?_ ?_) | refine cD (sCutP ?_) | refine cD (sIndexB ?_) | refine cD (tPrefix0 ?_) | refine cD (tPrefix0 ?_) | refine cD (tPrefixM ?_)
                | with_reducible refine y_nil (hK := ?_)
                | (with_reducible refine nilTC_split (fun h => ?_) (fun h bn => ?_) <;> (try simp only [List.length_map] at h))
                | ((with_reducible first | refine grd_cases (fun h => ?_) (fun h => ?_) | refine condC_split (fun h => ?_) (fun h => ?_)) <;> (try simp only [h]) <;> (try simp only [NR_, Bool.not_true, Bool.not_false, Bool.not_eq_eq_eq_not, ne_eq] at h))
                | omega | (simp only [LN_]; omega))
              all_goals first
                | exact leafL sub_rfl (leT_eq rfl) hK
                | (exfalso; omega)
                | trace_state
        · rw [if_pos h3] at hK
          rw [if_pos h3] at k2
          refine ACallF.dropL (ACallF_intro Try.func25 rfl ?_)
          simp only [Try.ntmps25]
          repeat' (first
            | simp only [WL, intF, strF, WM, Int.reduceToNat, ne_eq, reduceCtorEq, not_false_eq_true, Nat.reduceAdd, Nat.reduceSub, Nat.reduceLT, Nat.reduceLeDiff, Nat.reduceEqDiff, Bool.not_true, Bool.not_false, beq_self_eq_true, true_and, and_true, reduceIte, Bool.false_eq_true, T3, T4, T5, T9, T40, T42, T50, T86, cok56, cok57, cok58, cok59, Try.results25, lt_b, lt_l, h0, h1, h2, k2]
            | simp (disch := first | omega | (simp only [LN_]; omega)) only [wrap_id, getI]
            | with_reducible first | refine andA (hb := ?_) | refine cD (tTold ?_ ?_) | refine cD (sCutP ?_) | refine cD (sIndexB ?_) | refine cD (tPrefix0 ?_) | refine cD (tPrefix0 ?_) | refine cD (tPrefixM ?_)
            | with_reducible refine y_nil (hK := ?_)
            | (with_reducible refine nilTC_split (fun h => ?_) (fun h bn => ?_) <;> (try simp only [List.length_map] at h))
            | ((with_reducible first | refine grd_cases (fun h => ?_) (fun h => ?_) | refine condC_split (fun h => ?_) (fun h => ?_)) <;> (try simp only [h]) <;> (try simp only [NR_, Bool.not_true, Bool.not_false, Bool.not_eq_eq_eq_not, ne_eq] at h))
            | omega | (simp only [LN_]; omega))
          all_goals first
            | exact leafL sub_rfl (leT_eq rfl) hK
            | trace_state
    · rw [if_pos (.inr h1)] at hK
      refine ACallF.dropL (ACallF_intro Try.func25 rfl ?_)
      simp only [Try.ntmps25]
      repeat' (first
        | simp only [WL, intF, strF, WM, Int.reduceToNat, ne_eq, reduceCtorEq, not_false_eq_true, Nat.reduceAdd, Nat.reduceSub, Nat.reduceLT, Nat.reduceLeDiff, Nat.reduceEqDiff, Bool.not_true, Bool.not_false, beq_self_eq_true, true_and, and_true, reduceIte, Bool.false_eq_true, T3, T4, T5, T9, T40, T42, T50, T86, cok56, cok57, cok58, cok59, Try.results25, lt_b, h0, h1]
        | simp (disch := first | omega | (simp only [LN_]; omega)) only [wrap_id, getI]
        | with_reducible first | refine andA (hb := ?_) | refine cD (tTold ?_ ?_) | refine cD (sCutP ?_) | refine cD (sIndexB ?_) | refine cD (tPrefix0 ?_) | refine cD (tPrefix0 ?_) | refine cD (tPrefixM ?_)
        | with_reducible refine y_nil (hK := ?_)
        | (with_reducible refine nilTC_split (fun h => ?_) (fun h bn => ?_) <;> (try simp only [List.length_map] at h))
        | ((with_reducible first | refine grd_cases (fun h => ?_) (fun h => ?_) | refine condC_split (fun h => ?_) (fun h => ?_)) <;> (try simp only [h]) <;> (try simp only [NR_, Bool.not_true, Bool.not_false, Bool.not_eq_eq_eq_not, ne_eq] at h))
        | omega | (simp only [LN_]; omega))
      all_goals first
        | exact leafL sub_rfl (leT_eq rfl) hK
        | trace_state
  · rw [if_pos (.inl h0)] at hK
    refine ACallF.dropL (ACallF_intro Try.func25 rfl ?_)
    simp only [Try.ntmps25]
    repeat' (first
      | simp only [WL, intF, strF, WM, Int.reduceToNat, ne_eq, reduceCtorEq, not_false_eq_true, Nat.reduceAdd, Nat.reduceSub, Nat.reduceLT, Nat.reduceLeDiff, Nat.reduceEqDiff, Bool.not_true, Bool.not_false, beq_self_eq_true, true_and, and_true, reduceIte, Bool.false_eq_true, T3, T4, T5, T9, T40, T42, T50, T86, cok56, cok57, cok58, cok59, Try.results25, lt_b, h0]
      | simp (disch := first | omega | (simp only [LN_]; omega)) only [wrap_id, getI]
      | with_reducible first | refine andA (hb := ?_) | refine cD (tTold ?_ ?_) | refine cD (sCutP ?_) | refine cD (sIndexB ?_) | refine cD (tPrefix0 ?_) | refine cD (tPrefix0 ?_) | refine cD (tPrefixM ?_)
      | with_reducible refine y_nil (hK := ?_)
      | (with_reducible refine nilTC_split (fun h => ?_) (fun h bn => ?_) <;> (try simp only [List.length_map] at h))
      | ((with_reducible first | refine grd_cases (fun h => ?_) (fun h => ?_) | refine condC_split (fun h => ?_) (fun h => ?_)) <;> (try simp only [h]) <;> (try simp only [NR_, Bool.not_true, Bool.not_false, Bool.not_eq_eq_eq_not, ne_eq] at h))
      | omega | (simp only [LN_]; omega))
    all_goals first
      | exact leafL sub_rfl (leT_eq rfl) hK
      | trace_state
end Go.Proofs.Ytaeacialcbahnaa
/-
  Plain facts for the law TagsPlay: the reference tells of a tag as it is written what the program tells.
-/


namespace Go.Proofs.Ytaeacialcbahnaa
open Go.Abs
set_option linter.unusedVariables false
set_option linter.unusedSimpArgs false
set_option linter.unusedSimpArgs false
set_option linter.unusedVariables false
theorem uri_pre (may : Int → Bool) : ∀ (n : Nat) (l : List Int), l.length ≤ n → ∀ c ∈ l.take (uriN may l), 0 ≤ c ∧ c < 128
  | n, [], _ => by simp
  | 0, c :: r, h => by simp at h
  | n + 1, c :: r, h => by
    rw [uriN_at]
    split
    · simp
    · rename_i hn
      have hs : ¬ signN (c :: r) = 0 := fun e => hn (.inl e)
      have hle := (signN_le (c :: r)).2
      have ih := uri_pre may n ((c :: r).drop (signN (c :: r))) (by simp only [List.length_drop, List.length_cons] at *; omega)
      have e : (c :: r).take (signN (c :: r) + uriN may ((c :: r).drop (signN (c :: r)))) = (c :: r).take (signN (c :: r)) ++ ((c :: r).drop (signN (c :: r))).take (uriN may ((c :: r).drop (signN (c :: r)))) := by
        rw [List.take_add]
      intro x hx
      rw [e] at hx
      rcases List.mem_append.1 hx with hx | hx
      · clear ih hn e hle
        unfold signN at hs hx
        simp only at hs hx
        split at hs
        · rename_i h37
          simp only [h37, if_true] at hx
          split at hs
          · rename_i hh
            simp only [hh, and_self, if_true] at hx
            match r, hh with
            | y :: z :: r, hh =>
              have hy := hex_ascii hh.2.1
              have hz := hex_ascii hh.2.2
              simp at hx hy hz
              omega
            | [y], hh => exact absurd hh.1 (by simp)
            | [], hh => exact absurd hh.1 (by simp)
          · exact absurd rfl hs
        · rename_i h37
          simp only [h37, if_false] at hx
          split at hs
          · rename_i hw
            simp only [hw, if_true] at hx
            simp at hx
            subst hx
            rcases Bool.or_eq_true_iff.1 hw with h | h
            · exact word_ascii h
            · exact uri_ascii h
          · exact absurd rfl hs
      · exact ih x hx
theorem mem_take_drop {l : List Int} {c : Int} {n : Nat} (hc : c ∈ l) : c ∈ l.take n ∨ c ∈ l.drop n := by
  rw [← List.take_append_drop n l] at hc
  exact List.mem_append.1 hc
theorem getD_mem {l : List Int} {i : Nat} (h : i < l.length) : l.getD i 0 ∈ l := by
  rw [List.getD_eq_getElem?_getD, List.getElem?_eq_getElem h]; exact List.getElem_mem h
theorem mem_getD {l : List Int} {c : Int} (h : c ∈ l) : ∃ i, i < l.length ∧ l.getD i 0 = c := by
  obtain ⟨i, hi, e⟩ := List.mem_iff_getElem.1 h
  exact ⟨i, hi, by rw [List.getD_eq_getElem?_getD, List.getElem?_eq_getElem hi]; exact e⟩
/-- A tag that is told whole is ASCII. -/
theorem tag_ascii {l : List Int} (h : (tagI l).2.2 = true) (hn : (tagI l).2.1 = (l.length : Int)) : l.getD 0 0 = 33 ∧ 0 < l.length ∧ (tagI l).1 = textI l ∨ atI l 1 60 = true := by
  unfold tagI at h hn ⊢
  cases h0 : atI l 0 33
  · first | (rw [if_pos rfl] at h; cases h) | (rw [if_pos h0] at h; cases h)
  · rw [if_neg (by first | decide | (rw [h0]; decide))] at h hn ⊢
    obtain ⟨a1, a2⟩ := atI_lt h0
    cases h1 : atI l 1 60
    · rw [if_neg (by first | decide | (rw [h1]; decide))] at h hn ⊢
      unfold shortI at h hn ⊢
      split at h
      · cases h
      · rename_i hz
        rw [if_neg hz] at hn ⊢
        refine .inl ⟨a2, a1, ?_⟩
        have : uriN shortC (l.drop (max (handleN l) 1)) + max (handleN l) 1 = l.length := Int.ofNat_inj.1 hn
        show textI (l.take _) = _
        rw [this, List.take_length]
    · exact .inr rfl
theorem tag_all {l : List Int} (h : (tagI l).2.2 = true) (hn : (tagI l).2.1 = (l.length : Int)) : ∀ c ∈ l, 0 ≤ c ∧ c < 128 := by
  unfold tagI at h hn
  cases h0 : atI l 0 33
  · rw [if_pos h0] at h; cases h
  · rw [if_neg (by rw [h0]; decide)] at h hn
    obtain ⟨a1, a2⟩ := atI_lt h0
    cases h1 : atI l 1 60
    · rw [if_neg (by rw [h1]; decide)] at h hn
      unfold shortI at h hn
      split at h
      · cases h
      · rename_i hz
        rw [if_neg hz] at hn
        have hh : uriN shortC (l.drop (max (handleN l) 1)) + max (handleN l) 1 = l.length := Int.ofNat_inj.1 hn
        have hp := uri_pre shortC _ (l.drop (max (handleN l) 1)) (Nat.le_refl _)
        rw [List.take_of_length_le (by rw [List.length_drop]; omega)] at hp
        intro c hc
        rcases mem_take_drop (n := max (handleN l) 1) hc with hc | hc
        · obtain ⟨i, hi, rfl⟩ := mem_getD hc
          have hi' : i < max (handleN l) 1 := by simp at hi; omega
          have e : (l.take (max (handleN l) 1)).getD i 0 = l.getD i 0 := by
            rw [List.getD_eq_getElem?_getD, List.getElem?_take_of_lt hi', ← List.getD_eq_getElem?_getD]
          rw [e]
          rcases Nat.eq_zero_or_pos i with rfl | hpos
          · rw [a2]; omega
          · unfold handleN at hi'
            split at hi'
            · rename_i hat
              obtain ⟨b1, b2⟩ := atI_lt hat
              rcases Nat.lt_or_ge i (1 + cnt wordI (l.drop 1)) with hlt | hge
              · have := cnt_in (p := wordI) (l := l.drop 1) (k := i - 1) (by omega)
                rw [getD_dropI, show 1 + (i - 1) = i by omega] at this
                exact word_ascii this
              · rw [show i = 1 + cnt wordI (l.drop 1) by omega, b2]; omega
            · omega
        · exact hp c hc
    · rw [if_pos h1] at h hn
      obtain ⟨b1, b2⟩ := atI_lt h1
      unfold wholeI at h hn
      split at h
      · cases h
      · rename_i hz
        rw [if_neg hz] at hn
        have hh : uriN anyC (l.drop 2) + 3 = l.length := Int.ofNat_inj.1 hn
        have hat : atI l (uriN anyC (l.drop 2) + 2) 62 = true := by
          cases hx : atI l (uriN anyC (l.drop 2) + 2) 62
          · exact absurd (.inr hx) hz
          · rfl
        obtain ⟨c1, c2⟩ := atI_lt hat
        have hp := uri_pre anyC _ (l.drop 2) (Nat.le_refl _)
        intro c hc
        obtain ⟨i, hi, rfl⟩ := mem_getD hc
        rcases Nat.lt_or_ge i 2 with h2 | h2
        · rcases Nat.lt_or_ge i 1 with h3 | h3
          · rw [show i = 0 by omega, a2]; omega
          · rw [show i = 1 by omega, b2]; omega
        · rcases Nat.lt_or_ge i (uriN anyC (l.drop 2) + 2) with h3 | h3
          · have := hp (l.getD i 0) (by
              have h4 : i - 2 < ((l.drop 2).take (uriN anyC (l.drop 2))).length := by simp; omega
              have h5 := getD_mem h4
              rwa [List.getD_eq_getElem?_getD, List.getElem?_take_of_lt (by omega), List.getElem?_drop, ← List.getD_eq_getElem?_getD, show 2 + (i - 2) = i by omega] at h5)
            exact this
          · rw [show i = uriN anyC (l.drop 2) + 2 by omega, c2]; omega
/-- Where all that a range tells is ASCII, it is the bytes. -/
theorem runes_bytes {s : ByteArray} : ∀ (n p : Nat), s.size - p ≤ n → (∀ c ∈ runesB s p, c < 128) → runesB s p = (bytesI s).drop p := by
  intro n
  induction n with
  | zero => intro p hn _; rw [runes_end (by omega), List.drop_eq_nil_of_le (by rw [bytesI_len]; omega)]
  | succ n ih =>
    intro p hn h
    by_cases hp : p < s.size
    · have hl : p < (bytesI s).length := by rw [bytesI_len]; exact hp
      have hb : ((s[p]'hp).toNat : Int) = (bytesI s)[p] := by simp [bytesI]; rfl
      rw [runes_step hp] at h ⊢
      have h0 := h _ (List.mem_cons_self ..)
      have ha : (s[p]'hp).toNat < 128 := by
        rcases Nat.lt_or_ge (s[p]'hp).toNat 128 with h1 | h1
        · exact h1
        · have := (decode_high s p hp h1).1; omega
      rw [decode_ascii s p hp ha] at h ⊢
      rw [ih (p + 1) (by omega) (fun c hc => h c (List.mem_cons_of_mem _ hc)), List.drop_eq_getElem_cons hl, hb]
    · rw [runes_end (by omega), List.drop_eq_nil_of_le (by rw [bytesI_len]; omega)]
/-- What the reference tells. -/
def told2 (s : ByteArray) : Bool :=
  match smallI (bytesI s) with
  | none => false
  | some m => if m.getD 0 0 = 60 ∧ 0 < m.length then decide (1 < m.length) && validI (bytesI (s.extract 1 s.size))
    else (tagI m).2.2 && decide ((tagI m).2.1 = m.length) && ((tagI m).1.toList == s.toList) && !hasB s less2B
theorem hasB_l {s : ByteArray} : hasB s lessB = true ↔ ∃ r, bytesI s = 60 :: r := by rw [hasB_iff, bytes_l]; rfl
theorem small_head {s : ByteArray} {m : List Int} (h : smallI (bytesI s) = some m) : (m.getD 0 0 = 60 ∧ 0 < m.length) ↔ hasB s lessB = true := by
  have he := smallI_enc (bytesI_byte s) h
  cases m with
  | nil =>
    have h1 : bytesI s = [] := he.1.symm.trans rfl
    rw [hasB_l, h1]; simp
  | cons c r =>
    have e2 : encL (c :: r) = encC c ++ encL r := by simp [encL]
    have h1 : bytesI s = encC c ++ encL r := by rw [← he.1, e2]
    rw [hasB_l, h1]
    constructor
    · intro hc
      have hc1 : c = 60 := by simpa using hc.1
      subst hc1
      exact ⟨encL r, rfl⟩
    · rintro ⟨q, hq⟩
      refine ⟨?_, by simp⟩
      show c = 60
      have hr := he.2 c (by simp)
      by_cases ha : 0 ≤ c ∧ c < 128
      · rw [encC_ascii ha.1 ha.2] at hq; exact (List.cons.inj hq).1
      · exfalso
        have hri := rightI_iff.1 hr
        have hge : ∀ x t, encC c = x :: t → 128 ≤ x := by
          intro x t hx
          unfold encC at hx
          rw [fix_id hr] at hx
          unfold encR at hx
          rw [if_neg (by omega)] at hx
          split at hx
          · have := (List.cons.inj hx).1; omega
          · split at hx
            · have := (List.cons.inj hx).1; omega
            · have := (List.cons.inj hx).1; omega
        cases hx : encC c with
        | nil => have := encC_len c; rw [hx] at this; simp at this
        | cons x t =>
          rw [hx] at hq
          have := hge x t hx
          have := (List.cons.inj hq).1
          omega
theorem told_same (s : ByteArray) : told2 s = toldB s := by
  unfold told2
  by_cases hl : hasB s lessB = true
  · have e : toldB s = validI (bytesI (s.extract 1 s.size)) := by unfold toldB; rw [if_pos hl]
    rw [e]
    obtain ⟨r, hr⟩ := hasB_l.1 hl
    have hx : bytesI (s.extract 1 s.size) = r := by rw [bytes_from, hr]; rfl
    rw [hx]
    cases hm : smallI (bytesI s) with
    | none =>
      cases hv : validI r
      · rfl
      · have ha := valid_ascii hv
        rw [smallI_ascii (by rw [hr]; intro x hx; rcases List.mem_cons.1 hx with rfl | hx; exact ⟨by omega, by omega⟩; exact ha x hx)] at hm
        cases hm
    | some m =>
      simp only
      rw [if_pos ((small_head hm).2 hl)]
      cases hv : validI r
      · simp
      · have ha := valid_ascii hv
        rw [smallI_ascii (by rw [hr]; intro x hx; rcases List.mem_cons.1 hx with rfl | hx; exact ⟨by omega, by omega⟩; exact ha x hx)] at hm
        cases hm
        have := (of_decide_eq_true hv).1
        rw [hr]; simp; omega
  · have e : toldB s = ((tagI (runesB s 0)).2.2 && decide ((tagI (runesB s 0)).2.1 = (runesB s 0).length) && !hasB s less2B) := by unfold toldB; rw [if_neg hl]
    have key : ∀ m, smallI (bytesI s) = some m → ((tagI m).2.2 && decide ((tagI m).2.1 = m.length)) = true → bytesI s = m := by
      intro m hm ht
      rw [Bool.and_eq_true, decide_eq_true_eq] at ht
      rw [← (smallI_enc (bytesI_byte s) hm).1, encL_ascii (tag_all ht.1 ht.2)]
    have back : toldB s = true → runesB s 0 = bytesI s ∧ smallI (bytesI s) = some (bytesI s) ∧ hasB s less2B = false := by
      intro ht
      rw [e, Bool.and_eq_true, Bool.and_eq_true, decide_eq_true_eq, Bool.not_eq_true'] at ht
      have ha := tag_all ht.1.1 ht.1.2
      have hr := runes_bytes (s := s) _ 0 (Nat.le_refl _) (fun c hc => (ha c hc).2)
      rw [List.drop_zero] at hr
      rw [hr] at ha
      exact ⟨hr, smallI_ascii ha, ht.2⟩
    have txt : ∀ m, bytesI s = m → ((tagI m).2.2 && decide ((tagI m).2.1 = m.length)) = true → hasB s less2B = false → ((tagI m).1.toList == s.toList) = true := by
      intro m hm ht h2
      rw [Bool.and_eq_true, decide_eq_true_eq] at ht
      have ha := tag_all ht.1 ht.2
      rcases tag_ascii ht.1 ht.2 with h3 | h3
      · rw [h3.2.2, toList_beq, decide_eq_true_eq]
        apply bytesI_inj
        rw [bytesI_text, encL_ascii ha, hm]
      · exfalso
        obtain ⟨b1, b2⟩ := atI_lt h3
        have h0 : atI m 0 33 = true := by
          cases hx : atI m 0 33
          · have := ht.1; unfold tagI at this; rw [if_pos hx] at this; cases this
          · rfl
        obtain ⟨a1, a2⟩ := atI_lt h0
        have : hasB s less2B = true := by
          rw [hasB_iff, bytes_l2, hm]
          match m, b1 with
          | x :: y :: r, _ =>
            simp at a2 b2
            exact ⟨r, by rw [a2, b2]; rfl⟩
          | [x], h => simp at h
          | [], h => simp at h
        rw [h2] at this; cases this
    cases ht : toldB s
    · cases hm : smallI (bytesI s) with
      | none => rfl
      | some m =>
        simp only
        rw [if_neg (fun h => hl ((small_head hm).1 h))]
        cases hx : ((tagI m).2.2 && decide ((tagI m).2.1 = m.length))
        · simp
        · have hb := key m hm hx
          have ha : ∀ c ∈ m, 0 ≤ c ∧ c < 128 := by
            rw [Bool.and_eq_true, decide_eq_true_eq] at hx
            exact tag_all hx.1 hx.2
          have hr : runesB s 0 = m := by rw [runes_ascii (fun c hc => (ha c (hb ▸ hc)).2) _ 0 (Nat.le_refl _), List.drop_zero, hb]
          rw [e, hr, hx, Bool.true_and] at ht
          rw [ht]; simp
    · obtain ⟨hr, hm, h2⟩ := back ht
      rw [hm]
      simp only
      rw [if_neg (fun h => hl ((small_head hm).1 h))]
      rw [e, hr, Bool.and_eq_true] at ht
      rw [ht.1, txt _ rfl ht.1 h2, h2]; rfl
end Go.Proofs.Ytaeacialcbahnaa
/-
  Walks: chapter 16, the reference's scope.
-/

namespace Go.Proofs.Ytaeacialcbahnaa
open Go.Abs
set_option linter.unusedVariables false
set_option linter.unusedSimpArgs false
-- hb: 8000000
variable {κ : Ctx} {σ : List Res} {K : Ret → List Res → Prop} {o o' : Option (Option (Nat × Nat))}
abbrev HP (e : ByteArray × ByteArray × Nat) : AV := .agg [.raw (.string e.1), .raw (.string e.2.1)]
abbrev d0 : ByteArray × ByteArray × Nat := (ByteArray.empty, ByteArray.empty, 0)
set_option maxHeartbeats 8000000 in
theorem getHP {l : MapL} {k : Nat} (h : k < l.length) : (l.map HP).getD k .any = HP (l.getD k d0) := by
  simp [List.getD_eq_getElem?_getD, h]
set_option maxHeartbeats 8000000 in
theorem goodHP (l : MapL) : goodL (l.map HP) = true := by
  unfold goodL
  rw [List.all_map, List.all_eq_true]
  intro x _
  rfl
instance {l : MapL} : Go.Abs.Good (l.map HP) := ⟨goodHP l⟩
set_option maxHeartbeats 8000000 in
theorem look_none {l : MapL} {h : ByteArray} : lookL l h = none ↔ ∀ j, j < l.length → ¬ (l.getD j d0).1 = h := by
  induction l with
  | nil => simp [lookL]
  | cons e l ih =>
    unfold lookL
    by_cases he : h = e.1
    · rw [if_pos he]
      constructor
      · intro q; cases q
      · intro q; exact absurd he.symm (q 0 (by simp))
    · rw [if_neg he, ih]
      constructor
      · intro q j hj
        cases j with
        | zero => exact fun e2 => he e2.symm
        | succ j => simpa using q j (by simpa using hj)
      · intro q j hj
        simpa using q (j + 1) (by simpa using hj)
set_option maxHeartbeats 8000000 in
theorem look_some : ∀ {l : MapL} {h : ByteArray} (k : Nat), k < l.length → (∀ j, j < k → ¬ (l.getD j d0).1 = h) → (l.getD k d0).1 = h → lookL l h = some (l.getD k d0).2.1
  | [], _, k, hk, _, _ => by simp at hk
  | e :: l, h, 0, _, _, he => by
    unfold lookL
    rw [if_pos (by simpa using he.symm)]; simp
  | e :: l, h, k + 1, hk, hn, he => by
    unfold lookL
    rw [if_neg (fun e2 => hn 0 (by omega) (by simpa using e2.symm))]
    have := look_some (l := l) (h := h) k (by simpa using hk) (fun j hj => by simpa using hn (j + 1) (by omega)) (by simpa using he)
    simpa using this
set_option maxHeartbeats 8000000 in
theorem beq_yes {a b : ByteArray} (h : (a.toList == b.toList) = true) : a = b := by rw [toList_beq, decide_eq_true_eq] at h; exact h
set_option maxHeartbeats 8000000 in
theorem beq_no {a b : ByteArray} (h : (a.toList == b.toList) = false) : ¬ a = b := by rw [toList_beq, decide_eq_false_iff_not] at h; exact h

-- marginaliaref13.Scope).Set
set_option maxHeartbeats 8000000 in
theorem rSet0 {h p : ByteArray} {b : Nat} (hK : ∀ tk, K (.ret (B true)) (.tip tk :: .obj b [.sl 2 (some tk) [HP (h, p, 0)]] :: σ)) : ACallF κ Try.prog 24 [.raw (.pointer (some ⟨b, 0, none⟩)), .raw (.string h), .raw (.string p)] (.obj b [nilS] :: σ) K := by
  refine ACallF.dropL (ACallF_introA Try.func24 rfl ?_)
  simp only [Try.ntmps24]
  repeat' (first
    | with_reducible first | refine AW_seqA (AW_block ?_) | refine AW_block ?_ | refine cut_seqloop ?_ | refine cut_loop ?_ | refine AW_seqA (AW_seqA ?_) | refine AW_seq ?_ | refine AW_runReg ?_ | refine AW_runCond ?_ | refine AW_runExit ?_ | refine AW_runRet ?_ | refine AW_runSkip ?_ | refine AW_runLabel ?_
    | simp only [WL, intF, strF, WM, Int.reduceToNat, ne_eq, reduceCtorEq, not_false_eq_true, Nat.reduceAdd, Nat.reduceSub, Nat.reduceLT, Nat.reduceLeDiff, Nat.reduceEqDiff, Bool.not_true, Bool.not_false, beq_self_eq_true, true_and, and_true, reduceIte, Bool.false_eq_true, T3, T4, T9, T43, T44, T46, T88, fC fl46_0, fR fl46_0, fC fl88_0, fR fl88_0, Try.results24]
    | simp (disch := first | omega | (simp only [LN_]; omega)) only [wrap_id, getI]
    | with_reducible first | refine andA (hb := ?_) | refine y_load (hK := ?_) | refine y_store (hK := ?_) | refine y_appN ?_ | refine y_appS ?_ | refine y_app (hlen := ?_) (hmax := ?_) (hK := fun tk => ?_) | refine y_bs0 ?_ | refine y_bs (hK := ?_) | refine y_build (hK := ?_)
    | with_reducible refine y_nil (hK := ?_)
    | (with_reducible refine nilTC_split (fun h => ?_) (fun h bn => ?_) <;> (try simp only [List.length_map] at h))
    | ((with_reducible first | refine grd_cases (fun h => ?_) (fun h => ?_) | refine condC_split (fun h => ?_) (fun h => ?_)) <;> (try simp only [h]) <;> (try simp only [NR_, Bool.not_true, Bool.not_false, Bool.not_eq_eq_eq_not, ne_eq] at h))
    | omega | (simp only [LN_]; omega) | (refine maxLen_ok ?_; (first | omega | (simp only [LN_]; omega))))
  refine loopA (fun k : Nat => ⟨(.raw (.pointer (some ⟨b, 0, none⟩)) :: .raw (.string h) :: .raw (.string p) :: .any :: .any :: .any :: .any :: I 0 :: .any :: .any :: .any :: .any :: .any :: .any :: .any :: .any :: .any :: .any :: .any :: .any :: .any :: .any :: .any :: .any :: .any :: .any :: .any :: .any :: .any :: .any :: .any :: .any :: .any :: .any :: .any :: .any :: .any :: .any :: .any :: []), .obj b [nilS] :: σ, true, []⟩) (fun _ => True) (fun k => k) 0 (St_le_same (by repeat (first | exact trivial | refine ⟨le_rfl, ?_⟩ | refine ⟨le_any, ?_⟩ | refine ⟨le_ro, ?_⟩ | refine ⟨le_nil (by decide), ?_⟩ | refine ⟨le_wrap (by omega) (by omega) (by omega), ?_⟩ | refine ⟨le_int (by omega), ?_⟩ | refine ⟨le_eq (by simp), ?_⟩)) id) trivial ?_
  intro k _
  repeat' (first
    | with_reducible first | refine AW_seqA (AW_block ?_) | refine AW_block ?_ | refine cut_seqloop ?_ | refine cut_loop ?_ | refine AW_seqA (AW_seqA ?_) | refine AW_seq ?_ | refine AW_runReg ?_ | refine AW_runCond ?_ | refine AW_runExit ?_ | refine AW_runRet ?_ | refine AW_runSkip ?_ | refine AW_runLabel ?_
    | simp only [WL, intF, strF, WM, Int.reduceToNat, ne_eq, reduceCtorEq, not_false_eq_true, Nat.reduceAdd, Nat.reduceSub, Nat.reduceLT, Nat.reduceLeDiff, Nat.reduceEqDiff, Bool.not_true, Bool.not_false, beq_self_eq_true, true_and, and_true, reduceIte, Bool.false_eq_true, T3, T4, T9, T43, T44, T46, T88, fC fl46_0, fR fl46_0, fC fl88_0, fR fl88_0, Try.results24]
    | simp (disch := first | omega | (simp only [LN_]; omega)) only [wrap_id, getI]
    | with_reducible first | refine andA (hb := ?_) | refine y_load (hK := ?_) | refine y_store (hK := ?_) | refine y_appN ?_ | refine y_appS ?_ | refine y_app (hlen := ?_) (hmax := ?_) (hK := fun tk => ?_) | refine y_bs0 ?_ | refine y_bs (hK := ?_) | refine y_build (hK := ?_)
    | with_reducible refine y_nil (hK := ?_)
    | (with_reducible refine nilTC_split (fun h => ?_) (fun h bn => ?_) <;> (try simp only [List.length_map] at h))
    | ((with_reducible first | refine grd_cases (fun h => ?_) (fun h => ?_) | refine condC_split (fun h => ?_) (fun h => ?_)) <;> (try simp only [h]) <;> (try simp only [NR_, Bool.not_true, Bool.not_false, Bool.not_eq_eq_eq_not, ne_eq] at h))
    | omega | (simp only [LN_]; omega) | (refine maxLen_ok ?_; (first | omega | (simp only [LN_]; omega))))
  all_goals first
    | exact leafL sub_rfl (leT_eq rfl) (hK _)
    | (exfalso; omega)
    | trace_state
set_option maxHeartbeats 8000000 in
theorem rSet {h p : ByteArray} {b c : Nat} {tk : Option (Nat × Nat)} {l : MapL} (hl : l.length ≤ 1000) (h1 : ∀ tk', lookL l h = none → K (.ret (B true)) (.tip tk' :: .obj b [.sl 2 (some tk') ((l ++ [(h, p, c)]).map HP)] :: σ)) (h2 : (lookL l h).isSome = true → K (.ret (B false)) (.tip tk :: .obj b [.sl 2 (some tk) (l.map HP)] :: σ)) : ACallF κ Try.prog 24 [.raw (.pointer (some ⟨b, 0, none⟩)), .raw (.string h), .raw (.string p)] (.tip tk :: .obj b [.sl 2 (some tk) (l.map HP)] :: σ) K := by
  refine ACallF.dropL (ACallF_introA Try.func24 rfl ?_)
  simp only [Try.ntmps24]
  repeat' (first
    | with_reducible first | refine AW_seqA (AW_block ?_) | refine AW_block ?_ | refine cut_seqloop ?_ | refine cut_loop ?_ | refine AW_seqA (AW_seqA ?_) | refine AW_seq ?_ | refine AW_runReg ?_ | refine AW_runCond ?_ | refine AW_runExit ?_ | refine AW_runRet ?_ | refine AW_runSkip ?_ | refine AW_runLabel ?_
    | simp only [WL, intF, strF, WM, Int.reduceToNat, ne_eq, reduceCtorEq, not_false_eq_true, Nat.reduceAdd, Nat.reduceSub, Nat.reduceLT, Nat.reduceLeDiff, Nat.reduceEqDiff, Bool.not_true, Bool.not_false, beq_self_eq_true, true_and, and_true, reduceIte, Bool.false_eq_true, T3, T4, T9, T43, T44, T46, T88, fC fl46_0, fR fl46_0, fC fl88_0, fR fl88_0, Try.results24]
    | simp (disch := first | omega | (simp only [LN_]; omega)) only [wrap_id, getI]
    | with_reducible first | refine andA (hb := ?_) | refine y_load (hK := ?_) | refine y_store (hK := ?_) | refine y_appN ?_ | refine y_appS ?_ | refine y_app (hlen := ?_) (hmax := ?_) (hK := fun tk => ?_) | refine y_bs0 ?_ | refine y_bs (hK := ?_) | refine y_build (hK := ?_)
    | with_reducible refine y_nil (hK := ?_)
    | (with_reducible refine nilTC_split (fun h => ?_) (fun h bn => ?_) <;> (try simp only [List.length_map] at h))
    | ((with_reducible first | refine grd_cases (fun h => ?_) (fun h => ?_) | refine condC_split (fun h => ?_) (fun h => ?_)) <;> (try simp only [h]) <;> (try simp only [NR_, Bool.not_true, Bool.not_false, Bool.not_eq_eq_eq_not, ne_eq] at h))
    | omega | (simp only [LN_]; omega) | (refine maxLen_ok ?_; (first | omega | (simp only [LN_]; omega))))
  refine loopA (fun k : Nat => ⟨(.raw (.pointer (some ⟨b, 0, none⟩)) :: .raw (.string h) :: .raw (.string p) :: .any :: .any :: .any :: .any :: I k :: .any :: .any :: .any :: .any :: .any :: .any :: .any :: .any :: .any :: .any :: .any :: .any :: .any :: .any :: .any :: .any :: .any :: .any :: .any :: .any :: .any :: .any :: .any :: .any :: .any :: .any :: .any :: .any :: .any :: .any :: .any :: []), .tip tk :: .obj b [.sl 2 (some tk) (l.map HP)] :: σ, true, []⟩) (fun k => k ≤ l.length ∧ ∀ j, j < k → ¬ (l.getD j d0).1 = h) (fun k => l.length - k) 0 (St_le_same (by repeat (first | exact trivial | refine ⟨le_rfl, ?_⟩ | refine ⟨le_any, ?_⟩ | refine ⟨le_ro, ?_⟩ | refine ⟨le_nil (by decide), ?_⟩ | refine ⟨le_wrap (by omega) (by omega) (by omega), ?_⟩ | refine ⟨le_int (by omega), ?_⟩ | refine ⟨le_eq (by simp), ?_⟩)) id) ⟨Nat.zero_le _, fun j hj => absurd hj (by omega)⟩ ?_
  rintro k ⟨hk, hn⟩
  rcases Nat.lt_or_ge k l.length with hlt | hge
  · cases hq : ((l.getD k d0).1.toList == h.toList)
    · skip
      repeat' (first
        | with_reducible first | refine AW_seqA (AW_block ?_) | refine AW_block ?_ | refine cut_seqloop ?_ | refine cut_loop ?_ | refine AW_seqA (AW_seqA ?_) | refine AW_seq ?_ | refine AW_runReg ?_ | refine AW_runCond ?_ | refine AW_runExit ?_ | refine AW_runRet ?_ | refine AW_runSkip ?_ | refine AW_runLabel ?_
        | simp only [WL, intF, strF, WM, Int.reduceToNat, ne_eq, reduceCtorEq, not_false_eq_true, Nat.reduceAdd, Nat.reduceSub, Nat.reduceLT, Nat.reduceLeDiff, Nat.reduceEqDiff, Bool.not_true, Bool.not_false, beq_self_eq_true, true_and, and_true, reduceIte, Bool.false_eq_true, T3, T4, T9, T43, T44, T46, T88, fC fl46_0, fR fl46_0, fC fl88_0, fR fl88_0, Try.results24, hq]
        | simp (disch := first | omega | (simp only [LN_]; omega)) only [wrap_id, getI, getHP]
        | with_reducible first | refine andA (hb := ?_) | refine y_load (hK := ?_) | refine y_store (hK := ?_) | refine y_appN ?_ | refine y_appS ?_ | refine y_app (hlen := ?_) (hmax := ?_) (hK := fun tk => ?_) | refine y_bs0 ?_ | refine y_bs (hK := ?_) | refine y_build (hK := ?_)
        | with_reducible refine y_nil (hK := ?_)
        | (with_reducible refine nilTC_split (fun h => ?_) (fun h bn => ?_) <;> (try simp only [List.length_map] at h))
        | ((with_reducible first | refine grd_cases (fun h => ?_) (fun h => ?_) | refine condC_split (fun h => ?_) (fun h => ?_)) <;> (try simp only [h]) <;> (try simp only [NR_, Bool.not_true, Bool.not_false, Bool.not_eq_eq_eq_not, ne_eq] at h))
        | omega | (simp only [LN_]; omega) | (refine maxLen_ok ?_; (first | omega | (simp only [LN_]; omega))))
      all_goals first
        | exact ⟨k + 1, St_le_same (by repeat (first | exact trivial | refine ⟨le_rfl, ?_⟩ | refine ⟨le_any, ?_⟩ | refine ⟨le_ro, ?_⟩ | refine ⟨le_nil (by decide), ?_⟩ | refine ⟨le_wrap (by omega) (by omega) (by omega), ?_⟩ | refine ⟨le_int (by omega), ?_⟩ | refine ⟨le_eq (by simp), ?_⟩)) id, ⟨by omega, fun j hj => by
            rcases Nat.lt_or_ge j k with h3 | h3
            · exact hn j h3
            · rw [show j = k by omega]; exact beq_no hq⟩, by omega⟩
        | (exfalso; omega)
        | trace_state
    · have hK := h2 (by rw [look_some k hlt hn (beq_yes hq)]; rfl)
      repeat' (first
        | with_reducible first | refine AW_seqA (AW_block ?_) | refine AW_block ?_ | refine cut_seqloop ?_ | refine cut_loop ?_ | refine AW_seqA (AW_seqA ?_) | refine AW_seq ?_ | refine AW_runReg ?_ | refine AW_runCond ?_ | refine AW_runExit ?_ | refine AW_runRet ?_ | refine AW_runSkip ?_ | refine AW_runLabel ?_
        | simp only [WL, intF, strF, WM, Int.reduceToNat, ne_eq, reduceCtorEq, not_false_eq_true, Nat.reduceAdd, Nat.reduceSub, Nat.reduceLT, Nat.reduceLeDiff, Nat.reduceEqDiff, Bool.not_true, Bool.not_false, beq_self_eq_true, true_and, and_true, reduceIte, Bool.false_eq_true, T3, T4, T9, T43, T44, T46, T88, fC fl46_0, fR fl46_0, fC fl88_0, fR fl88_0, Try.results24, hq]
        | simp (disch := first | omega | (simp only [LN_]; omega)) only [wrap_id, getI, getHP]
        | with_reducible first | refine andA (hb := ?_) | refine y_load (hK := ?_) | refine y_store (hK := ?_) | refine y_appN ?_ | refine y_appS ?_ | refine y_app (hlen := ?_) (hmax := ?_) (hK := fun tk => ?_) | refine y_bs0 ?_ | refine y_bs (hK := ?_) | refine y_build (hK := ?_)
        | with_reducible refine y_nil (hK := ?_)
        | (with_reducible refine nilTC_split (fun h => ?_) (fun h bn => ?_) <;> (try simp only [List.length_map] at h))
        | ((with_reducible first | refine grd_cases (fun h => ?_) (fun h => ?_) | refine condC_split (fun h => ?_) (fun h => ?_)) <;> (try simp only [h]) <;> (try simp only [NR_, Bool.not_true, Bool.not_false, Bool.not_eq_eq_eq_not, ne_eq] at h))
        | omega | (simp only [LN_]; omega) | (refine maxLen_ok ?_; (first | omega | (simp only [LN_]; omega))))
      all_goals first
        | exact leafL sub_rfl (leT_eq rfl) hK
        | (exfalso; omega)
        | trace_state
  · obtain rfl : k = l.length := by omega
    have hK : ∀ tk', K (.ret (B true)) (.tip tk' :: .obj b [.sl 2 (some tk') (l.map HP ++ [HP (h, p, c)])] :: σ) := fun tk' => by
      have := h1 tk' (look_none.2 hn)
      simpa only [List.map_append, List.map_cons, List.map_nil] using this
    repeat' (first
      | with_reducible first | refine AW_seqA (AW_block ?_) | refine AW_block ?_ | refine cut_seqloop ?_ | refine cut_loop ?_ | refine AW_seqA (AW_seqA ?_) | refine AW_seq ?_ | refine AW_runReg ?_ | refine AW_runCond ?_ | refine AW_runExit ?_ | refine AW_runRet ?_ | refine AW_runSkip ?_ | refine AW_runLabel ?_
      | simp only [WL, intF, strF, WM, Int.reduceToNat, ne_eq, reduceCtorEq, not_false_eq_true, Nat.reduceAdd, Nat.reduceSub, Nat.reduceLT, Nat.reduceLeDiff, Nat.reduceEqDiff, Bool.not_true, Bool.not_false, beq_self_eq_true, true_and, and_true, reduceIte, Bool.false_eq_true, T3, T4, T9, T43, T44, T46, T88, fC fl46_0, fR fl46_0, fC fl88_0, fR fl88_0, Try.results24]
      | simp (disch := first | omega | (simp only [LN_]; omega)) only [wrap_id, getI]
      | with_reducible first | refine andA (hb := ?_) | refine y_load (hK := ?_) | refine y_store (hK := ?_) | refine y_appN ?_ | refine y_appS ?_ | refine y_app (hlen := ?_) (hmax := ?_) (hK := fun tk => ?_) | refine y_bs0 ?_ | refine y_bs (hK := ?_) | refine y_build (hK := ?_)
      | with_reducible refine y_nil (hK := ?_)
      | (with_reducible refine nilTC_split (fun h => ?_) (fun h bn => ?_) <;> (try simp only [List.length_map] at h))
      | ((with_reducible first | refine grd_cases (fun h => ?_) (fun h => ?_) | refine condC_split (fun h => ?_) (fun h => ?_)) <;> (try simp only [h]) <;> (try simp only [NR_, Bool.not_true, Bool.not_false, Bool.not_eq_eq_eq_not, ne_eq] at h))
      | omega | (simp only [LN_]; omega) | (refine maxLen_ok ?_; (first | omega | (simp only [LN_]; omega))))
    all_goals first
      | exact leafL sub_rfl (leT_eq rfl) (hK _)
      | (exfalso; omega)
      | trace_state

-- marginaliaref13.Scope).find
set_option maxHeartbeats 8000000 in
theorem rFind {h : ByteArray} {b : Nat} {tk : Option (Nat × Nat)} {l : MapL} (hl : l.length ≤ 1000) (hK : K (.ret (.tup [.raw (.string (preM l h).1), B (preM l h).2])) (.tip tk :: .obj b [.sl 2 (some tk) (l.map HP)] :: σ)) : ACallF κ Try.prog 61 [.raw (.pointer (some ⟨b, 0, none⟩)), .raw (.string h)] (.tip tk :: .obj b [.sl 2 (some tk) (l.map HP)] :: σ) K := by
  unfold preM at hK
  refine ACallF.dropL (ACallF_introA Try.func61 rfl ?_)
  simp only [Try.ntmps61]
  repeat' (first
    | with_reducible first | refine AW_seqA (AW_block ?_) | refine AW_block ?_ | refine cut_seqloop ?_ | refine cut_loop ?_ | refine AW_seqA (AW_seqA ?_) | refine AW_seq ?_ | refine AW_runReg ?_ | refine AW_runCond ?_ | refine AW_runExit ?_ | refine AW_runRet ?_ | refine AW_runSkip ?_ | refine AW_runLabel ?_
    | simp only [WL, intF, strF, WM, Int.reduceToNat, ne_eq, reduceCtorEq, not_false_eq_true, Nat.reduceAdd, Nat.reduceSub, Nat.reduceLT, Nat.reduceLeDiff, Nat.reduceEqDiff, Bool.not_true, Bool.not_false, beq_self_eq_true, true_and, and_true, reduceIte, Bool.false_eq_true, T3, T4, T9, T43, T44, T46, T88, fC fl46_0, fR fl46_0, fC fl88_0, fR fl88_0, fC fl88_1, fR fl88_1, Try.results61]
    | simp (disch := first | omega | (simp only [LN_]; omega)) only [wrap_id, getI]
    | with_reducible first | refine andA (hb := ?_) | refine y_load (hK := ?_)
    | with_reducible refine y_nil (hK := ?_)
    | (with_reducible refine nilTC_split (fun h => ?_) (fun h bn => ?_) <;> (try simp only [List.length_map] at h))
    | ((with_reducible first | refine grd_cases (fun h => ?_) (fun h => ?_) | refine condC_split (fun h => ?_) (fun h => ?_)) <;> (try simp only [h]) <;> (try simp only [NR_, Bool.not_true, Bool.not_false, Bool.not_eq_eq_eq_not, ne_eq] at h))
    | omega | (simp only [LN_]; omega))
  refine loopA (fun k : Nat => ⟨(.raw (.pointer (some ⟨b, 0, none⟩)) :: .raw (.string h) :: .any :: .any :: .any :: .any :: I k :: .any :: .any :: .any :: .any :: .any :: .any :: .any :: .any :: .any :: .any :: .any :: .any :: .any :: .any :: .any :: .any :: .any :: .any :: .any :: .any :: .any :: .any :: .any :: .any :: .any :: .any :: .any :: .any :: .any :: .any :: .any :: .any :: []), .tip tk :: .obj b [.sl 2 (some tk) (l.map HP)] :: σ, true, []⟩) (fun k => k ≤ l.length ∧ ∀ j, j < k → ¬ (l.getD j d0).1 = h) (fun k => l.length - k) 0 (St_le_same (by repeat (first | exact trivial | refine ⟨le_rfl, ?_⟩ | refine ⟨le_any, ?_⟩ | refine ⟨le_ro, ?_⟩ | refine ⟨le_nil (by decide), ?_⟩ | refine ⟨le_wrap (by omega) (by omega) (by omega), ?_⟩ | refine ⟨le_int (by omega), ?_⟩ | refine ⟨le_eq (by simp), ?_⟩)) id) ⟨Nat.zero_le _, fun j hj => absurd hj (by omega)⟩ ?_
  rintro k ⟨hk, hn⟩
  rcases Nat.lt_or_ge k l.length with hlt | hge
  · cases hq : ((l.getD k d0).1.toList == h.toList)
    · skip
      repeat' (first
        | with_reducible first | refine AW_seqA (AW_block ?_) | refine AW_block ?_ | refine cut_seqloop ?_ | refine cut_loop ?_ | refine AW_seqA (AW_seqA ?_) | refine AW_seq ?_ | refine AW_runReg ?_ | refine AW_runCond ?_ | refine AW_runExit ?_ | refine AW_runRet ?_ | refine AW_runSkip ?_ | refine AW_runLabel ?_
        | simp only [WL, intF, strF, WM, Int.reduceToNat, ne_eq, reduceCtorEq, not_false_eq_true, Nat.reduceAdd, Nat.reduceSub, Nat.reduceLT, Nat.reduceLeDiff, Nat.reduceEqDiff, Bool.not_true, Bool.not_false, beq_self_eq_true, true_and, and_true, reduceIte, Bool.false_eq_true, T3, T4, T9, T43, T44, T46, T88, fC fl46_0, fR fl46_0, fC fl88_0, fR fl88_0, fC fl88_1, fR fl88_1, Try.results61, hq]
        | simp (disch := first | omega | (simp only [LN_]; omega)) only [wrap_id, getI, getHP]
        | with_reducible first | refine andA (hb := ?_) | refine y_load (hK := ?_)
        | with_reducible refine y_nil (hK := ?_)
        | (with_reducible refine nilTC_split (fun h => ?_) (fun h bn => ?_) <;> (try simp only [List.length_map] at h))
        | ((with_reducible first | refine grd_cases (fun h => ?_) (fun h => ?_) | refine condC_split (fun h => ?_) (fun h => ?_)) <;> (try simp only [h]) <;> (try simp only [NR_, Bool.not_true, Bool.not_false, Bool.not_eq_eq_eq_not, ne_eq] at h))
        | omega | (simp only [LN_]; omega))
      all_goals first
        | exact ⟨k + 1, St_le_same (by repeat (first | exact trivial | refine ⟨le_rfl, ?_⟩ | refine ⟨le_any, ?_⟩ | refine ⟨le_ro, ?_⟩ | refine ⟨le_nil (by decide), ?_⟩ | refine ⟨le_wrap (by omega) (by omega) (by omega), ?_⟩ | refine ⟨le_int (by omega), ?_⟩ | refine ⟨le_eq (by simp), ?_⟩)) id, ⟨by omega, fun j hj => by
            rcases Nat.lt_or_ge j k with h3 | h3
            · exact hn j h3
            · rw [show j = k by omega]; exact beq_no hq⟩, by omega⟩
        | (exfalso; omega)
        | trace_state
    · rw [look_some k hlt hn (beq_yes hq)] at hK
      simp only at hK
      repeat' (first
        | with_reducible first | refine AW_seqA (AW_block ?_) | refine AW_block ?_ | refine cut_seqloop ?_ | refine cut_loop ?_ | refine AW_seqA (AW_seqA ?_) | refine AW_seq ?_ | refine AW_runReg ?_ | refine AW_runCond ?_ | refine AW_runExit ?_ | refine AW_runRet ?_ | refine AW_runSkip ?_ | refine AW_runLabel ?_
        | simp only [WL, intF, strF, WM, Int.reduceToNat, ne_eq, reduceCtorEq, not_false_eq_true, Nat.reduceAdd, Nat.reduceSub, Nat.reduceLT, Nat.reduceLeDiff, Nat.reduceEqDiff, Bool.not_true, Bool.not_false, beq_self_eq_true, true_and, and_true, reduceIte, Bool.false_eq_true, T3, T4, T9, T43, T44, T46, T88, fC fl46_0, fR fl46_0, fC fl88_0, fR fl88_0, fC fl88_1, fR fl88_1, Try.results61, hq]
        | simp (disch := first | omega | (simp only [LN_]; omega)) only [wrap_id, getI, getHP]
        | with_reducible first | refine andA (hb := ?_) | refine y_load (hK := ?_)
        | with_reducible refine y_nil (hK := ?_)
        | (with_reducible refine nilTC_split (fun h => ?_) (fun h bn => ?_) <;> (try simp only [List.length_map] at h))
        | ((with_reducible first | refine grd_cases (fun h => ?_) (fun h => ?_) | refine condC_split (fun h => ?_) (fun h => ?_)) <;> (try simp only [h]) <;> (try simp only [NR_, Bool.not_true, Bool.not_false, Bool.not_eq_eq_eq_not, ne_eq] at h))
        | omega | (simp only [LN_]; omega))
      all_goals first
        | exact leafL sub_rfl (leT_eq rfl) hK
        | (exfalso; omega)
        | trace_state
  · obtain rfl : k = l.length := by omega
    rw [look_none.2 hn] at hK
    simp only at hK
    unfold pre0 at hK
    cases h1 : (h.toList == bangB.toList)
    · cases h2 : (h.toList == bang2B.toList)
      · rw [if_neg (by rw [h1]; decide), if_neg (by rw [h2]; decide)] at hK
        repeat' (first
          | with_reducible first | refine AW_seqA (AW_block ?_) | refine AW_block ?_ | refine cut_seqloop ?_ | refine cut_loop ?_ | refine AW_seqA (AW_seqA ?_) | refine AW_seq ?_ | refine AW_runReg ?_ | refine AW_runCond ?_ | refine AW_runExit ?_ | refine AW_runRet ?_ | refine AW_runSkip ?_ | refine AW_runLabel ?_
          | simp only [WL, intF, strF, WM, Int.reduceToNat, ne_eq, reduceCtorEq, not_false_eq_true, Nat.reduceAdd, Nat.reduceSub, Nat.reduceLT, Nat.reduceLeDiff, Nat.reduceEqDiff, Bool.not_true, Bool.not_false, beq_self_eq_true, true_and, and_true, reduceIte, Bool.false_eq_true, T3, T4, T9, T43, T44, T46, T88, fC fl46_0, fR fl46_0, fC fl88_0, fR fl88_0, fC fl88_1, fR fl88_1, Try.results61, lt_y, lt_b, lt_b2, h1, h2]
          | simp (disch := first | omega | (simp only [LN_]; omega)) only [wrap_id, getI]
          | with_reducible first | refine andA (hb := ?_) | refine y_load (hK := ?_)
          | with_reducible refine y_nil (hK := ?_)
          | (with_reducible refine nilTC_split (fun h => ?_) (fun h bn => ?_) <;> (try simp only [List.length_map] at h))
          | ((with_reducible first | refine grd_cases (fun h => ?_) (fun h => ?_) | refine condC_split (fun h => ?_) (fun h => ?_)) <;> (try simp only [h]) <;> (try simp only [NR_, Bool.not_true, Bool.not_false, Bool.not_eq_eq_eq_not, ne_eq] at h))
          | omega | (simp only [LN_]; omega))
        all_goals first
          | exact leafL sub_rfl (leT_eq rfl) hK
          | (exfalso; omega)
          | trace_state
      · rw [if_neg (by rw [h1]; decide), if_pos h2] at hK
        repeat' (first
          | with_reducible first | refine AW_seqA (AW_block ?_) | refine AW_block ?_ | refine cut_seqloop ?_ | refine cut_loop ?_ | refine AW_seqA (AW_seqA ?_) | refine AW_seq ?_ | refine AW_runReg ?_ | refine AW_runCond ?_ | refine AW_runExit ?_ | refine AW_runRet ?_ | refine AW_runSkip ?_ | refine AW_runLabel ?_
          | simp only [WL, intF, strF, WM, Int.reduceToNat, ne_eq, reduceCtorEq, not_false_eq_true, Nat.reduceAdd, Nat.reduceSub, Nat.reduceLT, Nat.reduceLeDiff, Nat.reduceEqDiff, Bool.not_true, Bool.not_false, beq_self_eq_true, true_and, and_true, reduceIte, Bool.false_eq_true, T3, T4, T9, T43, T44, T46, T88, fC fl46_0, fR fl46_0, fC fl88_0, fR fl88_0, fC fl88_1, fR fl88_1, Try.results61, lt_y, lt_b, lt_b2, h1, h2]
          | simp (disch := first | omega | (simp only [LN_]; omega)) only [wrap_id, getI]
          | with_reducible first | refine andA (hb := ?_) | refine y_load (hK := ?_)
          | with_reducible refine y_nil (hK := ?_)
          | (with_reducible refine nilTC_split (fun h => ?_) (fun h bn => ?_) <;> (try simp only [List.length_map] at h))
          | ((with_reducible first | refine grd_cases (fun h => ?_) (fun h => ?_) | refine condC_split (fun h => ?_) (fun h => ?_)) <;> (try simp only [h]) <;> (try simp only [NR_, Bool.not_true, Bool.not_false, Bool.not_eq_eq_eq_not, ne_eq] at h))
          | omega | (simp only [LN_]; omega))
        all_goals first
          | exact leafL sub_rfl (leT_eq rfl) hK
          | (exfalso; omega)
          | trace_state
    · rw [if_pos h1] at hK
      repeat' (first
        | with_reducible first | refine AW_seqA (AW_block ?_) | refine AW_block ?_ | refine cut_seqloop ?_ | refine cut_loop ?_ | refine AW_seqA (AW_seqA ?_) | refine AW_seq ?_ | refine AW_runReg ?_ | refine AW_runCond ?_ | refine AW_runExit ?_ | refine AW_runRet ?_ | refine AW_runSkip ?_ | refine AW_runLabel ?_
        | simp only [WL, intF, strF, WM, Int.reduceToNat, ne_eq, reduceCtorEq, not_false_eq_true, Nat.reduceAdd, Nat.reduceSub, Nat.reduceLT, Nat.reduceLeDiff, Nat.reduceEqDiff, Bool.not_true, Bool.not_false, beq_self_eq_true, true_and, and_true, reduceIte, Bool.false_eq_true, T3, T4, T9, T43, T44, T46, T88, fC fl46_0, fR fl46_0, fC fl88_0, fR fl88_0, fC fl88_1, fR fl88_1, Try.results61, lt_y, lt_b, lt_b2, h1]
        | simp (disch := first | omega | (simp only [LN_]; omega)) only [wrap_id, getI]
        | with_reducible first | refine andA (hb := ?_) | refine y_load (hK := ?_)
        | with_reducible refine y_nil (hK := ?_)
        | (with_reducible refine nilTC_split (fun h => ?_) (fun h bn => ?_) <;> (try simp only [List.length_map] at h))
        | ((with_reducible first | refine grd_cases (fun h => ?_) (fun h => ?_) | refine condC_split (fun h => ?_) (fun h => ?_)) <;> (try simp only [h]) <;> (try simp only [NR_, Bool.not_true, Bool.not_false, Bool.not_eq_eq_eq_not, ne_eq] at h))
        | omega | (simp only [LN_]; omega))
      all_goals first
        | exact leafL sub_rfl (leT_eq rfl) hK
        | (exfalso; omega)
        | trace_state

-- marginaliaref13.told
set_option maxHeartbeats 8000000 in
theorem rTold {s : ByteArray} (hs : s.size ≤ 1000000) (hK : K (.ret (B (toldB s))) σ) : ACallF κ Try.prog 60 [.raw (.string s)] σ K := by
  rw [← told_same] at hK
  unfold told2 at hK
  cases hm : smallI (bytesI s) with
  | none =>
    rw [hm] at hK
    refine ACallF.dropL (ACallF_intro Try.func60 rfl ?_)
    simp only [Try.ntmps60]
    repeat' (first
      | simp only [WL, intF, strF, WM, Int.reduceToNat, ne_eq, reduceCtorEq, not_false_eq_true, Nat.reduceAdd, Nat.reduceSub, Nat.reduceLT, Nat.reduceLeDiff, Nat.reduceEqDiff, Bool.not_true, Bool.not_false, beq_self_eq_true, true_and, and_true, reduceIte, Bool.false_eq_true, T3, T4, T9, T24, cok13, cok14, cok63, cok94, Try.results60, hm]
      | simp (disch := first | omega | (simp only [LN_]; omega)) only [wrap_id, getI]
      | with_reducible first | refine andA (hb := ?_) | refine y_load (hK := ?_) | refine cD (rValid ?_ ?_) | refine cD (rText ?_ ?_) | refine cD (rBegins ?_) | refine cD (rTag ?_ ?_)
      | with_reducible refine y_nil (hK := ?_)
      | (with_reducible refine nilTC_split (fun h => ?_) (fun h bn => ?_) <;> (try simp only [List.length_map] at h))
      | ((with_reducible first | refine grd_cases (fun h => ?_) (fun h => ?_) | refine condC_split (fun h => ?_) (fun h => ?_)) <;> (try simp only [h]) <;> (try simp only [NR_, Bool.not_true, Bool.not_false, Bool.not_eq_eq_eq_not, ne_eq] at h))
      | omega | (simp only [LN_]; omega))
    all_goals first
      | exact leafL sub_rfl (leT_eq rfl) hK
      | trace_state
  | some m =>
    rw [hm] at hK
    simp only at hK
    have hml : m.length ≤ s.size := by
      have := (smallI_enc (bytesI_byte s) hm).1
      have h2 := encL_ge m
      rw [this, bytesI_len] at h2
      exact h2
    have e1 := z_ext (s := s) 1
    by_cases h60 : m.getD 0 0 = 60 ∧ 0 < m.length
    · rw [if_pos h60] at hK
      obtain ⟨h3, h4⟩ := h60
      refine ACallF.dropL (ACallF_intro Try.func60 rfl ?_)
      simp only [Try.ntmps60]
      repeat' (first
        | simp only [WL, intF, strF, WM, Int.reduceToNat, ne_eq, reduceCtorEq, not_false_eq_true, Nat.reduceAdd, Nat.reduceSub, Nat.reduceLT, Nat.reduceLeDiff, Nat.reduceEqDiff, Bool.not_true, Bool.not_false, beq_self_eq_true, true_and, and_true, reduceIte, Bool.false_eq_true, T3, T4, T9, T24, cok13, cok14, cok63, cok94, Try.results60, hm, Option.getD_some, h3]
        | simp (disch := first | omega | (simp only [LN_]; omega)) only [wrap_id, getI]
        | with_reducible first | refine andA (hb := ?_) | refine y_load (hK := ?_) | refine cD (rValid ?_ ?_) | refine cD (rText ?_ ?_) | refine cD (rBegins ?_) | refine cD (rTag ?_ ?_)
        | with_reducible refine y_nil (hK := ?_)
        | (with_reducible refine nilTC_split (fun h => ?_) (fun h bn => ?_) <;> (try simp only [List.length_map] at h))
        | ((with_reducible first | refine grd_cases (fun h => ?_) (fun h => ?_) | refine condC_split (fun h => ?_) (fun h => ?_)) <;> (try simp only [h]) <;> (try simp only [NR_, Bool.not_true, Bool.not_false, Bool.not_eq_eq_eq_not, ne_eq] at h))
        | omega | (simp only [LN_]; omega))
      all_goals first
        | (rw [decide_eq_true (by omega), Bool.true_and] at hK; exact leafL sub_rfl (leT_eq rfl) hK)
        | (rw [decide_eq_false (by omega), Bool.false_and] at hK; exact leafL sub_rfl (leT_eq rfl) hK)
        | (exfalso; omega)
        | trace_state
    · rw [if_neg h60] at hK
      have hne : 0 < m.length → ¬ m.getD 0 0 = 60 := fun a b => h60 ⟨b, a⟩
      refine ACallF.dropL (ACallF_intro Try.func60 rfl ?_)
      simp only [Try.ntmps60]
      repeat' (first
        | simp only [WL, intF, strF, WM, Int.reduceToNat, ne_eq, reduceCtorEq, not_false_eq_true, Nat.reduceAdd, Nat.reduceSub, Nat.reduceLT, Nat.reduceLeDiff, Nat.reduceEqDiff, Bool.not_true, Bool.not_false, beq_self_eq_true, true_and, and_true, reduceIte, Bool.false_eq_true, T3, T4, T9, T24, cok13, cok14, cok63, cok94, Try.results60, hm, Option.getD_some, lt_2]
        | simp (disch := first | omega | (simp only [LN_]; omega)) only [wrap_id, getI]
        | with_reducible first | refine andA (hb := ?_) | refine y_load (hK := ?_) | refine cD (rValid ?_ ?_) | refine cD (rText ?_ ?_) | refine cD (rBegins ?_) | refine cD (rTag ?_ ?_)
        | with_reducible refine y_nil (hK := ?_)
        | (with_reducible refine nilTC_split (fun h => ?_) (fun h bn => ?_) <;> (try simp only [List.length_map] at h))
        | ((with_reducible first | refine grd_cases (fun h => ?_) (fun h => ?_) | refine condC_split (fun h => ?_) (fun h => ?_)) <;> (try simp only [h]) <;> (try simp only [NR_, Bool.not_true, Bool.not_false, Bool.not_eq_eq_eq_not, ne_eq] at h))
        | omega | (simp only [LN_]; omega))
      all_goals first
        | (exfalso; omega)
        | (exfalso; exact hne (by assumption) (by assumption))
        | (rw [show (tagI m).2.2 = false by assumption, Bool.false_and, Bool.false_and, Bool.false_and] at hK; exact leafL sub_rfl (leT_eq rfl) hK)
        | (rw [show (tagI m).2.2 = true by assumption, decide_eq_false (by assumption), Bool.true_and, Bool.false_and, Bool.false_and] at hK; exact leafL sub_rfl (leT_eq rfl) hK)
        | (rw [show (tagI m).2.2 = true by assumption, decide_eq_true (by assumption), show ((tagI m).1.toList == s.toList) = false from beq_eq_false_iff_ne.2 (by assumption), Bool.true_and, Bool.true_and, Bool.false_and] at hK; exact leafL sub_rfl (leT_eq rfl) hK)
        | (rw [show (tagI m).2.2 = true by assumption, decide_eq_true (by assumption), show ((tagI m).1.toList == s.toList) = true from beq_iff_eq.2 (by assumption), Bool.true_and, Bool.true_and, Bool.true_and] at hK; exact leafL sub_rfl (leT_eq rfl) hK)
        | trace_state
end Go.Proofs.Ytaeacialcbahnaa
/-
  Walks: chapter 16, a tag made whole by the reference.
-/

namespace Go.Proofs.Ytaeacialcbahnaa
open Go.Abs
set_option linter.unusedVariables false
set_option linter.unusedSimpArgs false
-- hb: 8000000
variable {κ : Ctx} {σ : List Res} {K : Ret → List Res → Prop} {o o' : Option (Option (Nat × Nat))}
set_option maxHeartbeats 8000000 in
theorem idx_at : ∀ (l : List UInt8) (c : UInt8) (k : Nat), k < l.length → (∀ j, j < k → l.getD j 0 ≠ c) → l.getD k 0 = c → Go.Lib.indexByte l c = k
  | [], _, k, h, _, _ => by simp at h
  | b :: l, c, 0, _, _, he => by
    have : b = c := by simpa using he
    simp [Go.Lib.indexByte, this]
  | b :: l, c, k + 1, h, hn, he => by
    have hb : ¬ b = c := by simpa using hn 0 (by omega)
    have := idx_at l c k (by simpa using h) (fun j hj => by simpa using hn (j + 1) (by omega)) (by simpa using he)
    simp [Go.Lib.indexByte, hb, this]
set_option maxHeartbeats 8000000 in
theorem idx_no (l : List UInt8) (c : UInt8) (hn : ∀ j, j < l.length → l.getD j 0 ≠ c) : Go.Lib.indexByte l c = -1 := by
  induction l with
  | nil => rfl
  | cons b l ih =>
    have hb : ¬ b = c := by simpa using hn 0 (by simp)
    simp [Go.Lib.indexByte, hb, ih (fun j hj => by simpa using hn (j + 1) (by simpa using hj))]
set_option maxHeartbeats 8000000 in
theorem byte_33 {s : ByteArray} {j : Nat} (h : j < s.size) : s.data.toList.getD j 0 = 33 ↔ (bytesI s).getD j 0 = 33 := by
  rw [← getB h]
  constructor
  · intro e; rw [e]; rfl
  · intro e; apply UInt8.toNat.inj; show _ = 33; omega
set_option maxHeartbeats 8000000 in
theorem ext_list (s : ByteArray) : (s.extract 1 s.size).data.toList = s.data.toList.drop 1 := by
  rw [ByteArray.data_extract, Array.toList_extract, List.extract_eq_take_drop, List.take_of_length_le]
  rw [List.length_drop, Array.length_toList]; exact Nat.le_refl _
set_option maxHeartbeats 8000000 in
theorem ext_get (s : ByteArray) (j : Nat) : (s.extract 1 s.size).data.toList.getD j 0 = s.data.toList.getD (j + 1) 0 := by
  rw [ext_list, List.getD_eq_getElem?_getD, List.getElem?_drop, ← List.getD_eq_getElem?_getD, Nat.add_comm]
set_option maxHeartbeats 8000000 in
theorem cut_at {s : ByteArray} {k : Nat} (h : k < s.size) (h1 : 1 ≤ k) (hn : ∀ j, 1 ≤ j → j < k → ¬ (bytesI s).getD j 0 = 33) (he : (bytesI s).getD k 0 = 33) : cutN s = k + 1 := by
  have : idxB (s.extract 1 s.size) 33 = (k - 1 : Nat) := by
    refine idx_at _ _ _ (by rw [ext_list, List.length_drop, Array.length_toList]; show k - 1 < s.size - 1; omega) (fun j hj => ?_) ?_
    · rw [ext_get]; exact fun e => hn (j + 1) (by omega) (by omega) ((byte_33 (by omega)).1 e)
    · rw [ext_get, show k - 1 + 1 = k by omega]; exact (byte_33 h).2 he
  unfold cutN
  rw [this, if_pos (by omega)]; omega
set_option maxHeartbeats 8000000 in
theorem cut_no {s : ByteArray} (hn : ∀ j, 1 ≤ j → j < s.size → ¬ (bytesI s).getD j 0 = 33) : cutN s = 1 := by
  have : idxB (s.extract 1 s.size) 33 = -1 := by
    refine idx_no _ _ (fun j hj => ?_)
    rw [ext_list, List.length_drop, Array.length_toList] at hj
    have hj : j < s.size - 1 := hj
    rw [ext_get]; exact fun e => hn (j + 1) (by omega) (by omega) ((byte_33 (by omega)).1 e)
  unfold cutN
  rw [this, if_neg (by decide)]
set_option maxHeartbeats 8000000 in
theorem told_bang {s : ByteArray} (ht : toldB s = true) (hl : hasB s lessB = false) : 1 ≤ s.size ∧ s.extract 0 1 = bangB := by
  unfold toldB at ht
  rw [if_neg (by rw [hl]; decide), Bool.and_eq_true, Bool.and_eq_true, decide_eq_true_eq] at ht
  have ha := tag_all ht.1.1 ht.1.2
  have hr := runes_bytes (s := s) _ 0 (Nat.le_refl _) (fun c hc => (ha c hc).2)
  rw [List.drop_zero] at hr
  rw [hr] at ht
  have h0 : atI (bytesI s) 0 33 = true := by
    cases hx : atI (bytesI s) 0 33
    · have := ht.1.1; unfold tagI at this; rw [if_pos hx] at this; cases this
    · rfl
  obtain ⟨a1, a2⟩ := atI_lt h0
  rw [bytesI_len] at a1
  refine ⟨a1, bytesI_inj ?_⟩
  rw [bytes_to, bytes_b]
  cases hb : bytesI s with
  | nil => have := bytesI_len s; rw [hb] at this; simp at this; omega
  | cons c r => rw [hb] at a2; simp at a2; simp [a2]
set_option maxHeartbeats 8000000 in
theorem less_at {s : ByteArray} (h : 1 ≤ s.size) : hasB s lessB = ((bytesI s).getD 0 0 == 60) := by
  rw [Bool.eq_iff_iff, hasB_l, beq_iff_eq]
  cases hb : bytesI s with
  | nil => have := bytesI_len s; rw [hb] at this; simp at this; omega
  | cons c r => simp

-- marginaliaref13.Scope).Whole
set_option maxHeartbeats 8000000 in
theorem rWhole {s : ByteArray} {b : Nat} {tk : Option (Nat × Nat)} {l : MapL} (hl : l.length ≤ 1000) (hp : ∀ h, (preM l h).1.size ≤ 1152921504606846976) (hs : s.size ≤ 1000000) (hK : K (.ret (.tup [.raw (.string (wholeM l s).1), I (wholeM l s).2])) (.tip tk :: .obj b [.sl 2 (some tk) (l.map HP)] :: σ)) : ACallF κ Try.prog 26 [.raw (.pointer (some ⟨b, 0, none⟩)), .raw (.string s)] (.tip tk :: .obj b [.sl 2 (some tk) (l.map HP)] :: σ) K := by
  have e2 := z_ext (s := s) 1
  unfold wholeM at hK
  cases h0 : (s.toList == ({ data := #[] } : ByteArray).toList)
  · cases h1 : (s.toList == bangB.toList)
    · rw [if_neg (fun e => by rw [h0, h1] at e; exact e.elim (fun e => by cases e) (fun e => by cases e))] at hK
      have hpos : 1 ≤ s.size := by
        rcases Nat.eq_zero_or_pos s.size with h | h
        · have : s = ByteArray.empty := ByteArray.size_eq_zero_iff.mp h
          subst this
          revert h0; decide +kernel
        · exact h
      cases h2 : toldB s
      · rw [if_pos h2] at hK
        refine ACallF.dropL (ACallF_introA Try.func26 rfl ?_)
        simp only [Try.ntmps26]
        repeat' (first
          | with_reducible first | refine AW_seqA (AW_block ?_) | refine AW_block ?_ | refine cut_seqloop ?_ | refine cut_loop ?_ | refine AW_seqA (AW_seqA ?_) | refine AW_seq ?_ | refine AW_runReg ?_ | refine AW_runCond ?_ | refine AW_runExit ?_ | refine AW_runRet ?_ | refine AW_runSkip ?_ | refine AW_runLabel ?_
          | simp only [WL, intF, strF, WM, Int.reduceToNat, ne_eq, reduceCtorEq, not_false_eq_true, Nat.reduceAdd, Nat.reduceSub, Nat.reduceLT, Nat.reduceLeDiff, Nat.reduceEqDiff, Bool.not_true, Bool.not_false, beq_self_eq_true, true_and, and_true, reduceIte, Bool.false_eq_true, T3, T4, T5, T9, T43, T44, T46, T88, cok60, cok61, Try.results26, lt_b, h0, h1, h2]
          | simp (disch := first | omega | (simp only [LN_]; omega)) only [wrap_id, getI]
          | with_reducible first | refine andA (hb := ?_) | refine cD (rTold ?_ ?_) | refine cD (rFind ?_ ?_)
          | with_reducible refine y_nil (hK := ?_)
          | (with_reducible refine nilTC_split (fun h => ?_) (fun h bn => ?_) <;> (try simp only [List.length_map] at h))
          | ((with_reducible first | refine grd_cases (fun h => ?_) (fun h => ?_) | refine condC_split (fun h => ?_) (fun h => ?_)) <;> (try simp only [h]) <;> (try simp only [NR_, Bool.not_true, Bool.not_false, Bool.not_eq_eq_eq_not, ne_eq] at h))
          | omega | (simp only [LN_]; omega))
        all_goals first
          | exact leafL sub_rfl (leT_eq rfl) hK
          | trace_state
      · rw [if_neg (by rw [h2]; decide)] at hK
        have hla := less_at hpos
        have hg0 := getB (s := s) (k := 0) hpos
        cases h3 : hasB s lessB
        · rw [if_neg (by rw [h3]; decide)] at hK
          rw [h3] at hla
          have hla := hla.symm
          have hbang := (told_bang h2 h3).2
          refine ACallF.dropL (ACallF_introA Try.func26 rfl ?_)
          simp only [Try.ntmps26]
          repeat' (first
            | with_reducible first | refine AW_seqA (AW_block ?_) | refine AW_block ?_ | refine cut_seqloop ?_ | refine cut_loop ?_ | refine AW_seqA (AW_seqA ?_) | refine AW_seq ?_ | refine AW_runReg ?_ | refine AW_runCond ?_ | refine AW_runExit ?_ | refine AW_runRet ?_ | refine AW_runSkip ?_ | refine AW_runLabel ?_
            | simp only [WL, intF, strF, WM, Int.reduceToNat, ne_eq, reduceCtorEq, not_false_eq_true, Nat.reduceAdd, Nat.reduceSub, Nat.reduceLT, Nat.reduceLeDiff, Nat.reduceEqDiff, Bool.not_true, Bool.not_false, beq_self_eq_true, true_and, and_true, reduceIte, Bool.false_eq_true, T3, T4, T5, T9, T43, T44, T46, T88, cok60, cok61, Try.results26, lt_b, h0, h1, h2, hg0, hla]
            | simp (disch := first | omega | (simp only [LN_]; omega)) only [wrap_id, getI]
            | with_reducible first | refine andA (hb := ?_) | refine cD (rTold ?_ ?_) | refine cD (rFind ?_ ?_)
            | with_reducible refine y_nil (hK := ?_)
            | (with_reducible refine nilTC_split (fun h => ?_) (fun h bn => ?_) <;> (try simp only [List.length_map] at h))
            | ((with_reducible first | refine grd_cases (fun h => ?_) (fun h => ?_) | refine condC_split (fun h => ?_) (fun h => ?_)) <;> (try simp only [h]) <;> (try simp only [NR_, Bool.not_true, Bool.not_false, Bool.not_eq_eq_eq_not, ne_eq] at h))
            | omega | (simp only [LN_]; omega))
          refine loopA (fun k : Nat => ⟨(.raw (.pointer (some ⟨b, 0, none⟩)) :: .raw (.string s) :: .any :: .any :: .any :: .any :: I (k + 1 : Nat) :: .any :: .any :: .any :: .any :: .any :: .any :: .any :: .any :: .any :: .any :: .any :: .any :: .any :: .any :: .any :: .any :: .any :: .any :: .any :: .any :: .any :: .any :: .any :: .any :: .any :: .any :: .any :: .any :: .any :: .any :: .any :: .any :: .any :: .any :: .any :: .any :: .any :: .any :: .any :: .any :: .any :: .any :: .any :: .any :: .any :: .any :: .any :: .any :: .any :: .any :: .any :: .any :: .any :: .any :: .any :: .any :: []), .tip tk :: .obj b [.sl 2 (some tk) (l.map HP)] :: σ, true, []⟩) (fun k => k + 1 ≤ s.size ∧ ∀ j, 1 ≤ j → j < k + 1 → ¬ (bytesI s).getD j 0 = 33) (fun k => s.size - k) 0 (St_le_same (by repeat (first | exact trivial | refine ⟨le_rfl, ?_⟩ | refine ⟨le_any, ?_⟩ | refine ⟨le_ro, ?_⟩ | refine ⟨le_nil (by decide), ?_⟩ | refine ⟨le_wrap (by omega) (by omega) (by omega), ?_⟩ | refine ⟨le_int (by omega), ?_⟩ | refine ⟨le_eq (by simp), ?_⟩)) id) ⟨hpos, fun j h4 h5 => by omega⟩ ?_
          rintro k ⟨hk, hn⟩
          rcases Nat.lt_or_ge (k + 1) s.size with hlt | hge
          · have hgk := getB (s := s) (k := k + 1) hlt
            cases h4 : ((bytesI s).getD (k + 1) 0 != 33)
            · have hcut := cut_at hlt (by omega) hn (by simpa using h4)
              have hc2 : ((k + 1 : Nat) : Int) + 1 = (cutN s : Int) := by omega
              have hcl : cutN s ≤ s.size := by omega
              have e3 := z_ext (s := s) (cutN s)
              have e4 := hp (s.extract 0 (cutN s))
              cases h5 : (preM l (s.extract 0 (cutN s))).2
              · rw [if_pos h5] at hK
                repeat' (first
                  | with_reducible first | refine AW_seqA (AW_block ?_) | refine AW_block ?_ | refine cut_seqloop ?_ | refine cut_loop ?_ | refine AW_seqA (AW_seqA ?_) | refine AW_seq ?_ | refine AW_runReg ?_ | refine AW_runCond ?_ | refine AW_runExit ?_ | refine AW_runRet ?_ | refine AW_runSkip ?_ | refine AW_runLabel ?_
                  | simp only [WL, intF, strF, WM, Int.reduceToNat, ne_eq, reduceCtorEq, not_false_eq_true, Nat.reduceAdd, Nat.reduceSub, Nat.reduceLT, Nat.reduceLeDiff, Nat.reduceEqDiff, Bool.not_true, Bool.not_false, beq_self_eq_true, true_and, and_true, reduceIte, Bool.false_eq_true, T3, T4, T5, T9, T43, T44, T46, T88, cok60, cok61, Try.results26, hgk, h4, hc2, h5, Int.toNat_natCast, Int.toNat_zero]
                  | simp (disch := first | omega | (simp only [LN_]; omega)) only [wrap_id, getI, str_addB]
                  | with_reducible first | refine andA (hb := ?_) | refine cD (rTold ?_ ?_) | refine cD (rFind ?_ ?_)
                  | with_reducible refine y_nil (hK := ?_)
                  | (with_reducible refine nilTC_split (fun h => ?_) (fun h bn => ?_) <;> (try simp only [List.length_map] at h))
                  | ((with_reducible first | refine grd_cases (fun h => ?_) (fun h => ?_) | refine condC_split (fun h => ?_) (fun h => ?_)) <;> (try simp only [h]) <;> (try simp only [NR_, Bool.not_true, Bool.not_false, Bool.not_eq_eq_eq_not, ne_eq] at h))
                  | omega | (simp only [LN_]; omega))
                all_goals first
                  | exact leafL sub_rfl (leT_eq rfl) hK
                  | (exfalso; omega)
                  | trace_state
              · rw [if_neg (by rw [h5]; decide)] at hK
                repeat' (first
                  | with_reducible first | refine AW_seqA (AW_block ?_) | refine AW_block ?_ | refine cut_seqloop ?_ | refine cut_loop ?_ | refine AW_seqA (AW_seqA ?_) | refine AW_seq ?_ | refine AW_runReg ?_ | refine AW_runCond ?_ | refine AW_runExit ?_ | refine AW_runRet ?_ | refine AW_runSkip ?_ | refine AW_runLabel ?_
                  | simp only [WL, intF, strF, WM, Int.reduceToNat, ne_eq, reduceCtorEq, not_false_eq_true, Nat.reduceAdd, Nat.reduceSub, Nat.reduceLT, Nat.reduceLeDiff, Nat.reduceEqDiff, Bool.not_true, Bool.not_false, beq_self_eq_true, true_and, and_true, reduceIte, Bool.false_eq_true, T3, T4, T5, T9, T43, T44, T46, T88, cok60, cok61, Try.results26, hgk, h4, hc2, h5, Int.toNat_natCast, Int.toNat_zero]
                  | simp (disch := first | omega | (simp only [LN_]; omega)) only [wrap_id, getI, str_addB]
                  | with_reducible first | refine andA (hb := ?_) | refine cD (rTold ?_ ?_) | refine cD (rFind ?_ ?_)
                  | with_reducible refine y_nil (hK := ?_)
                  | (with_reducible refine nilTC_split (fun h => ?_) (fun h bn => ?_) <;> (try simp only [List.length_map] at h))
                  | ((with_reducible first | refine grd_cases (fun h => ?_) (fun h => ?_) | refine condC_split (fun h => ?_) (fun h => ?_)) <;> (try simp only [h]) <;> (try simp only [NR_, Bool.not_true, Bool.not_false, Bool.not_eq_eq_eq_not, ne_eq] at h))
                  | omega | (simp only [LN_]; omega))
                all_goals first
                  | exact leafL sub_rfl (leT_eq rfl) hK
                  | (exfalso; omega)
                  | trace_state
            · skip
              repeat' (first
                | with_reducible first | refine AW_seqA (AW_block ?_) | refine AW_block ?_ | refine cut_seqloop ?_ | refine cut_loop ?_ | refine AW_seqA (AW_seqA ?_) | refine AW_seq ?_ | refine AW_runReg ?_ | refine AW_runCond ?_ | refine AW_runExit ?_ | refine AW_runRet ?_ | refine AW_runSkip ?_ | refine AW_runLabel ?_
                | simp only [WL, intF, strF, WM, Int.reduceToNat, ne_eq, reduceCtorEq, not_false_eq_true, Nat.reduceAdd, Nat.reduceSub, Nat.reduceLT, Nat.reduceLeDiff, Nat.reduceEqDiff, Bool.not_true, Bool.not_false, beq_self_eq_true, true_and, and_true, reduceIte, Bool.false_eq_true, T3, T4, T5, T9, T43, T44, T46, T88, cok60, cok61, Try.results26, hgk, h4, Int.toNat_natCast]
                | simp (disch := first | omega | (simp only [LN_]; omega)) only [wrap_id, getI]
                | with_reducible first | refine andA (hb := ?_) | refine cD (rTold ?_ ?_) | refine cD (rFind ?_ ?_)
                | with_reducible refine y_nil (hK := ?_)
                | (with_reducible refine nilTC_split (fun h => ?_) (fun h bn => ?_) <;> (try simp only [List.length_map] at h))
                | ((with_reducible first | refine grd_cases (fun h => ?_) (fun h => ?_) | refine condC_split (fun h => ?_) (fun h => ?_)) <;> (try simp only [h]) <;> (try simp only [NR_, Bool.not_true, Bool.not_false, Bool.not_eq_eq_eq_not, ne_eq] at h))
                | omega | (simp only [LN_]; omega))
              all_goals first
                | exact ⟨k + 1, St_le_same (by repeat (first | exact trivial | refine ⟨le_rfl, ?_⟩ | refine ⟨le_any, ?_⟩ | refine ⟨le_ro, ?_⟩ | refine ⟨le_nil (by decide), ?_⟩ | refine ⟨le_wrap (by omega) (by omega) (by omega), ?_⟩ | refine ⟨le_int (by omega), ?_⟩ | refine ⟨le_eq (by simp), ?_⟩)) id, ⟨by omega, fun j h5 h6 => by
                    rcases Nat.lt_or_ge j (k + 1) with h7 | h7
                    · exact hn j h5 h7
                    · rw [show j = k + 1 by omega]; simpa using h4⟩, by omega⟩
                | (exfalso; omega)
                | trace_state
          · have hcut := cut_no (s := s) (fun j h5 h6 => hn j h5 (by omega))
            rw [hcut, hbang] at hK
            have e4 := hp bangB
            cases h5 : (preM l bangB).2
            · rw [if_pos h5] at hK
              repeat' (first
                | with_reducible first | refine AW_seqA (AW_block ?_) | refine AW_block ?_ | refine cut_seqloop ?_ | refine cut_loop ?_ | refine AW_seqA (AW_seqA ?_) | refine AW_seq ?_ | refine AW_runReg ?_ | refine AW_runCond ?_ | refine AW_runExit ?_ | refine AW_runRet ?_ | refine AW_runSkip ?_ | refine AW_runLabel ?_
                | simp only [WL, intF, strF, WM, Int.reduceToNat, ne_eq, reduceCtorEq, not_false_eq_true, Nat.reduceAdd, Nat.reduceSub, Nat.reduceLT, Nat.reduceLeDiff, Nat.reduceEqDiff, Bool.not_true, Bool.not_false, beq_self_eq_true, true_and, and_true, reduceIte, Bool.false_eq_true, T3, T4, T5, T9, T43, T44, T46, T88, cok60, cok61, Try.results26, lt_b, h5, Int.toNat_natCast, Int.toNat_zero]
                | simp (disch := first | omega | (simp only [LN_]; omega)) only [wrap_id, getI, str_addB]
                | with_reducible first | refine andA (hb := ?_) | refine cD (rTold ?_ ?_) | refine cD (rFind ?_ ?_)
                | with_reducible refine y_nil (hK := ?_)
                | (with_reducible refine nilTC_split (fun h => ?_) (fun h bn => ?_) <;> (try simp only [List.length_map] at h))
                | ((with_reducible first | refine grd_cases (fun h => ?_) (fun h => ?_) | refine condC_split (fun h => ?_) (fun h => ?_)) <;> (try simp only [h]) <;> (try simp only [NR_, Bool.not_true, Bool.not_false, Bool.not_eq_eq_eq_not, ne_eq] at h))
                | omega | (simp only [LN_]; omega))
              all_goals first
                | exact leafL sub_rfl (leT_eq rfl) hK
                | (exfalso; omega)
                | trace_state
            · rw [if_neg (by rw [h5]; decide)] at hK
              repeat' (first
                | with_reducible first | refine AW_seqA (AW_block ?_) | refine AW_block ?_ | refine cut_seqloop ?_ | refine cut_loop ?_ | refine AW_seqA (AW_seqA ?_) | refine AW_seq ?_ | refine AW_runReg ?_ | refine AW_runCond ?_ | refine AW_runExit ?_ | refine AW_runRet ?_ | refine AW_runSkip ?_ | refine AW_runLabel ?_
                | simp only [WL, intF, strF, WM, Int.reduceToNat, ne_eq, reduceCtorEq, not_false_eq_true, Nat.reduceAdd, Nat.reduceSub, Nat.reduceLT, Nat.reduceLeDiff, Nat.reduceEqDiff, Bool.not_true, Bool.not_false, beq_self_eq_true, true_and, and_true, reduceIte, Bool.false_eq_true, T3, T4, T5, T9, T43, T44, T46, T88, cok60, cok61, Try.results26, lt_b, h5, Int.toNat_natCast, Int.toNat_zero]
                | simp (disch := first | omega | (simp only [LN_]; omega)) only [wrap_id, getI, str_addB]
                | with_reducible first | refine andA (hb := ?_) | refine cD (rTold ?_ ?_) | refine cD (rFind ?_ ?_)
                | with_reducible refine y_nil (hK := ?_)
                | (with_reducible refine nilTC_split (fun h => ?_) (fun h bn => ?_) <;> (try simp only [List.length_map] at h))
                | ((with_reducible first | refine grd_cases (fun h => ?_) (fun h => ?_) | refine condC_split (fun h => ?_) (fun h => ?_)) <;> (try simp only [h]) <;> (try simp only [NR_, Bool.not_true, Bool.not_false, Bool.not_eq_eq_eq_not, ne_eq] at h))
                | omega | (simp only [LN_]; omega))
              all_goals first
                | exact leafL sub_rfl (leT_eq rfl) hK
                | (exfalso; omega)
                | trace_state
        · rw [if_pos h3] at hK
          rw [h3] at hla
          have hla := hla.symm
          refine ACallF.dropL (ACallF_introA Try.func26 rfl ?_)
          simp only [Try.ntmps26]
          repeat' (first
            | with_reducible first | refine AW_seqA (AW_block ?_) | refine AW_block ?_ | refine cut_seqloop ?_ | refine cut_loop ?_ | refine AW_seqA (AW_seqA ?_) | refine AW_seq ?_ | refine AW_runReg ?_ | refine AW_runCond ?_ | refine AW_runExit ?_ | refine AW_runRet ?_ | refine AW_runSkip ?_ | refine AW_runLabel ?_
            | simp only [WL, intF, strF, WM, Int.reduceToNat, ne_eq, reduceCtorEq, not_false_eq_true, Nat.reduceAdd, Nat.reduceSub, Nat.reduceLT, Nat.reduceLeDiff, Nat.reduceEqDiff, Bool.not_true, Bool.not_false, beq_self_eq_true, true_and, and_true, reduceIte, Bool.false_eq_true, T3, T4, T5, T9, T43, T44, T46, T88, cok60, cok61, Try.results26, lt_b, h0, h1, h2, hg0, hla]
            | simp (disch := first | omega | (simp only [LN_]; omega)) only [wrap_id, getI]
            | with_reducible first | refine andA (hb := ?_) | refine cD (rTold ?_ ?_) | refine cD (rFind ?_ ?_)
            | with_reducible refine y_nil (hK := ?_)
            | (with_reducible refine nilTC_split (fun h => ?_) (fun h bn => ?_) <;> (try simp only [List.length_map] at h))
            | ((with_reducible first | refine grd_cases (fun h => ?_) (fun h => ?_) | refine condC_split (fun h => ?_) (fun h => ?_)) <;> (try simp only [h]) <;> (try simp only [NR_, Bool.not_true, Bool.not_false, Bool.not_eq_eq_eq_not, ne_eq] at h))
            | omega | (simp only [LN_]; omega))
          all_goals first
            | exact leafL sub_rfl (leT_eq rfl) hK
            | (exfalso; omega)
            | trace_state
    · rw [if_pos (.inr h1)] at hK
      refine ACallF.dropL (ACallF_introA Try.func26 rfl ?_)
      simp only [Try.ntmps26]
      repeat' (first
        | with_reducible first | refine AW_seqA (AW_block ?_) | refine AW_block ?_ | refine cut_seqloop ?_ | refine cut_loop ?_ | refine AW_seqA (AW_seqA ?_) | refine AW_seq ?_ | refine AW_runReg ?_ | refine AW_runCond ?_ | refine AW_runExit ?_ | refine AW_runRet ?_ | refine AW_runSkip ?_ | refine AW_runLabel ?_
        | simp only [WL, intF, strF, WM, Int.reduceToNat, ne_eq, reduceCtorEq, not_false_eq_true, Nat.reduceAdd, Nat.reduceSub, Nat.reduceLT, Nat.reduceLeDiff, Nat.reduceEqDiff, Bool.not_true, Bool.not_false, beq_self_eq_true, true_and, and_true, reduceIte, Bool.false_eq_true, T3, T4, T5, T9, T43, T44, T46, T88, cok60, cok61, Try.results26, lt_b, h0, h1]
        | simp (disch := first | omega | (simp only [LN_]; omega)) only [wrap_id, getI]
        | with_reducible first | refine andA (hb := ?_) | refine cD (rTold ?_ ?_) | refine cD (rFind ?_ ?_)
        | with_reducible refine y_nil (hK := ?_)
        | (with_reducible refine nilTC_split (fun h => ?_) (fun h bn => ?_) <;> (try simp only [List.length_map] at h))
        | ((with_reducible first | refine grd_cases (fun h => ?_) (fun h => ?_) | refine condC_split (fun h => ?_) (fun h => ?_)) <;> (try simp only [h]) <;> (try simp only [NR_, Bool.not_true, Bool.not_false, Bool.not_eq_eq_eq_not, ne_eq] at h))
        | omega | (simp only [LN_]; omega))
      all_goals first
        | exact leafL sub_rfl (leT_eq rfl) hK
        | trace_state
  · rw [if_pos (.inl h0)] at hK
    refine ACallF.dropL (ACallF_introA Try.func26 rfl ?_)
    simp only [Try.ntmps26]
    repeat' (first
      | with_reducible first | refine AW_seqA (AW_block ?_) | refine AW_block ?_ | refine cut_seqloop ?_ | refine cut_loop ?_ | refine AW_seqA (AW_seqA ?_) | refine AW_seq ?_ | refine AW_runReg ?_ | refine AW_runCond ?_ | refine AW_runExit ?_ | refine AW_runRet ?_ | refine AW_runSkip ?_ | refine AW_runLabel ?_
      | simp only [WL, intF, strF, WM, Int.reduceToNat, ne_eq, reduceCtorEq, not_false_eq_true, Nat.reduceAdd, Nat.reduceSub, Nat.reduceLT, Nat.reduceLeDiff, Nat.reduceEqDiff, Bool.not_true, Bool.not_false, beq_self_eq_true, true_and, and_true, reduceIte, Bool.false_eq_true, T3, T4, T5, T9, T43, T44, T46, T88, cok60, cok61, Try.results26, lt_b, h0]
      | simp (disch := first | omega | (simp only [LN_]; omega)) only [wrap_id, getI]
      | with_reducible first | refine andA (hb := ?_) | refine cD (rTold ?_ ?_) | refine cD (rFind ?_ ?_)
      | with_reducible refine y_nil (hK := ?_)
      | (with_reducible refine nilTC_split (fun h => ?_) (fun h bn => ?_) <;> (try simp only [List.length_map] at h))
      | ((with_reducible first | refine grd_cases (fun h => ?_) (fun h => ?_) | refine condC_split (fun h => ?_) (fun h => ?_)) <;> (try simp only [h]) <;> (try simp only [NR_, Bool.not_true, Bool.not_false, Bool.not_eq_eq_eq_not, ne_eq] at h))
      | omega | (simp only [LN_]; omega))
    all_goals first
      | exact leafL sub_rfl (leT_eq rfl) hK
      | trace_state
end Go.Proofs.Ytaeacialcbahnaa
