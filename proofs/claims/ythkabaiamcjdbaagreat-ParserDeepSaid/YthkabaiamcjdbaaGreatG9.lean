/-
  Texts Hi, Fe, St, Sv, Si, Sd, Db, Dc, one behind the other.
-/
import Derived.Test.YthkabaiamcjdbaaGreatG8
set_option linter.unusedVariables false
set_option linter.unusedSimpArgs false
set_option maxHeartbeats 16000000
/-
 Walks: chapter 12, plain texts on one line.
-/


namespace Go.Proofs.YthkabaiamcjdbaaGreat
open Go.Abs
variable {κ : Ctx} {σ : List Res} {K : Ret → List Res → Prop} {o o' : Option (Option (Nat × Nat))}
def signL : List Int := [45, 63, 58, 44, 91, 93, 123, 125, 35, 38, 42, 33, 124, 62, 39, 34, 37, 64, 96]
def signI (c : Int) : Bool := decide (c ∈ signL)
theorem sign_mem {s : ByteArray} (h : bytesI s = signL) (c : Int) : decide (c ∈ bytesI s) = signI c := by rw [h]; rfl
theorem cSign {c : Int} (hK : K (.ret (B (signI c))) σ) : ACallF κ Tryz.prog 184 [I c] σ K := by
 refine ACallF.dropL (ACallF_intro Tryz.func184 rfl ?_)
 simp only [Tryz.ntmps184]
 repeat' (first | simp only [WL, WM, Nat.reduceAdd, Nat.reduceSub, true_and, cok191, Tryz.results184] | with_reducible refine cD (among ?_ ?_))
 ·decide
 ·exact leafL sub_rfl (leT_eq (congrArg B (sign_mem (by decide) c))) hK
def safeI (c : Int) (fl : Bool) : Bool := printI c && !blankI c && c != 10 && c != 13 && c != 65279 && !(fl && flowI c)
theorem pSafe {c : Int} {fl : Bool} (hK : K (.ret (B (safeI c fl))) σ) : ACallF κ Tryz.prog 211 [I c, B fl] σ K := by
 unfold safeI at hK
 refine ACallF.dropL (ACallF_intro Tryz.func211 rfl ?_)
 simp only [Tryz.ntmps211]
 repeat' (first | simp only [WL, intF, WM, reduceCtorEq, WLb, Nat.reduceAdd, Nat.reduceSub, Bool.not_true, Bool.not_false, true_and, reduceIte, Bool.false_eq_true, cok72, cok154, cok165, Tryz.results211] | (with_reducible first | refine cD (Blank ?_) | refine cD (cFlow ?_) | refine cD (Print ?_)) | ((with_reducible first | refine grd_cases (fun h => ?_) (fun h => ?_) | refine condC_split (fun h => ?_) (fun h => ?_)) <;> (try simp only [h]) <;> (try simp only [NR_, NRb] at h)))
 all_goals exact leafL sub_rfl (leT_eq (congrArg B (by simp [*]))) hK
def safeAt (l : List Int) (i : Nat) (fl : Bool) : Bool := decide (i < l.length) && safeI (l.getD i 0) fl
theorem pSafeAt {l : List Int} {i : Nat} {fl : Bool} (hl : l.length ≤ 1000000000) (hi : i ≤ 1000000000) (hK : K (.ret (B (safeAt l i fl))) σ) : ACallF κ Tryz.prog 183 [SI o l, I i, B fl] σ K := by
 unfold safeAt at hK
 refine ACallF.dropL (ACallF_intro Tryz.func183 rfl ?_)
 simp only [Tryz.ntmps183]
 repeat' (first | simp only [WL, intF, WM, reduceCtorEq, WLb, Nat.reduceAdd, Nat.reduceSub, Bool.not_true, true_and, reduceIte, Bool.false_eq_true, T3, T22, cok211, Tryz.results183] | simp (disch := first | omega | (simp only [LN_]; omega)) only [getI] | (with_reducible first | refine andA (hb := ?_) | refine cD (pSafe ?_)) | ((with_reducible first | refine grd_cases (fun h => ?_) (fun h => ?_) | refine condC_split (fun h => ?_) (fun h => ?_)) <;> (try simp only [h]) <;> (try simp only [NR_, NRb] at h)))
 all_goals exact leafL sub_rfl (leT_eq (congrArg B (by simp; try omega))) hK
def beginsI (l : List Int) (fl : Bool) : Bool :=
 safeAt l 0 fl && (if l.getD 0 0 = 45 ∨ l.getD 0 0 = 63 ∨ l.getD 0 0 = 58 then safeAt l 1 fl else !signI (l.getD 0 0))
theorem safe_lt {l : List Int} {i : Nat} {fl : Bool} (h : safeAt l i fl = true) : i < l.length := by
 unfold safeAt at h
 simp only [Bool.and_eq_true, decide_eq_true_eq] at h
 exact h.1
theorem pBegins {l : List Int} {fl : Bool} (hl : l.length ≤ 1000000000) (hK : K (.ret (B (beginsI l fl))) σ) : ACallF κ Tryz.prog 145 [SI o l, B fl] σ K := by
 unfold beginsI at hK
 cases h0 : safeAt l 0 fl
 ·rw [h0] at hK
  refine ACallF.dropL (ACallF_intro Tryz.func145 rfl ?_)
  simp only [Tryz.ntmps145]
  repeat' (first | simp only [WL, WM, Nat.reduceAdd, Nat.reduceSub, Nat.reduceLeDiff, Bool.not_false, true_and, cok183, Tryz.results145, h0] | with_reducible refine cD (pSafeAt (i := 0) ?_ ?_ ?_) | omega)
  all_goals exact leafL sub_rfl (leT_eq rfl) hK
 ·rw [h0] at hK
  have h1 := safe_lt h0
  refine ACallF.dropL (ACallF_intro Tryz.func145 rfl ?_)
  simp only [Tryz.ntmps145]
  repeat' (first | simp only [WL, intF, WM, Int.reduceToNat, reduceCtorEq, WLb, Nat.reduceAdd, Nat.reduceSub, Nat.reduceLeDiff, Bool.not_true, true_and, T3, T22, cok183, cok184, Tryz.results145, h0] | simp (disch := first | omega | (simp only [LN_]; omega)) only [getI, getI] | (with_reducible first | refine andA (hb := ?_) | refine cD (pSafeAt (i := 0) ?_ ?_ ?_) | refine cD (pSafeAt (i := 1) ?_ ?_ ?_) | refine cD (cSign ?_)) | ((with_reducible first | refine grd_cases (fun h => ?_) (fun h => ?_) | refine condC_split (fun h => ?_) (fun h => ?_)) <;> (try simp only [h]) <;> (try simp only [NR_, NRb] at h)) | omega)
  all_goals first
   | (rw [if_pos (by first | exact .inl (by assumption) | exact .inr (.inl (by assumption)) | exact .inr (.inr (by assumption)))] at hK; exact leafL sub_rfl (leT_eq rfl) hK)
   | (rw [if_neg (by simp only [*]; decide)] at hK; exact leafL sub_rfl (leT_eq (congrArg B (by simp [*]))) hK)
def stopC (fl : Bool) (c : Int) : Bool := c == 58 || c == 35 || (fl && flowI c)
theorem stopC_f {fl : Bool} {c : Int} (h1 : ¬ c = 58) (h2 : ¬ c = 35) (h3 : fl = false ∨ flowI c = false) : stopC fl c = false := by
 unfold stopC; rcases h3 with h | h <;> simp [h1, h2, h]
theorem stopC_t {fl : Bool} {c : Int} (h : c = 58 ∨ c = 35 ∨ (fl = true ∧ flowI c = true)) : stopC fl c = true := by
 unfold stopC; rcases h with h | h | ⟨h1, h2⟩ <;> simp [*]
def stopsN (fl : Bool) : Nat → List Int → List Nat
 | _, [] => []
 | i, c :: l => if stopC fl c then i :: stopsN fl (i + 1) l else stopsN fl (i + 1) l
abbrev stopsAt (l : List Int) (fl : Bool) (i : Nat) : List Nat := stopsN fl i (l.drop i)
theorem stops_end {l : List Int} {fl : Bool} {i : Nat} (h : l.length ≤ i) : stopsAt l fl i = [] := by
 rw [stopsAt, List.drop_eq_nil_of_le h]; rfl
theorem stops_in {l : List Int} {fl : Bool} {i : Nat} (h : i < l.length) : stopsAt l fl i = if stopC fl (l.getD i 0) then i :: stopsAt l fl (i + 1) else stopsAt l fl (i + 1) := by
 rw [stopsAt, List.drop_eq_getElem_cons h, List.getD_eq_getElem?_getD, List.getElem?_eq_getElem h]
 rfl
abbrev stopsA (l : List Int) (fl : Bool) (i : Nat) : List (List AV) := (stopsAt l fl i).map fun (i : Nat) => [I i]
theorem pPoints {l : List Int} {fl : Bool} (hK : ∀ b1 b2, K (.ret (.raw (.func (.func 228) #[] #[.pointer (some ⟨b1, 0, none⟩), .pointer (some ⟨b2, 0, none⟩)]))) (.obj b2 [B fl] :: .obj b1 [SI o l] :: σ)) : ACallF κ Tryz.prog 220 [SI o l, B fl] σ K := by
 refine ACallF.dropL (ACallF_intro Tryz.func220 rfl ?_)
 simp only [Tryz.ntmps220]
 repeat' (first | simp only [WL, WM, Nat.reduceAdd, Nat.reduceSub, true_and, Tryz.results220] | with_reducible refine y_box (hK := fun b => ?_))
 exact leafL sub_rfl (leT_eq rfl) (hK _ _)
theorem pPointsIt {b1 b2 L : Nat} {l : List Int} {fl : Bool} (hl : l.length ≤ 1000000000) (hI : Iter κ Tryz.prog L K (stopsA l fl 0) σ) :
    ACallF κ Tryz.prog 228 [.raw (.func (.yield L) #[] #[]), .raw (.pointer (some ⟨b1, 0, none⟩)), .raw (.pointer (some ⟨b2, 0, none⟩))] (.obj b2 [B fl] :: .obj b1 [SI o l] :: σ) K := by
  refine ACallF.dropL (ACallF_intro Tryz.func228 rfl ?_)
  simp only [Tryz.ntmps228]
  repeat' (first | simp only [WL, WM, Nat.reduceAdd, Nat.reduceSub, true_and, T22] | with_reducible refine y_load (hK := ?_))
  refine loop_by (fun x : Nat × List Res => ⟨(.raw (.func (.yield L) #[] #[]) :: .raw (.pointer (some ⟨b1, 0, none⟩)) :: .raw (.pointer (some ⟨b2, 0, none⟩)) :: .any::.any::.any::SI o l :: I l.length :: I x.1 :: .any::.any::.any::.any::.any::.any::.any::.any::.any::.any::.any::.any::.any::.any::.any::.any::.any::.any::.any::.any::.any::.any::.any::.any::[]), .obj b2 [B fl] :: .obj b1 [SI o l] :: x.2, true, []⟩) (fun x => x.1 ≤ l.length ∧ Iter κ Tryz.prog L K (stopsA l fl x.1) x.2) (fun x => l.length - x.1) (0, σ) (St_le_same leA id) ⟨Nat.zero_le _, hI⟩ ?_
  rintro ⟨k, σ'⟩ ⟨h1, h2⟩
  dsimp only at h1 h2 ⊢
  rcases Nat.lt_or_ge k l.length with hk | hk
  · rw [stopsA, stops_in hk] at h2
    cases fl
    all_goals
      repeat' (first | simp only [WL, intF, WM, reduceCtorEq, WLb, Nat.reduceAdd, Bool.not_true, Bool.not_false, true_and, reduceIte, Bool.false_eq_true, T3, T22, cok154, Tryz.results228] | simp (disch := first | omega | (simp only [LN_]; omega)) only [wrap_id, getI, getI] | (with_reducible first | refine andA (hb := ?_) | refine y_load (hK := ?_) | refine cD (cFlow ?_)) | ((with_reducible first | refine grd_cases (fun h => ?_) (fun h => ?_) | refine condC_split (fun h => ?_) (fun h => ?_)) <;> (try simp only [h]) <;> (try simp only [NR_, NRb] at h)) | omega)
    all_goals first
      | (rw [stopC_f (by assumption) (by assumption) (by first | exact .inl rfl | exact .inr (by assumption)), if_neg Bool.false_ne_true] at h2
         exact ⟨(k + 1, σ'), St_le_same leA id, ⟨hk, h2⟩, by dsimp only; omega⟩)
      | skip
    all_goals
      rw [stopC_t (by first | exact .inl (by assumption) | exact .inr (.inl (by assumption)) | exact .inr (.inr ⟨rfl, by assumption⟩)), if_pos rfl, List.map_cons] at h2
      refine callYD_iter [.obj b2 [B _], .obj b1 [SI o l]] (leL_one le_rfl) h2 (fun σ3 h => ?_) (fun σ3 h => ?_) (fun c σ3 h => ?_)
      · skip
        repeat' (first | simp only [WL, intF, WM, ne_eq, reduceCtorEq, not_false_eq_true, Bool.not_true, reduceIte] | simp (disch := first | omega | (simp only [LN_]; omega)) only [wrap_id])
        exact ⟨(k + 1, σ3), St_le_same leA id, ⟨hk, h⟩, by dsimp only; omega⟩
      · skip
        repeat' (first | simp only [WL, WM, Bool.not_false, true_and, reduceIte, Tryz.results228])
        exact leafL (sub_cons (sub_cons sub_rfl)) (leT_eq rfl) h
      · skip
        repeat' (first | simp only [WL, WM, true_and])
        exact leafP (sub_cons (sub_cons sub_rfl)) rfl h
  · rw [stopsA, stops_end hk] at h2
    repeat' (first | simp only [WL, intF, WM, reduceCtorEq, WLb, Nat.reduceAdd, Bool.not_true, Bool.not_false, true_and, reduceIte, Bool.false_eq_true, T3, T22, cok154, Tryz.results228] | simp (disch := first | omega | (simp only [LN_]; omega)) only [wrap_id, getI, getI] | (with_reducible first | refine andA (hb := ?_) | refine y_load (hK := ?_) | refine cD (cFlow ?_)) | ((with_reducible first | refine grd_cases (fun h => ?_) (fun h => ?_) | refine condC_split (fun h => ?_) (fun h => ?_)) <;> (try simp only [h]) <;> (try simp only [NR_, NRb] at h)) | omega)
    exact leafL (sub_cons (sub_cons sub_rfl)) (leT_eq rfl) h2
def goesOn (l : List Int) (fl : Bool) (i : Nat) : Bool := (l.getD i 0 == 58 && safeAt l (i + 1) fl) || (l.getD i 0 == 35 && (i == 0 || !blankI (l.getD (i - 1) 0)))
def stopL (l : List Int) (fl : Bool) : List Nat → Nat
 | [] => l.length
 | i :: r => if goesOn l fl i then stopL l fl r else i
def stopI (l : List Int) (fl : Bool) : Nat := stopL l fl (stopsAt l fl 0)
theorem stopsN_lt {fl : Bool} : ∀ {l : List Int} {i j : Nat}, j ∈ stopsN fl i l → i ≤ j ∧ j < i + l.length
 | [], _, _, h => by cases h
 | c :: l, i, j, h => by
  unfold stopsN at h
  split at h
  ·rcases List.mem_cons.1 h with rfl | h
   ·simp
   ·have := stopsN_lt h; simp only [List.length_cons]; omega
  ·have := stopsN_lt h; simp only [List.length_cons]; omega
theorem stopL_le {l : List Int} {fl : Bool} : ∀ {r : List Nat}, (∀ j ∈ r, j < l.length) → stopL l fl r ≤ l.length
 | [], _ => Nat.le_refl _
 | i :: r, h => by
  unfold stopL
  split
  ·exact stopL_le (fun j hj => h j (List.mem_cons_of_mem _ hj))
  ·exact Nat.le_of_lt (h i List.mem_cons_self)
theorem stopsAt_lt {fl : Bool} {l : List Int} {j : Nat} (h : j ∈ stopsAt l fl 0) : j < l.length := by
 have := stopsN_lt h; simpa using this.2
theorem stopI_le {l : List Int} {fl : Bool} : stopI l fl ≤ l.length := stopL_le (fun _ h => stopsAt_lt h)
theorem goes_t {l : List Int} {fl : Bool} {i : Nat} (h : (l.getD i 0 = 58 ∧ safeAt l (i + 1) fl = true) ∨ (l.getD i 0 = 35 ∧ (i = 0 ∨ blankI (l.getD (i - 1) 0) = false))) : goesOn l fl i = true := by
 unfold goesOn
 rcases h with ⟨h1, h2⟩ | ⟨h1, h2 | h2⟩ <;> rw [h1, h2] <;> simp
theorem goes_f {l : List Int} {fl : Bool} {i : Nat} (h1 : ¬ l.getD i 0 = 58 ∨ safeAt l (i + 1) fl = false) (h2 : ¬ l.getD i 0 = 35 ∨ (¬ i = 0 ∧ blankI (l.getD (i - 1) 0) = true)) : goesOn l fl i = false := by
 unfold goesOn
 rw [Bool.or_eq_false_iff]
 refine ⟨?_, ?_⟩
 ·rcases h1 with h | h
  ·rw [beq_eq_false_iff_ne.2 h]; rfl
  ·rw [h, Bool.and_false]
 ·rcases h2 with h | ⟨h, h'⟩
  ·rw [beq_eq_false_iff_ne.2 h]; rfl
  ·rw [h', beq_eq_false_iff_ne.2 h, Bool.not_true, Bool.or_false, Bool.and_false]
theorem pStop {l : List Int} {fl : Bool} (hl : l.length ≤ 1000000) (hK : K (.ret (I (stopI l fl))) σ) : ACallF κ Tryz.prog 212 [SI o l, B fl] σ K := by
 have hl2 : l.length ≤ 1000000000 := by omega
 refine ACallF.dropL (ACallF_introA Tryz.func212 rfl ?_)
 simp only [Tryz.ntmps212]
 repeat' (first | (with_reducible first | refine AW_block ?_ | refine AW_seqA (AW_seqA ?_) | refine AW_seq ?_ | refine AW_runReg ?_) | simp only [WL, WM, Nat.reduceAdd, Nat.reduceSub, true_and, cok220] | (with_reducible first | refine y_load (hK := ?_) | refine y_box (hK := fun b => ?_) | refine y_new (hK := fun b => ?_) | refine cD (pPoints (fun pb1 pb2 => ?_))))
 rename_i b1 b2
 refine range_by 228 [] [.pointer (some ⟨pb1, 0, none⟩), .pointer (some ⟨pb2, 0, none⟩)] (stopsA l fl 0) [.obj pb2 [B fl], .obj pb1 [SI o l]] (.obj b [I 0] :: .obj b2 [B fl] :: .obj b1 [SI o l] :: σ)
  (fun xs τ => ∃ r : List Nat, xs = r.map (fun (i : Nat) => [I i]) ∧ (∀ i ∈ r, i < l.length) ∧ stopI l fl = stopL l fl r ∧ τ = .obj b [I 0] :: .obj b2 [B fl] :: .obj b1 [SI o l] :: σ)
  rfl cok228 (ResW.refl _) (fun L K σ' h => pPointsIt hl2 h) ⟨stopsAt l fl 0, rfl, fun i h => stopsAt_lt h, rfl, rfl⟩ ?_ ?_
 ·rintro τ ⟨r, h1, h2, h3, rfl⟩
  obtain rfl : r = [] := by cases r with
   | nil => rfl
   | cons => simp at h1
  repeat' (first | (with_reducible first | refine AW_seq ?_ | refine AW_runRet ?_) | simp only [WL, WM, true_and, T22, Tryz.results212] | (with_reducible first | refine y_load (hK := ?_) | refine y_store (hK := ?_)) | ((with_reducible refine resL_id ?_); apply res_c (hf := Tryz.results212); exact y_load1))
  exact leafL (sub_cons (sub_cons (sub_cons sub_rfl))) (leT_eq (by rw [h3]; rfl)) hK
 ·rintro dd L Rr Rb hR x xs τ ⟨r, h1, h2, h3, rfl⟩
  cases r with
  | nil => simp at h1
  | cons i r =>
  rw [List.map_cons, List.cons.injEq] at h1
  obtain ⟨rfl, rfl⟩ := h1
  have hi := h2 i List.mem_cons_self
  refine ⟨rfl, ?_⟩
  repeat' (first | simp only [WL, WM])
  refine rngA_mk ?_
  repeat' (first | simp only [WL, intF, WM, reduceCtorEq, WLb, Nat.reduceAdd, Nat.reduceLeDiff, Bool.not_true, Bool.not_false, true_and, reduceIte, Bool.false_eq_true, T3, T22, cok72, cok183, Tryz.results212] | simp (disch := first | omega | (simp only [LN_]; omega)) only [wrap_id, getI, getI] | (with_reducible first | refine andA (hb := ?_) | refine y_load (hK := ?_) | refine y_store (hK := ?_) | refine cD (pSafeAt (i := i + 1) ?_ ?_ ?_) | refine cD (Blank ?_)) | ((with_reducible first | refine grd_cases (fun h => ?_) (fun h => ?_) | refine condC_split (fun h => ?_) (fun h => ?_)) <;> (try simp only [h]) <;> (try simp only [NR_, NRb] at h)) | omega)
  all_goals
   have e1 : ((i : Int) - 1).toNat = i - 1 := by omega
   try simp only [e1] at h
  all_goals first
   | exact ⟨_, resS_rfl, r, rfl, fun j hj => h2 j (List.mem_cons_of_mem _ hj), h3.trans (if_pos (goes_t (by first | exact .inl ⟨by assumption, by assumption⟩ | exact .inr ⟨by assumption, .inl (by omega)⟩ | exact .inr ⟨by assumption, .inr (by assumption)⟩))), rfl⟩
   | skip
  all_goals
   have h4 : goesOn l fl i = false := goes_f (by first | exact .inl (by assumption) | exact .inr (by assumption)) (by first | exact .inl (by assumption) | exact .inr ⟨by omega, by assumption⟩)
   have h5 : stopI l fl = i := h3.trans (if_neg (by rw [h4]; exact Bool.false_ne_true))
   refine ⟨_, resS_rfl, ?_⟩
   repeat' (first | ((with_reducible refine resL_id ?_); apply res_c (hf := Tryz.results212); exact y_load1))
   exact leafL (sub_cons (sub_cons (sub_cons sub_rfl))) (leT_eq (by rw [h5])) hK
def endI (l : List Int) (fl : Bool) : Nat := (backI (l.take (stopI l fl))).length
theorem endI_le {l : List Int} {fl : Bool} : endI l fl ≤ l.length := by
 unfold endI
 have := backI_le (l.take (stopI l fl))
 rw [List.length_take] at this
 omega
theorem pEnd {l : List Int} {fl : Bool} (hl : l.length ≤ 1000000) (hK : K (.ret (I (endI l fl))) σ) : ACallF κ Tryz.prog 186 [SI o l, B fl] σ K := by
 have hst := stopI_le (l := l) (fl := fl)
 refine ACallF.dropL (ACallF_introA Tryz.func186 rfl ?_)
 simp only [Tryz.ntmps186]
 repeat' (first | (with_reducible first | refine AW_seqA (AW_block ?_) | refine cut_loop ?_ | refine AW_seq ?_) | simp only [WL, WM, Nat.reduceAdd, Nat.reduceSub, true_and, cok212] | with_reducible refine cD (pStop ?_ ?_) | omega)
 refine loopA (fun k : Nat => ⟨(SI o l :: B fl :: .any::.any::.any::I k :: .any::.any::.any::.any::.any::.any::.any::.any::.any::.any::.any::.any::.any::.any::.any::.any::[]), σ, true, []⟩) (fun k => k ≤ stopI l fl ∧ endI l fl = (backI (l.take k)).length) (fun k => k) (stopI l fl) (St_le_same leA id) ⟨Nat.le_refl _, rfl⟩ ?_
 rintro k ⟨h1, h2⟩
 have e1 : 0 < k → ((k : Int) - 1).toNat = k - 1 := fun _ => by omega
 have e2 : (l.take k).length = k := by rw [List.length_take]; omega
 have e3 : 0 < k → (l.take k).getD (k - 1) 0 = l.getD (k - 1) 0 := fun h => by
  simp only [List.getD_eq_getElem?_getD]
  rw [List.getElem?_take_of_lt (by omega)]
 repeat' (first | (with_reducible first | refine AW_block ?_ | refine AW_seqA (AW_seqA ?_) | refine AW_seq ?_ | refine AW_runReg ?_ | refine AW_runCond ?_ | refine AW_runRet ?_) | simp only [WL, intF, WM, reduceCtorEq, WLb, Nat.reduceAdd, Bool.not_true, true_and, reduceIte, Bool.false_eq_true, T3, T22, cok72, Tryz.results186] | simp (disch := first | omega | (simp only [LN_]; omega)) only [wrap_id, getI, getI] | (with_reducible first | refine andA (hb := ?_) | refine cD (Blank ?_)) | ((with_reducible first | refine grd_cases (fun h => ?_) (fun h => ?_) | refine condC_split (fun h => ?_) (fun h => ?_)) <;> (try simp only [h]) <;> (try simp only [NR_, NRb] at h)))
 ·rw [e1 (by omega)] at h
  refine ⟨k - 1, St_le_same leA id, ⟨by omega, ?_⟩, by omega⟩
  rw [h2, backI_step (by omega) (by rw [e2, e3 (by omega)]; exact h), e2, List.take_take]
  congr 3; omega
 ·rw [e1 (by omega)] at h
  exact leafL sub_rfl (leT_eq (by rw [h2, backI_stop (by omega) (by rw [e2, e3 (by omega)]; exact h), e2])) hK
 ·obtain rfl : k = 0 := by omega
  exact leafL sub_rfl (leT_eq (by rw [h2]; rfl)) hK
def keyI (l : List Int) (fl : Bool) : Int := if stopI l fl < l.length ∧ l.getD (stopI l fl) 0 = 58 then stopI l fl else -1
theorem pKey {l : List Int} {fl : Bool} (hl : l.length ≤ 1000000) (hK : K (.ret (I (keyI l fl))) σ) : ACallF κ Tryz.prog 187 [SI o l, B fl] σ K := by
 have hst := stopI_le (l := l) (fl := fl)
 unfold keyI at hK
 refine ACallF.dropL (ACallF_intro Tryz.func187 rfl ?_)
 simp only [Tryz.ntmps187]
 repeat' (first | simp only [WL, intF, WM, reduceCtorEq, WLb, Nat.reduceAdd, Nat.reduceSub, Bool.not_true, true_and, reduceIte, Bool.false_eq_true, T3, T22, cok212, Tryz.results187] | simp (disch := first | omega | (simp only [LN_]; omega)) only [getI, getI] | (with_reducible first | refine andA (hb := ?_) | refine cD (pStop ?_ ?_)) | ((with_reducible first | refine grd_cases (fun h => ?_) (fun h => ?_) | refine condC_split (fun h => ?_) (fun h => ?_)) <;> (try simp only [h]) <;> (try simp only [NR_, NRb] at h)) | omega)
 all_goals first
  | (rw [if_pos ⟨by omega, by assumption⟩] at hK; exact leafL sub_rfl (leT_eq rfl) hK)
  | (rw [if_neg (by omega)] at hK; exact leafL sub_rfl (leT_eq rfl) hK)
end Go.Proofs.YthkabaiamcjdbaaGreat
/-
 Plain specifications for chapter 8: texts between single quotes. No program in sight.
-/

namespace Go.Abs
def und : List Int → List Int
 | [] => []
 | [c] => [c]
 | c :: d :: r => if c = 39 ∧ d = 39 then 39 :: und r else c :: und (d :: r)
def endG : Nat → List Int → Int × Bool
 | _, [] => (0, false)
 | k, [c] => if c = 39 then (k, true) else (0, false)
 | k, c :: d :: r => if c = 39 then (if d = 39 then endG (k + 2) r else (k, true)) else endG (k + 1) (d :: r)
theorem und_two {r : List Int} : und (39 :: 39 :: r) = 39 :: und r := by simp [und]
theorem und_lone {c d : Int} {r : List Int} (h : ¬ (c = 39 ∧ d = 39)) : und (c :: d :: r) = c :: und (d :: r) := by simp [und, h]
theorem und_len : ∀ l : List Int, (und l).length ≤ l.length
 | [] => by simp [und]
 | [c] => by simp [und]
 | c :: d :: r => by
  have h1 := und_len r
  have h2 := und_len (d :: r)
  unfold und
  split <;> simp only [List.length_cons] at * <;> omega
end Go.Abs
/-
 Plain specifications for chapter 8: at places of a text. No program in sight.
-/


namespace Go.Abs
theorem und_at_two {l : List Int} {k : Nat} (h : k + 1 < l.length) (h1 : l.getD k 0 = 39) (h2 : l.getD (k + 1) 0 = 39) : und (l.drop k) = 39 :: und (l.drop (k + 2)) := by
 rw [drop_getD (show k < l.length by omega), drop_getD h, h1, h2, und_two]
theorem und_at_one {l : List Int} {k : Nat} (h : k < l.length) (hn : ¬ (l.getD k 0 = 39 ∧ k + 1 < l.length ∧ l.getD (k + 1) 0 = 39)) : und (l.drop k) = l.getD k 0 :: und (l.drop (k + 1)) := by
 rw [drop_getD h]
 by_cases hk : k + 1 < l.length
 ·rw [drop_getD hk, und_lone (fun h3 => hn ⟨h3.1, hk, h3.2⟩)]
 ·rw [List.drop_eq_nil_of_le (by omega)]; rfl
theorem endG_at_no {l : List Int} {k n : Nat} (h : k < l.length) (hn : ¬ l.getD k 0 = 39) : endG n (l.drop k) = endG (n + 1) (l.drop (k + 1)) := by
 rw [drop_getD h]
 by_cases hk : k + 1 < l.length
 ·rw [drop_getD hk]; simp only [endG]; rw [if_neg hn]
 ·rw [List.drop_eq_nil_of_le (by omega)]; simp only [endG]; rw [if_neg hn]
theorem endG_at_two {l : List Int} {k n : Nat} (h : k + 1 < l.length) (h1 : l.getD k 0 = 39) (h2 : l.getD (k + 1) 0 = 39) : endG n (l.drop k) = endG (n + 2) (l.drop (k + 2)) := by
 rw [drop_getD (show k < l.length by omega), drop_getD h, h1, h2]; simp [endG]
theorem endG_at_end {l : List Int} {k n : Nat} (h : k < l.length) (h1 : l.getD k 0 = 39) (h2 : ¬ (k + 1 < l.length ∧ l.getD (k + 1) 0 = 39)) : endG n (l.drop k) = ((n : Int), true) := by
 rw [drop_getD h, h1]
 by_cases hk : k + 1 < l.length
 ·rw [drop_getD hk]; simp only [endG]; rw [if_pos trivial, if_neg (fun e => h2 ⟨hk, e⟩)]
 ·rw [List.drop_eq_nil_of_le (by omega)]; simp [endG]
theorem endG_nil {n : Nat} : endG n [] = (0, false) := rfl
theorem und_tot : ∀ l : List (List Int), tot (l.map und) ≤ tot l
 | [] => Nat.le_refl _
 | t :: r => by
  have h1 := und_tot r
  have h2 := und_len t
  simp only [tot, List.map_cons, List.sum_cons] at *
  omega
theorem flowF_one (t : List Int) : flowF [t] = t := by simp [flowF, trims, trimAt, flowGo]
theorem und_take {l : List (List Int)} {k : Nat} (h : k < l.length) : (l.take (k + 1)).map und = (l.take k).map und ++ [und (l.getD k [])] := by
 rw [List.take_succ_eq_append_getElem h, List.map_append, List.map_cons, List.map_nil, List.getD_eq_getElem?_getD, List.getElem?_eq_getElem h]
 rfl
end Go.Abs
/-
 Walks: chapter 8, single quotes.
-/




namespace Go.Proofs.YthkabaiamcjdbaaGreat
open Go.Abs
variable {κ : Ctx} {σ : List Res} {K : Ret → List Res → Prop} {o o' : Option (Option (Nat × Nat))}
theorem sEnd {l : List Int} (hl : l.length ≤ 1000000000) (hK : K (.ret (.tup [I (endG 0 l).1, B (endG 0 l).2])) σ) : ACallF κ Tryz.prog 199 [SI o l] σ K := by
 have tn1 : ∀ k : Nat, ((k : Int) + 1).toNat = k + 1 := fun k => by omega
 refine ACallF.dropL (ACallF_intro Tryz.func199 rfl ?_)
 simp only [Tryz.ntmps199]
 repeat' (first | simp only [WL, WM, Nat.reduceAdd, Nat.reduceSub])
 refine loop_by (fun k : Nat => ⟨(SI o l :: .any::.any::.any::I k :: .any::.any::.any::.any::.any::.any::.any::.any::.any::.any::.any::.any::.any::.any::.any::.any::.any::.any::.any::.any::.any::.any::.any::.any::.any::.any::.any::.any::.any::[]), σ, true, []⟩) (fun k => k ≤ l.length ∧ endG 0 l = endG k (l.drop k)) (fun k => l.length - k) 0 (St_le_same leA id) ⟨Nat.zero_le _, by simp⟩ ?_
 rintro k ⟨h1, h2⟩
 repeat' (first | simp only [WL, intF, WM, reduceCtorEq, WLb, Nat.reduceAdd, Bool.not_true, true_and, reduceIte, Bool.false_eq_true, T3, T22, Tryz.results199, tn1] | simp (disch := first | omega | (simp only [LN_]; omega)) only [wrap_id, getI] | with_reducible refine andA (hb := ?_) | ((with_reducible first | refine grd_cases (fun h => ?_) (fun h => ?_) | refine condC_split (fun h => ?_) (fun h => ?_)) <;> (try simp only [h]) <;> (try simp only [NR_, NRb] at h)))
 ·exact ⟨k + 1, St_le_same leA id, ⟨by omega, by rw [h2, endG_at_no (by omega) (by assumption)]⟩, by omega⟩
 ·exact ⟨k + 2, St_le_same leA id, ⟨by omega, by rw [h2, endG_at_two (by omega) (by assumption) (by assumption)]⟩, by omega⟩
 ·exact leafL sub_rfl (leT_eq (by rw [h2, endG_at_end (by omega) (by assumption) (fun e => by rename_i h9 _; first | exact absurd e.2 (by assumption) | exact absurd e.1 (by omega))])) hK
 ·exact leafL sub_rfl (leT_eq (by rw [h2, endG_at_end (by omega) (by assumption) (fun e => absurd e.1 (by omega))])) hK
 ·exact leafL sub_rfl (leT_eq (by rw [h2, List.drop_eq_nil_of_le (by omega), endG_nil])) hK
theorem undoubled {l : List Int} (hl : l.length ≤ 1000000000) (hK : K (.ret (SI none (und l))) σ) : ACallF κ Tryz.prog 202 [SI o l] σ K := by
 have tn1 : ∀ k : Nat, ((k : Int) + 1).toNat = k + 1 := fun k => by omega
 refine ACallF.dropL (ACallF_intro Tryz.func202 rfl ?_)
 simp only [Tryz.ntmps202]
 repeat' (first | simp only [WL, WM, Nat.reduceAdd, Nat.reduceSub])
 refine loop_by (fun x : Nat × List Int × Option (Nat × Nat) => ⟨(SI o l :: .any::.any::SI (some x.2.2) x.2.1 :: I x.1 :: .any::.any::.any::.any::.any::.any::.any::.any::.any::.any::.any::.any::.any::.any::.any::.any::.any::.any::.any::.any::.any::.any::.any::.any::.any::.any::.any::.any::.any::.any::.any::.any::.any::.any::.any::.any::[]), .tip x.2.2 :: σ, true, []⟩) (fun x => x.1 ≤ l.length ∧ und l = x.2.1 ++ und (l.drop x.1) ∧ x.2.1.length ≤ x.1) (fun x => l.length - x.1) (0, [], none) (St_leW leA ResW.void id) ⟨Nat.zero_le _, by simp, Nat.le_refl _⟩ ?_
 rintro ⟨k, out, tk⟩ ⟨h1, h2, h3⟩
 dsimp only at h1 h2 h3 ⊢
 repeat' (first | simp only [WL, intF, WM, reduceCtorEq, WLb, Nat.reduceAdd, Bool.not_true, true_and, reduceIte, Bool.false_eq_true, T3, T22, Tryz.results202, tn1] | simp (disch := first | omega | (simp only [LN_]; omega)) only [wrap_id, getI] | (with_reducible first | refine andA (hb := ?_) | refine y_app (hlen := ?_) (hmax := ?_) (hK := fun tk => ?_) | refine y_bs (hK := ?_)) | ((with_reducible first | refine grd_cases (fun h => ?_) (fun h => ?_) | refine condC_split (fun h => ?_) (fun h => ?_)) <;> (try simp only [h]) <;> (try simp only [NR_, NRb] at h)) | omega | (refine maxLen_ok ?_; (first | omega | (simp only [LN_]; omega))))
 ·exact ⟨(k + 2, out ++ [39], _), St_leW (by rw [show l.getD k 0 = 39 by assumption]; exact leA) (ResW.refl _) id, ⟨by dsimp only; omega, by dsimp only; rw [h2, und_at_two (by omega) (by assumption) (by assumption)]; simp, by simp; omega⟩, by dsimp only; omega⟩
 all_goals first
  | exact ⟨(k + 1, out ++ [l.getD k 0], _), St_leW leA (ResW.refl _) id, ⟨by dsimp only; omega, by dsimp only; rw [h2, und_at_one (by omega) (fun e => by first | exact absurd e.1 (by assumption) | exact absurd e.2.2 (by assumption) | exact absurd e.2.1 (by omega))]; simp, by simp; omega⟩, by dsimp only; omega⟩
  | exact leafL (sub_cons sub_rfl) (leT_le (by rw [h2, List.drop_eq_nil_of_le (by omega)]; simp only [und, List.append_nil]; exact le_ro)) hK
theorem sRead {l : List (List Int)} (hl : tot l ≤ 1000000000) (hK : K (.ret (SI none (flowF (l.map und)))) σ) : ACallF κ Tryz.prog 176 [SSI o l] σ K := by
 have hlen := tot_len l
 have hz : ∀ k, tot ((l.take k).map und) ≤ tot l := fun k => Nat.le_trans (und_tot _) (tot_take l k)
 have hw := und_tot l
 refine ACallF.dropL (ACallF_intro Tryz.func176 rfl ?_)
 simp only [Tryz.ntmps176]
 repeat' (first | simp only [WL, WM, Nat.reduceAdd, Nat.reduceSub, true_and, T191])
 refine loop_by (fun x : Nat × Option (Nat × Nat) => ⟨(SSI o l :: .any::.any::SSI (some x.2) ((l.take x.1).map und) :: .any::.any::SSI o l :: I l.length :: I x.1 :: .any::.any::.any::.any::.any::.any::.any::.any::.any::.any::.any::[]), .tip x.2 :: σ, true, []⟩) (fun x => x.1 ≤ l.length) (fun x => l.length - x.1) (0, none) (St_leW leA ResW.void id) (Nat.zero_le _) ?_
 rintro ⟨k, tk⟩ h1
 dsimp only at h1 ⊢
 have e2 := tot_get (l := l) k
 repeat' (first | simp only [WL, intF, WM, reduceCtorEq, WLb, Nat.reduceAdd, true_and, T22, T191, cok189, cok202, Tryz.results176] | simp (disch := first | omega | (simp only [LN_]; omega)) only [wrap_id, getS] | (with_reducible first | refine andA (hb := ?_) | refine y_app (hlen := ?_) (hmax := ?_) (hK := fun tk => ?_) | refine y_bs (hK := ?_) | refine cD (flow ?_ ?_) | refine cD (undoubled ?_ ?_)) | ((with_reducible first | refine grd_cases (fun h => ?_) (fun h => ?_) | refine condC_split (fun h => ?_) (fun h => ?_)) <;> (try simp only [h]) <;> (try simp only [NR_, NRb] at h)) | omega | (simp only [LN_]; omega) | (refine maxLen_ok ?_; (first | omega | (simp only [LN_]; omega))))
 ·exact ⟨(k + 1, _), St_leW (by dsimp only; rw [und_take (by omega)]; exact leA) (ResW.refl _) id, by dsimp only; omega, by dsimp only; omega⟩
 ·have := hz k; omega
 ·exact leafL (sub_cons sub_rfl) (leT_eq (by rw [List.take_of_length_le (by omega)])) hK
end Go.Proofs.YthkabaiamcjdbaaGreat
/-
 Plain specifications for chapter 7: texts between double quotes. No program in sight.
-/



namespace Go.Abs
def endD : Nat → List Int → Int × Bool
 | _, [] => (0, false)
 | k, [c] => if c = 34 then (k, true) else (0, false)
 | k, c :: d :: r => if c = 92 then endD (k + 2) r else if c = 34 then (k, true) else endD (k + 1) (d :: r)
theorem endD_at_esc {l : List Int} {k n : Nat} (h : k < l.length) (h1 : l.getD k 0 = 92) : endD n (l.drop k) = endD (n + 2) (l.drop (k + 2)) := by
 rw [drop_getD h, h1]
 by_cases hk : k + 1 < l.length
 ·rw [drop_getD hk]; simp only [endD]; rw [if_pos trivial]
 ·rw [List.drop_eq_nil_of_le (show l.length ≤ k + 1 by omega), List.drop_eq_nil_of_le (show l.length ≤ k + 2 by omega)]; simp [endD]
theorem endD_at_end {l : List Int} {k n : Nat} (h : k < l.length) (h1 : l.getD k 0 = 34) : endD n (l.drop k) = ((n : Int), true) := by
 rw [drop_getD h, h1]
 by_cases hk : k + 1 < l.length
 ·rw [drop_getD hk]; simp only [endD]; rw [if_neg (by decide), if_pos trivial]
 ·rw [List.drop_eq_nil_of_le (show l.length ≤ k + 1 by omega)]; simp [endD]
theorem endD_at_no {l : List Int} {k n : Nat} (h : k < l.length) (h1 : ¬ l.getD k 0 = 92) (h2 : ¬ l.getD k 0 = 34) : endD n (l.drop k) = endD (n + 1) (l.drop (k + 1)) := by
 rw [drop_getD h]
 by_cases hk : k + 1 < l.length
 ·rw [drop_getD hk]; simp only [endD]; rw [if_neg h1, if_neg h2]
 ·rw [List.drop_eq_nil_of_le (show l.length ≤ k + 1 by omega)]; simp only [endD]; rw [if_neg h2]
theorem endD_nil {n : Nat} : endD n [] = (0, false) := rfl
abbrev SGA (x : Int × Bool) : AV := .agg [I x.1, B x.2]
abbrev SG (o : Option (Option (Nat × Nat))) (l : List (Int × Bool)) : AV := .sl 2 o (l.map SGA)
theorem getG {l : List (Int × Bool)} {k : Nat} (h : k < l.length) : (l.map SGA).getD k .any = SGA (l.getD k (0, false)) := by
 simp [List.getD_eq_getElem?_getD, h]
def softG (x : Int × Bool) : Bool := !x.2 && blankI x.1
def escShortI (c : Int) : Int × Bool :=
 if c = 48 then (0, true) else if c = 97 then (7, true) else if c = 98 then (8, true) else if c = 116 ∨ c = 9 then (9, true) else if c = 110 then (10, true)
 else if c = 118 then (11, true) else if c = 102 then (12, true) else if c = 114 then (13, true) else if c = 101 then (27, true) else if c = 32 ∨ c = 34 ∨ c = 47 ∨ c = 92 then (c, true)
 else if c = 78 then (133, true) else if c = 95 then (160, true) else if c = 76 then (8232, true) else if c = 80 then (8233, true) else (0, false)
def longI (c : Int) : Nat := if c = 120 then 2 else if c = 117 then 4 else if c = 85 then 8 else 0
theorem longI_le (c : Int) : longI c ≤ 8 := by unfold longI; (repeat' split) <;> omega
def numGo : Int → List Int → Option Int
 | a, [] => some a
 | a, d :: r => if hexI d < 0 then none else numGo (a * 16 + hexI d) r
def numEnd : Option Int → Int × Int
 | none => (0, 2)
 | some c => if rightI c then (c, 0) else (0, 4)
def numberI (l : List Int) (n : Nat) : Int × Int := if l.length < n then (0, 2) else numEnd (numGo 0 (l.take n))
theorem dwg_step {α : Type} {p : α → Bool} {d : α} : ∀ {l : List α}, 0 < l.length → p (l.getD 0 d) = true → l.dropWhile p = (l.drop 1).dropWhile p
 | [], h, _ => by simp at h
 | x :: l, _, h => by
  have : p x = true := by simpa using h
  simp [List.dropWhile_cons, this]
theorem dwg_stop {α : Type} {p : α → Bool} {d : α} : ∀ {l : List α}, 0 < l.length → p (l.getD 0 d) = false → l.dropWhile p = l
 | [], h, _ => by simp at h
 | x :: l, _, h => by
  have : p x = false := by simpa using h
  simp [List.dropWhile_cons, this]
theorem take_last {α : Type} {d : α} {l : List α} (h : 0 < l.length) : l = l.take (l.length - 1) ++ [l.getD (l.length - 1) d] := by
 have h2 : l.length - 1 < l.length := by omega
 conv => lhs; rw [← List.take_length (l := l), show l.length = l.length - 1 + 1 by omega]
 rw [List.take_succ_eq_append_getElem h2, List.getD_eq_getElem?_getD, List.getElem?_eq_getElem h2]
 rfl
theorem bkg_step {α : Type} {p : α → Bool} {d : α} {l : List α} (h : 0 < l.length) (hb : p (l.getD (l.length - 1) d) = true) : (l.reverse.dropWhile p).reverse = ((l.take (l.length - 1)).reverse.dropWhile p).reverse := by
 conv => lhs; rw [take_last (d := d) h]
 rw [List.reverse_append]
 simp only [List.reverse_cons, List.reverse_nil, List.nil_append, List.cons_append, List.dropWhile_cons, hb, if_true]
theorem bkg_stop {α : Type} {p : α → Bool} {d : α} {l : List α} (h : 0 < l.length) (hb : p (l.getD (l.length - 1) d) = false) : (l.reverse.dropWhile p).reverse = l := by
 conv => lhs; rw [take_last (d := d) h]
 rw [List.reverse_append]
 simp only [List.reverse_cons, List.reverse_nil, List.nil_append, List.cons_append, List.dropWhile_cons, hb, Bool.false_eq_true, if_false]
 rw [List.reverse_reverse]
 exact (take_last h).symm
def escI (l : List Int) : Int × Int × Int :=
 match l with
 | [] => (0, 0, 2)
 | c :: r => if (escShortI c).2 then ((escShortI c).1, 1, 0) else if longI c = 0 then (0, 0, 2) else ((numberI r (longI c)).1, (longI c : Int) + 1, (numberI r (longI c)).2)
theorem escI_def {l : List Int} (h : 0 < l.length) : escI l = if (escShortI (l.getD 0 0)).2 then ((escShortI (l.getD 0 0)).1, 1, 0) else if longI (l.getD 0 0) = 0 then (0, 0, 2) else ((numberI (l.drop 1) (longI (l.getD 0 0))).1, (longI (l.getD 0 0) : Int) + 1, (numberI (l.drop 1) (longI (l.getD 0 0))).2) := by
 cases l with
 | nil => simp at h
 | cons c r => rfl
theorem escI_nil {l : List Int} (h : l.length = 0) : escI l = (0, 0, 2) := by
 obtain rfl := List.eq_nil_of_length_eq_zero h
 rfl
theorem numGo_at {m : List Int} {a : Int} {k : Nat} (h : k < m.length) : numGo a (m.drop k) = if hexI (m.getD k 0) < 0 then none else numGo (a * 16 + hexI (m.getD k 0)) (m.drop (k + 1)) := by
 rw [drop_getD h]; rfl
theorem pow16 {k : Nat} (h : k ≤ 8) : 2 ^ (4 * k) ≤ 4294967296 ∧ 2 ^ (4 * (k + 1)) = 16 * 2 ^ (4 * k) := by
 refine ⟨Nat.le_trans (Nat.pow_le_pow_right (by decide) (show 4 * k ≤ 32 by omega)) (by decide), ?_⟩
 rw [show 4 * (k + 1) = 4 * k + 4 by omega, Nat.pow_add]; omega
theorem escI_n (l : List Int) : 0 ≤ (escI l).2.1 ∧ (escI l).2.1 ≤ 9 := by
 unfold escI
 split
 ·decide
 ·rename_i c r
  have := longI_le c
  (repeat' split) <;> (try simp only) <;> omega
def readGo (last : Bool) : Nat → List (Int × Bool) → List Int → List (Int × Bool) × Bool × Int
 | 0, acc, _ => (acc, false, 0)
 | _ + 1, acc, [] => (acc, false, 0)
 | f + 1, acc, c :: r =>
  if ¬ c = 92 then readGo last f (acc ++ [(c, false)]) r
  else if r = [] ∧ last = false then (acc, true, 0)
  else if ¬ (escI r).2.2 = 0 then ([], false, (escI r).2.2)
  else readGo last f (acc ++ [((escI r).1, true)]) (r.drop (escI r).2.1.toNat)
def readLine (last : Bool) (l : List Int) : List (Int × Bool) × Bool × Int := readGo last l.length [] l
theorem readGo_len (last : Bool) : ∀ (f : Nat) (acc : List (Int × Bool)) (l : List Int), (readGo last f acc l).1.length ≤ acc.length + l.length
 | 0, acc, l => by simp [readGo]
 | f + 1, acc, [] => by simp [readGo]
 | f + 1, acc, c :: r => by
  have h1 := readGo_len last f (acc ++ [(c, false)]) r
  have h2 := readGo_len last f (acc ++ [((escI r).1, true)]) (r.drop (escI r).2.1.toNat)
  simp only [List.length_append, List.length_cons, List.length_nil, List.length_drop] at h1 h2 ⊢
  unfold readGo
  (repeat' split)
  all_goals first | omega | (simp; done) | (simp; omega)
theorem readLine_len (last : Bool) (l : List Int) : (readLine last l).1.length ≤ l.length := by
 have := readGo_len last l.length [] l
 simpa [readLine] using this
theorem readGo_fuel (last : Bool) : ∀ (f f' : Nat) (acc : List (Int × Bool)) (l : List Int), l.length ≤ f → l.length ≤ f' → readGo last f acc l = readGo last f' acc l
 | 0, 0, _, _, _, _ => rfl
 | 0, f' + 1, acc, l, h, _ => by
  obtain rfl := List.eq_nil_of_length_eq_zero (by omega : l.length = 0)
  rfl
 | f + 1, 0, acc, l, _, h => by
  obtain rfl := List.eq_nil_of_length_eq_zero (by omega : l.length = 0)
  rfl
 | f + 1, f' + 1, acc, [], _, _ => rfl
 | f + 1, f' + 1, acc, c :: r, h, h' => by
  simp only [List.length_cons] at h h'
  have h1 := readGo_fuel last f f' (acc ++ [(c, false)]) r (by omega) (by omega)
  have h2 := readGo_fuel last f f' (acc ++ [((escI r).1, true)]) (r.drop (escI r).2.1.toNat) (by simp; omega) (by simp; omega)
  unfold readGo
  rw [h1, h2]
def readAt (last : Bool) (l : List Int) (acc : List (Int × Bool)) (k : Nat) : List (Int × Bool) × Bool × Int := readGo last (l.length - k) acc (l.drop k)
theorem readAt_end {last : Bool} {l : List Int} {acc : List (Int × Bool)} {k : Nat} (h : l.length ≤ k) : readAt last l acc k = (acc, false, 0) := by
 unfold readAt; rw [show l.length - k = 0 by omega]; rfl
theorem readAt_plain {last : Bool} {l : List Int} {acc : List (Int × Bool)} {k : Nat} (h : k < l.length) (h1 : ¬ l.getD k 0 = 92) : readAt last l acc k = readAt last l (acc ++ [(l.getD k 0, false)]) (k + 1) := by
 unfold readAt
 rw [show l.length - k = (l.length - (k + 1)) + 1 by omega, drop_getD h]
 simp only [readGo]
 rw [if_pos h1]
theorem readAt_join {last : Bool} {l : List Int} {acc : List (Int × Bool)} {k : Nat} (h : k + 1 = l.length) (h1 : l.getD k 0 = 92) (h2 : last = false) : readAt last l acc k = (acc, true, 0) := by
 unfold readAt
 rw [show l.length - k = (l.length - (k + 1)) + 1 by omega, drop_getD (show k < l.length by omega)]
 simp only [readGo]
 rw [if_neg (by simpa using h1), if_pos ⟨List.drop_eq_nil_of_le (by omega), h2⟩]
theorem readAt_bad {last : Bool} {l : List Int} {acc : List (Int × Bool)} {k : Nat} (h : k < l.length) (h1 : l.getD k 0 = 92) (h2 : ¬ (k + 1 = l.length ∧ last = false)) (h3 : ¬ (escI (l.drop (k + 1))).2.2 = 0) : readAt last l acc k = ([], false, (escI (l.drop (k + 1))).2.2) := by
 unfold readAt
 rw [show l.length - k = (l.length - (k + 1)) + 1 by omega, drop_getD h]
 simp only [readGo]
 rw [if_neg (by simpa using h1), if_neg (fun e => h2 ⟨by have := e.1; simp at this; omega, e.2⟩), if_pos h3]
theorem readAt_esc {last : Bool} {l : List Int} {acc : List (Int × Bool)} {k : Nat} {n : Nat} (h : k < l.length) (h1 : l.getD k 0 = 92) (h2 : ¬ (k + 1 = l.length ∧ last = false)) (h3 : (escI (l.drop (k + 1))).2.2 = 0) (hn : (escI (l.drop (k + 1))).2.1 = (n : Int)) : readAt last l acc k = readAt last l (acc ++ [((escI (l.drop (k + 1))).1, true)]) (k + 1 + n) := by
 unfold readAt
 rw [show l.length - k = (l.length - (k + 1)) + 1 by omega, drop_getD h]
 simp only [readGo]
 rw [if_neg (by simpa using h1), if_neg (fun e => h2 ⟨by have := e.1; simp at this; omega, e.2⟩), if_neg (by simpa using h3), hn]
 rw [Int.toNat_natCast, List.drop_drop]
 exact readGo_fuel last _ _ _ _ (by simp; omega) (by simp)
def frontG (b : Bool) (t : List (Int × Bool)) : List (Int × Bool) := if b then t.dropWhile softG else t
def backG (b : Bool) (t : List (Int × Bool)) : List (Int × Bool) := if b then (t.reverse.dropWhile softG).reverse else t
def trimG (i n : Nat) (x : List (Int × Bool) × Bool) : List (Int × Bool) := backG (decide (i + 1 < n) && !x.2) (frontG (decide (0 < i)) x.1)
def foldG (n : Nat) : Nat → Bool → Nat → List (List (Int × Bool) × Bool) → List Int
 | _, _, _, [] => []
 | i, j, e, x :: r =>
  if trimG i n x = [] ∧ x.2 = false ∧ j = false ∧ i + 1 < n then foldG n (i + 1) j (e + 1) r
  else (if j = false ∧ e = 0 then [32] else []) ++ List.replicate e 10 ++ (trimG i n x).map (·.1) ++ foldG n (i + 1) x.2 0 r
def foldD (l : List (List (Int × Bool) × Bool)) : List Int := foldG l.length 0 true 0 l
def linesD : List (List Int) → List (List (Int × Bool) × Bool) × Int
 | [] => ([], 0)
 | t :: r => let x := readLine r.isEmpty t
  if ¬ x.2.2 = 0 then ([], x.2.2) else if ¬ (linesD r).2 = 0 then ([], (linesD r).2) else ((x.1, x.2.1) :: (linesD r).1, 0)
def readD (l : List (List Int)) : List Int × Int := if ¬ (linesD l).2 = 0 then ([], (linesD l).2) else (foldD (linesD l).1, 0)
/-! ### Lines -/
abbrev LNA (x : List (Int × Bool) × Bool) : AV := .agg [SG none x.1, B x.2]
abbrev LLA (o : Option (Option (Nat × Nat))) (l : List (List (Int × Bool) × Bool)) : AV := .sl 2 o (l.map LNA)
theorem getLNA {l : List (List (Int × Bool) × Bool)} {k : Nat} (h : k < l.length) : (l.map LNA).getD k .any = LNA (l.getD k ([], false)) := by
 simp [List.getD_eq_getElem?_getD, h]
def totG (l : List (List (Int × Bool) × Bool)) : Nat := (l.map fun t => t.1.length + 1).sum
theorem totG_len (l : List (List (Int × Bool) × Bool)) : l.length ≤ totG l := by
 induction l with
 | nil => simp [totG]
 | cons x r ih => simp only [totG, List.map_cons, List.sum_cons, List.length_cons] at *; omega
theorem totG_get {l : List (List (Int × Bool) × Bool)} (k : Nat) : (l.getD k ([], false)).1.length ≤ totG l := by
 induction l generalizing k with
 | nil => simp [totG]
 | cons x r ih =>
  cases k with
  | zero => simp [totG]; omega
  | succ k => have := ih k; simp only [totG, List.map_cons, List.sum_cons, List.getD_cons_succ] at *; omega
theorem backG_le (b : Bool) (t : List (Int × Bool)) : (backG b t).length ≤ t.length := by
 unfold backG
 split
 ·have := (List.dropWhile_suffix softG (l := t.reverse)).length_le
  simpa using this
 ·exact Nat.le_refl _
theorem frontG_le (b : Bool) (t : List (Int × Bool)) : (frontG b t).length ≤ t.length := by
 unfold frontG
 split
 ·exact (List.dropWhile_suffix softG).length_le
 ·exact Nat.le_refl _
theorem trimG_le (i n : Nat) (x : List (Int × Bool) × Bool) : (trimG i n x).length ≤ x.1.length := Nat.le_trans (backG_le _ _) (frontG_le _ _)
theorem foldG_len (n : Nat) : ∀ (l : List (List (Int × Bool) × Bool)) (i : Nat) (j : Bool) (e : Nat), (foldG n i j e l).length ≤ e + totG l
 | [], i, j, e => by simp [foldG]
 | x :: r, i, j, e => by
  have h1 := foldG_len n r (i + 1) j (e + 1)
  have h2 := foldG_len n r (i + 1) x.2 0
  have h3 := trimG_le i n x
  simp only [totG, List.map_cons, List.sum_cons] at *
  unfold foldG
  split
  ·omega
  ·simp only [List.length_append, List.length_replicate, List.length_map]
   split <;> simp <;> omega
theorem foldD_len (l : List (List (Int × Bool) × Bool)) : (foldD l).length ≤ totG l := by have := foldG_len l.length l 0 true 0; unfold foldD; omega
theorem drop_getG {l : List (List (Int × Bool) × Bool)} {k : Nat} (h : k < l.length) : l.drop k = l.getD k ([], false) :: l.drop (k + 1) := by
 rw [List.drop_eq_getElem_cons h]
 simp [List.getD_eq_getElem?_getD, h]
theorem foldG_skip {n i : Nat} {j : Bool} {e : Nat} {l : List (List (Int × Bool) × Bool)} {T : List (Int × Bool)} (h : i < l.length) (hT : trimG i n (l.getD i ([], false)) = T) (h1 : T.length = 0) (h2 : (l.getD i ([], false)).2 = false) (h3 : j = false) (h4 : i + 1 < n) :
  foldG n i j e (l.drop i) = foldG n (i + 1) j (e + 1) (l.drop (i + 1)) := by
 rw [drop_getG h]
 simp only [foldG]
 rw [if_pos ⟨by rw [hT]; exact List.eq_nil_of_length_eq_zero h1, h2, h3, h4⟩]
theorem foldG_take {n i : Nat} {j : Bool} {e : Nat} {l : List (List (Int × Bool) × Bool)} {T : List (Int × Bool)} {s : List Int} (h : i < l.length) (hT : trimG i n (l.getD i ([], false)) = T) (h1 : ¬ (T.length = 0 ∧ (l.getD i ([], false)).2 = false ∧ j = false ∧ i + 1 < n))
  (hs : s = if j = false ∧ e = 0 then [32] else []) : foldG n i j e (l.drop i) = s ++ List.replicate e 10 ++ T.map (·.1) ++ foldG n (i + 1) (l.getD i ([], false)).2 0 (l.drop (i + 1)) := by
 rw [drop_getG h]
 simp only [foldG]
 rw [if_neg (fun e => h1 ⟨by rw [← hT, e.1]; rfl, e.2⟩), hT, hs]
theorem mapfst_take {T : List (Int × Bool)} {m : Nat} (h : m < T.length) : (T.take (m + 1)).map (·.1) = (T.take m).map (·.1) ++ [(T.getD m (0, false)).1] := by
 rw [List.take_succ_eq_append_getElem h, List.map_append, List.getD_eq_getElem?_getD, List.getElem?_eq_getElem h]
 rfl
theorem linesD_bad {t : List Int} {r : List (List Int)} (h : ¬ (readLine r.isEmpty t).2.2 = 0) : linesD (t :: r) = ([], (readLine r.isEmpty t).2.2) := by
 simp only [linesD]; rw [if_pos h]
theorem linesD_ok {t : List Int} {r : List (List Int)} (h : (readLine r.isEmpty t).2.2 = 0) : (linesD (t :: r)).2 = (linesD r).2 ∧ ((linesD r).2 = 0 → (linesD (t :: r)).1 = ((readLine r.isEmpty t).1, (readLine r.isEmpty t).2.1) :: (linesD r).1) := by
 simp only [linesD]
 rw [if_neg (by simpa using h)]
 split
 ·rename_i h2; exact ⟨rfl, fun h3 => (h2 h3).elim⟩
 ·rename_i h2; exact ⟨by simp only [Decidable.not_not] at h2; exact h2.symm, fun _ => rfl⟩
theorem linesD_tot : ∀ l : List (List Int), totG (linesD l).1 ≤ tot l
 | [] => by simp [linesD, totG]
 | t :: r => by
  have h1 := linesD_tot r
  have h2 := readLine_len r.isEmpty t
  simp only [tot, totG, List.map_cons, List.sum_cons] at *
  simp only [linesD]
  (repeat' split) <;> simp <;> omega
theorem last_at {l : List (List Int)} {i : Nat} (h : i < l.length) : (((i : Int) + 1) == (l.length : Int)) = (l.drop (i + 1)).isEmpty := by
 rw [Bool.eq_iff_iff, beq_iff_eq, List.isEmpty_iff, List.drop_eq_nil_iff]
 omega
theorem readD_bad {l : List (List Int)} {e : Int} (h : (linesD l).2 = e) (h0 : ¬ e = 0) : readD l = ([], e) := by unfold readD; rw [h, if_pos h0]
theorem readD_ok {l : List (List Int)} (h : (linesD l).2 = 0) : readD l = (foldD (linesD l).1, 0) := by unfold readD; rw [h, if_neg (by decide)]
end Go.Abs
/-
 Walks: chapter 7, double quotes: what one line is.
-/



namespace Go.Proofs.YthkabaiamcjdbaaGreat
open Go.Abs
variable {κ : Ctx} {σ : List Res} {K : Ret → List Res → Prop} {o o' : Option (Option (Nat × Nat))}
theorem dEnd {l : List Int} (hl : l.length ≤ 1000000000) (hK : K (.ret (.tup [I (endD 0 l).1, B (endD 0 l).2])) σ) : ACallF κ Tryz.prog 198 [SI o l] σ K := by
 refine ACallF.dropL (ACallF_intro Tryz.func198 rfl ?_)
 simp only [Tryz.ntmps198]
 repeat' (first | simp only [WL, WM, Nat.reduceAdd, Nat.reduceSub])
 refine loop_by (fun k : Nat => ⟨(SI o l :: .any::.any::.any::I k :: .any::.any::.any::.any::.any::.any::.any::.any::.any::.any::.any::.any::.any::.any::.any::.any::.any::[]), σ, true, []⟩) (fun k => k ≤ l.length + 1 ∧ endD 0 l = endD k (l.drop k)) (fun k => l.length + 2 - k) 0 (St_le_same leA id) ⟨Nat.zero_le _, by simp⟩ ?_
 rintro k ⟨h1, h2⟩
 repeat' (first | simp only [WL, intF, WM, reduceCtorEq, WLb, Nat.reduceAdd, true_and, T3, T22, Tryz.results198] | simp (disch := first | omega | (simp only [LN_]; omega)) only [wrap_id, getI] | with_reducible refine andA (hb := ?_) | ((with_reducible first | refine grd_cases (fun h => ?_) (fun h => ?_) | refine condC_split (fun h => ?_) (fun h => ?_)) <;> (try simp only [h]) <;> (try simp only [NR_, NRb] at h)))
 ·exact ⟨k + 2, St_le_same leA id, ⟨by omega, by rw [h2, endD_at_esc (by omega) (by assumption)]⟩, by omega⟩
 ·exact leafL sub_rfl (leT_eq (by rw [h2, endD_at_end (by omega) (by assumption)])) hK
 ·exact ⟨k + 1, St_le_same leA id, ⟨by omega, by rw [h2, endD_at_no (by omega) (by assumption) (by assumption)]⟩, by omega⟩
 ·exact leafL sub_rfl (leT_eq (by rw [h2, List.drop_eq_nil_of_le (by omega), endD_nil])) hK
theorem dIs {c : Int} (hK : K (.ret (B (rightI c))) σ) : ACallF κ Tryz.prog 229 [I c] σ K := by
 refine ACallF.dropL (ACallF_intro Tryz.func229 rfl ?_)
 simp only [Tryz.ntmps229]
 repeat' (first | simp only [WL, intF, WM, reduceCtorEq, WLb, Nat.reduceAdd, Nat.reduceSub, Bool.not_true, Bool.not_false, true_and, reduceIte, Bool.false_eq_true, Tryz.results229] | ((with_reducible first | refine grd_cases (fun h => ?_) (fun h => ?_) | refine condC_split (fun h => ?_) (fun h => ?_)) <;> (try simp only [h]) <;> (try simp only [NR_, NRb] at h)))
 all_goals (refine leafL sub_rfl (leT_eq (congrArg B ?_)) hK; rw [Bool.eq_iff_iff]; simp only [rightI_iff, decide_eq_true_eq, Bool.false_eq_true, false_iff, true_iff, eq_self]; omega)
theorem dShort {c : Int} (hK : K (.ret (.tup [I (escShortI c).1, B (escShortI c).2])) σ) : ACallF κ Tryz.prog 224 [I c] σ K := by
 refine ACallF.dropL (ACallF_intro Tryz.func224 rfl ?_)
 simp only [Tryz.ntmps224]
 repeat' (first | simp only [WL, intF, WM, reduceCtorEq, WLb, Nat.reduceAdd, Nat.reduceSub, true_and, Tryz.results224] | ((with_reducible first | refine grd_cases (fun h => ?_) (fun h => ?_) | refine condC_split (fun h => ?_) (fun h => ?_)) <;> (try simp only [h]) <;> (try simp only [NR_, NRb] at h)))
 all_goals (refine leafL sub_rfl (leT_eq ?_) hK; simp [escShortI, *])
theorem dLong {c : Int} (hK : K (.ret (I (longI c : Nat))) σ) : ACallF κ Tryz.prog 225 [I c] σ K := by
 refine ACallF.dropL (ACallF_intro Tryz.func225 rfl ?_)
 simp only [Tryz.ntmps225]
 repeat' (first | simp only [WL, intF, WM, reduceCtorEq, WLb, Nat.reduceAdd, Nat.reduceSub, true_and, Tryz.results225] | ((with_reducible first | refine grd_cases (fun h => ?_) (fun h => ?_) | refine condC_split (fun h => ?_) (fun h => ?_)) <;> (try simp only [h]) <;> (try simp only [NR_, NRb] at h)))
 all_goals (refine leafL sub_rfl (leT_eq ?_) hK; simp [longI, *])
theorem dNumber {l : List Int} {n : Nat} (hl : l.length ≤ 1000000000) (hn : n ≤ 8) (hK : K (.ret (.tup [I (numberI l n).1, I (numberI l n).2])) σ) : ACallF κ Tryz.prog 226 [SI o l, I n] σ K := by
 refine ACallF.dropL (ACallF_intro Tryz.func226 rfl ?_)
 simp only [Tryz.ntmps226]
 repeat' (first | simp only [WL, intF, WM, Int.reduceToNat, reduceCtorEq, WLb, Nat.reduceAdd, Nat.reduceSub, true_and, T3, T22, Tryz.results226] | with_reducible refine andA (hb := ?_) | ((with_reducible first | refine grd_cases (fun h => ?_) (fun h => ?_) | refine condC_split (fun h => ?_) (fun h => ?_)) <;> (try simp only [h]) <;> (try simp only [NR_, NRb] at h)))
 ·exact leafL sub_rfl (leT_eq (by unfold numberI; rw [if_pos (by omega)])) hK
 have hm : (l.take n).length = n := by simp; omega
 have hu : numberI l n = numEnd (numGo 0 (l.take n)) := by unfold numberI; rw [if_neg (by omega)]
 generalize l.take n = m at *
 refine loop_by (fun x : Nat × Nat => ⟨(SI o l :: I n :: .any::.any::.any::.any::I x.2 :: .any::.any::.any::.any::.any::.any::.any::.any::.any::SI none m :: I m.length :: I x.1 :: .any::.any::.any::.any::.any::.any::.any::.any::.any::.any::.any::.any::.any::.any::.any::.any::[]), σ, true, []⟩) (fun x => x.1 ≤ m.length ∧ numGo 0 m = numGo x.2 (m.drop x.1) ∧ x.2 < 2 ^ (4 * x.1)) (fun x => m.length - x.1) (0, 0) (St_le_same leA id) ⟨Nat.zero_le _, by simp, by decide⟩ ?_
 rintro ⟨k, a⟩ ⟨h1, h2, h3⟩
 dsimp only at h1 h2 h3 ⊢
 have hp := pow16 (k := k) (by omega)
 have hx := hexI_le (m.getD k 0)
 repeat' (first | simp only [WL, intF, WM, reduceCtorEq, WLb, Nat.reduceAdd, true_and, T3, T22, cok216, cok229, Tryz.results226] | simp (disch := first | omega | (simp only [LN_]; omega)) only [wrap_id, getI] | (with_reducible first | refine andA (hb := ?_) | refine cD (cHex ?_) | refine cD (dIs ?_)) | ((with_reducible first | refine grd_cases (fun h => ?_) (fun h => ?_) | refine condC_split (fun h => ?_) (fun h => ?_)) <;> (try simp only [h]) <;> (try simp only [NR_, NRb] at h)))
 ·rw [numGo_at (by omega), if_pos (by omega)] at h2
  exact leafL sub_rfl (leT_eq (by rw [hu, h2]; rfl)) hK
 ·rw [numGo_at (by omega), if_neg (by omega)] at h2
  exact ⟨(k + 1, a * 16 + (hexI (m.getD k 0)).toNat), St_le_same leA id, ⟨by dsimp only; omega, by dsimp only; rw [h2]; congr 1; omega, by dsimp only; omega⟩, by dsimp only; omega⟩
 all_goals
  rw [List.drop_eq_nil_of_le (by omega)] at h2
  simp only [numGo] at h2
 ·exact leafL sub_rfl (leT_eq (by rw [hu, h2]; unfold numEnd; simp only; rw [if_neg (by simp [*])])) hK
 ·exact leafL sub_rfl (leT_eq (by rw [hu, h2]; unfold numEnd; simp only; rw [if_pos (by assumption)])) hK
theorem dEscape {l : List Int} (hl : l.length ≤ 1000000000) (hK : K (.ret (.tup [I (escI l).1, I (escI l).2.1, I (escI l).2.2])) σ) : ACallF κ Tryz.prog 217 [SI o l] σ K := by
 have hb := longI_le (l.getD 0 0)
 refine ACallF.dropL (ACallF_intro Tryz.func217 rfl ?_)
 simp only [Tryz.ntmps217]
 repeat' (first | simp only [WL, intF, WM, Int.reduceToNat, reduceCtorEq, WLb, Nat.reduceAdd, Nat.reduceSub, Nat.reduceLT, true_and, T3, T22, cok224, cok225, cok226, Tryz.results217] | simp (disch := first | omega | (simp only [LN_]; omega)) only [wrap_id, getI] | (with_reducible first | refine andA (hb := ?_) | refine cD (dShort ?_) | refine cD (dLong ?_) | refine cD (dNumber ?_ ?_ ?_)) | ((with_reducible first | refine grd_cases (fun h => ?_) (fun h => ?_) | refine condC_split (fun h => ?_) (fun h => ?_)) <;> (try simp only [h]) <;> (try simp only [NR_, NRb] at h)) | omega | (simp only [LN_]; omega))
 all_goals first
  | exact leafL sub_rfl (leT_eq (by rw [escI_nil (by omega)])) hK
  | exact leafL sub_rfl (leT_eq (by rw [escI_def (by omega), if_pos (by assumption)])) hK
  | exact leafL sub_rfl (leT_eq (by rw [escI_def (by omega), if_neg (by simp only [*]; decide), if_pos (by omega)])) hK
  | exact leafL sub_rfl (leT_eq (by rw [escI_def (by omega), if_neg (by simp only [*]; decide), if_neg (by omega)])) hK
theorem sBlank {x : Int × Bool} (hK : K (.ret (B (softG x))) σ) : ACallF κ Tryz.prog 227 [SGA x] σ K := by
 refine ACallF.dropL (ACallF_intro Tryz.func227 rfl ?_)
 simp only [Tryz.ntmps227]
 repeat' (first | simp only [WL, WM, Nat.reduceAdd, Nat.reduceSub, Nat.reduceEqDiff, Bool.not_true, true_and, reduceIte, Bool.false_eq_true, T3, T4, fR fl245_0, fR fl245_1, cok72, Tryz.results227] | (with_reducible first | refine andA (hb := ?_) | refine y_load (hK := ?_) | refine y_box (hK := fun b => ?_) | refine cD (Blank ?_)) | ((with_reducible first | refine grd_cases (fun h => ?_) (fun h => ?_) | refine condC_split (fun h => ?_) (fun h => ?_)) <;> (try simp only [h]) <;> (try simp only [NR_, NRb] at h)))
 all_goals exact leafL (sub_cons sub_rfl) (leT_eq (congrArg B (by simp [softG, *]))) hK
theorem dFront {b : Nat} {l : List (Int × Bool)} {j : Bool} (hl : l.length ≤ 1000000000) (hK : ∀ o', K (.ret (.tup [])) (.obj b [SG o' (l.dropWhile softG), B j] :: σ)) : ACallF κ Tryz.prog 218 [.raw (.pointer (some ⟨b, 0, none⟩))] (.obj b [SG o l, B j] :: σ) K := by
 refine ACallF.dropL (ACallF_intro Tryz.func218 rfl ?_)
 simp only [Tryz.ntmps218]
 repeat' (first | simp only [WL, WM, Nat.reduceAdd, Nat.reduceSub])
 refine loop_by (fun x : Option (Option (Nat × Nat)) × List (Int × Bool) => ⟨(.raw (.pointer (some ⟨b, 0, none⟩)) :: .any::.any::.any::.any::.any::.any::.any::.any::.any::.any::.any::.any::.any::.any::.any::.any::.any::.any::.any::.any::.any::.any::.any::.any::[]), .obj b [SG x.1 x.2, B j] :: σ, true, []⟩) (fun x => x.2.dropWhile softG = l.dropWhile softG ∧ x.2.length ≤ l.length) (fun x => x.2.length) (o, l) (St_le_same leA id) ⟨rfl, Nat.le_refl _⟩ ?_
 rintro ⟨o', l'⟩ hx
 dsimp only at hx ⊢
 have h1 := hx.1
 have h2 := hx.2
 repeat' (first | simp only [WL, intF, WM, Int.reduceToNat, reduceCtorEq, WLb, Nat.reduceAdd, Nat.reduceEqDiff, Bool.not_true, true_and, reduceIte, Bool.false_eq_true, T227, T245, fR fl229_0, cok227, Tryz.results218] | simp (disch := first | omega | (simp only [LN_]; omega)) only [getG] | (with_reducible first | refine andA (hb := ?_) | refine y_load (hK := ?_) | refine y_store (hK := ?_) | refine cD (sBlank ?_)) | ((with_reducible first | refine grd_cases (fun h => ?_) (fun h => ?_) | refine condC_split (fun h => ?_) (fun h => ?_)) <;> (try simp only [h]) <;> (try simp only [NR_, NRb] at h)))
 ·exact ⟨(none, l'.drop 1), St_leW leA (ResW.refl _) id, ⟨(dwg_step (d := (0, false)) (by omega) (by assumption)).symm.trans h1, by simp; omega⟩, by simp; omega⟩
 ·exact leafL sub_rfl (leT_eq rfl) (by rw [← h1, dwg_stop (d := (0, false)) (by omega) (by assumption)] at hK; exact hK _)
 ·obtain rfl : l' = [] := List.eq_nil_of_length_eq_zero (by omega)
  exact leafL sub_rfl (leT_eq rfl) (by rw [← h1] at hK; exact hK _)
theorem dBack {b : Nat} {l : List (Int × Bool)} {j : Bool} (hl : l.length ≤ 1000000000) (hK : ∀ o', K (.ret (.tup [])) (.obj b [SG o' (backG (!j) l), B j] :: σ)) : ACallF κ Tryz.prog 219 [.raw (.pointer (some ⟨b, 0, none⟩))] (.obj b [SG o l, B j] :: σ) K := by
 refine ACallF.dropL (ACallF_intro Tryz.func219 rfl ?_)
 simp only [Tryz.ntmps219]
 repeat' (first | simp only [WL, WM, Nat.reduceAdd, Nat.reduceSub])
 refine loop_by (fun x : Option (Option (Nat × Nat)) × List (Int × Bool) => ⟨(.raw (.pointer (some ⟨b, 0, none⟩)) :: .any::.any::.any::.any::.any::.any::.any::.any::.any::.any::.any::.any::.any::.any::.any::.any::.any::.any::.any::.any::.any::.any::.any::.any::.any::.any::.any::.any::.any::.any::.any::.any::.any::.any::.any::.any::.any::.any::.any::.any::.any::.any::.any::[]), .obj b [SG x.1 x.2, B j] :: σ, true, []⟩) (fun x => backG (!j) x.2 = backG (!j) l ∧ x.2.length ≤ l.length) (fun x => x.2.length) (o, l) (St_le_same leA id) ⟨rfl, Nat.le_refl _⟩ ?_
 rintro ⟨o', l'⟩ ⟨h1, h2⟩
 dsimp only at h1 h2 ⊢
 have e1 : 0 < l'.length → ((l'.length : Int) - 1).toNat = l'.length - 1 := fun _ => by omega
 repeat' (first | simp only [WL, intF, WM, Int.reduceToNat, reduceCtorEq, WLb, Nat.reduceAdd, Nat.reduceEqDiff, Bool.not_true, true_and, reduceIte, Bool.false_eq_true, T4, T227, T245, fR fl229_0, fR fl229_1, cok227, Tryz.results219] | simp (disch := first | omega | (simp only [LN_]; omega)) only [wrap_id, getG, e1] | (with_reducible first | refine andA (hb := ?_) | refine y_load (hK := ?_) | refine y_store (hK := ?_) | refine cQ (sBlank isR_mk) ?_) | ((with_reducible refine AW_drawM (id := 0) 28 mixed ?_ ?_); kernel_rfl) | ((with_reducible refine AW_drawM (id := 1) 14 mixed ?_ ?_); kernel_rfl) | (with_reducible refine dmQ_mk ?_) | ((with_reducible first | refine grd_cases (fun h => ?_) (fun h => ?_) | refine condC_split (fun h => ?_) (fun h => ?_)) <;> (try simp only [h]) <;> (try simp only [NR_, NRb] at h)))
 ·subst_vars
  exact ⟨(none, l'.take (l'.length - 1)), St_leW leA (ResW.refl _) id, ⟨Eq.trans (bkg_step (d := (0, false)) (by omega) (by assumption)).symm h1, by simp; omega⟩, by simp; omega⟩
 ·subst_vars
  exact leafL sub_rfl (leT_eq rfl) (by rw [← h1] at hK; unfold backG at hK; simp only [Bool.not_false, if_true] at hK; rw [bkg_stop (d := (0, false)) (by omega) (by assumption)] at hK; exact hK _)
 ·subst_vars
  obtain rfl : l' = [] := List.eq_nil_of_length_eq_zero (by omega)
  exact leafL sub_rfl (leT_eq rfl) (by rw [← h1] at hK; exact hK _)
 ·subst_vars
  exact leafL sub_rfl (leT_eq rfl) (hK _)
theorem dRead {l : List Int} {last : Bool} (hl : l.length ≤ 100000000) (hK : K (.ret (.tup [.agg [SG none (readLine last l).1, B (readLine last l).2.1], I (readLine last l).2.2])) σ) : ACallF κ Tryz.prog 200 [SI o l, B last] σ K := by
 refine ACallF.dropS ?_
 have hz : readLine last l = readAt last l [] 0 := by simp [readLine, readAt]
 refine ACallF.dropL (ACallF_intro Tryz.func200 rfl ?_)
 simp only [Tryz.ntmps200]
 repeat' (first | simp only [WL, WM, Nat.reduceAdd, Nat.reduceSub] | with_reducible refine y_new (hK := fun b => ?_))
 rename_i b0
 refine loop_by (fun x : Nat × List (Int × Bool) × Option (Nat × Nat) => ⟨(SI o l :: B last :: .any::.any::.raw (.pointer (some ⟨b0, 0, none⟩)) :: .any::.raw (.pointer (some ⟨b, 0, none⟩)) :: I x.1 :: .any::.any::.any::.any::.any::.any::.any::.any::.any::.any::.any::.any::.any::.any::.any::.any::.any::.any::.any::.any::.any::.any::.any::.any::.any::.any::.any::.any::.any::.any::.any::.any::.any::.any::.any::.any::.any::.any::.any::.any::.any::.any::.any::.any::.any::.any::.any::.any::.any::.any::.any::.any::.any::.any::.any::.any::.any::.any::.any::[]), .obj b [SG (some x.2.2) x.2.1, B false] :: .tip x.2.2 :: .obj b0 [nilS, B false] :: σ, true, []⟩)
  (fun x => x.2.1.length ≤ x.1 ∧ readAt last l [] 0 = readAt last l x.2.1 x.1 ∧ x.1 ≤ l.length + 9) (fun x => l.length + 10 - x.1) (0, [], none) (St_leW leA (((ResW.void).cons _).trans (ResW.obj (leL_two (le_nil (by decide)) le_rfl))) id) ⟨Nat.le_refl _, rfl, by omega⟩ ?_
 rintro ⟨k, out, tk⟩ ⟨h1, h2, h3⟩
 dsimp only at h1 h2 h3 ⊢
 rw [hz, h2] at hK
 have hn := escI_n (l.drop (k + 1))
 obtain ⟨n, hn2⟩ := Int.eq_ofNat_of_zero_le hn.1
 repeat' (first | simp only [WL, intF, WM, reduceCtorEq, WLb, Nat.reduceAdd, Nat.reduceLT, Nat.reduceEqDiff, Bool.not_true, true_and, reduceIte, Bool.false_eq_true, T3, T4, T22, T227, fR fl229_0, fR fl229_1, cok217, Tryz.results200, tn1] | simp (disch := first | omega | (simp only [LN_]; omega)) only [wrap_id, getI] | (with_reducible first | refine andA (hb := ?_) | refine y_load (hK := ?_) | refine y_loadA (hK := ?_) | refine y_store (hK := ?_) | refine y_storeA (hK := ?_) | refine y_app (hlen := ?_) (hmax := ?_) (hK := fun tk => ?_) | refine y_bs (hK := ?_) | refine y_build (hK := ?_) | refine cD (dEscape ?_ ?_)) | ((with_reducible refine resL_id ?_); apply res_ct (hf := Tryz.results200); exact y_load2) | ((with_reducible refine AW_drawM (id := 6) 8 mixed ?_ ?_); kernel_rfl) | (with_reducible refine dmQ_mk ?_) | ((with_reducible first | refine grd_cases (fun h => ?_) (fun h => ?_) | refine condC_split (fun h => ?_) (fun h => ?_)) <;> (try simp only [h]) <;> (try simp only [NR_, NRb] at h)) | omega | (simp only [LN_]; omega) | (refine maxLen_ok ?_; (first | omega | (simp only [LN_]; omega))))
 ·exact ⟨(k + 1, out ++ [(l.getD k 0, false)], tk), St_leW leA (ResW.of_eq (by simp)) id, ⟨by simp; omega, by dsimp only; rw [h2, readAt_plain (by omega) (by assumption)], by dsimp only; omega⟩, by dsimp only; omega⟩
 ·rw [readAt_join (by omega) (by assumption) (by assumption)] at hK
  exact leafL (sub_cons (sub_cons (sub_cons sub_rfl))) (leT_eq rfl) (leafS sub_rfl (leS_tup (leSL_cons (leS_agg (leSL_cons (leS_le le_ro) (leSL_cons leS_rfl leSL_nil))) (leSL_cons leS_rfl leSL_nil))) hK)
 ·rw [readAt_bad (by omega) (by assumption) (fun e => by have e1 := e.1; have e2 := e.2; first | omega | simp_all) (by assumption)] at hK
  exact leafL (sub_cons (sub_cons (sub_cons sub_rfl))) (leT_eq rfl) (leafS sub_rfl (leS_tup (leSL_cons (leS_agg (leSL_cons (leS_le (le_nilro (by decide))) (leSL_cons leS_rfl leSL_nil))) (leSL_cons leS_rfl leSL_nil))) hK)
 ·exact ⟨(k + 1 + n, out ++ [((escI (l.drop (k + 1))).1, true)], tk), St_leW leA (ResW.of_eq (by simp)) id, ⟨by simp; omega, by dsimp only; rw [h2, readAt_esc (by omega) (by assumption) (fun e => by have e1 := e.1; have e2 := e.2; first | omega | simp_all) (by assumption) hn2], by dsimp only; omega⟩, by dsimp only; omega⟩
 ·rw [readAt_bad (by omega) (by assumption) (fun e => by have e1 := e.1; have e2 := e.2; first | omega | simp_all) (by assumption)] at hK
  exact leafL (sub_cons (sub_cons (sub_cons sub_rfl))) (leT_eq rfl) (leafS sub_rfl (leS_tup (leSL_cons (leS_agg (leSL_cons (leS_le (le_nilro (by decide))) (leSL_cons leS_rfl leSL_nil))) (leSL_cons leS_rfl leSL_nil))) hK)
 ·exact ⟨(k + 1 + n, out ++ [((escI (l.drop (k + 1))).1, true)], tk), St_leW leA (ResW.of_eq (by simp)) id, ⟨by simp; omega, by dsimp only; rw [h2, readAt_esc (by omega) (by assumption) (fun e => by have e1 := e.1; have e2 := e.2; first | omega | simp_all) (by assumption) hn2], by dsimp only; omega⟩, by dsimp only; omega⟩
 ·rw [readAt_end (by omega)] at hK
  exact leafL (sub_cons (sub_cons (sub_cons sub_rfl))) (leT_eq rfl) (leafS sub_rfl (leS_tup (leSL_cons (leS_agg (leSL_cons (leS_le le_ro) (leSL_cons leS_rfl leSL_nil))) (leSL_cons leS_rfl leSL_nil))) hK)
theorem dFolded {l : List (List (Int × Bool) × Bool)} (hl : totG l ≤ 1000000000) (hK : K (.ret (SI none (foldD l))) σ) : ACallF κ Tryz.prog 201 [LLA o l] σ K := by
 have hlen := totG_len l
 have hfl := foldD_len l
 refine ACallF.dropL (ACallF_introA Tryz.func201 rfl ?_)
 simp only [Tryz.ntmps201]
 repeat' (first | (with_reducible first | refine AW_block ?_ | refine cut_loop ?_ | refine AW_seqA (AW_seqA ?_) | refine AW_seq ?_ | refine AW_runReg ?_) | simp only [WL, WM, Nat.reduceAdd, Nat.reduceSub, true_and, T226])
 refine loopA (fun x : Nat × List Int × Nat × Bool × Option (Nat × Nat) => ⟨(LLA o l :: .any::.any::SI (some x.2.2.2.2) x.2.1 :: I x.2.2.1 :: B x.2.2.2.1 :: .any::.any::.any::.any::LLA o l :: I l.length :: I x.1 :: .any::.any::.any::.any::.any::.any::.any::.any::.any::.any::.any::.any::.any::.any::.any::.any::.any::.any::.any::.any::.any::.any::.any::.any::.any::.any::.any::.any::.any::.any::.any::.any::.any::.any::.any::.any::.any::.any::.any::.any::.any::.any::.any::.any::.any::.any::.any::.any::.any::.any::.any::.any::.any::.any::.any::.any::.any::.any::.any::.any::.any::.any::.any::.any::.any::.any::.any::[]), .tip x.2.2.2.2 :: σ, true, []⟩)
  (fun x => x.1 ≤ l.length ∧ foldD l = x.2.1 ++ foldG l.length x.1 x.2.2.2.1 x.2.2.1 (l.drop x.1) ∧ x.2.2.1 ≤ x.1 ∧ (x.2.2.2.1 = true → x.2.2.1 = 0)) (fun x => l.length - x.1) (0, [], 0, true, none) (St_leW leA ResW.void id) ⟨Nat.zero_le _, rfl, Nat.le_refl _, fun _ => rfl⟩ ?_
 rintro ⟨i, out, e, j, tk⟩ hx
 dsimp only at hx ⊢
 have h1 := hx.1
 have h2 := hx.2.1
 have h3 := hx.2.2.1
 have h4 := hx.2.2.2
 have ol : out.length ≤ totG l := by have := congrArg List.length h2; simp only [List.length_append] at this; omega
 have tl := trimG_le i l.length (l.getD i ([], false))
 have tf := frontG_le (decide (0 < i)) (l.getD i ([], false)).1
 have tg := totG_get (l := l) i
 repeat' (first | (with_reducible first | refine cut_unit (id := 7) ?_ | refine AW_seqA (AW_block ?_) | refine AW_seq ?_ | refine AW_runRet ?_) | simp only [WL, intF, WM, reduceCtorEq, WLb, Nat.reduceAdd, true_and, T226, T229, Tryz.results201] | simp (disch := first | omega | (simp only [LN_]; omega)) only [getLNA] | (with_reducible first | refine andA (hb := ?_) | refine y_storeA (hK := ?_) | refine y_new (hK := fun b => ?_)) | ((with_reducible first | refine grd_cases (fun h => ?_) (fun h => ?_) | refine condC_split (fun h => ?_) (fun h => ?_)) <;> (try simp only [h]) <;> (try simp only [NR_, NRb] at h)))
 ·refine midA (fun of : Option (Option (Nat × Nat)) => ⟨(LLA o l :: .any::.any::SI (some tk) out :: I e :: B j :: I i :: .raw (.pointer (some ⟨b, 0, none⟩)) :: .any::.any::LLA o l :: I l.length :: I i :: .any::.any::.any::.any::.any::.any::.any::.any::.any::.any::.any::.any::.any::.any::.any::.any::.any::.any::.any::.any::.any::.any::.any::.any::.any::.any::.any::.any::.any::.any::.any::.any::.any::.any::.any::.any::.any::.any::.any::.any::.any::.any::.any::.any::.any::.any::.any::.any::.any::.any::.any::.any::.any::.any::.any::.any::.any::.any::.any::.any::.any::.any::.any::.any::.any::.any::.any::[]), .obj b [SG of (frontG (decide (0 < i)) (l.getD i ([], false)).1), B (l.getD i ([], false)).2] :: .tip tk :: σ, true, []⟩) (fun _ => True) ?_ ?_
  ·
   repeat' (first | (with_reducible first | refine AW_seq ?_ | refine AW_runCond ?_) | simp only [WL, intF, WM, ne_eq, reduceCtorEq, not_false_eq_true, true_and, and_true, cok218] | with_reducible refine cD (dFront ?_ (fun of => ?_)) | ((with_reducible first | refine grd_cases (fun h => ?_) (fun h => ?_) | refine condC_split (fun h => ?_) (fun h => ?_)) <;> (try simp only [h]) <;> (try simp only [NR_, NRb] at h)) | omega)
   ·exact ⟨of, St_leW leA (ResW.of_eq (by simp [frontG, show 0 < i by omega])) id⟩
   ·exact ⟨none, St_leW leA (ResW.of_eq (by simp [frontG, show ¬ 0 < i by omega])) id⟩
  ·intro of _
   refine midA (fun of : Option (Option (Nat × Nat)) => ⟨(LLA o l :: .any::.any::SI (some tk) out :: I e :: B j :: I i :: .raw (.pointer (some ⟨b, 0, none⟩)) :: .any::.any::LLA o l :: I l.length :: I i :: .any::.any::.any::.any::.any::.any::.any::.any::.any::.any::.any::.any::.any::.any::.any::.any::.any::.any::.any::.any::.any::.any::.any::.any::.any::.any::.any::.any::.any::.any::.any::.any::.any::.any::.any::.any::.any::.any::.any::.any::.any::.any::.any::.any::.any::.any::.any::.any::.any::.any::.any::.any::.any::.any::.any::.any::.any::.any::.any::.any::.any::.any::.any::.any::.any::.any::.any::[]), .obj b [SG of (trimG i l.length (l.getD i ([], false))), B (l.getD i ([], false)).2] :: .tip tk :: σ, true, []⟩) (fun _ => True) ?_ ?_
   ·
    repeat' (first | (with_reducible first | refine AW_seq ?_ | refine AW_runCond ?_) | simp only [WL, intF, WM, ne_eq, reduceCtorEq, not_false_eq_true, true_and, and_true, T226, cok219] | simp (disch := first | omega | (simp only [LN_]; omega)) only [wrap_id] | with_reducible refine cD (dBack ?_ (fun of => ?_)) | ((with_reducible first | refine grd_cases (fun h => ?_) (fun h => ?_) | refine condC_split (fun h => ?_) (fun h => ?_)) <;> (try simp only [h]) <;> (try simp only [NR_, NRb] at h)) | omega)
    ·exact ⟨of, St_leW leA (ResW.of_eq (by simp [trimG, show i + 1 < l.length by omega])) id⟩
    ·exact ⟨of, St_leW leA (ResW.of_eq (by simp [trimG, backG, show ¬ i + 1 < l.length by omega])) id⟩
   ·intro of _
    have hsk := fun h => foldG_skip (n := l.length) (i := i) (j := j) (e := e) (l := l) h rfl
    have htk := fun h => foldG_take (n := l.length) (i := i) (j := j) (e := e) (l := l) (s := if j = false ∧ e = 0 then [32] else []) h rfl
    generalize hT : trimG i l.length (l.getD i ([], false)) = T at *
    generalize hL : l.getD i ([], false) = L at *
    obtain ⟨L1, L2⟩ := L
    dsimp only at tl tg hsk htk ⊢
    generalize hS : (if j = false ∧ e = 0 then [(32 : Int)] else []) = S at *
    refine AW_seqA ?_
    refine midA (fun z : Bool => ⟨(LLA o l :: .any::.any::SI (some tk) out :: I e :: B j :: I i :: .raw (.pointer (some ⟨b, 0, none⟩)) :: .any::.any::LLA o l :: I l.length :: I i :: .any::.any::.any::.any::.any::.any::.any::.any::.any::.any::.any::.any::.any::.any::.any::.any::.any::.any::.any::.any::.any::.any::.any::.any::.any::.any::.any::.any::.any::.any::.any::.any::B z :: .any::.any::.any::.any::.any::.any::.any::.any::.any::.any::.any::.any::.any::.any::.any::.any::.any::.any::.any::.any::.any::.any::.any::.any::.any::.any::.any::.any::.any::.any::.any::.any::.any::.any::[]), .obj b [SG of T, B L2] :: .tip tk :: σ, true, []⟩) (fun z => z = true ↔ (T.length = 0 ∧ L2 = false ∧ j = false ∧ i + 1 < l.length)) ?_ ?_
    ·
     repeat' (first | with_reducible refine AW_runReg ?_ | simp only [WL, intF, WM, reduceCtorEq, WLb, Nat.reduceAdd, Nat.reduceEqDiff, Bool.not_true, true_and, reduceIte, Bool.false_eq_true, T4, T226, T227, fR fl229_0, fR fl229_1] | simp (disch := first | omega | (simp only [LN_]; omega)) only [wrap_id] | (with_reducible first | refine andA (hb := ?_) | refine y_load (hK := ?_)) | ((with_reducible first | refine grd_cases (fun h => ?_) (fun h => ?_) | refine condC_split (fun h => ?_) (fun h => ?_)) <;> (try simp only [h]) <;> (try simp only [NR_, NRb] at h)))
     all_goals exact ⟨_, St_leW leA (ResW.refl _) id, by first | exact ⟨fun h9 => ⟨by omega, by assumption, by assumption, by have := of_decide_eq_true h9; omega⟩, fun h9 => decide_eq_true (by omega)⟩ | exact ⟨fun _ => ⟨by omega, by assumption, by assumption, by omega⟩, fun _ => by first | rfl | assumption | (simp; omega)⟩ | exact ⟨fun h9 => (by cases h9), fun h9 => (by exfalso; obtain ⟨a1, a2, a3, a4⟩ := h9; first | omega | (simp_all; done))⟩⟩
    ·intro z hz
     repeat' (first | (with_reducible first | refine cut_blk (id := 2) ?_ | refine AW_runReg ?_ | refine AW_runCond ?_) | simp only [WL, intF, WM, ne_eq, reduceCtorEq, not_false_eq_true] | simp (disch := first | omega | (simp only [LN_]; omega)) only [wrap_id] | ((with_reducible first | refine grd_cases (fun h => ?_) (fun h => ?_) | refine condC_split (fun h => ?_) (fun h => ?_)) <;> (try simp only [h]) <;> (try simp only [NR_, NRb] at h)))
     ·have hz2 := hz.1 (by assumption)
      exact ⟨(i + 1, out, e + 1, j, tk), St_leW leA (ResW.sub (List.sublist_cons_self _ _)) id, ⟨by dsimp only; omega, by dsimp only; rw [h2, hsk (by omega) hz2.1 hz2.2.1 hz2.2.2.1 hz2.2.2.2], by dsimp only; omega, fun e1 => by rw [hz2.2.2.1] at e1; cases e1⟩, by dsimp only; omega⟩
     have hz2 : ¬ (T.length = 0 ∧ L2 = false ∧ j = false ∧ i + 1 < l.length) := fun e1 => by rw [hz.2 e1] at *; contradiction
     rw [htk (by omega) hz2 rfl] at h2
     have ol2 := congrArg List.length h2
     simp only [List.length_append, List.length_replicate, List.length_map] at ol2
     refine midA (fun tk : Option (Nat × Nat) => ⟨(LLA o l :: .any::.any::SI (some tk) (out ++ S) :: I e :: B j :: I i :: .raw (.pointer (some ⟨b, 0, none⟩)) :: .any::.any::LLA o l :: I l.length :: I i :: .any::.any::.any::.any::.any::.any::.any::.any::.any::.any::.any::.any::.any::.any::.any::.any::.any::.any::.any::.any::.any::.any::.any::.any::.any::.any::.any::.any::.any::.any::.any::.any::.any::.any::.any::.any::.any::.any::.any::.any::.any::.any::.any::.any::.any::.any::.any::.any::.any::.any::.any::.any::.any::.any::.any::.any::.any::.any::.any::.any::.any::.any::.any::.any::.any::.any::.any::[]), .obj b [SG of T, B L2] :: .tip tk :: σ, true, []⟩) (fun _ => True) ?_ ?_
     ·
      repeat' (first | (with_reducible first | refine AW_block ?_ | refine AW_seq ?_ | refine AW_runCond ?_) | simp only [WL, intF, WM, reduceCtorEq, WLb, Nat.reduceAdd, and_true] | (with_reducible first | refine y_app (hlen := ?_) (hmax := ?_) (hK := fun tk => ?_) | refine y_bs (hK := ?_)) | ((with_reducible first | refine grd_cases (fun h => ?_) (fun h => ?_) | refine condC_split (fun h => ?_) (fun h => ?_)) <;> (try simp only [h]) <;> (try simp only [NR_, NRb] at h)) | omega | (refine maxLen_ok ?_; (first | omega | (simp only [LN_]; omega))))
      ·obtain rfl : S = [] := by rw [← hS, if_neg (by simp [*])]
       exact ⟨tk, St_leW (by simp only [List.append_nil]; exact leA) (ResW.refl _) id⟩
      ·obtain rfl : S = [32] := by rw [← hS, if_pos ⟨by assumption, by omega⟩]
       exact ⟨tk, St_leW leA (ResW.refl _) id⟩
      ·obtain rfl : S = [] := by rw [← hS, if_neg (by omega)]
       exact ⟨tk, St_leW (by simp only [List.append_nil]; exact leA) (ResW.refl _) id⟩
     ·intro tk _
      repeat' (first | (with_reducible first | refine AW_block ?_ | refine cut_loop ?_ | refine AW_seqA (AW_seqA ?_) | refine AW_runReg ?_) | simp only [WL, WM])
      refine loopA (fun x : Nat × Option (Nat × Nat) => ⟨(LLA o l :: .any::.any::SI (some x.2) (out ++ S ++ List.replicate x.1 10) :: I e :: B j :: I i :: .raw (.pointer (some ⟨b, 0, none⟩)) :: .any::.any::LLA o l :: I l.length :: I i :: .any::.any::.any::.any::.any::.any::.any::.any::.any::.any::.any::.any::.any::.any::.any::.any::.any::.any::.any::.any::.any::.any::.any::.any::.any::.any::.any::.any::.any::.any::.any::.any::.any::.any::.any::.any::.any::.any::.any::.any::.any::.any::.any::I e :: I x.1 :: .any::.any::.any::.any::.any::.any::.any::.any::.any::.any::.any::.any::.any::.any::.any::.any::.any::.any::.any::.any::.any::.any::[]), .obj b [SG of T, B L2] :: .tip x.2 :: σ, true, []⟩) (fun x => x.1 ≤ e) (fun x => e - x.1) (0, tk) (St_leW (by simp only [List.replicate_zero, List.append_nil]; exact leA) (ResW.refl _) id) (Nat.zero_le _) ?_
      rintro ⟨m, tk⟩ h9
      dsimp only at h9 ⊢
      repeat' (first | (with_reducible first | refine AW_seqA (AW_block ?_) | refine AW_block ?_ | refine cut_loop ?_ | refine AW_seqA (AW_seqA ?_) | refine AW_seq ?_ | refine AW_runReg ?_) | simp only [WL, intF, WM, reduceCtorEq, WLb, Nat.reduceAdd, Nat.reduceEqDiff, true_and, T227, fR fl229_0] | simp (disch := first | omega | (simp only [LN_]; omega)) only [wrap_id] | (with_reducible first | refine andA (hb := ?_) | refine y_load (hK := ?_) | refine y_app (hlen := ?_) (hmax := ?_) (hK := fun tk => ?_) | refine y_bs (hK := ?_)) | ((with_reducible first | refine grd_cases (fun h => ?_) (fun h => ?_) | refine condC_split (fun h => ?_) (fun h => ?_)) <;> (try simp only [h]) <;> (try simp only [NR_, NRb] at h)) | (simp only [LN_]; omega) | (refine maxLen_ok ?_; (first | omega | (simp only [LN_]; omega))))
      ·exact ⟨(m + 1, tk), St_leW (by simp only [List.replicate_succ', ← List.append_assoc]; exact leA) (ResW.refl _) id, by dsimp only; omega, by dsimp only; omega⟩
      obtain rfl : m = e := by omega
      refine loopA (fun x : Nat × Option (Nat × Nat) => ⟨(LLA o l :: .any::.any::SI (some x.2) (out ++ S ++ List.replicate m 10 ++ (T.take x.1).map (·.1)) :: I m :: B j :: I i :: .raw (.pointer (some ⟨b, 0, none⟩)) :: .any::.any::LLA o l :: I l.length :: I i :: .any::.any::.any::.any::.any::.any::.any::.any::.any::.any::.any::.any::.any::.any::.any::.any::.any::.any::.any::.any::.any::.any::.any::.any::.any::.any::.any::.any::.any::.any::.any::.any::.any::.any::.any::.any::.any::.any::.any::.any::.any::.any::.any::.any::.any::.any::.any::.any::.any::.any::.any::SG none T :: I T.length :: I x.1 :: .any::.any::.any::.any::.any::.any::.any::.any::.any::.any::.any::.any::.any::[]), .obj b [SG of T, B L2] :: .tip x.2 :: σ, true, []⟩) (fun x => x.1 ≤ T.length) (fun x => T.length - x.1) (0, tk) (St_leW (by simp only [List.take_zero, List.map_nil, List.append_nil]; exact leA) (ResW.refl _) id) (Nat.zero_le _) ?_
      rintro ⟨k, tk⟩ h9
      dsimp only at h9 ⊢
      repeat' (first | (with_reducible first | refine AW_seqA (AW_block ?_) | refine AW_seq ?_ | refine AW_runReg ?_) | simp only [WL, intF, WM, reduceCtorEq, WLb, Nat.reduceAdd, Nat.reduceEqDiff, true_and, T3, T4, T227, T245, fR fl229_1, fR fl245_0] | simp (disch := first | omega | (simp only [LN_]; omega)) only [wrap_id, getG] | (with_reducible first | refine andA (hb := ?_) | refine y_load (hK := ?_) | refine y_storeA (hK := ?_) | refine y_new (hK := fun b => ?_) | refine y_app (hlen := ?_) (hmax := ?_) (hK := fun tk => ?_) | refine y_bs (hK := ?_)) | ((with_reducible first | refine grd_cases (fun h => ?_) (fun h => ?_) | refine condC_split (fun h => ?_) (fun h => ?_)) <;> (try simp only [h]) <;> (try simp only [NR_, NRb] at h)) | (simp only [LN_]; omega) | (refine maxLen_ok ?_; (first | omega | (simp only [LN_]; omega))))
      ·exact ⟨(k + 1, tk), St_leW (by dsimp only; rw [mapfst_take (by omega)]; exact leA) (ResW.sub (List.sublist_cons_self _ _)) id, by dsimp only; omega, by dsimp only; omega⟩
      ·exact ⟨(i + 1, out ++ S ++ List.replicate m 10 ++ T.map (·.1), 0, L2, tk), St_leW (by dsimp only; rw [List.take_of_length_le (show T.length ≤ k by omega)]; exact leA) (ResW.sub (List.sublist_cons_self _ _)) id, ⟨by dsimp only; omega, by dsimp only; rw [h2]; simp only [List.append_assoc], Nat.zero_le _, fun _ => rfl⟩, by dsimp only; omega⟩
 ·rw [List.drop_eq_nil_of_le (by omega)] at h2
  exact leafL (sub_cons sub_rfl) (leT_le (by rw [h2]; simp only [foldG, List.append_nil]; exact le_ro)) hK
theorem dReadAll {l : List (List Int)} (hl : tot l ≤ 100000000) (hK : K (.ret (.tup [SI none (readD l).1, I (readD l).2])) σ) : ACallF κ Tryz.prog 173 [SSI o l] σ K := by
 have hlen := tot_len l
 refine ACallF.dropL (ACallF_introA Tryz.func173 rfl ?_)
 simp only [Tryz.ntmps173]
 repeat' (first | (with_reducible first | refine AW_block ?_ | refine cut_loop ?_ | refine AW_seqA (AW_seqA ?_) | refine AW_seq ?_ | refine AW_runReg ?_) | simp only [WL, WM, Nat.reduceAdd, Nat.reduceSub, true_and, T191])
 refine loopA (fun x : Nat × List (List (Int × Bool) × Bool) × Option (Nat × Nat) => ⟨(SSI o l :: .any::.any::.any::LLA (some x.2.2) x.2.1 :: .any::.any::.any::.any::SSI o l :: I l.length :: I x.1 :: .any::.any::.any::.any::.any::.any::.any::.any::.any::.any::.any::.any::.any::.any::.any::.any::.any::.any::.any::.any::.any::.any::.any::.any::[]), .tip x.2.2 :: σ, true, []⟩)
  (fun x => x.1 ≤ l.length ∧ x.2.1.length = x.1 ∧ (linesD l).2 = (linesD (l.drop x.1)).2 ∧ ((linesD (l.drop x.1)).2 = 0 → (linesD l).1 = x.2.1 ++ (linesD (l.drop x.1)).1)) (fun x => l.length - x.1) (0, [], none) (St_leW leA ResW.void id) ⟨Nat.zero_le _, rfl, rfl, fun _ => rfl⟩ ?_
 rintro ⟨i, acc, tk⟩ hx
 dsimp only at hx ⊢
 have h1 := hx.1
 have h2 := hx.2.1
 have h3 := hx.2.2.1
 have h4 := hx.2.2.2
 have tg := tot_get (l := l) i
 rcases Nat.lt_or_ge i l.length with hi | hi
 ·have hla := last_at hi
  have hd := drop_getDL hi
  rw [hd] at h3 h4
  have hbad := linesD_bad (t := l.getD i []) (r := l.drop (i + 1))
  have hok := linesD_ok (t := l.getD i []) (r := l.drop (i + 1))
  rw [← hla] at hbad hok
  generalize hX : readLine ((i : Int) + 1 == (l.length : Int)) (l.getD i []) = X at *
  repeat' (first | (with_reducible first | refine AW_seqA (AW_block ?_) | refine AW_seqA (AW_seqA ?_) | refine AW_seq ?_ | refine AW_runReg ?_ | refine AW_runCond ?_ | refine AW_runRet ?_) | simp only [WL, intF, WM, reduceCtorEq, WLb, Nat.reduceAdd, Nat.reduceLT, true_and, T22, T191, cok200, cok201, Tryz.results173, hX] | simp (disch := first | omega | (simp only [LN_]; omega)) only [wrap_id, getS] | (with_reducible first | refine andA (hb := ?_) | refine y_loadA (hK := ?_) | refine y_storeA (hK := ?_) | refine y_new (hK := fun b => ?_) | refine y_app (hlen := ?_) (hmax := ?_) (hK := fun tk => ?_) | refine y_bs (hK := ?_) | refine cD (dRead ?_ ?_) | refine cD (dFolded ?_ ?_)) | ((with_reducible first | refine grd_cases (fun h => ?_) (fun h => ?_) | refine condC_split (fun h => ?_) (fun h => ?_)) <;> (try simp only [h]) <;> (try simp only [NR_, NRb] at h)) | omega | (refine maxLen_ok ?_; (first | omega | (simp only [LN_]; omega))))
  ·rw [readD_bad (h3.trans (by rw [hbad (by assumption)])) (by assumption)] at hK
   exact leafL (sub_cons (sub_cons sub_rfl)) (leT_tup (leL_two (le_nilro (by decide)) le_rfl)) hK
  ·obtain ⟨k1, k2⟩ := hok (by assumption)
   exact ⟨(i + 1, acc ++ [(X.1, X.2.1)], tk), St_leW leA (ResW.sub (List.sublist_cons_self _ _)) id, ⟨by dsimp only; omega, by simp [h2], h3.trans k1, fun h9 => by dsimp only at h9 ⊢; rw [h4 (by rw [k1]; exact h9), k2 h9]; simp⟩, by dsimp only; omega⟩
 ·rw [List.drop_eq_nil_of_le hi] at h3 h4
  have hr := readD_ok h3
  have ha := h4 rfl
  have ht := linesD_tot l
  simp only [linesD, List.append_nil] at ha
  rw [ha] at hr ht
  repeat' (first | (with_reducible first | refine AW_seqA (AW_block ?_) | refine AW_seq ?_ | refine AW_runRet ?_) | simp only [WL, intF, WM, ne_eq, reduceCtorEq, not_false_eq_true, true_and, T22, T191, cok200, cok201, Tryz.results173] | simp (disch := first | omega | (simp only [LN_]; omega)) only [wrap_id] | (with_reducible first | refine andA (hb := ?_) | refine cD (dFolded ?_ ?_)) | ((with_reducible first | refine grd_cases (fun h => ?_) (fun h => ?_) | refine condC_split (fun h => ?_) (fun h => ?_)) <;> (try simp only [h]) <;> (try simp only [NR_, NRb] at h)) | omega)
  exact leafL (sub_cons sub_rfl) (leT_eq (by rw [hr])) hK
end Go.Proofs.YthkabaiamcjdbaaGreat
