/-
  Texts JA, one behind the other.
-/
import Derived.Test.YtgoofaeifbfblaaGreatG23
set_option linter.unusedVariables false
set_option linter.unusedSimpArgs false
/-
  Walks: chapter 13's law FlowLists.
-/



namespace Go.Proofs.YtgoofaeifbfblaaGreat
open Go.Abs
set_option linter.unusedVariables false
set_option linter.unusedSimpArgs false
variable {κ : Ctx} {σ : List Res} {K : Ret → List Res → Prop} {o o' : Option (Option (Nat × Nat))}
set_option maxHeartbeats 8000000 in
set_option maxRecDepth 4000 in
theorem li_and {a : Int} : andI a 1023 = a % 1024 := andI_mod (a := a) 10 (by decide)
def gI (a : Int) : Nat := (a % 1024 % 5).toNat
set_option maxHeartbeats 8000000 in
set_option maxRecDepth 4000 in
theorem gI_lt (a : Int) : gI a < 5 := by unfold gI; omega
set_option maxHeartbeats 8000000 in
set_option maxRecDepth 4000 in
theorem li_gap (a : Int) : (if (5 : Int) = 0 then none else some (Value.int .i64 ((a % 1024).tmod 5))) = some (Value.int .i64 (gI a : Nat)) := by
  rw [if_neg (by decide), Int.tmod_eq_emod_of_nonneg (by omega)]
  unfold gI
  congr 2; omega
set_option maxHeartbeats 8000000 in
set_option maxRecDepth 4000 in
theorem li_two (n : Nat) : (if (2 : Int) = 0 then none else some (Value.int .i64 ((n : Int).tmod 2))) = some (Value.int .i64 ((n % 2 : Nat) : Int)) := by
  rw [if_neg (by decide), Int.tmod_eq_emod_of_nonneg (by omega)]
  congr 2
abbrev gapA : List AV := [.raw (.string (textI (gapT 0))), .raw (.string (textI (gapT 1))), .raw (.string (textI (gapT 2))), .raw (.string (textI (gapT 3))), .raw (.string (textI (gapT 4)))]
set_option maxHeartbeats 8000000 in
set_option maxRecDepth 4000 in
theorem getGap {k : Nat} (h : k < 5) : gapA.getD k .any = .raw (.string (textI (gapT k))) := by
  match k, h with
  | 0, _ => rfl
  | 1, _ => rfl
  | 2, _ => rfl
  | 3, _ => rfl
  | 4, _ => rfl
set_option maxHeartbeats 8000000 in
set_option maxRecDepth 4000 in
theorem li_0 : ({ data := #[] } : ByteArray) = textI (gapT 0) := by decide +kernel
set_option maxHeartbeats 8000000 in
set_option maxRecDepth 4000 in
theorem li_1 : ({ data := #[32] } : ByteArray) = textI (gapT 1) := by decide +kernel
set_option maxHeartbeats 8000000 in
set_option maxRecDepth 4000 in
theorem li_2 : ({ data := #[10, 32] } : ByteArray) = textI (gapT 2) := by decide +kernel
set_option maxHeartbeats 8000000 in
set_option maxRecDepth 4000 in
theorem li_3 : ({ data := #[32, 35, 32, 99, 10, 10, 32, 32] } : ByteArray) = textI (gapT 3) := by decide +kernel
set_option maxHeartbeats 8000000 in
set_option maxRecDepth 4000 in
theorem li_4 : ({ data := #[9] } : ByteArray) = textI (gapT 4) := by decide +kernel
set_option maxHeartbeats 8000000 in
set_option maxRecDepth 4000 in
theorem li_a : ({ data := #[91] } : ByteArray) = textI [91] := by decide +kernel
set_option maxHeartbeats 8000000 in
set_option maxRecDepth 4000 in
theorem li_b : ({ data := #[123] } : ByteArray) = textI [123] := by decide +kernel
set_option maxHeartbeats 8000000 in
set_option maxRecDepth 4000 in
theorem li_c : ({ data := #[93] } : ByteArray) = textI [93] := by decide +kernel
set_option maxHeartbeats 8000000 in
set_option maxRecDepth 4000 in
theorem li_d : ({ data := #[125] } : ByteArray) = textI [125] := by decide +kernel
set_option maxHeartbeats 8000000 in
set_option maxRecDepth 4000 in
theorem li_e : ({ data := #[58, 32] } : ByteArray) = textI [58, 32] := by decide +kernel
set_option maxHeartbeats 8000000 in
set_option maxRecDepth 4000 in
theorem li_f : ({ data := #[44] } : ByteArray) = textI [44] := by decide +kernel
set_option maxHeartbeats 8000000 in
set_option maxRecDepth 4000 in
theorem getSV {l : List ByteArray} {k : Nat} (h : k < l.length) : (l.map fun s => (.raw (.string s) : AV)).getD k .any = .raw (.string (l.getD k ByteArray.empty)) := by
  simp [List.getD_eq_getElem?_getD, h]
def wsOf (ws : List ByteArray) (gs : List Int) (i : Nat) : Ws := (List.range i).map fun j => (bytesI (ws.getD j ByteArray.empty), gI (gs.getD j 0))
set_option maxHeartbeats 8000000 in
set_option maxRecDepth 4000 in
theorem wsOf_succ (ws : List ByteArray) (gs : List Int) (i : Nat) : wsOf ws gs (i + 1) = wsOf ws gs i ++ [(bytesI (ws.getD i ByteArray.empty), gI (gs.getD i 0))] := by
  unfold wsOf
  rw [List.range_succ, List.map_append]; rfl
set_option maxHeartbeats 8000000 in
set_option maxRecDepth 4000 in
theorem wsOf_len (ws : List ByteArray) (gs : List Int) (i : Nat) : (wsOf ws gs i).length = i := by simp [wsOf]
abbrev headT (mp : Bool) : Int := if mp then 123 else 91
def textL (ws : List ByteArray) (gs : List Int) (mp tl : Bool) (i : Nat) : List Int := headT mp :: wordsT ws.length mp tl 0 (wsOf ws gs i)
def wantL (ws : List ByteArray) (gs : List Int) (mp : Bool) (i : Nat) : List EvV := openE (if mp then 5 else 3) tr0 :: (wsOf ws gs i).map (fun x => wordE x.1)
structure LiS where
  i : Nat
  tk : Option (Nat × Nat)
def GoodT (w : ByteArray) : Prop := Lets (bytesI w) ∧ 0 < w.size ∧ w.size ≤ 40
set_option maxHeartbeats 8000000 in
set_option maxRecDepth 4000 in
theorem dec_irr (a : Int) : decide (a < a) = false := decide_eq_false (Int.lt_irrefl a)
set_option maxHeartbeats 8000000 in
set_option maxRecDepth 4000 in
theorem ne_pos {w : ByteArray} (h : ¬ w.toList = (textI (gapT 0)).toList) : 0 < w.size := by
  rcases Nat.eq_zero_or_pos w.size with h1 | h1
  · have : w = ByteArray.empty := ByteArray.size_eq_zero_iff.mp h1
    subst this
    exact absurd (by decide +kernel) h
  · exact h1
set_option maxHeartbeats 8000000 in
set_option maxRecDepth 4000 in
theorem word_good {w : ByteArray} (h0 : 0 < w.size) (h1 : w.size ≤ 40) (h : ∀ j, j < w.size → 97 ≤ ((w.data.toList.getD j 0).toNat : Int) ∧ ((w.data.toList.getD j 0).toNat : Int) ≤ 122) : GoodT w := by
  refine ⟨fun c hc => ?_, h0, h1⟩
  obtain ⟨b, hb, rfl⟩ := List.mem_map.1 hc
  obtain ⟨j, hj, rfl⟩ := List.getElem_of_mem hb
  have := h j (by rw [Array.length_toList] at hj; exact hj)
  rw [List.getD_eq_getElem?_getD, List.getElem?_eq_getElem hj] at this
  exact this
set_option maxHeartbeats 8000000 in
set_option maxRecDepth 4000 in
theorem word_text {w : ByteArray} (h : GoodT w) : w = textI (bytesI w) := by
  have hA : Asc (bytesI w) := ⟨by rw [bytesI_len]; have := h.2.2; omega, fun c hc => by have := h.1 c hc; omega⟩
  have := asc_text hA
  rw [← strOfNums_bytesI w]
  conv => lhs; rw [← this]
  rw [strOfNums_bytesI (textI (bytesI w)), strOfNums_bytesI w]
set_option maxHeartbeats 8000000 in
set_option maxRecDepth 4000 in
theorem str_add4 {a b : List Int} {v : Option Value} (h : a.length + b.length ≤ 200000000) : (if (((textI a).size + (textI b).size : Nat) : Int) > IntKind.i64.max then none else v) = v := by
  have h1 := encL_len a
  have h2 := encL_len b
  rw [← bytesI_text, bytesI_len] at h1 h2
  exact str_add3 (by omega)
set_option maxHeartbeats 8000000 in
set_option maxRecDepth 4000 in
theorem textL_zero {ws : List ByteArray} {gs : List Int} {mp tl : Bool} : textL ws gs mp tl 0 = [headT mp] := rfl
set_option maxHeartbeats 8000000 in
set_option maxRecDepth 4000 in
theorem wantL_zero {ws : List ByteArray} {gs : List Int} {mp : Bool} : (wantL ws gs mp 0).map EVA = [EVA (openE (if mp then 5 else 3) tr0)] := rfl
set_option maxHeartbeats 8000000 in
set_option maxRecDepth 4000 in
theorem textL_succ {ws : List ByteArray} {gs : List Int} {mp tl : Bool} {i : Nat} : textL ws gs mp tl (i + 1) = textL ws gs mp tl i ++ gapT (gI (gs.getD i 0)) ++ bytesI (ws.getD i ByteArray.empty) ++ (if (decide (i + 1 < ws.length) || tl) = true then gapT (gI (gs.getD i 0)) ++ sepT mp i else []) := by
  unfold textL
  rw [wsOf_succ, words_snoc, wsOf_len, Nat.zero_add]
  unfold pieceT
  simp only [List.cons_append, List.append_assoc]
set_option maxHeartbeats 8000000 in
set_option maxRecDepth 4000 in
theorem textL_more {ws : List ByteArray} {gs : List Int} {mp tl : Bool} {i : Nat} (h : i + 1 < ws.length ∨ tl = true) : textL ws gs mp tl (i + 1) = textL ws gs mp tl i ++ gapT (gI (gs.getD i 0)) ++ bytesI (ws.getD i ByteArray.empty) ++ gapT (gI (gs.getD i 0)) ++ sepT mp i := by
  rw [textL_succ, if_pos (by rcases h with h | h; simp [h]; simp [h])]
  simp only [List.append_assoc]
set_option maxHeartbeats 8000000 in
set_option maxRecDepth 4000 in
theorem textL_last {ws : List ByteArray} {gs : List Int} {mp tl : Bool} {i : Nat} (h : ¬ i + 1 < ws.length) (h2 : tl = false) : textL ws gs mp tl (i + 1) = textL ws gs mp tl i ++ gapT (gI (gs.getD i 0)) ++ bytesI (ws.getD i ByteArray.empty) := by
  rw [textL_succ, if_neg (by simp [h, h2]), List.append_nil]
set_option maxHeartbeats 8000000 in
set_option maxRecDepth 4000 in
theorem sep_col {mp : Bool} {i : Nat} (h : mp = true) (h2 : ((i % 2 : Nat) : Int) = 0) : sepT mp i = [58, 32] := by
  unfold sepT
  rw [h, decide_eq_true (by omega)]; rfl
set_option maxHeartbeats 8000000 in
set_option maxRecDepth 4000 in
theorem sep_com {mp : Bool} {i : Nat} (h : mp = false ∨ ¬ ((i % 2 : Nat) : Int) = 0) : sepT mp i = [44] := by
  unfold sepT
  rcases h with h | h
  · rw [h]; rfl
  · rw [decide_eq_false (by omega)]; simp
set_option maxHeartbeats 8000000 in
set_option maxRecDepth 4000 in
theorem textL_cases {ws : List ByteArray} {gs : List Int} {mp tl : Bool} {i : Nat} :
    (decide ((i : Int) + 1 < (ws.length : Int)) = true ∧ textL ws gs mp tl (i + 1) = textL ws gs mp tl i ++ gapT (gI (gs.getD i 0)) ++ bytesI (ws.getD i ByteArray.empty) ++ gapT (gI (gs.getD i 0)) ++ sepT mp i) ∨
    (decide ((i : Int) + 1 < (ws.length : Int)) = false ∧ tl = true ∧ textL ws gs mp tl (i + 1) = textL ws gs mp tl i ++ gapT (gI (gs.getD i 0)) ++ bytesI (ws.getD i ByteArray.empty) ++ gapT (gI (gs.getD i 0)) ++ sepT mp i) ∨
    (decide ((i : Int) + 1 < (ws.length : Int)) = false ∧ tl = false ∧ textL ws gs mp tl (i + 1) = textL ws gs mp tl i ++ gapT (gI (gs.getD i 0)) ++ bytesI (ws.getD i ByteArray.empty)) := by
  rcases Nat.lt_or_ge (i + 1) ws.length with h | h
  · exact .inl ⟨decide_eq_true (by omega), textL_more (.inl h)⟩
  · have hd : decide ((i : Int) + 1 < (ws.length : Int)) = false := decide_eq_false (by omega)
    cases tl
    · exact .inr (.inr ⟨hd, rfl, textL_last (by omega) rfl⟩)
    · exact .inr (.inl ⟨hd, rfl, textL_more (.inr rfl)⟩)
set_option maxHeartbeats 8000000 in
set_option maxRecDepth 4000 in
theorem li_odd : ((1 : Int) == 0) = false := rfl
set_option maxHeartbeats 8000000 in
set_option maxRecDepth 4000 in
theorem sep_cases (mp : Bool) (i : Nat) : ((if (2 : Int) = 0 then none else some (Value.int .i64 ((i : Int).tmod 2))) = some (Value.int .i64 0) ∧ sepT mp i = if mp = true then [58, 32] else [44]) ∨ ((if (2 : Int) = 0 then none else some (Value.int .i64 ((i : Int).tmod 2))) = some (Value.int .i64 1) ∧ sepT mp i = [44]) := by
  rw [li_two]
  rcases Nat.eq_zero_or_pos (i % 2) with h | h
  · refine .inl ⟨by rw [h]; rfl, ?_⟩
    cases mp
    · exact sep_com (.inl rfl)
    · exact sep_col rfl (by omega)
  · exact .inr ⟨by rw [show i % 2 = 1 by omega]; rfl, sep_com (.inr (by omega))⟩
set_option maxHeartbeats 8000000 in
set_option maxRecDepth 4000 in
theorem wantL_succ {ws : List ByteArray} {gs : List Int} {mp : Bool} {i : Nat} : (wantL ws gs mp (i + 1)).map EVA = (wantL ws gs mp i).map EVA ++ [EVA (wordE (bytesI (ws.getD i ByteArray.empty)))] := by
  unfold wantL
  rw [wsOf_succ]
  simp only [List.map_append, List.map_cons, List.map_nil, List.cons_append]
set_option maxHeartbeats 8000000 in
set_option maxRecDepth 4000 in
theorem textL_len {ws : List ByteArray} {gs : List Int} {mp tl : Bool} {i : Nat} (h : ∀ j, j < i → GoodT (ws.getD j ByteArray.empty)) : (textL ws gs mp tl i).length ≤ 1 + 58 * i := by
  have := (words_chars (n := ws.length) (mp := mp) (tl := tl) (i := 0) (ws := wsOf ws gs i) (fun x hx => by
    obtain ⟨j, hj, rfl⟩ := List.mem_map.1 hx
    have := h j (List.mem_range.1 hj)
    exact ⟨this.1, by dsimp only; rw [bytesI_len]; exact this.2.2⟩)).2
  rw [wsOf_len] at this
  unfold textL
  rw [List.length_cons]; omega
set_option maxHeartbeats 8000000 in
set_option maxRecDepth 4000 in
theorem list_T {ws : List ByteArray} {gs : List Int} {mp tl : Bool} {g : Nat} : textL ws gs mp tl ws.length ++ gapT g ++ [if mp then 125 else 93] = listT mp tl g (wsOf ws gs ws.length) := by
  unfold textL listT
  rw [wsOf_len]
  simp only [List.cons_append, List.append_assoc]
set_option maxHeartbeats 8000000 in
set_option maxRecDepth 4000 in
theorem list_W {ws : List ByteArray} {gs : List Int} {mp : Bool} : (wantL ws gs mp ws.length).map EVA ++ [.agg [.raw (.int .i64 ((if mp = true then 5 else 3) + 1)), .raw (.string .empty), .raw (.string .empty), .raw (.string .empty), .raw (.int .i64 0), .raw (.bool false)]] = (listE mp (wsOf ws gs ws.length)).map EVA := by
  rw [show (if mp = true then (5 : Int) else 3) + 1 = if mp = true then 6 else 4 by cases mp <;> rfl]
  unfold listE wantL
  simp only [List.map_append, List.map_cons, List.map_nil, List.cons_append]
set_option maxHeartbeats 8000000 in
set_option maxRecDepth 4000 in
theorem list_El {ws : List ByteArray} {gs : List Int} {mp : Bool} : (listE mp (wsOf ws gs ws.length)).length = ws.length + 2 := by
  unfold listE
  simp only [List.length_cons, List.length_append, List.length_map, List.length_nil, wsOf_len]
set_option maxHeartbeats 8000000 in
set_option maxRecDepth 4000 in
theorem list_all {ws : List ByteArray} {gs : List Int} {mp tl : Bool} {g : Nat} (hn : ws.length ≤ 20) (hq : mp = true → (ws.length : Int) % 2 = 0) (hgd : ∀ j, j < ws.length → GoodT (ws.getD j ByteArray.empty)) :
    Asc (listT mp tl g (wsOf ws gs ws.length)) ∧ Small (readR (listT mp tl g (wsOf ws gs ws.length))).1 ∧ (0 : Int) < (readR (listT mp tl g (wsOf ws gs ws.length))).1.length ∧ ∃ e, wholeF (readR (listT mp tl g (wsOf ws gs ws.length))).1 (-1) 0 false (0, 0) = .ok (listE mp (wsOf ws gs ws.length), e, true) := by
  have hg1 : ∀ x ∈ wsOf ws gs ws.length, Lets x.1 ∧ 0 < x.1.length ∧ x.1.length ≤ 40 := fun x hx => by
    obtain ⟨j, hj, rfl⟩ := List.mem_map.1 hx
    have := hgd j (List.mem_range.1 hj)
    exact ⟨this.1, by dsimp only; rw [bytesI_len]; exact this.2.1, by dsimp only; rw [bytesI_len]; exact this.2.2⟩
  have hwl := wsOf_len ws gs ws.length
  obtain ⟨c1, c2, c3, c4⟩ := list_lines (mp := mp) (tl := tl) (gl := g) (fun x hx => ⟨(hg1 x hx).1, (hg1 x hx).2.2⟩) (by omega)
  obtain ⟨e, w1⟩ := list_whole (ls := (readR (listT mp tl g (wsOf ws gs ws.length))).1) (mp := mp) (fun x hx => ⟨(hg1 x hx).1, (hg1 x hx).2.1⟩) (fun h => by have := hq h; omega) (by omega) c3
  exact ⟨⟨by omega, fun c hc => by have := c1 c hc; omega⟩, c4, c3.1.2.1, e, w1⟩
set_option maxHeartbeats 8000000 in
set_option maxRecDepth 4000 in
theorem law_FlowLists (κ : Ctx) (ws : List ByteArray) (hws : ws.length ≤ maxLen ∧ ∀ a ∈ ws, a.size ≤ maxLen) (gs : List Int) (hgs : gs.length ≤ maxLen ∧ ∀ a ∈ gs, IntKind.i64.min ≤ a ∧ a ≤ IntKind.i64.max) (mp : Bool) (hmp : True) (tl : Bool) (htl : True) : ACallF κ Tryz.prog 5 [.sl 1 none (ws.map fun s => .raw (.string s)), .sl 1 none (gs.map fun n => I n), B mp, B tl] [] (fun r _ => r = .ret (B true)) := by
  have hw0 := hws.1
  have hg0 := hgs.1
  clear hws hgs
  have hml : maxLen = 9223372036854775807 := by decide
  rw [hml] at hw0 hg0
  by_cases hr : ws.length ≤ 20 ∧ ws.length + 2 ≤ gs.length ∧ ¬ (mp = true ∧ ws.length % 2 = 1)
  · obtain ⟨r1, r2, r3⟩ := hr
    have hq : mp = true → (ws.length : Int) % 2 = 0 := by
      intro h
      have : ¬ ws.length % 2 = 1 := fun h2 => r3 ⟨h, h2⟩
      omega
    obtain ⟨b, hb⟩ : ∃ b, mp = b := ⟨mp, rfl⟩
    cases b
    all_goals
      refine ACallF.dropL (ACallF_introA Tryz.func5 rfl ?_)
      simp only [Tryz.ntmps5]
      repeat' (first | (with_reducible first | refine AW_block ?_ | refine cut_loop ?_ | refine AW_seqA (AW_seqA ?_) | refine AW_seq ?_ | refine AW_runReg ?_ | refine AW_runCond ?_) | simp only [WL, intF, WM, reduceCtorEq, WLb, Nat.reduceAdd, Nat.reduceSub, Bool.not_true, Bool.not_false, true_and, reduceIte, Bool.false_eq_true, T38, T39, cok12, Tryz.results5, hb, li_0, li_1, li_2, li_3, li_4, li_a, li_b, li_two] | simp (disch := first | omega | (simp only [LN_]; omega)) only [wrap_id] | (with_reducible first | refine y_bso (ty := 27) (hK := fun tb => ?_) | refine y_bs (hK := ?_) | refine y_build (hK := ?_) | refine cD (lAlive ?_)) | ((with_reducible first | refine grd_cases (fun h => ?_) (fun h => ?_) | refine condC_split (fun h => ?_) (fun h => ?_)) <;> (try simp only [h]) <;> (try simp only [NR_, NRb] at h)) | omega)
      all_goals first
        | exact leafL sub_rfl (leT_eq rfl) rfl
        | (exfalso; omega)
        | skip
      refine loopA (fun x : LiS => ⟨(.sl 1 none (ws.map fun s => .raw (.string s)) :: .sl 1 none (gs.map fun n => I n) :: B mp :: B tl :: .any :: .any :: .any :: .any :: .any :: B true :: .sl 1 none gapA :: .raw (.string (textI (textL ws gs mp tl x.i))) :: I (if mp then 5 else 3) :: .sl 6 (some x.tk) ((wantL ws gs mp x.i).map EVA) :: I x.i :: .any :: .any :: .any :: .any :: .any :: .any :: .any :: .any :: .any :: .any :: .any :: .any :: .any :: .any :: .any :: .any :: .any :: .any :: .any :: .any :: .any :: .any :: .any :: .any :: .any :: .any :: .any :: .any :: .any :: .any :: .any :: .any :: .any :: .any :: .any :: .any :: .any :: .any :: .any :: .any :: .any :: .any :: .any :: .any :: .any :: .any :: .any :: .any :: .any :: .any :: .any :: .any :: .any :: .any :: .any :: .any :: .any :: .any :: .any :: .any :: .any :: .any :: .any :: .any :: .any :: .any :: .any :: .any :: .any :: .any :: .any :: .any :: .any :: .any :: .any :: .any :: .any :: .any :: .any :: .any :: .any :: .any :: .any :: .any :: .any :: .any :: .any :: .any :: .any :: .any :: .any :: .any :: .any :: .any :: .any :: .any :: .any :: .any :: .any :: .any :: .any :: .any :: .any :: .any :: .any :: .any :: .any :: .any :: .any :: .any :: .any :: .any :: .any :: .any :: .any :: .any :: .any :: .any :: .any :: .any :: .any :: .any :: .any :: .any :: .any :: .any :: .any :: .any :: .any :: .any :: .any :: .any :: .any :: .any :: .any :: .any :: .any :: .any :: .any :: .any :: .any :: .any :: .any :: .any :: .any :: .any :: .any :: .any :: .any :: .any :: .any :: .any :: .any :: .any :: .any :: .any :: .any :: .any :: .any :: .any :: .any :: .any :: .any :: .any :: .any :: .any :: .any :: []), [.tip x.tk], true, []⟩) (fun x => x.i ≤ ws.length ∧ ∀ j, j < x.i → GoodT (ws.getD j ByteArray.empty)) (fun x => ws.length - x.i) ⟨0, _⟩ (St_le_same (by dsimp only; rw [textL_zero, wantL_zero, hb]; repeat (first | exact trivial | refine ⟨le_rfl, ?_⟩ | refine ⟨le_any, ?_⟩ | refine ⟨le_ro, ?_⟩ | refine ⟨le_nil (by decide), ?_⟩ | refine ⟨le_wrap (by omega) (by omega) (by omega), ?_⟩ | refine ⟨le_int (by omega), ?_⟩ | refine ⟨le_eq (by simp), ?_⟩)) id) ⟨Nat.zero_le _, fun j h => absurd h (Nat.not_lt_zero j)⟩ ?_
      rintro ⟨i, tk⟩ ⟨hi, hgd⟩
      dsimp only at hi hgd ⊢
      have hSl := textL_len (gs := gs) (mp := mp) (tl := tl) hgd
      have hWl : ((wantL ws gs mp i).map EVA).length = i + 1 := by simp [wantL, wsOf_len]
      rcases Nat.lt_or_ge i ws.length with hin | hin
      · have hi1 : i + 1 ≤ ws.length := hin
        have hi2 : ws.length - (i + 1) < ws.length - i := by omega
        have hcase := textL_cases (ws := ws) (gs := gs) (mp := mp) (tl := tl) (i := i)
        have hsep := sep_cases mp i
        have e3 := wantL_succ (ws := ws) (gs := gs) (mp := mp) (i := i)
        have hWt := fun h => word_text (w := ws.getD i ByteArray.empty) h
        have hBl := bytesI_len (ws.getD i ByteArray.empty)
        have hGl := (gap_chars (gI (gs.getD i 0))).2
        have hgi := gI_lt (gs.getD i 0)
        generalize bytesI (ws.getD i ByteArray.empty) = BB at *
        generalize textL ws gs mp tl i = SS at *
        generalize (wantL ws gs mp i).map EVA = WW at *
        repeat' (first | (with_reducible first | refine AW_seqA (AW_block ?_) | refine AW_block ?_ | refine cut_loop ?_ | refine AW_seqA (AW_seqA ?_) | refine AW_seq ?_ | refine AW_runReg ?_ | refine AW_runCond ?_) | simp only [WL, intF, strF, WM, reduceCtorEq, WLb, Nat.reduceAdd, Bool.not_false, true_and, reduceIte, Bool.false_eq_true, T3, T9, T38, T39, Tryz.results5, hb] | simp (disch := first | omega | (simp only [LN_]; omega)) only [wrap_id, getI, getSV] | with_reducible refine andA (hb := ?_) | ((with_reducible first | refine grd_cases (fun h => ?_) (fun h => ?_) | refine condC_split (fun h => ?_) (fun h => ?_)) <;> (try simp only [h]) <;> (try simp only [NR_, NRb] at h)) | omega)
        all_goals first
          | exact leafL sub_rfl (leT_eq rfl) rfl
          | skip
        have hwp := ne_pos (by assumption)
        have hw40 : (ws.getD i ByteArray.empty).size ≤ 40 := by omega
        refine loopA (fun k : Nat => ⟨(.sl 1 none (ws.map fun s => .raw (.string s)) :: .sl 1 none (gs.map fun n => I n) :: B mp :: B tl :: .any :: .any :: .any :: .any :: .any :: B true :: .sl 1 none gapA :: .raw (.string (textI SS)) :: I (if mp then 5 else 3) :: .sl 6 (some tk) WW :: I i :: .raw (.string (ws.getD i ByteArray.empty)) :: I k :: .any :: .any :: .any :: .any :: .any :: .any :: .any :: .any :: .any :: .any :: .any :: .any :: .any :: .any :: .any :: .any :: .any :: .any :: .any :: .any :: .any :: .any :: .any :: .any :: .any :: .any :: .any :: .any :: .any :: .any :: .any :: .any :: .any :: .any :: .any :: .any :: .any :: .any :: .any :: .any :: .any :: .any :: .any :: .any :: .any :: .any :: .any :: .any :: .any :: .any :: .any :: .any :: .any :: .any :: .any :: .any :: .any :: .any :: .any :: .any :: .any :: .any :: .any :: .any :: .any :: .any :: .any :: .any :: .any :: .any :: .any :: .any :: .any :: .any :: .any :: .any :: .any :: .any :: .any :: .any :: .any :: .any :: .any :: .any :: .any :: .any :: .any :: .any :: .any :: .any :: .any :: .any :: .any :: .any :: .any :: .any :: .any :: .any :: .any :: .any :: .any :: .any :: .any :: .any :: .any :: .any :: .any :: .any :: .any :: .any :: .any :: .any :: .any :: .any :: .any :: .any :: .any :: .any :: .any :: .any :: .any :: .any :: .any :: .any :: .any :: .any :: .any :: .any :: .any :: .any :: .any :: .any :: .any :: .any :: .any :: .any :: .any :: .any :: .any :: .any :: .any :: .any :: .any :: .any :: .any :: .any :: .any :: .any :: .any :: .any :: .any :: .any :: .any :: .any :: .any :: .any :: .any :: .any :: .any :: .any :: .any :: .any :: .any :: .any :: .any :: []), [.tip tk], true, []⟩) (fun k => k ≤ (ws.getD i ByteArray.empty).size ∧ ∀ j, j < k → 97 ≤ (((ws.getD i ByteArray.empty).data.toList.getD j 0).toNat : Int) ∧ (((ws.getD i ByteArray.empty).data.toList.getD j 0).toNat : Int) ≤ 122) (fun k => (ws.getD i ByteArray.empty).size - k) 0 (St_le_same (by rw [hb]; repeat (first | exact trivial | refine ⟨le_rfl, ?_⟩ | refine ⟨le_any, ?_⟩ | refine ⟨le_ro, ?_⟩ | refine ⟨le_nil (by decide), ?_⟩ | refine ⟨le_wrap (by omega) (by omega) (by omega), ?_⟩ | refine ⟨le_int (by omega), ?_⟩ | refine ⟨le_eq (by simp), ?_⟩)) id) ⟨Nat.zero_le _, fun j h => absurd h (Nat.not_lt_zero j)⟩ ?_
        intro k hk
        obtain ⟨hk1, hk2⟩ := hk
        rcases Nat.lt_or_ge k (ws.getD i ByteArray.empty).size with hkn | hkn
        · repeat' (first | (with_reducible first | refine AW_seqA (AW_block ?_) | refine AW_seqA (AW_seqA ?_) | refine AW_seq ?_ | refine AW_runReg ?_ | refine AW_runCond ?_) | simp only [WL, intF, WM, reduceCtorEq, WLb, Nat.reduceAdd, Bool.not_true, Bool.not_false, true_and, reduceIte, Bool.false_eq_true, T3, T9, T39, Tryz.results5, hb] | simp (disch := first | omega | (simp only [LN_]; omega)) only [wrap_id, getI] | with_reducible refine andA (hb := ?_) | ((with_reducible first | refine grd_cases (fun h => ?_) (fun h => ?_) | refine condC_split (fun h => ?_) (fun h => ?_)) <;> (try simp only [h]) <;> (try simp only [NR_, NRb] at h)) | omega)
          all_goals first
            | exact leafL sub_rfl (leT_eq rfl) rfl
            | exact ⟨k + 1, St_le_same (by repeat (first | exact trivial | refine ⟨le_rfl, ?_⟩ | refine ⟨le_any, ?_⟩ | refine ⟨le_ro, ?_⟩ | refine ⟨le_nil (by decide), ?_⟩ | refine ⟨le_wrap (by omega) (by omega) (by omega), ?_⟩ | refine ⟨le_int (by omega), ?_⟩ | refine ⟨le_eq (by simp), ?_⟩)) id, ⟨by omega, fun j hj => by
                rcases Nat.lt_or_ge j k with h | h
                · exact hk2 j h
                · obtain rfl : j = k := by omega
                  exact ⟨by assumption, by assumption⟩⟩, by omega⟩
            | (exfalso; omega)
            | trace_state
        · obtain rfl : k = (ws.getD i ByteArray.empty).size := by omega
          have hGW : GoodT (ws.getD i ByteArray.empty) := word_good hwp hw40 hk2
          have hgd' : ∀ j, j < i + 1 → GoodT (ws.getD j ByteArray.empty) := fun j hj => by
            rcases Nat.lt_or_ge j i with h | h
            · exact hgd j h
            · obtain rfl : j = i := by omega
              exact hGW
          have hWt := hWt hGW
          generalize hwg : ws.getD i ByteArray.empty = WG at *
          subst hWt
          have e4 : (EVA (wordE BB)) = .agg [I 7, .raw (.string (textI BB)), .raw (.string .empty), .raw (.string .empty), I 1, B false] := rfl
          generalize hG : gapT (gI (gs.getD i 0)) = GG at *
          rw [hb] at e3
          rcases hcase with ⟨hd, eS⟩ | ⟨hd, ht, eS⟩ | ⟨hd, ht, eS⟩
          · rcases hsep with ⟨hp, eP⟩ | ⟨hp, eP⟩
            all_goals
              rw [hb] at eS eP
              try simp only [Bool.false_eq_true, if_false, if_true] at eP
              repeat' (first | (with_reducible first | refine AW_seqA (AW_seqA ?_) | refine AW_seq ?_ | refine AW_runReg ?_ | refine AW_runCond ?_) | simp only [WL, intF, strF, WM, reduceCtorEq, WLb, Nat.reduceAdd, beq_self_eq_true, true_and, reduceIte, Bool.false_eq_true, T3, T9, T38, T39, hb, hd, hp, dec_irr, hWl, textI_app, fold_and, li_and, li_gap, li_odd, li_e, li_f, hG] | simp (disch := first | omega | (simp only [LN_]; omega)) only [wrap_id, getI, getI, getGap, str_add4] | (with_reducible first | refine andA (hb := ?_) | refine y_app (hlen := ?_) (hmax := ?_) (hK := fun tk => ?_) | refine y_bs (hK := ?_) | refine y_build (hK := ?_)) | omega)
              exact ⟨⟨i + 1, tk⟩, St_le_same (by
                  dsimp only
                  rw [eS, e3, eP]
                  repeat (first | exact trivial | refine ⟨le_rfl, ?_⟩ | refine ⟨le_any, ?_⟩ | refine ⟨le_ro, ?_⟩ | refine ⟨le_nil (by decide), ?_⟩ | refine ⟨le_wrap (by omega) (by omega) (by omega), ?_⟩ | refine ⟨le_int (by omega), ?_⟩ | refine ⟨le_eq (by simp), ?_⟩)) id, ⟨hi1, hgd'⟩, hi2⟩
          · rcases hsep with ⟨hp, eP⟩ | ⟨hp, eP⟩
            all_goals
              rw [hb, ht] at eS
              rw [hb] at eP
              try simp only [Bool.false_eq_true, if_false, if_true] at eP
              repeat' (first | (with_reducible first | refine AW_seqA (AW_seqA ?_) | refine AW_seq ?_ | refine AW_runReg ?_ | refine AW_runCond ?_) | simp only [WL, intF, strF, WM, reduceCtorEq, WLb, Nat.reduceAdd, beq_self_eq_true, true_and, reduceIte, Bool.false_eq_true, T3, T9, T38, T39, hb, hd, ht, hp, dec_irr, hWl, textI_app, fold_and, li_and, li_gap, li_odd, li_e, li_f, hG] | simp (disch := first | omega | (simp only [LN_]; omega)) only [wrap_id, getI, getI, getGap, str_add4] | (with_reducible first | refine andA (hb := ?_) | refine y_app (hlen := ?_) (hmax := ?_) (hK := fun tk => ?_) | refine y_bs (hK := ?_) | refine y_build (hK := ?_)) | omega)
              exact ⟨⟨i + 1, tk⟩, St_le_same (by
                  dsimp only
                  rw [eS, e3, eP]
                  repeat (first | exact trivial | refine ⟨le_rfl, ?_⟩ | refine ⟨le_any, ?_⟩ | refine ⟨le_ro, ?_⟩ | refine ⟨le_nil (by decide), ?_⟩ | refine ⟨le_wrap (by omega) (by omega) (by omega), ?_⟩ | refine ⟨le_int (by omega), ?_⟩ | refine ⟨le_eq (by simp), ?_⟩)) id, ⟨hi1, hgd'⟩, hi2⟩
          · rcases hsep with ⟨hp, eP⟩ | ⟨hp, eP⟩
            all_goals
              rw [hb, ht] at eS
              repeat' (first | (with_reducible first | refine AW_seqA (AW_seqA ?_) | refine AW_seq ?_ | refine AW_runReg ?_ | refine AW_runCond ?_) | simp only [WL, intF, strF, WM, reduceCtorEq, WLb, Nat.reduceAdd, true_and, reduceIte, Bool.false_eq_true, T3, T9, T38, T39, hb, hd, ht, dec_irr, hWl, textI_app, fold_and, li_and, li_gap, li_e, li_f, hG] | simp (disch := first | omega | (simp only [LN_]; omega)) only [wrap_id, getI, getI, getGap, str_add4] | (with_reducible first | refine andA (hb := ?_) | refine y_app (hlen := ?_) (hmax := ?_) (hK := fun tk => ?_) | refine y_bs (hK := ?_) | refine y_build (hK := ?_)) | omega)
              exact ⟨⟨i + 1, tk⟩, St_le_same (by
                  dsimp only
                  rw [eS, e3]
                  repeat (first | exact trivial | refine ⟨le_rfl, ?_⟩ | refine ⟨le_any, ?_⟩ | refine ⟨le_ro, ?_⟩ | refine ⟨le_nil (by decide), ?_⟩ | refine ⟨le_wrap (by omega) (by omega) (by omega), ?_⟩ | refine ⟨le_int (by omega), ?_⟩ | refine ⟨le_eq (by simp), ?_⟩)) id, ⟨hi1, hgd'⟩, hi2⟩
      · obtain rfl : i = ws.length := by omega
        have hgi := gI_lt (gs.getD ws.length 0)
        obtain ⟨hA, hsm, hl0, e, w1⟩ := list_all (gs := gs) (mp := mp) (tl := tl) (g := gI (gs.getD ws.length 0)) (by omega) hq hgd
        have hT := list_T (ws := ws) (gs := gs) (mp := mp) (tl := tl) (g := gI (gs.getD ws.length 0))
        have hW := list_W (ws := ws) (gs := gs) (mp := mp)
        have hEl := list_El (ws := ws) (gs := gs) (mp := mp)
        have hAb : Asc (bytesI (textI (listT mp tl (gI (gs.getD ws.length 0)) (wsOf ws gs ws.length)))) := by rw [asc_text hA]; exact hA
        have hbt := asc_text hA
        have hGl := (gap_chars (gI (gs.getD ws.length 0))).2
        generalize listT mp tl (gI (gs.getD ws.length 0)) (wsOf ws gs ws.length) = TT at *
        generalize hLS : (readR TT).1 = LS at *
        have hs1 : LS.length ≤ 1000000000 := Nat.le_trans hsm.1 (by decide)
        have hs2 : ∀ x ∈ LS, 0 ≤ x.1 := fun x hx => (hsm.2 x hx).2.1
        have hE1 : (listE mp (wsOf ws gs ws.length)).length ≤ 1000000000 := by omega
        have hE0 : 0 < (listE mp (wsOf ws gs ws.length)).length := by omega
        generalize hG : gapT (gI (gs.getD ws.length 0)) = GG at *
        generalize textL ws gs mp tl ws.length = SS at *
        generalize (wantL ws gs mp ws.length).map EVA = WW at *
        generalize listE mp (wsOf ws gs ws.length) = LE at *
        rw [hb] at hT hW
        simp only [Bool.false_eq_true, if_false, if_true] at hT hW
        repeat' (first | (with_reducible first | refine AW_seqA (AW_seqA ?_) | refine AW_seq ?_ | refine AW_runReg ?_ | refine AW_runCond ?_ | refine AW_runRet ?_) | simp only [WL, intF, strF, WM, reduceCtorEq, WLb, Nat.reduceAdd, Nat.reduceLT, Bool.not_true, beq_self_eq_true, true_and, reduceIte, Bool.false_eq_true, T3, T9, T27, T38, T39, cok14, cok15, cok17, cok18, cok19, Tryz.results5, hb, dec_irr, hWl, textI_app, fold_and, li_and, li_gap, li_c, li_d, hG, hT, hW, hbt, hLS] | simp (disch := first | omega | (simp only [LN_]; omega)) only [wrap_id, getI, getI, getGap, str_add4] | (with_reducible first | refine andA (hb := ?_) | refine y_app (hlen := ?_) (hmax := ?_) (hK := fun tk => ?_) | refine y_bs (hK := ?_) | refine y_build (hK := ?_) | refine cD (lLines hAb ?_) | refine cD (jNew (ls := LS) hs1 hs2 (fun br => ?_)) | refine cD (jNodeRow (ls := LS) hsm (by omega) ⟨by decide, by decide⟩ (by decide) w1 ⟨by decide, hl0, by decide⟩ hE0 (fun rb rc cs ρ hrc hsub => ?_)) | refine cD (rSameRow (l := LE) hE1 ?_) | refine cD (lNum ?_)) | ((with_reducible first | refine grd_cases (fun h => ?_) (fun h => ?_) | refine condC_split (fun h => ?_) (fun h => ?_)) <;> (try simp only [h]) <;> (try simp only [NR_, NRb] at h)) | omega)
        all_goals first
          | exact leafL sub_rfl (leT_eq rfl) rfl
          | exact leafL sub_rfl (leT_eq (congrArg B (beq_iff_eq.2 (by omega)))) rfl
          | trace_state
  · skip
    cases mp
    all_goals
      refine ACallF.dropL (ACallF_introA Tryz.func5 rfl ?_)
      simp only [Tryz.ntmps5]
      repeat' (first | (with_reducible first | refine AW_block ?_ | refine cut_loop ?_ | refine AW_seqA (AW_seqA ?_) | refine AW_seq ?_ | refine AW_runReg ?_ | refine AW_runCond ?_) | simp only [WL, intF, WM, reduceCtorEq, WLb, Nat.reduceAdd, Nat.reduceSub, Bool.not_true, Bool.not_false, true_and, reduceIte, Bool.false_eq_true, T38, T39, cok12, Tryz.results5, li_two] | simp (disch := first | omega | (simp only [LN_]; omega)) only [wrap_id] | (with_reducible first | refine y_bs (hK := ?_) | refine y_build (hK := ?_) | refine cD (lAlive ?_)) | ((with_reducible first | refine grd_cases (fun h => ?_) (fun h => ?_) | refine condC_split (fun h => ?_) (fun h => ?_)) <;> (try simp only [h]) <;> (try simp only [NR_, NRb] at h)) | omega)
      all_goals first
        | exact leafL sub_rfl (leT_eq rfl) rfl
        | (exfalso; exact hr ⟨by omega, by omega, by rintro ⟨h1, h2⟩; first | (cases h1; done) | omega⟩)
        | trace_state
end Go.Proofs.YtgoofaeifbfblaaGreat
