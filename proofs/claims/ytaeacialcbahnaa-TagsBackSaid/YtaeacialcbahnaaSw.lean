/-
  Plain specifications: bytes as code points. No program in sight.
-/
import Derived.Test.YtaeacialcbahnaaSc
import Derived.Test.YtaeacialcbahnaaSm
namespace Go.Abs
set_option linter.unusedSimpArgs false
set_option linter.unusedVariables false
/-- So many bytes that go on. -/
def contGo : Nat → Int → List Int → Option Int
  | 0, c, _ => some c
  | _ + 1, _, [] => none
  | n + 1, c, y :: r => if 128 ≤ y ∧ y ≤ 191 then contGo n (c * 64 + y % 64) r else none
def ptEnd (n : Nat) (least : Int) : Option Int → Int × Nat
  | none => (0, 0)
  | some c => if c < least ∨ rightI c = false then (0, 0) else (c, n)
/-- The code point that bytes begin with, and how many there are; 0: none. -/
def pointI : List Int → Int × Nat
  | [] => (0, 0)
  | x :: r =>
    if x < 128 then (x, 1)
    else if 194 ≤ x ∧ x < 224 then ptEnd 2 128 (contGo 1 (x % 32) r)
    else if 224 ≤ x ∧ x < 240 then ptEnd 3 2048 (contGo 2 (x % 16) r)
    else if 240 ≤ x ∧ x < 245 then ptEnd 4 65536 (contGo 3 (x % 8) r)
    else (0, 0)
theorem ptEnd_yes {n : Nat} {least : Int} {o : Option Int} {c : Int} {m : Nat} (h : ptEnd n least o = (c, m)) (hm : 0 < m) : o = some c ∧ least ≤ c ∧ rightI c = true ∧ m = n := by
  unfold ptEnd at h
  cases o with
  | none => simp only [Prod.mk.injEq] at h; omega
  | some d =>
    simp only at h
    split at h
    · simp only [Prod.mk.injEq] at h; omega
    · rename_i hn
      simp only [Prod.mk.injEq] at h
      obtain ⟨rfl, rfl⟩ := h
      refine ⟨rfl, by omega, ?_, rfl⟩
      cases hr : rightI d
      · exact absurd (.inr hr) hn
      · rfl
theorem pointI_n (b : List Int) : (pointI b).2 ≤ 4 := by
  have he : ∀ n least o, n ≤ 4 → (ptEnd n least o).2 ≤ 4 := by
    intro n least o h
    unfold ptEnd
    cases o with
    | none => simp
    | some c => simp only; split <;> simp <;> omega
  cases b with
  | nil => simp [pointI]
  | cons x r =>
    simp only [pointI]
    (repeat' split) <;> first | exact he _ _ _ (by decide) | (simp; done) | decide
/-- What is read of bytes is what they are written for. -/
theorem point_enc {b : List Int} (hb : ∀ x ∈ b, 0 ≤ x ∧ x ≤ 255) {c : Int} {n : Nat} (h : pointI b = (c, n)) (hn : 0 < n) : n ≤ b.length ∧ encC c = b.take n ∧ rightI c = true := by
  cases b with
  | nil => simp only [pointI, Prod.mk.injEq] at h; omega
  | cons x r =>
    have hx := hb x (by simp)
    simp only [pointI] at h
    split at h
    · rename_i h1
      simp only [Prod.mk.injEq] at h
      obtain ⟨rfl, rfl⟩ := h
      exact ⟨by simp, by rw [encC_ascii hx.1 h1]; rfl, right_yes hx.1 (by omega) (by omega)⟩
    split at h
    · rename_i h0 h1
      obtain ⟨h2, h3, h4, rfl⟩ := ptEnd_yes h hn
      match r, hb, h2 with
      | y :: r, hb, h2 =>
        simp only [contGo] at h2
        split at h2
        · rename_i hy
          simp only [Option.some.injEq] at h2
          subst h2
          refine ⟨by simp, ?_, h4⟩
          unfold encC
          rw [fix_id h4]
          unfold encR
          rw [if_neg (by omega), if_pos (by omega)]
          simp only [List.take_succ_cons, List.take_zero, List.cons.injEq, and_true]
          omega
        · cases h2
    split at h
    · rename_i h00 h0 h1
      obtain ⟨h2, h3, h4, rfl⟩ := ptEnd_yes h hn
      match r, hb, h2 with
      | y :: z :: r, hb, h2 =>
        simp only [contGo] at h2
        split at h2
        · split at h2
          · rename_i hy hz
            simp only [Option.some.injEq] at h2
            subst h2
            refine ⟨by simp, ?_, h4⟩
            unfold encC
            rw [fix_id h4]
            unfold encR
            rw [if_neg (by omega), if_neg (by omega), if_pos (by omega)]
            simp only [List.take_succ_cons, List.take_zero, List.cons.injEq, and_true]
            omega
          · cases h2
        · cases h2
      | [y], hb, h2 => simp only [contGo] at h2; split at h2 <;> cases h2
    split at h
    · rename_i h000 h00 h0 h1
      obtain ⟨h2, h3, h4, rfl⟩ := ptEnd_yes h hn
      match r, hb, h2 with
      | y :: z :: u :: r, hb, h2 =>
        simp only [contGo] at h2
        split at h2
        · split at h2
          · split at h2
            · rename_i hy hz hu
              simp only [Option.some.injEq] at h2
              subst h2
              have h5 := rightI_iff.1 h4
              refine ⟨by simp, ?_, h4⟩
              unfold encC
              rw [fix_id h4]
              unfold encR
              rw [if_neg (by omega), if_neg (by omega), if_neg (by omega)]
              simp only [List.take_succ_cons, List.take_zero, List.cons.injEq, and_true]
              omega
            · cases h2
          · cases h2
        · cases h2
      | [y, z], hb, h2 => simp only [contGo] at h2; (repeat' split at h2) <;> cases h2
      | [y], hb, h2 => simp only [contGo] at h2; split at h2 <;> cases h2
    · simp only [Prod.mk.injEq] at h; omega
/-- All code points; none: bytes are wrong. -/
def smallGo : Nat → List Int → List Int → Option (List Int)
  | _, acc, [] => some acc
  | 0, _, _ => none
  | f + 1, acc, x :: r => if (pointI (x :: r)).2 = 0 then none else smallGo f (acc ++ [(pointI (x :: r)).1]) ((x :: r).drop (pointI (x :: r)).2)
def smallI (l : List Int) : Option (List Int) := smallGo l.length [] l
theorem smallGo_fuel : ∀ (f f' : Nat) (acc l : List Int), l.length ≤ f → l.length ≤ f' → smallGo f acc l = smallGo f' acc l
  | 0, 0, _, _, _, _ => rfl
  | 0, f' + 1, acc, l, h, _ => by
    obtain rfl := List.eq_nil_of_length_eq_zero (by omega : l.length = 0)
    rfl
  | f + 1, 0, acc, l, _, h => by
    obtain rfl := List.eq_nil_of_length_eq_zero (by omega : l.length = 0)
    rfl
  | f + 1, f' + 1, acc, [], _, _ => rfl
  | f + 1, f' + 1, acc, x :: r, h, h' => by
    simp only [List.length_cons] at h h'
    simp only [smallGo]
    split
    · rfl
    · rename_i hn
      exact smallGo_fuel f f' _ _ (by simp only [List.length_drop, List.length_cons]; omega) (by simp only [List.length_drop, List.length_cons]; omega)
theorem smallGo_enc : ∀ (f : Nat) (acc l m : List Int), (∀ x ∈ l, 0 ≤ x ∧ x ≤ 255) → smallGo f acc l = some m → ∃ d, m = acc ++ d ∧ encL d = l ∧ ∀ c ∈ d, rightI c = true
  | _, acc, [], m, _, h => by
    have : some acc = some m := by cases ‹Nat› <;> simpa [smallGo] using h
    exact ⟨[], by simpa using (Option.some.inj this).symm, rfl, by simp⟩
  | 0, acc, x :: r, m, _, h => by simp [smallGo] at h
  | f + 1, acc, x :: r, m, hb, h => by
    simp only [smallGo] at h
    split at h
    · cases h
    · rename_i hn
      obtain ⟨h1, h2, h3⟩ := point_enc hb (c := (pointI (x :: r)).1) (n := (pointI (x :: r)).2) rfl (by omega)
      obtain ⟨d, hd, he, hr⟩ := smallGo_enc f _ _ m (fun y hy => hb y (List.mem_of_mem_drop hy)) h
      refine ⟨(pointI (x :: r)).1 :: d, by rw [hd]; simp, ?_, fun c hc => ?_⟩
      · have : encL ((pointI (x :: r)).1 :: d) = encC (pointI (x :: r)).1 ++ encL d := by simp [encL]
        rw [this, h2, he, List.take_append_drop]
      · rcases List.mem_cons.1 hc with rfl | hc
        · exact h3
        · exact hr c hc
theorem smallI_enc {l m : List Int} (hb : ∀ x ∈ l, 0 ≤ x ∧ x ≤ 255) (h : smallI l = some m) : encL m = l ∧ ∀ c ∈ m, rightI c = true := by
  obtain ⟨d, hd, he, hr⟩ := smallGo_enc _ _ _ _ hb h
  rw [List.nil_append] at hd
  subst hd
  exact ⟨he, hr⟩
theorem smallGo_ascii : ∀ (f : Nat) (acc l : List Int), l.length ≤ f → (∀ x ∈ l, 0 ≤ x ∧ x < 128) → smallGo f acc l = some (acc ++ l)
  | f, acc, [], _, _ => by cases f <;> simp [smallGo]
  | 0, acc, x :: r, h, _ => by simp at h
  | f + 1, acc, x :: r, h, ha => by
    have hx := ha x (by simp)
    have hp : pointI (x :: r) = (x, 1) := by simp only [pointI]; rw [if_pos hx.2]
    simp only [smallGo, hp]
    rw [if_neg (by decide), List.drop_succ_cons, List.drop_zero, smallGo_ascii f _ r (by simpa using h) (fun y hy => ha y (by simp [hy]))]
    simp
theorem smallI_ascii {l : List Int} (h : ∀ x ∈ l, 0 ≤ x ∧ x < 128) : smallI l = some l := by
  unfold smallI
  rw [smallGo_ascii _ _ _ (Nat.le_refl _) h]; rfl
end Go.Abs
