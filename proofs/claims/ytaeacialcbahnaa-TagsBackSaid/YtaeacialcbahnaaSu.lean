/-
  Plain specifications: code points as bytes. No program in sight.
-/
import Derived.Test.YtaeacialcbahnaaS
import Derived.Test.YtaeacialcbahnaaSb
import Derived.Test.YtaeacialcbahnaaMx
namespace Go.Abs
set_option linter.unusedSimpArgs false
def rightI (c : Int) : Bool := decide (0 ≤ c ∧ c ≤ 1114111 ∧ (c < 55296 ∨ 57343 < c))
/-- The bytes of a code point. -/
def encR (c : Int) : List Int :=
  if c < 128 then [c] else if c < 2048 then [192 + c / 64, 128 + c % 64] else if c < 65536 then [224 + c / 4096, 128 + c / 64 % 64, 128 + c % 64] else [240 + c / 262144, 128 + c / 4096 % 64, 128 + c / 64 % 64, 128 + c % 64]
def fixI (c : Int) : Int := if rightI c then c else 65533
def encC (c : Int) : List Int := encR (fixI c)
def encL (l : List Int) : List Int := l.flatMap encC
/-- Code points as a text. -/
def textI (l : List Int) : ByteArray := strOfNums (encL l)
theorem right_yes {c : Int} (h : 0 ≤ c) (h1 : c ≤ 1114111) (h2 : c < 55296 ∨ 57343 < c) : rightI c = true := decide_eq_true ⟨h, h1, h2⟩
theorem rightI_iff {c : Int} : rightI c = true ↔ 0 ≤ c ∧ c ≤ 1114111 ∧ (c < 55296 ∨ 57343 < c) := by unfold rightI; exact decide_eq_true_iff
theorem rightI_not {c : Int} : rightI c = false ↔ ¬ (0 ≤ c ∧ c ≤ 1114111 ∧ (c < 55296 ∨ 57343 < c)) := by unfold rightI; exact decide_eq_false_iff_not
theorem fix_right (c : Int) : 0 ≤ fixI c ∧ fixI c ≤ 1114111 ∧ (fixI c < 55296 ∨ 57343 < fixI c) := by
  unfold fixI
  split
  · rename_i h; exact rightI_iff.1 h
  · omega
theorem fix_id {c : Int} (h : rightI c = true) : fixI c = c := by unfold fixI; rw [if_pos h]
theorem fix_no {c : Int} (h : rightI c = false) : fixI c = 65533 := by unfold fixI; rw [if_neg (by rw [h]; decide)]
theorem encR_len (c : Int) : 1 ≤ (encR c).length ∧ (encR c).length ≤ 4 := by unfold encR; (repeat' split) <;> simp
theorem encC_len (c : Int) : 1 ≤ (encC c).length ∧ (encC c).length ≤ 4 := encR_len _
theorem encL_len (l : List Int) : (encL l).length ≤ 4 * l.length := by
  induction l with
  | nil => simp [encL]
  | cons c r ih =>
    have := encC_len c
    simp only [encL, List.flatMap_cons, List.length_append, List.length_cons] at *
    omega
theorem encL_app (a b : List Int) : encL (a ++ b) = encL a ++ encL b := by simp [encL]
theorem encL_one (c : Int) : encL [c] = encC c := by simp [encL]
theorem encL_take {l : List Int} {k : Nat} (h : k < l.length) : encL (l.take (k + 1)) = encL (l.take k) ++ encC (l.getD k 0) := by
  rw [List.take_succ_eq_append_getElem h, encL_app, encL_one]
  simp [List.getD_eq_getElem?_getD, h]
theorem encC_byte (c : Int) : ∀ x ∈ encC c, 0 ≤ x ∧ x ≤ 255 := by
  have h := fix_right c
  unfold encC encR
  generalize fixI c = d at *
  intro x hx
  (repeat' split at hx) <;> simp only [List.mem_cons, List.not_mem_nil, or_false] at hx <;> omega
theorem encL_byte (l : List Int) : ∀ x ∈ encL l, 0 ≤ x ∧ x ≤ 255 := by
  intro x hx
  obtain ⟨c, _, h⟩ := List.mem_flatMap.1 hx
  exact encC_byte c x h
theorem textI_app (a b : List Int) : textI a ++ textI b = textI (a ++ b) := by unfold textI; rw [strOfNums_app, encL_app]
theorem textI_nil : textI [] = ByteArray.empty := rfl
theorem bytesI_text (l : List Int) : bytesI (textI l) = encL l := bytesI_strOfNums (encL_byte l)
theorem encC_ascii {c : Int} (h : 0 ≤ c) (h2 : c < 128) : encC c = [c] := by
  unfold encC; rw [fix_id (right_yes h (by omega) (by omega))]; unfold encR; rw [if_pos h2]
theorem encL_ascii {l : List Int} (h : ∀ c ∈ l, 0 ≤ c ∧ c < 128) : encL l = l := by
  induction l with
  | nil => rfl
  | cons c r ih =>
    have := h c (by simp)
    simp only [encL, List.flatMap_cons]
    rw [encC_ascii this.1 this.2]
    have := ih (fun x hx => h x (by simp [hx]))
    simp only [encL] at this
    rw [this]; rfl
/-! ### Bits -/
theorem natOr {m b : Nat} (hm : m < 256) (hb : b < 256) : IntKind.i64.wrap ((BitVec.ofInt 64 (m : Int) ||| BitVec.ofInt 64 (b : Int)).toNat : Nat) = ((m ||| b : Nat) : Int) := by
  have e : ∀ n : Nat, n < 256 → (BitVec.ofInt 64 (n : Int)).toNat = n := fun n hn => by
    rw [BitVec.toNat_ofInt]
    have : ((n : Int) % ((2 ^ 64 : Nat) : Int)).toNat = n := by omega
    exact this
  rw [BitVec.toNat_or, e m hm, e b hb]
  have : m ||| b < 2 ^ 8 := Nat.or_lt_two_pow hm hb
  exact wrap_id (by omega) (by omega)
theorem orI_nat {m b : Nat} (hm : m < 256) (hb : b < 256) : orI m b = ((m ||| b : Nat) : Int) := natOr hm hb
theorem or128 {b : Int} (h : 0 ≤ b) (h2 : b < 64) : orI 128 b = 128 + b := by
  obtain ⟨n, rfl⟩ := Int.eq_ofNat_of_zero_le h
  have := orI_nat (m := 128) (b := n) (by decide) (by omega)
  have h3 : ∀ n : Fin 64, 128 ||| n.1 = 128 + n.1 := by decide
  have h4 := h3 ⟨n, by omega⟩
  simp only at h4
  rw [h4] at this
  have e : ((128 : Nat) : Int) = 128 := rfl
  rw [e] at this
  rw [this]; omega
theorem or192 {b : Int} (h : 0 ≤ b) (h2 : b < 64) : orI 192 b = 192 + b := by
  obtain ⟨n, rfl⟩ := Int.eq_ofNat_of_zero_le h
  have := orI_nat (m := 192) (b := n) (by decide) (by omega)
  have h3 : ∀ n : Fin 64, 192 ||| n.1 = 192 + n.1 := by decide
  have h4 := h3 ⟨n, by omega⟩
  simp only at h4
  rw [h4] at this
  have e : ((192 : Nat) : Int) = 192 := rfl
  rw [e] at this
  rw [this]; omega
theorem or224 {b : Int} (h : 0 ≤ b) (h2 : b < 32) : orI 224 b = 224 + b := by
  obtain ⟨n, rfl⟩ := Int.eq_ofNat_of_zero_le h
  have := orI_nat (m := 224) (b := n) (by decide) (by omega)
  have h3 : ∀ n : Fin 32, 224 ||| n.1 = 224 + n.1 := by decide
  have h4 := h3 ⟨n, by omega⟩
  simp only at h4
  rw [h4] at this
  have e : ((224 : Nat) : Int) = 224 := rfl
  rw [e] at this
  rw [this]; omega
theorem or240 {b : Int} (h : 0 ≤ b) (h2 : b < 16) : orI 240 b = 240 + b := by
  obtain ⟨n, rfl⟩ := Int.eq_ofNat_of_zero_le h
  have := orI_nat (m := 240) (b := n) (by decide) (by omega)
  have h3 : ∀ n : Fin 16, 240 ||| n.1 = 240 + n.1 := by decide
  have h4 := h3 ⟨n, by omega⟩
  simp only at h4
  rw [h4] at this
  have e : ((240 : Nat) : Int) = 240 := rfl
  rw [e] at this
  rw [this]; omega
theorem wrapu8 {n : Int} (h : 0 ≤ n) (h2 : n ≤ 255) : IntKind.u8.wrap n = n := by
  show n % (2 ^ 8 : Int) = n
  omega
theorem wrapu32 {n : Int} (h : 0 ≤ n) (h2 : n ≤ 4294967295) : IntKind.u32.wrap n = n := by
  show n % (2 ^ 32 : Int) = n
  omega
theorem wrapi32 {n : Int} (h : 0 ≤ n) (h2 : n ≤ 2147483647) : IntKind.i32.wrap n = n := by
  rw [IntKind.wrap_i32]; omega
theorem shr_i32 {a b : Int} (h : 0 ≤ b) (h2 : b < 32) : shF .shr .i32 a b = some (.int .i32 (a / 2 ^ b.toNat)) := by
  have e : min b.toNat IntKind.i32.bits = b.toNat := by show min b.toNat 32 = _; omega
  simp only [shF, e]
  rw [if_neg (by omega), Int.fdiv_eq_ediv_of_nonneg _ (Int.pow_nonneg (by decide))]
def or8 (a b : Int) : Int := IntKind.u8.wrap ((BitVec.ofInt 8 a ||| BitVec.ofInt 8 b).toNat : Nat)
def and8 (a b : Int) : Int := IntKind.u8.wrap ((BitVec.ofInt 8 a &&& BitVec.ofInt 8 b).toNat : Nat)
theorem fold_or8 {a b : Int} : IntKind.u8.wrap ((BitVec.ofInt IntKind.u8.bits a ||| BitVec.ofInt IntKind.u8.bits b).toNat : Nat) = or8 a b := rfl
theorem fold_and8 {a b : Int} : IntKind.u8.wrap ((BitVec.ofInt IntKind.u8.bits a &&& BitVec.ofInt IntKind.u8.bits b).toNat : Nat) = and8 a b := rfl
theorem or8_nat {m b : Nat} (hm : m < 256) (hb : b < 256) : or8 m b = ((m ||| b : Nat) : Int) := by
  unfold or8
  have e : ∀ n : Nat, n < 256 → (BitVec.ofInt 8 (n : Int)).toNat = n := fun n hn => by
    rw [BitVec.toNat_ofInt]
    have : ((n : Int) % ((2 ^ 8 : Nat) : Int)).toNat = n := by omega
    exact this
  rw [BitVec.toNat_or, e m hm, e b hb]
  have : m ||| b < 2 ^ 8 := Nat.or_lt_two_pow hm hb
  exact wrapu8 (by omega) (by omega)
theorem or8_128 {b : Int} (h : 0 ≤ b) (h2 : b < 64) : or8 128 b = 128 + b := by
  obtain ⟨n, rfl⟩ := Int.eq_ofNat_of_zero_le h
  have h5 := orI_nat (m := 128) (b := n) (by decide) (by omega)
  have h6 := or8_nat (m := 128) (b := n) (by decide) (by omega)
  exact (h6.trans h5.symm).trans (or128 h h2)
theorem or8_192 {b : Int} (h : 0 ≤ b) (h2 : b < 64) : or8 192 b = 192 + b := by
  obtain ⟨n, rfl⟩ := Int.eq_ofNat_of_zero_le h
  have h5 := orI_nat (m := 192) (b := n) (by decide) (by omega)
  have h6 := or8_nat (m := 192) (b := n) (by decide) (by omega)
  exact (h6.trans h5.symm).trans (or192 h h2)
theorem or8_224 {b : Int} (h : 0 ≤ b) (h2 : b < 32) : or8 224 b = 224 + b := by
  obtain ⟨n, rfl⟩ := Int.eq_ofNat_of_zero_le h
  have h5 := orI_nat (m := 224) (b := n) (by decide) (by omega)
  have h6 := or8_nat (m := 224) (b := n) (by decide) (by omega)
  exact (h6.trans h5.symm).trans (or224 h h2)
theorem or8_240 {b : Int} (h : 0 ≤ b) (h2 : b < 16) : or8 240 b = 240 + b := by
  obtain ⟨n, rfl⟩ := Int.eq_ofNat_of_zero_le h
  have h5 := orI_nat (m := 240) (b := n) (by decide) (by omega)
  have h6 := or8_nat (m := 240) (b := n) (by decide) (by omega)
  exact (h6.trans h5.symm).trans (or240 h h2)
theorem and8_63 {a : Int} : and8 (IntKind.u8.wrap a) 63 = a % 64 := by
  unfold and8
  have e1 : (BitVec.ofInt 8 (IntKind.u8.wrap a)).toNat = (a % 256).toNat := by
    show (BitVec.ofInt 8 (a % (2 ^ 8 : Int))).toNat = _
    rw [BitVec.toNat_ofInt]
    have : ((a % (2 ^ 8 : Int)) % ((2 ^ 8 : Nat) : Int)).toNat = (a % 256).toNat := by omega
    exact this
  have e2 : (BitVec.ofInt 8 (63 : Int)).toNat = 2 ^ 6 - 1 := rfl
  rw [BitVec.toNat_and, e1, e2, Nat.and_two_pow_sub_one_eq_mod]
  rw [wrapu8 (by omega) (by omega)]
  omega
end Go.Abs
