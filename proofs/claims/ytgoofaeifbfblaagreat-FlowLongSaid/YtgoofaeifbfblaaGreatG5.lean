/-
  Texts Sb, Su, Sc, My, Mz, T, Ch, Ck, L, Sg, one behind the other.
-/
import Derived.Test.YtgoofaeifbfblaaGreatG4
import Derived.Test.YtgoofaeifbfblaaGreatRows
set_option linter.unusedVariables false
set_option linter.unusedSimpArgs false
/-
  Numbers, bit by bit. No program in sight.
-/

namespace Go.Abs
def andI (a b : Int) : Int := IntKind.i64.wrap ((BitVec.ofInt 64 a &&& BitVec.ofInt 64 b).toNat : Nat)
def orI (a b : Int) : Int := IntKind.i64.wrap ((BitVec.ofInt 64 a ||| BitVec.ofInt 64 b).toNat : Nat)
theorem fold_and {a b : Int} : IntKind.i64.wrap ((BitVec.ofInt IntKind.i64.bits a &&& BitVec.ofInt IntKind.i64.bits b).toNat : Nat) = andI a b := rfl
theorem andI_le {a : Int} {m : Nat} (hm : m < 9223372036854775808) : 0 ≤ andI a m ∧ andI a m ≤ m := by
  unfold andI
  have h1 : (BitVec.ofInt 64 a &&& BitVec.ofInt 64 (m : Int)).toNat ≤ m := by
    rw [BitVec.toNat_and]
    refine Nat.le_trans Nat.and_le_right ?_
    have : (BitVec.ofInt 64 (m : Int)).toNat = m := by
      rw [BitVec.toNat_ofInt]
      have : ((m : Int) % ((2 ^ 64 : Nat) : Int)).toNat = m := by omega
      exact this
    omega
  rw [wrap_id (by omega) (by omega)]
  omega
/-- The low bits: a rest. -/
theorem andI_mod {a : Int} (k : Nat) (hk : k < 63) : andI a ((2 ^ k - 1 : Nat) : Int) = a % (2 ^ k : Nat) := by
  have hp : 2 ^ k < 9223372036854775808 := by
    have := Nat.pow_lt_pow_right (a := 2) (by decide) hk
    simpa using this
  have hb := andI_le (a := a) (m := 2 ^ k - 1) (by omega)
  unfold andI at *
  have h0 : (BitVec.ofInt 64 ((2 ^ k - 1 : Nat) : Int)).toNat = 2 ^ k - 1 := by
    rw [BitVec.toNat_ofInt]
    have h2 : 2 ^ k - 1 < 2 ^ 64 := by omega
    have : (((2 ^ k - 1 : Nat) : Int) % ((2 ^ 64 : Nat) : Int)).toNat = 2 ^ k - 1 := by omega
    exact this
  have h1 : (BitVec.ofInt 64 a &&& BitVec.ofInt 64 ((2 ^ k - 1 : Nat) : Int)).toNat = (a % ((2 ^ 64 : Nat) : Int)).toNat % 2 ^ k := by
    rw [BitVec.toNat_and, h0, BitVec.toNat_ofInt, Nat.and_two_pow_sub_one_eq_mod]
  rw [h1]
  have h3 : (a % ((2 ^ 64 : Nat) : Int)).toNat % 2 ^ k < 2 ^ k := Nat.mod_lt _ (by omega)
  rw [wrap_id (by omega) (by omega)]
  have h4 : (((a % ((2 ^ 64 : Nat) : Int)).toNat % 2 ^ k : Nat) : Int) = (a % ((2 ^ 64 : Nat) : Int)) % ((2 ^ k : Nat) : Int) := by
    rw [Int.natCast_emod, Int.toNat_of_nonneg (by omega)]
  rw [h4]
  refine Int.emod_emod_of_dvd a ?_
  refine Int.natCast_dvd_natCast.2 (Nat.pow_dvd_pow 2 (by omega))
theorem and3 {a : Int} : andI a 3 = a % 4 := andI_mod (a := a) 2 (by decide)
theorem shr_u {a b : Int} (h : 0 ≤ b) (h2 : b < 64) : shF .shr .u64 a b = some (.int .u64 (a / 2 ^ b.toNat)) := by
  have e : min b.toNat IntKind.u64.bits = b.toNat := by show min b.toNat 64 = _; omega
  simp only [shF, e]
  rw [if_neg (by omega), Int.fdiv_eq_ediv_of_nonneg _ (Int.pow_nonneg (by decide))]
theorem wrapu_id {n : Int} (h : 0 ≤ n) (h2 : n ≤ 18446744073709551615) : IntKind.u64.wrap n = n := by
  show n % (2 ^ 64 : Int) = n
  omega
def andU (a b : Int) : Int := IntKind.u64.wrap ((BitVec.ofInt 64 a &&& BitVec.ofInt 64 b).toNat : Nat)
theorem fold_andu {a b : Int} : IntKind.u64.wrap ((BitVec.ofInt IntKind.u64.bits a &&& BitVec.ofInt IntKind.u64.bits b).toNat : Nat) = andU a b := rfl
theorem andu32 {a : Int} (h : 0 ≤ a) (h2 : a ≤ 4294967295) : andU a 4294967295 = a := by
  obtain ⟨n, rfl⟩ := Int.eq_ofNat_of_zero_le h
  unfold andU
  have e1 : (BitVec.ofInt 64 (n : Int)).toNat = n := by
    rw [BitVec.toNat_ofInt]
    have : ((n : Int) % ((2 ^ 64 : Nat) : Int)).toNat = n := by omega
    exact this
  have e2 : (BitVec.ofInt 64 (4294967295 : Int)).toNat = 2 ^ 32 - 1 := rfl
  have e : (BitVec.ofInt 64 (n : Int) &&& BitVec.ofInt 64 (4294967295 : Int)).toNat = n := by
    rw [BitVec.toNat_and, e1, e2, Nat.and_two_pow_sub_one_eq_mod]
    omega
  rw [e]
  exact wrapu_id (by omega) (by omega)
theorem ediv0 {a b : Int} (h : 0 ≤ a) (h2 : a < b) : a / b = 0 := Int.ediv_eq_zero_of_lt h h2
end Go.Abs
/-
  Plain specifications: code points as bytes. No program in sight.
-/



namespace Go.Abs
set_option linter.unusedSimpArgs false
def rightI (c : Int) : Bool := decide (0 ≤ c ∧ c ≤ 1114111 ∧ (c < 55296 ∨ 57343 < c))
/-- The bytes of a code point. -/
def encR (c : Int) : List Int :=
  if c < 128 then [c] else if c < 2048 then [192 + c / 64, 128 + c % 64] else if c < 65536 then [224 + c / 4096, 128 + c / 64 % 64, 128 + c % 64] else [240 + c / 262144, 128 + c / 4096 % 64, 128 + c / 64 % 64, 128 + c % 64]
def fixI (c : Int) : Int := if rightI c then c else 65533
def encC (c : Int) : List Int := encR (fixI c)
def encL (l : List Int) : List Int := l.flatMap encC
/-- Code points as a text. -/
def textI (l : List Int) : ByteArray := strOfNums (encL l)
theorem right_yes {c : Int} (h : 0 ≤ c) (h1 : c ≤ 1114111) (h2 : c < 55296 ∨ 57343 < c) : rightI c = true := decide_eq_true ⟨h, h1, h2⟩
theorem rightI_iff {c : Int} : rightI c = true ↔ 0 ≤ c ∧ c ≤ 1114111 ∧ (c < 55296 ∨ 57343 < c) := by unfold rightI; exact decide_eq_true_iff
theorem fix_right (c : Int) : 0 ≤ fixI c ∧ fixI c ≤ 1114111 ∧ (fixI c < 55296 ∨ 57343 < fixI c) := by
  unfold fixI
  split
  · rename_i h; exact rightI_iff.1 h
  · omega
theorem fix_id {c : Int} (h : rightI c = true) : fixI c = c := by unfold fixI; rw [if_pos h]
theorem fix_no {c : Int} (h : rightI c = false) : fixI c = 65533 := by unfold fixI; rw [if_neg (by rw [h]; decide)]
theorem encR_len (c : Int) : 1 ≤ (encR c).length ∧ (encR c).length ≤ 4 := by unfold encR; (repeat' split) <;> simp
theorem encC_len (c : Int) : 1 ≤ (encC c).length ∧ (encC c).length ≤ 4 := encR_len _
theorem encL_len (l : List Int) : (encL l).length ≤ 4 * l.length := by
  induction l with
  | nil => simp [encL]
  | cons c r ih =>
    have := encC_len c
    simp only [encL, List.flatMap_cons, List.length_append, List.length_cons] at *
    omega
theorem encL_app (a b : List Int) : encL (a ++ b) = encL a ++ encL b := by simp [encL]
theorem encL_one (c : Int) : encL [c] = encC c := by simp [encL]
theorem encL_take {l : List Int} {k : Nat} (h : k < l.length) : encL (l.take (k + 1)) = encL (l.take k) ++ encC (l.getD k 0) := by
  rw [List.take_succ_eq_append_getElem h, encL_app, encL_one]
  simp [List.getD_eq_getElem?_getD, h]
theorem encC_byte (c : Int) : ∀ x ∈ encC c, 0 ≤ x ∧ x ≤ 255 := by
  have h := fix_right c
  unfold encC encR
  generalize fixI c = d at *
  intro x hx
  (repeat' split at hx) <;> simp only [List.mem_cons, List.not_mem_nil, or_false] at hx <;> omega
theorem encL_byte (l : List Int) : ∀ x ∈ encL l, 0 ≤ x ∧ x ≤ 255 := by
  intro x hx
  obtain ⟨c, _, h⟩ := List.mem_flatMap.1 hx
  exact encC_byte c x h
theorem textI_app (a b : List Int) : textI a ++ textI b = textI (a ++ b) := by unfold textI; rw [strOfNums_app, encL_app]
theorem bytesI_text (l : List Int) : bytesI (textI l) = encL l := bytesI_strOfNums (encL_byte l)
theorem encC_ascii {c : Int} (h : 0 ≤ c) (h2 : c < 128) : encC c = [c] := by
  unfold encC; rw [fix_id (right_yes h (by omega) (by omega))]; unfold encR; rw [if_pos h2]
theorem encL_ascii {l : List Int} (h : ∀ c ∈ l, 0 ≤ c ∧ c < 128) : encL l = l := by
  induction l with
  | nil => rfl
  | cons c r ih =>
    have := h c (by simp)
    simp only [encL, List.flatMap_cons]
    rw [encC_ascii this.1 this.2]
    have := ih (fun x hx => h x (by simp [hx]))
    simp only [encL] at this
    rw [this]; rfl
/-! ### Bits -/
theorem natOr {m b : Nat} (hm : m < 256) (hb : b < 256) : IntKind.i64.wrap ((BitVec.ofInt 64 (m : Int) ||| BitVec.ofInt 64 (b : Int)).toNat : Nat) = ((m ||| b : Nat) : Int) := by
  have e : ∀ n : Nat, n < 256 → (BitVec.ofInt 64 (n : Int)).toNat = n := fun n hn => by
    rw [BitVec.toNat_ofInt]
    have : ((n : Int) % ((2 ^ 64 : Nat) : Int)).toNat = n := by omega
    exact this
  rw [BitVec.toNat_or, e m hm, e b hb]
  have : m ||| b < 2 ^ 8 := Nat.or_lt_two_pow hm hb
  exact wrap_id (by omega) (by omega)
theorem orI_nat {m b : Nat} (hm : m < 256) (hb : b < 256) : orI m b = ((m ||| b : Nat) : Int) := natOr hm hb
theorem or128 {b : Int} (h : 0 ≤ b) (h2 : b < 64) : orI 128 b = 128 + b := by
  obtain ⟨n, rfl⟩ := Int.eq_ofNat_of_zero_le h
  have := orI_nat (m := 128) (b := n) (by decide) (by omega)
  have h3 : ∀ n : Fin 64, 128 ||| n.1 = 128 + n.1 := by decide
  have h4 := h3 ⟨n, by omega⟩
  simp only at h4
  rw [h4] at this
  have e : ((128 : Nat) : Int) = 128 := rfl
  rw [e] at this
  rw [this]; omega
theorem or192 {b : Int} (h : 0 ≤ b) (h2 : b < 64) : orI 192 b = 192 + b := by
  obtain ⟨n, rfl⟩ := Int.eq_ofNat_of_zero_le h
  have := orI_nat (m := 192) (b := n) (by decide) (by omega)
  have h3 : ∀ n : Fin 64, 192 ||| n.1 = 192 + n.1 := by decide
  have h4 := h3 ⟨n, by omega⟩
  simp only at h4
  rw [h4] at this
  have e : ((192 : Nat) : Int) = 192 := rfl
  rw [e] at this
  rw [this]; omega
theorem or224 {b : Int} (h : 0 ≤ b) (h2 : b < 32) : orI 224 b = 224 + b := by
  obtain ⟨n, rfl⟩ := Int.eq_ofNat_of_zero_le h
  have := orI_nat (m := 224) (b := n) (by decide) (by omega)
  have h3 : ∀ n : Fin 32, 224 ||| n.1 = 224 + n.1 := by decide
  have h4 := h3 ⟨n, by omega⟩
  simp only at h4
  rw [h4] at this
  have e : ((224 : Nat) : Int) = 224 := rfl
  rw [e] at this
  rw [this]; omega
theorem or240 {b : Int} (h : 0 ≤ b) (h2 : b < 16) : orI 240 b = 240 + b := by
  obtain ⟨n, rfl⟩ := Int.eq_ofNat_of_zero_le h
  have := orI_nat (m := 240) (b := n) (by decide) (by omega)
  have h3 : ∀ n : Fin 16, 240 ||| n.1 = 240 + n.1 := by decide
  have h4 := h3 ⟨n, by omega⟩
  simp only at h4
  rw [h4] at this
  have e : ((240 : Nat) : Int) = 240 := rfl
  rw [e] at this
  rw [this]; omega
theorem wrapu8 {n : Int} (h : 0 ≤ n) (h2 : n ≤ 255) : IntKind.u8.wrap n = n := by
  show n % (2 ^ 8 : Int) = n
  omega
theorem wrapu32 {n : Int} (h : 0 ≤ n) (h2 : n ≤ 4294967295) : IntKind.u32.wrap n = n := by
  show n % (2 ^ 32 : Int) = n
  omega
theorem wrapi32 {n : Int} (h : 0 ≤ n) (h2 : n ≤ 2147483647) : IntKind.i32.wrap n = n := by
  rw [IntKind.wrap_i32]; omega
theorem shr_i32 {a b : Int} (h : 0 ≤ b) (h2 : b < 32) : shF .shr .i32 a b = some (.int .i32 (a / 2 ^ b.toNat)) := by
  have e : min b.toNat IntKind.i32.bits = b.toNat := by show min b.toNat 32 = _; omega
  simp only [shF, e]
  rw [if_neg (by omega), Int.fdiv_eq_ediv_of_nonneg _ (Int.pow_nonneg (by decide))]
def or8 (a b : Int) : Int := IntKind.u8.wrap ((BitVec.ofInt 8 a ||| BitVec.ofInt 8 b).toNat : Nat)
def and8 (a b : Int) : Int := IntKind.u8.wrap ((BitVec.ofInt 8 a &&& BitVec.ofInt 8 b).toNat : Nat)
theorem fold_or8 {a b : Int} : IntKind.u8.wrap ((BitVec.ofInt IntKind.u8.bits a ||| BitVec.ofInt IntKind.u8.bits b).toNat : Nat) = or8 a b := rfl
theorem fold_and8 {a b : Int} : IntKind.u8.wrap ((BitVec.ofInt IntKind.u8.bits a &&& BitVec.ofInt IntKind.u8.bits b).toNat : Nat) = and8 a b := rfl
theorem or8_nat {m b : Nat} (hm : m < 256) (hb : b < 256) : or8 m b = ((m ||| b : Nat) : Int) := by
  unfold or8
  have e : ∀ n : Nat, n < 256 → (BitVec.ofInt 8 (n : Int)).toNat = n := fun n hn => by
    rw [BitVec.toNat_ofInt]
    have : ((n : Int) % ((2 ^ 8 : Nat) : Int)).toNat = n := by omega
    exact this
  rw [BitVec.toNat_or, e m hm, e b hb]
  have : m ||| b < 2 ^ 8 := Nat.or_lt_two_pow hm hb
  exact wrapu8 (by omega) (by omega)
theorem or8_128 {b : Int} (h : 0 ≤ b) (h2 : b < 64) : or8 128 b = 128 + b := by
  obtain ⟨n, rfl⟩ := Int.eq_ofNat_of_zero_le h
  have h5 := orI_nat (m := 128) (b := n) (by decide) (by omega)
  have h6 := or8_nat (m := 128) (b := n) (by decide) (by omega)
  exact (h6.trans h5.symm).trans (or128 h h2)
theorem or8_192 {b : Int} (h : 0 ≤ b) (h2 : b < 64) : or8 192 b = 192 + b := by
  obtain ⟨n, rfl⟩ := Int.eq_ofNat_of_zero_le h
  have h5 := orI_nat (m := 192) (b := n) (by decide) (by omega)
  have h6 := or8_nat (m := 192) (b := n) (by decide) (by omega)
  exact (h6.trans h5.symm).trans (or192 h h2)
theorem or8_224 {b : Int} (h : 0 ≤ b) (h2 : b < 32) : or8 224 b = 224 + b := by
  obtain ⟨n, rfl⟩ := Int.eq_ofNat_of_zero_le h
  have h5 := orI_nat (m := 224) (b := n) (by decide) (by omega)
  have h6 := or8_nat (m := 224) (b := n) (by decide) (by omega)
  exact (h6.trans h5.symm).trans (or224 h h2)
theorem or8_240 {b : Int} (h : 0 ≤ b) (h2 : b < 16) : or8 240 b = 240 + b := by
  obtain ⟨n, rfl⟩ := Int.eq_ofNat_of_zero_le h
  have h5 := orI_nat (m := 240) (b := n) (by decide) (by omega)
  have h6 := or8_nat (m := 240) (b := n) (by decide) (by omega)
  exact (h6.trans h5.symm).trans (or240 h h2)
theorem and8_63 {a : Int} : and8 (IntKind.u8.wrap a) 63 = a % 64 := by
  unfold and8
  have e1 : (BitVec.ofInt 8 (IntKind.u8.wrap a)).toNat = (a % 256).toNat := by
    show (BitVec.ofInt 8 (a % (2 ^ 8 : Int))).toNat = _
    rw [BitVec.toNat_ofInt]
    have : ((a % (2 ^ 8 : Int)) % ((2 ^ 8 : Nat) : Int)).toNat = (a % 256).toNat := by omega
    exact this
  have e2 : (BitVec.ofInt 8 (63 : Int)).toNat = 2 ^ 6 - 1 := rfl
  rw [BitVec.toNat_and, e1, e2, Nat.and_two_pow_sub_one_eq_mod]
  rw [wrapu8 (by omega) (by omega)]
  omega
end Go.Abs
/-
  Plain specifications for chapter 2: kinds of code points. No program in sight.
-/

namespace Go.Abs
def flowI (c : Int) : Bool := decide (c = 44 ∨ c = 91 ∨ c = 93 ∨ c = 123 ∨ c = 125)
def nameI (c : Int) : Bool := printI c && !blankI c && !(c == 10) && !(c == 13) && !(c == 65279) && !flowI c
def wordI (c : Int) : Bool := decide ((48 ≤ c ∧ c ≤ 57) ∨ (97 ≤ c ∧ c ≤ 122) ∨ (65 ≤ c ∧ c ≤ 90) ∨ c = 45)
def hexI (c : Int) : Int := if 48 ≤ c ∧ c ≤ 57 then c - 48 else if 97 ≤ c ∧ c ≤ 102 then c - 97 + 10 else if 65 ≤ c ∧ c ≤ 70 then c - 65 + 10 else -1
theorem hexI_le (c : Int) : -1 ≤ hexI c ∧ hexI c ≤ 15 := by unfold hexI; (repeat' split) <;> omega
theorem mem_getD {l : List Int} {c : Int} {k : Nat} (h : k < l.length) (e : l.getD k 0 = c) : c ∈ l := by
  rw [← e, List.getD_eq_getElem?_getD, List.getElem?_eq_getElem h]
  exact List.getElem_mem h
theorem not_mem_getD {l : List Int} {c : Int} (h : ∀ j, j < l.length → ¬ l.getD j 0 = c) : ¬ c ∈ l := by
  intro hm
  obtain ⟨j, hj, e⟩ := List.getElem_of_mem hm
  refine h j hj ?_
  rw [List.getD_eq_getElem?_getD, List.getElem?_eq_getElem hj]
  exact e
theorem flow_mem {s : ByteArray} (hs : bytesI s = [44, 91, 93, 123, 125]) (c : Int) : decide (c ∈ bytesI s) = flowI c := by
  rw [hs, Bool.eq_iff_iff, decide_eq_true_eq]
  simp [flowI]
end Go.Abs
/-
  Own layer, part y: the rules of a walk, told short: where a variable lies and what a type is, is found by instances.
-/

namespace Go.Abs
set_option linter.unusedVariables false
/-- Where a variable lies among the resources. -/
class Hold (σ : List Res) (b : Nat) (i : outParam Nat) (cs : outParam (List AV)) : Prop where
  get : σ[i]? = some (.obj b cs)
instance (priority := low) Hold.there {σ : List Res} {b i : Nat} {cs : List AV} {r : Res} [h : Hold σ b i cs] : Hold (r :: σ) b (i + 1) cs := ⟨by simpa using h.get⟩
instance Hold.here {σ : List Res} {b : Nat} {cs : List AV} : Hold (.obj b cs :: σ) b 0 cs := ⟨rfl⟩
class HasTip (σ : List Res) (tk : Option (Nat × Nat)) (i : outParam Nat) : Prop where
  get : σ[i]? = some (.tip tk)
instance (priority := low) HasTip.there {σ : List Res} {tk : Option (Nat × Nat)} {i : Nat} {r : Res} [h : HasTip σ tk i] : HasTip (r :: σ) tk (i + 1) := ⟨by simpa using h.get⟩
instance HasTip.here {σ : List Res} {tk : Option (Nat × Nat)} : HasTip (.tip tk :: σ) tk 0 := ⟨rfl⟩
/-- What types are. -/
class TOne (P : Program) (t : TypeId) : Prop where
  ag : aggT P t = some false
  sz : szT P t = some 1
class TAgg (P : Program) (t : TypeId) (n : outParam Nat) : Prop where
  ag : aggT P t = some true
  sz : szT P t = some n
class TZr (P : Program) (t : TypeId) (z : outParam Value) : Prop where
  zr : zrT P t = some z
class TSl (P : Program) (t : TypeId) (e : outParam TypeId) (sz by_ : outParam Nat) (z : outParam Value) : Prop where
  sl : slE P t = some e
  hz : szT P e = some sz
  by' : byT P e = some by_
  zr : zrT P e = some z
  pos : 0 < sz
  one : z.cells.size = sz
class TPl (P : Program) (t : TypeId) (pl : outParam (List (Nat × Nat))) : Prop where
  pl : plT P t = some pl
class TAr (P : Program) (t : TypeId) (n : outParam Nat) (e : outParam TypeId) (sz : outParam Nat) : Prop where
  ar : arrT P t = some (n, e)
  hz : szT P e = some sz
class TIn (P : Program) (t : TypeId) (k : outParam IntKind) : Prop where
  int : intT P t = some k
class TStr (P : Program) (t : TypeId) : Prop where
  str : isStr P t = true
class Good (l : List AV) : Prop where
  ok : goodL l = true
theorem good_app {a b : List AV} (h1 : goodL a = true) (h2 : goodL b = true) : goodL (a ++ b) = true := by
  simp only [goodL, List.all_append, Bool.and_eq_true] at *
  exact ⟨h1, h2⟩
theorem goodIu (l : List Int) : goodL (l.map fun n => (.raw (.int .i64 n) : AV)) = true := by
  simp [goodL, AV.cells, oneA, Value.oneCell']
instance {l : List Int} : Good (l.map I) := ⟨goodIu l⟩
instance {a b : List AV} [ha : Good a] [hb : Good b] : Good (a ++ b) := ⟨good_app ha.ok hb.ok⟩
def cellsB (sz : Nat) (xs : List AV) : Bool := xs.all fun x => x.cells.length == sz
theorem cellsB_all {sz : Nat} {xs : List AV} (h : cellsB sz xs = true) : ∀ x ∈ xs, x.cells.length = sz := fun x hx => by simpa using List.all_eq_true.1 h x hx
theorem andA {a b : Prop} (h : a := by first | omega | exact ⟨_, rfl⟩ | (focus (simp; done)) | (simp; omega)) (hb : b) : a ∧ b := ⟨h, hb⟩
section
variable {κ : Ctx} {dm : Bool} {P : Program} {all rest : List Oper} {Q : Exit → St → Prop} {d : Option Tmp} {t : List AV} {σ : List Res} {fr : Bool} {df : List Deferred}
theorem y_load {ty b k i : Nat} {cs : List AV} {x : AV} [ha : TOne P ty] [h : Hold σ b i cs] (hc : cs[k]? = some x := by with_unfolding_all rfl) (hK : goK κ dm P all Q d rest ⟨t, σ, fr, df⟩ x σ) : actC κ dm P all Q d rest ⟨t, σ, fr, df⟩ (.load ty) [.raw (.pointer (some ⟨b, k, none⟩))] :=
  actC_q (act_load i h.get ha.ag hc isA_mk) hK
theorem y_loadA {ty b k i n : Nat} {cs : List AV} [ha : TAgg P ty n] [h : Hold σ b i cs] (hn : k + n ≤ cs.length := by first | decide | (focus (simp; done)) | omega) (hK : goK κ dm P all Q d rest ⟨t, σ, fr, df⟩ (.agg ((cs.drop k).take n)) σ) : actC κ dm P all Q d rest ⟨t, σ, fr, df⟩ (.load ty) [.raw (.pointer (some ⟨b, k, none⟩))] :=
  actC_q (act_load_agg i h.get ha.ag ha.sz hn isA_mk) hK
theorem y_store {ty b k i : Nat} {cs : List AV} {x : AV} [ha : TOne P ty] [h : Hold σ b i cs] (hk : k < cs.length := by first | decide | (focus (simp; done)) | omega) (h1 : oneA x = true := by with_unfolding_all rfl) (hK : goK κ false P all Q d rest ⟨t, σ, fr, df⟩ .any (σ.set i (.obj b (cs.set k x)))) : storeC κ false P all Q d rest ⟨t, σ, fr, df⟩ ty (.raw (.pointer (some ⟨b, k, none⟩))) x :=
  storeC_mk (act_store i h.get ha.sz hk h1 hK)
theorem y_storeA {ty b k i n : Nat} {cs xs : List AV} [ha : TAgg P ty n] [h : Hold σ b i cs] (hx : xs.length = n := by with_unfolding_all rfl) (hn : k + n ≤ cs.length := by first | decide | (focus (simp; done)) | omega) (h1 : xs.all oneA = true := by with_unfolding_all rfl) (hK : goK κ false P all Q d rest ⟨t, σ, fr, df⟩ .any (σ.set i (.obj b (setCells cs k xs)))) : storeC κ false P all Q d rest ⟨t, σ, fr, df⟩ ty (.raw (.pointer (some ⟨b, k, none⟩))) (.agg xs) :=
  storeC_mk (act_store_agg i h.get (by rw [hx]; exact ha.sz) (by rw [hx]; exact hn) h1 hK)
theorem y_box {ty : TypeId} {x : AV} (h1 : x.cells.all oneA = true := by with_unfolding_all rfl) (hK : ∀ b, goK κ false P all Q d rest ⟨t, σ, fr, df⟩ (.raw (.pointer (some ⟨b, 0, none⟩))) (.obj b x.cells :: σ)) : actC κ false P all Q d rest ⟨t, σ, fr, df⟩ (.box ty) [x] :=
  actC_mk (act_box h1 hK)
theorem y_new {ty : TypeId} {z : Value} [hz : TZr P ty z] (h1 : (ofV z).cells.all oneA = true := by with_unfolding_all rfl) (hK : ∀ b, goK κ false P all Q d rest ⟨t, σ, fr, df⟩ (.raw (.pointer (some ⟨b, 0, none⟩))) (.obj b (ofV z).cells :: σ)) : actC κ false P all Q d rest ⟨t, σ, fr, df⟩ (.new ty) [] :=
  actC_mk (act_new hz.zr h1 hK)
theorem y_appN {ty e : TypeId} {sz by_ : Nat} {z : Value} {y : AV} [hs : TSl P ty e sz by_ z] (hK : actC κ false P all Q d rest ⟨t, .tip none :: σ, fr, df⟩ (.append ty) [.sl sz (some none) [], y]) : actC κ false P all Q d rest ⟨t, σ, fr, df⟩ (.append ty) [nilS, y] :=
  actC_mk (act_append_nil hs.pos hK)
theorem y_appS {ty e : TypeId} {sz by_ : Nat} {z : Value} {x : AV} [hs : TSl P ty e sz by_ z] (hK : actC κ false P all Q d rest ⟨t, σ, fr, df⟩ (.append ty) [x, .sl sz none []]) : actC κ false P all Q d rest ⟨t, σ, fr, df⟩ (.append ty) [x, nilS] :=
  actC_mk (act_append_src_nil hs.pos hK)
theorem y_app {ty e : TypeId} {sz by_ i : Nat} {z : Value} {tk : Option (Nat × Nat)} {l1 l2 : List AV} {o2 : Option (Option (Nat × Nat))} [hs : TSl P ty e sz by_ z] [h : HasTip σ tk i]
    (hg : goodL l2 = true := by first | exact Good.ok | with_unfolding_all rfl | (focus (simp [goodL, oneA, AV.cells]; done))) (hlen : (l1.length + l2.length) * by_ ≤ 140737488355328) (hmax : l1.length + l2.length ≤ maxLen)
    (hK : ∀ tk', goK κ false P all Q d rest ⟨t, σ, fr, df⟩ (.sl sz (some tk') (l1 ++ l2)) (σ.set i (.tip tk'))) : actC κ false P all Q d rest ⟨t, σ, fr, df⟩ (.append ty) [.sl sz (some tk) l1, .sl sz o2 l2] :=
  actC_mk (act_append i h.get hs.sl hs.hz hs.by' hs.zr hs.one hg hlen hmax hK)
theorem y_bs0 {ty e : TypeId} {sz by_ : Nat} {z : Value} [hs : TSl P ty e sz by_ z] (hK : goK κ dm P all Q d rest ⟨t, σ, fr, df⟩ (.sl sz none []) σ) : actC κ dm P all Q d rest ⟨t, σ, fr, df⟩ (.bslice ty 0 []) [] :=
  wk_bslice0 hs.sl hs.hz hs.pos hK
theorem y_bs0o {ty e : TypeId} {sz by_ : Nat} {z : Value} [hs : TSl P ty e sz by_ z] (hK : ∀ b, goK κ false P all Q d rest ⟨t, σ, fr, df⟩ (.sl sz (some (some (b, 0))) []) (.tip (some (b, 0)) :: σ)) : actC κ false P all Q d rest ⟨t, σ, fr, df⟩ (.bslice ty 0 []) [] :=
  actC_mk (act_bslice0_own hs.sl hs.hz hs.pos hK)
theorem y_bs {ty e : TypeId} {n sz by_ : Nat} {z : Value} {ix : List Nat} {xs : List AV} [hs : TSl P ty e sz by_ z] (hn : 0 < n := by decide) (hsm : n * sz ≤ 16777216 := by decide) (hix : ix = List.range n := by with_unfolding_all rfl) (hlen : xs.length = n := by with_unfolding_all rfl)
    (hg : goodL xs = true := by first | exact Good.ok | with_unfolding_all rfl | (focus (simp [goodL, oneA, AV.cells]; done))) (hc : cellsB sz xs = true := by with_unfolding_all rfl)
    (hK : goK κ dm P all Q d rest ⟨t, σ, fr, df⟩ (.sl sz none xs) σ) : actC κ dm P all Q d rest ⟨t, σ, fr, df⟩ (.bslice ty n ix) xs :=
  wk_bslice hs.sl hs.hz hs.zr hs.pos hn hsm hix hlen hg (cellsB_all hc) hK
theorem y_bso {ty e : TypeId} {n sz by_ : Nat} {z : Value} {ix : List Nat} {xs : List AV} [hs : TSl P ty e sz by_ z] (hn : 0 < n := by decide) (hsm : n * sz ≤ 16777216 := by decide) (hix : ix = List.range n := by with_unfolding_all rfl) (hlen : xs.length = n := by with_unfolding_all rfl)
    (hg : goodL xs = true := by first | exact Good.ok | with_unfolding_all rfl | (focus (simp [goodL, oneA, AV.cells]; done))) (hc : cellsB sz xs = true := by with_unfolding_all rfl)
    (hK : ∀ b, goK κ false P all Q d rest ⟨t, σ, fr, df⟩ (.sl sz (some (some (b, n * sz))) xs) (.tip (some (b, n * sz)) :: σ)) : actC κ false P all Q d rest ⟨t, σ, fr, df⟩ (.bslice ty n ix) xs :=
  actC_mk (act_bslice_own hs.sl hs.hz hs.zr hs.pos hn hsm hix hlen hg (cellsB_all hc) hK)
theorem y_build {ty : TypeId} {ix : List Nat} {xs cs : List AV} {z : Value} {pl : List (Nat × Nat)} [hp : TPl P ty pl] [hz : TZr P ty z] (hz1 : (ofV z).cells.all oneA = true := by with_unfolding_all rfl) (hb : buildA pl (ofV z).cells (ix.zip xs) = some cs := by with_unfolding_all rfl) (hK : goK κ dm P all Q d rest ⟨t, σ, fr, df⟩ (.agg cs) σ) : actC κ dm P all Q d rest ⟨t, σ, fr, df⟩ (.build ty ix) xs :=
  wk_build hp.pl hz.zr hz1 hb hK
theorem y_bytes {s dd e : TypeId} {sz by_ : Nat} {z : Value} {own : Option (Option (Nat × Nat))} {l : List Int} [hs : TSl P s e sz by_ z] [he : TIn P e .u8] [hd : TStr P dd] (hK : goK κ dm P all Q d rest ⟨t, σ, fr, df⟩ (.raw (.string (strOfNums l))) σ) : actC κ dm P all Q d rest ⟨t, σ, fr, df⟩ (.conv s dd) [.sl 1 own (l.map U8)] :=
  actC_q (act_bytes_str hs.sl he.int hd.str isA_mk) hK
theorem y_str {s dd e : TypeId} {sz by_ : Nat} {z : Value} {x : ByteArray} [hs : TStr P s] [hd : TSl P dd e sz by_ z] [he : TIn P e .u8] (hx : x.size ≤ maxLen) (hK : goK κ dm P all Q d rest ⟨t, σ, fr, df⟩ (SU none (bytesI x)) σ) : actC κ dm P all Q d rest ⟨t, σ, fr, df⟩ (.conv s dd) [.raw (.string x)] :=
  actC_q (act_str_bytes hs.str hd.sl he.int hx isA_mk) hK
theorem y_max {ts : Array TypeId} {ty : TypeId} {k : IntKind} {a b : Int} (hK : goK κ dm P all Q d rest ⟨t, σ, fr, df⟩ (.raw (.int k (max a b))) σ) : actC κ dm P all Q d rest ⟨t, σ, fr, df⟩ (.minmax true ts ty) [.raw (.int k a), .raw (.int k b)] := actC_q (act_max2 isA_mk) hK
theorem y_min {ts : Array TypeId} {ty : TypeId} {k : IntKind} {a b : Int} (hK : goK κ dm P all Q d rest ⟨t, σ, fr, df⟩ (.raw (.int k (min a b))) σ) : actC κ dm P all Q d rest ⟨t, σ, fr, df⟩ (.minmax false ts ty) [.raw (.int k a), .raw (.int k b)] := actC_q (act_min2 isA_mk) hK
theorem y_nil {t' : List AV} {l : List AV} {v : Bool} (h : 0 < l.length := by simp; omega) (hK : goK κ dm P all Q d rest ⟨t', σ, fr, df⟩ (B v) σ) : nilTC κ dm P all Q d rest ⟨t', σ, fr, df⟩ l v := nilTC_pos h hK
theorem y_load1 {ty b k i : Nat} {cs : List AV} {x : AV} [ha : TOne P ty] [h : Hold σ b i cs] (hc : cs[k]? = some x := by with_unfolding_all rfl) : LoadsTo P κ σ ty (.raw (.pointer (some ⟨b, k, none⟩))) x := LoadsTo_one i h.get ha.ag hc
theorem y_load2 {ty b k i n : Nat} {cs : List AV} [ha : TAgg P ty n] [h : Hold σ b i cs] (hn : k + n ≤ cs.length := by first | decide | (focus (simp; done)) | omega) : LoadsTo P κ σ ty (.raw (.pointer (some ⟨b, k, none⟩))) (.agg ((cs.drop k).take n)) := LoadsTo_agg i h.get ha.ag ha.sz hn
end
/-! ### Rows under one name -/
theorem take_map_ {α β : Type} {f : α → β} {l : List α} {n : Nat} : (l.map f).take n = (l.take n).map f := List.map_take.symm
theorem drop_map_ {α β : Type} {f : α → β} {l : List α} {n : Nat} : (l.map f).drop n = (l.drop n).map f := List.map_drop.symm
theorem WM : type_of% (And.intro @List.toList_toArray.{0} <| And.intro @List.set_cons_succ.{0} <| And.intro @List.set_cons_zero.{0} <| And.intro @List.getD_cons_succ.{0} <| And.intro @List.getD_cons_zero.{0} <| And.intro @List.getElem?_cons_succ.{0} <| And.intro @List.getElem?_cons_zero.{0} <| And.intro @List.length_cons.{0} <| And.intro @List.length_nil.{0} <| And.intro @List.replicate_succ.{0} <| And.intro @List.replicate_zero.{0} <| And.intro @List.cons_append.{0} <| And.intro @List.nil_append.{0} <| And.intro @List.append_nil.{0} <| And.intro @List.map_cons.{0,0} <| And.intro @List.map_nil.{0,0} <| And.intro @Option.bind_some.{0,0} <| And.intro @Option.map_some.{0,0} <| And.intro @Option.map_none.{0,0} <| And.intro @List.drop_succ_cons.{0} <| And.intro @List.drop_zero.{0} <| And.intro @List.take_succ_cons.{0} <| And.intro @List.take_zero.{0} <| And.intro @take_map_ <| And.intro @drop_map_ <| And.intro @List.take_length.{0} <| And.intro @Nat.zero_lt_succ <| And.intro @Option.isSome_some.{0} <| And.intro @Option.isSome_none.{0} <| And.intro @Int.toNat_natCast <| And.intro @List.length_map.{0,0} <| And.intro @Nat.le_refl <| And.intro @Option.some.injEq.{0} <| And.intro @exists_eq_left'.{1} <| And.intro @Nat.add_right_cancel_iff <| And.intro @List.take_nil.{0} @List.drop_nil.{0}) :=
  ⟨@List.toList_toArray.{0}, @List.set_cons_succ.{0}, @List.set_cons_zero.{0}, @List.getD_cons_succ.{0}, @List.getD_cons_zero.{0}, @List.getElem?_cons_succ.{0}, @List.getElem?_cons_zero.{0}, @List.length_cons.{0}, @List.length_nil.{0}, @List.replicate_succ.{0}, @List.replicate_zero.{0}, @List.cons_append.{0}, @List.nil_append.{0}, @List.append_nil.{0}, @List.map_cons.{0,0}, @List.map_nil.{0,0}, @Option.bind_some.{0,0}, @Option.map_some.{0,0}, @Option.map_none.{0,0}, @List.drop_succ_cons.{0}, @List.drop_zero.{0}, @List.take_succ_cons.{0}, @List.take_zero.{0}, @take_map_, @drop_map_, @List.take_length.{0}, @Nat.zero_lt_succ, @Option.isSome_some.{0}, @Option.isSome_none.{0}, @Int.toNat_natCast, @List.length_map.{0,0}, @Nat.le_refl, @Option.some.injEq.{0}, @exists_eq_left'.{1}, @Nat.add_right_cancel_iff, @List.take_nil.{0}, @List.drop_nil.{0}⟩
theorem LN_ : type_of% (And.intro @List.length_append.{0} <| And.intro @List.length_map.{0,0} <| And.intro @List.length_cons.{0} <| And.intro @List.length_nil.{0} <| And.intro @List.length_drop.{0} <| And.intro @List.length_take.{0} @List.length_replicate.{0}) :=
  ⟨@List.length_append.{0}, @List.length_map.{0,0}, @List.length_cons.{0}, @List.length_nil.{0}, @List.length_drop.{0}, @List.length_take.{0}, @List.length_replicate.{0}⟩
theorem NR_ : type_of% (And.intro @beq_iff_eq.{0} <| And.intro @beq_eq_false_iff_ne.{0} <| And.intro @bne_iff_ne.{0} <| And.intro @bne_eq_false_iff_eq.{0} <| And.intro @decide_eq_true_eq <| And.intro @decide_eq_false_iff_not <| And.intro @Bool.not_eq_true' <| And.intro @Bool.not_eq_false' <| And.intro @Int.not_lt <| And.intro @Int.not_le <| And.intro @gt_iff_lt.{0} <| And.intro @ge_iff_le.{0} @Decidable.not_not) :=
  ⟨@beq_iff_eq.{0}, @beq_eq_false_iff_ne.{0}, @bne_iff_ne.{0}, @bne_eq_false_iff_eq.{0}, @decide_eq_true_eq, @decide_eq_false_iff_not, @Bool.not_eq_true', @Bool.not_eq_false', @Int.not_lt, @Int.not_le, @gt_iff_lt.{0}, @ge_iff_le.{0}, @Decidable.not_not⟩
theorem fC : type_of% @fieldAddrC_cp := @fieldAddrC_cp
theorem fR : type_of% @fieldAddrC_raw := @fieldAddrC_raw
theorem fA : type_of% @fieldC_agg := @fieldC_agg
theorem cI : type_of% @convC_int := @convC_int
theorem cD : type_of% @callD_mk := @callD_mk
theorem cQ : type_of% @callD_q := @callD_q
end Go.Abs
/-
  Own layer, part z: rows that are marked.
-/

namespace Go.Abs
open Go.RowKit
set_option linter.unusedVariables false
/-- A block of one's own turns, and is let go. -/
theorem Rel.letgo {κ : Ctx} {g : Nat → Nat} {r : Res} {ρ : List Res} {w w' : World} {c : Nat} (h : Rel κ g (r :: ρ) w) (H : GE g w g w')
    (hos : w'.os = w.os) (htape : w'.tape = w.tape) (hout : w'.output = w.output) (hsize : w'.heap.size = w.heap.size)
    (hsame : ∀ b, b ≠ c → w'.heap[b]? = w.heap[b]?) (hc : r.block = some c) : Rel κ g ρ w' := by
  have hnd := h.nodup
  rw [fm_cons hc] at hnd
  have hn : ∀ x ∈ ρ, ∀ b, x.block = some b → b ≠ c := by
    intro x hx b hxb e
    subst e
    exact (List.nodup_cons.1 hnd).1 (List.mem_filterMap.2 ⟨x, hx, hxb⟩)
  obtain ⟨hB, hlt⟩ := h.bnd r (by simp) c hc
  refine ⟨h.below.trans ⟨hos, htape, hout, by omega, fun k hk => hsame k (by omega)⟩, by rw [hsize]; exact h.hB, (List.nodup_cons.1 hnd).2, ?_, ?_, ?_⟩
  · intro x hx b hxb
    rw [hsize]; exact h.bnd x (by simp [hx]) b hxb
  · intro x hx
    exact Res.holds_keep H (fun b hxb => hsame _ (hn x hx b hxb)) (fun _ _ => rfl) (h.holds x (by simp [hx]))
  · intro b hb'
    rw [hsize] at hb'
    exact h.new b hb'
/-- A row written out is marked: nothing more is appended to it. -/
theorem act_mark {κ : Ctx} {P : Program} {σ : List Res} {K : AV → List Res → Prop} {t e : TypeId} {sz b n : Nat} {l : List AV} (i : Nat) (h : σ[i]? = some (.tip (some (b, n)))) (ht : slE P t = some e) (he : intT P e = some .u8) (hl : 0 < l.length)
    (hK : K (.sl sz none l) (σ.eraseIdx i)) : AAct κ P (.conv t t) [.sl sz (some (some (b, n))) l] σ K := by
  intro φ g w vs hR hvs
  obtain ⟨v, rfl, hu⟩ := one_vs hvs
  have hsl := und_of_slE ht
  have hint := und_of_intT he
  have hR2 : Rel κ g (.tip (some (b, n)) :: (φ ++ σ.eraseIdx i)) w := hR.perm (perm_front (perm_get h))
  obtain ⟨hg, arr, ty, hb⟩ := hR2.holds (.tip (some (b, n))) (by simp)
  rcases hu.sl_inv with ⟨h0, _⟩ | ⟨b', off, cap, rfl, hcap, hmax, hpos, hc, hel, hgg, ho⟩
  · rw [h0] at hl; simp at hl
  · have hbb : b' = b := by
      have := (ho _ rfl).1
      simp at this; exact this.1.symm
    subst hbb
    have hlt : b' < w.heap.size := (hR2.bnd (.tip (some (b', n))) (by simp) b' rfl).2
    have hget : w.heap[b'] = .cells arr ty (0, 0) := by
      rw [Array.getElem?_eq_getElem hlt] at hb
      exact Option.some.inj hb
    have hmod : ∀ (f : Obj → Obj) (k : Nat), (w.heap.modify b' f)[k]? = if b' = k then (w.heap[k]?).map f else w.heap[k]? := by
      intro f k
      by_cases e : b' = k
      · subst e
        simp [Array.getElem?_modify]
      · simp [Array.getElem?_modify, e]
    have hcell : ∀ x, (w.freeze ⟨b', arr.size, none⟩ 1).cell? x = w.cell? x := by
      intro x
      simp only [World.cell?, World.freeze]
      rw [if_neg (by decide)]
      simp only [hmod]
      by_cases e : b' = x.block
      · rw [if_pos e, ← e, hb]; simp
      · rw [if_neg e]
    have hsame : ∀ k, k ≠ b' → (w.freeze ⟨b', arr.size, none⟩ 1).heap[k]? = w.heap[k]? := by
      intro k hk
      simp only [World.freeze]
      rw [if_neg (by decide)]
      simp only [hmod]
      rw [if_neg (fun e => hk e.symm)]
    have hlen : ∀ k, blockLen (w.freeze ⟨b', arr.size, none⟩ 1) k = blockLen w k := by
      intro k
      by_cases e : k = b'
      · subst e
        simp only [blockLen, World.freeze]
        rw [if_neg (by decide)]
        simp only [hmod, if_true, hb]
        simp
      · simp only [blockLen]; rw [hsame k e]
    have H : GE g w g (w.freeze ⟨b', arr.size, none⟩ 1) := ⟨by simp [World.freeze], fun _ => Nat.le_refl _, fun k o _ => hcell _, fun k => by rw [hlen]; exact Nat.le_refl _⟩
    refine ⟨.slice (some ⟨b', off, none⟩) l.length cap, w.freeze ⟨b', arr.size, none⟩ 1, g, .sl sz none l, σ.eraseIdx i, ?_, ?_, H, ?_, hK⟩
    · have hsh : w.shape? b' = some (ty, arr.size) := by simp [World.shape?, hb]
      show (convert t t (.slice (some ⟨b', off, none⟩) l.length cap)).run P w = _
      simp [convert, run_underlying hsl, run_underlying hint, markStringish, hsh]
    · exact hR2.letgo H rfl rfl rfl (by simp [World.freeze]) hsame rfl
    · exact VR.sl_mk rfl hcap hmax hpos hc (fun i x k y hx hy => by
        obtain ⟨u, a1, a2⟩ := hel i x k y hx hy
        exact ⟨u, by rw [hcell]; exact a1, a2.mono H⟩) hgg (fun t ht => by cases ht)
section
variable {κ : Ctx} {P : Program} {all rest : List Oper} {Q : Exit → St → Prop} {d : Option Tmp} {t : List AV} {σ : List Res} {fr : Bool} {df : List Deferred}
theorem y_mark {ty e : TypeId} {sz by_ i b n sz' : Nat} {z : Value} {l : List AV} [hs : TSl P ty e sz' by_ z] [he : TIn P e .u8] [h : HasTip σ (some (b, n)) i] (hl : 0 < l.length := by first | decide | (focus (simp; done)) | omega)
    (hK : goK κ false P all Q d rest ⟨t, σ, fr, df⟩ (.sl sz none l) (σ.eraseIdx i)) : actC κ false P all Q d rest ⟨t, σ, fr, df⟩ (.conv ty ty) [.sl sz (some (some (b, n))) l] :=
  actC_mk (act_mark i h.get hs.sl he.int hl hK)
end
end Go.Abs
/-
  Facts on the types of the program, by program.
-/


namespace Go.Proofs.YtgoofaeifbfblaaGreat
open Go.Abs
theorem sz1 : szT Tryz.prog 1 = some 1 := by kernel_rfl
theorem ag1 : aggT Tryz.prog 1 = some false := by kernel_rfl
theorem zr1 : zrT Tryz.prog 1 = some .nilFunc := by kernel_rfl
theorem by1 : byT Tryz.prog 1 = some 8 := by kernel_rfl
theorem zr2 : zrT Tryz.prog 2 = some (.int .i64 0) := by kernel_rfl
theorem in2 : intT Tryz.prog 2 = some .i64 := by kernel_rfl
theorem sz3 : szT Tryz.prog 3 = some 1 := by kernel_rfl
theorem ag3 : aggT Tryz.prog 3 = some false := by kernel_rfl
theorem zr3 : zrT Tryz.prog 3 = some (.int .i64 0) := by kernel_rfl
theorem by3 : byT Tryz.prog 3 = some 8 := by kernel_rfl
theorem in3 : intT Tryz.prog 3 = some .i64 := by kernel_rfl
theorem sz4 : szT Tryz.prog 4 = some 1 := by kernel_rfl
theorem ag4 : aggT Tryz.prog 4 = some false := by kernel_rfl
theorem zr4 : zrT Tryz.prog 4 = some (.bool false) := by kernel_rfl
theorem by4 : byT Tryz.prog 4 = some 1 := by kernel_rfl
theorem bo4 : Tryz.prog.underlying 4 = some .bool := by kernel_rfl
theorem sz5 : szT Tryz.prog 5 = some 1 := by kernel_rfl
theorem ag5 : aggT Tryz.prog 5 = some false := by kernel_rfl
theorem zr5 : zrT Tryz.prog 5 = some (.int .u8 0) := by kernel_rfl
theorem by5 : byT Tryz.prog 5 = some 1 := by kernel_rfl
theorem in5 : intT Tryz.prog 5 = some .u8 := by kernel_rfl
theorem zr8 : zrT Tryz.prog 8 = some (.agg #[(.int .i64 0), (.int .i64 0), (.bool false), (.int .u8 0)]) := by kernel_rfl
theorem pl8 : plT Tryz.prog 8 = some [(0, 1), (1, 1), (2, 1), (3, 1)] := by kernel_rfl
theorem sz9 : szT Tryz.prog 9 = some 1 := by kernel_rfl
theorem ag9 : aggT Tryz.prog 9 = some false := by kernel_rfl
theorem zr9 : zrT Tryz.prog 9 = some (.string ByteArray.empty) := by kernel_rfl
theorem by9 : byT Tryz.prog 9 = some 16 := by kernel_rfl
theorem st9 : isStr Tryz.prog 9 = true := by kernel_rfl
theorem sz20 : szT Tryz.prog 20 = some 1 := by kernel_rfl
theorem ag20 : aggT Tryz.prog 20 = some false := by kernel_rfl
theorem zr20 : zrT Tryz.prog 20 = some .nilIface := by kernel_rfl
theorem by20 : byT Tryz.prog 20 = some 16 := by kernel_rfl
theorem sz21 : szT Tryz.prog 21 = some 1 := by kernel_rfl
theorem ag21 : aggT Tryz.prog 21 = some false := by kernel_rfl
theorem zr21 : zrT Tryz.prog 21 = some (.int .i32 0) := by kernel_rfl
theorem by21 : byT Tryz.prog 21 = some 4 := by kernel_rfl
theorem in21 : intT Tryz.prog 21 = some .i32 := by kernel_rfl
theorem sz22 : szT Tryz.prog 22 = some 1 := by kernel_rfl
theorem ag22 : aggT Tryz.prog 22 = some false := by kernel_rfl
theorem zr22 : zrT Tryz.prog 22 = some (.slice none 0 0) := by kernel_rfl
theorem sl22 : slE Tryz.prog 22 = some 52 := by kernel_rfl
theorem by22 : byT Tryz.prog 22 = some 24 := by kernel_rfl
theorem sz25 : szT Tryz.prog 25 = some 1 := by kernel_rfl
theorem ag25 : aggT Tryz.prog 25 = some false := by kernel_rfl
theorem zr25 : zrT Tryz.prog 25 = some (.pointer none) := by kernel_rfl
theorem by25 : byT Tryz.prog 25 = some 8 := by kernel_rfl
theorem pt25 : ptrT Tryz.prog 25 = some 59 := by kernel_rfl
theorem sz26 : szT Tryz.prog 26 = some 1 := by kernel_rfl
theorem ag26 : aggT Tryz.prog 26 = some false := by kernel_rfl
theorem zr26 : zrT Tryz.prog 26 = some .nilFunc := by kernel_rfl
theorem sz27 : szT Tryz.prog 27 = some 1 := by kernel_rfl
theorem ag27 : aggT Tryz.prog 27 = some false := by kernel_rfl
theorem zr27 : zrT Tryz.prog 27 = some (.slice none 0 0) := by kernel_rfl
theorem sl27 : slE Tryz.prog 27 = some 41 := by kernel_rfl
theorem by27 : byT Tryz.prog 27 = some 24 := by kernel_rfl
theorem sz28 : szT Tryz.prog 28 = some 1 := by kernel_rfl
theorem ag28 : aggT Tryz.prog 28 = some false := by kernel_rfl
theorem zr28 : zrT Tryz.prog 28 = some (.int .i64 0) := by kernel_rfl
theorem by28 : byT Tryz.prog 28 = some 8 := by kernel_rfl
theorem in28 : intT Tryz.prog 28 = some .i64 := by kernel_rfl
theorem sz38 : szT Tryz.prog 38 = some 1 := by kernel_rfl
theorem ag38 : aggT Tryz.prog 38 = some false := by kernel_rfl
theorem zr38 : zrT Tryz.prog 38 = some (.slice none 0 0) := by kernel_rfl
theorem sl38 : slE Tryz.prog 38 = some 9 := by kernel_rfl
theorem by38 : byT Tryz.prog 38 = some 24 := by kernel_rfl
theorem sz39 : szT Tryz.prog 39 = some 1 := by kernel_rfl
theorem ag39 : aggT Tryz.prog 39 = some false := by kernel_rfl
theorem zr39 : zrT Tryz.prog 39 = some (.slice none 0 0) := by kernel_rfl
theorem sl39 : slE Tryz.prog 39 = some 3 := by kernel_rfl
theorem by39 : byT Tryz.prog 39 = some 24 := by kernel_rfl
theorem zr40 : zrT Tryz.prog 40 = some (.agg #[(.int .i64 0), (.string ByteArray.empty), (.string ByteArray.empty), (.string ByteArray.empty), (.int .i64 0), (.bool false)]) := by kernel_rfl
theorem pl40 : plT Tryz.prog 40 = some [(0, 1), (1, 1), (2, 1), (3, 1), (4, 1), (5, 1)] := by kernel_rfl
theorem sz41 : szT Tryz.prog 41 = some 6 := by kernel_rfl
theorem ag41 : aggT Tryz.prog 41 = some true := by kernel_rfl
theorem zr41 : zrT Tryz.prog 41 = some (.agg #[(.int .i64 0), (.string ByteArray.empty), (.string ByteArray.empty), (.string ByteArray.empty), (.int .i64 0), (.bool false)]) := by kernel_rfl
theorem by41 : byT Tryz.prog 41 = some 72 := by kernel_rfl
theorem fl41_0 : fldT Tryz.prog 41 0 = some (0, 3) := by kernel_rfl
theorem fl41_1 : fldT Tryz.prog 41 1 = some (1, 9) := by kernel_rfl
theorem fl41_2 : fldT Tryz.prog 41 2 = some (2, 9) := by kernel_rfl
theorem fl41_3 : fldT Tryz.prog 41 3 = some (3, 9) := by kernel_rfl
theorem fl41_4 : fldT Tryz.prog 41 4 = some (4, 3) := by kernel_rfl
theorem fl41_5 : fldT Tryz.prog 41 5 = some (5, 4) := by kernel_rfl
theorem pl41 : plT Tryz.prog 41 = some [(0, 1), (1, 1), (2, 1), (3, 1), (4, 1), (5, 1)] := by kernel_rfl
theorem zr44 : zrT Tryz.prog 44 = some (.slice none 0 0) := by kernel_rfl
theorem sl44 : slE Tryz.prog 44 = some 4 := by kernel_rfl
theorem sz45 : szT Tryz.prog 45 = some 1 := by kernel_rfl
theorem ag45 : aggT Tryz.prog 45 = some false := by kernel_rfl
theorem zr45 : zrT Tryz.prog 45 = some .nilFunc := by kernel_rfl
theorem by45 : byT Tryz.prog 45 = some 8 := by kernel_rfl
theorem zr51 : zrT Tryz.prog 51 = some (.agg #[(.int .i64 0), (.slice none 0 0)]) := by kernel_rfl
theorem pl51 : plT Tryz.prog 51 = some [(0, 1), (1, 1)] := by kernel_rfl
theorem sz52 : szT Tryz.prog 52 = some 2 := by kernel_rfl
theorem ag52 : aggT Tryz.prog 52 = some true := by kernel_rfl
theorem zr52 : zrT Tryz.prog 52 = some (.agg #[(.int .i64 0), (.slice none 0 0)]) := by kernel_rfl
theorem by52 : byT Tryz.prog 52 = some 32 := by kernel_rfl
theorem fl52_0 : fldT Tryz.prog 52 0 = some (0, 3) := by kernel_rfl
theorem fl52_1 : fldT Tryz.prog 52 1 = some (1, 39) := by kernel_rfl
theorem pl52 : plT Tryz.prog 52 = some [(0, 1), (1, 1)] := by kernel_rfl
theorem sz56 : szT Tryz.prog 56 = some 1 := by kernel_rfl
theorem ag56 : aggT Tryz.prog 56 = some false := by kernel_rfl
theorem zr56 : zrT Tryz.prog 56 = some .nilFunc := by kernel_rfl
theorem by56 : byT Tryz.prog 56 = some 8 := by kernel_rfl
theorem pl58 : plT Tryz.prog 58 = some [(0, 1)] := by kernel_rfl
theorem sz59 : szT Tryz.prog 59 = some 1 := by kernel_rfl
theorem ag59 : aggT Tryz.prog 59 = some true := by kernel_rfl
theorem zr59 : zrT Tryz.prog 59 = some (.agg #[(.slice none 0 0)]) := by kernel_rfl
theorem by59 : byT Tryz.prog 59 = some 24 := by kernel_rfl
theorem fl59_0 : fldT Tryz.prog 59 0 = some (0, 22) := by kernel_rfl
theorem pl59 : plT Tryz.prog 59 = some [(0, 1)] := by kernel_rfl
theorem sz60 : szT Tryz.prog 60 = some 1 := by kernel_rfl
theorem ag60 : aggT Tryz.prog 60 = some false := by kernel_rfl
theorem zr60 : zrT Tryz.prog 60 = some (.pointer none) := by kernel_rfl
theorem by60 : byT Tryz.prog 60 = some 8 := by kernel_rfl
theorem pt60 : ptrT Tryz.prog 60 = some 64 := by kernel_rfl
theorem sz62 : szT Tryz.prog 62 = some 1 := by kernel_rfl
theorem ag62 : aggT Tryz.prog 62 = some true := by kernel_rfl
theorem zr62 : zrT Tryz.prog 62 = some (.agg #[(.slice none 0 0)]) := by kernel_rfl
theorem by62 : byT Tryz.prog 62 = some 24 := by kernel_rfl
theorem fl62_0 : fldT Tryz.prog 62 0 = some (0, 39) := by kernel_rfl
theorem pl62 : plT Tryz.prog 62 = some [(0, 1)] := by kernel_rfl
theorem pl63 : plT Tryz.prog 63 = some [(0, 1), (1, 1), (2, 1), (3, 1), (4, 1), (5, 1)] := by kernel_rfl
theorem sz64 : szT Tryz.prog 64 = some 6 := by kernel_rfl
theorem ag64 : aggT Tryz.prog 64 = some true := by kernel_rfl
theorem zr64 : zrT Tryz.prog 64 = some (.agg #[(.slice none 0 0), (.int .i64 0), (.bool false), (.int .i64 0), (.slice none 0 0), (.slice none 0 0)]) := by kernel_rfl
theorem by64 : byT Tryz.prog 64 = some 96 := by kernel_rfl
theorem fl64_0 : fldT Tryz.prog 64 0 = some (0, 22) := by kernel_rfl
theorem fl64_1 : fldT Tryz.prog 64 1 = some (1, 3) := by kernel_rfl
theorem fl64_2 : fldT Tryz.prog 64 2 = some (2, 4) := by kernel_rfl
theorem fl64_3 : fldT Tryz.prog 64 3 = some (3, 3) := by kernel_rfl
theorem fl64_4 : fldT Tryz.prog 64 4 = some (4, 62) := by kernel_rfl
theorem fl64_5 : fldT Tryz.prog 64 5 = some (5, 27) := by kernel_rfl
theorem pl64 : plT Tryz.prog 64 = some [(0, 1), (1, 1), (2, 1), (3, 1), (4, 1), (5, 1)] := by kernel_rfl
theorem zr66 : zrT Tryz.prog 66 = some (.agg #[(.int .i64 0), (.int .i64 0)]) := by kernel_rfl
theorem pl66 : plT Tryz.prog 66 = some [(0, 1), (1, 1)] := by kernel_rfl
theorem sz67 : szT Tryz.prog 67 = some 2 := by kernel_rfl
theorem ag67 : aggT Tryz.prog 67 = some true := by kernel_rfl
theorem zr67 : zrT Tryz.prog 67 = some (.agg #[(.int .i64 0), (.int .i64 0)]) := by kernel_rfl
theorem by67 : byT Tryz.prog 67 = some 16 := by kernel_rfl
theorem fl67_0 : fldT Tryz.prog 67 0 = some (0, 3) := by kernel_rfl
theorem fl67_1 : fldT Tryz.prog 67 1 = some (1, 3) := by kernel_rfl
theorem pl67 : plT Tryz.prog 67 = some [(0, 1), (1, 1)] := by kernel_rfl
theorem sz69 : szT Tryz.prog 69 = some 1 := by kernel_rfl
theorem ag69 : aggT Tryz.prog 69 = some false := by kernel_rfl
theorem zr69 : zrT Tryz.prog 69 = some .nilFunc := by kernel_rfl
theorem sz70 : szT Tryz.prog 70 = some 1 := by kernel_rfl
theorem ag70 : aggT Tryz.prog 70 = some false := by kernel_rfl
theorem zr70 : zrT Tryz.prog 70 = some (.slice none 0 0) := by kernel_rfl
theorem sl70 : slE Tryz.prog 70 = some 39 := by kernel_rfl
theorem by70 : byT Tryz.prog 70 = some 24 := by kernel_rfl
theorem sz79 : szT Tryz.prog 79 = some 1 := by kernel_rfl
theorem ag79 : aggT Tryz.prog 79 = some false := by kernel_rfl
theorem zr79 : zrT Tryz.prog 79 = some (.slice none 0 0) := by kernel_rfl
theorem sl79 : slE Tryz.prog 79 = some 5 := by kernel_rfl
theorem by79 : byT Tryz.prog 79 = some 24 := by kernel_rfl
theorem sz93 : szT Tryz.prog 93 = some 1 := by kernel_rfl
theorem ag93 : aggT Tryz.prog 93 = some false := by kernel_rfl
theorem zr93 : zrT Tryz.prog 93 = some .nilFunc := by kernel_rfl
theorem by93 : byT Tryz.prog 93 = some 8 := by kernel_rfl
theorem zr107 : zrT Tryz.prog 107 = some (.agg #[(.int .i64 0)]) := by kernel_rfl
theorem pl107 : plT Tryz.prog 107 = some [(0, 1)] := by kernel_rfl
theorem sz108 : szT Tryz.prog 108 = some 1 := by kernel_rfl
theorem ag108 : aggT Tryz.prog 108 = some true := by kernel_rfl
theorem zr108 : zrT Tryz.prog 108 = some (.agg #[(.int .i64 0)]) := by kernel_rfl
theorem by108 : byT Tryz.prog 108 = some 8 := by kernel_rfl
theorem fl108_0 : fldT Tryz.prog 108 0 = some (0, 28) := by kernel_rfl
theorem pl108 : plT Tryz.prog 108 = some [(0, 1)] := by kernel_rfl
theorem zr110 : zrT Tryz.prog 110 = some (.agg #[(.int .i64 0), (.int .i64 0), (.bool false)]) := by kernel_rfl
theorem pl110 : plT Tryz.prog 110 = some [(0, 2), (2, 1)] := by kernel_rfl
theorem sz111 : szT Tryz.prog 111 = some 3 := by kernel_rfl
theorem ag111 : aggT Tryz.prog 111 = some true := by kernel_rfl
theorem zr111 : zrT Tryz.prog 111 = some (.agg #[(.int .i64 0), (.int .i64 0), (.bool false)]) := by kernel_rfl
theorem by111 : byT Tryz.prog 111 = some 24 := by kernel_rfl
theorem fl111_0 : fldT Tryz.prog 111 0 = some (0, 67) := by kernel_rfl
theorem fl111_1 : fldT Tryz.prog 111 1 = some (2, 4) := by kernel_rfl
theorem pl111 : plT Tryz.prog 111 = some [(0, 2), (2, 1)] := by kernel_rfl
theorem sz121 : szT Tryz.prog 121 = some 1 := by kernel_rfl
theorem ag121 : aggT Tryz.prog 121 = some false := by kernel_rfl
theorem zr121 : zrT Tryz.prog 121 = some (.int .u64 0) := by kernel_rfl
theorem by121 : byT Tryz.prog 121 = some 8 := by kernel_rfl
theorem in121 : intT Tryz.prog 121 = some .u64 := by kernel_rfl
theorem zr132 : zrT Tryz.prog 132 = some (.agg #[(.string ByteArray.empty), (.string ByteArray.empty), (.int .i64 0), (.int .i64 0)]) := by kernel_rfl
theorem pl132 : plT Tryz.prog 132 = some [(0, 1), (1, 1), (2, 2)] := by kernel_rfl
theorem sz133 : szT Tryz.prog 133 = some 4 := by kernel_rfl
theorem ag133 : aggT Tryz.prog 133 = some true := by kernel_rfl
theorem zr133 : zrT Tryz.prog 133 = some (.agg #[(.string ByteArray.empty), (.string ByteArray.empty), (.int .i64 0), (.int .i64 0)]) := by kernel_rfl
theorem by133 : byT Tryz.prog 133 = some 48 := by kernel_rfl
theorem fl133_0 : fldT Tryz.prog 133 0 = some (0, 9) := by kernel_rfl
theorem fl133_1 : fldT Tryz.prog 133 1 = some (1, 9) := by kernel_rfl
theorem fl133_2 : fldT Tryz.prog 133 2 = some (2, 67) := by kernel_rfl
theorem pl133 : plT Tryz.prog 133 = some [(0, 1), (1, 1), (2, 2)] := by kernel_rfl
theorem sz144 : szT Tryz.prog 144 = some 1 := by kernel_rfl
theorem ag144 : aggT Tryz.prog 144 = some false := by kernel_rfl
theorem zr144 : zrT Tryz.prog 144 = some (.int .u32 0) := by kernel_rfl
theorem by144 : byT Tryz.prog 144 = some 4 := by kernel_rfl
theorem in144 : intT Tryz.prog 144 = some .u32 := by kernel_rfl
theorem sz147 : szT Tryz.prog 147 = some 1 := by kernel_rfl
theorem ag147 : aggT Tryz.prog 147 = some false := by kernel_rfl
theorem zr147 : zrT Tryz.prog 147 = some (.int .u64 0) := by kernel_rfl
theorem by147 : byT Tryz.prog 147 = some 8 := by kernel_rfl
theorem in147 : intT Tryz.prog 147 = some .u64 := by kernel_rfl
theorem sz159 : szT Tryz.prog 159 = some 1 := by kernel_rfl
theorem ag159 : aggT Tryz.prog 159 = some false := by kernel_rfl
theorem zr159 : zrT Tryz.prog 159 = some (.pointer none) := by kernel_rfl
theorem by159 : byT Tryz.prog 159 = some 8 := by kernel_rfl
theorem pt159 : ptrT Tryz.prog 159 = some 133 := by kernel_rfl
theorem sz167 : szT Tryz.prog 167 = some 1 := by kernel_rfl
theorem ag167 : aggT Tryz.prog 167 = some false := by kernel_rfl
theorem zr167 : zrT Tryz.prog 167 = some .nilFunc := by kernel_rfl
theorem by167 : byT Tryz.prog 167 = some 8 := by kernel_rfl
theorem sz185 : szT Tryz.prog 185 = some 1 := by kernel_rfl
theorem ag185 : aggT Tryz.prog 185 = some false := by kernel_rfl
theorem zr185 : zrT Tryz.prog 185 = some .nilFunc := by kernel_rfl
theorem by185 : byT Tryz.prog 185 = some 8 := by kernel_rfl
theorem sz188 : szT Tryz.prog 188 = some 1 := by kernel_rfl
theorem ag188 : aggT Tryz.prog 188 = some false := by kernel_rfl
theorem zr188 : zrT Tryz.prog 188 = some (.slice none 0 0) := by kernel_rfl
theorem sl188 : slE Tryz.prog 188 = some 191 := by kernel_rfl
theorem by188 : byT Tryz.prog 188 = some 24 := by kernel_rfl
theorem sz189 : szT Tryz.prog 189 = some 1 := by kernel_rfl
theorem ag189 : aggT Tryz.prog 189 = some false := by kernel_rfl
theorem zr189 : zrT Tryz.prog 189 = some (.slice none 0 0) := by kernel_rfl
theorem sl189 : slE Tryz.prog 189 = some 210 := by kernel_rfl
theorem by189 : byT Tryz.prog 189 = some 24 := by kernel_rfl
theorem zr190 : zrT Tryz.prog 190 = some (.agg #[(.slice none 0 0), (.bool false)]) := by kernel_rfl
theorem pl190 : plT Tryz.prog 190 = some [(0, 1), (1, 1)] := by kernel_rfl
theorem sz191 : szT Tryz.prog 191 = some 2 := by kernel_rfl
theorem ag191 : aggT Tryz.prog 191 = some true := by kernel_rfl
theorem zr191 : zrT Tryz.prog 191 = some (.agg #[(.slice none 0 0), (.bool false)]) := by kernel_rfl
theorem by191 : byT Tryz.prog 191 = some 32 := by kernel_rfl
theorem fl191_0 : fldT Tryz.prog 191 0 = some (0, 189) := by kernel_rfl
theorem fl191_1 : fldT Tryz.prog 191 1 = some (1, 4) := by kernel_rfl
theorem pl191 : plT Tryz.prog 191 = some [(0, 1), (1, 1)] := by kernel_rfl
theorem sz199 : szT Tryz.prog 199 = some 1 := by kernel_rfl
theorem ag199 : aggT Tryz.prog 199 = some false := by kernel_rfl
theorem zr199 : zrT Tryz.prog 199 = some (.pointer none) := by kernel_rfl
theorem by199 : byT Tryz.prog 199 = some 8 := by kernel_rfl
theorem pt199 : ptrT Tryz.prog 199 = some 62 := by kernel_rfl
theorem sz200 : szT Tryz.prog 200 = some 1 := by kernel_rfl
theorem ag200 : aggT Tryz.prog 200 = some false := by kernel_rfl
theorem zr200 : zrT Tryz.prog 200 = some .nilFunc := by kernel_rfl
theorem by200 : byT Tryz.prog 200 = some 8 := by kernel_rfl
theorem sz205 : szT Tryz.prog 205 = some 1 := by kernel_rfl
theorem ag205 : aggT Tryz.prog 205 = some false := by kernel_rfl
theorem zr205 : zrT Tryz.prog 205 = some .nilFunc := by kernel_rfl
theorem by205 : byT Tryz.prog 205 = some 8 := by kernel_rfl
theorem zr209 : zrT Tryz.prog 209 = some (.agg #[(.int .i64 0), (.bool false)]) := by kernel_rfl
theorem pl209 : plT Tryz.prog 209 = some [(0, 1), (1, 1)] := by kernel_rfl
theorem sz210 : szT Tryz.prog 210 = some 2 := by kernel_rfl
theorem ag210 : aggT Tryz.prog 210 = some true := by kernel_rfl
theorem zr210 : zrT Tryz.prog 210 = some (.agg #[(.int .i64 0), (.bool false)]) := by kernel_rfl
theorem by210 : byT Tryz.prog 210 = some 16 := by kernel_rfl
theorem fl210_0 : fldT Tryz.prog 210 0 = some (0, 3) := by kernel_rfl
theorem fl210_1 : fldT Tryz.prog 210 1 = some (1, 4) := by kernel_rfl
theorem pl210 : plT Tryz.prog 210 = some [(0, 1), (1, 1)] := by kernel_rfl
theorem sz214 : szT Tryz.prog 214 = some 1 := by kernel_rfl
theorem ag214 : aggT Tryz.prog 214 = some false := by kernel_rfl
theorem zr214 : zrT Tryz.prog 214 = some .nilFunc := by kernel_rfl
theorem by214 : byT Tryz.prog 214 = some 8 := by kernel_rfl
theorem sz216 : szT Tryz.prog 216 = some 1 := by kernel_rfl
theorem ag216 : aggT Tryz.prog 216 = some false := by kernel_rfl
theorem zr216 : zrT Tryz.prog 216 = some .nilFunc := by kernel_rfl
theorem by216 : byT Tryz.prog 216 = some 8 := by kernel_rfl
theorem sz221 : szT Tryz.prog 221 = some 1 := by kernel_rfl
theorem ag221 : aggT Tryz.prog 221 = some false := by kernel_rfl
theorem zr221 : zrT Tryz.prog 221 = some (.pointer none) := by kernel_rfl
theorem by221 : byT Tryz.prog 221 = some 8 := by kernel_rfl
theorem pt221 : ptrT Tryz.prog 221 = some 191 := by kernel_rfl
theorem sz223 : szT Tryz.prog 223 = some 1 := by kernel_rfl
theorem ag223 : aggT Tryz.prog 223 = some false := by kernel_rfl
theorem zr223 : zrT Tryz.prog 223 = some .nilFunc := by kernel_rfl
theorem by223 : byT Tryz.prog 223 = some 8 := by kernel_rfl
theorem T1 : type_of% (And.intro sz1 (And.intro ag1 (And.intro zr1 (by1)))) := And.intro sz1 (And.intro ag1 (And.intro zr1 (by1)))
theorem T3 : type_of% (And.intro sz3 (And.intro ag3 (And.intro zr3 (And.intro by3 (in3))))) := And.intro sz3 (And.intro ag3 (And.intro zr3 (And.intro by3 (in3))))
theorem T4 : type_of% (And.intro sz4 (And.intro ag4 (And.intro zr4 (And.intro by4 (bo4))))) := And.intro sz4 (And.intro ag4 (And.intro zr4 (And.intro by4 (bo4))))
theorem T5 : type_of% (And.intro sz5 (And.intro ag5 (And.intro zr5 (And.intro by5 (in5))))) := And.intro sz5 (And.intro ag5 (And.intro zr5 (And.intro by5 (in5))))
theorem T9 : type_of% (And.intro sz9 (And.intro ag9 (And.intro zr9 (And.intro by9 (st9))))) := And.intro sz9 (And.intro ag9 (And.intro zr9 (And.intro by9 (st9))))
theorem T20 : type_of% (And.intro sz20 (And.intro ag20 (And.intro zr20 (by20)))) := And.intro sz20 (And.intro ag20 (And.intro zr20 (by20)))
theorem T21 : type_of% (And.intro sz21 (And.intro ag21 (And.intro zr21 (And.intro by21 (in21))))) := And.intro sz21 (And.intro ag21 (And.intro zr21 (And.intro by21 (in21))))
theorem T22 : type_of% (And.intro sz22 (And.intro ag22 (And.intro zr22 (And.intro sl22 (by22))))) := And.intro sz22 (And.intro ag22 (And.intro zr22 (And.intro sl22 (by22))))
theorem T25 : type_of% (And.intro sz25 (And.intro ag25 (And.intro zr25 (And.intro by25 (pt25))))) := And.intro sz25 (And.intro ag25 (And.intro zr25 (And.intro by25 (pt25))))
theorem T27 : type_of% (And.intro sz27 (And.intro ag27 (And.intro zr27 (And.intro sl27 (by27))))) := And.intro sz27 (And.intro ag27 (And.intro zr27 (And.intro sl27 (by27))))
theorem T28 : type_of% (And.intro sz28 (And.intro ag28 (And.intro zr28 (And.intro by28 (in28))))) := And.intro sz28 (And.intro ag28 (And.intro zr28 (And.intro by28 (in28))))
theorem T38 : type_of% (And.intro sz38 (And.intro ag38 (And.intro zr38 (And.intro sl38 (by38))))) := And.intro sz38 (And.intro ag38 (And.intro zr38 (And.intro sl38 (by38))))
theorem T39 : type_of% (And.intro sz39 (And.intro ag39 (And.intro zr39 (And.intro sl39 (by39))))) := And.intro sz39 (And.intro ag39 (And.intro zr39 (And.intro sl39 (by39))))
theorem T41 : type_of% (And.intro sz41 (And.intro ag41 (And.intro zr41 (And.intro by41 (And.intro fl41_0 (And.intro fl41_1 (And.intro fl41_2 (And.intro fl41_3 (And.intro fl41_4 (And.intro fl41_5 (pl41))))))))))) := And.intro sz41 (And.intro ag41 (And.intro zr41 (And.intro by41 (And.intro fl41_0 (And.intro fl41_1 (And.intro fl41_2 (And.intro fl41_3 (And.intro fl41_4 (And.intro fl41_5 (pl41))))))))))
theorem T45 : type_of% (And.intro sz45 (And.intro ag45 (And.intro zr45 (by45)))) := And.intro sz45 (And.intro ag45 (And.intro zr45 (by45)))
theorem T52 : type_of% (And.intro sz52 (And.intro ag52 (And.intro zr52 (And.intro by52 (And.intro fl52_0 (And.intro fl52_1 (pl52))))))) := And.intro sz52 (And.intro ag52 (And.intro zr52 (And.intro by52 (And.intro fl52_0 (And.intro fl52_1 (pl52))))))
theorem T56 : type_of% (And.intro sz56 (And.intro ag56 (And.intro zr56 (by56)))) := And.intro sz56 (And.intro ag56 (And.intro zr56 (by56)))
theorem T59 : type_of% (And.intro sz59 (And.intro ag59 (And.intro zr59 (And.intro by59 (And.intro fl59_0 (pl59)))))) := And.intro sz59 (And.intro ag59 (And.intro zr59 (And.intro by59 (And.intro fl59_0 (pl59)))))
theorem T60 : type_of% (And.intro sz60 (And.intro ag60 (And.intro zr60 (And.intro by60 (pt60))))) := And.intro sz60 (And.intro ag60 (And.intro zr60 (And.intro by60 (pt60))))
theorem T62 : type_of% (And.intro sz62 (And.intro ag62 (And.intro zr62 (And.intro by62 (And.intro fl62_0 (pl62)))))) := And.intro sz62 (And.intro ag62 (And.intro zr62 (And.intro by62 (And.intro fl62_0 (pl62)))))
theorem T64 : type_of% (And.intro sz64 (And.intro ag64 (And.intro zr64 (And.intro by64 (And.intro fl64_0 (And.intro fl64_1 (And.intro fl64_2 (And.intro fl64_3 (And.intro fl64_4 (And.intro fl64_5 (pl64))))))))))) := And.intro sz64 (And.intro ag64 (And.intro zr64 (And.intro by64 (And.intro fl64_0 (And.intro fl64_1 (And.intro fl64_2 (And.intro fl64_3 (And.intro fl64_4 (And.intro fl64_5 (pl64))))))))))
theorem T67 : type_of% (And.intro sz67 (And.intro ag67 (And.intro zr67 (And.intro by67 (And.intro fl67_0 (And.intro fl67_1 (pl67))))))) := And.intro sz67 (And.intro ag67 (And.intro zr67 (And.intro by67 (And.intro fl67_0 (And.intro fl67_1 (pl67))))))
theorem T70 : type_of% (And.intro sz70 (And.intro ag70 (And.intro zr70 (And.intro sl70 (by70))))) := And.intro sz70 (And.intro ag70 (And.intro zr70 (And.intro sl70 (by70))))
theorem T79 : type_of% (And.intro sz79 (And.intro ag79 (And.intro zr79 (And.intro sl79 (by79))))) := And.intro sz79 (And.intro ag79 (And.intro zr79 (And.intro sl79 (by79))))
theorem T93 : type_of% (And.intro sz93 (And.intro ag93 (And.intro zr93 (by93)))) := And.intro sz93 (And.intro ag93 (And.intro zr93 (by93)))
theorem T108 : type_of% (And.intro sz108 (And.intro ag108 (And.intro zr108 (And.intro by108 (And.intro fl108_0 (pl108)))))) := And.intro sz108 (And.intro ag108 (And.intro zr108 (And.intro by108 (And.intro fl108_0 (pl108)))))
theorem T111 : type_of% (And.intro sz111 (And.intro ag111 (And.intro zr111 (And.intro by111 (And.intro fl111_0 (And.intro fl111_1 (pl111))))))) := And.intro sz111 (And.intro ag111 (And.intro zr111 (And.intro by111 (And.intro fl111_0 (And.intro fl111_1 (pl111))))))
theorem T121 : type_of% (And.intro sz121 (And.intro ag121 (And.intro zr121 (And.intro by121 (in121))))) := And.intro sz121 (And.intro ag121 (And.intro zr121 (And.intro by121 (in121))))
theorem T133 : type_of% (And.intro sz133 (And.intro ag133 (And.intro zr133 (And.intro by133 (And.intro fl133_0 (And.intro fl133_1 (And.intro fl133_2 (pl133)))))))) := And.intro sz133 (And.intro ag133 (And.intro zr133 (And.intro by133 (And.intro fl133_0 (And.intro fl133_1 (And.intro fl133_2 (pl133)))))))
theorem T144 : type_of% (And.intro sz144 (And.intro ag144 (And.intro zr144 (And.intro by144 (in144))))) := And.intro sz144 (And.intro ag144 (And.intro zr144 (And.intro by144 (in144))))
theorem T147 : type_of% (And.intro sz147 (And.intro ag147 (And.intro zr147 (And.intro by147 (in147))))) := And.intro sz147 (And.intro ag147 (And.intro zr147 (And.intro by147 (in147))))
theorem T159 : type_of% (And.intro sz159 (And.intro ag159 (And.intro zr159 (And.intro by159 (pt159))))) := And.intro sz159 (And.intro ag159 (And.intro zr159 (And.intro by159 (pt159))))
theorem T167 : type_of% (And.intro sz167 (And.intro ag167 (And.intro zr167 (by167)))) := And.intro sz167 (And.intro ag167 (And.intro zr167 (by167)))
theorem T185 : type_of% (And.intro sz185 (And.intro ag185 (And.intro zr185 (by185)))) := And.intro sz185 (And.intro ag185 (And.intro zr185 (by185)))
theorem T188 : type_of% (And.intro sz188 (And.intro ag188 (And.intro zr188 (And.intro sl188 (by188))))) := And.intro sz188 (And.intro ag188 (And.intro zr188 (And.intro sl188 (by188))))
theorem T189 : type_of% (And.intro sz189 (And.intro ag189 (And.intro zr189 (And.intro sl189 (by189))))) := And.intro sz189 (And.intro ag189 (And.intro zr189 (And.intro sl189 (by189))))
theorem T191 : type_of% (And.intro sz191 (And.intro ag191 (And.intro zr191 (And.intro by191 (And.intro fl191_0 (And.intro fl191_1 (pl191))))))) := And.intro sz191 (And.intro ag191 (And.intro zr191 (And.intro by191 (And.intro fl191_0 (And.intro fl191_1 (pl191))))))
theorem T199 : type_of% (And.intro sz199 (And.intro ag199 (And.intro zr199 (And.intro by199 (pt199))))) := And.intro sz199 (And.intro ag199 (And.intro zr199 (And.intro by199 (pt199))))
theorem T200 : type_of% (And.intro sz200 (And.intro ag200 (And.intro zr200 (by200)))) := And.intro sz200 (And.intro ag200 (And.intro zr200 (by200)))
theorem T205 : type_of% (And.intro sz205 (And.intro ag205 (And.intro zr205 (by205)))) := And.intro sz205 (And.intro ag205 (And.intro zr205 (by205)))
theorem T210 : type_of% (And.intro sz210 (And.intro ag210 (And.intro zr210 (And.intro by210 (And.intro fl210_0 (And.intro fl210_1 (pl210))))))) := And.intro sz210 (And.intro ag210 (And.intro zr210 (And.intro by210 (And.intro fl210_0 (And.intro fl210_1 (pl210))))))
theorem T214 : type_of% (And.intro sz214 (And.intro ag214 (And.intro zr214 (by214)))) := And.intro sz214 (And.intro ag214 (And.intro zr214 (by214)))
theorem T216 : type_of% (And.intro sz216 (And.intro ag216 (And.intro zr216 (by216)))) := And.intro sz216 (And.intro ag216 (And.intro zr216 (by216)))
theorem T221 : type_of% (And.intro sz221 (And.intro ag221 (And.intro zr221 (And.intro by221 (pt221))))) := And.intro sz221 (And.intro ag221 (And.intro zr221 (And.intro by221 (pt221))))
theorem T223 : type_of% (And.intro sz223 (And.intro ag223 (And.intro zr223 (by223)))) := And.intro sz223 (And.intro ag223 (And.intro zr223 (by223)))
instance : TZr Tryz.prog 2 (.int .i64 0) := ⟨zr2⟩
instance : TIn Tryz.prog 2 .i64 := ⟨in2⟩
instance : TOne Tryz.prog 3 := ⟨ag3, sz3⟩
instance : TZr Tryz.prog 3 (.int .i64 0) := ⟨zr3⟩
instance : TIn Tryz.prog 3 .i64 := ⟨in3⟩
instance : TOne Tryz.prog 4 := ⟨ag4, sz4⟩
instance : TZr Tryz.prog 4 (.bool false) := ⟨zr4⟩
instance : TOne Tryz.prog 5 := ⟨ag5, sz5⟩
instance : TZr Tryz.prog 5 (.int .u8 0) := ⟨zr5⟩
instance : TIn Tryz.prog 5 .u8 := ⟨in5⟩
instance : TZr Tryz.prog 8 (.agg #[(.int .i64 0), (.int .i64 0), (.bool false), (.int .u8 0)]) := ⟨zr8⟩
instance : TPl Tryz.prog 8 [(0, 1), (1, 1), (2, 1), (3, 1)] := ⟨pl8⟩
instance : TOne Tryz.prog 9 := ⟨ag9, sz9⟩
instance : TZr Tryz.prog 9 (.string ByteArray.empty) := ⟨zr9⟩
instance : TStr Tryz.prog 9 := ⟨st9⟩
instance : TZr Tryz.prog 21 (.int .i32 0) := ⟨zr21⟩
instance : TIn Tryz.prog 21 .i32 := ⟨in21⟩
instance : TOne Tryz.prog 22 := ⟨ag22, sz22⟩
instance : TZr Tryz.prog 22 (.slice none 0 0) := ⟨zr22⟩
instance : TSl Tryz.prog 22 52 2 32 (.agg #[(.int .i64 0), (.slice none 0 0)]) := ⟨sl22, sz52, by52, zr52, by decide, rfl⟩
instance : TOne Tryz.prog 26 := ⟨ag26, sz26⟩
instance : TZr Tryz.prog 26 .nilFunc := ⟨zr26⟩
instance : TOne Tryz.prog 27 := ⟨ag27, sz27⟩
instance : TZr Tryz.prog 27 (.slice none 0 0) := ⟨zr27⟩
instance : TSl Tryz.prog 27 41 6 72 (.agg #[(.int .i64 0), (.string ByteArray.empty), (.string ByteArray.empty), (.string ByteArray.empty), (.int .i64 0), (.bool false)]) := ⟨sl27, sz41, by41, zr41, by decide, rfl⟩
instance : TOne Tryz.prog 28 := ⟨ag28, sz28⟩
instance : TZr Tryz.prog 28 (.int .i64 0) := ⟨zr28⟩
instance : TOne Tryz.prog 38 := ⟨ag38, sz38⟩
instance : TZr Tryz.prog 38 (.slice none 0 0) := ⟨zr38⟩
instance : TSl Tryz.prog 38 9 1 16 (.string ByteArray.empty) := ⟨sl38, sz9, by9, zr9, by decide, rfl⟩
instance : TOne Tryz.prog 39 := ⟨ag39, sz39⟩
instance : TZr Tryz.prog 39 (.slice none 0 0) := ⟨zr39⟩
instance : TSl Tryz.prog 39 3 1 8 (.int .i64 0) := ⟨sl39, sz3, by3, zr3, by decide, rfl⟩
instance : TZr Tryz.prog 40 (.agg #[(.int .i64 0), (.string ByteArray.empty), (.string ByteArray.empty), (.string ByteArray.empty), (.int .i64 0), (.bool false)]) := ⟨zr40⟩
instance : TPl Tryz.prog 40 [(0, 1), (1, 1), (2, 1), (3, 1), (4, 1), (5, 1)] := ⟨pl40⟩
instance : TAgg Tryz.prog 41 6 := ⟨ag41, sz41⟩
instance : TZr Tryz.prog 41 (.agg #[(.int .i64 0), (.string ByteArray.empty), (.string ByteArray.empty), (.string ByteArray.empty), (.int .i64 0), (.bool false)]) := ⟨zr41⟩
instance : TPl Tryz.prog 41 [(0, 1), (1, 1), (2, 1), (3, 1), (4, 1), (5, 1)] := ⟨pl41⟩
instance : TZr Tryz.prog 44 (.slice none 0 0) := ⟨zr44⟩
instance : TSl Tryz.prog 44 4 1 1 (.bool false) := ⟨sl44, sz4, by4, zr4, by decide, rfl⟩
instance : TOne Tryz.prog 45 := ⟨ag45, sz45⟩
instance : TZr Tryz.prog 51 (.agg #[(.int .i64 0), (.slice none 0 0)]) := ⟨zr51⟩
instance : TPl Tryz.prog 51 [(0, 1), (1, 1)] := ⟨pl51⟩
instance : TAgg Tryz.prog 52 2 := ⟨ag52, sz52⟩
instance : TZr Tryz.prog 52 (.agg #[(.int .i64 0), (.slice none 0 0)]) := ⟨zr52⟩
instance : TPl Tryz.prog 52 [(0, 1), (1, 1)] := ⟨pl52⟩
instance : TPl Tryz.prog 58 [(0, 1)] := ⟨pl58⟩
instance : TAgg Tryz.prog 59 1 := ⟨ag59, sz59⟩
instance : TZr Tryz.prog 59 (.agg #[(.slice none 0 0)]) := ⟨zr59⟩
instance : TPl Tryz.prog 59 [(0, 1)] := ⟨pl59⟩
instance : TOne Tryz.prog 60 := ⟨ag60, sz60⟩
instance : TPl Tryz.prog 63 [(0, 1), (1, 1), (2, 1), (3, 1), (4, 1), (5, 1)] := ⟨pl63⟩
instance : TAgg Tryz.prog 64 6 := ⟨ag64, sz64⟩
instance : TZr Tryz.prog 64 (.agg #[(.slice none 0 0), (.int .i64 0), (.bool false), (.int .i64 0), (.slice none 0 0), (.slice none 0 0)]) := ⟨zr64⟩
instance : TPl Tryz.prog 64 [(0, 1), (1, 1), (2, 1), (3, 1), (4, 1), (5, 1)] := ⟨pl64⟩
instance : TZr Tryz.prog 66 (.agg #[(.int .i64 0), (.int .i64 0)]) := ⟨zr66⟩
instance : TPl Tryz.prog 66 [(0, 1), (1, 1)] := ⟨pl66⟩
instance : TAgg Tryz.prog 67 2 := ⟨ag67, sz67⟩
instance : TZr Tryz.prog 67 (.agg #[(.int .i64 0), (.int .i64 0)]) := ⟨zr67⟩
instance : TPl Tryz.prog 67 [(0, 1), (1, 1)] := ⟨pl67⟩
instance : TOne Tryz.prog 69 := ⟨ag69, sz69⟩
instance : TZr Tryz.prog 69 .nilFunc := ⟨zr69⟩
instance : TOne Tryz.prog 70 := ⟨ag70, sz70⟩
instance : TZr Tryz.prog 70 (.slice none 0 0) := ⟨zr70⟩
instance : TSl Tryz.prog 70 39 1 24 (.slice none 0 0) := ⟨sl70, sz39, by39, zr39, by decide, rfl⟩
instance : TOne Tryz.prog 79 := ⟨ag79, sz79⟩
instance : TZr Tryz.prog 79 (.slice none 0 0) := ⟨zr79⟩
instance : TSl Tryz.prog 79 5 1 1 (.int .u8 0) := ⟨sl79, sz5, by5, zr5, by decide, rfl⟩
instance : TZr Tryz.prog 107 (.agg #[(.int .i64 0)]) := ⟨zr107⟩
instance : TPl Tryz.prog 107 [(0, 1)] := ⟨pl107⟩
instance : TAgg Tryz.prog 108 1 := ⟨ag108, sz108⟩
instance : TZr Tryz.prog 108 (.agg #[(.int .i64 0)]) := ⟨zr108⟩
instance : TPl Tryz.prog 108 [(0, 1)] := ⟨pl108⟩
instance : TZr Tryz.prog 110 (.agg #[(.int .i64 0), (.int .i64 0), (.bool false)]) := ⟨zr110⟩
instance : TPl Tryz.prog 110 [(0, 2), (2, 1)] := ⟨pl110⟩
instance : TAgg Tryz.prog 111 3 := ⟨ag111, sz111⟩
instance : TZr Tryz.prog 111 (.agg #[(.int .i64 0), (.int .i64 0), (.bool false)]) := ⟨zr111⟩
instance : TPl Tryz.prog 111 [(0, 2), (2, 1)] := ⟨pl111⟩
instance : TZr Tryz.prog 132 (.agg #[(.string ByteArray.empty), (.string ByteArray.empty), (.int .i64 0), (.int .i64 0)]) := ⟨zr132⟩
instance : TPl Tryz.prog 132 [(0, 1), (1, 1), (2, 2)] := ⟨pl132⟩
instance : TAgg Tryz.prog 133 4 := ⟨ag133, sz133⟩
instance : TZr Tryz.prog 133 (.agg #[(.string ByteArray.empty), (.string ByteArray.empty), (.int .i64 0), (.int .i64 0)]) := ⟨zr133⟩
instance : TPl Tryz.prog 133 [(0, 1), (1, 1), (2, 2)] := ⟨pl133⟩
instance : TOne Tryz.prog 188 := ⟨ag188, sz188⟩
instance : TZr Tryz.prog 188 (.slice none 0 0) := ⟨zr188⟩
instance : TSl Tryz.prog 188 191 2 32 (.agg #[(.slice none 0 0), (.bool false)]) := ⟨sl188, sz191, by191, zr191, by decide, rfl⟩
instance : TOne Tryz.prog 189 := ⟨ag189, sz189⟩
instance : TZr Tryz.prog 189 (.slice none 0 0) := ⟨zr189⟩
instance : TSl Tryz.prog 189 210 2 16 (.agg #[(.int .i64 0), (.bool false)]) := ⟨sl189, sz210, by210, zr210, by decide, rfl⟩
instance : TZr Tryz.prog 190 (.agg #[(.slice none 0 0), (.bool false)]) := ⟨zr190⟩
instance : TPl Tryz.prog 190 [(0, 1), (1, 1)] := ⟨pl190⟩
instance : TAgg Tryz.prog 191 2 := ⟨ag191, sz191⟩
instance : TZr Tryz.prog 191 (.agg #[(.slice none 0 0), (.bool false)]) := ⟨zr191⟩
instance : TPl Tryz.prog 191 [(0, 1), (1, 1)] := ⟨pl191⟩
instance : TZr Tryz.prog 209 (.agg #[(.int .i64 0), (.bool false)]) := ⟨zr209⟩
instance : TPl Tryz.prog 209 [(0, 1), (1, 1)] := ⟨pl209⟩
instance : TAgg Tryz.prog 210 2 := ⟨ag210, sz210⟩
instance : TZr Tryz.prog 210 (.agg #[(.int .i64 0), (.bool false)]) := ⟨zr210⟩
instance : TPl Tryz.prog 210 [(0, 1), (1, 1)] := ⟨pl210⟩
theorem cok12 : callOk Tryz.prog 12 = True := eq_true ⟨_, Tryz.func12, by kernel_rfl, by kernel_rfl⟩
theorem cok14 : callOk Tryz.prog 14 = True := eq_true ⟨_, Tryz.func14, by kernel_rfl, by kernel_rfl⟩
theorem cok15 : callOk Tryz.prog 15 = True := eq_true ⟨_, Tryz.func15, by kernel_rfl, by kernel_rfl⟩
theorem cok17 : callOk Tryz.prog 17 = True := eq_true ⟨_, Tryz.func17, by kernel_rfl, by kernel_rfl⟩
theorem cok18 : callOk Tryz.prog 18 = True := eq_true ⟨_, Tryz.func18, by kernel_rfl, by kernel_rfl⟩
theorem cok19 : callOk Tryz.prog 19 = True := eq_true ⟨_, Tryz.func19, by kernel_rfl, by kernel_rfl⟩
theorem cok20 : callOk Tryz.prog 20 = True := eq_true ⟨_, Tryz.func20, by kernel_rfl, by kernel_rfl⟩
theorem cok26 : callOk Tryz.prog 26 = True := eq_true ⟨_, Tryz.func26, by kernel_rfl, by kernel_rfl⟩
theorem cok27 : callOk Tryz.prog 27 = True := eq_true ⟨_, Tryz.func27, by kernel_rfl, by kernel_rfl⟩
theorem cok30 : callOk Tryz.prog 30 = True := eq_true ⟨_, Tryz.func30, by kernel_rfl, by kernel_rfl⟩
theorem cok31 : callOk Tryz.prog 31 = True := eq_true ⟨_, Tryz.func31, by kernel_rfl, by kernel_rfl⟩
theorem cok32 : callOk Tryz.prog 32 = True := eq_true ⟨_, Tryz.func32, by kernel_rfl, by kernel_rfl⟩
theorem cok33 : callOk Tryz.prog 33 = True := eq_true ⟨_, Tryz.func33, by kernel_rfl, by kernel_rfl⟩
theorem cok34 : callOk Tryz.prog 34 = True := eq_true ⟨_, Tryz.func34, by kernel_rfl, by kernel_rfl⟩
theorem cok35 : callOk Tryz.prog 35 = True := eq_true ⟨_, Tryz.func35, by kernel_rfl, by kernel_rfl⟩
theorem cok36 : callOk Tryz.prog 36 = True := eq_true ⟨_, Tryz.func36, by kernel_rfl, by kernel_rfl⟩
theorem cok39 : callOk Tryz.prog 39 = True := eq_true ⟨_, Tryz.func39, by kernel_rfl, by kernel_rfl⟩
theorem cok40 : callOk Tryz.prog 40 = True := eq_true ⟨_, Tryz.func40, by kernel_rfl, by kernel_rfl⟩
theorem cok41 : callOk Tryz.prog 41 = True := eq_true ⟨_, Tryz.func41, by kernel_rfl, by kernel_rfl⟩
theorem cok42 : callOk Tryz.prog 42 = True := eq_true ⟨_, Tryz.func42, by kernel_rfl, by kernel_rfl⟩
theorem cok43 : callOk Tryz.prog 43 = True := eq_true ⟨_, Tryz.func43, by kernel_rfl, by kernel_rfl⟩
theorem cok47 : callOk Tryz.prog 47 = True := eq_true ⟨_, Tryz.func47, by kernel_rfl, by kernel_rfl⟩
theorem cok48 : callOk Tryz.prog 48 = True := eq_true ⟨_, Tryz.func48, by kernel_rfl, by kernel_rfl⟩
theorem cok49 : callOk Tryz.prog 49 = True := eq_true ⟨_, Tryz.func49, by kernel_rfl, by kernel_rfl⟩
theorem cok50 : callOk Tryz.prog 50 = True := eq_true ⟨_, Tryz.func50, by kernel_rfl, by kernel_rfl⟩
theorem cok51 : callOk Tryz.prog 51 = True := eq_true ⟨_, Tryz.func51, by kernel_rfl, by kernel_rfl⟩
theorem cok52 : callOk Tryz.prog 52 = True := eq_true ⟨_, Tryz.func52, by kernel_rfl, by kernel_rfl⟩
theorem cok53 : callOk Tryz.prog 53 = True := eq_true ⟨_, Tryz.func53, by kernel_rfl, by kernel_rfl⟩
theorem cok54 : callOk Tryz.prog 54 = True := eq_true ⟨_, Tryz.func54, by kernel_rfl, by kernel_rfl⟩
theorem cok55 : callOk Tryz.prog 55 = True := eq_true ⟨_, Tryz.func55, by kernel_rfl, by kernel_rfl⟩
theorem cok65 : callOk Tryz.prog 65 = True := eq_true ⟨_, Tryz.func65, by kernel_rfl, by kernel_rfl⟩
theorem cok66 : callOk Tryz.prog 66 = True := eq_true ⟨_, Tryz.func66, by kernel_rfl, by kernel_rfl⟩
theorem cok76 : callOk Tryz.prog 76 = True := eq_true ⟨_, Tryz.func76, by kernel_rfl, by kernel_rfl⟩
theorem cok77 : callOk Tryz.prog 77 = True := eq_true ⟨_, Tryz.func77, by kernel_rfl, by kernel_rfl⟩
theorem cok78 : callOk Tryz.prog 78 = True := eq_true ⟨_, Tryz.func78, by kernel_rfl, by kernel_rfl⟩
theorem cok79 : callOk Tryz.prog 79 = True := eq_true ⟨_, Tryz.func79, by kernel_rfl, by kernel_rfl⟩
theorem cok80 : callOk Tryz.prog 80 = True := eq_true ⟨_, Tryz.func80, by kernel_rfl, by kernel_rfl⟩
theorem cok81 : callOk Tryz.prog 81 = True := eq_true ⟨_, Tryz.func81, by kernel_rfl, by kernel_rfl⟩
theorem cok82 : callOk Tryz.prog 82 = True := eq_true ⟨_, Tryz.func82, by kernel_rfl, by kernel_rfl⟩
theorem cok83 : callOk Tryz.prog 83 = True := eq_true ⟨_, Tryz.func83, by kernel_rfl, by kernel_rfl⟩
theorem cok84 : callOk Tryz.prog 84 = True := eq_true ⟨_, Tryz.func84, by kernel_rfl, by kernel_rfl⟩
theorem cok85 : callOk Tryz.prog 85 = True := eq_true ⟨_, Tryz.func85, by kernel_rfl, by kernel_rfl⟩
theorem cok86 : callOk Tryz.prog 86 = True := eq_true ⟨_, Tryz.func86, by kernel_rfl, by kernel_rfl⟩
theorem cok87 : callOk Tryz.prog 87 = True := eq_true ⟨_, Tryz.func87, by kernel_rfl, by kernel_rfl⟩
theorem cok93 : callOk Tryz.prog 93 = True := eq_true ⟨_, Tryz.func93, by kernel_rfl, by kernel_rfl⟩
theorem cok94 : callOk Tryz.prog 94 = True := eq_true ⟨_, Tryz.func94, by kernel_rfl, by kernel_rfl⟩
theorem cok108 : callOk Tryz.prog 108 = True := eq_true ⟨_, Tryz.func108, by kernel_rfl, by kernel_rfl⟩
theorem cok109 : callOk Tryz.prog 109 = True := eq_true ⟨_, Tryz.func109, by kernel_rfl, by kernel_rfl⟩
theorem cok110 : callOk Tryz.prog 110 = True := eq_true ⟨_, Tryz.func110, by kernel_rfl, by kernel_rfl⟩
theorem cok111 : callOk Tryz.prog 111 = True := eq_true ⟨_, Tryz.func111, by kernel_rfl, by kernel_rfl⟩
theorem cok112 : callOk Tryz.prog 112 = True := eq_true ⟨_, Tryz.func112, by kernel_rfl, by kernel_rfl⟩
theorem cok113 : callOk Tryz.prog 113 = True := eq_true ⟨_, Tryz.func113, by kernel_rfl, by kernel_rfl⟩
theorem cok114 : callOk Tryz.prog 114 = True := eq_true ⟨_, Tryz.func114, by kernel_rfl, by kernel_rfl⟩
theorem cok115 : callOk Tryz.prog 115 = True := eq_true ⟨_, Tryz.func115, by kernel_rfl, by kernel_rfl⟩
theorem cok116 : callOk Tryz.prog 116 = True := eq_true ⟨_, Tryz.func116, by kernel_rfl, by kernel_rfl⟩
theorem cok117 : callOk Tryz.prog 117 = True := eq_true ⟨_, Tryz.func117, by kernel_rfl, by kernel_rfl⟩
theorem cok118 : callOk Tryz.prog 118 = True := eq_true ⟨_, Tryz.func118, by kernel_rfl, by kernel_rfl⟩
theorem cok119 : callOk Tryz.prog 119 = True := eq_true ⟨_, Tryz.func119, by kernel_rfl, by kernel_rfl⟩
theorem cok120 : callOk Tryz.prog 120 = True := eq_true ⟨_, Tryz.func120, by kernel_rfl, by kernel_rfl⟩
theorem cok121 : callOk Tryz.prog 121 = True := eq_true ⟨_, Tryz.func121, by kernel_rfl, by kernel_rfl⟩
theorem cok122 : callOk Tryz.prog 122 = True := eq_true ⟨_, Tryz.func122, by kernel_rfl, by kernel_rfl⟩
theorem cok123 : callOk Tryz.prog 123 = True := eq_true ⟨_, Tryz.func123, by kernel_rfl, by kernel_rfl⟩
theorem cok124 : callOk Tryz.prog 124 = True := eq_true ⟨_, Tryz.func124, by kernel_rfl, by kernel_rfl⟩
theorem cok125 : callOk Tryz.prog 125 = True := eq_true ⟨_, Tryz.func125, by kernel_rfl, by kernel_rfl⟩
theorem cok126 : callOk Tryz.prog 126 = True := eq_true ⟨_, Tryz.func126, by kernel_rfl, by kernel_rfl⟩
theorem cok127 : callOk Tryz.prog 127 = True := eq_true ⟨_, Tryz.func127, by kernel_rfl, by kernel_rfl⟩
theorem cok128 : callOk Tryz.prog 128 = True := eq_true ⟨_, Tryz.func128, by kernel_rfl, by kernel_rfl⟩
theorem cok129 : callOk Tryz.prog 129 = True := eq_true ⟨_, Tryz.func129, by kernel_rfl, by kernel_rfl⟩
theorem cok130 : callOk Tryz.prog 130 = True := eq_true ⟨_, Tryz.func130, by kernel_rfl, by kernel_rfl⟩
theorem cok131 : callOk Tryz.prog 131 = True := eq_true ⟨_, Tryz.func131, by kernel_rfl, by kernel_rfl⟩
theorem cok132 : callOk Tryz.prog 132 = True := eq_true ⟨_, Tryz.func132, by kernel_rfl, by kernel_rfl⟩
theorem cok133 : callOk Tryz.prog 133 = True := eq_true ⟨_, Tryz.func133, by kernel_rfl, by kernel_rfl⟩
theorem cok144 : callOk Tryz.prog 144 = True := eq_true ⟨_, Tryz.func144, by kernel_rfl, by kernel_rfl⟩
theorem cok145 : callOk Tryz.prog 145 = True := eq_true ⟨_, Tryz.func145, by kernel_rfl, by kernel_rfl⟩
theorem cok146 : callOk Tryz.prog 146 = True := eq_true ⟨_, Tryz.func146, by kernel_rfl, by kernel_rfl⟩
theorem cok147 : callOk Tryz.prog 147 = True := eq_true ⟨_, Tryz.func147, by kernel_rfl, by kernel_rfl⟩
theorem cok148 : callOk Tryz.prog 148 = True := eq_true ⟨_, Tryz.func148, by kernel_rfl, by kernel_rfl⟩
theorem cok149 : callOk Tryz.prog 149 = True := eq_true ⟨_, Tryz.func149, by kernel_rfl, by kernel_rfl⟩
theorem cok150 : callOk Tryz.prog 150 = True := eq_true ⟨_, Tryz.func150, by kernel_rfl, by kernel_rfl⟩
theorem cok151 : callOk Tryz.prog 151 = True := eq_true ⟨_, Tryz.func151, by kernel_rfl, by kernel_rfl⟩
theorem cok152 : callOk Tryz.prog 152 = True := eq_true ⟨_, Tryz.func152, by kernel_rfl, by kernel_rfl⟩
theorem cok153 : callOk Tryz.prog 153 = True := eq_true ⟨_, Tryz.func153, by kernel_rfl, by kernel_rfl⟩
theorem cok154 : callOk Tryz.prog 154 = True := eq_true ⟨_, Tryz.func154, by kernel_rfl, by kernel_rfl⟩
theorem cok155 : callOk Tryz.prog 155 = True := eq_true ⟨_, Tryz.func155, by kernel_rfl, by kernel_rfl⟩
theorem cok156 : callOk Tryz.prog 156 = True := eq_true ⟨_, Tryz.func156, by kernel_rfl, by kernel_rfl⟩
theorem cok157 : callOk Tryz.prog 157 = True := eq_true ⟨_, Tryz.func157, by kernel_rfl, by kernel_rfl⟩
theorem cok158 : callOk Tryz.prog 158 = True := eq_true ⟨_, Tryz.func158, by kernel_rfl, by kernel_rfl⟩
theorem cok159 : callOk Tryz.prog 159 = True := eq_true ⟨_, Tryz.func159, by kernel_rfl, by kernel_rfl⟩
theorem cok160 : callOk Tryz.prog 160 = True := eq_true ⟨_, Tryz.func160, by kernel_rfl, by kernel_rfl⟩
theorem cok161 : callOk Tryz.prog 161 = True := eq_true ⟨_, Tryz.func161, by kernel_rfl, by kernel_rfl⟩
theorem cok162 : callOk Tryz.prog 162 = True := eq_true ⟨_, Tryz.func162, by kernel_rfl, by kernel_rfl⟩
theorem cok163 : callOk Tryz.prog 163 = True := eq_true ⟨_, Tryz.func163, by kernel_rfl, by kernel_rfl⟩
theorem cok164 : callOk Tryz.prog 164 = True := eq_true ⟨_, Tryz.func164, by kernel_rfl, by kernel_rfl⟩
theorem cok165 : callOk Tryz.prog 165 = True := eq_true ⟨_, Tryz.func165, by kernel_rfl, by kernel_rfl⟩
theorem cok166 : callOk Tryz.prog 166 = True := eq_true ⟨_, Tryz.func166, by kernel_rfl, by kernel_rfl⟩
theorem cok167 : callOk Tryz.prog 167 = True := eq_true ⟨_, Tryz.func167, by kernel_rfl, by kernel_rfl⟩
theorem cok168 : callOk Tryz.prog 168 = True := eq_true ⟨_, Tryz.func168, by kernel_rfl, by kernel_rfl⟩
theorem cok169 : callOk Tryz.prog 169 = True := eq_true ⟨_, Tryz.func169, by kernel_rfl, by kernel_rfl⟩
theorem cok170 : callOk Tryz.prog 170 = True := eq_true ⟨_, Tryz.func170, by kernel_rfl, by kernel_rfl⟩
theorem cok173 : callOk Tryz.prog 173 = True := eq_true ⟨_, Tryz.func173, by kernel_rfl, by kernel_rfl⟩
theorem cok174 : callOk Tryz.prog 174 = True := eq_true ⟨_, Tryz.func174, by kernel_rfl, by kernel_rfl⟩
theorem cok175 : callOk Tryz.prog 175 = True := eq_true ⟨_, Tryz.func175, by kernel_rfl, by kernel_rfl⟩
theorem cok176 : callOk Tryz.prog 176 = True := eq_true ⟨_, Tryz.func176, by kernel_rfl, by kernel_rfl⟩
theorem cok177 : callOk Tryz.prog 177 = True := eq_true ⟨_, Tryz.func177, by kernel_rfl, by kernel_rfl⟩
theorem cok178 : callOk Tryz.prog 178 = True := eq_true ⟨_, Tryz.func178, by kernel_rfl, by kernel_rfl⟩
theorem cok179 : callOk Tryz.prog 179 = True := eq_true ⟨_, Tryz.func179, by kernel_rfl, by kernel_rfl⟩
theorem cok180 : callOk Tryz.prog 180 = True := eq_true ⟨_, Tryz.func180, by kernel_rfl, by kernel_rfl⟩
theorem cok181 : callOk Tryz.prog 181 = True := eq_true ⟨_, Tryz.func181, by kernel_rfl, by kernel_rfl⟩
theorem cok182 : callOk Tryz.prog 182 = True := eq_true ⟨_, Tryz.func182, by kernel_rfl, by kernel_rfl⟩
theorem cok183 : callOk Tryz.prog 183 = True := eq_true ⟨_, Tryz.func183, by kernel_rfl, by kernel_rfl⟩
theorem cok184 : callOk Tryz.prog 184 = True := eq_true ⟨_, Tryz.func184, by kernel_rfl, by kernel_rfl⟩
theorem cok185 : callOk Tryz.prog 185 = True := eq_true ⟨_, Tryz.func185, by kernel_rfl, by kernel_rfl⟩
theorem cok186 : callOk Tryz.prog 186 = True := eq_true ⟨_, Tryz.func186, by kernel_rfl, by kernel_rfl⟩
theorem cok187 : callOk Tryz.prog 187 = True := eq_true ⟨_, Tryz.func187, by kernel_rfl, by kernel_rfl⟩
theorem cok188 : callOk Tryz.prog 188 = True := eq_true ⟨_, Tryz.func188, by kernel_rfl, by kernel_rfl⟩
theorem cok189 : callOk Tryz.prog 189 = True := eq_true ⟨_, Tryz.func189, by kernel_rfl, by kernel_rfl⟩
theorem cok190 : callOk Tryz.prog 190 = True := eq_true ⟨_, Tryz.func190, by kernel_rfl, by kernel_rfl⟩
theorem cok191 : callOk Tryz.prog 191 = True := eq_true ⟨_, Tryz.func191, by kernel_rfl, by kernel_rfl⟩
theorem cok192 : callOk Tryz.prog 192 = True := eq_true ⟨_, Tryz.func192, by kernel_rfl, by kernel_rfl⟩
theorem cok193 : callOk Tryz.prog 193 = True := eq_true ⟨_, Tryz.func193, by kernel_rfl, by kernel_rfl⟩
theorem cok194 : callOk Tryz.prog 194 = True := eq_true ⟨_, Tryz.func194, by kernel_rfl, by kernel_rfl⟩
theorem cok195 : callOk Tryz.prog 195 = True := eq_true ⟨_, Tryz.func195, by kernel_rfl, by kernel_rfl⟩
theorem cok196 : callOk Tryz.prog 196 = True := eq_true ⟨_, Tryz.func196, by kernel_rfl, by kernel_rfl⟩
theorem cok197 : callOk Tryz.prog 197 = True := eq_true ⟨_, Tryz.func197, by kernel_rfl, by kernel_rfl⟩
theorem cok198 : callOk Tryz.prog 198 = True := eq_true ⟨_, Tryz.func198, by kernel_rfl, by kernel_rfl⟩
theorem cok199 : callOk Tryz.prog 199 = True := eq_true ⟨_, Tryz.func199, by kernel_rfl, by kernel_rfl⟩
theorem cok200 : callOk Tryz.prog 200 = True := eq_true ⟨_, Tryz.func200, by kernel_rfl, by kernel_rfl⟩
theorem cok201 : callOk Tryz.prog 201 = True := eq_true ⟨_, Tryz.func201, by kernel_rfl, by kernel_rfl⟩
theorem cok202 : callOk Tryz.prog 202 = True := eq_true ⟨_, Tryz.func202, by kernel_rfl, by kernel_rfl⟩
theorem cok203 : callOk Tryz.prog 203 = True := eq_true ⟨_, Tryz.func203, by kernel_rfl, by kernel_rfl⟩
theorem cok204 : callOk Tryz.prog 204 = True := eq_true ⟨_, Tryz.func204, by kernel_rfl, by kernel_rfl⟩
theorem cok205 : callOk Tryz.prog 205 = True := eq_true ⟨_, Tryz.func205, by kernel_rfl, by kernel_rfl⟩
theorem cok206 : callOk Tryz.prog 206 = True := eq_true ⟨_, Tryz.func206, by kernel_rfl, by kernel_rfl⟩
theorem mixed : Tryz.prog.follows .mixedOrders = true := by kernel_rfl
end Go.Proofs.YtgoofaeifbfblaaGreat
/-
  Walks: chapter 2's functions, and the reference's; equality of lists.
-/


namespace Go.Proofs.YtgoofaeifbfblaaGreat
open Go.Abs
set_option linter.unusedVariables false
set_option linter.unusedSimpArgs false
variable {κ : Ctx} {σ : List Res} {K : Ret → List Res → Prop} {o o' : Option (Option (Nat × Nat))}
set_option maxHeartbeats 2000000 in
theorem Blank {c : Int} (hK : K (.ret (B (blankI c))) σ) : ACallF κ Tryz.prog 34 [I c] σ K := by
  refine ACallF.dropL (ACallF_intro Tryz.func34 rfl ?_)
  simp only [Tryz.ntmps34]
  repeat' (first | simp only [WL, intF, WM, reduceCtorEq, WLb, Nat.reduceAdd, Nat.reduceSub, Bool.not_false, true_and, reduceIte, Bool.false_eq_true, Tryz.results34] | ((with_reducible first | refine grd_cases (fun h => ?_) (fun h => ?_) | refine condC_split (fun h => ?_) (fun h => ?_)) <;> (try simp only [h]) <;> (try simp only [NR_, NRb] at h)))
  all_goals (refine leafL sub_rfl (leT_eq (congrArg B ?_)) hK; simp [blankI, *])
  all_goals (rw [Bool.eq_iff_iff]; simp)
set_option maxHeartbeats 2000000 in
theorem within {c a b : Int} (hK : K (.ret (B (decide (a ≤ c ∧ c ≤ b)))) σ) : ACallF κ Tryz.prog 200 [I c, I a, I b] σ K := by
  refine ACallF.dropL (ACallF_intro Tryz.func200 rfl ?_)
  simp only [Tryz.ntmps200]
  repeat' (first | simp only [WL, intF, WM, reduceCtorEq, WLb, Nat.reduceAdd, Nat.reduceSub, Bool.not_true, true_and, reduceIte, Bool.false_eq_true, Tryz.results200] | ((with_reducible first | refine grd_cases (fun h => ?_) (fun h => ?_) | refine condC_split (fun h => ?_) (fun h => ?_)) <;> (try simp only [h]) <;> (try simp only [NR_, NRb] at h)))
  all_goals (refine leafL sub_rfl (leT_eq (congrArg B ?_)) hK; rw [Bool.eq_iff_iff]; simp; omega)
set_option maxHeartbeats 2000000 in
theorem Print {c : Int} (hK : K (.ret (B (printI c))) σ) : ACallF κ Tryz.prog 186 [I c] σ K := by
  refine ACallF.dropL (ACallF_intro Tryz.func186 rfl ?_)
  simp only [Tryz.ntmps186]
  repeat' (first | simp only [WL, intF, WM, reduceCtorEq, WLb, Nat.reduceAdd, Nat.reduceSub, Bool.not_false, true_and, reduceIte, Bool.false_eq_true, cok200, Tryz.results186] | with_reducible refine cD (within ?_) | ((with_reducible first | refine grd_cases (fun h => ?_) (fun h => ?_) | refine condC_split (fun h => ?_) (fun h => ?_)) <;> (try simp only [h]) <;> (try simp only [NR_, NRb] at h)))
  all_goals (refine leafL sub_rfl (leT_eq (congrArg B ?_)) hK; rw [Bool.eq_iff_iff]; simp only [printI, decide_eq_true_eq, Bool.false_eq_true, false_iff, true_iff, eq_self]; omega)
set_option maxHeartbeats 2000000 in
theorem rPrint {c : Int} (hK : K (.ret (B (printI c))) σ) : ACallF κ Tryz.prog 40 [I c] σ K := by
  refine ACallF.dropL (ACallF_intro Tryz.func40 rfl ?_)
  simp only [Tryz.ntmps40]
  repeat' (first | simp only [WL, intF, WM, reduceCtorEq, WLb, Nat.reduceAdd, Nat.reduceSub, Bool.not_true, Bool.not_false, true_and, reduceIte, Bool.false_eq_true, Tryz.results40] | ((with_reducible first | refine grd_cases (fun h => ?_) (fun h => ?_) | refine condC_split (fun h => ?_) (fun h => ?_)) <;> (try simp only [h]) <;> (try simp only [NR_, NRb] at h)) | omega)
  all_goals (refine leafL sub_rfl (leT_eq (congrArg B ?_)) hK; rw [Bool.eq_iff_iff]; simp only [printI, decide_eq_true_eq, Bool.false_eq_true, false_iff, true_iff, eq_self]; omega)
set_option maxHeartbeats 2000000 in
theorem rest {l : List Int} (hl : l.length ≤ 1000000000) (hK : K (.ret (SI none (l.dropWhile blankI))) σ) : ACallF κ Tryz.prog 152 [SI o l] σ K := by
  refine ACallF.dropL (ACallF_intro Tryz.func152 rfl ?_)
  simp only [Tryz.ntmps152]
  repeat' (first | simp only [WL, WM, Nat.reduceAdd, Nat.reduceSub])
  refine loop_by (fun x : Option (Option (Nat × Nat)) × List Int => ⟨(SI x.1 x.2 :: .any :: .any :: .any :: .any :: .any :: .any :: .any :: .any :: .any :: .any :: .any :: .any :: .any :: .any :: []), σ, true, []⟩) (fun x => x.2.dropWhile blankI = l.dropWhile blankI ∧ x.2.length ≤ l.length) (fun x => x.2.length) (o, l) (St_le_same (by repeat (first | exact trivial | refine ⟨le_rfl, ?_⟩ | refine ⟨le_any, ?_⟩ | refine ⟨le_ro, ?_⟩ | refine ⟨le_nil (by decide), ?_⟩ | refine ⟨le_wrap (by omega) (by omega) (by omega), ?_⟩ | refine ⟨le_int (by omega), ?_⟩ | refine ⟨le_eq (by simp), ?_⟩)) id) ⟨rfl, Nat.le_refl _⟩ ?_
  rintro ⟨o', l'⟩ ⟨h1, h2⟩
  dsimp only at h1 h2 ⊢
  repeat' (first | simp only [WL, intF, WM, Int.reduceToNat, reduceCtorEq, WLb, Nat.reduceAdd, Bool.not_true, true_and, reduceIte, Bool.false_eq_true, T3, T39, cok34, Tryz.results152] | simp (disch := first | omega | (simp only [LN_]; omega)) only [getI] | (with_reducible first | refine andA (hb := ?_) | refine cD (Blank ?_)) | ((with_reducible first | refine grd_cases (fun h => ?_) (fun h => ?_) | refine condC_split (fun h => ?_) (fun h => ?_)) <;> (try simp only [h]) <;> (try simp only [NR_, NRb] at h)))
  · refine ⟨(none, l'.drop 1), St_le_same (by repeat (first | exact trivial | refine ⟨le_rfl, ?_⟩ | refine ⟨le_any, ?_⟩ | refine ⟨le_ro, ?_⟩ | refine ⟨le_nil (by decide), ?_⟩ | refine ⟨le_wrap (by omega) (by omega) (by omega), ?_⟩ | refine ⟨le_int (by omega), ?_⟩ | refine ⟨le_eq (by simp), ?_⟩)) id, ⟨?_, ?_⟩, ?_⟩
    · rw [← h1]; exact (dw_step (by omega) h).symm
    · simp; omega
    · simp; omega
  · exact leafL sub_rfl (leT_le (by rw [← h1, dw_stop (by omega) h]; exact le_ro)) hK
  · exact leafL sub_rfl (leT_le (by rw [← h1, List.eq_nil_of_length_eq_zero (l := l') (by omega)]; exact le_ro)) hK
set_option maxHeartbeats 2000000 in
theorem lEmpty {n : Int} {l : List Int} (hl : l.length ≤ 1000000000) (hK : K (.ret (B (l.all blankI))) σ) : ACallF κ Tryz.prog 116 [.agg [I n, SI o l]] σ K := by
  refine ACallF.dropL (ACallF_intro Tryz.func116 rfl ?_)
  simp only [Tryz.ntmps116]
  repeat' (first | simp only [WL, intF, WM, reduceCtorEq, WLb, Nat.reduceAdd, Nat.reduceSub, Nat.reduceEqDiff, true_and, T39, fR fl52_1, cok152, Tryz.results116] | (with_reducible first | refine andA (hb := ?_) | refine y_load (hK := ?_) | refine y_box (hK := fun b => ?_) | refine cD (rest ?_ ?_)) | omega)
  exact leafL (sub_cons sub_rfl) (leT_eq (congrArg B (by rw [Bool.eq_iff_iff, ← dw_all]; simp))) hK
set_option maxHeartbeats 4000000 in
theorem among {s : ByteArray} {c : Int} (hs : s.size ≤ 1000000000) (hK : K (.ret (B (decide (c ∈ bytesI s)))) σ) : ACallF κ Tryz.prog 167 [.raw (.string s), I c] σ K := by
  have hl := bytesI_len s
  refine ACallF.dropL (ACallF_intro Tryz.func167 rfl ?_)
  simp only [Tryz.ntmps167]
  repeat' (first | simp only [WL, WM, Nat.reduceAdd, Nat.reduceSub, true_and, convC_str, T79] | with_reducible refine y_str ?_ ?_ | (refine maxLen_ok ?_; (first | omega | (simp only [LN_]; omega))))
  refine loop_by (fun k : Nat => ⟨(.raw (.string s) :: I c :: .any :: .any :: .any :: .any :: .any :: .any :: SU none (bytesI s) :: I s.size :: I k :: .any :: .any :: .any :: .any :: .any :: .any :: .any :: .any :: []), σ, true, []⟩) (fun k => k ≤ s.size ∧ ∀ j, j < k → ¬ (bytesI s).getD j 0 = c) (fun k => s.size - k) 0 (St_le_same (by simp only [hl]; repeat (first | exact trivial | refine ⟨le_rfl, ?_⟩ | refine ⟨le_any, ?_⟩ | refine ⟨le_ro, ?_⟩ | refine ⟨le_nil (by decide), ?_⟩ | refine ⟨le_wrap (by omega) (by omega) (by omega), ?_⟩ | refine ⟨le_int (by omega), ?_⟩ | refine ⟨le_eq (by simp), ?_⟩)) id) ⟨Nat.zero_le _, fun j h => by omega⟩ ?_
  rintro k ⟨hk, hb⟩
  have hby : k < s.size → 0 ≤ (bytesI s).getD k 0 ∧ (bytesI s).getD k 0 ≤ 255 := fun h => bytesI_byte s _ (by rw [List.getD_eq_getElem?_getD, List.getElem?_eq_getElem (by omega)]; exact List.getElem_mem _)
  repeat' (first | simp only [WL, intF, WM, reduceCtorEq, WLb, Nat.reduceAdd, true_and, T5, T79, cI in3, Tryz.results167] | simp (disch := first | omega | (simp only [LN_]; omega)) only [wrap_id, getU] | with_reducible refine andA (hb := ?_) | ((with_reducible first | refine grd_cases (fun h => ?_) (fun h => ?_) | refine condC_split (fun h => ?_) (fun h => ?_)) <;> (try simp only [h]) <;> (try simp only [NR_, NRb] at h)))
  · exact leafL sub_rfl (leT_eq (congrArg B (decide_eq_true (mem_getD (k := k) (by omega) (by assumption))).symm)) hK
  · refine ⟨k + 1, St_le_same (by repeat (first | exact trivial | refine ⟨le_rfl, ?_⟩ | refine ⟨le_any, ?_⟩ | refine ⟨le_ro, ?_⟩ | refine ⟨le_nil (by decide), ?_⟩ | refine ⟨le_wrap (by omega) (by omega) (by omega), ?_⟩ | refine ⟨le_int (by omega), ?_⟩ | refine ⟨le_eq (by simp), ?_⟩)) id, ⟨by omega, fun j h => ?_⟩, by omega⟩
    rcases Nat.lt_succ_iff_lt_or_eq.1 h with h | rfl
    · exact hb j h
    · assumption
  · exact leafL sub_rfl (leT_eq (congrArg B (decide_eq_false (not_mem_getD (fun j hj => hb j (by omega)))).symm)) hK
set_option maxHeartbeats 4000000 in
theorem cFlow {c : Int} (hK : K (.ret (B (flowI c))) σ) : ACallF κ Tryz.prog 148 [I c] σ K := by
  refine ACallF.dropL (ACallF_intro Tryz.func148 rfl ?_)
  simp only [Tryz.ntmps148]
  repeat' (first | simp only [WL, WM, Nat.reduceAdd, Nat.reduceSub, true_and, cok167, Tryz.results148] | with_reducible refine cD (among ?_ ?_))
  · decide
  · exact leafL sub_rfl (leT_eq (congrArg B (flow_mem (by decide) c))) hK
set_option maxHeartbeats 4000000 in
theorem cName {c : Int} (hK : K (.ret (B (nameI c))) σ) : ACallF κ Tryz.prog 180 [I c] σ K := by
  refine ACallF.dropL (ACallF_intro Tryz.func180 rfl ?_)
  simp only [Tryz.ntmps180]
  repeat' (first | simp only [WL, intF, WM, reduceCtorEq, WLb, Nat.reduceAdd, Nat.reduceSub, Bool.not_true, true_and, reduceIte, Bool.false_eq_true, cok34, cok148, cok186, Tryz.results180] | (with_reducible first | refine cD (Blank ?_) | refine cD (cFlow ?_) | refine cD (Print ?_)) | ((with_reducible first | refine grd_cases (fun h => ?_) (fun h => ?_) | refine condC_split (fun h => ?_) (fun h => ?_)) <;> (try simp only [h]) <;> (try simp only [NR_, NRb] at h)))
  all_goals exact leafL sub_rfl (leT_eq (congrArg B (by simp [nameI, *]))) hK
set_option maxHeartbeats 4000000 in
theorem cWord {c : Int} (hK : K (.ret (B (wordI c))) σ) : ACallF κ Tryz.prog 202 [I c] σ K := by
  refine ACallF.dropL (ACallF_intro Tryz.func202 rfl ?_)
  simp only [Tryz.ntmps202]
  repeat' (first | simp only [WL, intF, WM, reduceCtorEq, WLb, Nat.reduceAdd, Nat.reduceSub, Bool.not_false, true_and, reduceIte, Bool.false_eq_true, cok200, Tryz.results202] | with_reducible refine cD (within ?_) | ((with_reducible first | refine grd_cases (fun h => ?_) (fun h => ?_) | refine condC_split (fun h => ?_) (fun h => ?_)) <;> (try simp only [h]) <;> (try simp only [NR_, NRb] at h)))
  all_goals (refine leafL sub_rfl (leT_eq (congrArg B ?_)) hK; rw [Bool.eq_iff_iff]; simp only [wordI, decide_eq_true_eq, beq_iff_eq, Bool.false_eq_true, false_iff, true_iff, eq_self]; omega)
set_option maxHeartbeats 4000000 in
theorem cHex {c : Int} (hK : K (.ret (I (hexI c))) σ) : ACallF κ Tryz.prog 205 [I c] σ K := by
  refine ACallF.dropL (ACallF_intro Tryz.func205 rfl ?_)
  simp only [Tryz.ntmps205]
  repeat' (first | simp only [WL, intF, WM, reduceCtorEq, WLb, Nat.reduceAdd, Nat.reduceSub, true_and, cok200, Tryz.results205] | simp (disch := first | omega | (simp only [LN_]; omega)) only [wrap_id] | with_reducible refine cD (within ?_) | ((with_reducible first | refine grd_cases (fun h => ?_) (fun h => ?_) | refine condC_split (fun h => ?_) (fun h => ?_)) <;> (try simp only [h]) <;> (try simp only [NR_, NRb] at h)))
  all_goals (refine leafL sub_rfl (leT_eq (congrArg I ?_)) hK; unfold hexI; (repeat' split) <;> omega)
set_option maxHeartbeats 4000000 in
theorem lMarker {n : Int} {l : List Int} (hl : l.length ≤ 1000000000) (hK : K (.ret (I (markerI n l))) σ) : ACallF κ Tryz.prog 151 [.agg [I n, SI o l]] σ K := by
  refine ACallF.dropL (ACallF_intro Tryz.func151 rfl ?_)
  simp only [Tryz.ntmps151]
  repeat' (first | simp only [WL, intF, WM, Int.reduceToNat, reduceCtorEq, WLb, Nat.reduceAdd, Nat.reduceSub, Nat.reduceEqDiff, Bool.not_true, Bool.not_false, true_and, reduceIte, Bool.false_eq_true, T3, T39, fR fl52_0, fR fl52_1, cok34, Tryz.results151] | simp (disch := first | omega | (simp only [LN_]; omega)) only [getI] | (with_reducible first | refine andA (hb := ?_) | refine y_load (hK := ?_) | refine y_box (hK := fun b => ?_) | refine y_bs (hK := ?_) | refine cD (Blank ?_)) | ((with_reducible first | refine grd_cases (fun h => ?_) (fun h => ?_) | refine condC_split (fun h => ?_) (fun h => ?_)) <;> (try simp only [h]) <;> (try simp only [NR_, NRb] at h)))
  all_goals first
    | exact leafL (sub_cons sub_rfl) (leT_eq (congrArg I (markerI_bad (by assumption) (by omega)).symm)) hK
    | (refine leafL (sub_cons sub_rfl) (leT_eq (congrArg I ?_)) hK
       unfold markerI
       repeat' split
       all_goals first | rfl | omega)
    | skip
  all_goals
    refine loop_by (fun k : Nat => ⟨(.agg [I n, SI o l] :: .raw (.pointer (some ⟨b, 0, none⟩)) :: .any :: .any :: .any :: .any :: .any :: .any :: .any :: .any :: .any :: .any :: .any :: .any :: .any :: .any :: .any :: .any :: .any :: .any :: .any :: .any :: .any :: .any :: .any :: .any :: .any :: .any :: .sl 1 none [I 45, I 46] :: I 2 :: I k :: .any :: .any :: .any :: .any :: .any :: .any :: .any :: .any :: .any :: .any :: .any :: .any :: .any :: .any :: .any :: .any :: .any :: .any :: .any :: .any :: .any :: .any :: .any :: .any :: .any :: .any :: .any :: .any :: .any :: []), .obj b [I n, SI o l] :: σ, true, []⟩) (fun k => k ≤ 2 ∧ (1 ≤ k → ¬ (l.getD 0 0 = 45 ∧ l.getD 1 0 = 45 ∧ l.getD 2 0 = 45)) ∧ (2 ≤ k → ¬ (l.getD 0 0 = 46 ∧ l.getD 1 0 = 46 ∧ l.getD 2 0 = 46))) (fun k => 2 - k) 0 (St_le_same (by repeat (first | exact trivial | refine ⟨le_rfl, ?_⟩ | refine ⟨le_any, ?_⟩ | refine ⟨le_ro, ?_⟩ | refine ⟨le_nil (by decide), ?_⟩ | refine ⟨le_wrap (by omega) (by omega) (by omega), ?_⟩ | refine ⟨le_int (by omega), ?_⟩ | refine ⟨le_eq (by simp), ?_⟩)) id) ⟨by decide, fun h => absurd h (by decide), fun h => absurd h (by decide)⟩ ?_
    rintro k ⟨h1, h2, h3⟩
    obtain rfl | rfl | rfl : k = 0 ∨ k = 1 ∨ k = 2 := by omega
  repeat' (first | simp only [WL, intF, WM, Int.reduceToNat, reduceCtorEq, WLb, Nat.reduceAdd, Nat.reduceSub, Nat.reduceEqDiff, Bool.not_true, true_and, reduceIte, Bool.false_eq_true, T3, T39, fR fl52_1, Tryz.results151] | simp (disch := first | omega | (simp only [LN_]; omega)) only [wrap_id, getI] | (with_reducible first | refine andA (hb := ?_) | refine y_load (hK := ?_)) | ((with_reducible first | refine grd_cases (fun h => ?_) (fun h => ?_) | refine condC_split (fun h => ?_) (fun h => ?_)) <;> (try simp only [h]) <;> (try simp only [NR_, NRb] at h)) | omega)
  all_goals first
    | exact ⟨1, St_le_same (by repeat (first | exact trivial | refine ⟨le_rfl, ?_⟩ | refine ⟨le_any, ?_⟩ | refine ⟨le_ro, ?_⟩ | refine ⟨le_nil (by decide), ?_⟩ | refine ⟨le_wrap (by omega) (by omega) (by omega), ?_⟩ | refine ⟨le_int (by omega), ?_⟩ | refine ⟨le_eq (by simp), ?_⟩)) id, ⟨by decide, fun _ => by omega, fun h => by omega⟩, by decide⟩
    | exact ⟨2, St_le_same (by repeat (first | exact trivial | refine ⟨le_rfl, ?_⟩ | refine ⟨le_any, ?_⟩ | refine ⟨le_ro, ?_⟩ | refine ⟨le_nil (by decide), ?_⟩ | refine ⟨le_wrap (by omega) (by omega) (by omega), ?_⟩ | refine ⟨le_int (by omega), ?_⟩ | refine ⟨le_eq (by simp), ?_⟩)) id, ⟨by decide, fun _ => by omega, fun h => by omega⟩, by decide⟩
    | (refine leafL (sub_cons sub_rfl) (leT_eq (congrArg I ?_)) hK
       unfold markerI
       repeat' split
       all_goals first | rfl | omega)
    | (refine leafL (sub_cons sub_rfl) (leT_eq (congrArg I ?_)) hK
       unfold markerI
       rw [if_pos ⟨by omega, by omega, by omega, by omega, fun _ => by first | assumption | omega⟩]
       first
         | (rw [if_pos (by omega)]; rfl)
         | (rw [if_neg (by omega), if_pos (by omega)]; rfl))
end Go.Proofs.YtgoofaeifbfblaaGreat
