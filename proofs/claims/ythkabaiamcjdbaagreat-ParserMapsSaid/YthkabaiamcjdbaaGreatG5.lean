/-
  Texts S, Sb, Su, Sc, My, Mz, T, Ch, Ck, L, Sg, one behind the other.
-/
import Derived.Test.YthkabaiamcjdbaaGreatG4
import Derived.Test.YthkabaiamcjdbaaGreatRows
set_option linter.unusedVariables false
set_option linter.unusedSimpArgs false
set_option maxHeartbeats 16000000
/-
 Plain specifications for chapters 2,3,6 and 8. No program in sight.
-/

namespace Go.Abs
open Go.RowKit
theorem leaf {K:Ret→List Res→Prop}{σ:List Res}{x y:AV} (h:x=y) (hK:K (.ret y) σ):K (.ret x) σ:=h ▸ hK
def printI (c:Int):Bool:=decide (c=9∨c=10∨c=13∨c=133∨(32≤c∧c≤126)∨(160≤c∧c≤55295)∨(57344≤c∧c≤65533)∨(65536≤c∧c≤1114111))
def blankI (c:Int):Bool:=decide (c=32∨c=9)
abbrev SI (o:Option (Option (Nat × Nat))) (l:List Int):AV:=.sl 1 o (l.map I)
theorem getI {l:List Int}{k:Nat} (h:k < l.length):(l.map I).getD k .any=I (l.getD k 0):=by
 simp [List.getD_eq_getElem?_getD,h]
theorem goodI (l:List Int):goodL (l.map I)=true:=by
 unfold goodL
 rw [List.all_map,List.all_eq_true]
 intro x _
 rfl
theorem tw_step {α:Type}{p:α→Bool}{d:α}:∀ {l:List α}{k:Nat},k≤(l.takeWhile p).length→k < l.length→p (l.getD k d)=true→k+1≤(l.takeWhile p).length
 | [],_,_,h,_=>by simp at h
 | x::l,0,_,_,h=>by
  have:p x=true:=by simpa using h
  simp [List.takeWhile_cons,this]
 | x::l,k+1,h,h1,h2=>by
  by_cases e:p x=true
  ·simp only [List.takeWhile_cons,e,if_true,List.length_cons] at h ⊢
   have:=tw_step (p:=p) (d:=d) (l:=l) (k:=k) (by omega) (by simpa using h1) (by simpa using h2)
   omega
  ·simp [List.takeWhile_cons,e] at h
theorem tw_stop {α:Type}{p:α→Bool}{d:α}:∀ {l:List α}{k:Nat},k≤(l.takeWhile p).length→k < l.length→p (l.getD k d)=false→k=(l.takeWhile p).length
 | [],_,_,h,_=>by simp at h
 | x::l,0,_,_,h=>by
  have:p x=false:=by simpa using h
  simp [List.takeWhile_cons,this]
 | x::l,k+1,h,h1,h2=>by
  by_cases e:p x=true
  ·simp only [List.takeWhile_cons,e,if_true,List.length_cons] at h ⊢
   have:=tw_stop (p:=p) (d:=d) (l:=l) (k:=k) (by omega) (by simpa using h1) (by simpa using h2)
   omega
  ·simp [List.takeWhile_cons,e] at h
theorem tw_end {α:Type}{p:α→Bool}{l:List α}{k:Nat} (h:k≤(l.takeWhile p).length) (h1:l.length≤k):k=(l.takeWhile p).length:=by
 have:=(List.takeWhile_prefix p (l:=l)).length_le
 omega
theorem leafD {K:Ret→List Res→Prop}{σ σ':List Res}{b b':AV} (hs:Sub σ σ') (h:b=b') (hK:K (.ret b') σ):DropK K (.ret b) σ':=⟨σ,hs,h ▸ hK⟩
def bareI (l:List Int):Bool:=l.all blankI || (l.dropWhile blankI).getD 0 0 == 35
def markerI (n:Int) (t:List Int):Int:=if n=0∧3≤t.length∧t.getD 0 0=t.getD 1 0∧t.getD 1 0=t.getD 2 0∧(3 < t.length→blankI (t.getD 3 0)=true) then (if t.getD 0 0=45 then 1 else if t.getD 0 0=46 then 2 else 0) else 0
theorem markerI_bad {n:Int}{t:List Int} (hb:blankI (t.getD 3 0)=false) (h:3 < t.length):markerI n t=0:=by
 unfold markerI
 rw [if_neg]
 rintro ⟨_,_,_,_,h5⟩
 rw [h5 h] at hb
 cases hb
theorem dw_step {p:Int→Bool}:∀ {l:List Int},0 < l.length→p (l.getD 0 0)=true→l.dropWhile p=(l.drop 1).dropWhile p
 | [],h,_=>by simp at h
 | x::l,_,h=>by
  have:p x=true:=by simpa using h
  simp [List.dropWhile_cons,this]
theorem dw_stop {p:Int→Bool}:∀ {l:List Int},0 < l.length→p (l.getD 0 0)=false→l.dropWhile p=l
 | [],h,_=>by simp at h
 | x::l,_,h=>by
  have:p x=false:=by simpa using h
  simp [List.dropWhile_cons,this]
theorem dw_all {p:Int→Bool}:∀ {l:List Int},((l.dropWhile p).length=0)=(l.all p=true)
 | []=>by simp
 | x::l=>by
  by_cases e:p x=true
  ·simp only [List.dropWhile_cons,e,if_true,List.all_cons,Bool.true_and];exact dw_all
  ·simp [List.dropWhile_cons,e]
theorem tw_all {p:Int→Bool}:∀ {l:List Int},((l.takeWhile p).length=l.length)=(l.all p=true)
 | []=>by simp
 | x::l=>by
  by_cases e:p x=true
  ·simp only [List.takeWhile_cons,e,if_true,List.all_cons,Bool.true_and,List.length_cons,Nat.add_right_cancel_iff];exact tw_all
  ·simp [List.takeWhile_cons,e]
theorem tw_dw {p:Int→Bool}:∀ {l:List Int},l.drop (l.takeWhile p).length=l.dropWhile p
 | []=>by simp
 | x::l=>by
  by_cases e:p x=true
  ·simp only [List.takeWhile_cons,e,if_true,List.length_cons,List.dropWhile_cons,List.drop_succ_cons];exact tw_dw
  ·simp [List.takeWhile_cons,List.dropWhile_cons,e]
theorem tn1 {n:Nat}:((n:Int)+1).toNat=n+1:=by omega
theorem marker_bare {n:Int}{l:List Int} (h:bareI l=true):markerI n l=0:=by
 unfold markerI
 split
 case isFalse=>rfl
 case isTrue hh =>
  obtain ⟨_,h3,h01,h12,_⟩:=hh
  cases l with
  | nil=>simp at h3
  | cons c r =>
   simp only [List.getD_cons_zero] at h01 ⊢
   by_cases hb:blankI c=true
   ·simp [blankI] at hb
    rw [if_neg (by omega),if_neg (by omega)]
   ·simp [bareI,hb,List.dropWhile_cons] at h
    rw [if_neg (by omega),if_neg (by omega)]
end Go.Abs
/-
 Numbers,bit by bit. No program in sight.
-/

namespace Go.Abs
def andI (a b:Int):Int:=IntKind.i64.wrap ((BitVec.ofInt 64 a &&& BitVec.ofInt 64 b).toNat:Nat)
def orI (a b:Int):Int:=IntKind.i64.wrap ((BitVec.ofInt 64 a ||| BitVec.ofInt 64 b).toNat:Nat)
theorem fold_and {a b:Int}:IntKind.i64.wrap ((BitVec.ofInt IntKind.i64.bits a &&& BitVec.ofInt IntKind.i64.bits b).toNat:Nat)=andI a b:=rfl
theorem andI_le {a:Int}{m:Nat} (hm:m < 9223372036854775808):0≤andI a m∧andI a m≤m:=by
 unfold andI
 have h1:(BitVec.ofInt 64 a &&& BitVec.ofInt 64 (m:Int)).toNat≤m:=by
  rw [BitVec.toNat_and]
  refine Nat.le_trans Nat.and_le_right ?_
  have:(BitVec.ofInt 64 (m:Int)).toNat=m:=by
   rw [BitVec.toNat_ofInt]
   have:((m:Int) % ((2 ^ 64:Nat):Int)).toNat=m:=by omega
   exact this
  omega
 rw [wrap_id (by omega) (by omega)]
 omega
theorem andI_mod {a:Int} (k:Nat) (hk:k < 63):andI a ((2 ^ k - 1:Nat):Int)=a % (2 ^ k:Nat):=by
 have hp:2 ^ k < 9223372036854775808:=by
  have:=Nat.pow_lt_pow_right (a:=2) (by decide) hk
  simpa using this
 have hb:=andI_le (a:=a) (m:=2 ^ k - 1) (by omega)
 unfold andI at *
 have h0:(BitVec.ofInt 64 ((2 ^ k - 1:Nat):Int)).toNat=2 ^ k - 1:=by
  rw [BitVec.toNat_ofInt]
  have h2:2 ^ k - 1 < 2 ^ 64:=by omega
  have:(((2 ^ k - 1:Nat):Int) % ((2 ^ 64:Nat):Int)).toNat=2 ^ k - 1:=by omega
  exact this
 have h1:(BitVec.ofInt 64 a &&& BitVec.ofInt 64 ((2 ^ k - 1:Nat):Int)).toNat=(a % ((2 ^ 64:Nat):Int)).toNat % 2 ^ k:=by
  rw [BitVec.toNat_and,h0,BitVec.toNat_ofInt,Nat.and_two_pow_sub_one_eq_mod]
 rw [h1]
 have h3:(a % ((2 ^ 64:Nat):Int)).toNat % 2 ^ k < 2 ^ k:=Nat.mod_lt _ (by omega)
 rw [wrap_id (by omega) (by omega)]
 have h4:(((a % ((2 ^ 64:Nat):Int)).toNat % 2 ^ k:Nat):Int)=(a % ((2 ^ 64:Nat):Int)) % ((2 ^ k:Nat):Int):=by
  rw [Int.natCast_emod,Int.toNat_of_nonneg (by omega)]
 rw [h4]
 refine Int.emod_emod_of_dvd a ?_
 refine Int.natCast_dvd_natCast.2 (Nat.pow_dvd_pow 2 (by omega))
theorem and3 {a:Int}:andI a 3=a % 4:=andI_mod (a:=a) 2 (by decide)
/-! ### Shifts, and numbers without a sign -/
theorem shr_i {a b:Int} (h:0≤b) (h2:b < 64):shF .shr .i64 a b=some (.int .i64 (a / 2 ^ b.toNat)):=by
 have e:min b.toNat IntKind.i64.bits=b.toNat:=by show min b.toNat 64=_;omega
 simp only [shF,e]
 rw [if_neg (by omega),Int.fdiv_eq_ediv_of_nonneg _ (Int.pow_nonneg (by decide))]
theorem shr_u {a b:Int} (h:0≤b) (h2:b < 64):shF .shr .u64 a b=some (.int .u64 (a / 2 ^ b.toNat)):=by
 have e:min b.toNat IntKind.u64.bits=b.toNat:=by show min b.toNat 64=_;omega
 simp only [shF,e]
 rw [if_neg (by omega),Int.fdiv_eq_ediv_of_nonneg _ (Int.pow_nonneg (by decide))]
theorem wrapu_id {n:Int} (h:0≤n) (h2:n≤18446744073709551615):IntKind.u64.wrap n=n:=by
 show n % (2 ^ 64:Int)=n
 omega
def andU (a b:Int):Int:=IntKind.u64.wrap ((BitVec.ofInt 64 a &&& BitVec.ofInt 64 b).toNat:Nat)
theorem fold_andu {a b:Int}:IntKind.u64.wrap ((BitVec.ofInt IntKind.u64.bits a &&& BitVec.ofInt IntKind.u64.bits b).toNat:Nat)=andU a b:=rfl
theorem andu32 {a:Int} (h:0≤a) (h2:a≤4294967295):andU a 4294967295=a:=by
 obtain ⟨n,rfl⟩:=Int.eq_ofNat_of_zero_le h
 unfold andU
 have e1:(BitVec.ofInt 64 (n:Int)).toNat=n:=by
  rw [BitVec.toNat_ofInt]
  have:((n:Int) % ((2 ^ 64:Nat):Int)).toNat=n:=by omega
  exact this
 have e2:(BitVec.ofInt 64 (4294967295:Int)).toNat=2 ^ 32 - 1:=rfl
 have e:(BitVec.ofInt 64 (n:Int) &&& BitVec.ofInt 64 (4294967295:Int)).toNat=n:=by
  rw [BitVec.toNat_and,e1,e2,Nat.and_two_pow_sub_one_eq_mod]
  omega
 rw [e]
 exact wrapu_id (by omega) (by omega)
theorem ediv0 {a b:Int} (h:0≤a) (h2:a < b):a / b=0:=Int.ediv_eq_zero_of_lt h h2
end Go.Abs
/-
 Plain specifications: code points as bytes. No program in sight.
-/



namespace Go.Abs
def rightI (c:Int):Bool:=decide (0≤c∧c≤1114111∧(c < 55296∨57343 < c))
def encR (c:Int):List Int :=
 if c < 128 then [c] else if c < 2048 then [192+c / 64,128+c % 64] else if c < 65536 then [224+c / 4096,128+c / 64 % 64,128+c % 64] else [240+c / 262144,128+c / 4096 % 64,128+c / 64 % 64,128+c % 64]
def fixI (c:Int):Int:=if rightI c then c else 65533
def encC (c:Int):List Int:=encR (fixI c)
def encL (l:List Int):List Int:=l.flatMap encC
def textI (l:List Int):ByteArray:=strOfNums (encL l)
theorem right_yes {c:Int} (h:0≤c) (h1:c≤1114111) (h2:c < 55296∨57343 < c):rightI c=true:=decide_eq_true ⟨h,h1,h2⟩
theorem rightI_iff {c:Int}:rightI c=true↔0≤c∧c≤1114111∧(c < 55296∨57343 < c):=by unfold rightI;exact decide_eq_true_iff
theorem fix_right (c:Int):0≤fixI c∧fixI c≤1114111∧(fixI c < 55296∨57343 < fixI c):=by
 unfold fixI
 split
 ·rename_i h;exact rightI_iff.1 h
 ·omega
theorem fix_id {c:Int} (h:rightI c=true):fixI c=c:=by unfold fixI;rw [if_pos h]
theorem fix_no {c:Int} (h:rightI c=false):fixI c=65533:=by unfold fixI;rw [if_neg (by rw [h];decide)]
theorem encR_len (c:Int):1≤(encR c).length∧(encR c).length≤4:=by unfold encR;(repeat' split)<;>simp
theorem encC_len (c:Int):1≤(encC c).length∧(encC c).length≤4:=encR_len _
theorem encL_len (l:List Int):(encL l).length≤4 * l.length:=by
 induction l with
 | nil=>simp [encL]
 | cons c r ih =>
  have:=encC_len c
  simp only [encL,List.flatMap_cons,List.length_append,List.length_cons] at *
  omega
theorem encL_app (a b:List Int):encL (a++b)=encL a++encL b:=by simp [encL]
theorem encL_one (c:Int):encL [c]=encC c:=by simp [encL]
theorem encL_take {l:List Int}{k:Nat} (h:k < l.length):encL (l.take (k+1))=encL (l.take k)++encC (l.getD k 0):=by
 rw [List.take_succ_eq_append_getElem h,encL_app,encL_one]
 simp [List.getD_eq_getElem?_getD,h]
theorem encC_byte (c:Int):∀ x∈encC c,0≤x∧x≤255:=by
 have h:=fix_right c
 unfold encC encR
 generalize fixI c=d at *
 intro x hx
 (repeat' split at hx)<;>simp only [List.mem_cons,List.not_mem_nil,or_false] at hx<;>omega
theorem encL_byte (l:List Int):∀ x∈encL l,0≤x∧x≤255:=by
 intro x hx
 obtain ⟨c,_,h⟩:=List.mem_flatMap.1 hx
 exact encC_byte c x h
theorem textI_app (a b:List Int):textI a++textI b=textI (a++b):=by unfold textI;rw [strOfNums_app,encL_app]
theorem bytesI_text (l:List Int):bytesI (textI l)=encL l:=bytesI_strOfNums (encL_byte l)
theorem encC_ascii {c:Int} (h:0≤c) (h2:c < 128):encC c=[c]:=by
 unfold encC;rw [fix_id (right_yes h (by omega) (by omega))];unfold encR;rw [if_pos h2]
theorem encL_ascii {l:List Int} (h:∀ c∈l,0≤c∧c < 128):encL l=l:=by
 induction l with
 | nil=>rfl
 | cons c r ih =>
  have:=h c (by simp)
  simp only [encL,List.flatMap_cons]
  rw [encC_ascii this.1 this.2]
  have:=ih (fun x hx=>h x (by simp [hx]))
  simp only [encL] at this
  rw [this];rfl
/-! ### Bits -/
theorem natOr {m b:Nat} (hm:m < 256) (hb:b < 256):IntKind.i64.wrap ((BitVec.ofInt 64 (m:Int) ||| BitVec.ofInt 64 (b:Int)).toNat:Nat)=((m ||| b:Nat):Int):=by
 have e:∀ n:Nat,n < 256→(BitVec.ofInt 64 (n:Int)).toNat=n:=fun n hn=>by
  rw [BitVec.toNat_ofInt]
  have:((n:Int) % ((2 ^ 64:Nat):Int)).toNat=n:=by omega
  exact this
 rw [BitVec.toNat_or,e m hm,e b hb]
 have:m ||| b < 2 ^ 8:=Nat.or_lt_two_pow hm hb
 exact wrap_id (by omega) (by omega)
theorem orI_nat {m b:Nat} (hm:m < 256) (hb:b < 256):orI m b=((m ||| b:Nat):Int):=natOr hm hb
theorem or128 {b:Int} (h:0≤b) (h2:b < 64):orI 128 b=128+b:=by
 obtain ⟨n,rfl⟩:=Int.eq_ofNat_of_zero_le h
 have:=orI_nat (m:=128) (b:=n) (by decide) (by omega)
 have h3:∀ n:Fin 64,128 ||| n.1=128+n.1:=by decide
 have h4:=h3 ⟨n,by omega⟩
 simp only at h4
 rw [h4] at this
 have e:((128:Nat):Int)=128:=rfl
 rw [e] at this
 rw [this];omega
theorem or192 {b:Int} (h:0≤b) (h2:b < 64):orI 192 b=192+b:=by
 obtain ⟨n,rfl⟩:=Int.eq_ofNat_of_zero_le h
 have:=orI_nat (m:=192) (b:=n) (by decide) (by omega)
 have h3:∀ n:Fin 64,192 ||| n.1=192+n.1:=by decide
 have h4:=h3 ⟨n,by omega⟩
 simp only at h4
 rw [h4] at this
 have e:((192:Nat):Int)=192:=rfl
 rw [e] at this
 rw [this];omega
theorem or224 {b:Int} (h:0≤b) (h2:b < 32):orI 224 b=224+b:=by
 obtain ⟨n,rfl⟩:=Int.eq_ofNat_of_zero_le h
 have:=orI_nat (m:=224) (b:=n) (by decide) (by omega)
 have h3:∀ n:Fin 32,224 ||| n.1=224+n.1:=by decide
 have h4:=h3 ⟨n,by omega⟩
 simp only at h4
 rw [h4] at this
 have e:((224:Nat):Int)=224:=rfl
 rw [e] at this
 rw [this];omega
theorem or240 {b:Int} (h:0≤b) (h2:b < 16):orI 240 b=240+b:=by
 obtain ⟨n,rfl⟩:=Int.eq_ofNat_of_zero_le h
 have:=orI_nat (m:=240) (b:=n) (by decide) (by omega)
 have h3:∀ n:Fin 16,240 ||| n.1=240+n.1:=by decide
 have h4:=h3 ⟨n,by omega⟩
 simp only at h4
 rw [h4] at this
 have e:((240:Nat):Int)=240:=rfl
 rw [e] at this
 rw [this];omega
theorem wrapu8 {n:Int} (h:0≤n) (h2:n≤255):IntKind.u8.wrap n=n:=by
 show n % (2 ^ 8:Int)=n
 omega
theorem wrapu32 {n:Int} (h:0≤n) (h2:n≤4294967295):IntKind.u32.wrap n=n:=by
 show n % (2 ^ 32:Int)=n
 omega
theorem wrapi32 {n:Int} (h:0≤n) (h2:n≤2147483647):IntKind.i32.wrap n=n:=by
 rw [IntKind.wrap_i32];omega
theorem shr_i32 {a b:Int} (h:0≤b) (h2:b < 32):shF .shr .i32 a b=some (.int .i32 (a / 2 ^ b.toNat)):=by
 have e:min b.toNat IntKind.i32.bits=b.toNat:=by show min b.toNat 32=_;omega
 simp only [shF,e]
 rw [if_neg (by omega),Int.fdiv_eq_ediv_of_nonneg _ (Int.pow_nonneg (by decide))]
def or8 (a b:Int):Int:=IntKind.u8.wrap ((BitVec.ofInt 8 a ||| BitVec.ofInt 8 b).toNat:Nat)
def and8 (a b:Int):Int:=IntKind.u8.wrap ((BitVec.ofInt 8 a &&& BitVec.ofInt 8 b).toNat:Nat)
theorem fold_or8 {a b:Int}:IntKind.u8.wrap ((BitVec.ofInt IntKind.u8.bits a ||| BitVec.ofInt IntKind.u8.bits b).toNat:Nat)=or8 a b:=rfl
theorem fold_and8 {a b:Int}:IntKind.u8.wrap ((BitVec.ofInt IntKind.u8.bits a &&& BitVec.ofInt IntKind.u8.bits b).toNat:Nat)=and8 a b:=rfl
theorem or8_nat {m b:Nat} (hm:m < 256) (hb:b < 256):or8 m b=((m ||| b:Nat):Int):=by
 unfold or8
 have e:∀ n:Nat,n < 256→(BitVec.ofInt 8 (n:Int)).toNat=n:=fun n hn=>by
  rw [BitVec.toNat_ofInt]
  have:((n:Int) % ((2 ^ 8:Nat):Int)).toNat=n:=by omega
  exact this
 rw [BitVec.toNat_or,e m hm,e b hb]
 have:m ||| b < 2 ^ 8:=Nat.or_lt_two_pow hm hb
 exact wrapu8 (by omega) (by omega)
theorem or8_128 {b:Int} (h:0≤b) (h2:b < 64):or8 128 b=128+b:=by
 obtain ⟨n,rfl⟩:=Int.eq_ofNat_of_zero_le h
 have h5:=orI_nat (m:=128) (b:=n) (by decide) (by omega)
 have h6:=or8_nat (m:=128) (b:=n) (by decide) (by omega)
 exact (h6.trans h5.symm).trans (or128 h h2)
theorem or8_192 {b:Int} (h:0≤b) (h2:b < 64):or8 192 b=192+b:=by
 obtain ⟨n,rfl⟩:=Int.eq_ofNat_of_zero_le h
 have h5:=orI_nat (m:=192) (b:=n) (by decide) (by omega)
 have h6:=or8_nat (m:=192) (b:=n) (by decide) (by omega)
 exact (h6.trans h5.symm).trans (or192 h h2)
theorem or8_224 {b:Int} (h:0≤b) (h2:b < 32):or8 224 b=224+b:=by
 obtain ⟨n,rfl⟩:=Int.eq_ofNat_of_zero_le h
 have h5:=orI_nat (m:=224) (b:=n) (by decide) (by omega)
 have h6:=or8_nat (m:=224) (b:=n) (by decide) (by omega)
 exact (h6.trans h5.symm).trans (or224 h h2)
theorem or8_240 {b:Int} (h:0≤b) (h2:b < 16):or8 240 b=240+b:=by
 obtain ⟨n,rfl⟩:=Int.eq_ofNat_of_zero_le h
 have h5:=orI_nat (m:=240) (b:=n) (by decide) (by omega)
 have h6:=or8_nat (m:=240) (b:=n) (by decide) (by omega)
 exact (h6.trans h5.symm).trans (or240 h h2)
theorem and8_63 {a:Int}:and8 (IntKind.u8.wrap a) 63=a % 64:=by
 unfold and8
 have e1:(BitVec.ofInt 8 (IntKind.u8.wrap a)).toNat=(a % 256).toNat:=by
  show (BitVec.ofInt 8 (a % (2 ^ 8:Int))).toNat=_
  rw [BitVec.toNat_ofInt]
  have:((a % (2 ^ 8:Int)) % ((2 ^ 8:Nat):Int)).toNat=(a % 256).toNat:=by omega
  exact this
 have e2:(BitVec.ofInt 8 (63:Int)).toNat=2 ^ 6 - 1:=rfl
 rw [BitVec.toNat_and,e1,e2,Nat.and_two_pow_sub_one_eq_mod]
 rw [wrapu8 (by omega) (by omega)]
 omega
end Go.Abs
/-
 Plain specifications for chapter 2: kinds of code points. No program in sight.
-/

namespace Go.Abs
def flowI (c:Int):Bool:=decide (c=44∨c=91∨c=93∨c=123∨c=125)
def nameI (c:Int):Bool:=printI c && !blankI c && !(c == 10) && !(c == 13) && !(c == 65279) && !flowI c
def wordI (c:Int):Bool:=decide ((48≤c∧c≤57)∨(97≤c∧c≤122)∨(65≤c∧c≤90)∨c=45)
def hexI (c:Int):Int:=if 48≤c∧c≤57 then c - 48 else if 97≤c∧c≤102 then c - 97+10 else if 65≤c∧c≤70 then c - 65+10 else -1
theorem hexI_le (c:Int):-1≤hexI c∧hexI c≤15:=by unfold hexI;(repeat' split)<;>omega
theorem mem_getD {l:List Int}{c:Int}{k:Nat} (h:k < l.length) (e:l.getD k 0=c):c∈l:=by
 rw [← e,List.getD_eq_getElem?_getD,List.getElem?_eq_getElem h]
 exact List.getElem_mem h
theorem not_mem_getD {l:List Int}{c:Int} (h:∀ j,j < l.length→¬l.getD j 0=c):¬c∈l:=by
 intro hm
 obtain ⟨j,hj,e⟩:=List.getElem_of_mem hm
 refine h j hj ?_
 rw [List.getD_eq_getElem?_getD,List.getElem?_eq_getElem hj]
 exact e
theorem flow_mem {s:ByteArray} (hs:bytesI s=[44,91,93,123,125]) (c:Int):decide (c∈bytesI s)=flowI c:=by
 rw [hs,Bool.eq_iff_iff,decide_eq_true_eq]
 simp [flowI]
end Go.Abs
/-
 Own layer,part y: the rules of a walk,told short: where a variable lies and what a type is,is found by instances.
-/

namespace Go.Abs
class Hold (σ:List Res) (b:Nat) (i:outParam Nat) (cs:outParam (List AV)):Prop where
 get:σ[i]? = some (.obj b cs)
instance (priority:=low) Hold.there {σ:List Res} {b i:Nat} {cs:List AV} {r:Res} [h:Hold σ b i cs]:Hold (r::σ) b (i+1) cs:=⟨by simpa using h.get⟩
instance Hold.here {σ:List Res} {b:Nat} {cs:List AV}:Hold (.obj b cs::σ) b 0 cs:=⟨rfl⟩
class HasTip (σ:List Res) (tk:Option (Nat × Nat)) (i:outParam Nat):Prop where
 get:σ[i]? = some (.tip tk)
instance (priority:=low) HasTip.there {σ:List Res} {tk:Option (Nat × Nat)} {i:Nat} {r:Res} [h:HasTip σ tk i]:HasTip (r::σ) tk (i+1):=⟨by simpa using h.get⟩
instance HasTip.here {σ:List Res} {tk:Option (Nat × Nat)}:HasTip (.tip tk::σ) tk 0:=⟨rfl⟩
class TOne (P:Program) (t:TypeId):Prop where
 ag:aggT P t=some false
 sz:szT P t=some 1
class TAgg (P:Program) (t:TypeId) (n:outParam Nat):Prop where
 ag:aggT P t=some true
 sz:szT P t=some n
class TZr (P:Program) (t:TypeId) (z:outParam Value):Prop where
 zr:zrT P t=some z
class TSl (P:Program) (t:TypeId) (e:outParam TypeId) (sz by_:outParam Nat) (z:outParam Value):Prop where
 sl:slE P t=some e
 hz:szT P e=some sz
 by':byT P e=some by_
 zr:zrT P e=some z
 pos:0 < sz
 one:z.cells.size=sz
class TPl (P:Program) (t:TypeId) (pl:outParam (List (Nat × Nat))):Prop where
 pl:plT P t=some pl
class TAr (P:Program) (t:TypeId) (n:outParam Nat) (e:outParam TypeId) (sz:outParam Nat):Prop where
 ar:arrT P t=some (n,e)
 hz:szT P e=some sz
class TIn (P:Program) (t:TypeId) (k:outParam IntKind):Prop where
 int:intT P t=some k
class TStr (P:Program) (t:TypeId):Prop where
 str:isStr P t=true
class Good (l:List AV):Prop where
 ok:goodL l=true
theorem good_app {a b:List AV} (h1:goodL a=true) (h2:goodL b=true):goodL (a++b)=true:=by
 simp only [goodL,List.all_append,Bool.and_eq_true] at *
 exact ⟨h1,h2⟩
theorem goodIu (l:List Int):goodL (l.map fun n=>(.raw (.int .i64 n):AV))=true:=by
 simp [goodL,AV.cells,oneA,Value.oneCell']
instance {l:List Int}:Good (l.map I):=⟨goodIu l⟩
instance {a b:List AV} [ha:Good a] [hb:Good b]:Good (a++b):=⟨good_app ha.ok hb.ok⟩
def cellsB (sz:Nat) (xs:List AV):Bool:=xs.all fun x=>x.cells.length == sz
theorem cellsB_all {sz:Nat}{xs:List AV} (h:cellsB sz xs=true):∀ x∈xs,x.cells.length=sz:=fun x hx=>by simpa using List.all_eq_true.1 h x hx
theorem andA {a b:Prop} (h:a:=by first|omega|exact ⟨_,rfl⟩|(focus (simp;done))|(simp;omega)) (hb:b):a∧b:=⟨h,hb⟩
section
variable {κ:Ctx} {dm:Bool} {P:Program} {all rest:List Oper} {Q:Exit→St→Prop} {d:Option Tmp} {t:List AV} {σ:List Res} {fr:Bool} {df:List Deferred}
theorem y_load {ty b k i:Nat}{cs:List AV}{x:AV} [ha:TOne P ty] [h:Hold σ b i cs] (hc:cs[k]? = some x:=by with_unfolding_all rfl) (hK:goK κ dm P all Q d rest ⟨t,σ,fr,df⟩ x σ):actC κ dm P all Q d rest ⟨t,σ,fr,df⟩ (.load ty) [.raw (.pointer (some ⟨b,k,none⟩))] :=
 actC_q (act_load i h.get ha.ag hc isA_mk) hK
theorem y_loadA {ty b k i n:Nat}{cs:List AV} [ha:TAgg P ty n] [h:Hold σ b i cs] (hn:k+n≤cs.length:=by first|decide|(focus (simp;done))|omega) (hK:goK κ dm P all Q d rest ⟨t,σ,fr,df⟩ (.agg ((cs.drop k).take n)) σ):actC κ dm P all Q d rest ⟨t,σ,fr,df⟩ (.load ty) [.raw (.pointer (some ⟨b,k,none⟩))] :=
 actC_q (act_load_agg i h.get ha.ag ha.sz hn isA_mk) hK
theorem y_store {ty b k i:Nat}{cs:List AV}{x:AV} [ha:TOne P ty] [h:Hold σ b i cs] (hk:k < cs.length:=by first|decide|(focus (simp;done))|omega) (h1:oneA x=true:=by with_unfolding_all rfl) (hK:goK κ false P all Q d rest ⟨t,σ,fr,df⟩ .any (σ.set i (.obj b (cs.set k x)))):storeC κ false P all Q d rest ⟨t,σ,fr,df⟩ ty (.raw (.pointer (some ⟨b,k,none⟩))) x :=
 storeC_mk (act_store i h.get ha.sz hk h1 hK)
theorem y_storeA {ty b k i n:Nat}{cs xs:List AV} [ha:TAgg P ty n] [h:Hold σ b i cs] (hx:xs.length=n:=by with_unfolding_all rfl) (hn:k+n≤cs.length:=by first|decide|(focus (simp;done))|omega) (h1:xs.all oneA=true:=by with_unfolding_all rfl) (hK:goK κ false P all Q d rest ⟨t,σ,fr,df⟩ .any (σ.set i (.obj b (setCells cs k xs)))):storeC κ false P all Q d rest ⟨t,σ,fr,df⟩ ty (.raw (.pointer (some ⟨b,k,none⟩))) (.agg xs) :=
 storeC_mk (act_store_agg i h.get (by rw [hx];exact ha.sz) (by rw [hx];exact hn) h1 hK)
theorem y_box {ty:TypeId}{x:AV} (h1:x.cells.all oneA=true:=by with_unfolding_all rfl) (hK:∀ b,goK κ false P all Q d rest ⟨t,σ,fr,df⟩ (.raw (.pointer (some ⟨b,0,none⟩))) (.obj b x.cells::σ)):actC κ false P all Q d rest ⟨t,σ,fr,df⟩ (.box ty) [x] :=
 actC_mk (act_box h1 hK)
theorem y_new {ty:TypeId}{z:Value} [hz:TZr P ty z] (h1:(ofV z).cells.all oneA=true:=by with_unfolding_all rfl) (hK:∀ b,goK κ false P all Q d rest ⟨t,σ,fr,df⟩ (.raw (.pointer (some ⟨b,0,none⟩))) (.obj b (ofV z).cells::σ)):actC κ false P all Q d rest ⟨t,σ,fr,df⟩ (.new ty) [] :=
 actC_mk (act_new hz.zr h1 hK)
theorem y_appN {ty e:TypeId}{sz by_:Nat}{z:Value}{y:AV} [hs:TSl P ty e sz by_ z] (hK:actC κ false P all Q d rest ⟨t,.tip none::σ,fr,df⟩ (.append ty) [.sl sz (some none) [],y]):actC κ false P all Q d rest ⟨t,σ,fr,df⟩ (.append ty) [nilS,y] :=
 actC_mk (act_append_nil hs.pos hK)
theorem y_app {ty e:TypeId}{sz by_ i:Nat}{z:Value}{tk:Option (Nat × Nat)}{l1 l2:List AV}{o2:Option (Option (Nat × Nat))} [hs:TSl P ty e sz by_ z] [h:HasTip σ tk i]
  (hg:goodL l2=true:=by first|exact Good.ok|with_unfolding_all rfl|(focus (simp [goodL,oneA,AV.cells];done))) (hlen:(l1.length+l2.length) * by_≤140737488355328) (hmax:l1.length+l2.length≤maxLen)
  (hK:∀ tk',goK κ false P all Q d rest ⟨t,σ,fr,df⟩ (.sl sz (some tk') (l1++l2)) (σ.set i (.tip tk'))):actC κ false P all Q d rest ⟨t,σ,fr,df⟩ (.append ty) [.sl sz (some tk) l1,.sl sz o2 l2] :=
 actC_mk (act_append i h.get hs.sl hs.hz hs.by' hs.zr hs.one hg hlen hmax hK)
theorem y_bs0o {ty e:TypeId}{sz by_:Nat}{z:Value} [hs:TSl P ty e sz by_ z] (hK:∀ b,goK κ false P all Q d rest ⟨t,σ,fr,df⟩ (.sl sz (some (some (b,0))) []) (.tip (some (b,0))::σ)):actC κ false P all Q d rest ⟨t,σ,fr,df⟩ (.bslice ty 0 []) [] :=
 actC_mk (act_bslice0_own hs.sl hs.hz hs.pos hK)
theorem y_bs {ty e:TypeId}{n sz by_:Nat}{z:Value}{ix:List Nat}{xs:List AV} [hs:TSl P ty e sz by_ z] (hn:0 < n:=by decide) (hsm:n * sz≤16777216:=by decide) (hix:ix=List.range n:=by with_unfolding_all rfl) (hlen:xs.length=n:=by with_unfolding_all rfl)
  (hg:goodL xs=true:=by first|exact Good.ok|with_unfolding_all rfl|(focus (simp [goodL,oneA,AV.cells];done))) (hc:cellsB sz xs=true:=by with_unfolding_all rfl)
  (hK:goK κ dm P all Q d rest ⟨t,σ,fr,df⟩ (.sl sz none xs) σ):actC κ dm P all Q d rest ⟨t,σ,fr,df⟩ (.bslice ty n ix) xs :=
 wk_bslice hs.sl hs.hz hs.zr hs.pos hn hsm hix hlen hg (cellsB_all hc) hK
theorem y_bso {ty e:TypeId}{n sz by_:Nat}{z:Value}{ix:List Nat}{xs:List AV} [hs:TSl P ty e sz by_ z] (hn:0 < n:=by decide) (hsm:n * sz≤16777216:=by decide) (hix:ix=List.range n:=by with_unfolding_all rfl) (hlen:xs.length=n:=by with_unfolding_all rfl)
  (hg:goodL xs=true:=by first|exact Good.ok|with_unfolding_all rfl|(focus (simp [goodL,oneA,AV.cells];done))) (hc:cellsB sz xs=true:=by with_unfolding_all rfl)
  (hK:∀ b,goK κ false P all Q d rest ⟨t,σ,fr,df⟩ (.sl sz (some (some (b,n * sz))) xs) (.tip (some (b,n * sz))::σ)):actC κ false P all Q d rest ⟨t,σ,fr,df⟩ (.bslice ty n ix) xs :=
 actC_mk (act_bslice_own hs.sl hs.hz hs.zr hs.pos hn hsm hix hlen hg (cellsB_all hc) hK)
theorem y_build {ty:TypeId}{ix:List Nat}{xs cs:List AV}{z:Value}{pl:List (Nat × Nat)} [hp:TPl P ty pl] [hz:TZr P ty z] (hz1:(ofV z).cells.all oneA=true:=by with_unfolding_all rfl) (hb:buildA pl (ofV z).cells (ix.zip xs)=some cs:=by with_unfolding_all rfl) (hK:goK κ dm P all Q d rest ⟨t,σ,fr,df⟩ (.agg cs) σ):actC κ dm P all Q d rest ⟨t,σ,fr,df⟩ (.build ty ix) xs :=
 wk_build hp.pl hz.zr hz1 hb hK
theorem y_bytes {s dd e:TypeId}{sz by_:Nat}{z:Value}{own:Option (Option (Nat × Nat))}{l:List Int} [hs:TSl P s e sz by_ z] [he:TIn P e .u8] [hd:TStr P dd] (hK:goK κ dm P all Q d rest ⟨t,σ,fr,df⟩ (.raw (.string (strOfNums l))) σ):actC κ dm P all Q d rest ⟨t,σ,fr,df⟩ (.conv s dd) [.sl 1 own (l.map U8)] :=
 actC_q (act_bytes_str hs.sl he.int hd.str isA_mk) hK
theorem y_str {s dd e:TypeId}{sz by_:Nat}{z:Value}{x:ByteArray} [hs:TStr P s] [hd:TSl P dd e sz by_ z] [he:TIn P e .u8] (hx:x.size≤maxLen) (hK:goK κ dm P all Q d rest ⟨t,σ,fr,df⟩ (SU none (bytesI x)) σ):actC κ dm P all Q d rest ⟨t,σ,fr,df⟩ (.conv s dd) [.raw (.string x)] :=
 actC_q (act_str_bytes hs.str hd.sl he.int hx isA_mk) hK
theorem y_max {ts:Array TypeId}{ty:TypeId}{k:IntKind}{a b:Int} (hK:goK κ dm P all Q d rest ⟨t,σ,fr,df⟩ (.raw (.int k (max a b))) σ):actC κ dm P all Q d rest ⟨t,σ,fr,df⟩ (.minmax true ts ty) [.raw (.int k a),.raw (.int k b)]:=actC_q (act_max2 isA_mk) hK
theorem y_min {ts:Array TypeId}{ty:TypeId}{k:IntKind}{a b:Int} (hK:goK κ dm P all Q d rest ⟨t,σ,fr,df⟩ (.raw (.int k (min a b))) σ):actC κ dm P all Q d rest ⟨t,σ,fr,df⟩ (.minmax false ts ty) [.raw (.int k a),.raw (.int k b)]:=actC_q (act_min2 isA_mk) hK
theorem y_nil {t':List AV}{l:List AV}{v:Bool} (h:0 < l.length:=by simp;omega) (hK:goK κ dm P all Q d rest ⟨t',σ,fr,df⟩ (B v) σ):nilTC κ dm P all Q d rest ⟨t',σ,fr,df⟩ l v:=nilTC_pos h hK
theorem y_load1 {ty b k i:Nat}{cs:List AV}{x:AV} [ha:TOne P ty] [h:Hold σ b i cs] (hc:cs[k]? = some x:=by with_unfolding_all rfl):LoadsTo P κ σ ty (.raw (.pointer (some ⟨b,k,none⟩))) x:=LoadsTo_one i h.get ha.ag hc
theorem y_load2 {ty b k i n:Nat}{cs:List AV} [ha:TAgg P ty n] [h:Hold σ b i cs] (hn:k+n≤cs.length:=by first|decide|(focus (simp;done))|omega):LoadsTo P κ σ ty (.raw (.pointer (some ⟨b,k,none⟩))) (.agg ((cs.drop k).take n)):=LoadsTo_agg i h.get ha.ag ha.sz hn
end
/-! ### Rows under one name -/
theorem take_map_ {α β:Type}{f:α→β}{l:List α}{n:Nat}:(l.map f).take n=(l.take n).map f:=List.map_take.symm
theorem drop_map_ {α β:Type}{f:α→β}{l:List α}{n:Nat}:(l.map f).drop n=(l.drop n).map f:=List.map_drop.symm
theorem WM:type_of% (And.intro @List.toList_toArray.{0} <| And.intro @List.set_cons_succ.{0} <| And.intro @List.set_cons_zero.{0} <| And.intro @List.getD_cons_succ.{0} <| And.intro @List.getD_cons_zero.{0} <| And.intro @List.getElem?_cons_succ.{0} <| And.intro @List.getElem?_cons_zero.{0} <| And.intro @List.length_cons.{0} <| And.intro @List.length_nil.{0} <| And.intro @List.replicate_succ.{0} <| And.intro @List.replicate_zero.{0} <| And.intro @List.cons_append.{0} <| And.intro @List.nil_append.{0} <| And.intro @List.append_nil.{0} <| And.intro @List.map_cons.{0,0} <| And.intro @List.map_nil.{0,0} <| And.intro @Option.bind_some.{0,0} <| And.intro @Option.map_some.{0,0} <| And.intro @Option.map_none.{0,0} <| And.intro @List.drop_succ_cons.{0} <| And.intro @List.drop_zero.{0} <| And.intro @List.take_succ_cons.{0} <| And.intro @List.take_zero.{0} <| And.intro @take_map_ <| And.intro @drop_map_ <| And.intro @List.take_length.{0} <| And.intro @Nat.zero_lt_succ <| And.intro @Option.isSome_some.{0} <| And.intro @Option.isSome_none.{0} <| And.intro @Int.toNat_natCast <| And.intro @List.length_map.{0,0} <| And.intro @Nat.le_refl <| And.intro @Option.some.injEq.{0} <| And.intro @exists_eq_left'.{1} <| And.intro @Nat.add_right_cancel_iff <| And.intro @List.take_nil.{0} @List.drop_nil.{0}) :=
 ⟨@List.toList_toArray.{0},@List.set_cons_succ.{0},@List.set_cons_zero.{0},@List.getD_cons_succ.{0},@List.getD_cons_zero.{0},@List.getElem?_cons_succ.{0},@List.getElem?_cons_zero.{0},@List.length_cons.{0},@List.length_nil.{0},@List.replicate_succ.{0},@List.replicate_zero.{0},@List.cons_append.{0},@List.nil_append.{0},@List.append_nil.{0},@List.map_cons.{0,0},@List.map_nil.{0,0},@Option.bind_some.{0,0},@Option.map_some.{0,0},@Option.map_none.{0,0},@List.drop_succ_cons.{0},@List.drop_zero.{0},@List.take_succ_cons.{0},@List.take_zero.{0},@take_map_,@drop_map_,@List.take_length.{0},@Nat.zero_lt_succ,@Option.isSome_some.{0},@Option.isSome_none.{0},@Int.toNat_natCast,@List.length_map.{0,0},@Nat.le_refl,@Option.some.injEq.{0},@exists_eq_left'.{1},@Nat.add_right_cancel_iff,@List.take_nil.{0},@List.drop_nil.{0}⟩
theorem LN_:type_of% (And.intro @List.length_append.{0} <| And.intro @List.length_map.{0,0} <| And.intro @List.length_cons.{0} <| And.intro @List.length_nil.{0} <| And.intro @List.length_drop.{0} <| And.intro @List.length_take.{0} @List.length_replicate.{0}) :=
 ⟨@List.length_append.{0},@List.length_map.{0,0},@List.length_cons.{0},@List.length_nil.{0},@List.length_drop.{0},@List.length_take.{0},@List.length_replicate.{0}⟩
theorem NR_:type_of% (And.intro @beq_iff_eq.{0} <| And.intro @beq_eq_false_iff_ne.{0} <| And.intro @bne_iff_ne.{0} <| And.intro @bne_eq_false_iff_eq.{0} <| And.intro @decide_eq_true_eq <| And.intro @decide_eq_false_iff_not <| And.intro @Bool.not_eq_true' <| And.intro @Bool.not_eq_false' <| And.intro @Int.not_lt <| And.intro @Int.not_le <| And.intro @gt_iff_lt.{0} <| And.intro @ge_iff_le.{0} @Decidable.not_not) :=
 ⟨@beq_iff_eq.{0},@beq_eq_false_iff_ne.{0},@bne_iff_ne.{0},@bne_eq_false_iff_eq.{0},@decide_eq_true_eq,@decide_eq_false_iff_not,@Bool.not_eq_true',@Bool.not_eq_false',@Int.not_lt,@Int.not_le,@gt_iff_lt.{0},@ge_iff_le.{0},@Decidable.not_not⟩
theorem fC:type_of% @fieldAddrC_cp:=@fieldAddrC_cp
theorem fR:type_of% @fieldAddrC_raw:=@fieldAddrC_raw
theorem fA:type_of% @fieldC_agg:=@fieldC_agg
theorem cI:type_of% @convC_int:=@convC_int
theorem cD:type_of% @callD_mk:=@callD_mk
theorem cQ:type_of% @callD_q:=@callD_q
end Go.Abs
/-
 Own layer,part z: rows that are marked.
-/

namespace Go.Abs
open Go.RowKit
theorem Rel.letgo {κ:Ctx}{g:Nat→Nat}{r:Res}{ρ:List Res}{w w':World}{c:Nat} (h:Rel κ g (r::ρ) w) (H:GE g w g w')
  (hos:w'.os=w.os) (htape:w'.tape=w.tape) (hout:w'.output=w.output) (hsize:w'.heap.size=w.heap.size)
  (hsame:∀ b,b≠c→w'.heap[b]? = w.heap[b]?) (hc:r.block=some c):Rel κ g ρ w':=by
 have hnd:=h.nodup
 rw [fm_cons hc] at hnd
 have hn:∀ x∈ρ,∀ b,x.block=some b→b≠c:=by
  intro x hx b hxb e
  subst e
  exact (List.nodup_cons.1 hnd).1 (List.mem_filterMap.2 ⟨x,hx,hxb⟩)
 obtain ⟨hB,hlt⟩:=h.bnd r (by simp) c hc
 refine ⟨h.below.trans ⟨hos,htape,hout,by omega,fun k hk=>hsame k (by omega)⟩,by rw [hsize];exact h.hB,(List.nodup_cons.1 hnd).2, ?_, ?_, ?_⟩
 ·intro x hx b hxb
  rw [hsize];exact h.bnd x (by simp [hx]) b hxb
 ·intro x hx
  exact Res.holds_keep H (fun b hxb=>hsame _ (hn x hx b hxb)) (fun _ _=>rfl) (h.holds x (by simp [hx]))
 ·intro b hb'
  rw [hsize] at hb'
  exact h.new b hb'
theorem act_mark {κ:Ctx}{P:Program}{σ:List Res}{K:AV→List Res→Prop}{t e:TypeId}{sz b n:Nat}{l:List AV} (i:Nat) (h:σ[i]? = some (.tip (some (b,n)))) (ht:slE P t=some e) (he:intT P e=some .u8) (hl:0 < l.length)
  (hK:K (.sl sz none l) (σ.eraseIdx i)):AAct κ P (.conv t t) [.sl sz (some (some (b,n))) l] σ K:=by
 intro φ g w vs hR hvs
 obtain ⟨v,rfl,hu⟩:=one_vs hvs
 have hsl:=und_of_slE ht
 have hint:=und_of_intT he
 have hR2:Rel κ g (.tip (some (b,n))::(φ++σ.eraseIdx i)) w:=hR.perm (perm_front (perm_get h))
 obtain ⟨hg,arr,ty,hb⟩:=hR2.holds (.tip (some (b,n))) (by simp)
 rcases hu.sl_inv with ⟨h0,_⟩|⟨b',off,cap,rfl,hcap,hmax,hpos,hc,hel,hgg,ho⟩
 ·rw [h0] at hl;simp at hl
 ·have hbb:b'=b:=by
   have:=(ho _ rfl).1
   simp at this;exact this.1.symm
  subst hbb
  have hlt:b' < w.heap.size:=(hR2.bnd (.tip (some (b',n))) (by simp) b' rfl).2
  have hget:w.heap[b']=.cells arr ty (0,0):=by
   rw [Array.getElem?_eq_getElem hlt] at hb
   exact Option.some.inj hb
  have hmod:∀ (f:Obj→Obj) (k:Nat),(w.heap.modify b' f)[k]? = if b'=k then (w.heap[k]?).map f else w.heap[k]?:=by
   intro f k
   by_cases e:b'=k
   ·subst e
    simp [Array.getElem?_modify]
   ·simp [Array.getElem?_modify,e]
  have hcell:∀ x,(w.freeze ⟨b',arr.size,none⟩ 1).cell? x=w.cell? x:=by
   intro x
   simp only [World.cell?,World.freeze]
   rw [if_neg (by decide)]
   simp only [hmod]
   by_cases e:b'=x.block
   ·rw [if_pos e,← e,hb];simp
   ·rw [if_neg e]
  have hsame:∀ k,k≠b'→(w.freeze ⟨b',arr.size,none⟩ 1).heap[k]? = w.heap[k]?:=by
   intro k hk
   simp only [World.freeze]
   rw [if_neg (by decide)]
   simp only [hmod]
   rw [if_neg (fun e=>hk e.symm)]
  have hlen:∀ k,blockLen (w.freeze ⟨b',arr.size,none⟩ 1) k=blockLen w k:=by
   intro k
   by_cases e:k=b'
   ·subst e
    simp only [blockLen,World.freeze]
    rw [if_neg (by decide)]
    simp only [hmod,if_true,hb]
    simp
   ·simp only [blockLen];rw [hsame k e]
  have H:GE g w g (w.freeze ⟨b',arr.size,none⟩ 1):=⟨by simp [World.freeze],fun _=>Nat.le_refl _,fun k o _=>hcell _,fun k=>by rw [hlen];exact Nat.le_refl _⟩
  refine ⟨.slice (some ⟨b',off,none⟩) l.length cap,w.freeze ⟨b',arr.size,none⟩ 1,g,.sl sz none l,σ.eraseIdx i, ?_, ?_,H, ?_,hK⟩
  ·have hsh:w.shape? b'=some (ty,arr.size):=by simp [World.shape?,hb]
   show (convert t t (.slice (some ⟨b',off,none⟩) l.length cap)).run P w=_
   simp [convert,run_underlying hsl,run_underlying hint,markStringish,hsh]
  ·exact hR2.letgo H rfl rfl rfl (by simp [World.freeze]) hsame rfl
  ·exact VR.sl_mk rfl hcap hmax hpos hc (fun i x k y hx hy=>by
    obtain ⟨u,a1,a2⟩:=hel i x k y hx hy
    exact ⟨u,by rw [hcell];exact a1,a2.mono H⟩) hgg (fun t ht=>by cases ht)
section
variable {κ:Ctx} {P:Program} {all rest:List Oper} {Q:Exit→St→Prop} {d:Option Tmp} {t:List AV} {σ:List Res} {fr:Bool} {df:List Deferred}
theorem y_mark {ty e:TypeId}{sz by_ i b n sz':Nat}{z:Value}{l:List AV} [hs:TSl P ty e sz' by_ z] [he:TIn P e .u8] [h:HasTip σ (some (b,n)) i] (hl:0 < l.length:=by first|decide|(focus (simp;done))|omega)
  (hK:goK κ false P all Q d rest ⟨t,σ,fr,df⟩ (.sl sz none l) (σ.eraseIdx i)):actC κ false P all Q d rest ⟨t,σ,fr,df⟩ (.conv ty ty) [.sl sz (some (some (b,n))) l] :=
 actC_mk (act_mark i h.get hs.sl he.int hl hK)
end
end Go.Abs
/-
 Facts on the types of the program,by program.
-/


namespace Go.Proofs.YthkabaiamcjdbaaGreat
open Go.Abs
theorem sz1:szT Tryz.prog 1=some 1:=by kernel_rfl
theorem ag1:aggT Tryz.prog 1=some false:=by kernel_rfl
theorem zr1:zrT Tryz.prog 1=some .nilFunc:=by kernel_rfl
theorem by1:byT Tryz.prog 1=some 8:=by kernel_rfl
theorem zr2:zrT Tryz.prog 2=some (.int .i64 0):=by kernel_rfl
theorem in2:intT Tryz.prog 2=some .i64:=by kernel_rfl
theorem sz3:szT Tryz.prog 3=some 1:=by kernel_rfl
theorem ag3:aggT Tryz.prog 3=some false:=by kernel_rfl
theorem zr3:zrT Tryz.prog 3=some (.int .i64 0):=by kernel_rfl
theorem by3:byT Tryz.prog 3=some 8:=by kernel_rfl
theorem in3:intT Tryz.prog 3=some .i64:=by kernel_rfl
theorem sz4:szT Tryz.prog 4=some 1:=by kernel_rfl
theorem ag4:aggT Tryz.prog 4=some false:=by kernel_rfl
theorem zr4:zrT Tryz.prog 4=some (.bool false):=by kernel_rfl
theorem by4:byT Tryz.prog 4=some 1:=by kernel_rfl
theorem bo4:Tryz.prog.underlying 4=some .bool:=by kernel_rfl
theorem sz5:szT Tryz.prog 5=some 1:=by kernel_rfl
theorem ag5:aggT Tryz.prog 5=some false:=by kernel_rfl
theorem zr5:zrT Tryz.prog 5=some (.int .u8 0):=by kernel_rfl
theorem by5:byT Tryz.prog 5=some 1:=by kernel_rfl
theorem in5:intT Tryz.prog 5=some .u8:=by kernel_rfl
theorem zr8:zrT Tryz.prog 8=some (.agg #[(.int .i64 0),(.int .i64 0),(.bool false),(.int .u8 0)]):=by kernel_rfl
theorem pl8:plT Tryz.prog 8=some [(0,1),(1,1),(2,1),(3,1)]:=by kernel_rfl
theorem sz9:szT Tryz.prog 9=some 1:=by kernel_rfl
theorem ag9:aggT Tryz.prog 9=some false:=by kernel_rfl
theorem zr9:zrT Tryz.prog 9=some (.string ByteArray.empty):=by kernel_rfl
theorem by9:byT Tryz.prog 9=some 16:=by kernel_rfl
theorem st9:isStr Tryz.prog 9=true:=by kernel_rfl
theorem zr21:zrT Tryz.prog 21=some (.int .i32 0):=by kernel_rfl
theorem in21:intT Tryz.prog 21=some .i32:=by kernel_rfl
theorem sz22:szT Tryz.prog 22=some 1:=by kernel_rfl
theorem ag22:aggT Tryz.prog 22=some false:=by kernel_rfl
theorem zr22:zrT Tryz.prog 22=some (.slice none 0 0):=by kernel_rfl
theorem sl22:slE Tryz.prog 22=some 3:=by kernel_rfl
theorem by22:byT Tryz.prog 22=some 24:=by kernel_rfl
theorem sz23:szT Tryz.prog 23=some 1:=by kernel_rfl
theorem ag23:aggT Tryz.prog 23=some false:=by kernel_rfl
theorem zr23:zrT Tryz.prog 23=some .nilFunc:=by kernel_rfl
theorem sz24:szT Tryz.prog 24=some 1:=by kernel_rfl
theorem ag24:aggT Tryz.prog 24=some false:=by kernel_rfl
theorem zr24:zrT Tryz.prog 24=some (.slice none 0 0):=by kernel_rfl
theorem sl24:slE Tryz.prog 24=some 26:=by kernel_rfl
theorem by24:byT Tryz.prog 24=some 24:=by kernel_rfl
theorem zr25:zrT Tryz.prog 25=some (.agg #[(.int .i64 0),(.string ByteArray.empty),(.string ByteArray.empty),(.string ByteArray.empty),(.int .i64 0),(.bool false)]):=by kernel_rfl
theorem pl25:plT Tryz.prog 25=some [(0,1),(1,1),(2,1),(3,1),(4,1),(5,1)]:=by kernel_rfl
theorem sz26:szT Tryz.prog 26=some 6:=by kernel_rfl
theorem ag26:aggT Tryz.prog 26=some true:=by kernel_rfl
theorem zr26:zrT Tryz.prog 26=some (.agg #[(.int .i64 0),(.string ByteArray.empty),(.string ByteArray.empty),(.string ByteArray.empty),(.int .i64 0),(.bool false)]):=by kernel_rfl
theorem by26:byT Tryz.prog 26=some 72:=by kernel_rfl
theorem fl26_0:fldT Tryz.prog 26 0=some (0,3):=by kernel_rfl
theorem fl26_1:fldT Tryz.prog 26 1=some (1,9):=by kernel_rfl
theorem fl26_2:fldT Tryz.prog 26 2=some (2,9):=by kernel_rfl
theorem fl26_3:fldT Tryz.prog 26 3=some (3,9):=by kernel_rfl
theorem fl26_4:fldT Tryz.prog 26 4=some (4,3):=by kernel_rfl
theorem fl26_5:fldT Tryz.prog 26 5=some (5,4):=by kernel_rfl
theorem pl26:plT Tryz.prog 26=some [(0,1),(1,1),(2,1),(3,1),(4,1),(5,1)]:=by kernel_rfl
theorem sz27:szT Tryz.prog 27=some 1:=by kernel_rfl
theorem ag27:aggT Tryz.prog 27=some false:=by kernel_rfl
theorem zr27:zrT Tryz.prog 27=some .nilFunc:=by kernel_rfl
theorem sz28:szT Tryz.prog 28=some 1:=by kernel_rfl
theorem ag28:aggT Tryz.prog 28=some false:=by kernel_rfl
theorem zr28:zrT Tryz.prog 28=some (.int .i64 0):=by kernel_rfl
theorem by28:byT Tryz.prog 28=some 8:=by kernel_rfl
theorem in28:intT Tryz.prog 28=some .i64:=by kernel_rfl
theorem sz30:szT Tryz.prog 30=some 1:=by kernel_rfl
theorem ag30:aggT Tryz.prog 30=some false:=by kernel_rfl
theorem zr30:zrT Tryz.prog 30=some .nilFunc:=by kernel_rfl
theorem sz31:szT Tryz.prog 31=some 1:=by kernel_rfl
theorem ag31:aggT Tryz.prog 31=some false:=by kernel_rfl
theorem zr31:zrT Tryz.prog 31=some (.slice none 0 0):=by kernel_rfl
theorem sl31:slE Tryz.prog 31=some 51:=by kernel_rfl
theorem by31:byT Tryz.prog 31=some 24:=by kernel_rfl
theorem sz39:szT Tryz.prog 39=some 1:=by kernel_rfl
theorem ag39:aggT Tryz.prog 39=some false:=by kernel_rfl
theorem zr39:zrT Tryz.prog 39=some (.slice none 0 0):=by kernel_rfl
theorem sl39:slE Tryz.prog 39=some 9:=by kernel_rfl
theorem by39:byT Tryz.prog 39=some 24:=by kernel_rfl
theorem in41:intT Tryz.prog 41=some .u64:=by kernel_rfl
theorem sz42:szT Tryz.prog 42=some 1:=by kernel_rfl
theorem ag42:aggT Tryz.prog 42=some false:=by kernel_rfl
theorem zr42:zrT Tryz.prog 42=some .nilFunc:=by kernel_rfl
theorem sz43:szT Tryz.prog 43=some 1:=by kernel_rfl
theorem ag43:aggT Tryz.prog 43=some false:=by kernel_rfl
theorem zr50:zrT Tryz.prog 50=some (.agg #[(.int .i64 0),(.slice none 0 0)]):=by kernel_rfl
theorem pl50:plT Tryz.prog 50=some [(0,1),(1,1)]:=by kernel_rfl
theorem sz51:szT Tryz.prog 51=some 2:=by kernel_rfl
theorem ag51:aggT Tryz.prog 51=some true:=by kernel_rfl
theorem zr51:zrT Tryz.prog 51=some (.agg #[(.int .i64 0),(.slice none 0 0)]):=by kernel_rfl
theorem by51:byT Tryz.prog 51=some 32:=by kernel_rfl
theorem fl51_0:fldT Tryz.prog 51 0=some (0,3):=by kernel_rfl
theorem fl51_1:fldT Tryz.prog 51 1=some (1,22):=by kernel_rfl
theorem pl51:plT Tryz.prog 51=some [(0,1),(1,1)]:=by kernel_rfl
theorem sz52:szT Tryz.prog 52=some 1:=by kernel_rfl
theorem ag52:aggT Tryz.prog 52=some false:=by kernel_rfl
theorem zr52:zrT Tryz.prog 52=some (.pointer none):=by kernel_rfl
theorem sz53:szT Tryz.prog 53=some 1:=by kernel_rfl
theorem ag53:aggT Tryz.prog 53=some false:=by kernel_rfl
theorem zr53:zrT Tryz.prog 53=some (.pointer none):=by kernel_rfl
theorem by53:byT Tryz.prog 53=some 8:=by kernel_rfl
theorem pt53:ptrT Tryz.prog 53=some 77:=by kernel_rfl
theorem sz56:szT Tryz.prog 56=some 1:=by kernel_rfl
theorem ag56:aggT Tryz.prog 56=some true:=by kernel_rfl
theorem zr56:zrT Tryz.prog 56=some (.agg #[(.slice none 0 0)]):=by kernel_rfl
theorem by56:byT Tryz.prog 56=some 24:=by kernel_rfl
theorem fl56_0:fldT Tryz.prog 56 0=some (0,22):=by kernel_rfl
theorem pl56:plT Tryz.prog 56=some [(0,1)]:=by kernel_rfl
theorem pl57:plT Tryz.prog 57=some [(0,1),(1,1),(2,1),(3,1)]:=by kernel_rfl
theorem sz58:szT Tryz.prog 58=some 4:=by kernel_rfl
theorem ag58:aggT Tryz.prog 58=some true:=by kernel_rfl
theorem zr58:zrT Tryz.prog 58=some (.agg #[(.slice none 0 0),(.pointer none),(.slice none 0 0),(.slice none 0 0)]):=by kernel_rfl
theorem fl58_0:fldT Tryz.prog 58 0=some (0,31):=by kernel_rfl
theorem fl58_1:fldT Tryz.prog 58 1=some (1,53):=by kernel_rfl
theorem fl58_2:fldT Tryz.prog 58 2=some (2,56):=by kernel_rfl
theorem fl58_3:fldT Tryz.prog 58 3=some (3,24):=by kernel_rfl
theorem pl58:plT Tryz.prog 58=some [(0,1),(1,1),(2,1),(3,1)]:=by kernel_rfl
theorem sz63:szT Tryz.prog 63=some 1:=by kernel_rfl
theorem ag63:aggT Tryz.prog 63=some false:=by kernel_rfl
theorem zr63:zrT Tryz.prog 63=some (.slice none 0 0):=by kernel_rfl
theorem sl63:slE Tryz.prog 63=some 5:=by kernel_rfl
theorem by63:byT Tryz.prog 63=some 24:=by kernel_rfl
theorem pl76:plT Tryz.prog 76=some [(0,1)]:=by kernel_rfl
theorem sz77:szT Tryz.prog 77=some 1:=by kernel_rfl
theorem ag77:aggT Tryz.prog 77=some true:=by kernel_rfl
theorem zr77:zrT Tryz.prog 77=some (.agg #[(.slice none 0 0)]):=by kernel_rfl
theorem fl77_0:fldT Tryz.prog 77 0=some (0,31):=by kernel_rfl
theorem pl77:plT Tryz.prog 77=some [(0,1)]:=by kernel_rfl
theorem zr78:zrT Tryz.prog 78=some (.agg #[(.int .i64 0)]):=by kernel_rfl
theorem pl78:plT Tryz.prog 78=some [(0,1)]:=by kernel_rfl
theorem sz79:szT Tryz.prog 79=some 1:=by kernel_rfl
theorem ag79:aggT Tryz.prog 79=some true:=by kernel_rfl
theorem zr79:zrT Tryz.prog 79=some (.agg #[(.int .i64 0)]):=by kernel_rfl
theorem fl79_0:fldT Tryz.prog 79 0=some (0,28):=by kernel_rfl
theorem pl79:plT Tryz.prog 79=some [(0,1)]:=by kernel_rfl
theorem pl96:plT Tryz.prog 96=some [(0,1),(1,1),(2,1)]:=by kernel_rfl
theorem sz97:szT Tryz.prog 97=some 3:=by kernel_rfl
theorem ag97:aggT Tryz.prog 97=some true:=by kernel_rfl
theorem zr97:zrT Tryz.prog 97=some (.agg #[(.int .i64 0),(.bool false),(.bool false)]):=by kernel_rfl
theorem fl97_0:fldT Tryz.prog 97 0=some (0,3):=by kernel_rfl
theorem fl97_1:fldT Tryz.prog 97 1=some (1,4):=by kernel_rfl
theorem fl97_2:fldT Tryz.prog 97 2=some (2,4):=by kernel_rfl
theorem pl97:plT Tryz.prog 97=some [(0,1),(1,1),(2,1)]:=by kernel_rfl
theorem zr98:zrT Tryz.prog 98=some (.agg #[(.string ByteArray.empty),(.string ByteArray.empty)]):=by kernel_rfl
theorem pl98:plT Tryz.prog 98=some [(0,1),(1,1)]:=by kernel_rfl
theorem sz99:szT Tryz.prog 99=some 2:=by kernel_rfl
theorem ag99:aggT Tryz.prog 99=some true:=by kernel_rfl
theorem zr99:zrT Tryz.prog 99=some (.agg #[(.string ByteArray.empty),(.string ByteArray.empty)]):=by kernel_rfl
theorem fl99_0:fldT Tryz.prog 99 0=some (0,9):=by kernel_rfl
theorem fl99_1:fldT Tryz.prog 99 1=some (1,9):=by kernel_rfl
theorem pl99:plT Tryz.prog 99=some [(0,1),(1,1)]:=by kernel_rfl
theorem sz127:szT Tryz.prog 127=some 1:=by kernel_rfl
theorem ag127:aggT Tryz.prog 127=some false:=by kernel_rfl
theorem zr127:zrT Tryz.prog 127=some .nilFunc:=by kernel_rfl
theorem sz128:szT Tryz.prog 128=some 1:=by kernel_rfl
theorem ag128:aggT Tryz.prog 128=some false:=by kernel_rfl
theorem zr128:zrT Tryz.prog 128=some (.pointer none):=by kernel_rfl
theorem zr130:zrT Tryz.prog 130=some (.agg #[(.int .i64 0),(.int .i64 0)]):=by kernel_rfl
theorem pl130:plT Tryz.prog 130=some [(0,1),(1,1)]:=by kernel_rfl
theorem sz131:szT Tryz.prog 131=some 2:=by kernel_rfl
theorem ag131:aggT Tryz.prog 131=some true:=by kernel_rfl
theorem zr131:zrT Tryz.prog 131=some (.agg #[(.int .i64 0),(.int .i64 0)]):=by kernel_rfl
theorem by131:byT Tryz.prog 131=some 16:=by kernel_rfl
theorem fl131_0:fldT Tryz.prog 131 0=some (0,3):=by kernel_rfl
theorem fl131_1:fldT Tryz.prog 131 1=some (1,3):=by kernel_rfl
theorem pl131:plT Tryz.prog 131=some [(0,1),(1,1)]:=by kernel_rfl
theorem zr132:zrT Tryz.prog 132=some (.agg #[(.string ByteArray.empty),(.string ByteArray.empty),(.int .i64 0),(.int .i64 0)]):=by kernel_rfl
theorem pl132:plT Tryz.prog 132=some [(0,1),(1,1),(2,2)]:=by kernel_rfl
theorem sz133:szT Tryz.prog 133=some 4:=by kernel_rfl
theorem ag133:aggT Tryz.prog 133=some true:=by kernel_rfl
theorem zr133:zrT Tryz.prog 133=some (.agg #[(.string ByteArray.empty),(.string ByteArray.empty),(.int .i64 0),(.int .i64 0)]):=by kernel_rfl
theorem fl133_0:fldT Tryz.prog 133 0=some (0,9):=by kernel_rfl
theorem fl133_1:fldT Tryz.prog 133 1=some (1,9):=by kernel_rfl
theorem fl133_2:fldT Tryz.prog 133 2=some (2,131):=by kernel_rfl
theorem pl133:plT Tryz.prog 133=some [(0,1),(1,1),(2,2)]:=by kernel_rfl
theorem zr134:zrT Tryz.prog 134=some (.agg #[(.int .i64 0)]):=by kernel_rfl
theorem pl134:plT Tryz.prog 134=some [(0,1)]:=by kernel_rfl
theorem sz135:szT Tryz.prog 135=some 1:=by kernel_rfl
theorem ag135:aggT Tryz.prog 135=some true:=by kernel_rfl
theorem zr135:zrT Tryz.prog 135=some (.agg #[(.int .i64 0)]):=by kernel_rfl
theorem fl135_0:fldT Tryz.prog 135 0=some (0,28):=by kernel_rfl
theorem pl135:plT Tryz.prog 135=some [(0,1)]:=by kernel_rfl
theorem sz157:szT Tryz.prog 157=some 1:=by kernel_rfl
theorem ag157:aggT Tryz.prog 157=some true:=by kernel_rfl
theorem zr157:zrT Tryz.prog 157=some (.agg #[(.slice none 0 0)]):=by kernel_rfl
theorem by157:byT Tryz.prog 157=some 24:=by kernel_rfl
theorem fl157_0:fldT Tryz.prog 157 0=some (0,22):=by kernel_rfl
theorem pl157:plT Tryz.prog 157=some [(0,1)]:=by kernel_rfl
theorem pl158:plT Tryz.prog 158=some [(0,1),(1,1),(2,1),(3,1),(4,1),(5,1)]:=by kernel_rfl
theorem sz159:szT Tryz.prog 159=some 6:=by kernel_rfl
theorem ag159:aggT Tryz.prog 159=some true:=by kernel_rfl
theorem zr159:zrT Tryz.prog 159=some (.agg #[(.slice none 0 0),(.int .i64 0),(.bool false),(.int .i64 0),(.slice none 0 0),(.slice none 0 0)]):=by kernel_rfl
theorem fl159_0:fldT Tryz.prog 159 0=some (0,31):=by kernel_rfl
theorem fl159_1:fldT Tryz.prog 159 1=some (1,3):=by kernel_rfl
theorem fl159_2:fldT Tryz.prog 159 2=some (2,4):=by kernel_rfl
theorem fl159_3:fldT Tryz.prog 159 3=some (3,3):=by kernel_rfl
theorem fl159_4:fldT Tryz.prog 159 4=some (4,157):=by kernel_rfl
theorem fl159_5:fldT Tryz.prog 159 5=some (5,24):=by kernel_rfl
theorem pl159:plT Tryz.prog 159=some [(0,1),(1,1),(2,1),(3,1),(4,1),(5,1)]:=by kernel_rfl
theorem zr164:zrT Tryz.prog 164=some (.agg #[(.bool false),(.int .i64 0),(.int .i64 0)]):=by kernel_rfl
theorem pl164:plT Tryz.prog 164=some [(0,1),(1,1),(2,1)]:=by kernel_rfl
theorem sz165:szT Tryz.prog 165=some 3:=by kernel_rfl
theorem ag165:aggT Tryz.prog 165=some true:=by kernel_rfl
theorem zr165:zrT Tryz.prog 165=some (.agg #[(.bool false),(.int .i64 0),(.int .i64 0)]):=by kernel_rfl
theorem fl165_0:fldT Tryz.prog 165 0=some (0,4):=by kernel_rfl
theorem fl165_1:fldT Tryz.prog 165 1=some (1,3):=by kernel_rfl
theorem fl165_2:fldT Tryz.prog 165 2=some (2,3):=by kernel_rfl
theorem pl165:plT Tryz.prog 165=some [(0,1),(1,1),(2,1)]:=by kernel_rfl
theorem zr181:zrT Tryz.prog 181=some (.agg #[(.int .i64 0),(.int .i64 0),(.bool false)]):=by kernel_rfl
theorem pl181:plT Tryz.prog 181=some [(0,2),(2,1)]:=by kernel_rfl
theorem sz182:szT Tryz.prog 182=some 3:=by kernel_rfl
theorem ag182:aggT Tryz.prog 182=some true:=by kernel_rfl
theorem zr182:zrT Tryz.prog 182=some (.agg #[(.int .i64 0),(.int .i64 0),(.bool false)]):=by kernel_rfl
theorem fl182_0:fldT Tryz.prog 182 0=some (0,131):=by kernel_rfl
theorem fl182_1:fldT Tryz.prog 182 1=some (2,4):=by kernel_rfl
theorem pl182:plT Tryz.prog 182=some [(0,2),(2,1)]:=by kernel_rfl
theorem sz190:szT Tryz.prog 190=some 1:=by kernel_rfl
theorem ag190:aggT Tryz.prog 190=some false:=by kernel_rfl
theorem zr190:zrT Tryz.prog 190=some .nilFunc:=by kernel_rfl
theorem sz191:szT Tryz.prog 191=some 1:=by kernel_rfl
theorem ag191:aggT Tryz.prog 191=some false:=by kernel_rfl
theorem zr191:zrT Tryz.prog 191=some (.slice none 0 0):=by kernel_rfl
theorem sl191:slE Tryz.prog 191=some 22:=by kernel_rfl
theorem by191:byT Tryz.prog 191=some 24:=by kernel_rfl
theorem in224:intT Tryz.prog 224=some .u32:=by kernel_rfl
theorem sz226:szT Tryz.prog 226=some 1:=by kernel_rfl
theorem ag226:aggT Tryz.prog 226=some false:=by kernel_rfl
theorem zr226:zrT Tryz.prog 226=some (.slice none 0 0):=by kernel_rfl
theorem sl226:slE Tryz.prog 226=some 229:=by kernel_rfl
theorem by226:byT Tryz.prog 226=some 24:=by kernel_rfl
theorem sz227:szT Tryz.prog 227=some 1:=by kernel_rfl
theorem ag227:aggT Tryz.prog 227=some false:=by kernel_rfl
theorem zr227:zrT Tryz.prog 227=some (.slice none 0 0):=by kernel_rfl
theorem sl227:slE Tryz.prog 227=some 245:=by kernel_rfl
theorem by227:byT Tryz.prog 227=some 24:=by kernel_rfl
theorem zr228:zrT Tryz.prog 228=some (.agg #[(.slice none 0 0),(.bool false)]):=by kernel_rfl
theorem pl228:plT Tryz.prog 228=some [(0,1),(1,1)]:=by kernel_rfl
theorem sz229:szT Tryz.prog 229=some 2:=by kernel_rfl
theorem ag229:aggT Tryz.prog 229=some true:=by kernel_rfl
theorem zr229:zrT Tryz.prog 229=some (.agg #[(.slice none 0 0),(.bool false)]):=by kernel_rfl
theorem by229:byT Tryz.prog 229=some 32:=by kernel_rfl
theorem fl229_0:fldT Tryz.prog 229 0=some (0,227):=by kernel_rfl
theorem fl229_1:fldT Tryz.prog 229 1=some (1,4):=by kernel_rfl
theorem pl229:plT Tryz.prog 229=some [(0,1),(1,1)]:=by kernel_rfl
theorem zr244:zrT Tryz.prog 244=some (.agg #[(.int .i64 0),(.bool false)]):=by kernel_rfl
theorem pl244:plT Tryz.prog 244=some [(0,1),(1,1)]:=by kernel_rfl
theorem sz245:szT Tryz.prog 245=some 2:=by kernel_rfl
theorem ag245:aggT Tryz.prog 245=some true:=by kernel_rfl
theorem zr245:zrT Tryz.prog 245=some (.agg #[(.int .i64 0),(.bool false)]):=by kernel_rfl
theorem by245:byT Tryz.prog 245=some 16:=by kernel_rfl
theorem fl245_0:fldT Tryz.prog 245 0=some (0,3):=by kernel_rfl
theorem fl245_1:fldT Tryz.prog 245 1=some (1,4):=by kernel_rfl
theorem pl245:plT Tryz.prog 245=some [(0,1),(1,1)]:=by kernel_rfl
theorem T1:type_of% (And.intro sz1 (And.intro ag1 (And.intro zr1 (by1)))):=And.intro sz1 (And.intro ag1 (And.intro zr1 (by1)))
theorem T3:type_of% (And.intro sz3 (And.intro ag3 (And.intro zr3 (And.intro by3 (in3))))):=And.intro sz3 (And.intro ag3 (And.intro zr3 (And.intro by3 (in3))))
theorem T4:type_of% (And.intro sz4 (And.intro ag4 (And.intro zr4 (And.intro by4 (bo4))))):=And.intro sz4 (And.intro ag4 (And.intro zr4 (And.intro by4 (bo4))))
theorem T5:type_of% (And.intro sz5 (And.intro ag5 (And.intro zr5 (And.intro by5 (in5))))):=And.intro sz5 (And.intro ag5 (And.intro zr5 (And.intro by5 (in5))))
theorem T9:type_of% (And.intro sz9 (And.intro ag9 (And.intro zr9 (And.intro by9 (st9))))):=And.intro sz9 (And.intro ag9 (And.intro zr9 (And.intro by9 (st9))))
theorem T22:type_of% (And.intro sz22 (And.intro ag22 (And.intro zr22 (And.intro sl22 (by22))))):=And.intro sz22 (And.intro ag22 (And.intro zr22 (And.intro sl22 (by22))))
theorem T24:type_of% (And.intro sz24 (And.intro ag24 (And.intro zr24 (And.intro sl24 (by24))))):=And.intro sz24 (And.intro ag24 (And.intro zr24 (And.intro sl24 (by24))))
theorem T26:type_of% (And.intro sz26 (And.intro ag26 (And.intro zr26 (And.intro by26 (And.intro fl26_0 (And.intro fl26_1 (And.intro fl26_2 (And.intro fl26_3 (And.intro fl26_4 (And.intro fl26_5 (pl26))))))))))):=And.intro sz26 (And.intro ag26 (And.intro zr26 (And.intro by26 (And.intro fl26_0 (And.intro fl26_1 (And.intro fl26_2 (And.intro fl26_3 (And.intro fl26_4 (And.intro fl26_5 (pl26))))))))))
theorem T28:type_of% (And.intro sz28 (And.intro ag28 (And.intro zr28 (And.intro by28 (in28))))):=And.intro sz28 (And.intro ag28 (And.intro zr28 (And.intro by28 (in28))))
theorem T31:type_of% (And.intro sz31 (And.intro ag31 (And.intro zr31 (And.intro sl31 (by31))))):=And.intro sz31 (And.intro ag31 (And.intro zr31 (And.intro sl31 (by31))))
theorem T39:type_of% (And.intro sz39 (And.intro ag39 (And.intro zr39 (And.intro sl39 (by39))))):=And.intro sz39 (And.intro ag39 (And.intro zr39 (And.intro sl39 (by39))))
theorem T51:type_of% (And.intro sz51 (And.intro ag51 (And.intro zr51 (And.intro by51 (And.intro fl51_0 (And.intro fl51_1 (pl51))))))):=And.intro sz51 (And.intro ag51 (And.intro zr51 (And.intro by51 (And.intro fl51_0 (And.intro fl51_1 (pl51))))))
theorem T53:type_of% (And.intro sz53 (And.intro ag53 (And.intro zr53 (And.intro by53 (pt53))))):=And.intro sz53 (And.intro ag53 (And.intro zr53 (And.intro by53 (pt53))))
theorem T56:type_of% (And.intro sz56 (And.intro ag56 (And.intro zr56 (And.intro by56 (And.intro fl56_0 (pl56)))))):=And.intro sz56 (And.intro ag56 (And.intro zr56 (And.intro by56 (And.intro fl56_0 (pl56)))))
theorem T63:type_of% (And.intro sz63 (And.intro ag63 (And.intro zr63 (And.intro sl63 (by63))))):=And.intro sz63 (And.intro ag63 (And.intro zr63 (And.intro sl63 (by63))))
theorem T131:type_of% (And.intro sz131 (And.intro ag131 (And.intro zr131 (And.intro by131 (And.intro fl131_0 (And.intro fl131_1 (pl131))))))):=And.intro sz131 (And.intro ag131 (And.intro zr131 (And.intro by131 (And.intro fl131_0 (And.intro fl131_1 (pl131))))))
theorem T157:type_of% (And.intro sz157 (And.intro ag157 (And.intro zr157 (And.intro by157 (And.intro fl157_0 (pl157)))))):=And.intro sz157 (And.intro ag157 (And.intro zr157 (And.intro by157 (And.intro fl157_0 (pl157)))))
theorem T191:type_of% (And.intro sz191 (And.intro ag191 (And.intro zr191 (And.intro sl191 (by191))))):=And.intro sz191 (And.intro ag191 (And.intro zr191 (And.intro sl191 (by191))))
theorem T226:type_of% (And.intro sz226 (And.intro ag226 (And.intro zr226 (And.intro sl226 (by226))))):=And.intro sz226 (And.intro ag226 (And.intro zr226 (And.intro sl226 (by226))))
theorem T227:type_of% (And.intro sz227 (And.intro ag227 (And.intro zr227 (And.intro sl227 (by227))))):=And.intro sz227 (And.intro ag227 (And.intro zr227 (And.intro sl227 (by227))))
theorem T229:type_of% (And.intro sz229 (And.intro ag229 (And.intro zr229 (And.intro by229 (And.intro fl229_0 (And.intro fl229_1 (pl229))))))):=And.intro sz229 (And.intro ag229 (And.intro zr229 (And.intro by229 (And.intro fl229_0 (And.intro fl229_1 (pl229))))))
theorem T245:type_of% (And.intro sz245 (And.intro ag245 (And.intro zr245 (And.intro by245 (And.intro fl245_0 (And.intro fl245_1 (pl245))))))):=And.intro sz245 (And.intro ag245 (And.intro zr245 (And.intro by245 (And.intro fl245_0 (And.intro fl245_1 (pl245))))))
instance:TZr Tryz.prog 2 (.int .i64 0):=⟨zr2⟩
instance:TIn Tryz.prog 2 .i64:=⟨in2⟩
instance:TOne Tryz.prog 3:=⟨ag3,sz3⟩
instance:TZr Tryz.prog 3 (.int .i64 0):=⟨zr3⟩
instance:TIn Tryz.prog 3 .i64:=⟨in3⟩
instance:TOne Tryz.prog 4:=⟨ag4,sz4⟩
instance:TZr Tryz.prog 4 (.bool false):=⟨zr4⟩
instance:TOne Tryz.prog 5:=⟨ag5,sz5⟩
instance:TZr Tryz.prog 5 (.int .u8 0):=⟨zr5⟩
instance:TIn Tryz.prog 5 .u8:=⟨in5⟩
instance:TZr Tryz.prog 8 (.agg #[(.int .i64 0),(.int .i64 0),(.bool false),(.int .u8 0)]):=⟨zr8⟩
instance:TPl Tryz.prog 8 [(0,1),(1,1),(2,1),(3,1)]:=⟨pl8⟩
instance:TOne Tryz.prog 9:=⟨ag9,sz9⟩
instance:TZr Tryz.prog 9 (.string ByteArray.empty):=⟨zr9⟩
instance:TStr Tryz.prog 9:=⟨st9⟩
instance:TZr Tryz.prog 21 (.int .i32 0):=⟨zr21⟩
instance:TIn Tryz.prog 21 .i32:=⟨in21⟩
instance:TOne Tryz.prog 22:=⟨ag22,sz22⟩
instance:TZr Tryz.prog 22 (.slice none 0 0):=⟨zr22⟩
instance:TSl Tryz.prog 22 3 1 8 (.int .i64 0):=⟨sl22,sz3,by3,zr3,by decide,rfl⟩
instance:TOne Tryz.prog 23:=⟨ag23,sz23⟩
instance:TZr Tryz.prog 23 .nilFunc:=⟨zr23⟩
instance:TOne Tryz.prog 24:=⟨ag24,sz24⟩
instance:TZr Tryz.prog 24 (.slice none 0 0):=⟨zr24⟩
instance:TSl Tryz.prog 24 26 6 72 (.agg #[(.int .i64 0),(.string ByteArray.empty),(.string ByteArray.empty),(.string ByteArray.empty),(.int .i64 0),(.bool false)]):=⟨sl24,sz26,by26,zr26,by decide,rfl⟩
instance:TZr Tryz.prog 25 (.agg #[(.int .i64 0),(.string ByteArray.empty),(.string ByteArray.empty),(.string ByteArray.empty),(.int .i64 0),(.bool false)]):=⟨zr25⟩
instance:TPl Tryz.prog 25 [(0,1),(1,1),(2,1),(3,1),(4,1),(5,1)]:=⟨pl25⟩
instance:TAgg Tryz.prog 26 6:=⟨ag26,sz26⟩
instance:TZr Tryz.prog 26 (.agg #[(.int .i64 0),(.string ByteArray.empty),(.string ByteArray.empty),(.string ByteArray.empty),(.int .i64 0),(.bool false)]):=⟨zr26⟩
instance:TPl Tryz.prog 26 [(0,1),(1,1),(2,1),(3,1),(4,1),(5,1)]:=⟨pl26⟩
instance:TOne Tryz.prog 27:=⟨ag27,sz27⟩
instance:TZr Tryz.prog 27 .nilFunc:=⟨zr27⟩
instance:TOne Tryz.prog 28:=⟨ag28,sz28⟩
instance:TZr Tryz.prog 28 (.int .i64 0):=⟨zr28⟩
instance:TOne Tryz.prog 30:=⟨ag30,sz30⟩
instance:TZr Tryz.prog 30 .nilFunc:=⟨zr30⟩
instance:TOne Tryz.prog 31:=⟨ag31,sz31⟩
instance:TZr Tryz.prog 31 (.slice none 0 0):=⟨zr31⟩
instance:TSl Tryz.prog 31 51 2 32 (.agg #[(.int .i64 0),(.slice none 0 0)]):=⟨sl31,sz51,by51,zr51,by decide,rfl⟩
instance:TOne Tryz.prog 39:=⟨ag39,sz39⟩
instance:TZr Tryz.prog 39 (.slice none 0 0):=⟨zr39⟩
instance:TSl Tryz.prog 39 9 1 16 (.string ByteArray.empty):=⟨sl39,sz9,by9,zr9,by decide,rfl⟩
instance:TOne Tryz.prog 42:=⟨ag42,sz42⟩
instance:TZr Tryz.prog 42 .nilFunc:=⟨zr42⟩
instance:TOne Tryz.prog 43:=⟨ag43,sz43⟩
instance:TZr Tryz.prog 50 (.agg #[(.int .i64 0),(.slice none 0 0)]):=⟨zr50⟩
instance:TPl Tryz.prog 50 [(0,1),(1,1)]:=⟨pl50⟩
instance:TAgg Tryz.prog 51 2:=⟨ag51,sz51⟩
instance:TZr Tryz.prog 51 (.agg #[(.int .i64 0),(.slice none 0 0)]):=⟨zr51⟩
instance:TPl Tryz.prog 51 [(0,1),(1,1)]:=⟨pl51⟩
instance:TOne Tryz.prog 52:=⟨ag52,sz52⟩
instance:TZr Tryz.prog 52 (.pointer none):=⟨zr52⟩
instance:TOne Tryz.prog 53:=⟨ag53,sz53⟩
instance:TPl Tryz.prog 57 [(0,1),(1,1),(2,1),(3,1)]:=⟨pl57⟩
instance:TAgg Tryz.prog 58 4:=⟨ag58,sz58⟩
instance:TZr Tryz.prog 58 (.agg #[(.slice none 0 0),(.pointer none),(.slice none 0 0),(.slice none 0 0)]):=⟨zr58⟩
instance:TPl Tryz.prog 58 [(0,1),(1,1),(2,1),(3,1)]:=⟨pl58⟩
instance:TOne Tryz.prog 63:=⟨ag63,sz63⟩
instance:TZr Tryz.prog 63 (.slice none 0 0):=⟨zr63⟩
instance:TSl Tryz.prog 63 5 1 1 (.int .u8 0):=⟨sl63,sz5,by5,zr5,by decide,rfl⟩
instance:TPl Tryz.prog 76 [(0,1)]:=⟨pl76⟩
instance:TAgg Tryz.prog 77 1:=⟨ag77,sz77⟩
instance:TZr Tryz.prog 77 (.agg #[(.slice none 0 0)]):=⟨zr77⟩
instance:TPl Tryz.prog 77 [(0,1)]:=⟨pl77⟩
instance:TZr Tryz.prog 78 (.agg #[(.int .i64 0)]):=⟨zr78⟩
instance:TPl Tryz.prog 78 [(0,1)]:=⟨pl78⟩
instance:TAgg Tryz.prog 79 1:=⟨ag79,sz79⟩
instance:TZr Tryz.prog 79 (.agg #[(.int .i64 0)]):=⟨zr79⟩
instance:TPl Tryz.prog 79 [(0,1)]:=⟨pl79⟩
instance:TPl Tryz.prog 96 [(0,1),(1,1),(2,1)]:=⟨pl96⟩
instance:TAgg Tryz.prog 97 3:=⟨ag97,sz97⟩
instance:TZr Tryz.prog 97 (.agg #[(.int .i64 0),(.bool false),(.bool false)]):=⟨zr97⟩
instance:TPl Tryz.prog 97 [(0,1),(1,1),(2,1)]:=⟨pl97⟩
instance:TZr Tryz.prog 98 (.agg #[(.string ByteArray.empty),(.string ByteArray.empty)]):=⟨zr98⟩
instance:TPl Tryz.prog 98 [(0,1),(1,1)]:=⟨pl98⟩
instance:TAgg Tryz.prog 99 2:=⟨ag99,sz99⟩
instance:TZr Tryz.prog 99 (.agg #[(.string ByteArray.empty),(.string ByteArray.empty)]):=⟨zr99⟩
instance:TPl Tryz.prog 99 [(0,1),(1,1)]:=⟨pl99⟩
instance:TOne Tryz.prog 127:=⟨ag127,sz127⟩
instance:TZr Tryz.prog 127 .nilFunc:=⟨zr127⟩
instance:TOne Tryz.prog 128:=⟨ag128,sz128⟩
instance:TZr Tryz.prog 128 (.pointer none):=⟨zr128⟩
instance:TZr Tryz.prog 130 (.agg #[(.int .i64 0),(.int .i64 0)]):=⟨zr130⟩
instance:TPl Tryz.prog 130 [(0,1),(1,1)]:=⟨pl130⟩
instance:TAgg Tryz.prog 131 2:=⟨ag131,sz131⟩
instance:TZr Tryz.prog 131 (.agg #[(.int .i64 0),(.int .i64 0)]):=⟨zr131⟩
instance:TPl Tryz.prog 131 [(0,1),(1,1)]:=⟨pl131⟩
instance:TZr Tryz.prog 132 (.agg #[(.string ByteArray.empty),(.string ByteArray.empty),(.int .i64 0),(.int .i64 0)]):=⟨zr132⟩
instance:TPl Tryz.prog 132 [(0,1),(1,1),(2,2)]:=⟨pl132⟩
instance:TAgg Tryz.prog 133 4:=⟨ag133,sz133⟩
instance:TZr Tryz.prog 133 (.agg #[(.string ByteArray.empty),(.string ByteArray.empty),(.int .i64 0),(.int .i64 0)]):=⟨zr133⟩
instance:TPl Tryz.prog 133 [(0,1),(1,1),(2,2)]:=⟨pl133⟩
instance:TZr Tryz.prog 134 (.agg #[(.int .i64 0)]):=⟨zr134⟩
instance:TPl Tryz.prog 134 [(0,1)]:=⟨pl134⟩
instance:TAgg Tryz.prog 135 1:=⟨ag135,sz135⟩
instance:TZr Tryz.prog 135 (.agg #[(.int .i64 0)]):=⟨zr135⟩
instance:TPl Tryz.prog 135 [(0,1)]:=⟨pl135⟩
instance:TPl Tryz.prog 158 [(0,1),(1,1),(2,1),(3,1),(4,1),(5,1)]:=⟨pl158⟩
instance:TAgg Tryz.prog 159 6:=⟨ag159,sz159⟩
instance:TZr Tryz.prog 159 (.agg #[(.slice none 0 0),(.int .i64 0),(.bool false),(.int .i64 0),(.slice none 0 0),(.slice none 0 0)]):=⟨zr159⟩
instance:TPl Tryz.prog 159 [(0,1),(1,1),(2,1),(3,1),(4,1),(5,1)]:=⟨pl159⟩
instance:TZr Tryz.prog 164 (.agg #[(.bool false),(.int .i64 0),(.int .i64 0)]):=⟨zr164⟩
instance:TPl Tryz.prog 164 [(0,1),(1,1),(2,1)]:=⟨pl164⟩
instance:TAgg Tryz.prog 165 3:=⟨ag165,sz165⟩
instance:TZr Tryz.prog 165 (.agg #[(.bool false),(.int .i64 0),(.int .i64 0)]):=⟨zr165⟩
instance:TPl Tryz.prog 165 [(0,1),(1,1),(2,1)]:=⟨pl165⟩
instance:TZr Tryz.prog 181 (.agg #[(.int .i64 0),(.int .i64 0),(.bool false)]):=⟨zr181⟩
instance:TPl Tryz.prog 181 [(0,2),(2,1)]:=⟨pl181⟩
instance:TAgg Tryz.prog 182 3:=⟨ag182,sz182⟩
instance:TZr Tryz.prog 182 (.agg #[(.int .i64 0),(.int .i64 0),(.bool false)]):=⟨zr182⟩
instance:TPl Tryz.prog 182 [(0,2),(2,1)]:=⟨pl182⟩
instance:TOne Tryz.prog 190:=⟨ag190,sz190⟩
instance:TZr Tryz.prog 190 .nilFunc:=⟨zr190⟩
instance:TOne Tryz.prog 191:=⟨ag191,sz191⟩
instance:TZr Tryz.prog 191 (.slice none 0 0):=⟨zr191⟩
instance:TSl Tryz.prog 191 22 1 24 (.slice none 0 0):=⟨sl191,sz22,by22,zr22,by decide,rfl⟩
instance:TOne Tryz.prog 226:=⟨ag226,sz226⟩
instance:TZr Tryz.prog 226 (.slice none 0 0):=⟨zr226⟩
instance:TSl Tryz.prog 226 229 2 32 (.agg #[(.slice none 0 0),(.bool false)]):=⟨sl226,sz229,by229,zr229,by decide,rfl⟩
instance:TOne Tryz.prog 227:=⟨ag227,sz227⟩
instance:TZr Tryz.prog 227 (.slice none 0 0):=⟨zr227⟩
instance:TSl Tryz.prog 227 245 2 16 (.agg #[(.int .i64 0),(.bool false)]):=⟨sl227,sz245,by245,zr245,by decide,rfl⟩
instance:TZr Tryz.prog 228 (.agg #[(.slice none 0 0),(.bool false)]):=⟨zr228⟩
instance:TPl Tryz.prog 228 [(0,1),(1,1)]:=⟨pl228⟩
instance:TAgg Tryz.prog 229 2:=⟨ag229,sz229⟩
instance:TZr Tryz.prog 229 (.agg #[(.slice none 0 0),(.bool false)]):=⟨zr229⟩
instance:TPl Tryz.prog 229 [(0,1),(1,1)]:=⟨pl229⟩
instance:TZr Tryz.prog 244 (.agg #[(.int .i64 0),(.bool false)]):=⟨zr244⟩
instance:TPl Tryz.prog 244 [(0,1),(1,1)]:=⟨pl244⟩
instance:TAgg Tryz.prog 245 2:=⟨ag245,sz245⟩
instance:TZr Tryz.prog 245 (.agg #[(.int .i64 0),(.bool false)]):=⟨zr245⟩
instance:TPl Tryz.prog 245 [(0,1),(1,1)]:=⟨pl245⟩
theorem cok10:callOk Tryz.prog 10=True:=okM Tryz.func10
theorem cok12:callOk Tryz.prog 12=True:=okM Tryz.func12
theorem cok13:callOk Tryz.prog 13=True:=okM Tryz.func13
theorem cok14:callOk Tryz.prog 14=True:=okM Tryz.func14
theorem cok15:callOk Tryz.prog 15=True:=okM Tryz.func15
theorem cok23:callOk Tryz.prog 23=True:=okM Tryz.func23
theorem cok24:callOk Tryz.prog 24=True:=okM Tryz.func24
theorem cok25:callOk Tryz.prog 25=True:=okM Tryz.func25
theorem cok26:callOk Tryz.prog 26=True:=okM Tryz.func26
theorem cok27:callOk Tryz.prog 27=True:=okM Tryz.func27
theorem cok31:callOk Tryz.prog 31=True:=okM Tryz.func31
theorem cok32:callOk Tryz.prog 32=True:=okM Tryz.func32
theorem cok34:callOk Tryz.prog 34=True:=okM Tryz.func34
theorem cok35:callOk Tryz.prog 35=True:=okM Tryz.func35
theorem cok36:callOk Tryz.prog 36=True:=okM Tryz.func36
theorem cok37:callOk Tryz.prog 37=True:=okM Tryz.func37
theorem cok41:callOk Tryz.prog 41=True:=okM Tryz.func41
theorem cok42:callOk Tryz.prog 42=True:=okM Tryz.func42
theorem cok49:callOk Tryz.prog 49=True:=okM Tryz.func49
theorem cok50:callOk Tryz.prog 50=True:=okM Tryz.func50
theorem cok51:callOk Tryz.prog 51=True:=okM Tryz.func51
theorem cok52:callOk Tryz.prog 52=True:=okM Tryz.func52
theorem cok53:callOk Tryz.prog 53=True:=okM Tryz.func53
theorem cok54:callOk Tryz.prog 54=True:=okM Tryz.func54
theorem cok56:callOk Tryz.prog 56=True:=okM Tryz.func56
theorem cok60:callOk Tryz.prog 60=True:=okM Tryz.func60
theorem cok61:callOk Tryz.prog 61=True:=okM Tryz.func61
theorem cok62:callOk Tryz.prog 62=True:=okM Tryz.func62
theorem cok63:callOk Tryz.prog 63=True:=okM Tryz.func63
theorem cok64:callOk Tryz.prog 64=True:=okM Tryz.func64
theorem cok65:callOk Tryz.prog 65=True:=okM Tryz.func65
theorem cok66:callOk Tryz.prog 66=True:=okM Tryz.func66
theorem cok67:callOk Tryz.prog 67=True:=okM Tryz.func67
theorem cok68:callOk Tryz.prog 68=True:=okM Tryz.func68
theorem cok69:callOk Tryz.prog 69=True:=okM Tryz.func69
theorem cok70:callOk Tryz.prog 70=True:=okM Tryz.func70
theorem cok71:callOk Tryz.prog 71=True:=okM Tryz.func71
theorem cok72:callOk Tryz.prog 72=True:=okM Tryz.func72
theorem cok76:callOk Tryz.prog 76=True:=okM Tryz.func76
theorem cok77:callOk Tryz.prog 77=True:=okM Tryz.func77
theorem cok78:callOk Tryz.prog 78=True:=okM Tryz.func78
theorem cok79:callOk Tryz.prog 79=True:=okM Tryz.func79
theorem cok80:callOk Tryz.prog 80=True:=okM Tryz.func80
theorem cok81:callOk Tryz.prog 81=True:=okM Tryz.func81
theorem cok82:callOk Tryz.prog 82=True:=okM Tryz.func82
theorem cok83:callOk Tryz.prog 83=True:=okM Tryz.func83
theorem cok84:callOk Tryz.prog 84=True:=okM Tryz.func84
theorem cok85:callOk Tryz.prog 85=True:=okM Tryz.func85
theorem cok86:callOk Tryz.prog 86=True:=okM Tryz.func86
theorem cok87:callOk Tryz.prog 87=True:=okM Tryz.func87
theorem cok88:callOk Tryz.prog 88=True:=okM Tryz.func88
theorem cok89:callOk Tryz.prog 89=True:=okM Tryz.func89
theorem cok90:callOk Tryz.prog 90=True:=okM Tryz.func90
theorem cok91:callOk Tryz.prog 91=True:=okM Tryz.func91
theorem cok92:callOk Tryz.prog 92=True:=okM Tryz.func92
theorem cok95:callOk Tryz.prog 95=True:=okM Tryz.func95
theorem cok97:callOk Tryz.prog 97=True:=okM Tryz.func97
theorem cok98:callOk Tryz.prog 98=True:=okM Tryz.func98
theorem cok99:callOk Tryz.prog 99=True:=okM Tryz.func99
theorem cok100:callOk Tryz.prog 100=True:=okM Tryz.func100
theorem cok101:callOk Tryz.prog 101=True:=okM Tryz.func101
theorem cok102:callOk Tryz.prog 102=True:=okM Tryz.func102
theorem cok103:callOk Tryz.prog 103=True:=okM Tryz.func103
theorem cok104:callOk Tryz.prog 104=True:=okM Tryz.func104
theorem cok105:callOk Tryz.prog 105=True:=okM Tryz.func105
theorem cok106:callOk Tryz.prog 106=True:=okM Tryz.func106
theorem cok107:callOk Tryz.prog 107=True:=okM Tryz.func107
theorem cok108:callOk Tryz.prog 108=True:=okM Tryz.func108
theorem cok109:callOk Tryz.prog 109=True:=okM Tryz.func109
theorem cok110:callOk Tryz.prog 110=True:=okM Tryz.func110
theorem cok118:callOk Tryz.prog 118=True:=okM Tryz.func118
theorem cok119:callOk Tryz.prog 119=True:=okM Tryz.func119
theorem cok120:callOk Tryz.prog 120=True:=okM Tryz.func120
theorem cok121:callOk Tryz.prog 121=True:=okM Tryz.func121
theorem cok122:callOk Tryz.prog 122=True:=okM Tryz.func122
theorem cok123:callOk Tryz.prog 123=True:=okM Tryz.func123
theorem cok124:callOk Tryz.prog 124=True:=okM Tryz.func124
theorem cok125:callOk Tryz.prog 125=True:=okM Tryz.func125
theorem cok126:callOk Tryz.prog 126=True:=okM Tryz.func126
theorem cok127:callOk Tryz.prog 127=True:=okM Tryz.func127
theorem cok128:callOk Tryz.prog 128=True:=okM Tryz.func128
theorem cok129:callOk Tryz.prog 129=True:=okM Tryz.func129
theorem cok130:callOk Tryz.prog 130=True:=okM Tryz.func130
theorem cok131:callOk Tryz.prog 131=True:=okM Tryz.func131
theorem cok132:callOk Tryz.prog 132=True:=okM Tryz.func132
theorem cok135:callOk Tryz.prog 135=True:=okM Tryz.func135
theorem cok136:callOk Tryz.prog 136=True:=okM Tryz.func136
theorem cok137:callOk Tryz.prog 137=True:=okM Tryz.func137
theorem cok142:callOk Tryz.prog 142=True:=okM Tryz.func142
theorem cok143:callOk Tryz.prog 143=True:=okM Tryz.func143
theorem cok144:callOk Tryz.prog 144=True:=okM Tryz.func144
theorem cok145:callOk Tryz.prog 145=True:=okM Tryz.func145
theorem cok146:callOk Tryz.prog 146=True:=okM Tryz.func146
theorem cok147:callOk Tryz.prog 147=True:=okM Tryz.func147
theorem cok148:callOk Tryz.prog 148=True:=okM Tryz.func148
theorem cok149:callOk Tryz.prog 149=True:=okM Tryz.func149
theorem cok150:callOk Tryz.prog 150=True:=okM Tryz.func150
theorem cok151:callOk Tryz.prog 151=True:=okM Tryz.func151
theorem cok152:callOk Tryz.prog 152=True:=okM Tryz.func152
theorem cok153:callOk Tryz.prog 153=True:=okM Tryz.func153
theorem cok154:callOk Tryz.prog 154=True:=okM Tryz.func154
theorem cok155:callOk Tryz.prog 155=True:=okM Tryz.func155
theorem cok156:callOk Tryz.prog 156=True:=okM Tryz.func156
theorem cok157:callOk Tryz.prog 157=True:=okM Tryz.func157
theorem cok158:callOk Tryz.prog 158=True:=okM Tryz.func158
theorem cok159:callOk Tryz.prog 159=True:=okM Tryz.func159
theorem cok160:callOk Tryz.prog 160=True:=okM Tryz.func160
theorem cok161:callOk Tryz.prog 161=True:=okM Tryz.func161
theorem cok162:callOk Tryz.prog 162=True:=okM Tryz.func162
theorem cok163:callOk Tryz.prog 163=True:=okM Tryz.func163
theorem cok164:callOk Tryz.prog 164=True:=okM Tryz.func164
theorem cok165:callOk Tryz.prog 165=True:=okM Tryz.func165
theorem cok166:callOk Tryz.prog 166=True:=okM Tryz.func166
theorem cok167:callOk Tryz.prog 167=True:=okM Tryz.func167
theorem cok170:callOk Tryz.prog 170=True:=okM Tryz.func170
theorem cok171:callOk Tryz.prog 171=True:=okM Tryz.func171
theorem cok172:callOk Tryz.prog 172=True:=okM Tryz.func172
theorem cok173:callOk Tryz.prog 173=True:=okM Tryz.func173
theorem cok174:callOk Tryz.prog 174=True:=okM Tryz.func174
theorem cok175:callOk Tryz.prog 175=True:=okM Tryz.func175
theorem cok176:callOk Tryz.prog 176=True:=okM Tryz.func176
theorem cok177:callOk Tryz.prog 177=True:=okM Tryz.func177
theorem cok178:callOk Tryz.prog 178=True:=okM Tryz.func178
theorem cok179:callOk Tryz.prog 179=True:=okM Tryz.func179
theorem cok180:callOk Tryz.prog 180=True:=okM Tryz.func180
theorem cok181:callOk Tryz.prog 181=True:=okM Tryz.func181
theorem cok182:callOk Tryz.prog 182=True:=okM Tryz.func182
theorem cok183:callOk Tryz.prog 183=True:=okM Tryz.func183
theorem cok184:callOk Tryz.prog 184=True:=okM Tryz.func184
theorem cok185:callOk Tryz.prog 185=True:=okM Tryz.func185
theorem cok186:callOk Tryz.prog 186=True:=okM Tryz.func186
theorem cok187:callOk Tryz.prog 187=True:=okM Tryz.func187
theorem cok188:callOk Tryz.prog 188=True:=okM Tryz.func188
theorem cok189:callOk Tryz.prog 189=True:=okM Tryz.func189
theorem cok190:callOk Tryz.prog 190=True:=okM Tryz.func190
theorem cok191:callOk Tryz.prog 191=True:=okM Tryz.func191
theorem cok192:callOk Tryz.prog 192=True:=okM Tryz.func192
theorem cok193:callOk Tryz.prog 193=True:=okM Tryz.func193
theorem cok194:callOk Tryz.prog 194=True:=okM Tryz.func194
theorem cok195:callOk Tryz.prog 195=True:=okM Tryz.func195
theorem cok196:callOk Tryz.prog 196=True:=okM Tryz.func196
theorem cok197:callOk Tryz.prog 197=True:=okM Tryz.func197
theorem cok198:callOk Tryz.prog 198=True:=okM Tryz.func198
theorem cok199:callOk Tryz.prog 199=True:=okM Tryz.func199
theorem cok200:callOk Tryz.prog 200=True:=okM Tryz.func200
theorem cok201:callOk Tryz.prog 201=True:=okM Tryz.func201
theorem cok202:callOk Tryz.prog 202=True:=okM Tryz.func202
theorem cok203:callOk Tryz.prog 203=True:=okM Tryz.func203
theorem cok204:callOk Tryz.prog 204=True:=okM Tryz.func204
theorem cok205:callOk Tryz.prog 205=True:=okM Tryz.func205
theorem cok206:callOk Tryz.prog 206=True:=okM Tryz.func206
theorem cok207:callOk Tryz.prog 207=True:=okM Tryz.func207
theorem cok208:callOk Tryz.prog 208=True:=okM Tryz.func208
theorem cok209:callOk Tryz.prog 209=True:=okM Tryz.func209
theorem cok210:callOk Tryz.prog 210=True:=okM Tryz.func210
theorem cok211:callOk Tryz.prog 211=True:=okM Tryz.func211
theorem cok212:callOk Tryz.prog 212=True:=okM Tryz.func212
theorem cok213:callOk Tryz.prog 213=True:=okM Tryz.func213
theorem cok215:callOk Tryz.prog 215=True:=okM Tryz.func215
theorem cok216:callOk Tryz.prog 216=True:=okM Tryz.func216
theorem cok217:callOk Tryz.prog 217=True:=okM Tryz.func217
theorem cok218:callOk Tryz.prog 218=True:=okM Tryz.func218
theorem cok219:callOk Tryz.prog 219=True:=okM Tryz.func219
theorem cok220:callOk Tryz.prog 220=True:=okM Tryz.func220
theorem cok221:callOk Tryz.prog 221=True:=okM Tryz.func221
theorem cok222:callOk Tryz.prog 222=True:=okM Tryz.func222
theorem cok223:callOk Tryz.prog 223=True:=okM Tryz.func223
theorem cok224:callOk Tryz.prog 224=True:=okM Tryz.func224
theorem cok225:callOk Tryz.prog 225=True:=okM Tryz.func225
theorem cok226:callOk Tryz.prog 226=True:=okM Tryz.func226
theorem cok227:callOk Tryz.prog 227=True:=okM Tryz.func227
theorem cok228:callOk Tryz.prog 228=True:=okM Tryz.func228
theorem cok229:callOk Tryz.prog 229=True:=okM Tryz.func229
theorem mixed:Tryz.prog.follows .mixedOrders=true:=by kernel_rfl
end Go.Proofs.YthkabaiamcjdbaaGreat
/-
 Walks: chapter 2's functions,and the reference's;equality of lists.
-/


namespace Go.Proofs.YthkabaiamcjdbaaGreat
open Go.Abs
variable {κ:Ctx} {σ:List Res} {K:Ret→List Res→Prop} {o o':Option (Option (Nat × Nat))}
theorem Blank {c:Int} (hK:K (.ret (B (blankI c))) σ):ACallF κ Tryz.prog 72 [I c] σ K:=by
 refine ACallF.dropL (ACallF_intro Tryz.func72 rfl ?_)
 simp only [Tryz.ntmps72]
 repeat' (first|simp only [WL,intF,WM,reduceCtorEq,WLb,Nat.reduceAdd,Nat.reduceSub,Bool.not_false,true_and,reduceIte,Bool.false_eq_true,Tryz.results72]|((with_reducible first|refine grd_cases (fun h=>?_) (fun h=>?_)|refine condC_split (fun h=>?_) (fun h=>?_))<;>(try simp only [h])<;>(try simp only [NR_,NRb] at h)))
 all_goals (refine leafL sub_rfl (leT_eq (congrArg B ?_)) hK;simp [blankI, *])
 all_goals (rw [Bool.eq_iff_iff];simp)
theorem within {c a b:Int} (hK:K (.ret (B (decide (a≤c∧c≤b)))) σ):ACallF κ Tryz.prog 194 [I c,I a,I b] σ K:=by
 refine ACallF.dropL (ACallF_intro Tryz.func194 rfl ?_)
 simp only [Tryz.ntmps194]
 repeat' (first|simp only [WL,intF,WM,reduceCtorEq,WLb,Nat.reduceAdd,Nat.reduceSub,Bool.not_true,true_and,reduceIte,Bool.false_eq_true,Tryz.results194]|((with_reducible first|refine grd_cases (fun h=>?_) (fun h=>?_)|refine condC_split (fun h=>?_) (fun h=>?_))<;>(try simp only [h])<;>(try simp only [NR_,NRb] at h)))
 all_goals (refine leafL sub_rfl (leT_eq (congrArg B ?_)) hK;rw [Bool.eq_iff_iff];simp;omega)
theorem Print {c:Int} (hK:K (.ret (B (printI c))) σ):ACallF κ Tryz.prog 165 [I c] σ K:=by
 refine ACallF.dropL (ACallF_intro Tryz.func165 rfl ?_)
 simp only [Tryz.ntmps165]
 repeat' (first|simp only [WL,intF,WM,reduceCtorEq,WLb,Nat.reduceAdd,Nat.reduceSub,Bool.not_false,true_and,reduceIte,Bool.false_eq_true,cok194,Tryz.results165]|with_reducible refine cD (within ?_)|((with_reducible first|refine grd_cases (fun h=>?_) (fun h=>?_)|refine condC_split (fun h=>?_) (fun h=>?_))<;>(try simp only [h])<;>(try simp only [NR_,NRb] at h)))
 all_goals (refine leafL sub_rfl (leT_eq (congrArg B ?_)) hK;rw [Bool.eq_iff_iff];simp only [printI,decide_eq_true_eq,Bool.false_eq_true,false_iff,true_iff,eq_self];omega)
theorem rPrint {c:Int} (hK:K (.ret (B (printI c))) σ):ACallF κ Tryz.prog 41 [I c] σ K:=by
 refine ACallF.dropL (ACallF_intro Tryz.func41 rfl ?_)
 simp only [Tryz.ntmps41]
 repeat' (first|simp only [WL,intF,WM,reduceCtorEq,WLb,Nat.reduceAdd,Nat.reduceSub,Bool.not_true,Bool.not_false,true_and,reduceIte,Bool.false_eq_true,Tryz.results41]|((with_reducible first|refine grd_cases (fun h=>?_) (fun h=>?_)|refine condC_split (fun h=>?_) (fun h=>?_))<;>(try simp only [h])<;>(try simp only [NR_,NRb] at h))|omega)
 all_goals (refine leafL sub_rfl (leT_eq (congrArg B ?_)) hK;rw [Bool.eq_iff_iff];simp only [printI,decide_eq_true_eq,Bool.false_eq_true,false_iff,true_iff,eq_self];omega)
theorem rest {l:List Int} (hl:l.length≤1000000000) (hK:K (.ret (SI none (l.dropWhile blankI))) σ):ACallF κ Tryz.prog 92 [SI o l] σ K:=by
 refine ACallF.dropL (ACallF_intro Tryz.func92 rfl ?_)
 simp only [Tryz.ntmps92]
 repeat' (first|simp only [WL,WM,Nat.reduceAdd,Nat.reduceSub])
 refine loop_by (fun x:Option (Option (Nat × Nat)) × List Int=>⟨(SI x.1 x.2::.any::.any::.any::.any::.any::.any::.any::.any::.any::.any::.any::.any::.any::.any::[]),σ,true,[]⟩) (fun x=>x.2.dropWhile blankI=l.dropWhile blankI∧x.2.length≤l.length) (fun x=>x.2.length) (o,l) (St_le_same leA id) ⟨rfl,Nat.le_refl _⟩ ?_
 rintro ⟨o',l'⟩ ⟨h1,h2⟩
 dsimp only at h1 h2 ⊢
 repeat' (first|simp only [WL,intF,WM,Int.reduceToNat,reduceCtorEq,WLb,Nat.reduceAdd,Bool.not_true,true_and,reduceIte,Bool.false_eq_true,T3,T22,cok72,Tryz.results92]|simp (disch:=first|omega|(simp only [LN_];omega)) only [getI]|(with_reducible first|refine andA (hb:=?_)|refine cD (Blank ?_))|((with_reducible first|refine grd_cases (fun h=>?_) (fun h=>?_)|refine condC_split (fun h=>?_) (fun h=>?_))<;>(try simp only [h])<;>(try simp only [NR_,NRb] at h)))
 ·refine ⟨(none,l'.drop 1),St_le_same leA id,⟨?_, ?_⟩, ?_⟩
  ·rw [← h1];exact (dw_step (by omega) h).symm
  ·simp;omega
  ·simp;omega
 ·exact leafL sub_rfl (leT_le (by rw [← h1,dw_stop (by omega) h];exact le_ro)) hK
 ·exact leafL sub_rfl (leT_le (by rw [← h1,List.eq_nil_of_length_eq_zero (l:=l') (by omega)];exact le_ro)) hK
theorem lEmpty {n:Int}{l:List Int} (hl:l.length≤1000000000) (hK:K (.ret (B (l.all blankI))) σ):ACallF κ Tryz.prog 172 [.agg [I n,SI o l]] σ K:=by
 refine ACallF.dropL (ACallF_intro Tryz.func172 rfl ?_)
 simp only [Tryz.ntmps172]
 repeat' (first|simp only [WL,intF,WM,reduceCtorEq,WLb,Nat.reduceAdd,Nat.reduceSub,Nat.reduceEqDiff,true_and,T22,fR fl51_1,cok92,Tryz.results172]|(with_reducible first|refine andA (hb:=?_)|refine y_load (hK:=?_)|refine y_box (hK:=fun b=>?_)|refine cD (rest ?_ ?_))|omega)
 exact leafL (sub_cons sub_rfl) (leT_eq (congrArg B (by rw [Bool.eq_iff_iff,← dw_all];simp))) hK
theorem lBare {n:Int}{l:List Int} (hl:l.length≤1000000000) (hK:K (.ret (B (bareI l))) σ):ACallF κ Tryz.prog 71 [.agg [I n,SI o l]] σ K:=by
 refine ACallF.dropL (ACallF_intro Tryz.func71 rfl ?_)
 simp only [Tryz.ntmps71]
 repeat' (first|simp only [WL,intF,WM,Int.reduceToNat,reduceCtorEq,WLb,Nat.reduceAdd,Nat.reduceSub,Nat.reduceEqDiff,Bool.not_false,true_and,reduceIte,Bool.false_eq_true,T3,T22,fR fl51_1,cok92,Tryz.results71]|simp (disch:=first|omega|(simp only [LN_];omega)) only [getI]|(with_reducible first|refine andA (hb:=?_)|refine y_load (hK:=?_)|refine y_box (hK:=fun b=>?_)|refine cD (rest ?_ ?_))|((with_reducible first|refine grd_cases (fun h=>?_) (fun h=>?_)|refine condC_split (fun h=>?_) (fun h=>?_))<;>(try simp only [h])<;>(try simp only [NR_,NRb] at h))|omega)
 ·have h:¬(l.dropWhile blankI).length=0:=by omega
  rw [dw_all] at h
  exact leafL (sub_cons sub_rfl) (leT_eq (congrArg B (by simp [bareI,h]))) hK
 ·have h:(l.dropWhile blankI).length=0:=by omega
  rw [dw_all] at h
  exact leafL (sub_cons sub_rfl) (leT_eq (congrArg B (by simp [bareI,h]))) hK
theorem among {s:ByteArray}{c:Int} (hs:s.size≤1000000000) (hK:K (.ret (B (decide (c∈bytesI s)))) σ):ACallF κ Tryz.prog 191 [.raw (.string s),I c] σ K:=by
 have hl:=bytesI_len s
 refine ACallF.dropL (ACallF_intro Tryz.func191 rfl ?_)
 simp only [Tryz.ntmps191]
 repeat' (first|simp only [WL,WM,Nat.reduceAdd,Nat.reduceSub,true_and,convC_str,T63]|with_reducible refine y_str ?_ ?_|(refine maxLen_ok ?_;(first|omega|(simp only [LN_];omega))))
 refine loop_by (fun k:Nat=>⟨(.raw (.string s)::I c::.any::.any::.any::.any::.any::.any::SU none (bytesI s)::I s.size::I k::.any::.any::.any::.any::.any::.any::.any::.any::[]),σ,true,[]⟩) (fun k=>k≤s.size∧∀ j,j < k→¬(bytesI s).getD j 0=c) (fun k=>s.size - k) 0 (St_le_same (by simp only [hl];exact leA) id) ⟨Nat.zero_le _,fun j h=>by omega⟩ ?_
 rintro k ⟨hk,hb⟩
 have hby:k < s.size→0≤(bytesI s).getD k 0∧(bytesI s).getD k 0≤255:=fun h=>bytesI_byte s _ (by rw [List.getD_eq_getElem?_getD,List.getElem?_eq_getElem (by omega)];exact List.getElem_mem _)
 repeat' (first|simp only [WL,intF,WM,reduceCtorEq,WLb,Nat.reduceAdd,true_and,T5,T63,cI in3,Tryz.results191]|simp (disch:=first|omega|(simp only [LN_];omega)) only [wrap_id,getU]|with_reducible refine andA (hb:=?_)|((with_reducible first|refine grd_cases (fun h=>?_) (fun h=>?_)|refine condC_split (fun h=>?_) (fun h=>?_))<;>(try simp only [h])<;>(try simp only [NR_,NRb] at h)))
 ·exact leafL sub_rfl (leT_eq (congrArg B (decide_eq_true (mem_getD (k:=k) (by omega) (by assumption))).symm)) hK
 ·refine ⟨k+1,St_le_same leA id,⟨by omega,fun j h=>?_⟩,by omega⟩
  rcases Nat.lt_succ_iff_lt_or_eq.1 h with h|rfl
  ·exact hb j h
  ·assumption
 ·exact leafL sub_rfl (leT_eq (congrArg B (decide_eq_false (not_mem_getD (fun j hj=>hb j (by omega)))).symm)) hK
theorem cFlow {c:Int} (hK:K (.ret (B (flowI c))) σ):ACallF κ Tryz.prog 154 [I c] σ K:=by
 refine ACallF.dropL (ACallF_intro Tryz.func154 rfl ?_)
 simp only [Tryz.ntmps154]
 repeat' (first|simp only [WL,WM,Nat.reduceAdd,Nat.reduceSub,true_and,cok191,Tryz.results154]|with_reducible refine cD (among ?_ ?_))
 ·decide
 ·exact leafL sub_rfl (leT_eq (congrArg B (flow_mem (by decide) c))) hK
theorem cName {c:Int} (hK:K (.ret (B (nameI c))) σ):ACallF κ Tryz.prog 132 [I c] σ K:=by
 refine ACallF.dropL (ACallF_intro Tryz.func132 rfl ?_)
 simp only [Tryz.ntmps132]
 repeat' (first|simp only [WL,intF,WM,reduceCtorEq,WLb,Nat.reduceAdd,Nat.reduceSub,Bool.not_true,true_and,reduceIte,Bool.false_eq_true,cok72,cok154,cok165,Tryz.results132]|(with_reducible first|refine cD (Blank ?_)|refine cD (cFlow ?_)|refine cD (Print ?_))|((with_reducible first|refine grd_cases (fun h=>?_) (fun h=>?_)|refine condC_split (fun h=>?_) (fun h=>?_))<;>(try simp only [h])<;>(try simp only [NR_,NRb] at h)))
 all_goals exact leafL sub_rfl (leT_eq (congrArg B (by simp [nameI, *]))) hK
theorem cWord {c:Int} (hK:K (.ret (B (wordI c))) σ):ACallF κ Tryz.prog 195 [I c] σ K:=by
 refine ACallF.dropL (ACallF_intro Tryz.func195 rfl ?_)
 simp only [Tryz.ntmps195]
 repeat' (first|simp only [WL,intF,WM,reduceCtorEq,WLb,Nat.reduceAdd,Nat.reduceSub,Bool.not_false,true_and,reduceIte,Bool.false_eq_true,cok194,Tryz.results195]|with_reducible refine cD (within ?_)|((with_reducible first|refine grd_cases (fun h=>?_) (fun h=>?_)|refine condC_split (fun h=>?_) (fun h=>?_))<;>(try simp only [h])<;>(try simp only [NR_,NRb] at h)))
 all_goals (refine leafL sub_rfl (leT_eq (congrArg B ?_)) hK;rw [Bool.eq_iff_iff];simp only [wordI,decide_eq_true_eq,beq_iff_eq,Bool.false_eq_true,false_iff,true_iff,eq_self];omega)
theorem cHex {c:Int} (hK:K (.ret (I (hexI c))) σ):ACallF κ Tryz.prog 216 [I c] σ K:=by
 refine ACallF.dropL (ACallF_intro Tryz.func216 rfl ?_)
 simp only [Tryz.ntmps216]
 repeat' (first|simp only [WL,intF,WM,reduceCtorEq,WLb,Nat.reduceAdd,Nat.reduceSub,true_and,cok194,Tryz.results216]|simp (disch:=first|omega|(simp only [LN_];omega)) only [wrap_id]|with_reducible refine cD (within ?_)|((with_reducible first|refine grd_cases (fun h=>?_) (fun h=>?_)|refine condC_split (fun h=>?_) (fun h=>?_))<;>(try simp only [h])<;>(try simp only [NR_,NRb] at h)))
 all_goals (refine leafL sub_rfl (leT_eq (congrArg I ?_)) hK;unfold hexI;(repeat' split)<;>omega)
theorem lMarker {n:Int}{l:List Int} (hl:l.length≤1000000000) (hK:K (.ret (I (markerI n l))) σ):ACallF κ Tryz.prog 56 [.agg [I n,SI o l]] σ K:=by
  refine ACallF.dropL (ACallF_intro Tryz.func56 rfl ?_)
  simp only [Tryz.ntmps56]
  repeat' (first|simp only [WL,intF,WM,Int.reduceToNat,reduceCtorEq,WLb,Nat.reduceAdd,Nat.reduceSub,Nat.reduceEqDiff,Bool.not_true,Bool.not_false,true_and,reduceIte,Bool.false_eq_true,T3,T22,fR fl51_0,fR fl51_1,cok72,Tryz.results56]|simp (disch:=first|omega|(simp only [LN_];omega)) only [getI]|(with_reducible first|refine andA (hb:=?_)|refine y_load (hK:=?_)|refine y_box (hK:=fun b=>?_)|refine y_bs (hK:=?_)|refine cD (Blank ?_))|((with_reducible first|refine grd_cases (fun h=>?_) (fun h=>?_)|refine condC_split (fun h=>?_) (fun h=>?_))<;>(try simp only [h])<;>(try simp only [NR_,NRb] at h)))
  all_goals first
    | exact leafL (sub_cons sub_rfl) (leT_eq (congrArg I (markerI_bad (by assumption) (by omega)).symm)) hK
    | (refine leafL (sub_cons sub_rfl) (leT_eq (congrArg I ?_)) hK
       unfold markerI
       repeat' split
       all_goals first|rfl|omega)
    | skip
  all_goals
    refine loop_by (fun k:Nat=>⟨(.agg [I n,SI o l]::.raw (.pointer (some ⟨b,0,none⟩))::.any::.any::.any::.any::.any::.any::.any::.any::.any::.any::.any::.any::.any::.any::.any::.any::.any::.any::.any::.any::.any::.any::.any::.any::.any::.any::.sl 1 none [I 45,I 46]::I 2::I k::.any::.any::.any::.any::.any::.any::.any::.any::.any::.any::.any::.any::.any::.any::.any::.any::.any::.any::.any::.any::.any::.any::.any::.any::.any::.any::.any::.any::.any::[]),.obj b [I n,SI o l]::σ,true,[]⟩) (fun k=>k≤2∧(1≤k→¬(l.getD 0 0=45∧l.getD 1 0=45∧l.getD 2 0=45))∧(2≤k→¬(l.getD 0 0=46∧l.getD 1 0=46∧l.getD 2 0=46))) (fun k=>2 - k) 0 (St_le_same leA id) ⟨by decide,fun h=>absurd h (by decide),fun h=>absurd h (by decide)⟩ ?_
    rintro k ⟨h1,h2,h3⟩
    obtain rfl|rfl|rfl:k=0∨k=1∨k=2:=by omega
  repeat' (first|simp only [WL,intF,WM,Int.reduceToNat,reduceCtorEq,WLb,Nat.reduceAdd,Nat.reduceSub,Nat.reduceEqDiff,Bool.not_true,true_and,reduceIte,Bool.false_eq_true,T3,T22,fR fl51_1,Tryz.results56]|simp (disch:=first|omega|(simp only [LN_];omega)) only [wrap_id,getI]|(with_reducible first|refine andA (hb:=?_)|refine y_load (hK:=?_))|((with_reducible first|refine grd_cases (fun h=>?_) (fun h=>?_)|refine condC_split (fun h=>?_) (fun h=>?_))<;>(try simp only [h])<;>(try simp only [NR_,NRb] at h))|omega)
  all_goals first
    | exact ⟨1,St_le_same leA id,⟨by decide,fun _=>by omega,fun h=>by omega⟩,by decide⟩
    | exact ⟨2,St_le_same leA id,⟨by decide,fun _=>by omega,fun h=>by omega⟩,by decide⟩
    | (refine leafL (sub_cons sub_rfl) (leT_eq (congrArg I ?_)) hK
       unfold markerI
       repeat' split
       all_goals first|rfl|omega)
    | (refine leafL (sub_cons sub_rfl) (leT_eq (congrArg I ?_)) hK
       unfold markerI
       rw [if_pos ⟨by omega,by omega,by omega,by omega,fun _=>by first|assumption|omega⟩]
       first
         | (rw [if_pos (by omega)];rfl)
         | (rw [if_neg (by omega),if_pos (by omega)];rfl))
end Go.Proofs.YthkabaiamcjdbaaGreat
