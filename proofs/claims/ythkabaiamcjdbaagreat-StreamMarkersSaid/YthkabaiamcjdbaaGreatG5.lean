/-
  Texts S, Sb, Su, Sc, My, Mz, T, Ch, Ck, one behind the other.
-/
import Derived.Test.YthkabaiamcjdbaaGreatG4
import Derived.Test.YthkabaiamcjdbaaGreatRows
set_option linter.unusedVariables false
set_option linter.unusedSimpArgs false
set_option maxHeartbeats 16000000
/-
 Plain specifications for chapters 2,3,6 and 8. No program in sight.
-/

namespace Go.Abs
open Go.RowKit
theorem leaf {K:Ret→List Res→Prop}{σ:List Res}{x y:AV} (h:x=y) (hK:K (.ret y) σ):K (.ret x) σ:=h ▸ hK
def jB (c:Int):Bool:=decide (c=9∨c=10∨c=13∨c=133∨(32≤c∧c≤126)∨(160≤c∧c≤55295)∨(57344≤c∧c≤65533)∨(65536≤c∧c≤1114111))
def blankI (c:Int):Bool:=decide (c=32∨c=9)
abbrev SI (o:Option (Option (Nat × Nat))) (l:List Int):AV:=.sl 1 o (l.map I)
theorem aV {l:List Int}{k:Nat} (h:k < l.length):(l.map I).getD k .any=I (l.getD k 0):=by
 simp [List.getD_eq_getElem?_getD,h]
theorem Lg (l:List Int):cV (l.map I)=true:=by
 unfold cV
 rw [List.all_map,List.all_eq_true]
 intro x _
 rfl
theorem wN {α:Type}{p:α→Bool}{d:α}:∀ {l:List α}{k:Nat},k≤(l.takeWhile p).length→k < l.length→p (l.getD k d)=true→k+1≤(l.takeWhile p).length
 | [],_,_,h,_=>by simp at h
 | x::l,0,_,_,h=>by
  have:p x=true:=by simpa using h
  simp [List.takeWhile_cons,this]
 | x::l,k+1,h,h1,h2=>by
  by_cases e:p x=true
  ·simp only [List.takeWhile_cons,e,if_true,List.length_cons] at h ⊢
   have:=wN (p:=p) (d:=d) (l:=l) (k:=k) (by omega) (by simpa using h1) (by simpa using h2)
   omega
  ·simp [List.takeWhile_cons,e] at h
theorem wy {α:Type}{p:α→Bool}{d:α}:∀ {l:List α}{k:Nat},k≤(l.takeWhile p).length→k < l.length→p (l.getD k d)=false→k=(l.takeWhile p).length
 | [],_,_,h,_=>by simp at h
 | x::l,0,_,_,h=>by
  have:p x=false:=by simpa using h
  simp [List.takeWhile_cons,this]
 | x::l,k+1,h,h1,h2=>by
  by_cases e:p x=true
  ·simp only [List.takeWhile_cons,e,if_true,List.length_cons] at h ⊢
   have:=wy (p:=p) (d:=d) (l:=l) (k:=k) (by omega) (by simpa using h1) (by simpa using h2)
   omega
  ·simp [List.takeWhile_cons,e] at h
theorem PY {α:Type}{p:α→Bool}{l:List α}{k:Nat} (h:k≤(l.takeWhile p).length) (h1:l.length≤k):k=(l.takeWhile p).length:=by
 have:=(List.takeWhile_prefix p (l:=l)).length_le
 omega
theorem gv {K:Ret→List Res→Prop}{σ σ':List Res}{b b':AV} (hs:Sub σ σ') (h:b=b') (hK:K (.ret b') σ):CC K (.ret b) σ':=⟨σ,hs,h ▸ hK⟩
def cU (l:List Int):Bool:=l.all blankI || (l.dropWhile blankI).getD 0 0 == 35
def bB (n:Int) (t:List Int):Int:=if n=0∧3≤t.length∧t.getD 0 0=t.getD 1 0∧t.getD 1 0=t.getD 2 0∧(3 < t.length→blankI (t.getD 3 0)=true) then (if t.getD 0 0=45 then 1 else if t.getD 0 0=46 then 2 else 0) else 0
theorem yw {n:Int}{t:List Int} (hb:blankI (t.getD 3 0)=false) (h:3 < t.length):bB n t=0:=by
 unfold bB
 rw [if_neg]
 rintro ⟨_,_,_,_,h5⟩
 rw [h5 h] at hb
 cases hb
theorem CI {p:Int→Bool}:∀ {l:List Int},0 < l.length→p (l.getD 0 0)=true→l.dropWhile p=(l.drop 1).dropWhile p
 | [],h,_=>by simp at h
 | x::l,_,h=>by
  have:p x=true:=by simpa using h
  simp [List.dropWhile_cons,this]
theorem Bd {p:Int→Bool}:∀ {l:List Int},0 < l.length→p (l.getD 0 0)=false→l.dropWhile p=l
 | [],h,_=>by simp at h
 | x::l,_,h=>by
  have:p x=false:=by simpa using h
  simp [List.dropWhile_cons,this]
theorem nm {p:Int→Bool}:∀ {l:List Int},((l.dropWhile p).length=0)=(l.all p=true)
 | []=>by simp
 | x::l=>by
  by_cases e:p x=true
  ·simp only [List.dropWhile_cons,e,if_true,List.all_cons,Bool.true_and];exact nm
  ·simp [List.dropWhile_cons,e]
theorem LD {p:Int→Bool}:∀ {l:List Int},l.drop (l.takeWhile p).length=l.dropWhile p
 | []=>by simp
 | x::l=>by
  by_cases e:p x=true
  ·simp only [List.takeWhile_cons,e,if_true,List.length_cons,List.dropWhile_cons,List.drop_succ_cons];exact LD
  ·simp [List.takeWhile_cons,List.dropWhile_cons,e]
theorem Oh {n:Nat}:((n:Int)+1).toNat=n+1:=by omega
theorem lk {n:Int}{l:List Int} (h:cU l=true):bB n l=0:=by
 unfold bB
 split
 case isFalse=>rfl
 case isTrue hh =>
  obtain ⟨_,h3,h01,h12,_⟩:=hh
  cases l with
  | nil=>simp at h3
  | cons c r =>
   simp only [List.getD_cons_zero] at h01 ⊢
   by_cases hb:blankI c=true
   ·simp [blankI] at hb
    rw [if_neg (by omega),if_neg (by omega)]
   ·simp [cU,hb,List.dropWhile_cons] at h
    rw [if_neg (by omega),if_neg (by omega)]
end Go.Abs
/-
 Numbers,bit by bit. No program in sight.
-/

namespace Go.Abs
def zj (a b:Int):Int:=IntKind.i64.wrap ((BitVec.ofInt 64 a &&& BitVec.ofInt 64 b).toNat:Nat)
def QC (a b:Int):Int:=IntKind.i64.wrap ((BitVec.ofInt 64 a ||| BitVec.ofInt 64 b).toNat:Nat)
theorem da {a b:Int}:IntKind.i64.wrap ((BitVec.ofInt IntKind.i64.bits a &&& BitVec.ofInt IntKind.i64.bits b).toNat:Nat)=zj a b:=rfl
theorem JA {a:Int}{m:Nat} (hm:m < 9223372036854775808):0≤zj a m∧zj a m≤m:=by
 unfold zj
 have h1:(BitVec.ofInt 64 a &&& BitVec.ofInt 64 (m:Int)).toNat≤m:=by
  rw [BitVec.toNat_and]
  refine Nat.le_trans Nat.and_le_right ?_
  have:(BitVec.ofInt 64 (m:Int)).toNat=m:=by
   rw [BitVec.toNat_ofInt]
   have:((m:Int) % ((2 ^ 64:Nat):Int)).toNat=m:=by omega
   exact this
  omega
 rw [aq (by omega) (by omega)]
 omega
theorem yg {a:Int} (k:Nat) (hk:k < 63):zj a ((2 ^ k - 1:Nat):Int)=a % (2 ^ k:Nat):=by
 have hp:2 ^ k < 9223372036854775808:=by
  have:=Nat.pow_lt_pow_right (a:=2) (by decide) hk
  simpa using this
 have hb:=JA (a:=a) (m:=2 ^ k - 1) (by omega)
 unfold zj at *
 have h0:(BitVec.ofInt 64 ((2 ^ k - 1:Nat):Int)).toNat=2 ^ k - 1:=by
  rw [BitVec.toNat_ofInt]
  have h2:2 ^ k - 1 < 2 ^ 64:=by omega
  have:(((2 ^ k - 1:Nat):Int) % ((2 ^ 64:Nat):Int)).toNat=2 ^ k - 1:=by omega
  exact this
 have h1:(BitVec.ofInt 64 a &&& BitVec.ofInt 64 ((2 ^ k - 1:Nat):Int)).toNat=(a % ((2 ^ 64:Nat):Int)).toNat % 2 ^ k:=by
  rw [BitVec.toNat_and,h0,BitVec.toNat_ofInt,Nat.and_two_pow_sub_one_eq_mod]
 rw [h1]
 have h3:(a % ((2 ^ 64:Nat):Int)).toNat % 2 ^ k < 2 ^ k:=Nat.mod_lt _ (by omega)
 rw [aq (by omega) (by omega)]
 have h4:(((a % ((2 ^ 64:Nat):Int)).toNat % 2 ^ k:Nat):Int)=(a % ((2 ^ 64:Nat):Int)) % ((2 ^ k:Nat):Int):=by
  rw [Int.natCast_emod,Int.toNat_of_nonneg (by omega)]
 rw [h4]
 refine Int.emod_emod_of_dvd a ?_
 refine Int.natCast_dvd_natCast.2 (Nat.pow_dvd_pow 2 (by omega))
theorem Ny {a:Int}:zj a 3=a % 4:=yg (a:=a) 2 (by decide)
theorem Rj {a b:Int} (h:0≤b) (h2:b < 64):JW .shr .u64 a b=some (.int .u64 (a / 2 ^ b.toNat)):=by
 have e:min b.toNat IntKind.u64.bits=b.toNat:=by show min b.toNat 64=_;omega
 simp only [JW,e]
 rw [if_neg (by omega),Int.fdiv_eq_ediv_of_nonneg _ (Int.pow_nonneg (by decide))]
theorem nH {n:Int} (h:0≤n) (h2:n≤18446744073709551615):IntKind.u64.wrap n=n:=by
 show n % (2 ^ 64:Int)=n
 omega
def Ob (a b:Int):Int:=IntKind.u64.wrap ((BitVec.ofInt 64 a &&& BitVec.ofInt 64 b).toNat:Nat)
theorem DG {a b:Int}:IntKind.u64.wrap ((BitVec.ofInt IntKind.u64.bits a &&& BitVec.ofInt IntKind.u64.bits b).toNat:Nat)=Ob a b:=rfl
theorem ON {a:Int} (h:0≤a) (h2:a≤4294967295):Ob a 4294967295=a:=by
 obtain ⟨n,rfl⟩:=Int.eq_ofNat_of_zero_le h
 unfold Ob
 have e1:(BitVec.ofInt 64 (n:Int)).toNat=n:=by
  rw [BitVec.toNat_ofInt]
  have:((n:Int) % ((2 ^ 64:Nat):Int)).toNat=n:=by omega
  exact this
 have e2:(BitVec.ofInt 64 (4294967295:Int)).toNat=2 ^ 32 - 1:=rfl
 have e:(BitVec.ofInt 64 (n:Int) &&& BitVec.ofInt 64 (4294967295:Int)).toNat=n:=by
  rw [BitVec.toNat_and,e1,e2,Nat.and_two_pow_sub_one_eq_mod]
  omega
 rw [e]
 exact nH (by omega) (by omega)
theorem S6 {a b:Int} (h:0≤a) (h2:a < b):a / b=0:=Int.ediv_eq_zero_of_lt h h2
end Go.Abs
/-
 Plain specifications: code points as bytes. No program in sight.
-/



namespace Go.Abs
def hZ (c:Int):Bool:=decide (0≤c∧c≤1114111∧(c < 55296∨57343 < c))
def zB (c:Int):List Int :=
 if c < 128 then [c] else if c < 2048 then [192+c / 64,128+c % 64] else if c < 65536 then [224+c / 4096,128+c / 64 % 64,128+c % 64] else [240+c / 262144,128+c / 4096 % 64,128+c / 64 % 64,128+c % 64]
def rL (c:Int):Int:=if hZ c then c else 65533
def mM (c:Int):List Int:=zB (rL c)
def jI (l:List Int):List Int:=l.flatMap mM
def cu (l:List Int):ByteArray:=strOfNums (jI l)
theorem C4 {c:Int} (h:0≤c) (h1:c≤1114111) (h2:c < 55296∨57343 < c):hZ c=true:=decide_eq_true ⟨h,h1,h2⟩
theorem gA {c:Int}:hZ c=true↔0≤c∧c≤1114111∧(c < 55296∨57343 < c):=by unfold hZ;exact decide_eq_true_iff
theorem Ep (c:Int):0≤rL c∧rL c≤1114111∧(rL c < 55296∨57343 < rL c):=by
 unfold rL
 split
 ·rename_i h;exact gA.1 h
 ·omega
theorem Ak {c:Int} (h:hZ c=true):rL c=c:=by unfold rL;rw [if_pos h]
theorem Pw {c:Int} (h:hZ c=false):rL c=65533:=by unfold rL;rw [if_neg (by rw [h];decide)]
theorem IJ (c:Int):1≤(zB c).length∧(zB c).length≤4:=by unfold zB;(repeat' split)<;>simp
theorem xZ (c:Int):1≤(mM c).length∧(mM c).length≤4:=IJ _
theorem nJ (l:List Int):(jI l).length≤4 * l.length:=by
 induction l with
 | nil=>simp [jI]
 | cons c r ih =>
  have:=xZ c
  simp only [jI,List.flatMap_cons,List.length_append,List.length_cons] at *
  omega
theorem yS (a b:List Int):jI (a++b)=jI a++jI b:=by simp [jI]
theorem Gh (c:Int):jI [c]=mM c:=by simp [jI]
theorem uK {l:List Int}{k:Nat} (h:k < l.length):jI (l.take (k+1))=jI (l.take k)++mM (l.getD k 0):=by
 rw [List.take_succ_eq_append_getElem h,yS,Gh]
 simp [List.getD_eq_getElem?_getD,h]
theorem C5 (c:Int):∀ x∈mM c,0≤x∧x≤255:=by
 have h:=Ep c
 unfold mM zB
 generalize rL c=d at *
 intro x hx
 (repeat' split at hx)<;>simp only [List.mem_cons,List.not_mem_nil,or_false] at hx<;>omega
theorem D9 (l:List Int):∀ x∈jI l,0≤x∧x≤255:=by
 intro x hx
 obtain ⟨c,_,h⟩:=List.mem_flatMap.1 hx
 exact C5 c x h
theorem cL (a b:List Int):cu a++cu b=cu (a++b):=by unfold cu;rw [tH,yS]
theorem je (l:List Int):cw (cu l)=jI l:=oE (D9 l)
theorem q5 {c:Int} (h:0≤c) (h2:c < 128):mM c=[c]:=by
 unfold mM;rw [Ak (C4 h (by omega) (by omega))];unfold zB;rw [if_pos h2]
theorem zS {l:List Int} (h:∀ c∈l,0≤c∧c < 128):jI l=l:=by
 induction l with
 | nil=>rfl
 | cons c r ih =>
  have:=h c (by simp)
  simp only [jI,List.flatMap_cons]
  rw [q5 this.1 this.2]
  have:=ih (fun x hx=>h x (by simp [hx]))
  simp only [jI] at this
  rw [this];rfl
/-! ### Bits -/
theorem SM {m b:Nat} (hm:m < 256) (hb:b < 256):IntKind.i64.wrap ((BitVec.ofInt 64 (m:Int) ||| BitVec.ofInt 64 (b:Int)).toNat:Nat)=((m ||| b:Nat):Int):=by
 have e:∀ n:Nat,n < 256→(BitVec.ofInt 64 (n:Int)).toNat=n:=fun n hn=>by
  rw [BitVec.toNat_ofInt]
  have:((n:Int) % ((2 ^ 64:Nat):Int)).toNat=n:=by omega
  exact this
 rw [BitVec.toNat_or,e m hm,e b hb]
 have:m ||| b < 2 ^ 8:=Nat.or_lt_two_pow hm hb
 exact aq (by omega) (by omega)
theorem jk {m b:Nat} (hm:m < 256) (hb:b < 256):QC m b=((m ||| b:Nat):Int):=SM hm hb
theorem Qx {b:Int} (h:0≤b) (h2:b < 64):QC 128 b=128+b:=by
 obtain ⟨n,rfl⟩:=Int.eq_ofNat_of_zero_le h
 have:=jk (m:=128) (b:=n) (by decide) (by omega)
 have h3:∀ n:Fin 64,128 ||| n.1=128+n.1:=by decide
 have h4:=h3 ⟨n,by omega⟩
 simp only at h4
 rw [h4] at this
 have e:((128:Nat):Int)=128:=rfl
 rw [e] at this
 rw [this];omega
theorem R5 {b:Int} (h:0≤b) (h2:b < 64):QC 192 b=192+b:=by
 obtain ⟨n,rfl⟩:=Int.eq_ofNat_of_zero_le h
 have:=jk (m:=192) (b:=n) (by decide) (by omega)
 have h3:∀ n:Fin 64,192 ||| n.1=192+n.1:=by decide
 have h4:=h3 ⟨n,by omega⟩
 simp only at h4
 rw [h4] at this
 have e:((192:Nat):Int)=192:=rfl
 rw [e] at this
 rw [this];omega
theorem SX {b:Int} (h:0≤b) (h2:b < 32):QC 224 b=224+b:=by
 obtain ⟨n,rfl⟩:=Int.eq_ofNat_of_zero_le h
 have:=jk (m:=224) (b:=n) (by decide) (by omega)
 have h3:∀ n:Fin 32,224 ||| n.1=224+n.1:=by decide
 have h4:=h3 ⟨n,by omega⟩
 simp only at h4
 rw [h4] at this
 have e:((224:Nat):Int)=224:=rfl
 rw [e] at this
 rw [this];omega
theorem QJ {b:Int} (h:0≤b) (h2:b < 16):QC 240 b=240+b:=by
 obtain ⟨n,rfl⟩:=Int.eq_ofNat_of_zero_le h
 have:=jk (m:=240) (b:=n) (by decide) (by omega)
 have h3:∀ n:Fin 16,240 ||| n.1=240+n.1:=by decide
 have h4:=h3 ⟨n,by omega⟩
 simp only at h4
 rw [h4] at this
 have e:((240:Nat):Int)=240:=rfl
 rw [e] at this
 rw [this];omega
theorem vL {n:Int} (h:0≤n) (h2:n≤255):IntKind.u8.wrap n=n:=by
 show n % (2 ^ 8:Int)=n
 omega
theorem Bq {n:Int} (h:0≤n) (h2:n≤4294967295):IntKind.u32.wrap n=n:=by
 show n % (2 ^ 32:Int)=n
 omega
theorem Cj {n:Int} (h:0≤n) (h2:n≤2147483647):IntKind.i32.wrap n=n:=by
 rw [IntKind.wrap_i32];omega
theorem Jq {a b:Int} (h:0≤b) (h2:b < 32):JW .shr .i32 a b=some (.int .i32 (a / 2 ^ b.toNat)):=by
 have e:min b.toNat IntKind.i32.bits=b.toNat:=by show min b.toNat 32=_;omega
 simp only [JW,e]
 rw [if_neg (by omega),Int.fdiv_eq_ediv_of_nonneg _ (Int.pow_nonneg (by decide))]
def OU (a b:Int):Int:=IntKind.u8.wrap ((BitVec.ofInt 8 a ||| BitVec.ofInt 8 b).toNat:Nat)
def On (a b:Int):Int:=IntKind.u8.wrap ((BitVec.ofInt 8 a &&& BitVec.ofInt 8 b).toNat:Nat)
theorem Fc {a b:Int}:IntKind.u8.wrap ((BitVec.ofInt IntKind.u8.bits a ||| BitVec.ofInt IntKind.u8.bits b).toNat:Nat)=OU a b:=rfl
theorem Dj {a b:Int}:IntKind.u8.wrap ((BitVec.ofInt IntKind.u8.bits a &&& BitVec.ofInt IntKind.u8.bits b).toNat:Nat)=On a b:=rfl
theorem qw {m b:Nat} (hm:m < 256) (hb:b < 256):OU m b=((m ||| b:Nat):Int):=by
 unfold OU
 have e:∀ n:Nat,n < 256→(BitVec.ofInt 8 (n:Int)).toNat=n:=fun n hn=>by
  rw [BitVec.toNat_ofInt]
  have:((n:Int) % ((2 ^ 8:Nat):Int)).toNat=n:=by omega
  exact this
 rw [BitVec.toNat_or,e m hm,e b hb]
 have:m ||| b < 2 ^ 8:=Nat.or_lt_two_pow hm hb
 exact vL (by omega) (by omega)
theorem JZ {b:Int} (h:0≤b) (h2:b < 64):OU 128 b=128+b:=by
 obtain ⟨n,rfl⟩:=Int.eq_ofNat_of_zero_le h
 have h5:=jk (m:=128) (b:=n) (by decide) (by omega)
 have h6:=qw (m:=128) (b:=n) (by decide) (by omega)
 exact (h6.trans h5.symm).trans (Qx h h2)
theorem I8 {b:Int} (h:0≤b) (h2:b < 64):OU 192 b=192+b:=by
 obtain ⟨n,rfl⟩:=Int.eq_ofNat_of_zero_le h
 have h5:=jk (m:=192) (b:=n) (by decide) (by omega)
 have h6:=qw (m:=192) (b:=n) (by decide) (by omega)
 exact (h6.trans h5.symm).trans (R5 h h2)
theorem KI {b:Int} (h:0≤b) (h2:b < 32):OU 224 b=224+b:=by
 obtain ⟨n,rfl⟩:=Int.eq_ofNat_of_zero_le h
 have h5:=jk (m:=224) (b:=n) (by decide) (by omega)
 have h6:=qw (m:=224) (b:=n) (by decide) (by omega)
 exact (h6.trans h5.symm).trans (SX h h2)
theorem I2 {b:Int} (h:0≤b) (h2:b < 16):OU 240 b=240+b:=by
 obtain ⟨n,rfl⟩:=Int.eq_ofNat_of_zero_le h
 have h5:=jk (m:=240) (b:=n) (by decide) (by omega)
 have h6:=qw (m:=240) (b:=n) (by decide) (by omega)
 exact (h6.trans h5.symm).trans (QJ h h2)
theorem JV {a:Int}:On (IntKind.u8.wrap a) 63=a % 64:=by
 unfold On
 have e1:(BitVec.ofInt 8 (IntKind.u8.wrap a)).toNat=(a % 256).toNat:=by
  show (BitVec.ofInt 8 (a % (2 ^ 8:Int))).toNat=_
  rw [BitVec.toNat_ofInt]
  have:((a % (2 ^ 8:Int)) % ((2 ^ 8:Nat):Int)).toNat=(a % 256).toNat:=by omega
  exact this
 have e2:(BitVec.ofInt 8 (63:Int)).toNat=2 ^ 6 - 1:=rfl
 rw [BitVec.toNat_and,e1,e2,Nat.and_two_pow_sub_one_eq_mod]
 rw [vL (by omega) (by omega)]
 omega
end Go.Abs
/-
 Plain specifications for chapter 2: kinds of code points. No program in sight.
-/

namespace Go.Abs
def jN (c:Int):Bool:=decide (c=44∨c=91∨c=93∨c=123∨c=125)
def ff (c:Int):Bool:=jB c && !blankI c && !(c == 10) && !(c == 13) && !(c == 65279) && !jN c
def jH (c:Int):Bool:=decide ((48≤c∧c≤57)∨(97≤c∧c≤122)∨(65≤c∧c≤90)∨c=45)
def ky (c:Int):Int:=if 48≤c∧c≤57 then c - 48 else if 97≤c∧c≤102 then c - 97+10 else if 65≤c∧c≤70 then c - 65+10 else -1
theorem JM (c:Int):-1≤ky c∧ky c≤15:=by unfold ky;(repeat' split)<;>omega
theorem HQ {l:List Int}{c:Int}{k:Nat} (h:k < l.length) (e:l.getD k 0=c):c∈l:=by
 rw [← e,List.getD_eq_getElem?_getD,List.getElem?_eq_getElem h]
 exact List.getElem_mem h
theorem wM {l:List Int}{c:Int} (h:∀ j,j < l.length→¬l.getD j 0=c):¬c∈l:=by
 intro hm
 obtain ⟨j,hj,e⟩:=List.getElem_of_mem hm
 refine h j hj ?_
 rw [List.getD_eq_getElem?_getD,List.getElem?_eq_getElem hj]
 exact e
theorem F8 {s:ByteArray} (hs:cw s=[44,91,93,123,125]) (c:Int):decide (c∈cw s)=jN c:=by
 rw [hs,Bool.eq_iff_iff,decide_eq_true_eq]
 simp [jN]
end Go.Abs
/-
 Own layer,part y: the rules of a walk,told short: where a variable lies and what a type is,is found by instances.
-/

namespace Go.Abs
class Hold (σ:List Res) (b:Nat) (i:outParam Nat) (cs:outParam (List AV)):Prop where
 get:σ[i]? = some (.obj b cs)
instance (priority:=low) Hold.there {σ:List Res} {b i:Nat} {cs:List AV} {r:Res} [h:Hold σ b i cs]:Hold (r::σ) b (i+1) cs:=⟨by simpa using h.get⟩
instance Hold.here {σ:List Res} {b:Nat} {cs:List AV}:Hold (.obj b cs::σ) b 0 cs:=⟨rfl⟩
class HasTip (σ:List Res) (tk:Option (Nat × Nat)) (i:outParam Nat):Prop where
 get:σ[i]? = some (.tip tk)
instance (priority:=low) HasTip.there {σ:List Res} {tk:Option (Nat × Nat)} {i:Nat} {r:Res} [h:HasTip σ tk i]:HasTip (r::σ) tk (i+1):=⟨by simpa using h.get⟩
instance HasTip.here {σ:List Res} {tk:Option (Nat × Nat)}:HasTip (.tip tk::σ) tk 0:=⟨rfl⟩
class TOne (P:Program) (t:TypeId):Prop where
 ag:aggT P t=some false
 sz:c9 P t=some 1
class TAgg (P:Program) (t:TypeId) (n:outParam Nat):Prop where
 ag:aggT P t=some true
 sz:c9 P t=some n
class TZr (P:Program) (t:TypeId) (z:outParam Value):Prop where
 zr:dW P t=some z
class TSl (P:Program) (t:TypeId) (e:outParam TypeId) (sz by_:outParam Nat) (z:outParam Value):Prop where
 sl:g9 P t=some e
 hz:c9 P e=some sz
 by':ln P e=some by_
 zr:dW P e=some z
 pos:0 < sz
 one:z.cells.size=sz
class TPl (P:Program) (t:TypeId) (pl:outParam (List (Nat × Nat))):Prop where
 pl:jQ P t=some pl
class TAr (P:Program) (t:TypeId) (n:outParam Nat) (e:outParam TypeId) (sz:outParam Nat):Prop where
 ar:UI P t=some (n,e)
 hz:c9 P e=some sz
class TIn (P:Program) (t:TypeId) (k:outParam IntKind):Prop where
 int:kT P t=some k
class TStr (P:Program) (t:TypeId):Prop where
 str:isStr P t=true
class Good (l:List AV):Prop where
 ok:cV l=true
theorem E2 {a b:List AV} (h1:cV a=true) (h2:cV b=true):cV (a++b)=true:=by
 simp only [cV,List.all_append,Bool.and_eq_true] at *
 exact ⟨h1,h2⟩
theorem OT (l:List Int):cV (l.map fun n=>(.raw (.int .i64 n):AV))=true:=by
 simp [cV,AV.cells,gR,Value.oneCell']
instance {l:List Int}:Good (l.map I):=⟨OT l⟩
instance {a b:List AV} [ha:Good a] [hb:Good b]:Good (a++b):=⟨E2 ha.ok hb.ok⟩
def z9 (sz:Nat) (xs:List AV):Bool:=xs.all fun x=>x.cells.length == sz
theorem sA {sz:Nat}{xs:List AV} (h:z9 sz xs=true):∀ x∈xs,x.cells.length=sz:=fun x hx=>by simpa using List.all_eq_true.1 h x hx
theorem aC {a b:Prop} (h:a:=by first|omega|exact ⟨_,rfl⟩|(focus (simp;done))|(simp;omega)) (hb:b):a∧b:=⟨h,hb⟩
section
variable {κ:Ctx} {dm:Bool} {P:Program} {all rest:List Oper} {Q:Exit→St→Prop} {d:Option Tmp} {t:List AV} {σ:List Res} {fr:Bool} {df:List Deferred}
theorem ax {ty b k i:Nat}{cs:List AV}{x:AV} [ha:TOne P ty] [h:Hold σ b i cs] (hc:cs[k]? = some x:=by with_unfolding_all rfl) (hK:dJ κ dm P all Q d rest ⟨t,σ,fr,df⟩ x σ):cC κ dm P all Q d rest ⟨t,σ,fr,df⟩ (.load ty) [.raw (.pointer (some ⟨b,k,none⟩))] :=
 gz (G4 i h.get ha.ag hc gH) hK
theorem aA {ty b k i n:Nat}{cs:List AV} [ha:TAgg P ty n] [h:Hold σ b i cs] (hn:k+n≤cs.length:=by first|decide|(focus (simp;done))|omega) (hK:dJ κ dm P all Q d rest ⟨t,σ,fr,df⟩ (.agg ((cs.drop k).take n)) σ):cC κ dm P all Q d rest ⟨t,σ,fr,df⟩ (.load ty) [.raw (.pointer (some ⟨b,k,none⟩))] :=
 gz (vJ i h.get ha.ag ha.sz hn gH) hK
theorem aO {ty b k i:Nat}{cs:List AV}{x:AV} [ha:TOne P ty] [h:Hold σ b i cs] (hk:k < cs.length:=by first|decide|(focus (simp;done))|omega) (h1:gR x=true:=by with_unfolding_all rfl) (hK:dJ κ false P all Q d rest ⟨t,σ,fr,df⟩ .any (σ.set i (.obj b (cs.set k x)))):wa κ false P all Q d rest ⟨t,σ,fr,df⟩ ty (.raw (.pointer (some ⟨b,k,none⟩))) x :=
 uu (Dn i h.get ha.sz hk h1 hK)
theorem az {ty b k i n:Nat}{cs xs:List AV} [ha:TAgg P ty n] [h:Hold σ b i cs] (hx:xs.length=n:=by with_unfolding_all rfl) (hn:k+n≤cs.length:=by first|decide|(focus (simp;done))|omega) (h1:xs.all gR=true:=by with_unfolding_all rfl) (hK:dJ κ false P all Q d rest ⟨t,σ,fr,df⟩ .any (σ.set i (.obj b (setCells cs k xs)))):wa κ false P all Q d rest ⟨t,σ,fr,df⟩ ty (.raw (.pointer (some ⟨b,k,none⟩))) (.agg xs) :=
 uu (tN i h.get (by rw [hx];exact ha.sz) (by rw [hx];exact hn) h1 hK)
theorem aP {ty:TypeId}{x:AV} (h1:x.cells.all gR=true:=by with_unfolding_all rfl) (hK:∀ b,dJ κ false P all Q d rest ⟨t,σ,fr,df⟩ (.raw (.pointer (some ⟨b,0,none⟩))) (.obj b x.cells::σ)):cC κ false P all Q d rest ⟨t,σ,fr,df⟩ (.box ty) [x] :=
 cP (Jp h1 hK)
theorem aS {ty:TypeId}{z:Value} [hz:TZr P ty z] (h1:(pE z).cells.all gR=true:=by with_unfolding_all rfl) (hK:∀ b,dJ κ false P all Q d rest ⟨t,σ,fr,df⟩ (.raw (.pointer (some ⟨b,0,none⟩))) (.obj b (pE z).cells::σ)):cC κ false P all Q d rest ⟨t,σ,fr,df⟩ (.new ty) [] :=
 cP (KN hz.zr h1 hK)
theorem OA {ty e:TypeId}{sz by_:Nat}{z:Value}{y:AV} [hs:TSl P ty e sz by_ z] (hK:cC κ false P all Q d rest ⟨t,.tip none::σ,fr,df⟩ (.append ty) [.sl sz (some none) [],y]):cC κ false P all Q d rest ⟨t,σ,fr,df⟩ (.append ty) [nilS,y] :=
 cP (rR hs.pos hK)
theorem cq {ty e:TypeId}{sz by_ i:Nat}{z:Value}{tk:Option (Nat × Nat)}{l1 l2:List AV}{o2:Option (Option (Nat × Nat))} [hs:TSl P ty e sz by_ z] [h:HasTip σ tk i]
  (hg:cV l2=true:=by first|exact Good.ok|with_unfolding_all rfl|(focus (simp [cV,gR,AV.cells];done))) (hlen:(l1.length+l2.length) * by_≤140737488355328) (hmax:l1.length+l2.length≤maxLen)
  (hK:∀ tk',dJ κ false P all Q d rest ⟨t,σ,fr,df⟩ (.sl sz (some tk') (l1++l2)) (σ.set i (.tip tk'))):cC κ false P all Q d rest ⟨t,σ,fr,df⟩ (.append ty) [.sl sz (some tk) l1,.sl sz o2 l2] :=
 cP (AR i h.get hs.sl hs.hz hs.by' hs.zr hs.one hg hlen hmax hK)
theorem Na {ty e:TypeId}{sz by_:Nat}{z:Value} [hs:TSl P ty e sz by_ z] (hK:∀ b,dJ κ false P all Q d rest ⟨t,σ,fr,df⟩ (.sl sz (some (some (b,0))) []) (.tip (some (b,0))::σ)):cC κ false P all Q d rest ⟨t,σ,fr,df⟩ (.bslice ty 0 []) [] :=
 cP (qp hs.sl hs.hz hs.pos hK)
theorem cF {ty e:TypeId}{n sz by_:Nat}{z:Value}{ix:List Nat}{xs:List AV} [hs:TSl P ty e sz by_ z] (hn:0 < n:=by decide) (hsm:n * sz≤16777216:=by decide) (hix:ix=List.range n:=by with_unfolding_all rfl) (hlen:xs.length=n:=by with_unfolding_all rfl)
  (hg:cV xs=true:=by first|exact Good.ok|with_unfolding_all rfl|(focus (simp [cV,gR,AV.cells];done))) (hc:z9 sz xs=true:=by with_unfolding_all rfl)
  (hK:dJ κ dm P all Q d rest ⟨t,σ,fr,df⟩ (.sl sz none xs) σ):cC κ dm P all Q d rest ⟨t,σ,fr,df⟩ (.bslice ty n ix) xs :=
 Em hs.sl hs.hz hs.zr hs.pos hn hsm hix hlen hg (sA hc) hK
theorem QI {ty e:TypeId}{n sz by_:Nat}{z:Value}{ix:List Nat}{xs:List AV} [hs:TSl P ty e sz by_ z] (hn:0 < n:=by decide) (hsm:n * sz≤16777216:=by decide) (hix:ix=List.range n:=by with_unfolding_all rfl) (hlen:xs.length=n:=by with_unfolding_all rfl)
  (hg:cV xs=true:=by first|exact Good.ok|with_unfolding_all rfl|(focus (simp [cV,gR,AV.cells];done))) (hc:z9 sz xs=true:=by with_unfolding_all rfl)
  (hK:∀ b,dJ κ false P all Q d rest ⟨t,σ,fr,df⟩ (.sl sz (some (some (b,n * sz))) xs) (.tip (some (b,n * sz))::σ)):cC κ false P all Q d rest ⟨t,σ,fr,df⟩ (.bslice ty n ix) xs :=
 cP (kY hs.sl hs.hz hs.zr hs.pos hn hsm hix hlen hg (sA hc) hK)
theorem aG {ty:TypeId}{ix:List Nat}{xs cs:List AV}{z:Value}{pl:List (Nat × Nat)} [hp:TPl P ty pl] [hz:TZr P ty z] (hz1:(pE z).cells.all gR=true:=by with_unfolding_all rfl) (hb:kE pl (pE z).cells (ix.zip xs)=some cs:=by with_unfolding_all rfl) (hK:dJ κ dm P all Q d rest ⟨t,σ,fr,df⟩ (.agg cs) σ):cC κ dm P all Q d rest ⟨t,σ,fr,df⟩ (.build ty ix) xs :=
 IQ hp.pl hz.zr hz1 hb hK
theorem qy {s dd e:TypeId}{sz by_:Nat}{z:Value}{own:Option (Option (Nat × Nat))}{l:List Int} [hs:TSl P s e sz by_ z] [he:TIn P e .u8] [hd:TStr P dd] (hK:dJ κ dm P all Q d rest ⟨t,σ,fr,df⟩ (.raw (.string (strOfNums l))) σ):cC κ dm P all Q d rest ⟨t,σ,fr,df⟩ (.conv s dd) [.sl 1 own (l.map U8)] :=
 gz (tu hs.sl he.int hd.str gH) hK
theorem MV {s dd e:TypeId}{sz by_:Nat}{z:Value}{x:ByteArray} [hs:TStr P s] [hd:TSl P dd e sz by_ z] [he:TIn P e .u8] (hx:x.size≤maxLen) (hK:dJ κ dm P all Q d rest ⟨t,σ,fr,df⟩ (SU none (cw x)) σ):cC κ dm P all Q d rest ⟨t,σ,fr,df⟩ (.conv s dd) [.raw (.string x)] :=
 gz (tz hs.str hd.sl he.int hx gH) hK
theorem my {ts:Array TypeId}{ty:TypeId}{k:IntKind}{a b:Int} (hK:dJ κ dm P all Q d rest ⟨t,σ,fr,df⟩ (.raw (.int k (max a b))) σ):cC κ dm P all Q d rest ⟨t,σ,fr,df⟩ (.minmax true ts ty) [.raw (.int k a),.raw (.int k b)]:=gz (IL gH) hK
theorem Cd {ts:Array TypeId}{ty:TypeId}{k:IntKind}{a b:Int} (hK:dJ κ dm P all Q d rest ⟨t,σ,fr,df⟩ (.raw (.int k (min a b))) σ):cC κ dm P all Q d rest ⟨t,σ,fr,df⟩ (.minmax false ts ty) [.raw (.int k a),.raw (.int k b)]:=gz (Fa gH) hK
theorem QO {t':List AV}{l:List AV}{v:Bool} (h:0 < l.length:=by simp;omega) (hK:dJ κ dm P all Q d rest ⟨t',σ,fr,df⟩ (B v) σ):uF κ dm P all Q d rest ⟨t',σ,fr,df⟩ l v:=DA h hK
theorem eG {ty b k i:Nat}{cs:List AV}{x:AV} [ha:TOne P ty] [h:Hold σ b i cs] (hc:cs[k]? = some x:=by with_unfolding_all rfl):ga P κ σ ty (.raw (.pointer (some ⟨b,k,none⟩))) x:=w7 i h.get ha.ag hc
theorem aZ {ty b k i n:Nat}{cs:List AV} [ha:TAgg P ty n] [h:Hold σ b i cs] (hn:k+n≤cs.length:=by first|decide|(focus (simp;done))|omega):ga P κ σ ty (.raw (.pointer (some ⟨b,k,none⟩))) (.agg ((cs.drop k).take n)):=yI i h.get ha.ag ha.sz hn
end
/-! ### Rows under one name -/
theorem vm {α β:Type}{f:α→β}{l:List α}{n:Nat}:(l.map f).take n=(l.take n).map f:=List.map_take.symm
theorem vh {α β:Type}{f:α→β}{l:List α}{n:Nat}:(l.map f).drop n=(l.drop n).map f:=List.map_drop.symm
theorem WM:type_of% (And.intro @List.toList_toArray.{0} <| And.intro @List.set_cons_succ.{0} <| And.intro @List.set_cons_zero.{0} <| And.intro @List.getD_cons_succ.{0} <| And.intro @List.getD_cons_zero.{0} <| And.intro @List.getElem?_cons_succ.{0} <| And.intro @List.getElem?_cons_zero.{0} <| And.intro @List.length_cons.{0} <| And.intro @List.length_nil.{0} <| And.intro @List.replicate_succ.{0} <| And.intro @List.replicate_zero.{0} <| And.intro @List.cons_append.{0} <| And.intro @List.nil_append.{0} <| And.intro @List.append_nil.{0} <| And.intro @List.map_cons.{0,0} <| And.intro @List.map_nil.{0,0} <| And.intro @Option.bind_some.{0,0} <| And.intro @Option.map_some.{0,0} <| And.intro @Option.map_none.{0,0} <| And.intro @List.drop_succ_cons.{0} <| And.intro @List.drop_zero.{0} <| And.intro @List.take_succ_cons.{0} <| And.intro @List.take_zero.{0} <| And.intro @vm <| And.intro @vh <| And.intro @List.take_length.{0} <| And.intro @Nat.zero_lt_succ <| And.intro @Option.isSome_some.{0} <| And.intro @Option.isSome_none.{0} <| And.intro @Int.toNat_natCast <| And.intro @List.length_map.{0,0} <| And.intro @Nat.le_refl <| And.intro @Option.some.injEq.{0} <| And.intro @exists_eq_left'.{1} <| And.intro @Nat.add_right_cancel_iff <| And.intro @List.take_nil.{0} @List.drop_nil.{0}) :=
 ⟨@List.toList_toArray.{0},@List.set_cons_succ.{0},@List.set_cons_zero.{0},@List.getD_cons_succ.{0},@List.getD_cons_zero.{0},@List.getElem?_cons_succ.{0},@List.getElem?_cons_zero.{0},@List.length_cons.{0},@List.length_nil.{0},@List.replicate_succ.{0},@List.replicate_zero.{0},@List.cons_append.{0},@List.nil_append.{0},@List.append_nil.{0},@List.map_cons.{0,0},@List.map_nil.{0,0},@Option.bind_some.{0,0},@Option.map_some.{0,0},@Option.map_none.{0,0},@List.drop_succ_cons.{0},@List.drop_zero.{0},@List.take_succ_cons.{0},@List.take_zero.{0},@vm,@vh,@List.take_length.{0},@Nat.zero_lt_succ,@Option.isSome_some.{0},@Option.isSome_none.{0},@Int.toNat_natCast,@List.length_map.{0,0},@Nat.le_refl,@Option.some.injEq.{0},@exists_eq_left'.{1},@Nat.add_right_cancel_iff,@List.take_nil.{0},@List.drop_nil.{0}⟩
theorem aT:type_of% (And.intro @List.length_append.{0} <| And.intro @List.length_map.{0,0} <| And.intro @List.length_cons.{0} <| And.intro @List.length_nil.{0} <| And.intro @List.length_drop.{0} <| And.intro @List.length_take.{0} @List.length_replicate.{0}) :=
 ⟨@List.length_append.{0},@List.length_map.{0,0},@List.length_cons.{0},@List.length_nil.{0},@List.length_drop.{0},@List.length_take.{0},@List.length_replicate.{0}⟩
theorem bg:type_of% (And.intro @beq_iff_eq.{0} <| And.intro @beq_eq_false_iff_ne.{0} <| And.intro @bne_iff_ne.{0} <| And.intro @bne_eq_false_iff_eq.{0} <| And.intro @decide_eq_true_eq <| And.intro @decide_eq_false_iff_not <| And.intro @Bool.not_eq_true' <| And.intro @Bool.not_eq_false' <| And.intro @Int.not_lt <| And.intro @Int.not_le <| And.intro @gt_iff_lt.{0} <| And.intro @ge_iff_le.{0} @Decidable.not_not) :=
 ⟨@beq_iff_eq.{0},@beq_eq_false_iff_ne.{0},@bne_iff_ne.{0},@bne_eq_false_iff_eq.{0},@decide_eq_true_eq,@decide_eq_false_iff_not,@Bool.not_eq_true',@Bool.not_eq_false',@Int.not_lt,@Int.not_le,@gt_iff_lt.{0},@ge_iff_le.{0},@Decidable.not_not⟩
theorem fC:type_of% @fieldAddrC_cp:=@fieldAddrC_cp
theorem fR:type_of% @fieldAddrC_raw:=@fieldAddrC_raw
theorem fA:type_of% @fieldC_agg:=@fieldC_agg
theorem cI:type_of% @convC_int:=@convC_int
theorem cD:type_of% @callD_mk:=@callD_mk
theorem cQ:type_of% @callD_q:=@callD_q
end Go.Abs
/-
 Own layer,part z: rows that are marked.
-/

namespace Go.Abs
open Go.RowKit
theorem Rel.letgo {κ:Ctx}{g:Nat→Nat}{r:Res}{ρ:List Res}{w w':World}{c:Nat} (h:Rel κ g (r::ρ) w) (H:GE g w g w')
  (hos:w'.os=w.os) (htape:w'.tape=w.tape) (hout:w'.output=w.output) (hsize:w'.heap.size=w.heap.size)
  (hsame:∀ b,b≠c→w'.heap[b]? = w.heap[b]?) (hc:r.block=some c):Rel κ g ρ w':=by
 have hnd:=h.nodup
 rw [oq hc] at hnd
 have hn:∀ x∈ρ,∀ b,x.block=some b→b≠c:=by
  intro x hx b hxb e
  subst e
  exact (List.nodup_cons.1 hnd).1 (List.mem_filterMap.2 ⟨x,hx,hxb⟩)
 obtain ⟨hB,hlt⟩:=h.bnd r (by simp) c hc
 refine ⟨h.below.trans ⟨hos,htape,hout,by omega,fun k hk=>hsame k (by omega)⟩,by rw [hsize];exact h.hB,(List.nodup_cons.1 hnd).2, ?_, ?_, ?_⟩
 ·intro x hx b hxb
  rw [hsize];exact h.bnd x (by simp [hx]) b hxb
 ·intro x hx
  exact Res.holds_keep H (fun b hxb=>hsame _ (hn x hx b hxb)) (fun _ _=>rfl) (h.holds x (by simp [hx]))
 ·intro b hb'
  rw [hsize] at hb'
  exact h.new b hb'
theorem GM {κ:Ctx}{P:Program}{σ:List Res}{K:AV→List Res→Prop}{t e:TypeId}{sz b n:Nat}{l:List AV} (i:Nat) (h:σ[i]? = some (.tip (some (b,n)))) (ht:g9 P t=some e) (he:kT P e=some .u8) (hl:0 < l.length)
  (hK:K (.sl sz none l) (σ.eraseIdx i)):AAct κ P (.conv t t) [.sl sz (some (some (b,n))) l] σ K:=by
 intro φ g w vs hR hvs
 obtain ⟨v,rfl,hu⟩:=kO hvs
 have hsl:=aM ht
 have hint:=gV he
 have hR2:Rel κ g (.tip (some (b,n))::(φ++σ.eraseIdx i)) w:=hR.perm (eW (fk h))
 obtain ⟨hg,arr,ty,hb⟩:=hR2.holds (.tip (some (b,n))) (by simp)
 rcases hu.sl_inv with ⟨h0,_⟩|⟨b',off,cap,rfl,hcap,hmax,hpos,hc,hel,hgg,ho⟩
 ·rw [h0] at hl;simp at hl
 ·have hbb:b'=b:=by
   have:=(ho _ rfl).1
   simp at this;exact this.1.symm
  subst hbb
  have hlt:b' < w.heap.size:=(hR2.bnd (.tip (some (b',n))) (by simp) b' rfl).2
  have hget:w.heap[b']=.cells arr ty (0,0):=by
   rw [Array.getElem?_eq_getElem hlt] at hb
   exact Option.some.inj hb
  have hmod:∀ (f:Obj→Obj) (k:Nat),(w.heap.modify b' f)[k]? = if b'=k then (w.heap[k]?).map f else w.heap[k]?:=by
   intro f k
   by_cases e:b'=k
   ·subst e
    simp [Array.getElem?_modify]
   ·simp [Array.getElem?_modify,e]
  have hcell:∀ x,(w.freeze ⟨b',arr.size,none⟩ 1).cell? x=w.cell? x:=by
   intro x
   simp only [World.cell?,World.freeze]
   rw [if_neg (by decide)]
   simp only [hmod]
   by_cases e:b'=x.block
   ·rw [if_pos e,← e,hb];simp
   ·rw [if_neg e]
  have hsame:∀ k,k≠b'→(w.freeze ⟨b',arr.size,none⟩ 1).heap[k]? = w.heap[k]?:=by
   intro k hk
   simp only [World.freeze]
   rw [if_neg (by decide)]
   simp only [hmod]
   rw [if_neg (fun e=>hk e.symm)]
  have hlen:∀ k,bf (w.freeze ⟨b',arr.size,none⟩ 1) k=bf w k:=by
   intro k
   by_cases e:k=b'
   ·subst e
    simp only [bf,World.freeze]
    rw [if_neg (by decide)]
    simp only [hmod,if_true,hb]
    simp
   ·simp only [bf];rw [hsame k e]
  have H:GE g w g (w.freeze ⟨b',arr.size,none⟩ 1):=⟨by simp [World.freeze],fun _=>Nat.le_refl _,fun k o _=>hcell _,fun k=>by rw [hlen];exact Nat.le_refl _⟩
  refine ⟨.slice (some ⟨b',off,none⟩) l.length cap,w.freeze ⟨b',arr.size,none⟩ 1,g,.sl sz none l,σ.eraseIdx i, ?_, ?_,H, ?_,hK⟩
  ·have hsh:w.shape? b'=some (ty,arr.size):=by simp [World.shape?,hb]
   show (convert t t (.slice (some ⟨b',off,none⟩) l.length cap)).run P w=_
   simp [convert,run_underlying hsl,run_underlying hint,markStringish,hsh]
  ·exact hR2.letgo H rfl rfl rfl (by simp [World.freeze]) hsame rfl
  ·exact VR.sl_mk rfl hcap hmax hpos hc (fun i x k y hx hy=>by
    obtain ⟨u,a1,a2⟩:=hel i x k y hx hy
    exact ⟨u,by rw [hcell];exact a1,a2.mono H⟩) hgg (fun t ht=>by cases ht)
section
variable {κ:Ctx} {P:Program} {all rest:List Oper} {Q:Exit→St→Prop} {d:Option Tmp} {t:List AV} {σ:List Res} {fr:Bool} {df:List Deferred}
theorem Qh {ty e:TypeId}{sz by_ i b n sz':Nat}{z:Value}{l:List AV} [hs:TSl P ty e sz' by_ z] [he:TIn P e .u8] [h:HasTip σ (some (b,n)) i] (hl:0 < l.length:=by first|decide|(focus (simp;done))|omega)
  (hK:dJ κ false P all Q d rest ⟨t,σ,fr,df⟩ (.sl sz none l) (σ.eraseIdx i)):cC κ false P all Q d rest ⟨t,σ,fr,df⟩ (.conv ty ty) [.sl sz (some (some (b,n))) l] :=
 cP (GM i h.get hs.sl he.int hl hK)
end
end Go.Abs
/-
 Facts on the types of the program,by program.
-/


namespace Go.Proofs.YthkabaiamcjdbaaGreat
open Go.Abs
theorem VA:dW Tryz.prog 2=some (.int .i64 0):=by kernel_rfl
theorem VF:kT Tryz.prog 2=some .i64:=by kernel_rfl
theorem Er:c9 Tryz.prog 3=some 1:=by kernel_rfl
theorem OV:aggT Tryz.prog 3=some false:=by kernel_rfl
theorem Qr:dW Tryz.prog 3=some (.int .i64 0):=by kernel_rfl
theorem Sj:ln Tryz.prog 3=some 8:=by kernel_rfl
theorem K6:kT Tryz.prog 3=some .i64:=by kernel_rfl
theorem Vp:c9 Tryz.prog 4=some 1:=by kernel_rfl
theorem TB:aggT Tryz.prog 4=some false:=by kernel_rfl
theorem U6:dW Tryz.prog 4=some (.bool false):=by kernel_rfl
theorem Vr:ln Tryz.prog 4=some 1:=by kernel_rfl
theorem Vt:Tryz.prog.underlying 4=some .bool:=by kernel_rfl
theorem Tw:c9 Tryz.prog 5=some 1:=by kernel_rfl
theorem UW:aggT Tryz.prog 5=some false:=by kernel_rfl
theorem Tz:dW Tryz.prog 5=some (.int .u8 0):=by kernel_rfl
theorem Vq:ln Tryz.prog 5=some 1:=by kernel_rfl
theorem Sy:kT Tryz.prog 5=some .u8:=by kernel_rfl
theorem Vx:dW Tryz.prog 8=some (.agg #[(.int .i64 0),(.int .i64 0),(.bool false),(.int .u8 0)]):=by kernel_rfl
theorem Vy:jQ Tryz.prog 8=some [(0,1),(1,1),(2,1),(3,1)]:=by kernel_rfl
theorem UE:c9 Tryz.prog 9=some 1:=by kernel_rfl
theorem LO:aggT Tryz.prog 9=some false:=by kernel_rfl
theorem Uv:dW Tryz.prog 9=some (.string ByteArray.empty):=by kernel_rfl
theorem Vu:ln Tryz.prog 9=some 16:=by kernel_rfl
theorem Uq:isStr Tryz.prog 9=true:=by kernel_rfl
theorem TL:dW Tryz.prog 21=some (.int .i32 0):=by kernel_rfl
theorem M7:kT Tryz.prog 21=some .i32:=by kernel_rfl
theorem I7:c9 Tryz.prog 22=some 1:=by kernel_rfl
theorem N5:aggT Tryz.prog 22=some false:=by kernel_rfl
theorem JR:dW Tryz.prog 22=some (.slice none 0 0):=by kernel_rfl
theorem sk:g9 Tryz.prog 22=some 3:=by kernel_rfl
theorem PD:ln Tryz.prog 22=some 24:=by kernel_rfl
theorem Uu:c9 Tryz.prog 23=some 1:=by kernel_rfl
theorem U9:aggT Tryz.prog 23=some false:=by kernel_rfl
theorem US:dW Tryz.prog 23=some .nilFunc:=by kernel_rfl
theorem NO:c9 Tryz.prog 24=some 1:=by kernel_rfl
theorem Nz:aggT Tryz.prog 24=some false:=by kernel_rfl
theorem Ow:dW Tryz.prog 24=some (.slice none 0 0):=by kernel_rfl
theorem PA:g9 Tryz.prog 24=some 26:=by kernel_rfl
theorem RV:ln Tryz.prog 24=some 24:=by kernel_rfl
theorem T6:dW Tryz.prog 25=some (.agg #[(.int .i64 0),(.string ByteArray.empty),(.string ByteArray.empty),(.string ByteArray.empty),(.int .i64 0),(.bool false)]):=by kernel_rfl
theorem TI:jQ Tryz.prog 25=some [(0,1),(1,1),(2,1),(3,1),(4,1),(5,1)]:=by kernel_rfl
theorem KV:c9 Tryz.prog 26=some 6:=by kernel_rfl
theorem OS:aggT Tryz.prog 26=some true:=by kernel_rfl
theorem Jv:dW Tryz.prog 26=some (.agg #[(.int .i64 0),(.string ByteArray.empty),(.string ByteArray.empty),(.string ByteArray.empty),(.int .i64 0),(.bool false)]):=by kernel_rfl
theorem PW:ln Tryz.prog 26=some 72:=by kernel_rfl
theorem oI:cJ Tryz.prog 26 0=some (0,3):=by kernel_rfl
theorem FL:cJ Tryz.prog 26 1=some (1,9):=by kernel_rfl
theorem qQ:cJ Tryz.prog 26 2=some (2,9):=by kernel_rfl
theorem wO:cJ Tryz.prog 26 3=some (3,9):=by kernel_rfl
theorem zQ:cJ Tryz.prog 26 4=some (4,3):=by kernel_rfl
theorem wi:cJ Tryz.prog 26 5=some (5,4):=by kernel_rfl
theorem NU:jQ Tryz.prog 26=some [(0,1),(1,1),(2,1),(3,1),(4,1),(5,1)]:=by kernel_rfl
theorem TN:c9 Tryz.prog 27=some 1:=by kernel_rfl
theorem TS:aggT Tryz.prog 27=some false:=by kernel_rfl
theorem TM:dW Tryz.prog 27=some .nilFunc:=by kernel_rfl
theorem PK:c9 Tryz.prog 28=some 1:=by kernel_rfl
theorem N3:aggT Tryz.prog 28=some false:=by kernel_rfl
theorem PH:dW Tryz.prog 28=some (.int .i64 0):=by kernel_rfl
theorem QV:ln Tryz.prog 28=some 8:=by kernel_rfl
theorem R8:kT Tryz.prog 28=some .i64:=by kernel_rfl
theorem UL:c9 Tryz.prog 30=some 1:=by kernel_rfl
theorem UN:aggT Tryz.prog 30=some false:=by kernel_rfl
theorem UC:dW Tryz.prog 30=some .nilFunc:=by kernel_rfl
theorem Pp:c9 Tryz.prog 31=some 1:=by kernel_rfl
theorem O4:aggT Tryz.prog 31=some false:=by kernel_rfl
theorem N0:dW Tryz.prog 31=some (.slice none 0 0):=by kernel_rfl
theorem Nt:g9 Tryz.prog 31=some 51:=by kernel_rfl
theorem SC:ln Tryz.prog 31=some 24:=by kernel_rfl
theorem QZ:kT Tryz.prog 41=some .u64:=by kernel_rfl
theorem UD:c9 Tryz.prog 42=some 1:=by kernel_rfl
theorem UU:aggT Tryz.prog 42=some false:=by kernel_rfl
theorem U4:dW Tryz.prog 42=some .nilFunc:=by kernel_rfl
theorem TY:c9 Tryz.prog 43=some 1:=by kernel_rfl
theorem Vo:aggT Tryz.prog 43=some false:=by kernel_rfl
theorem T1:dW Tryz.prog 50=some (.agg #[(.int .i64 0),(.slice none 0 0)]):=by kernel_rfl
theorem UA:jQ Tryz.prog 50=some [(0,1),(1,1)]:=by kernel_rfl
theorem Jl:c9 Tryz.prog 51=some 2:=by kernel_rfl
theorem OE:aggT Tryz.prog 51=some true:=by kernel_rfl
theorem KL:dW Tryz.prog 51=some (.agg #[(.int .i64 0),(.slice none 0 0)]):=by kernel_rfl
theorem NY:ln Tryz.prog 51=some 32:=by kernel_rfl
theorem cX:cJ Tryz.prog 51 0=some (0,3):=by kernel_rfl
theorem dP:cJ Tryz.prog 51 1=some (1,22):=by kernel_rfl
theorem OQ:jQ Tryz.prog 51=some [(0,1),(1,1)]:=by kernel_rfl
theorem Ul:c9 Tryz.prog 52=some 1:=by kernel_rfl
theorem U5:aggT Tryz.prog 52=some false:=by kernel_rfl
theorem T0:dW Tryz.prog 52=some (.pointer none):=by kernel_rfl
theorem PV:c9 Tryz.prog 53=some 1:=by kernel_rfl
theorem Pm:aggT Tryz.prog 53=some false:=by kernel_rfl
theorem Ts:dW Tryz.prog 53=some (.pointer none):=by kernel_rfl
theorem RT:ln Tryz.prog 53=some 8:=by kernel_rfl
theorem R3:UF Tryz.prog 53=some 77:=by kernel_rfl
theorem To:c9 Tryz.prog 56=some 1:=by kernel_rfl
theorem Ry:aggT Tryz.prog 56=some true:=by kernel_rfl
theorem Tj:dW Tryz.prog 56=some (.agg #[(.slice none 0 0)]):=by kernel_rfl
theorem RI:ln Tryz.prog 56=some 24:=by kernel_rfl
theorem gy:cJ Tryz.prog 56 0=some (0,22):=by kernel_rfl
theorem QS:jQ Tryz.prog 56=some [(0,1)]:=by kernel_rfl
theorem UQ:jQ Tryz.prog 57=some [(0,1),(1,1),(2,1),(3,1)]:=by kernel_rfl
theorem Ug:c9 Tryz.prog 58=some 4:=by kernel_rfl
theorem Un:aggT Tryz.prog 58=some true:=by kernel_rfl
theorem U2:dW Tryz.prog 58=some (.agg #[(.slice none 0 0),(.pointer none),(.slice none 0 0),(.slice none 0 0)]):=by kernel_rfl
theorem fW:cJ Tryz.prog 58 0=some (0,31):=by kernel_rfl
theorem fJ:cJ Tryz.prog 58 1=some (1,53):=by kernel_rfl
theorem ks:cJ Tryz.prog 58 2=some (2,56):=by kernel_rfl
theorem mF:cJ Tryz.prog 58 3=some (3,24):=by kernel_rfl
theorem Ua:jQ Tryz.prog 58=some [(0,1),(1,1),(2,1),(3,1)]:=by kernel_rfl
theorem OG:c9 Tryz.prog 63=some 1:=by kernel_rfl
theorem N2:aggT Tryz.prog 63=some false:=by kernel_rfl
theorem Ou:dW Tryz.prog 63=some (.slice none 0 0):=by kernel_rfl
theorem NF:g9 Tryz.prog 63=some 5:=by kernel_rfl
theorem Tc:ln Tryz.prog 63=some 24:=by kernel_rfl
theorem UK:c9 Tryz.prog 68=some 1:=by kernel_rfl
theorem UY:aggT Tryz.prog 68=some false:=by kernel_rfl
theorem TK:dW Tryz.prog 68=some .nilFunc:=by kernel_rfl
theorem Uz:c9 Tryz.prog 69=some 1:=by kernel_rfl
theorem Uj:aggT Tryz.prog 69=some false:=by kernel_rfl
theorem UM:jQ Tryz.prog 70=some [(0,1),(1,1),(2,1)]:=by kernel_rfl
theorem Um:c9 Tryz.prog 71=some 3:=by kernel_rfl
theorem TQ:aggT Tryz.prog 71=some true:=by kernel_rfl
theorem T2:dW Tryz.prog 71=some (.agg #[(.slice none 0 0),(.int .i64 0),(.slice none 0 0)]):=by kernel_rfl
theorem eP:cJ Tryz.prog 71 0=some (0,31):=by kernel_rfl
theorem eR:cJ Tryz.prog 71 1=some (1,3):=by kernel_rfl
theorem iN:cJ Tryz.prog 71 2=some (2,24):=by kernel_rfl
theorem TD:jQ Tryz.prog 71=some [(0,1),(1,1),(2,1)]:=by kernel_rfl
theorem TO:jQ Tryz.prog 76=some [(0,1)]:=by kernel_rfl
theorem Uk:c9 Tryz.prog 77=some 1:=by kernel_rfl
theorem TT:aggT Tryz.prog 77=some true:=by kernel_rfl
theorem TV:dW Tryz.prog 77=some (.agg #[(.slice none 0 0)]):=by kernel_rfl
theorem lj:cJ Tryz.prog 77 0=some (0,31):=by kernel_rfl
theorem TG:jQ Tryz.prog 77=some [(0,1)]:=by kernel_rfl
theorem TH:dW Tryz.prog 78=some (.agg #[(.int .i64 0)]):=by kernel_rfl
theorem Ui:jQ Tryz.prog 78=some [(0,1)]:=by kernel_rfl
theorem UP:c9 Tryz.prog 79=some 1:=by kernel_rfl
theorem U0:aggT Tryz.prog 79=some true:=by kernel_rfl
theorem UR:dW Tryz.prog 79=some (.agg #[(.int .i64 0)]):=by kernel_rfl
theorem Pe:cJ Tryz.prog 79 0=some (0,28):=by kernel_rfl
theorem Uo:jQ Tryz.prog 79=some [(0,1)]:=by kernel_rfl
theorem Uf:jQ Tryz.prog 96=some [(0,1),(1,1),(2,1)]:=by kernel_rfl
theorem TZ:c9 Tryz.prog 97=some 3:=by kernel_rfl
theorem TJ:aggT Tryz.prog 97=some true:=by kernel_rfl
theorem UZ:dW Tryz.prog 97=some (.agg #[(.int .i64 0),(.bool false),(.bool false)]):=by kernel_rfl
theorem wA:cJ Tryz.prog 97 0=some (0,3):=by kernel_rfl
theorem ru:cJ Tryz.prog 97 1=some (1,4):=by kernel_rfl
theorem Oa:cJ Tryz.prog 97 2=some (2,4):=by kernel_rfl
theorem UG:jQ Tryz.prog 97=some [(0,1),(1,1),(2,1)]:=by kernel_rfl
theorem Up:dW Tryz.prog 98=some (.agg #[(.string ByteArray.empty),(.string ByteArray.empty)]):=by kernel_rfl
theorem UH:jQ Tryz.prog 98=some [(0,1),(1,1)]:=by kernel_rfl
theorem Vl:c9 Tryz.prog 99=some 2:=by kernel_rfl
theorem UV:aggT Tryz.prog 99=some true:=by kernel_rfl
theorem Us:dW Tryz.prog 99=some (.agg #[(.string ByteArray.empty),(.string ByteArray.empty)]):=by kernel_rfl
theorem ni:cJ Tryz.prog 99 0=some (0,9):=by kernel_rfl
theorem mP:cJ Tryz.prog 99 1=some (1,9):=by kernel_rfl
theorem UJ:jQ Tryz.prog 99=some [(0,1),(1,1)]:=by kernel_rfl
theorem RK:jQ Tryz.prog 107=some [(0,1)]:=by kernel_rfl
theorem S1:c9 Tryz.prog 108=some 1:=by kernel_rfl
theorem Td:aggT Tryz.prog 108=some true:=by kernel_rfl
theorem Q2:dW Tryz.prog 108=some (.agg #[(.map none)]):=by kernel_rfl
theorem RA:jQ Tryz.prog 108=some [(0,1)]:=by kernel_rfl
theorem So:c9 Tryz.prog 127=some 1:=by kernel_rfl
theorem RP:aggT Tryz.prog 127=some false:=by kernel_rfl
theorem Rz:dW Tryz.prog 127=some .nilFunc:=by kernel_rfl
theorem QT:c9 Tryz.prog 128=some 1:=by kernel_rfl
theorem Qt:aggT Tryz.prog 128=some false:=by kernel_rfl
theorem Rp:dW Tryz.prog 128=some (.pointer none):=by kernel_rfl
theorem RN:dW Tryz.prog 130=some (.agg #[(.int .i64 0),(.int .i64 0)]):=by kernel_rfl
theorem QE:jQ Tryz.prog 130=some [(0,1),(1,1)]:=by kernel_rfl
theorem xg:c9 Tryz.prog 131=some 2:=by kernel_rfl
theorem yr:aggT Tryz.prog 131=some true:=by kernel_rfl
theorem Gr:dW Tryz.prog 131=some (.agg #[(.int .i64 0),(.int .i64 0)]):=by kernel_rfl
theorem L0:ln Tryz.prog 131=some 16:=by kernel_rfl
theorem dK:cJ Tryz.prog 131 0=some (0,3):=by kernel_rfl
theorem eH:cJ Tryz.prog 131 1=some (1,3):=by kernel_rfl
theorem FF:jQ Tryz.prog 131=some [(0,1),(1,1)]:=by kernel_rfl
theorem SD:dW Tryz.prog 132=some (.agg #[(.string ByteArray.empty),(.string ByteArray.empty),(.int .i64 0),(.int .i64 0)]):=by kernel_rfl
theorem QM:jQ Tryz.prog 132=some [(0,1),(1,1),(2,2)]:=by kernel_rfl
theorem RJ:c9 Tryz.prog 133=some 4:=by kernel_rfl
theorem Qv:aggT Tryz.prog 133=some true:=by kernel_rfl
theorem Q8:dW Tryz.prog 133=some (.agg #[(.string ByteArray.empty),(.string ByteArray.empty),(.int .i64 0),(.int .i64 0)]):=by kernel_rfl
theorem gN:cJ Tryz.prog 133 0=some (0,9):=by kernel_rfl
theorem gM:cJ Tryz.prog 133 1=some (1,9):=by kernel_rfl
theorem eI:cJ Tryz.prog 133 2=some (2,131):=by kernel_rfl
theorem SP:jQ Tryz.prog 133=some [(0,1),(1,1),(2,2)]:=by kernel_rfl
theorem SZ:dW Tryz.prog 134=some (.agg #[(.int .i64 0)]):=by kernel_rfl
theorem Qz:jQ Tryz.prog 134=some [(0,1)]:=by kernel_rfl
theorem QF:c9 Tryz.prog 135=some 1:=by kernel_rfl
theorem Tm:aggT Tryz.prog 135=some true:=by kernel_rfl
theorem Tg:dW Tryz.prog 135=some (.agg #[(.int .i64 0)]):=by kernel_rfl
theorem Cq:cJ Tryz.prog 135 0=some (0,28):=by kernel_rfl
theorem Th:jQ Tryz.prog 135=some [(0,1)]:=by kernel_rfl
theorem LU:c9 Tryz.prog 157=some 1:=by kernel_rfl
theorem Lx:aggT Tryz.prog 157=some true:=by kernel_rfl
theorem Lm:dW Tryz.prog 157=some (.agg #[(.slice none 0 0)]):=by kernel_rfl
theorem L8:ln Tryz.prog 157=some 24:=by kernel_rfl
theorem ka:cJ Tryz.prog 157 0=some (0,22):=by kernel_rfl
theorem L6:jQ Tryz.prog 157=some [(0,1)]:=by kernel_rfl
theorem Q4:jQ Tryz.prog 158=some [(0,1),(1,1),(2,1),(3,1),(4,1),(5,1)]:=by kernel_rfl
theorem Rl:c9 Tryz.prog 159=some 6:=by kernel_rfl
theorem SN:aggT Tryz.prog 159=some true:=by kernel_rfl
theorem Sx:dW Tryz.prog 159=some (.agg #[(.slice none 0 0),(.int .i64 0),(.bool false),(.int .i64 0),(.slice none 0 0),(.slice none 0 0)]):=by kernel_rfl
theorem gg:cJ Tryz.prog 159 0=some (0,31):=by kernel_rfl
theorem vP:cJ Tryz.prog 159 1=some (1,3):=by kernel_rfl
theorem JQ:cJ Tryz.prog 159 2=some (2,4):=by kernel_rfl
theorem wk:cJ Tryz.prog 159 3=some (3,3):=by kernel_rfl
theorem qI:cJ Tryz.prog 159 4=some (4,157):=by kernel_rfl
theorem fy:cJ Tryz.prog 159 5=some (5,24):=by kernel_rfl
theorem R2:jQ Tryz.prog 159=some [(0,1),(1,1),(2,1),(3,1),(4,1),(5,1)]:=by kernel_rfl
theorem Rx:dW Tryz.prog 164=some (.agg #[(.bool false),(.int .i64 0),(.int .i64 0)]):=by kernel_rfl
theorem Qu:jQ Tryz.prog 164=some [(0,1),(1,1),(2,1)]:=by kernel_rfl
theorem RL:c9 Tryz.prog 165=some 3:=by kernel_rfl
theorem QR:aggT Tryz.prog 165=some true:=by kernel_rfl
theorem RR:dW Tryz.prog 165=some (.agg #[(.bool false),(.int .i64 0),(.int .i64 0)]):=by kernel_rfl
theorem vy:cJ Tryz.prog 165 0=some (0,4):=by kernel_rfl
theorem qA:cJ Tryz.prog 165 1=some (1,3):=by kernel_rfl
theorem vE:cJ Tryz.prog 165 2=some (2,3):=by kernel_rfl
theorem R0:jQ Tryz.prog 165=some [(0,1),(1,1),(2,1)]:=by kernel_rfl
theorem SQ:dW Tryz.prog 181=some (.agg #[(.int .i64 0),(.int .i64 0),(.bool false)]):=by kernel_rfl
theorem Rf:jQ Tryz.prog 181=some [(0,2),(2,1)]:=by kernel_rfl
theorem Rt:c9 Tryz.prog 182=some 3:=by kernel_rfl
theorem RO:aggT Tryz.prog 182=some true:=by kernel_rfl
theorem QQ:dW Tryz.prog 182=some (.agg #[(.int .i64 0),(.int .i64 0),(.bool false)]):=by kernel_rfl
theorem fa:cJ Tryz.prog 182 0=some (0,131):=by kernel_rfl
theorem K2:cJ Tryz.prog 182 1=some (2,4):=by kernel_rfl
theorem Ta:jQ Tryz.prog 182=some [(0,2),(2,1)]:=by kernel_rfl
theorem Q0:c9 Tryz.prog 190=some 1:=by kernel_rfl
theorem Sz:aggT Tryz.prog 190=some false:=by kernel_rfl
theorem Q3:dW Tryz.prog 190=some .nilFunc:=by kernel_rfl
theorem FP:c9 Tryz.prog 191=some 1:=by kernel_rfl
theorem HL:aggT Tryz.prog 191=some false:=by kernel_rfl
theorem EI:dW Tryz.prog 191=some (.slice none 0 0):=by kernel_rfl
theorem EP:g9 Tryz.prog 191=some 22:=by kernel_rfl
theorem MU:ln Tryz.prog 191=some 24:=by kernel_rfl
theorem MW:kT Tryz.prog 224=some .u32:=by kernel_rfl
theorem IA:c9 Tryz.prog 226=some 1:=by kernel_rfl
theorem HJ:aggT Tryz.prog 226=some false:=by kernel_rfl
theorem IW:dW Tryz.prog 226=some (.slice none 0 0):=by kernel_rfl
theorem Gp:g9 Tryz.prog 226=some 229:=by kernel_rfl
theorem MM:ln Tryz.prog 226=some 24:=by kernel_rfl
theorem HN:c9 Tryz.prog 227=some 1:=by kernel_rfl
theorem HG:aggT Tryz.prog 227=some false:=by kernel_rfl
theorem HK:dW Tryz.prog 227=some (.slice none 0 0):=by kernel_rfl
theorem FK:g9 Tryz.prog 227=some 245:=by kernel_rfl
theorem LP:ln Tryz.prog 227=some 24:=by kernel_rfl
theorem Tb:dW Tryz.prog 228=some (.agg #[(.slice none 0 0),(.bool false)]):=by kernel_rfl
theorem Rc:jQ Tryz.prog 228=some [(0,1),(1,1)]:=by kernel_rfl
theorem Bj:c9 Tryz.prog 229=some 2:=by kernel_rfl
theorem GJ:aggT Tryz.prog 229=some true:=by kernel_rfl
theorem CG:dW Tryz.prog 229=some (.agg #[(.slice none 0 0),(.bool false)]):=by kernel_rfl
theorem IE:ln Tryz.prog 229=some 32:=by kernel_rfl
theorem kb:cJ Tryz.prog 229 0=some (0,227):=by kernel_rfl
theorem lW:cJ Tryz.prog 229 1=some (1,4):=by kernel_rfl
theorem HM:jQ Tryz.prog 229=some [(0,1),(1,1)]:=by kernel_rfl
theorem RS:dW Tryz.prog 244=some (.agg #[(.int .i64 0),(.bool false)]):=by kernel_rfl
theorem Rh:jQ Tryz.prog 244=some [(0,1),(1,1)]:=by kernel_rfl
theorem BU:c9 Tryz.prog 245=some 2:=by kernel_rfl
theorem Ez:aggT Tryz.prog 245=some true:=by kernel_rfl
theorem Cv:dW Tryz.prog 245=some (.agg #[(.int .i64 0),(.bool false)]):=by kernel_rfl
theorem HU:ln Tryz.prog 245=some 16:=by kernel_rfl
theorem qE:cJ Tryz.prog 245 0=some (0,3):=by kernel_rfl
theorem wz:cJ Tryz.prog 245 1=some (1,4):=by kernel_rfl
theorem H4:jQ Tryz.prog 245=some [(0,1),(1,1)]:=by kernel_rfl
theorem T3:type_of% (And.intro Er (And.intro OV (And.intro Qr (And.intro Sj (K6))))):=And.intro Er (And.intro OV (And.intro Qr (And.intro Sj (K6))))
theorem T4:type_of% (And.intro Vp (And.intro TB (And.intro U6 (And.intro Vr (Vt))))):=And.intro Vp (And.intro TB (And.intro U6 (And.intro Vr (Vt))))
theorem T5:type_of% (And.intro Tw (And.intro UW (And.intro Tz (And.intro Vq (Sy))))):=And.intro Tw (And.intro UW (And.intro Tz (And.intro Vq (Sy))))
theorem T9:type_of% (And.intro UE (And.intro LO (And.intro Uv (And.intro Vu (Uq))))):=And.intro UE (And.intro LO (And.intro Uv (And.intro Vu (Uq))))
theorem bX:type_of% (And.intro I7 (And.intro N5 (And.intro JR (And.intro sk (PD))))):=And.intro I7 (And.intro N5 (And.intro JR (And.intro sk (PD))))
theorem jU:type_of% (And.intro NO (And.intro Nz (And.intro Ow (And.intro PA (RV))))):=And.intro NO (And.intro Nz (And.intro Ow (And.intro PA (RV))))
theorem Uc:type_of% (And.intro KV (And.intro OS (And.intro Jv (And.intro PW (And.intro oI (And.intro FL (And.intro qQ (And.intro wO (And.intro zQ (And.intro wi (NU))))))))))):=And.intro KV (And.intro OS (And.intro Jv (And.intro PW (And.intro oI (And.intro FL (And.intro qQ (And.intro wO (And.intro zQ (And.intro wi (NU))))))))))
theorem UB:type_of% (And.intro PK (And.intro N3 (And.intro PH (And.intro QV (R8))))):=And.intro PK (And.intro N3 (And.intro PH (And.intro QV (R8))))
theorem fT:type_of% (And.intro Pp (And.intro O4 (And.intro N0 (And.intro Nt (SC))))):=And.intro Pp (And.intro O4 (And.intro N0 (And.intro Nt (SC))))
theorem jb:type_of% (And.intro Jl (And.intro OE (And.intro KL (And.intro NY (And.intro cX (And.intro dP (OQ))))))):=And.intro Jl (And.intro OE (And.intro KL (And.intro NY (And.intro cX (And.intro dP (OQ))))))
theorem zP:type_of% (And.intro PV (And.intro Pm (And.intro Ts (And.intro RT (R3))))):=And.intro PV (And.intro Pm (And.intro Ts (And.intro RT (R3))))
theorem KT:type_of% (And.intro To (And.intro Ry (And.intro Tj (And.intro RI (And.intro gy (QS)))))):=And.intro To (And.intro Ry (And.intro Tj (And.intro RI (And.intro gy (QS)))))
theorem BC:type_of% (And.intro OG (And.intro N2 (And.intro Ou (And.intro NF (Tc))))):=And.intro OG (And.intro N2 (And.intro Ou (And.intro NF (Tc))))
theorem ia:type_of% (And.intro xg (And.intro yr (And.intro Gr (And.intro L0 (And.intro dK (And.intro eH (FF))))))):=And.intro xg (And.intro yr (And.intro Gr (And.intro L0 (And.intro dK (And.intro eH (FF))))))
theorem KY:type_of% (And.intro LU (And.intro Lx (And.intro Lm (And.intro L8 (And.intro ka (L6)))))):=And.intro LU (And.intro Lx (And.intro Lm (And.intro L8 (And.intro ka (L6)))))
theorem il:type_of% (And.intro FP (And.intro HL (And.intro EI (And.intro EP (MU))))):=And.intro FP (And.intro HL (And.intro EI (And.intro EP (MU))))
theorem Jb:type_of% (And.intro IA (And.intro HJ (And.intro IW (And.intro Gp (MM))))):=And.intro IA (And.intro HJ (And.intro IW (And.intro Gp (MM))))
theorem Di:type_of% (And.intro HN (And.intro HG (And.intro HK (And.intro FK (LP))))):=And.intro HN (And.intro HG (And.intro HK (And.intro FK (LP))))
theorem Ud:type_of% (And.intro Bj (And.intro GJ (And.intro CG (And.intro IE (And.intro kb (And.intro lW (HM))))))):=And.intro Bj (And.intro GJ (And.intro CG (And.intro IE (And.intro kb (And.intro lW (HM))))))
theorem OP:type_of% (And.intro BU (And.intro Ez (And.intro Cv (And.intro HU (And.intro qE (And.intro wz (H4))))))):=And.intro BU (And.intro Ez (And.intro Cv (And.intro HU (And.intro qE (And.intro wz (H4))))))
instance:TZr Tryz.prog 2 (.int .i64 0):=⟨VA⟩
instance:TIn Tryz.prog 2 .i64:=⟨VF⟩
instance:TOne Tryz.prog 3:=⟨OV,Er⟩
instance:TZr Tryz.prog 3 (.int .i64 0):=⟨Qr⟩
instance:TIn Tryz.prog 3 .i64:=⟨K6⟩
instance:TOne Tryz.prog 4:=⟨TB,Vp⟩
instance:TZr Tryz.prog 4 (.bool false):=⟨U6⟩
instance:TOne Tryz.prog 5:=⟨UW,Tw⟩
instance:TZr Tryz.prog 5 (.int .u8 0):=⟨Tz⟩
instance:TIn Tryz.prog 5 .u8:=⟨Sy⟩
instance:TZr Tryz.prog 8 (.agg #[(.int .i64 0),(.int .i64 0),(.bool false),(.int .u8 0)]):=⟨Vx⟩
instance:TPl Tryz.prog 8 [(0,1),(1,1),(2,1),(3,1)]:=⟨Vy⟩
instance:TOne Tryz.prog 9:=⟨LO,UE⟩
instance:TZr Tryz.prog 9 (.string ByteArray.empty):=⟨Uv⟩
instance:TStr Tryz.prog 9:=⟨Uq⟩
instance:TZr Tryz.prog 21 (.int .i32 0):=⟨TL⟩
instance:TIn Tryz.prog 21 .i32:=⟨M7⟩
instance:TOne Tryz.prog 22:=⟨N5,I7⟩
instance:TZr Tryz.prog 22 (.slice none 0 0):=⟨JR⟩
instance:TSl Tryz.prog 22 3 1 8 (.int .i64 0):=⟨sk,Er,Sj,Qr,by decide,rfl⟩
instance:TOne Tryz.prog 23:=⟨U9,Uu⟩
instance:TZr Tryz.prog 23 .nilFunc:=⟨US⟩
instance:TOne Tryz.prog 24:=⟨Nz,NO⟩
instance:TZr Tryz.prog 24 (.slice none 0 0):=⟨Ow⟩
instance:TSl Tryz.prog 24 26 6 72 (.agg #[(.int .i64 0),(.string ByteArray.empty),(.string ByteArray.empty),(.string ByteArray.empty),(.int .i64 0),(.bool false)]):=⟨PA,KV,PW,Jv,by decide,rfl⟩
instance:TZr Tryz.prog 25 (.agg #[(.int .i64 0),(.string ByteArray.empty),(.string ByteArray.empty),(.string ByteArray.empty),(.int .i64 0),(.bool false)]):=⟨T6⟩
instance:TPl Tryz.prog 25 [(0,1),(1,1),(2,1),(3,1),(4,1),(5,1)]:=⟨TI⟩
instance:TAgg Tryz.prog 26 6:=⟨OS,KV⟩
instance:TZr Tryz.prog 26 (.agg #[(.int .i64 0),(.string ByteArray.empty),(.string ByteArray.empty),(.string ByteArray.empty),(.int .i64 0),(.bool false)]):=⟨Jv⟩
instance:TPl Tryz.prog 26 [(0,1),(1,1),(2,1),(3,1),(4,1),(5,1)]:=⟨NU⟩
instance:TOne Tryz.prog 27:=⟨TS,TN⟩
instance:TZr Tryz.prog 27 .nilFunc:=⟨TM⟩
instance:TOne Tryz.prog 28:=⟨N3,PK⟩
instance:TZr Tryz.prog 28 (.int .i64 0):=⟨PH⟩
instance:TOne Tryz.prog 30:=⟨UN,UL⟩
instance:TZr Tryz.prog 30 .nilFunc:=⟨UC⟩
instance:TOne Tryz.prog 31:=⟨O4,Pp⟩
instance:TZr Tryz.prog 31 (.slice none 0 0):=⟨N0⟩
instance:TSl Tryz.prog 31 51 2 32 (.agg #[(.int .i64 0),(.slice none 0 0)]):=⟨Nt,Jl,NY,KL,by decide,rfl⟩
instance:TOne Tryz.prog 42:=⟨UU,UD⟩
instance:TZr Tryz.prog 42 .nilFunc:=⟨U4⟩
instance:TOne Tryz.prog 43:=⟨Vo,TY⟩
instance:TZr Tryz.prog 50 (.agg #[(.int .i64 0),(.slice none 0 0)]):=⟨T1⟩
instance:TPl Tryz.prog 50 [(0,1),(1,1)]:=⟨UA⟩
instance:TAgg Tryz.prog 51 2:=⟨OE,Jl⟩
instance:TZr Tryz.prog 51 (.agg #[(.int .i64 0),(.slice none 0 0)]):=⟨KL⟩
instance:TPl Tryz.prog 51 [(0,1),(1,1)]:=⟨OQ⟩
instance:TOne Tryz.prog 52:=⟨U5,Ul⟩
instance:TZr Tryz.prog 52 (.pointer none):=⟨T0⟩
instance:TOne Tryz.prog 53:=⟨Pm,PV⟩
instance:TPl Tryz.prog 57 [(0,1),(1,1),(2,1),(3,1)]:=⟨UQ⟩
instance:TAgg Tryz.prog 58 4:=⟨Un,Ug⟩
instance:TZr Tryz.prog 58 (.agg #[(.slice none 0 0),(.pointer none),(.slice none 0 0),(.slice none 0 0)]):=⟨U2⟩
instance:TPl Tryz.prog 58 [(0,1),(1,1),(2,1),(3,1)]:=⟨Ua⟩
instance:TOne Tryz.prog 63:=⟨N2,OG⟩
instance:TZr Tryz.prog 63 (.slice none 0 0):=⟨Ou⟩
instance:TSl Tryz.prog 63 5 1 1 (.int .u8 0):=⟨NF,Tw,Vq,Tz,by decide,rfl⟩
instance:TOne Tryz.prog 68:=⟨UY,UK⟩
instance:TZr Tryz.prog 68 .nilFunc:=⟨TK⟩
instance:TOne Tryz.prog 69:=⟨Uj,Uz⟩
instance:TPl Tryz.prog 70 [(0,1),(1,1),(2,1)]:=⟨UM⟩
instance:TAgg Tryz.prog 71 3:=⟨TQ,Um⟩
instance:TZr Tryz.prog 71 (.agg #[(.slice none 0 0),(.int .i64 0),(.slice none 0 0)]):=⟨T2⟩
instance:TPl Tryz.prog 71 [(0,1),(1,1),(2,1)]:=⟨TD⟩
instance:TPl Tryz.prog 76 [(0,1)]:=⟨TO⟩
instance:TAgg Tryz.prog 77 1:=⟨TT,Uk⟩
instance:TZr Tryz.prog 77 (.agg #[(.slice none 0 0)]):=⟨TV⟩
instance:TPl Tryz.prog 77 [(0,1)]:=⟨TG⟩
instance:TZr Tryz.prog 78 (.agg #[(.int .i64 0)]):=⟨TH⟩
instance:TPl Tryz.prog 78 [(0,1)]:=⟨Ui⟩
instance:TAgg Tryz.prog 79 1:=⟨U0,UP⟩
instance:TZr Tryz.prog 79 (.agg #[(.int .i64 0)]):=⟨UR⟩
instance:TPl Tryz.prog 79 [(0,1)]:=⟨Uo⟩
instance:TPl Tryz.prog 96 [(0,1),(1,1),(2,1)]:=⟨Uf⟩
instance:TAgg Tryz.prog 97 3:=⟨TJ,TZ⟩
instance:TZr Tryz.prog 97 (.agg #[(.int .i64 0),(.bool false),(.bool false)]):=⟨UZ⟩
instance:TPl Tryz.prog 97 [(0,1),(1,1),(2,1)]:=⟨UG⟩
instance:TZr Tryz.prog 98 (.agg #[(.string ByteArray.empty),(.string ByteArray.empty)]):=⟨Up⟩
instance:TPl Tryz.prog 98 [(0,1),(1,1)]:=⟨UH⟩
instance:TAgg Tryz.prog 99 2:=⟨UV,Vl⟩
instance:TZr Tryz.prog 99 (.agg #[(.string ByteArray.empty),(.string ByteArray.empty)]):=⟨Us⟩
instance:TPl Tryz.prog 99 [(0,1),(1,1)]:=⟨UJ⟩
instance:TPl Tryz.prog 107 [(0,1)]:=⟨RK⟩
instance:TAgg Tryz.prog 108 1:=⟨Td,S1⟩
instance:TZr Tryz.prog 108 (.agg #[(.map none)]):=⟨Q2⟩
instance:TPl Tryz.prog 108 [(0,1)]:=⟨RA⟩
instance:TOne Tryz.prog 127:=⟨RP,So⟩
instance:TZr Tryz.prog 127 .nilFunc:=⟨Rz⟩
instance:TOne Tryz.prog 128:=⟨Qt,QT⟩
instance:TZr Tryz.prog 128 (.pointer none):=⟨Rp⟩
instance:TZr Tryz.prog 130 (.agg #[(.int .i64 0),(.int .i64 0)]):=⟨RN⟩
instance:TPl Tryz.prog 130 [(0,1),(1,1)]:=⟨QE⟩
instance:TAgg Tryz.prog 131 2:=⟨yr,xg⟩
instance:TZr Tryz.prog 131 (.agg #[(.int .i64 0),(.int .i64 0)]):=⟨Gr⟩
instance:TPl Tryz.prog 131 [(0,1),(1,1)]:=⟨FF⟩
instance:TZr Tryz.prog 132 (.agg #[(.string ByteArray.empty),(.string ByteArray.empty),(.int .i64 0),(.int .i64 0)]):=⟨SD⟩
instance:TPl Tryz.prog 132 [(0,1),(1,1),(2,2)]:=⟨QM⟩
instance:TAgg Tryz.prog 133 4:=⟨Qv,RJ⟩
instance:TZr Tryz.prog 133 (.agg #[(.string ByteArray.empty),(.string ByteArray.empty),(.int .i64 0),(.int .i64 0)]):=⟨Q8⟩
instance:TPl Tryz.prog 133 [(0,1),(1,1),(2,2)]:=⟨SP⟩
instance:TZr Tryz.prog 134 (.agg #[(.int .i64 0)]):=⟨SZ⟩
instance:TPl Tryz.prog 134 [(0,1)]:=⟨Qz⟩
instance:TAgg Tryz.prog 135 1:=⟨Tm,QF⟩
instance:TZr Tryz.prog 135 (.agg #[(.int .i64 0)]):=⟨Tg⟩
instance:TPl Tryz.prog 135 [(0,1)]:=⟨Th⟩
instance:TPl Tryz.prog 158 [(0,1),(1,1),(2,1),(3,1),(4,1),(5,1)]:=⟨Q4⟩
instance:TAgg Tryz.prog 159 6:=⟨SN,Rl⟩
instance:TZr Tryz.prog 159 (.agg #[(.slice none 0 0),(.int .i64 0),(.bool false),(.int .i64 0),(.slice none 0 0),(.slice none 0 0)]):=⟨Sx⟩
instance:TPl Tryz.prog 159 [(0,1),(1,1),(2,1),(3,1),(4,1),(5,1)]:=⟨R2⟩
instance:TZr Tryz.prog 164 (.agg #[(.bool false),(.int .i64 0),(.int .i64 0)]):=⟨Rx⟩
instance:TPl Tryz.prog 164 [(0,1),(1,1),(2,1)]:=⟨Qu⟩
instance:TAgg Tryz.prog 165 3:=⟨QR,RL⟩
instance:TZr Tryz.prog 165 (.agg #[(.bool false),(.int .i64 0),(.int .i64 0)]):=⟨RR⟩
instance:TPl Tryz.prog 165 [(0,1),(1,1),(2,1)]:=⟨R0⟩
instance:TZr Tryz.prog 181 (.agg #[(.int .i64 0),(.int .i64 0),(.bool false)]):=⟨SQ⟩
instance:TPl Tryz.prog 181 [(0,2),(2,1)]:=⟨Rf⟩
instance:TAgg Tryz.prog 182 3:=⟨RO,Rt⟩
instance:TZr Tryz.prog 182 (.agg #[(.int .i64 0),(.int .i64 0),(.bool false)]):=⟨QQ⟩
instance:TPl Tryz.prog 182 [(0,2),(2,1)]:=⟨Ta⟩
instance:TOne Tryz.prog 190:=⟨Sz,Q0⟩
instance:TZr Tryz.prog 190 .nilFunc:=⟨Q3⟩
instance:TOne Tryz.prog 191:=⟨HL,FP⟩
instance:TZr Tryz.prog 191 (.slice none 0 0):=⟨EI⟩
instance:TSl Tryz.prog 191 22 1 24 (.slice none 0 0):=⟨EP,I7,PD,JR,by decide,rfl⟩
instance:TOne Tryz.prog 226:=⟨HJ,IA⟩
instance:TZr Tryz.prog 226 (.slice none 0 0):=⟨IW⟩
instance:TSl Tryz.prog 226 229 2 32 (.agg #[(.slice none 0 0),(.bool false)]):=⟨Gp,Bj,IE,CG,by decide,rfl⟩
instance:TOne Tryz.prog 227:=⟨HG,HN⟩
instance:TZr Tryz.prog 227 (.slice none 0 0):=⟨HK⟩
instance:TSl Tryz.prog 227 245 2 16 (.agg #[(.int .i64 0),(.bool false)]):=⟨FK,BU,HU,Cv,by decide,rfl⟩
instance:TZr Tryz.prog 228 (.agg #[(.slice none 0 0),(.bool false)]):=⟨Tb⟩
instance:TPl Tryz.prog 228 [(0,1),(1,1)]:=⟨Rc⟩
instance:TAgg Tryz.prog 229 2:=⟨GJ,Bj⟩
instance:TZr Tryz.prog 229 (.agg #[(.slice none 0 0),(.bool false)]):=⟨CG⟩
instance:TPl Tryz.prog 229 [(0,1),(1,1)]:=⟨HM⟩
instance:TZr Tryz.prog 244 (.agg #[(.int .i64 0),(.bool false)]):=⟨RS⟩
instance:TPl Tryz.prog 244 [(0,1),(1,1)]:=⟨Rh⟩
instance:TAgg Tryz.prog 245 2:=⟨Ez,BU⟩
instance:TZr Tryz.prog 245 (.agg #[(.int .i64 0),(.bool false)]):=⟨Cv⟩
instance:TPl Tryz.prog 245 [(0,1),(1,1)]:=⟨H4⟩
theorem pM:au Tryz.prog 12=True:=bQ Tryz.func12
theorem fQ:au Tryz.prog 13=True:=bQ Tryz.func13
theorem EY:au Tryz.prog 15=True:=bQ Tryz.func15
theorem LF:au Tryz.prog 17=True:=bQ Tryz.func17
theorem fP:au Tryz.prog 20=True:=bQ Tryz.func20
theorem Bg:au Tryz.prog 21=True:=bQ Tryz.func21
theorem nS:au Tryz.prog 22=True:=bQ Tryz.func22
theorem L7:au Tryz.prog 23=True:=bQ Tryz.func23
theorem Rm:au Tryz.prog 24=True:=bQ Tryz.func24
theorem RX:au Tryz.prog 25=True:=bQ Tryz.func25
theorem SE:au Tryz.prog 26=True:=bQ Tryz.func26
theorem Ti:au Tryz.prog 27=True:=bQ Tryz.func27
theorem SW:au Tryz.prog 30=True:=bQ Tryz.func30
theorem S9:au Tryz.prog 31=True:=bQ Tryz.func31
theorem Te:au Tryz.prog 32=True:=bQ Tryz.func32
theorem Sa:au Tryz.prog 34=True:=bQ Tryz.func34
theorem MR:au Tryz.prog 35=True:=bQ Tryz.func35
theorem S0:au Tryz.prog 36=True:=bQ Tryz.func36
theorem SY:au Tryz.prog 37=True:=bQ Tryz.func37
theorem RF:au Tryz.prog 41=True:=bQ Tryz.func41
theorem RU:au Tryz.prog 42=True:=bQ Tryz.func42
theorem Rv:au Tryz.prog 45=True:=bQ Tryz.func45
theorem LK:au Tryz.prog 46=True:=bQ Tryz.func46
theorem gu:au Tryz.prog 47=True:=bQ Tryz.func47
theorem Lr:au Tryz.prog 48=True:=bQ Tryz.func48
theorem Rw:au Tryz.prog 49=True:=bQ Tryz.func49
theorem gn:au Tryz.prog 50=True:=bQ Tryz.func50
theorem ij:au Tryz.prog 51=True:=bQ Tryz.func51
theorem nB:au Tryz.prog 52=True:=bQ Tryz.func52
theorem Gb:au Tryz.prog 53=True:=bQ Tryz.func53
theorem MY:au Tryz.prog 54=True:=bQ Tryz.func54
theorem BZ:au Tryz.prog 55=True:=bQ Tryz.func55
theorem f7:au Tryz.prog 56=True:=bQ Tryz.func56
theorem ku:au Tryz.prog 57=True:=bQ Tryz.func57
theorem Rg:au Tryz.prog 58=True:=bQ Tryz.func58
theorem RB:au Tryz.prog 59=True:=bQ Tryz.func59
theorem jM:au Tryz.prog 60=True:=bQ Tryz.func60
theorem dX:au Tryz.prog 61=True:=bQ Tryz.func61
theorem zp:au Tryz.prog 62=True:=bQ Tryz.func62
theorem LL:au Tryz.prog 63=True:=bQ Tryz.func63
theorem js:au Tryz.prog 64=True:=bQ Tryz.func64
theorem sy:au Tryz.prog 65=True:=bQ Tryz.func65
theorem QB:au Tryz.prog 66=True:=bQ Tryz.func66
theorem zt:au Tryz.prog 67=True:=bQ Tryz.func67
theorem jg:au Tryz.prog 68=True:=bQ Tryz.func68
theorem CQ:au Tryz.prog 69=True:=bQ Tryz.func69
theorem GL:au Tryz.prog 70=True:=bQ Tryz.func70
theorem rC:au Tryz.prog 71=True:=bQ Tryz.func71
theorem fw:au Tryz.prog 72=True:=bQ Tryz.func72
theorem RE:au Tryz.prog 73=True:=bQ Tryz.func73
theorem pZ:au Tryz.prog 75=True:=bQ Tryz.func75
theorem QU:au Tryz.prog 76=True:=bQ Tryz.func76
theorem yN:au Tryz.prog 77=True:=bQ Tryz.func77
theorem LX:au Tryz.prog 78=True:=bQ Tryz.func78
theorem kU:au Tryz.prog 79=True:=bQ Tryz.func79
theorem B6:au Tryz.prog 80=True:=bQ Tryz.func80
theorem zk:au Tryz.prog 81=True:=bQ Tryz.func81
theorem Ba:au Tryz.prog 82=True:=bQ Tryz.func82
theorem BG:au Tryz.prog 83=True:=bQ Tryz.func83
theorem te:au Tryz.prog 84=True:=bQ Tryz.func84
theorem Cf:au Tryz.prog 85=True:=bQ Tryz.func85
theorem Ri:au Tryz.prog 86=True:=bQ Tryz.func86
theorem jr:au Tryz.prog 87=True:=bQ Tryz.func87
theorem jG:au Tryz.prog 88=True:=bQ Tryz.func88
theorem xB:au Tryz.prog 89=True:=bQ Tryz.func89
theorem FE:au Tryz.prog 90=True:=bQ Tryz.func90
theorem LQ:au Tryz.prog 91=True:=bQ Tryz.func91
theorem Lq:au Tryz.prog 92=True:=bQ Tryz.func92
theorem L3:au Tryz.prog 95=True:=bQ Tryz.func95
theorem R6:au Tryz.prog 96=True:=bQ Tryz.func96
theorem Tn:au Tryz.prog 97=True:=bQ Tryz.func97
theorem RH:au Tryz.prog 98=True:=bQ Tryz.func98
theorem e8:au Tryz.prog 99=True:=bQ Tryz.func99
theorem lr:au Tryz.prog 100=True:=bQ Tryz.func100
theorem rN:au Tryz.prog 101=True:=bQ Tryz.func101
theorem AM:au Tryz.prog 102=True:=bQ Tryz.func102
theorem vt:au Tryz.prog 103=True:=bQ Tryz.func103
theorem FG:au Tryz.prog 104=True:=bQ Tryz.func104
theorem Nw:au Tryz.prog 105=True:=bQ Tryz.func105
theorem O0:au Tryz.prog 106=True:=bQ Tryz.func106
theorem PX:au Tryz.prog 107=True:=bQ Tryz.func107
theorem kX:au Tryz.prog 108=True:=bQ Tryz.func108
theorem PI:au Tryz.prog 109=True:=bQ Tryz.func109
theorem sY:au Tryz.prog 110=True:=bQ Tryz.func110
theorem OL:au Tryz.prog 118=True:=bQ Tryz.func118
theorem ie:au Tryz.prog 119=True:=bQ Tryz.func119
theorem cT:au Tryz.prog 120=True:=bQ Tryz.func120
theorem Np:au Tryz.prog 121=True:=bQ Tryz.func121
theorem rU:au Tryz.prog 122=True:=bQ Tryz.func122
theorem dr:au Tryz.prog 123=True:=bQ Tryz.func123
theorem AH:au Tryz.prog 124=True:=bQ Tryz.func124
theorem HT:au Tryz.prog 125=True:=bQ Tryz.func125
theorem AS:au Tryz.prog 126=True:=bQ Tryz.func126
theorem N6:au Tryz.prog 127=True:=bQ Tryz.func127
theorem Pa:au Tryz.prog 128=True:=bQ Tryz.func128
theorem P3:au Tryz.prog 129=True:=bQ Tryz.func129
theorem Pz:au Tryz.prog 130=True:=bQ Tryz.func130
theorem vW:au Tryz.prog 131=True:=bQ Tryz.func131
theorem OM:au Tryz.prog 132=True:=bQ Tryz.func132
theorem EB:au Tryz.prog 135=True:=bQ Tryz.func135
theorem rj:au Tryz.prog 136=True:=bQ Tryz.func136
theorem Po:au Tryz.prog 137=True:=bQ Tryz.func137
theorem O5:au Tryz.prog 142=True:=bQ Tryz.func142
theorem vT:au Tryz.prog 143=True:=bQ Tryz.func143
theorem oP:au Tryz.prog 144=True:=bQ Tryz.func144
theorem iX:au Tryz.prog 145=True:=bQ Tryz.func145
theorem gm:au Tryz.prog 146=True:=bQ Tryz.func146
theorem mE:au Tryz.prog 147=True:=bQ Tryz.func147
theorem hO:au Tryz.prog 148=True:=bQ Tryz.func148
theorem Oz:au Tryz.prog 149=True:=bQ Tryz.func149
theorem Nu:au Tryz.prog 150=True:=bQ Tryz.func150
theorem mZ:au Tryz.prog 151=True:=bQ Tryz.func151
theorem PU:au Tryz.prog 152=True:=bQ Tryz.func152
theorem NR:au Tryz.prog 153=True:=bQ Tryz.func153
theorem pj:au Tryz.prog 154=True:=bQ Tryz.func154
theorem Az:au Tryz.prog 155=True:=bQ Tryz.func155
theorem OY:au Tryz.prog 156=True:=bQ Tryz.func156
theorem EZ:au Tryz.prog 157=True:=bQ Tryz.func157
theorem Fs:au Tryz.prog 158=True:=bQ Tryz.func158
theorem mL:au Tryz.prog 159=True:=bQ Tryz.func159
theorem AB:au Tryz.prog 160=True:=bQ Tryz.func160
theorem Pu:au Tryz.prog 161=True:=bQ Tryz.func161
theorem wF:au Tryz.prog 162=True:=bQ Tryz.func162
theorem Gq:au Tryz.prog 163=True:=bQ Tryz.func163
theorem Fq:au Tryz.prog 164=True:=bQ Tryz.func164
theorem Fm:au Tryz.prog 165=True:=bQ Tryz.func165
theorem NB:au Tryz.prog 166=True:=bQ Tryz.func166
theorem Ox:au Tryz.prog 167=True:=bQ Tryz.func167
theorem qW:au Tryz.prog 170=True:=bQ Tryz.func170
theorem FN:au Tryz.prog 171=True:=bQ Tryz.func171
theorem z7:au Tryz.prog 172=True:=bQ Tryz.func172
theorem PE:au Tryz.prog 173=True:=bQ Tryz.func173
theorem PQ:au Tryz.prog 174=True:=bQ Tryz.func174
theorem F7:au Tryz.prog 175=True:=bQ Tryz.func175
theorem NZ:au Tryz.prog 176=True:=bQ Tryz.func176
theorem ph:au Tryz.prog 177=True:=bQ Tryz.func177
theorem oS:au Tryz.prog 178=True:=bQ Tryz.func178
theorem kR:au Tryz.prog 179=True:=bQ Tryz.func179
theorem cY:au Tryz.prog 180=True:=bQ Tryz.func180
theorem dv:au Tryz.prog 181=True:=bQ Tryz.func181
theorem oJ:au Tryz.prog 182=True:=bQ Tryz.func182
theorem wQ:au Tryz.prog 183=True:=bQ Tryz.func183
theorem Qj:au Tryz.prog 184=True:=bQ Tryz.func184
theorem Fz:au Tryz.prog 185=True:=bQ Tryz.func185
theorem G0:au Tryz.prog 186=True:=bQ Tryz.func186
theorem PN:au Tryz.prog 187=True:=bQ Tryz.func187
theorem Pn:au Tryz.prog 188=True:=bQ Tryz.func188
theorem IF:au Tryz.prog 189=True:=bQ Tryz.func189
theorem OD:au Tryz.prog 190=True:=bQ Tryz.func190
theorem H6:au Tryz.prog 191=True:=bQ Tryz.func191
theorem Ft:au Tryz.prog 192=True:=bQ Tryz.func192
theorem Oj:au Tryz.prog 193=True:=bQ Tryz.func193
theorem AN:au Tryz.prog 194=True:=bQ Tryz.func194
theorem GA:au Tryz.prog 195=True:=bQ Tryz.func195
theorem P8:au Tryz.prog 196=True:=bQ Tryz.func196
theorem Ew:au Tryz.prog 197=True:=bQ Tryz.func197
theorem MZ:au Tryz.prog 198=True:=bQ Tryz.func198
theorem Oo:au Tryz.prog 199=True:=bQ Tryz.func199
theorem ED:au Tryz.prog 200=True:=bQ Tryz.func200
theorem GF:au Tryz.prog 201=True:=bQ Tryz.func201
theorem M3:au Tryz.prog 202=True:=bQ Tryz.func202
theorem eY:au Tryz.prog 203=True:=bQ Tryz.func203
theorem kP:au Tryz.prog 204=True:=bQ Tryz.func204
theorem pk:au Tryz.prog 205=True:=bQ Tryz.func205
theorem mD:au Tryz.prog 206=True:=bQ Tryz.func206
theorem FI:au Tryz.prog 207=True:=bQ Tryz.func207
theorem O9:au Tryz.prog 208=True:=bQ Tryz.func208
theorem PG:au Tryz.prog 209=True:=bQ Tryz.func209
theorem Oi:au Tryz.prog 210=True:=bQ Tryz.func210
theorem Qk:au Tryz.prog 211=True:=bQ Tryz.func211
theorem F9:au Tryz.prog 212=True:=bQ Tryz.func212
theorem Of:au Tryz.prog 213=True:=bQ Tryz.func213
theorem PM:au Tryz.prog 215=True:=bQ Tryz.func215
theorem GR:au Tryz.prog 216=True:=bQ Tryz.func216
theorem Ol:au Tryz.prog 217=True:=bQ Tryz.func217
theorem Oq:au Tryz.prog 218=True:=bQ Tryz.func218
theorem OC:au Tryz.prog 219=True:=bQ Tryz.func219
theorem Pv:au Tryz.prog 220=True:=bQ Tryz.func220
theorem Om:au Tryz.prog 221=True:=bQ Tryz.func221
theorem Og:au Tryz.prog 222=True:=bQ Tryz.func222
theorem Nq:au Tryz.prog 223=True:=bQ Tryz.func223
theorem PZ:au Tryz.prog 224=True:=bQ Tryz.func224
theorem Oc:au Tryz.prog 225=True:=bQ Tryz.func225
theorem Nx:au Tryz.prog 226=True:=bQ Tryz.func226
theorem FH:au Tryz.prog 227=True:=bQ Tryz.func227
theorem Qb:au Tryz.prog 228=True:=bQ Tryz.func228
theorem Oy:au Tryz.prog 229=True:=bQ Tryz.func229
theorem mixed:Tryz.prog.follows .mixedOrders=true:=by kernel_rfl
end Go.Proofs.YthkabaiamcjdbaaGreat
/-
 Walks: chapter 2's functions,and the reference's;equality of lists.
-/


namespace Go.Proofs.YthkabaiamcjdbaaGreat
open Go.Abs
variable {κ:Ctx} {σ:List Res} {K:Ret→List Res→Prop} {o o':Option (Option (Nat × Nat))}
theorem Blank {c:Int} (hK:K (.ret (B (blankI c))) σ):ACallF κ Tryz.prog 72 [I c] σ K:=by
 refine ACallF.dropL (aa Tryz.func72 rfl ?_)
 simp only [Tryz.ntmps72]
 repeat' (first|simp only [WL,aD,WM,reduceCtorEq,ba,Nat.reduceAdd,Nat.reduceSub,Bool.not_false,true_and,reduceIte,Bool.false_eq_true,Tryz.results72]|((with_reducible first|refine ai (fun h=>?_) (fun h=>?_)|refine ab (fun h=>?_) (fun h=>?_))<;>(try simp only [h])<;>(try simp only [bg,bm] at h)))
 all_goals (refine ak ah (aj (congrArg B ?_)) hK;simp [blankI, *])
 all_goals (rw [Bool.eq_iff_iff];simp)
theorem within {c a b:Int} (hK:K (.ret (B (decide (a≤c∧c≤b)))) σ):ACallF κ Tryz.prog 194 [I c,I a,I b] σ K:=by
 refine ACallF.dropL (aa Tryz.func194 rfl ?_)
 simp only [Tryz.ntmps194]
 repeat' (first|simp only [WL,aD,WM,reduceCtorEq,ba,Nat.reduceAdd,Nat.reduceSub,Bool.not_true,true_and,reduceIte,Bool.false_eq_true,Tryz.results194]|((with_reducible first|refine ai (fun h=>?_) (fun h=>?_)|refine ab (fun h=>?_) (fun h=>?_))<;>(try simp only [h])<;>(try simp only [bg,bm] at h)))
 all_goals (refine ak ah (aj (congrArg B ?_)) hK;rw [Bool.eq_iff_iff];simp;omega)
theorem L4 {c:Int} (hK:K (.ret (B (jB c))) σ):ACallF κ Tryz.prog 165 [I c] σ K:=by
 refine ACallF.dropL (aa Tryz.func165 rfl ?_)
 simp only [Tryz.ntmps165]
 repeat' (first|simp only [WL,aD,WM,reduceCtorEq,ba,Nat.reduceAdd,Nat.reduceSub,Bool.not_false,true_and,reduceIte,Bool.false_eq_true,AN,Tryz.results165]|with_reducible refine cD (within ?_)|((with_reducible first|refine ai (fun h=>?_) (fun h=>?_)|refine ab (fun h=>?_) (fun h=>?_))<;>(try simp only [h])<;>(try simp only [bg,bm] at h)))
 all_goals (refine ak ah (aj (congrArg B ?_)) hK;rw [Bool.eq_iff_iff];simp only [jB,decide_eq_true_eq,Bool.false_eq_true,false_iff,true_iff,eq_self];omega)
theorem Ns {c:Int} (hK:K (.ret (B (jB c))) σ):ACallF κ Tryz.prog 41 [I c] σ K:=by
 refine ACallF.dropL (aa Tryz.func41 rfl ?_)
 simp only [Tryz.ntmps41]
 repeat' (first|simp only [WL,aD,WM,reduceCtorEq,ba,Nat.reduceAdd,Nat.reduceSub,Bool.not_true,Bool.not_false,true_and,reduceIte,Bool.false_eq_true,Tryz.results41]|((with_reducible first|refine ai (fun h=>?_) (fun h=>?_)|refine ab (fun h=>?_) (fun h=>?_))<;>(try simp only [h])<;>(try simp only [bg,bm] at h))|omega)
 all_goals (refine ak ah (aj (congrArg B ?_)) hK;rw [Bool.eq_iff_iff];simp only [jB,decide_eq_true_eq,Bool.false_eq_true,false_iff,true_iff,eq_self];omega)
theorem rest {l:List Int} (hl:l.length≤1000000000) (hK:K (.ret (SI none (l.dropWhile blankI))) σ):ACallF κ Tryz.prog 92 [SI o l] σ K:=by
 refine ACallF.dropL (aa Tryz.func92 rfl ?_)
 simp only [Tryz.ntmps92]
 repeat' (first|simp only [WL,WM,Nat.reduceAdd,Nat.reduceSub])
 refine bH (fun x:Option (Option (Nat × Nat)) × List Int=>⟨(SI x.1 x.2::.any::.any::.any::.any::.any::.any::.any::.any::.any::.any::.any::.any::.any::.any::[]),σ,true,[]⟩) (fun x=>x.2.dropWhile blankI=l.dropWhile blankI∧x.2.length≤l.length) (fun x=>x.2.length) (o,l) (ao bz id) ⟨rfl,Nat.le_refl _⟩ ?_
 rintro ⟨o',l'⟩ ⟨h1,h2⟩
 dsimp only at h1 h2 ⊢
 repeat' (first|simp only [WL,aD,WM,Int.reduceToNat,reduceCtorEq,ba,Nat.reduceAdd,Bool.not_true,true_and,reduceIte,Bool.false_eq_true,T3,bX,fw,Tryz.results92]|simp (disch:=first|omega|(simp only [aT];omega)) only [aV]|(with_reducible first|refine aC (hb:=?_)|refine cD (Blank ?_))|((with_reducible first|refine ai (fun h=>?_) (fun h=>?_)|refine ab (fun h=>?_) (fun h=>?_))<;>(try simp only [h])<;>(try simp only [bg,bm] at h)))
 ·refine ⟨(none,l'.drop 1),ao bz id,⟨?_, ?_⟩, ?_⟩
  ·rw [← h1];exact (CI (by omega) h).symm
  ·simp;omega
  ·simp;omega
 ·exact ak ah (d8 (by rw [← h1,Bd (by omega) h];exact le_ro)) hK
 ·exact ak ah (d8 (by rw [← h1,List.eq_nil_of_length_eq_zero (l:=l') (by omega)];exact le_ro)) hK
theorem AE {n:Int}{l:List Int} (hl:l.length≤1000000000) (hK:K (.ret (B (l.all blankI))) σ):ACallF κ Tryz.prog 172 [.agg [I n,SI o l]] σ K:=by
 refine ACallF.dropL (aa Tryz.func172 rfl ?_)
 simp only [Tryz.ntmps172]
 repeat' (first|simp only [WL,aD,WM,reduceCtorEq,ba,Nat.reduceAdd,Nat.reduceSub,Nat.reduceEqDiff,true_and,bX,fR dP,Lq,Tryz.results172]|(with_reducible first|refine aC (hb:=?_)|refine ax (hK:=?_)|refine aP (hK:=fun b=>?_)|refine cD (rest ?_ ?_))|omega)
 exact ak (ae ah) (aj (congrArg B (by rw [Bool.eq_iff_iff,← nm];simp))) hK
theorem sv {n:Int}{l:List Int} (hl:l.length≤1000000000) (hK:K (.ret (B (cU l))) σ):ACallF κ Tryz.prog 71 [.agg [I n,SI o l]] σ K:=by
 refine ACallF.dropL (aa Tryz.func71 rfl ?_)
 simp only [Tryz.ntmps71]
 repeat' (first|simp only [WL,aD,WM,Int.reduceToNat,reduceCtorEq,ba,Nat.reduceAdd,Nat.reduceSub,Nat.reduceEqDiff,Bool.not_false,true_and,reduceIte,Bool.false_eq_true,T3,bX,fR dP,Lq,Tryz.results71]|simp (disch:=first|omega|(simp only [aT];omega)) only [aV]|(with_reducible first|refine aC (hb:=?_)|refine ax (hK:=?_)|refine aP (hK:=fun b=>?_)|refine cD (rest ?_ ?_))|((with_reducible first|refine ai (fun h=>?_) (fun h=>?_)|refine ab (fun h=>?_) (fun h=>?_))<;>(try simp only [h])<;>(try simp only [bg,bm] at h))|omega)
 ·have h:¬(l.dropWhile blankI).length=0:=by omega
  rw [nm] at h
  exact ak (ae ah) (aj (congrArg B (by simp [cU,h]))) hK
 ·have h:(l.dropWhile blankI).length=0:=by omega
  rw [nm] at h
  exact ak (ae ah) (aj (congrArg B (by simp [cU,h]))) hK
theorem LY {s:ByteArray}{c:Int} (hs:s.size≤1000000000) (hK:K (.ret (B (decide (c∈cw s)))) σ):ACallF κ Tryz.prog 191 [.raw (.string s),I c] σ K:=by
 have hl:=eX s
 refine ACallF.dropL (aa Tryz.func191 rfl ?_)
 simp only [Tryz.ntmps191]
 repeat' (first|simp only [WL,WM,Nat.reduceAdd,Nat.reduceSub,true_and,t9,BC]|with_reducible refine MV ?_ ?_|(refine bq ?_;(first|omega|(simp only [aT];omega))))
 refine bH (fun k:Nat=>⟨(.raw (.string s)::I c::.any::.any::.any::.any::.any::.any::SU none (cw s)::I s.size::I k::.any::.any::.any::.any::.any::.any::.any::.any::[]),σ,true,[]⟩) (fun k=>k≤s.size∧∀ j,j < k→¬(cw s).getD j 0=c) (fun k=>s.size - k) 0 (ao (by simp only [hl];exact bz) id) ⟨Nat.zero_le _,fun j h=>by omega⟩ ?_
 rintro k ⟨hk,hb⟩
 have hby:k < s.size→0≤(cw s).getD k 0∧(cw s).getD k 0≤255:=fun h=>xj s _ (by rw [List.getD_eq_getElem?_getD,List.getElem?_eq_getElem (by omega)];exact List.getElem_mem _)
 repeat' (first|simp only [WL,aD,WM,reduceCtorEq,ba,Nat.reduceAdd,true_and,T5,BC,cI K6,Tryz.results191]|simp (disch:=first|omega|(simp only [aT];omega)) only [aq,D3]|with_reducible refine aC (hb:=?_)|((with_reducible first|refine ai (fun h=>?_) (fun h=>?_)|refine ab (fun h=>?_) (fun h=>?_))<;>(try simp only [h])<;>(try simp only [bg,bm] at h)))
 ·exact ak ah (aj (congrArg B (decide_eq_true (HQ (k:=k) (by omega) (by assumption))).symm)) hK
 ·refine ⟨k+1,ao bz id,⟨by omega,fun j h=>?_⟩,by omega⟩
  rcases Nat.lt_succ_iff_lt_or_eq.1 h with h|rfl
  ·exact hb j h
  ·assumption
 ·exact ak ah (aj (congrArg B (decide_eq_false (wM (fun j hj=>hb j (by omega)))).symm)) hK
theorem uQ {c:Int} (hK:K (.ret (B (jN c))) σ):ACallF κ Tryz.prog 154 [I c] σ K:=by
 refine ACallF.dropL (aa Tryz.func154 rfl ?_)
 simp only [Tryz.ntmps154]
 repeat' (first|simp only [WL,WM,Nat.reduceAdd,Nat.reduceSub,true_and,H6,Tryz.results154]|with_reducible refine cD (LY ?_ ?_))
 ·decide
 ·exact ak ah (aj (congrArg B (F8 (by decide) c))) hK
theorem S4 {c:Int} (hK:K (.ret (B (ff c))) σ):ACallF κ Tryz.prog 132 [I c] σ K:=by
 refine ACallF.dropL (aa Tryz.func132 rfl ?_)
 simp only [Tryz.ntmps132]
 repeat' (first|simp only [WL,aD,WM,reduceCtorEq,ba,Nat.reduceAdd,Nat.reduceSub,Bool.not_true,true_and,reduceIte,Bool.false_eq_true,fw,pj,Fm,Tryz.results132]|(with_reducible first|refine cD (Blank ?_)|refine cD (uQ ?_)|refine cD (L4 ?_))|((with_reducible first|refine ai (fun h=>?_) (fun h=>?_)|refine ab (fun h=>?_) (fun h=>?_))<;>(try simp only [h])<;>(try simp only [bg,bm] at h)))
 all_goals exact ak ah (aj (congrArg B (by simp [ff, *]))) hK
theorem LB {c:Int} (hK:K (.ret (B (jH c))) σ):ACallF κ Tryz.prog 195 [I c] σ K:=by
 refine ACallF.dropL (aa Tryz.func195 rfl ?_)
 simp only [Tryz.ntmps195]
 repeat' (first|simp only [WL,aD,WM,reduceCtorEq,ba,Nat.reduceAdd,Nat.reduceSub,Bool.not_false,true_and,reduceIte,Bool.false_eq_true,AN,Tryz.results195]|with_reducible refine cD (within ?_)|((with_reducible first|refine ai (fun h=>?_) (fun h=>?_)|refine ab (fun h=>?_) (fun h=>?_))<;>(try simp only [h])<;>(try simp only [bg,bm] at h)))
 all_goals (refine ak ah (aj (congrArg B ?_)) hK;rw [Bool.eq_iff_iff];simp only [jH,decide_eq_true_eq,beq_iff_eq,Bool.false_eq_true,false_iff,true_iff,eq_self];omega)
theorem R9 {c:Int} (hK:K (.ret (I (ky c))) σ):ACallF κ Tryz.prog 216 [I c] σ K:=by
 refine ACallF.dropL (aa Tryz.func216 rfl ?_)
 simp only [Tryz.ntmps216]
 repeat' (first|simp only [WL,aD,WM,reduceCtorEq,ba,Nat.reduceAdd,Nat.reduceSub,true_and,AN,Tryz.results216]|simp (disch:=first|omega|(simp only [aT];omega)) only [aq]|with_reducible refine cD (within ?_)|((with_reducible first|refine ai (fun h=>?_) (fun h=>?_)|refine ab (fun h=>?_) (fun h=>?_))<;>(try simp only [h])<;>(try simp only [bg,bm] at h)))
 all_goals (refine ak ah (aj (congrArg I ?_)) hK;unfold ky;(repeat' split)<;>omega)
end Go.Proofs.YthkabaiamcjdbaaGreat
