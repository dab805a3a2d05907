/-
  Texts Su, Sc, My, Mz, T, Ch, Ck, L, Sg, one behind the other.
-/
import Derived.Test.YthkabaiamcjdbaaGreatJ4
import Derived.Test.YthkabaiamcjdbaaGreatRows
set_option linter.unusedVariables false
set_option linter.unusedSimpArgs false
set_option maxHeartbeats 16000000
namespace Go.Abs
def ek (c:Int):Bool:=decide (0≤c∧c≤1114111∧(c < 55296∨57343 < c))
def vA (c:Int):List Int :=
 if c < 128 then [c] else if c < 2048 then [192+c / 64,128+c % 64] else if c < 65536 then [224+c / 4096,128+c / 64 % 64,128+c % 64] else [240+c / 262144,128+c / 4096 % 64,128+c / 64 % 64,128+c % 64]
def tV (c:Int):Int:=if ek c then c else 65533
def kT (c:Int):List Int:=vA (tV c)
def ic (l:List Int):List Int:=l.flatMap kT
def aK (l:List Int):ByteArray:=strOfNums (ic l)
theorem xd {c:Int} (h:0≤c) (h1:c≤1114111) (h2:c < 55296∨57343 < c):ek c=true:=decide_eq_true ⟨h,h1,h2⟩
theorem fw {c:Int}:ek c=true↔0≤c∧c≤1114111∧(c < 55296∨57343 < c):=by unfold ek;exact decide_eq_true_iff
theorem GI (c:Int):0≤tV c∧tV c≤1114111∧(tV c < 55296∨57343 < tV c):=by
 unfold tV;split
 ·rename_i h;exact fw.1 h
 ·omega
theorem qU {c:Int} (h:ek c=true):tV c=c:=by unfold tV;rw [if_pos h]
theorem Ul {c:Int} (h:ek c=false):tV c=65533:=by unfold tV;rw [if_neg (by rw [h];decide)]
theorem LZ (c:Int):1≤(vA c).length∧(vA c).length≤4:=by unfold vA;(repeat' split)<;>simp
theorem uF (c:Int):1≤(kT c).length∧(kT c).length≤4:=LZ _
theorem mw (l:List Int):(ic l).length≤4 * l.length:=by
 induction l with
 | nil=>simp [ic]
 | cons c r ih =>
  have:=uF c
  simp only [ic,List.flatMap_cons,List.length_append,List.length_cons] at *;omega
theorem Bx (a b:List Int):ic (a++b)=ic a++ic b:=by simp [ic]
theorem K1 (c:Int):ic [c]=kT c:=by simp [ic]
theorem wz {l:List Int}{k:Nat} (h:k < l.length):ic (l.take (k+1))=ic (l.take k)++kT (l.getD k 0):=by
 rw [List.take_succ_eq_append_getElem h,Bx,K1];simp [List.getD_eq_getElem?_getD,h]
theorem F1 (c:Int):∀ x∈kT c,0≤x∧x≤255:=by
 have h:=GI c
 unfold kT vA;generalize tV c=d at *;intro x hx
 (repeat' split at hx)<;>simp only [List.mem_cons,List.not_mem_nil,or_false] at hx<;>omega
theorem HI (l:List Int):∀ x∈ic l,0≤x∧x≤255:=by
 intro x hx;obtain ⟨c,_,h⟩:=List.mem_flatMap.1 hx;exact F1 c x h
theorem jC (a b:List Int):aK a++aK b=aK (a++b):=by unfold aK;rw [vi,Bx]
theorem gA (l:List Int):aJ (aK l)=ic l:=qN (HI l)
theorem oU {c:Int} (h:0≤c) (h2:c < 128):kT c=[c]:=by
 unfold kT;rw [qU (xd h (by omega) (by omega))];unfold vA;rw [if_pos h2]
theorem lh {l:List Int} (h:∀ c∈l,0≤c∧c < 128):ic l=l:=by
 induction l with
 | nil=>rfl
 | cons c r ih =>
  have:=h c (by simp)
  simp only [ic,List.flatMap_cons];rw [oU this.1 this.2];have:=ih (fun x hx=>h x (by simp [hx]))
  simp only [ic] at this;rw [this];rfl
/-! ### Bits -/
theorem Xy {m b:Nat} (hm:m < 256) (hb:b < 256):IntKind.i64.wrap ((BitVec.ofInt 64 (m:Int) ||| BitVec.ofInt 64 (b:Int)).toNat:Nat)=((m ||| b:Nat):Int):=by
 have e:∀ n:Nat,n < 256→(BitVec.ofInt 64 (n:Int)).toNat=n:=fun n hn=>by
  rw [BitVec.toNat_ofInt];have:((n:Int) % ((2 ^ 64:Nat):Int)).toNat=n:=by omega
  exact this
 rw [BitVec.toNat_or,e m hm,e b hb];have:m ||| b < 2 ^ 8:=Nat.or_lt_two_pow hm hb
 exact an (by omega) (by omega)
theorem ks {m b:Nat} (hm:m < 256) (hb:b < 256):XD m b=((m ||| b:Nat):Int):=Xy hm hb
theorem Wh {b:Int} (h:0≤b) (h2:b < 64):XD 128 b=128+b:=by
 obtain ⟨n,rfl⟩:=Int.eq_ofNat_of_zero_le h;have:=ks (m:=128) (b:=n) (by decide) (by omega)
 have h3:∀ n:Fin 64,128 ||| n.1=128+n.1:=by decide
 have h4:=h3 ⟨n,by omega⟩
 simp only at h4;rw [h4] at this;have e:((128:Nat):Int)=128:=rfl
 rw [e] at this;rw [this];omega
theorem W5 {b:Int} (h:0≤b) (h2:b < 64):XD 192 b=192+b:=by
 obtain ⟨n,rfl⟩:=Int.eq_ofNat_of_zero_le h;have:=ks (m:=192) (b:=n) (by decide) (by omega)
 have h3:∀ n:Fin 64,192 ||| n.1=192+n.1:=by decide
 have h4:=h3 ⟨n,by omega⟩
 simp only at h4;rw [h4] at this;have e:((192:Nat):Int)=192:=rfl
 rw [e] at this;rw [this];omega
theorem We {b:Int} (h:0≤b) (h2:b < 32):XD 224 b=224+b:=by
 obtain ⟨n,rfl⟩:=Int.eq_ofNat_of_zero_le h;have:=ks (m:=224) (b:=n) (by decide) (by omega)
 have h3:∀ n:Fin 32,224 ||| n.1=224+n.1:=by decide
 have h4:=h3 ⟨n,by omega⟩
 simp only at h4;rw [h4] at this;have e:((224:Nat):Int)=224:=rfl
 rw [e] at this;rw [this];omega
theorem Wz {b:Int} (h:0≤b) (h2:b < 16):XD 240 b=240+b:=by
 obtain ⟨n,rfl⟩:=Int.eq_ofNat_of_zero_le h;have:=ks (m:=240) (b:=n) (by decide) (by omega)
 have h3:∀ n:Fin 16,240 ||| n.1=240+n.1:=by decide
 have h4:=h3 ⟨n,by omega⟩
 simp only at h4;rw [h4] at this;have e:((240:Nat):Int)=240:=rfl
 rw [e] at this;rw [this];omega
theorem yW {n:Int} (h:0≤n) (h2:n≤255):IntKind.u8.wrap n=n:=by
 show n % (2 ^ 8:Int)=n
 omega
theorem ED {n:Int} (h:0≤n) (h2:n≤4294967295):IntKind.u32.wrap n=n:=by
 show n % (2 ^ 32:Int)=n
 omega
theorem EZ {n:Int} (h:0≤n) (h2:n≤2147483647):IntKind.i32.wrap n=n:=by
 rw [IntKind.wrap_i32];omega
theorem Oy {a b:Int} (h:0≤b) (h2:b < 32):Ow .shr .i32 a b=some (.int .i32 (a / 2 ^ b.toNat)):=by
 have e:min b.toNat IntKind.i32.bits=b.toNat:=by show min b.toNat 32=_;omega
 simp only [Ow,e];rw [if_neg (by omega),Int.fdiv_eq_ediv_of_nonneg _ (Int.pow_nonneg (by decide))]
def Q6 (a b:Int):Int:=IntKind.u8.wrap ((BitVec.ofInt 8 a ||| BitVec.ofInt 8 b).toNat:Nat)
def Ug (a b:Int):Int:=IntKind.u8.wrap ((BitVec.ofInt 8 a &&& BitVec.ofInt 8 b).toNat:Nat)
theorem K8 {a b:Int}:IntKind.u8.wrap ((BitVec.ofInt IntKind.u8.bits a ||| BitVec.ofInt IntKind.u8.bits b).toNat:Nat)=Q6 a b:=rfl
theorem Gb {a b:Int}:IntKind.u8.wrap ((BitVec.ofInt IntKind.u8.bits a &&& BitVec.ofInt IntKind.u8.bits b).toNat:Nat)=Ug a b:=rfl
theorem sE {m b:Nat} (hm:m < 256) (hb:b < 256):Q6 m b=((m ||| b:Nat):Int):=by
 unfold Q6;have e:∀ n:Nat,n < 256→(BitVec.ofInt 8 (n:Int)).toNat=n:=fun n hn=>by
  rw [BitVec.toNat_ofInt];have:((n:Int) % ((2 ^ 8:Nat):Int)).toNat=n:=by omega
  exact this
 rw [BitVec.toNat_or,e m hm,e b hb];have:m ||| b < 2 ^ 8:=Nat.or_lt_two_pow hm hb
 exact yW (by omega) (by omega)
theorem Po {b:Int} (h:0≤b) (h2:b < 64):Q6 128 b=128+b:=by
 obtain ⟨n,rfl⟩:=Int.eq_ofNat_of_zero_le h;have h5:=ks (m:=128) (b:=n) (by decide) (by omega)
 have h6:=sE (m:=128) (b:=n) (by decide) (by omega)
 exact (h6.trans h5.symm).trans (Wh h h2)
theorem O4 {b:Int} (h:0≤b) (h2:b < 64):Q6 192 b=192+b:=by
 obtain ⟨n,rfl⟩:=Int.eq_ofNat_of_zero_le h;have h5:=ks (m:=192) (b:=n) (by decide) (by omega)
 have h6:=sE (m:=192) (b:=n) (by decide) (by omega)
 exact (h6.trans h5.symm).trans (W5 h h2)
theorem OP {b:Int} (h:0≤b) (h2:b < 32):Q6 224 b=224+b:=by
 obtain ⟨n,rfl⟩:=Int.eq_ofNat_of_zero_le h;have h5:=ks (m:=224) (b:=n) (by decide) (by omega)
 have h6:=sE (m:=224) (b:=n) (by decide) (by omega)
 exact (h6.trans h5.symm).trans (We h h2)
theorem PA {b:Int} (h:0≤b) (h2:b < 16):Q6 240 b=240+b:=by
 obtain ⟨n,rfl⟩:=Int.eq_ofNat_of_zero_le h;have h5:=ks (m:=240) (b:=n) (by decide) (by omega)
 have h6:=sE (m:=240) (b:=n) (by decide) (by omega)
 exact (h6.trans h5.symm).trans (Wz h h2)
theorem OK {a:Int}:Ug (IntKind.u8.wrap a) 63=a % 64:=by
 unfold Ug;have e1:(BitVec.ofInt 8 (IntKind.u8.wrap a)).toNat=(a % 256).toNat:=by
  show (BitVec.ofInt 8 (a % (2 ^ 8:Int))).toNat=_
  rw [BitVec.toNat_ofInt];have:((a % (2 ^ 8:Int)) % ((2 ^ 8:Nat):Int)).toNat=(a % 256).toNat:=by omega
  exact this
 have e2:(BitVec.ofInt 8 (63:Int)).toNat=2 ^ 6 - 1:=rfl
 rw [BitVec.toNat_and,e1,e2,Nat.and_two_pow_sub_one_eq_mod];rw [yW (by omega) (by omega)];omega
def kf (c:Int):Bool:=decide (c=44∨c=91∨c=93∨c=123∨c=125)
def eK (c:Int):Bool:=kD c && !blankI c && !(c == 10) && !(c == 13) && !(c == 65279) && !kf c
def cr (c:Int):Bool:=decide ((48≤c∧c≤57)∨(97≤c∧c≤122)∨(65≤c∧c≤90)∨c=45)
def iN (c:Int):Int:=if 48≤c∧c≤57 then c - 48 else if 97≤c∧c≤102 then c - 97+10 else if 65≤c∧c≤70 then c - 65+10 else -1
theorem NV (c:Int):-1≤iN c∧iN c≤15:=by unfold iN;(repeat' split)<;>omega
theorem zv {l:List Int}{c:Int}{k:Nat} (h:k < l.length) (e:l.getD k 0=c):c∈l:=by
 rw [← e,List.getD_eq_getElem?_getD,List.getElem?_eq_getElem h];exact List.getElem_mem h
theorem pt {l:List Int}{c:Int} (h:∀ j,j < l.length→¬l.getD j 0=c):¬c∈l:=by
 intro hm;obtain ⟨j,hj,e⟩:=List.getElem_of_mem hm;refine h j hj ?_;rw [List.getD_eq_getElem?_getD,List.getElem?_eq_getElem hj];exact e
theorem IJ {s:ByteArray} (hs:aJ s=[44,91,93,123,125]) (c:Int):decide (c∈aJ s)=kf c:=by
 rw [hs,Bool.eq_iff_iff,decide_eq_true_eq];simp [kf]
class Hold (σ:List Res) (b:Nat) (i:outParam Nat) (cs:outParam (List AV)):Prop where
 get:σ[i]? = some (.obj b cs)
instance (priority:=low) Hold.there {σ:List Res} {b i:Nat} {cs:List AV} {r:Res} [h:Hold σ b i cs]:Hold (r::σ) b (i+1) cs:=⟨by simpa using h.get⟩
instance Hold.here {σ:List Res} {b:Nat} {cs:List AV}:Hold (.obj b cs::σ) b 0 cs:=⟨rfl⟩
class HasTip (σ:List Res) (tk:Option (Nat × Nat)) (i:outParam Nat):Prop where
 get:σ[i]? = some (.tip tk)
instance (priority:=low) HasTip.there {σ:List Res} {tk:Option (Nat × Nat)} {i:Nat} {r:Res} [h:HasTip σ tk i]:HasTip (r::σ) tk (i+1):=⟨by simpa using h.get⟩
instance HasTip.here {σ:List Res} {tk:Option (Nat × Nat)}:HasTip (.tip tk::σ) tk 0:=⟨rfl⟩
class TOne (P:Program) (t:TypeId):Prop where
 ag:aggT P t=some false
 sz:dj P t=some 1
class TAgg (P:Program) (t:TypeId) (n:outParam Nat):Prop where
 ag:aggT P t=some true
 sz:dj P t=some n
class TZr (P:Program) (t:TypeId) (z:outParam Value):Prop where
 zr:dP P t=some z
class TSl (P:Program) (t:TypeId) (e:outParam TypeId) (sz by_:outParam Nat) (z:outParam Value):Prop where
 sl:jg P t=some e
 hz:dj P e=some sz
 by':mg P e=some by_
 zr:dP P e=some z
 pos:0 < sz
 one:z.cells.size=sz
class TPl (P:Program) (t:TypeId) (pl:outParam (List (Nat × Nat))):Prop where
 pl:kL P t=some pl
class TAr (P:Program) (t:TypeId) (n:outParam Nat) (e:outParam TypeId) (sz:outParam Nat):Prop where
 ar:Y2 P t=some (n,e)
 hz:dj P e=some sz
class TIn (P:Program) (t:TypeId) (k:outParam IntKind):Prop where
 int:mo P t=some k
class TStr (P:Program) (t:TypeId):Prop where
 str:isStr P t=true
class Good (l:List AV):Prop where
 ok:cY l=true
theorem H8 {a b:List AV} (h1:cY a=true) (h2:cY b=true):cY (a++b)=true:=by
 simp only [cY,List.all_append,Bool.and_eq_true] at *;exact ⟨h1,h2⟩
theorem RH (l:List Int):cY (l.map fun n=>(.raw (.int .i64 n):AV))=true:=by
 simp [cY,AV.cells,iL,Value.oneCell']
instance {l:List Int}:Good (l.map I):=⟨RH l⟩
instance {a b:List AV} [ha:Good a] [hb:Good b]:Good (a++b):=⟨H8 ha.ok hb.ok⟩
def Cn (sz:Nat) (xs:List AV):Bool:=xs.all fun x=>x.cells.length == sz
theorem uc {sz:Nat}{xs:List AV} (h:Cn sz xs=true):∀ x∈xs,x.cells.length=sz:=fun x hx=>by simpa using List.all_eq_true.1 h x hx
theorem ax {a b:Prop} (h:a:=by first|omega|exact ⟨_,rfl⟩|(focus (simp;done))|(simp;omega)) (hb:b):a∧b:=⟨h,hb⟩
section
variable {κ:Ctx} {dm:Bool} {P:Program} {all rest:List Oper} {Q:Exit→St→Prop} {d:Option Tmp} {t:List AV} {σ:List Res} {fr:Bool} {df:List Deferred}
theorem au {ty b k i:Nat}{cs:List AV}{x:AV} [ha:TOne P ty] [h:Hold σ b i cs] (hc:cs[k]? = some x:=by with_unfolding_all rfl) (hK:dw κ dm P all Q d rest ⟨t,σ,fr,df⟩ x σ):cu κ dm P all Q d rest ⟨t,σ,fr,df⟩ (.load ty) [.raw (.pointer (some ⟨b,k,none⟩))] :=
 iZ (H1 i h.get ha.ag hc iY) hK
theorem aA {ty b k i n:Nat}{cs:List AV} [ha:TAgg P ty n] [h:Hold σ b i cs] (hn:k+n≤cs.length:=by first|decide|(focus (simp;done))|omega) (hK:dw κ dm P all Q d rest ⟨t,σ,fr,df⟩ (.agg ((cs.drop k).take n)) σ):cu κ dm P all Q d rest ⟨t,σ,fr,df⟩ (.load ty) [.raw (.pointer (some ⟨b,k,none⟩))] :=
 iZ (yD i h.get ha.ag ha.sz hn iY) hK
theorem aP {ty b k i:Nat}{cs:List AV}{x:AV} [ha:TOne P ty] [h:Hold σ b i cs] (hk:k < cs.length:=by first|decide|(focus (simp;done))|omega) (h1:iL x=true:=by with_unfolding_all rfl) (hK:dw κ false P all Q d rest ⟨t,σ,fr,df⟩ .any (σ.set i (.obj b (cs.set k x)))):yh κ false P all Q d rest ⟨t,σ,fr,df⟩ ty (.raw (.pointer (some ⟨b,k,none⟩))) x :=
 wa (F3 i h.get ha.sz hk h1 hK)
theorem az {ty b k i n:Nat}{cs xs:List AV} [ha:TAgg P ty n] [h:Hold σ b i cs] (hx:xs.length=n:=by with_unfolding_all rfl) (hn:k+n≤cs.length:=by first|decide|(focus (simp;done))|omega) (h1:xs.all iL=true:=by with_unfolding_all rfl) (hK:dw κ false P all Q d rest ⟨t,σ,fr,df⟩ .any (σ.set i (.obj b (setCells cs k xs)))):yh κ false P all Q d rest ⟨t,σ,fr,df⟩ ty (.raw (.pointer (some ⟨b,k,none⟩))) (.agg xs) :=
 wa (vo i h.get (by rw [hx];exact ha.sz) (by rw [hx];exact hn) h1 hK)
theorem aQ {ty:TypeId}{x:AV} (h1:x.cells.all iL=true:=by with_unfolding_all rfl) (hK:∀ b,dw κ false P all Q d rest ⟨t,σ,fr,df⟩ (.raw (.pointer (some ⟨b,0,none⟩))) (.obj b x.cells::σ)):cu κ false P all Q d rest ⟨t,σ,fr,df⟩ (.box ty) [x] :=
 cl (Og h1 hK)
theorem aV {ty:TypeId}{z:Value} [hz:TZr P ty z] (h1:(rU z).cells.all iL=true:=by with_unfolding_all rfl) (hK:∀ b,dw κ false P all Q d rest ⟨t,σ,fr,df⟩ (.raw (.pointer (some ⟨b,0,none⟩))) (.obj b (rU z).cells::σ)):cu κ false P all Q d rest ⟨t,σ,fr,df⟩ (.new ty) [] :=
 cl (OX hz.zr h1 hK)
theorem UO {ty e:TypeId}{sz by_:Nat}{z:Value}{y:AV} [hs:TSl P ty e sz by_ z] (hK:cu κ false P all Q d rest ⟨t,.tip none::σ,fr,df⟩ (.append ty) [.sl sz (some none) [],y]):cu κ false P all Q d rest ⟨t,σ,fr,df⟩ (.append ty) [nilS,y] :=
 cl (uK hs.pos hK)
theorem cX {ty e:TypeId}{sz by_ i:Nat}{z:Value}{tk:Option (Nat × Nat)}{l1 l2:List AV}{o2:Option (Option (Nat × Nat))} [hs:TSl P ty e sz by_ z] [h:HasTip σ tk i]
  (hg:cY l2=true:=by first|exact Good.ok|with_unfolding_all rfl|(focus (simp [cY,iL,AV.cells];done))) (hlen:(l1.length+l2.length) * by_≤140737488355328) (hmax:l1.length+l2.length≤maxLen)
  (hK:∀ tk',dw κ false P all Q d rest ⟨t,σ,fr,df⟩ (.sl sz (some tk') (l1++l2)) (σ.set i (.tip tk'))):cu κ false P all Q d rest ⟨t,σ,fr,df⟩ (.append ty) [.sl sz (some tk) l1,.sl sz o2 l2] :=
 cl (Cx i h.get hs.sl hs.hz hs.by' hs.zr hs.one hg hlen hmax hK)
theorem TF {ty e:TypeId}{sz by_:Nat}{z:Value} [hs:TSl P ty e sz by_ z] (hK:∀ b,dw κ false P all Q d rest ⟨t,σ,fr,df⟩ (.sl sz (some (some (b,0))) []) (.tip (some (b,0))::σ)):cu κ false P all Q d rest ⟨t,σ,fr,df⟩ (.bslice ty 0 []) [] :=
 cl (r4 hs.sl hs.hz hs.pos hK)
theorem dp {ty e:TypeId}{n sz by_:Nat}{z:Value}{ix:List Nat}{xs:List AV} [hs:TSl P ty e sz by_ z] (hn:0 < n:=by decide) (hsm:n * sz≤16777216:=by decide) (hix:ix=List.range n:=by with_unfolding_all rfl) (hlen:xs.length=n:=by with_unfolding_all rfl)
  (hg:cY xs=true:=by first|exact Good.ok|with_unfolding_all rfl|(focus (simp [cY,iL,AV.cells];done))) (hc:Cn sz xs=true:=by with_unfolding_all rfl)
  (hK:dw κ dm P all Q d rest ⟨t,σ,fr,df⟩ (.sl sz none xs) σ):cu κ dm P all Q d rest ⟨t,σ,fr,df⟩ (.bslice ty n ix) xs :=
 GV hs.sl hs.hz hs.zr hs.pos hn hsm hix hlen hg (uc hc) hK
theorem XC {ty e:TypeId}{n sz by_:Nat}{z:Value}{ix:List Nat}{xs:List AV} [hs:TSl P ty e sz by_ z] (hn:0 < n:=by decide) (hsm:n * sz≤16777216:=by decide) (hix:ix=List.range n:=by with_unfolding_all rfl) (hlen:xs.length=n:=by with_unfolding_all rfl)
  (hg:cY xs=true:=by first|exact Good.ok|with_unfolding_all rfl|(focus (simp [cY,iL,AV.cells];done))) (hc:Cn sz xs=true:=by with_unfolding_all rfl)
  (hK:∀ b,dw κ false P all Q d rest ⟨t,σ,fr,df⟩ (.sl sz (some (some (b,n * sz))) xs) (.tip (some (b,n * sz))::σ)):cu κ false P all Q d rest ⟨t,σ,fr,df⟩ (.bslice ty n ix) xs :=
 cl (ng hs.sl hs.hz hs.zr hs.pos hn hsm hix hlen hg (uc hc) hK)
theorem aI {ty:TypeId}{ix:List Nat}{xs cs:List AV}{z:Value}{pl:List (Nat × Nat)} [hp:TPl P ty pl] [hz:TZr P ty z] (hz1:(rU z).cells.all iL=true:=by with_unfolding_all rfl) (hb:mH pl (rU z).cells (ix.zip xs)=some cs:=by with_unfolding_all rfl) (hK:dw κ dm P all Q d rest ⟨t,σ,fr,df⟩ (.agg cs) σ):cu κ dm P all Q d rest ⟨t,σ,fr,df⟩ (.build ty ix) xs :=
 LC hp.pl hz.zr hz1 hb hK
theorem sy {s dd e:TypeId}{sz by_:Nat}{z:Value}{own:Option (Option (Nat × Nat))}{l:List Int} [hs:TSl P s e sz by_ z] [he:TIn P e .u8] [hd:TStr P dd] (hK:dw κ dm P all Q d rest ⟨t,σ,fr,df⟩ (.raw (.string (strOfNums l))) σ):cu κ dm P all Q d rest ⟨t,σ,fr,df⟩ (.conv s dd) [.sl 1 own (l.map U8)] :=
 iZ (vF hs.sl he.int hd.str iY) hK
theorem EU {s dd e:TypeId}{sz by_:Nat}{z:Value}{x:ByteArray} [hs:TStr P s] [hd:TSl P dd e sz by_ z] [he:TIn P e .u8] (hx:x.size≤maxLen) (hK:dw κ dm P all Q d rest ⟨t,σ,fr,df⟩ (SU none (aJ x)) σ):cu κ dm P all Q d rest ⟨t,σ,fr,df⟩ (.conv s dd) [.raw (.string x)] :=
 iZ (vp hs.str hd.sl he.int hx iY) hK
theorem mS {ts:Array TypeId}{ty:TypeId}{k:IntKind}{a b:Int} (hK:dw κ dm P all Q d rest ⟨t,σ,fr,df⟩ (.raw (.int k (max a b))) σ):cu κ dm P all Q d rest ⟨t,σ,fr,df⟩ (.minmax true ts ty) [.raw (.int k a),.raw (.int k b)]:=iZ (Ld iY) hK
theorem Fk {ts:Array TypeId}{ty:TypeId}{k:IntKind}{a b:Int} (hK:dw κ dm P all Q d rest ⟨t,σ,fr,df⟩ (.raw (.int k (min a b))) σ):cu κ dm P all Q d rest ⟨t,σ,fr,df⟩ (.minmax false ts ty) [.raw (.int k a),.raw (.int k b)]:=iZ (K7 iY) hK
theorem VF {t':List AV}{l:List AV}{v:Bool} (h:0 < l.length:=by simp;omega) (hK:dw κ dm P all Q d rest ⟨t',σ,fr,df⟩ (B v) σ):vZ κ dm P all Q d rest ⟨t',σ,fr,df⟩ l v:=GJ h hK
theorem dT {ty b k i:Nat}{cs:List AV}{x:AV} [ha:TOne P ty] [h:Hold σ b i cs] (hc:cs[k]? = some x:=by with_unfolding_all rfl):gM P κ σ ty (.raw (.pointer (some ⟨b,k,none⟩))) x:=zm i h.get ha.ag hc
theorem bn {ty b k i n:Nat}{cs:List AV} [ha:TAgg P ty n] [h:Hold σ b i cs] (hn:k+n≤cs.length:=by first|decide|(focus (simp;done))|omega):gM P κ σ ty (.raw (.pointer (some ⟨b,k,none⟩))) (.agg ((cs.drop k).take n)):=Bf i h.get ha.ag ha.sz hn
end
/-! ### Rows under one name -/
theorem wN {α β:Type}{f:α→β}{l:List α}{n:Nat}:(l.map f).take n=(l.take n).map f:=List.map_take.symm
theorem wO {α β:Type}{f:α→β}{l:List α}{n:Nat}:(l.map f).drop n=(l.drop n).map f:=List.map_drop.symm
theorem WM:type_of% (And.intro @List.toList_toArray.{0} <| And.intro @List.set_cons_succ.{0} <| And.intro @List.set_cons_zero.{0} <| And.intro @List.getD_cons_succ.{0} <| And.intro @List.getD_cons_zero.{0} <| And.intro @List.getElem?_cons_succ.{0} <| And.intro @List.getElem?_cons_zero.{0} <| And.intro @List.length_cons.{0} <| And.intro @List.length_nil.{0} <| And.intro @List.replicate_succ.{0} <| And.intro @List.replicate_zero.{0} <| And.intro @List.cons_append.{0} <| And.intro @List.nil_append.{0} <| And.intro @List.append_nil.{0} <| And.intro @List.map_cons.{0,0} <| And.intro @List.map_nil.{0,0} <| And.intro @Option.bind_some.{0,0} <| And.intro @Option.map_some.{0,0} <| And.intro @Option.map_none.{0,0} <| And.intro @List.drop_succ_cons.{0} <| And.intro @List.drop_zero.{0} <| And.intro @List.take_succ_cons.{0} <| And.intro @List.take_zero.{0} <| And.intro @wN <| And.intro @wO <| And.intro @List.take_length.{0} <| And.intro @Nat.zero_lt_succ <| And.intro @Option.isSome_some.{0} <| And.intro @Option.isSome_none.{0} <| And.intro @Int.toNat_natCast <| And.intro @List.length_map.{0,0} <| And.intro @Nat.le_refl <| And.intro @Option.some.injEq.{0} <| And.intro @exists_eq_left'.{1} <| And.intro @Nat.add_right_cancel_iff <| And.intro @List.take_nil.{0} @List.drop_nil.{0}) :=
 ⟨@List.toList_toArray.{0},@List.set_cons_succ.{0},@List.set_cons_zero.{0},@List.getD_cons_succ.{0},@List.getD_cons_zero.{0},@List.getElem?_cons_succ.{0},@List.getElem?_cons_zero.{0},@List.length_cons.{0},@List.length_nil.{0},@List.replicate_succ.{0},@List.replicate_zero.{0},@List.cons_append.{0},@List.nil_append.{0},@List.append_nil.{0},@List.map_cons.{0,0},@List.map_nil.{0,0},@Option.bind_some.{0,0},@Option.map_some.{0,0},@Option.map_none.{0,0},@List.drop_succ_cons.{0},@List.drop_zero.{0},@List.take_succ_cons.{0},@List.take_zero.{0},@wN,@wO,@List.take_length.{0},@Nat.zero_lt_succ,@Option.isSome_some.{0},@Option.isSome_none.{0},@Int.toNat_natCast,@List.length_map.{0,0},@Nat.le_refl,@Option.some.injEq.{0},@exists_eq_left'.{1},@Nat.add_right_cancel_iff,@List.take_nil.{0},@List.drop_nil.{0}⟩
theorem aU:type_of% (And.intro @List.length_append.{0} <| And.intro @List.length_map.{0,0} <| And.intro @List.length_cons.{0} <| And.intro @List.length_nil.{0} <| And.intro @List.length_drop.{0} <| And.intro @List.length_take.{0} @List.length_replicate.{0}) :=
 ⟨@List.length_append.{0},@List.length_map.{0,0},@List.length_cons.{0},@List.length_nil.{0},@List.length_drop.{0},@List.length_take.{0},@List.length_replicate.{0}⟩
theorem bf:type_of% (And.intro @beq_iff_eq.{0} <| And.intro @beq_eq_false_iff_ne.{0} <| And.intro @bne_iff_ne.{0} <| And.intro @bne_eq_false_iff_eq.{0} <| And.intro @decide_eq_true_eq <| And.intro @decide_eq_false_iff_not <| And.intro @Bool.not_eq_true' <| And.intro @Bool.not_eq_false' <| And.intro @Int.not_lt <| And.intro @Int.not_le <| And.intro @gt_iff_lt.{0} <| And.intro @ge_iff_le.{0} @Decidable.not_not) :=
 ⟨@beq_iff_eq.{0},@beq_eq_false_iff_ne.{0},@bne_iff_ne.{0},@bne_eq_false_iff_eq.{0},@decide_eq_true_eq,@decide_eq_false_iff_not,@Bool.not_eq_true',@Bool.not_eq_false',@Int.not_lt,@Int.not_le,@gt_iff_lt.{0},@ge_iff_le.{0},@Decidable.not_not⟩
theorem fC:type_of% @fieldAddrC_cp:=@fieldAddrC_cp
theorem fR:type_of% @fieldAddrC_raw:=@fieldAddrC_raw
theorem fA:type_of% @fieldC_agg:=@fieldC_agg
theorem cI:type_of% @convC_int:=@convC_int
theorem cD:type_of% @callD_mk:=@callD_mk
theorem cQ:type_of% @callD_q:=@callD_q
open Go.RowKit
theorem Rel.letgo {κ:Ctx}{g:Nat→Nat}{r:Res}{ρ:List Res}{w w':World}{c:Nat} (h:Rel κ g (r::ρ) w) (H:GE g w g w')
  (hos:w'.os=w.os) (htape:w'.tape=w.tape) (hout:w'.output=w.output) (hsize:w'.heap.size=w.heap.size)
  (hsame:∀ b,b≠c→w'.heap[b]? = w.heap[b]?) (hc:r.block=some c):Rel κ g ρ w':=by
 have hnd:=h.nodup
 rw [pB hc] at hnd;have hn:∀ x∈ρ,∀ b,x.block=some b→b≠c:=by
  intro x hx b hxb e;subst e;exact (List.nodup_cons.1 hnd).1 (List.mem_filterMap.2 ⟨x,hx,hxb⟩)
 obtain ⟨hB,hlt⟩:=h.bnd r (by simp) c hc;refine ⟨h.below.trans ⟨hos,htape,hout,by omega,fun k hk=>hsame k (by omega)⟩,by rw [hsize];exact h.hB,(List.nodup_cons.1 hnd).2, ?_, ?_, ?_⟩
 ·intro x hx b hxb
  rw [hsize];exact h.bnd x (by simp [hx]) b hxb
 ·intro x hx
  exact Res.holds_keep H (fun b hxb=>hsame _ (hn x hx b hxb)) (fun _ _=>rfl) (h.holds x (by simp [hx]))
 ·intro b hb'
  rw [hsize] at hb';exact h.new b hb'
theorem JR {κ:Ctx}{P:Program}{σ:List Res}{K:AV→List Res→Prop}{t e:TypeId}{sz b n:Nat}{l:List AV} (i:Nat) (h:σ[i]? = some (.tip (some (b,n)))) (ht:jg P t=some e) (he:mo P e=some .u8) (hl:0 < l.length)
  (hK:K (.sl sz none l) (σ.eraseIdx i)):AAct κ P (.conv t t) [.sl sz (some (some (b,n))) l] σ K:=by
 intro φ g w vs hR hvs;obtain ⟨v,rfl,hu⟩:=jU hvs;have hsl:=aR ht
 have hint:=iE he
 have hR2:Rel κ g (.tip (some (b,n))::(φ++σ.eraseIdx i)) w:=hR.perm (c6 (dE h))
 obtain ⟨hg,arr,ty,hb⟩:=hR2.holds (.tip (some (b,n))) (by simp);rcases hu.sl_inv with ⟨h0,_⟩|⟨b',off,cap,rfl,hcap,hmax,hpos,hc,hel,hgg,ho⟩
 ·rw [h0] at hl;simp at hl
 ·have hbb:b'=b:=by
   have:=(ho _ rfl).1
   simp at this;exact this.1.symm
  subst hbb;have hlt:b' < w.heap.size:=(hR2.bnd (.tip (some (b',n))) (by simp) b' rfl).2
  have hget:w.heap[b']=.cells arr ty (0,0):=by
   rw [Array.getElem?_eq_getElem hlt] at hb;exact Option.some.inj hb
  have hmod:∀ (f:Obj→Obj) (k:Nat),(w.heap.modify b' f)[k]? = if b'=k then (w.heap[k]?).map f else w.heap[k]?:=by
   intro f k;by_cases e:b'=k
   ·subst e
    simp [Array.getElem?_modify]
   ·simp [Array.getElem?_modify,e]
  have hcell:∀ x,(w.freeze ⟨b',arr.size,none⟩ 1).cell? x=w.cell? x:=by
   intro x;simp only [World.cell?,World.freeze];rw [if_neg (by decide)];simp only [hmod];by_cases e:b'=x.block
   ·rw [if_pos e,← e,hb];simp
   ·rw [if_neg e]
  have hsame:∀ k,k≠b'→(w.freeze ⟨b',arr.size,none⟩ 1).heap[k]? = w.heap[k]?:=by
   intro k hk;simp only [World.freeze];rw [if_neg (by decide)];simp only [hmod];rw [if_neg (fun e=>hk e.symm)]
  have hlen:∀ k,bu (w.freeze ⟨b',arr.size,none⟩ 1) k=bu w k:=by
   intro k;by_cases e:k=b'
   ·subst e
    simp only [bu,World.freeze];rw [if_neg (by decide)];simp only [hmod,if_true,hb];simp
   ·simp only [bu];rw [hsame k e]
  have H:GE g w g (w.freeze ⟨b',arr.size,none⟩ 1):=⟨by simp [World.freeze],fun _=>Nat.le_refl _,fun k o _=>hcell _,fun k=>by rw [hlen];exact Nat.le_refl _⟩
  refine ⟨.slice (some ⟨b',off,none⟩) l.length cap,w.freeze ⟨b',arr.size,none⟩ 1,g,.sl sz none l,σ.eraseIdx i, ?_, ?_,H, ?_,hK⟩
  ·have hsh:w.shape? b'=some (ty,arr.size):=by simp [World.shape?,hb]
   show (convert t t (.slice (some ⟨b',off,none⟩) l.length cap)).run P w=_
   simp [convert,run_underlying hsl,run_underlying hint,markStringish,hsh]
  ·exact hR2.letgo H rfl rfl rfl (by simp [World.freeze]) hsame rfl
  ·exact VR.sl_mk rfl hcap hmax hpos hc (fun i x k y hx hy=>by
    obtain ⟨u,a1,a2⟩:=hel i x k y hx hy;exact ⟨u,by rw [hcell];exact a1,a2.mono H⟩) hgg (fun t ht=>by cases ht)
section
variable {κ:Ctx} {P:Program} {all rest:List Oper} {Q:Exit→St→Prop} {d:Option Tmp} {t:List AV} {σ:List Res} {fr:Bool} {df:List Deferred}
theorem Rf {ty e:TypeId}{sz by_ i b n sz':Nat}{z:Value}{l:List AV} [hs:TSl P ty e sz' by_ z] [he:TIn P e .u8] [h:HasTip σ (some (b,n)) i] (hl:0 < l.length:=by first|decide|(focus (simp;done))|omega)
  (hK:dw κ false P all Q d rest ⟨t,σ,fr,df⟩ (.sl sz none l) (σ.eraseIdx i)):cu κ false P all Q d rest ⟨t,σ,fr,df⟩ (.conv ty ty) [.sl sz (some (some (b,n))) l] :=
 cl (JR i h.get hs.sl he.int hl hK)
end
end Go.Abs
namespace Go.Proofs.YthkabaiamcjdbaaGreat
open Go.Abs
theorem zr2:dP Tryz.prog 2=some (.int .i64 0):=by kernel_rfl
theorem in2:mo Tryz.prog 2=some .i64:=by kernel_rfl
theorem Il:dj Tryz.prog 3=some 1:=by kernel_rfl
theorem Ut:aggT Tryz.prog 3=some false:=by kernel_rfl
theorem UU:dP Tryz.prog 3=some (.int .i64 0):=by kernel_rfl
theorem XM:mg Tryz.prog 3=some 8:=by kernel_rfl
theorem z7:mo Tryz.prog 3=some .i64:=by kernel_rfl
theorem Y8:dj Tryz.prog 4=some 1:=by kernel_rfl
theorem Yn:aggT Tryz.prog 4=some false:=by kernel_rfl
theorem Zb:dP Tryz.prog 4=some (.bool false):=by kernel_rfl
theorem Z6:mg Tryz.prog 4=some 1:=by kernel_rfl
theorem Z1:Tryz.prog.underlying 4=some .bool:=by kernel_rfl
theorem Yo:dj Tryz.prog 5=some 1:=by kernel_rfl
theorem ZS:aggT Tryz.prog 5=some false:=by kernel_rfl
theorem Yl:dP Tryz.prog 5=some (.int .u8 0):=by kernel_rfl
theorem Zx:mg Tryz.prog 5=some 1:=by kernel_rfl
theorem W9:mo Tryz.prog 5=some .u8:=by kernel_rfl
theorem zr8:dP Tryz.prog 8=some (.agg #[(.int .i64 0),(.int .i64 0),(.bool false),(.int .u8 0)]):=by kernel_rfl
theorem pl8:kL Tryz.prog 8=some [(0,1),(1,1),(2,1),(3,1)]:=by kernel_rfl
theorem Zf:dj Tryz.prog 9=some 1:=by kernel_rfl
theorem QP:aggT Tryz.prog 9=some false:=by kernel_rfl
theorem ZC:dP Tryz.prog 9=some (.string ByteArray.empty):=by kernel_rfl
theorem ZZ:mg Tryz.prog 9=some 16:=by kernel_rfl
theorem UV:isStr Tryz.prog 9=true:=by kernel_rfl
theorem YO:dP Tryz.prog 21=some (.int .i32 0):=by kernel_rfl
theorem Uc:mo Tryz.prog 21=some .i32:=by kernel_rfl
theorem Ps:dj Tryz.prog 22=some 1:=by kernel_rfl
theorem TQ:aggT Tryz.prog 22=some false:=by kernel_rfl
theorem Od:dP Tryz.prog 22=some (.slice none 0 0):=by kernel_rfl
theorem vn:jg Tryz.prog 22=some 3:=by kernel_rfl
theorem UK:mg Tryz.prog 22=some 24:=by kernel_rfl
theorem Zy:dj Tryz.prog 23=some 1:=by kernel_rfl
theorem YR:aggT Tryz.prog 23=some false:=by kernel_rfl
theorem Zp:dP Tryz.prog 23=some .nilFunc:=by kernel_rfl
theorem QX:dj Tryz.prog 24=some 1:=by kernel_rfl
theorem RF:aggT Tryz.prog 24=some false:=by kernel_rfl
theorem RG:dP Tryz.prog 24=some (.slice none 0 0):=by kernel_rfl
theorem UE:jg Tryz.prog 24=some 26:=by kernel_rfl
theorem Xh:mg Tryz.prog 24=some 24:=by kernel_rfl
theorem Y4:dP Tryz.prog 25=some (.agg #[(.int .i64 0),(.string ByteArray.empty),(.string ByteArray.empty),(.string ByteArray.empty),(.int .i64 0),(.bool false)]):=by kernel_rfl
theorem ZL:kL Tryz.prog 25=some [(0,1),(1,1),(2,1),(3,1),(4,1),(5,1)]:=by kernel_rfl
theorem Nz:dj Tryz.prog 26=some 6:=by kernel_rfl
theorem UG:aggT Tryz.prog 26=some true:=by kernel_rfl
theorem PD:dP Tryz.prog 26=some (.agg #[(.int .i64 0),(.string ByteArray.empty),(.string ByteArray.empty),(.string ByteArray.empty),(.int .i64 0),(.bool false)]):=by kernel_rfl
theorem RO:mg Tryz.prog 26=some 72:=by kernel_rfl
theorem q6:cH Tryz.prog 26 0=some (0,3):=by kernel_rfl
theorem H9:cH Tryz.prog 26 1=some (1,9):=by kernel_rfl
theorem lH:cH Tryz.prog 26 2=some (2,9):=by kernel_rfl
theorem xX:cH Tryz.prog 26 3=some (3,9):=by kernel_rfl
theorem CU:cH Tryz.prog 26 4=some (4,3):=by kernel_rfl
theorem xW:cH Tryz.prog 26 5=some (5,4):=by kernel_rfl
theorem Uz:kL Tryz.prog 26=some [(0,1),(1,1),(2,1),(3,1),(4,1),(5,1)]:=by kernel_rfl
theorem Yy:dj Tryz.prog 27=some 1:=by kernel_rfl
theorem Zk:aggT Tryz.prog 27=some false:=by kernel_rfl
theorem Zu:dP Tryz.prog 27=some .nilFunc:=by kernel_rfl
theorem Sz:dj Tryz.prog 28=some 1:=by kernel_rfl
theorem Rs:aggT Tryz.prog 28=some false:=by kernel_rfl
theorem Q8:dP Tryz.prog 28=some (.int .i64 0):=by kernel_rfl
theorem Wj:mg Tryz.prog 28=some 8:=by kernel_rfl
theorem U9:mo Tryz.prog 28=some .i64:=by kernel_rfl
theorem YD:dj Tryz.prog 30=some 1:=by kernel_rfl
theorem Zs:aggT Tryz.prog 30=some false:=by kernel_rfl
theorem Yz:dP Tryz.prog 30=some .nilFunc:=by kernel_rfl
theorem RX:dj Tryz.prog 31=some 1:=by kernel_rfl
theorem T6:aggT Tryz.prog 31=some false:=by kernel_rfl
theorem UN:dP Tryz.prog 31=some (.slice none 0 0):=by kernel_rfl
theorem Ry:jg Tryz.prog 31=some 51:=by kernel_rfl
theorem Ya:mg Tryz.prog 31=some 24:=by kernel_rfl
theorem UZ:mo Tryz.prog 41=some .u64:=by kernel_rfl
theorem ZK:dj Tryz.prog 42=some 1:=by kernel_rfl
theorem Zq:aggT Tryz.prog 42=some false:=by kernel_rfl
theorem YU:dP Tryz.prog 42=some .nilFunc:=by kernel_rfl
theorem ZR:dj Tryz.prog 43=some 1:=by kernel_rfl
theorem ZB:aggT Tryz.prog 43=some false:=by kernel_rfl
theorem ZF:dP Tryz.prog 50=some (.agg #[(.int .i64 0),(.slice none 0 0)]):=by kernel_rfl
theorem YP:kL Tryz.prog 50=some [(0,1),(1,1)]:=by kernel_rfl
theorem OA:dj Tryz.prog 51=some 2:=by kernel_rfl
theorem RS:aggT Tryz.prog 51=some true:=by kernel_rfl
theorem Pm:dP Tryz.prog 51=some (.agg #[(.int .i64 0),(.slice none 0 0)]):=by kernel_rfl
theorem Rk:mg Tryz.prog 51=some 32:=by kernel_rfl
theorem db:cH Tryz.prog 51 0=some (0,3):=by kernel_rfl
theorem c9:cH Tryz.prog 51 1=some (1,22):=by kernel_rfl
theorem Ss:kL Tryz.prog 51=some [(0,1),(1,1)]:=by kernel_rfl
theorem YL:dj Tryz.prog 52=some 1:=by kernel_rfl
theorem Zd:aggT Tryz.prog 52=some false:=by kernel_rfl
theorem YH:dP Tryz.prog 52=some (.pointer none):=by kernel_rfl
theorem SK:dj Tryz.prog 53=some 1:=by kernel_rfl
theorem S6:aggT Tryz.prog 53=some false:=by kernel_rfl
theorem X6:dP Tryz.prog 53=some (.pointer none):=by kernel_rfl
theorem Xs:mg Tryz.prog 53=some 8:=by kernel_rfl
theorem XW:Ys Tryz.prog 53=some 77:=by kernel_rfl
theorem VM:dj Tryz.prog 56=some 1:=by kernel_rfl
theorem V4:aggT Tryz.prog 56=some true:=by kernel_rfl
theorem W4:dP Tryz.prog 56=some (.agg #[(.slice none 0 0)]):=by kernel_rfl
theorem W8:mg Tryz.prog 56=some 24:=by kernel_rfl
theorem gW:cH Tryz.prog 56 0=some (0,22):=by kernel_rfl
theorem XH:kL Tryz.prog 56=some [(0,1)]:=by kernel_rfl
theorem YV:kL Tryz.prog 57=some [(0,1),(1,1),(2,1),(3,1)]:=by kernel_rfl
theorem YM:dj Tryz.prog 58=some 4:=by kernel_rfl
theorem ZH:aggT Tryz.prog 58=some true:=by kernel_rfl
theorem ZW:dP Tryz.prog 58=some (.agg #[(.slice none 0 0),(.pointer none),(.slice none 0 0),(.slice none 0 0)]):=by kernel_rfl
theorem gL:cH Tryz.prog 58 0=some (0,31):=by kernel_rfl
theorem gq:cH Tryz.prog 58 1=some (1,53):=by kernel_rfl
theorem lX:cH Tryz.prog 58 2=some (2,56):=by kernel_rfl
theorem o4:cH Tryz.prog 58 3=some (3,24):=by kernel_rfl
theorem ZT:kL Tryz.prog 58=some [(0,1),(1,1),(2,1),(3,1)]:=by kernel_rfl
theorem Tr:dj Tryz.prog 63=some 1:=by kernel_rfl
theorem RU:aggT Tryz.prog 63=some false:=by kernel_rfl
theorem Sa:dP Tryz.prog 63=some (.slice none 0 0):=by kernel_rfl
theorem S0:jg Tryz.prog 63=some 5:=by kernel_rfl
theorem WI:mg Tryz.prog 63=some 24:=by kernel_rfl
theorem Zz:dj Tryz.prog 68=some 1:=by kernel_rfl
theorem Yx:aggT Tryz.prog 68=some false:=by kernel_rfl
theorem Zn:dP Tryz.prog 68=some .nilFunc:=by kernel_rfl
theorem ZD:dj Tryz.prog 69=some 1:=by kernel_rfl
theorem ZO:aggT Tryz.prog 69=some false:=by kernel_rfl
theorem Za:kL Tryz.prog 70=some [(0,1),(1,1),(2,1)]:=by kernel_rfl
theorem ZE:dj Tryz.prog 71=some 3:=by kernel_rfl
theorem ZG:aggT Tryz.prog 71=some true:=by kernel_rfl
theorem Y0:dP Tryz.prog 71=some (.agg #[(.slice none 0 0),(.int .i64 0),(.slice none 0 0)]):=by kernel_rfl
theorem dY:cH Tryz.prog 71 0=some (0,31):=by kernel_rfl
theorem dX:cH Tryz.prog 71 1=some (1,3):=by kernel_rfl
theorem lG:cH Tryz.prog 71 2=some (2,24):=by kernel_rfl
theorem YE:kL Tryz.prog 71=some [(0,1),(1,1),(2,1)]:=by kernel_rfl
theorem Zm:kL Tryz.prog 76=some [(0,1)]:=by kernel_rfl
theorem Yt:dj Tryz.prog 77=some 1:=by kernel_rfl
theorem YS:aggT Tryz.prog 77=some true:=by kernel_rfl
theorem Zt:dP Tryz.prog 77=some (.agg #[(.slice none 0 0)]):=by kernel_rfl
theorem nh:cH Tryz.prog 77 0=some (0,31):=by kernel_rfl
theorem YW:kL Tryz.prog 77=some [(0,1)]:=by kernel_rfl
theorem YG:dP Tryz.prog 78=some (.agg #[(.int .i64 0)]):=by kernel_rfl
theorem Zi:kL Tryz.prog 78=some [(0,1)]:=by kernel_rfl
theorem YA:dj Tryz.prog 79=some 1:=by kernel_rfl
theorem Zh:aggT Tryz.prog 79=some true:=by kernel_rfl
theorem ZJ:dP Tryz.prog 79=some (.agg #[(.int .i64 0)]):=by kernel_rfl
theorem S5:cH Tryz.prog 79 0=some (0,28):=by kernel_rfl
theorem YY:kL Tryz.prog 79=some [(0,1)]:=by kernel_rfl
theorem Zc:kL Tryz.prog 96=some [(0,1),(1,1),(2,1)]:=by kernel_rfl
theorem ZI:dj Tryz.prog 97=some 3:=by kernel_rfl
theorem Zw:aggT Tryz.prog 97=some true:=by kernel_rfl
theorem YJ:dP Tryz.prog 97=some (.agg #[(.int .i64 0),(.bool false),(.bool false)]):=by kernel_rfl
theorem ya:cH Tryz.prog 97 0=some (0,3):=by kernel_rfl
theorem tR:cH Tryz.prog 97 1=some (1,4):=by kernel_rfl
theorem UQ:cH Tryz.prog 97 2=some (2,4):=by kernel_rfl
theorem ZP:kL Tryz.prog 97=some [(0,1),(1,1),(2,1)]:=by kernel_rfl
theorem ZN:dP Tryz.prog 98=some (.agg #[(.string ByteArray.empty),(.string ByteArray.empty)]):=by kernel_rfl
theorem YC:kL Tryz.prog 98=some [(0,1),(1,1)]:=by kernel_rfl
theorem Zg:dj Tryz.prog 99=some 2:=by kernel_rfl
theorem YB:aggT Tryz.prog 99=some true:=by kernel_rfl
theorem Zj:dP Tryz.prog 99=some (.agg #[(.string ByteArray.empty),(.string ByteArray.empty)]):=by kernel_rfl
theorem oN:cH Tryz.prog 99 0=some (0,9):=by kernel_rfl
theorem oX:cH Tryz.prog 99 1=some (1,9):=by kernel_rfl
theorem Y1:kL Tryz.prog 99=some [(0,1),(1,1)]:=by kernel_rfl
theorem VK:dj Tryz.prog 105=some 1:=by kernel_rfl
theorem WH:aggT Tryz.prog 105=some false:=by kernel_rfl
theorem VN:dP Tryz.prog 105=some (.pointer none):=by kernel_rfl
theorem K3:dj Tryz.prog 106=some 1:=by kernel_rfl
theorem Jo:aggT Tryz.prog 106=some false:=by kernel_rfl
theorem PK:dP Tryz.prog 106=some (.map none):=by kernel_rfl
theorem QM:mg Tryz.prog 106=some 8:=by kernel_rfl
theorem WO:kL Tryz.prog 107=some [(0,1)]:=by kernel_rfl
theorem Xf:dj Tryz.prog 108=some 1:=by kernel_rfl
theorem WN:aggT Tryz.prog 108=some true:=by kernel_rfl
theorem Wa:dP Tryz.prog 108=some (.agg #[(.map none)]):=by kernel_rfl
theorem iC:cH Tryz.prog 108 0=some (0,106):=by kernel_rfl
theorem VA:kL Tryz.prog 108=some [(0,1)]:=by kernel_rfl
theorem XV:dj Tryz.prog 127=some 1:=by kernel_rfl
theorem VU:aggT Tryz.prog 127=some false:=by kernel_rfl
theorem Wf:dP Tryz.prog 127=some .nilFunc:=by kernel_rfl
theorem Xi:dj Tryz.prog 128=some 1:=by kernel_rfl
theorem Xz:aggT Tryz.prog 128=some false:=by kernel_rfl
theorem Yg:dP Tryz.prog 128=some (.pointer none):=by kernel_rfl
theorem Vz:dP Tryz.prog 130=some (.agg #[(.int .i64 0),(.int .i64 0)]):=by kernel_rfl
theorem Xn:kL Tryz.prog 130=some [(0,1),(1,1)]:=by kernel_rfl
theorem zA:dj Tryz.prog 131=some 2:=by kernel_rfl
theorem BY:aggT Tryz.prog 131=some true:=by kernel_rfl
theorem Jp:dP Tryz.prog 131=some (.agg #[(.int .i64 0),(.int .i64 0)]):=by kernel_rfl
theorem P8:mg Tryz.prog 131=some 16:=by kernel_rfl
theorem dR:cH Tryz.prog 131 0=some (0,3):=by kernel_rfl
theorem fa:cH Tryz.prog 131 1=some (1,3):=by kernel_rfl
theorem Jc:kL Tryz.prog 131=some [(0,1),(1,1)]:=by kernel_rfl
theorem WQ:dP Tryz.prog 132=some (.agg #[(.string ByteArray.empty),(.string ByteArray.empty),(.int .i64 0),(.int .i64 0)]):=by kernel_rfl
theorem W6:kL Tryz.prog 132=some [(0,1),(1,1),(2,2)]:=by kernel_rfl
theorem V9:dj Tryz.prog 133=some 4:=by kernel_rfl
theorem Xq:aggT Tryz.prog 133=some true:=by kernel_rfl
theorem VH:dP Tryz.prog 133=some (.agg #[(.string ByteArray.empty),(.string ByteArray.empty),(.int .i64 0),(.int .i64 0)]):=by kernel_rfl
theorem iD:cH Tryz.prog 133 0=some (0,9):=by kernel_rfl
theorem ir:cH Tryz.prog 133 1=some (1,9):=by kernel_rfl
theorem fc:cH Tryz.prog 133 2=some (2,131):=by kernel_rfl
theorem XJ:kL Tryz.prog 133=some [(0,1),(1,1),(2,2)]:=by kernel_rfl
theorem Wi:dP Tryz.prog 134=some (.agg #[(.int .i64 0)]):=by kernel_rfl
theorem WV:kL Tryz.prog 134=some [(0,1)]:=by kernel_rfl
theorem Wm:dj Tryz.prog 135=some 1:=by kernel_rfl
theorem Xj:aggT Tryz.prog 135=some true:=by kernel_rfl
theorem Yd:dP Tryz.prog 135=some (.agg #[(.int .i64 0)]):=by kernel_rfl
theorem FE:cH Tryz.prog 135 0=some (0,28):=by kernel_rfl
theorem X9:kL Tryz.prog 135=some [(0,1)]:=by kernel_rfl
theorem Qs:dj Tryz.prog 157=some 1:=by kernel_rfl
theorem QK:aggT Tryz.prog 157=some true:=by kernel_rfl
theorem P3:dP Tryz.prog 157=some (.agg #[(.slice none 0 0)]):=by kernel_rfl
theorem QS:mg Tryz.prog 157=some 24:=by kernel_rfl
theorem lC:cH Tryz.prog 157 0=some (0,22):=by kernel_rfl
theorem PW:kL Tryz.prog 157=some [(0,1)]:=by kernel_rfl
theorem XQ:kL Tryz.prog 158=some [(0,1),(1,1),(2,1),(3,1),(4,1),(5,1)]:=by kernel_rfl
theorem X2:dj Tryz.prog 159=some 6:=by kernel_rfl
theorem WW:aggT Tryz.prog 159=some true:=by kernel_rfl
theorem XU:dP Tryz.prog 159=some (.agg #[(.slice none 0 0),(.int .i64 0),(.bool false),(.int .i64 0),(.slice none 0 0),(.slice none 0 0)]):=by kernel_rfl
theorem gO:cH Tryz.prog 159 0=some (0,31):=by kernel_rfl
theorem yz:cH Tryz.prog 159 1=some (1,3):=by kernel_rfl
theorem Pg:cH Tryz.prog 159 2=some (2,4):=by kernel_rfl
theorem yS:cH Tryz.prog 159 3=some (3,3):=by kernel_rfl
theorem sN:cH Tryz.prog 159 4=some (4,157):=by kernel_rfl
theorem gi:cH Tryz.prog 159 5=some (5,24):=by kernel_rfl
theorem XY:kL Tryz.prog 159=some [(0,1),(1,1),(2,1),(3,1),(4,1),(5,1)]:=by kernel_rfl
theorem XN:dP Tryz.prog 164=some (.agg #[(.bool false),(.int .i64 0),(.int .i64 0)]):=by kernel_rfl
theorem X1:kL Tryz.prog 164=some [(0,1),(1,1),(2,1)]:=by kernel_rfl
theorem Wd:dj Tryz.prog 165=some 3:=by kernel_rfl
theorem WS:aggT Tryz.prog 165=some true:=by kernel_rfl
theorem W3:dP Tryz.prog 165=some (.agg #[(.bool false),(.int .i64 0),(.int .i64 0)]):=by kernel_rfl
theorem yZ:cH Tryz.prog 165 0=some (0,4):=by kernel_rfl
theorem se:cH Tryz.prog 165 1=some (1,3):=by kernel_rfl
theorem yT:cH Tryz.prog 165 2=some (2,3):=by kernel_rfl
theorem Wq:kL Tryz.prog 165=some [(0,1),(1,1),(2,1)]:=by kernel_rfl
theorem Wl:dP Tryz.prog 181=some (.agg #[(.int .i64 0),(.int .i64 0),(.bool false)]):=by kernel_rfl
theorem Yh:kL Tryz.prog 181=some [(0,2),(2,1)]:=by kernel_rfl
theorem V0:dj Tryz.prog 182=some 3:=by kernel_rfl
theorem Wr:aggT Tryz.prog 182=some true:=by kernel_rfl
theorem Yj:dP Tryz.prog 182=some (.agg #[(.int .i64 0),(.int .i64 0),(.bool false)]):=by kernel_rfl
theorem fE:cH Tryz.prog 182 0=some (0,131):=by kernel_rfl
theorem O9:cH Tryz.prog 182 1=some (2,4):=by kernel_rfl
theorem Xo:kL Tryz.prog 182=some [(0,2),(2,1)]:=by kernel_rfl
theorem V6:dj Tryz.prog 190=some 1:=by kernel_rfl
theorem XE:aggT Tryz.prog 190=some false:=by kernel_rfl
theorem WD:dP Tryz.prog 190=some .nilFunc:=by kernel_rfl
theorem JH:dj Tryz.prog 191=some 1:=by kernel_rfl
theorem JN:aggT Tryz.prog 191=some false:=by kernel_rfl
theorem LF:dP Tryz.prog 191=some (.slice none 0 0):=by kernel_rfl
theorem KC:jg Tryz.prog 191=some 22:=by kernel_rfl
theorem QO:mg Tryz.prog 191=some 24:=by kernel_rfl
theorem QL:mo Tryz.prog 224=some .u32:=by kernel_rfl
theorem Lo:dj Tryz.prog 226=some 1:=by kernel_rfl
theorem Jk:aggT Tryz.prog 226=some false:=by kernel_rfl
theorem LV:dP Tryz.prog 226=some (.slice none 0 0):=by kernel_rfl
theorem L3:jg Tryz.prog 226=some 229:=by kernel_rfl
theorem QC:mg Tryz.prog 226=some 24:=by kernel_rfl
theorem L9:dj Tryz.prog 227=some 1:=by kernel_rfl
theorem Jz:aggT Tryz.prog 227=some false:=by kernel_rfl
theorem KB:dP Tryz.prog 227=some (.slice none 0 0):=by kernel_rfl
theorem Jt:jg Tryz.prog 227=some 245:=by kernel_rfl
theorem P0:mg Tryz.prog 227=some 24:=by kernel_rfl
theorem Ww:dP Tryz.prog 228=some (.agg #[(.slice none 0 0),(.bool false)]):=by kernel_rfl
theorem VQ:kL Tryz.prog 228=some [(0,1),(1,1)]:=by kernel_rfl
theorem D0:dj Tryz.prog 229=some 2:=by kernel_rfl
theorem IQ:aggT Tryz.prog 229=some true:=by kernel_rfl
theorem Fz:dP Tryz.prog 229=some (.agg #[(.slice none 0 0),(.bool false)]):=by kernel_rfl
theorem M5:mg Tryz.prog 229=some 32:=by kernel_rfl
theorem lV:cH Tryz.prog 229 0=some (0,227):=by kernel_rfl
theorem nM:cH Tryz.prog 229 1=some (1,4):=by kernel_rfl
theorem Jf:kL Tryz.prog 229=some [(0,1),(1,1)]:=by kernel_rfl
theorem Vk:dP Tryz.prog 244=some (.agg #[(.int .i64 0),(.bool false)]):=by kernel_rfl
theorem VE:kL Tryz.prog 244=some [(0,1),(1,1)]:=by kernel_rfl
theorem EM:dj Tryz.prog 245=some 2:=by kernel_rfl
theorem JY:aggT Tryz.prog 245=some true:=by kernel_rfl
theorem EE:dP Tryz.prog 245=some (.agg #[(.int .i64 0),(.bool false)]):=by kernel_rfl
theorem Jw:mg Tryz.prog 245=some 16:=by kernel_rfl
theorem sv:cH Tryz.prog 245 0=some (0,3):=by kernel_rfl
theorem x6:cH Tryz.prog 245 1=some (1,4):=by kernel_rfl
theorem Ik:kL Tryz.prog 245=some [(0,1),(1,1)]:=by kernel_rfl
theorem T3:type_of% (And.intro Il (And.intro Ut (And.intro UU (And.intro XM (z7))))):=And.intro Il (And.intro Ut (And.intro UU (And.intro XM (z7))))
theorem T4:type_of% (And.intro Y8 (And.intro Yn (And.intro Zb (And.intro Z6 (Z1))))):=And.intro Y8 (And.intro Yn (And.intro Zb (And.intro Z6 (Z1))))
theorem T5:type_of% (And.intro Yo (And.intro ZS (And.intro Yl (And.intro Zx (W9))))):=And.intro Yo (And.intro ZS (And.intro Yl (And.intro Zx (W9))))
theorem T9:type_of% (And.intro Zf (And.intro QP (And.intro ZC (And.intro ZZ (UV))))):=And.intro Zf (And.intro QP (And.intro ZC (And.intro ZZ (UV))))
theorem cb:type_of% (And.intro Ps (And.intro TQ (And.intro Od (And.intro vn (UK))))):=And.intro Ps (And.intro TQ (And.intro Od (And.intro vn (UK))))
theorem mf:type_of% (And.intro QX (And.intro RF (And.intro RG (And.intro UE (Xh))))):=And.intro QX (And.intro RF (And.intro RG (And.intro UE (Xh))))
theorem Z5:type_of% (And.intro Nz (And.intro UG (And.intro PD (And.intro RO (And.intro q6 (And.intro H9 (And.intro lH (And.intro xX (And.intro CU (And.intro xW (Uz))))))))))):=And.intro Nz (And.intro UG (And.intro PD (And.intro RO (And.intro q6 (And.intro H9 (And.intro lH (And.intro xX (And.intro CU (And.intro xW (Uz))))))))))
theorem Yv:type_of% (And.intro Sz (And.intro Rs (And.intro Q8 (And.intro Wj (U9))))):=And.intro Sz (And.intro Rs (And.intro Q8 (And.intro Wj (U9))))
theorem gg:type_of% (And.intro RX (And.intro T6 (And.intro UN (And.intro Ry (Ya))))):=And.intro RX (And.intro T6 (And.intro UN (And.intro Ry (Ya))))
theorem jm:type_of% (And.intro OA (And.intro RS (And.intro Pm (And.intro Rk (And.intro db (And.intro c9 (Ss))))))):=And.intro OA (And.intro RS (And.intro Pm (And.intro Rk (And.intro db (And.intro c9 (Ss))))))
theorem DO:type_of% (And.intro SK (And.intro S6 (And.intro X6 (And.intro Xs (XW))))):=And.intro SK (And.intro S6 (And.intro X6 (And.intro Xs (XW))))
theorem OO:type_of% (And.intro VM (And.intro V4 (And.intro W4 (And.intro W8 (And.intro gW (XH)))))):=And.intro VM (And.intro V4 (And.intro W4 (And.intro W8 (And.intro gW (XH)))))
theorem sn:type_of% (And.intro Tr (And.intro RU (And.intro Sa (And.intro S0 (WI))))):=And.intro Tr (And.intro RU (And.intro Sa (And.intro S0 (WI))))
theorem vB:type_of% (And.intro K3 (And.intro Jo (And.intro PK (QM)))):=And.intro K3 (And.intro Jo (And.intro PK (QM)))
theorem ja:type_of% (And.intro zA (And.intro BY (And.intro Jp (And.intro P8 (And.intro dR (And.intro fa (Jc))))))):=And.intro zA (And.intro BY (And.intro Jp (And.intro P8 (And.intro dR (And.intro fa (Jc))))))
theorem NQ:type_of% (And.intro Qs (And.intro QK (And.intro P3 (And.intro QS (And.intro lC (PW)))))):=And.intro Qs (And.intro QK (And.intro P3 (And.intro QS (And.intro lC (PW)))))
theorem js:type_of% (And.intro JH (And.intro JN (And.intro LF (And.intro KC (QO))))):=And.intro JH (And.intro JN (And.intro LF (And.intro KC (QO))))
theorem PC:type_of% (And.intro Lo (And.intro Jk (And.intro LV (And.intro L3 (QC))))):=And.intro Lo (And.intro Jk (And.intro LV (And.intro L3 (QC))))
theorem Ge:type_of% (And.intro L9 (And.intro Jz (And.intro KB (And.intro Jt (P0))))):=And.intro L9 (And.intro Jz (And.intro KB (And.intro Jt (P0))))
theorem Yw:type_of% (And.intro D0 (And.intro IQ (And.intro Fz (And.intro M5 (And.intro lV (And.intro nM (Jf))))))):=And.intro D0 (And.intro IQ (And.intro Fz (And.intro M5 (And.intro lV (And.intro nM (Jf))))))
theorem Sj:type_of% (And.intro EM (And.intro JY (And.intro EE (And.intro Jw (And.intro sv (And.intro x6 (Ik))))))):=And.intro EM (And.intro JY (And.intro EE (And.intro Jw (And.intro sv (And.intro x6 (Ik))))))
instance:TZr Tryz.prog 2 (.int .i64 0):=⟨zr2⟩
instance:TIn Tryz.prog 2 .i64:=⟨in2⟩
instance:TOne Tryz.prog 3:=⟨Ut,Il⟩
instance:TZr Tryz.prog 3 (.int .i64 0):=⟨UU⟩
instance:TIn Tryz.prog 3 .i64:=⟨z7⟩
instance:TOne Tryz.prog 4:=⟨Yn,Y8⟩
instance:TZr Tryz.prog 4 (.bool false):=⟨Zb⟩
instance:TOne Tryz.prog 5:=⟨ZS,Yo⟩
instance:TZr Tryz.prog 5 (.int .u8 0):=⟨Yl⟩
instance:TIn Tryz.prog 5 .u8:=⟨W9⟩
instance:TZr Tryz.prog 8 (.agg #[(.int .i64 0),(.int .i64 0),(.bool false),(.int .u8 0)]):=⟨zr8⟩
instance:TPl Tryz.prog 8 [(0,1),(1,1),(2,1),(3,1)]:=⟨pl8⟩
instance:TOne Tryz.prog 9:=⟨QP,Zf⟩
instance:TZr Tryz.prog 9 (.string ByteArray.empty):=⟨ZC⟩
instance:TStr Tryz.prog 9:=⟨UV⟩
instance:TZr Tryz.prog 21 (.int .i32 0):=⟨YO⟩
instance:TIn Tryz.prog 21 .i32:=⟨Uc⟩
instance:TOne Tryz.prog 22:=⟨TQ,Ps⟩
instance:TZr Tryz.prog 22 (.slice none 0 0):=⟨Od⟩
instance:TSl Tryz.prog 22 3 1 8 (.int .i64 0):=⟨vn,Il,XM,UU,by decide,rfl⟩
instance:TOne Tryz.prog 23:=⟨YR,Zy⟩
instance:TZr Tryz.prog 23 .nilFunc:=⟨Zp⟩
instance:TOne Tryz.prog 24:=⟨RF,QX⟩
instance:TZr Tryz.prog 24 (.slice none 0 0):=⟨RG⟩
instance:TSl Tryz.prog 24 26 6 72 (.agg #[(.int .i64 0),(.string ByteArray.empty),(.string ByteArray.empty),(.string ByteArray.empty),(.int .i64 0),(.bool false)]):=⟨UE,Nz,RO,PD,by decide,rfl⟩
instance:TZr Tryz.prog 25 (.agg #[(.int .i64 0),(.string ByteArray.empty),(.string ByteArray.empty),(.string ByteArray.empty),(.int .i64 0),(.bool false)]):=⟨Y4⟩
instance:TPl Tryz.prog 25 [(0,1),(1,1),(2,1),(3,1),(4,1),(5,1)]:=⟨ZL⟩
instance:TAgg Tryz.prog 26 6:=⟨UG,Nz⟩
instance:TZr Tryz.prog 26 (.agg #[(.int .i64 0),(.string ByteArray.empty),(.string ByteArray.empty),(.string ByteArray.empty),(.int .i64 0),(.bool false)]):=⟨PD⟩
instance:TPl Tryz.prog 26 [(0,1),(1,1),(2,1),(3,1),(4,1),(5,1)]:=⟨Uz⟩
instance:TOne Tryz.prog 27:=⟨Zk,Yy⟩
instance:TZr Tryz.prog 27 .nilFunc:=⟨Zu⟩
instance:TOne Tryz.prog 28:=⟨Rs,Sz⟩
instance:TZr Tryz.prog 28 (.int .i64 0):=⟨Q8⟩
instance:TOne Tryz.prog 30:=⟨Zs,YD⟩
instance:TZr Tryz.prog 30 .nilFunc:=⟨Yz⟩
instance:TOne Tryz.prog 31:=⟨T6,RX⟩
instance:TZr Tryz.prog 31 (.slice none 0 0):=⟨UN⟩
instance:TSl Tryz.prog 31 51 2 32 (.agg #[(.int .i64 0),(.slice none 0 0)]):=⟨Ry,OA,Rk,Pm,by decide,rfl⟩
instance:TOne Tryz.prog 42:=⟨Zq,ZK⟩
instance:TZr Tryz.prog 42 .nilFunc:=⟨YU⟩
instance:TOne Tryz.prog 43:=⟨ZB,ZR⟩
instance:TZr Tryz.prog 50 (.agg #[(.int .i64 0),(.slice none 0 0)]):=⟨ZF⟩
instance:TPl Tryz.prog 50 [(0,1),(1,1)]:=⟨YP⟩
instance:TAgg Tryz.prog 51 2:=⟨RS,OA⟩
instance:TZr Tryz.prog 51 (.agg #[(.int .i64 0),(.slice none 0 0)]):=⟨Pm⟩
instance:TPl Tryz.prog 51 [(0,1),(1,1)]:=⟨Ss⟩
instance:TOne Tryz.prog 52:=⟨Zd,YL⟩
instance:TZr Tryz.prog 52 (.pointer none):=⟨YH⟩
instance:TOne Tryz.prog 53:=⟨S6,SK⟩
instance:TPl Tryz.prog 57 [(0,1),(1,1),(2,1),(3,1)]:=⟨YV⟩
instance:TAgg Tryz.prog 58 4:=⟨ZH,YM⟩
instance:TZr Tryz.prog 58 (.agg #[(.slice none 0 0),(.pointer none),(.slice none 0 0),(.slice none 0 0)]):=⟨ZW⟩
instance:TPl Tryz.prog 58 [(0,1),(1,1),(2,1),(3,1)]:=⟨ZT⟩
instance:TOne Tryz.prog 63:=⟨RU,Tr⟩
instance:TZr Tryz.prog 63 (.slice none 0 0):=⟨Sa⟩
instance:TSl Tryz.prog 63 5 1 1 (.int .u8 0):=⟨S0,Yo,Zx,Yl,by decide,rfl⟩
instance:TOne Tryz.prog 68:=⟨Yx,Zz⟩
instance:TZr Tryz.prog 68 .nilFunc:=⟨Zn⟩
instance:TOne Tryz.prog 69:=⟨ZO,ZD⟩
instance:TPl Tryz.prog 70 [(0,1),(1,1),(2,1)]:=⟨Za⟩
instance:TAgg Tryz.prog 71 3:=⟨ZG,ZE⟩
instance:TZr Tryz.prog 71 (.agg #[(.slice none 0 0),(.int .i64 0),(.slice none 0 0)]):=⟨Y0⟩
instance:TPl Tryz.prog 71 [(0,1),(1,1),(2,1)]:=⟨YE⟩
instance:TPl Tryz.prog 76 [(0,1)]:=⟨Zm⟩
instance:TAgg Tryz.prog 77 1:=⟨YS,Yt⟩
instance:TZr Tryz.prog 77 (.agg #[(.slice none 0 0)]):=⟨Zt⟩
instance:TPl Tryz.prog 77 [(0,1)]:=⟨YW⟩
instance:TZr Tryz.prog 78 (.agg #[(.int .i64 0)]):=⟨YG⟩
instance:TPl Tryz.prog 78 [(0,1)]:=⟨Zi⟩
instance:TAgg Tryz.prog 79 1:=⟨Zh,YA⟩
instance:TZr Tryz.prog 79 (.agg #[(.int .i64 0)]):=⟨ZJ⟩
instance:TPl Tryz.prog 79 [(0,1)]:=⟨YY⟩
instance:TPl Tryz.prog 96 [(0,1),(1,1),(2,1)]:=⟨Zc⟩
instance:TAgg Tryz.prog 97 3:=⟨Zw,ZI⟩
instance:TZr Tryz.prog 97 (.agg #[(.int .i64 0),(.bool false),(.bool false)]):=⟨YJ⟩
instance:TPl Tryz.prog 97 [(0,1),(1,1),(2,1)]:=⟨ZP⟩
instance:TZr Tryz.prog 98 (.agg #[(.string ByteArray.empty),(.string ByteArray.empty)]):=⟨ZN⟩
instance:TPl Tryz.prog 98 [(0,1),(1,1)]:=⟨YC⟩
instance:TAgg Tryz.prog 99 2:=⟨YB,Zg⟩
instance:TZr Tryz.prog 99 (.agg #[(.string ByteArray.empty),(.string ByteArray.empty)]):=⟨Zj⟩
instance:TPl Tryz.prog 99 [(0,1),(1,1)]:=⟨Y1⟩
instance:TOne Tryz.prog 105:=⟨WH,VK⟩
instance:TZr Tryz.prog 105 (.pointer none):=⟨VN⟩
instance:TOne Tryz.prog 106:=⟨Jo,K3⟩
instance:TPl Tryz.prog 107 [(0,1)]:=⟨WO⟩
instance:TAgg Tryz.prog 108 1:=⟨WN,Xf⟩
instance:TZr Tryz.prog 108 (.agg #[(.map none)]):=⟨Wa⟩
instance:TPl Tryz.prog 108 [(0,1)]:=⟨VA⟩
instance:TOne Tryz.prog 127:=⟨VU,XV⟩
instance:TZr Tryz.prog 127 .nilFunc:=⟨Wf⟩
instance:TOne Tryz.prog 128:=⟨Xz,Xi⟩
instance:TZr Tryz.prog 128 (.pointer none):=⟨Yg⟩
instance:TZr Tryz.prog 130 (.agg #[(.int .i64 0),(.int .i64 0)]):=⟨Vz⟩
instance:TPl Tryz.prog 130 [(0,1),(1,1)]:=⟨Xn⟩
instance:TAgg Tryz.prog 131 2:=⟨BY,zA⟩
instance:TZr Tryz.prog 131 (.agg #[(.int .i64 0),(.int .i64 0)]):=⟨Jp⟩
instance:TPl Tryz.prog 131 [(0,1),(1,1)]:=⟨Jc⟩
instance:TZr Tryz.prog 132 (.agg #[(.string ByteArray.empty),(.string ByteArray.empty),(.int .i64 0),(.int .i64 0)]):=⟨WQ⟩
instance:TPl Tryz.prog 132 [(0,1),(1,1),(2,2)]:=⟨W6⟩
instance:TAgg Tryz.prog 133 4:=⟨Xq,V9⟩
instance:TZr Tryz.prog 133 (.agg #[(.string ByteArray.empty),(.string ByteArray.empty),(.int .i64 0),(.int .i64 0)]):=⟨VH⟩
instance:TPl Tryz.prog 133 [(0,1),(1,1),(2,2)]:=⟨XJ⟩
instance:TZr Tryz.prog 134 (.agg #[(.int .i64 0)]):=⟨Wi⟩
instance:TPl Tryz.prog 134 [(0,1)]:=⟨WV⟩
instance:TAgg Tryz.prog 135 1:=⟨Xj,Wm⟩
instance:TZr Tryz.prog 135 (.agg #[(.int .i64 0)]):=⟨Yd⟩
instance:TPl Tryz.prog 135 [(0,1)]:=⟨X9⟩
instance:TPl Tryz.prog 158 [(0,1),(1,1),(2,1),(3,1),(4,1),(5,1)]:=⟨XQ⟩
instance:TAgg Tryz.prog 159 6:=⟨WW,X2⟩
instance:TZr Tryz.prog 159 (.agg #[(.slice none 0 0),(.int .i64 0),(.bool false),(.int .i64 0),(.slice none 0 0),(.slice none 0 0)]):=⟨XU⟩
instance:TPl Tryz.prog 159 [(0,1),(1,1),(2,1),(3,1),(4,1),(5,1)]:=⟨XY⟩
instance:TZr Tryz.prog 164 (.agg #[(.bool false),(.int .i64 0),(.int .i64 0)]):=⟨XN⟩
instance:TPl Tryz.prog 164 [(0,1),(1,1),(2,1)]:=⟨X1⟩
instance:TAgg Tryz.prog 165 3:=⟨WS,Wd⟩
instance:TZr Tryz.prog 165 (.agg #[(.bool false),(.int .i64 0),(.int .i64 0)]):=⟨W3⟩
instance:TPl Tryz.prog 165 [(0,1),(1,1),(2,1)]:=⟨Wq⟩
instance:TZr Tryz.prog 181 (.agg #[(.int .i64 0),(.int .i64 0),(.bool false)]):=⟨Wl⟩
instance:TPl Tryz.prog 181 [(0,2),(2,1)]:=⟨Yh⟩
instance:TAgg Tryz.prog 182 3:=⟨Wr,V0⟩
instance:TZr Tryz.prog 182 (.agg #[(.int .i64 0),(.int .i64 0),(.bool false)]):=⟨Yj⟩
instance:TPl Tryz.prog 182 [(0,2),(2,1)]:=⟨Xo⟩
instance:TOne Tryz.prog 190:=⟨XE,V6⟩
instance:TZr Tryz.prog 190 .nilFunc:=⟨WD⟩
instance:TOne Tryz.prog 191:=⟨JN,JH⟩
instance:TZr Tryz.prog 191 (.slice none 0 0):=⟨LF⟩
instance:TSl Tryz.prog 191 22 1 24 (.slice none 0 0):=⟨KC,Ps,UK,Od,by decide,rfl⟩
instance:TOne Tryz.prog 226:=⟨Jk,Lo⟩
instance:TZr Tryz.prog 226 (.slice none 0 0):=⟨LV⟩
instance:TSl Tryz.prog 226 229 2 32 (.agg #[(.slice none 0 0),(.bool false)]):=⟨L3,D0,M5,Fz,by decide,rfl⟩
instance:TOne Tryz.prog 227:=⟨Jz,L9⟩
instance:TZr Tryz.prog 227 (.slice none 0 0):=⟨KB⟩
instance:TSl Tryz.prog 227 245 2 16 (.agg #[(.int .i64 0),(.bool false)]):=⟨Jt,EM,Jw,EE,by decide,rfl⟩
instance:TZr Tryz.prog 228 (.agg #[(.slice none 0 0),(.bool false)]):=⟨Ww⟩
instance:TPl Tryz.prog 228 [(0,1),(1,1)]:=⟨VQ⟩
instance:TAgg Tryz.prog 229 2:=⟨IQ,D0⟩
instance:TZr Tryz.prog 229 (.agg #[(.slice none 0 0),(.bool false)]):=⟨Fz⟩
instance:TPl Tryz.prog 229 [(0,1),(1,1)]:=⟨Jf⟩
instance:TZr Tryz.prog 244 (.agg #[(.int .i64 0),(.bool false)]):=⟨Vk⟩
instance:TPl Tryz.prog 244 [(0,1),(1,1)]:=⟨VE⟩
instance:TAgg Tryz.prog 245 2:=⟨JY,EM⟩
instance:TZr Tryz.prog 245 (.agg #[(.int .i64 0),(.bool false)]):=⟨EE⟩
instance:TPl Tryz.prog 245 [(0,1),(1,1)]:=⟨Ik⟩
theorem xu:ao Tryz.prog 12=True:=bG Tryz.func12
theorem Ez:ao Tryz.prog 13=True:=bG Tryz.func13
theorem XA:ao Tryz.prog 17=True:=bG Tryz.func17
theorem Xd:ao Tryz.prog 18=True:=bG Tryz.func18
theorem Am:ao Tryz.prog 19=True:=bG Tryz.func19
theorem D3:ao Tryz.prog 20=True:=bG Tryz.func20
theorem E8:ao Tryz.prog 21=True:=bG Tryz.func21
theorem P2:ao Tryz.prog 23=True:=bG Tryz.func23
theorem Vv:ao Tryz.prog 24=True:=bG Tryz.func24
theorem WJ:ao Tryz.prog 25=True:=bG Tryz.func25
theorem Wu:ao Tryz.prog 26=True:=bG Tryz.func26
theorem U5:ao Tryz.prog 27=True:=bG Tryz.func27
theorem Qf:ao Tryz.prog 28=True:=bG Tryz.func28
theorem JV:ao Tryz.prog 29=True:=bG Tryz.func29
theorem V1:ao Tryz.prog 30=True:=bG Tryz.func30
theorem WT:ao Tryz.prog 31=True:=bG Tryz.func31
theorem WC:ao Tryz.prog 32=True:=bG Tryz.func32
theorem XK:ao Tryz.prog 34=True:=bG Tryz.func34
theorem P9:ao Tryz.prog 35=True:=bG Tryz.func35
theorem U3:ao Tryz.prog 36=True:=bG Tryz.func36
theorem P5:ao Tryz.prog 37=True:=bG Tryz.func37
theorem PX:ao Tryz.prog 40=True:=bG Tryz.func40
theorem WU:ao Tryz.prog 41=True:=bG Tryz.func41
theorem WK:ao Tryz.prog 42=True:=bG Tryz.func42
theorem QE:ao Tryz.prog 43=True:=bG Tryz.func43
theorem QH:ao Tryz.prog 44=True:=bG Tryz.func44
theorem Vx:ao Tryz.prog 45=True:=bG Tryz.func45
theorem EH:ao Tryz.prog 46=True:=bG Tryz.func46
theorem fN:ao Tryz.prog 47=True:=bG Tryz.func47
theorem Ij:ao Tryz.prog 48=True:=bG Tryz.func48
theorem VD:ao Tryz.prog 49=True:=bG Tryz.func49
theorem gR:ao Tryz.prog 50=True:=bG Tryz.func50
theorem jf:ao Tryz.prog 51=True:=bG Tryz.func51
theorem pj:ao Tryz.prog 52=True:=bG Tryz.func52
theorem IW:ao Tryz.prog 53=True:=bG Tryz.func53
theorem Ew:ao Tryz.prog 54=True:=bG Tryz.func54
theorem B0:ao Tryz.prog 55=True:=bG Tryz.func55
theorem fY:ao Tryz.prog 56=True:=bG Tryz.func56
theorem ou:ao Tryz.prog 57=True:=bG Tryz.func57
theorem Qt:ao Tryz.prog 58=True:=bG Tryz.func58
theorem K6:ao Tryz.prog 59=True:=bG Tryz.func59
theorem kX:ao Tryz.prog 60=True:=bG Tryz.func60
theorem ee:ao Tryz.prog 61=True:=bG Tryz.func61
theorem Bu:ao Tryz.prog 62=True:=bG Tryz.func62
theorem Ql:ao Tryz.prog 63=True:=bG Tryz.func63
theorem j7:ao Tryz.prog 64=True:=bG Tryz.func64
theorem uE:ao Tryz.prog 65=True:=bG Tryz.func65
theorem XZ:ao Tryz.prog 66=True:=bG Tryz.func66
theorem zP:ao Tryz.prog 67=True:=bG Tryz.func67
theorem j5:ao Tryz.prog 68=True:=bG Tryz.func68
theorem EI:ao Tryz.prog 69=True:=bG Tryz.func69
theorem KX:ao Tryz.prog 70=True:=bG Tryz.func70
theorem tT:ao Tryz.prog 71=True:=bG Tryz.func71
theorem fM:ao Tryz.prog 72=True:=bG Tryz.func72
theorem xq:ao Tryz.prog 73=True:=bG Tryz.func73
theorem Wc:ao Tryz.prog 74=True:=bG Tryz.func74
theorem we:ao Tryz.prog 75=True:=bG Tryz.func75
theorem Xe:ao Tryz.prog 76=True:=bG Tryz.func76
theorem zo:ao Tryz.prog 77=True:=bG Tryz.func77
theorem Qw:ao Tryz.prog 78=True:=bG Tryz.func78
theorem mF:ao Tryz.prog 79=True:=bG Tryz.func79
theorem Ep:ao Tryz.prog 80=True:=bG Tryz.func80
theorem A6:ao Tryz.prog 81=True:=bG Tryz.func81
theorem EW:ao Tryz.prog 82=True:=bG Tryz.func82
theorem EK:ao Tryz.prog 83=True:=bG Tryz.func83
theorem tw:ao Tryz.prog 84=True:=bG Tryz.func84
theorem D8:ao Tryz.prog 85=True:=bG Tryz.func85
theorem X3:ao Tryz.prog 86=True:=bG Tryz.func86
theorem kh:ao Tryz.prog 87=True:=bG Tryz.func87
theorem kY:ao Tryz.prog 88=True:=bG Tryz.func88
theorem BC:ao Tryz.prog 89=True:=bG Tryz.func89
theorem Ly:ao Tryz.prog 90=True:=bG Tryz.func90
theorem Qi:ao Tryz.prog 91=True:=bG Tryz.func91
theorem QJ:ao Tryz.prog 92=True:=bG Tryz.func92
theorem Ap:ao Tryz.prog 93=True:=bG Tryz.func93
theorem VP:ao Tryz.prog 94=True:=bG Tryz.func94
theorem Qe:ao Tryz.prog 95=True:=bG Tryz.func95
theorem Qo:ao Tryz.prog 96=True:=bG Tryz.func96
theorem Xa:ao Tryz.prog 97=True:=bG Tryz.func97
theorem XP:ao Tryz.prog 98=True:=bG Tryz.func98
theorem fk:ao Tryz.prog 99=True:=bG Tryz.func99
theorem nc:ao Tryz.prog 100=True:=bG Tryz.func100
theorem sW:ao Tryz.prog 101=True:=bG Tryz.func101
theorem C3:ao Tryz.prog 102=True:=bG Tryz.func102
theorem yM:ao Tryz.prog 103=True:=bG Tryz.func103
theorem KF:ao Tryz.prog 104=True:=bG Tryz.func104
theorem Up:ao Tryz.prog 105=True:=bG Tryz.func105
theorem S2:ao Tryz.prog 106=True:=bG Tryz.func106
theorem T2:ao Tryz.prog 107=True:=bG Tryz.func107
theorem fy:ao Tryz.prog 108=True:=bG Tryz.func108
theorem zc:ao Tryz.prog 109=True:=bG Tryz.func109
theorem jP:ao Tryz.prog 110=True:=bG Tryz.func110
theorem tZ:ao Tryz.prog 111=True:=bG Tryz.func111
theorem Tw:ao Tryz.prog 112=True:=bG Tryz.func112
theorem T0:ao Tryz.prog 113=True:=bG Tryz.func113
theorem iX:ao Tryz.prog 114=True:=bG Tryz.func114
theorem i7:ao Tryz.prog 115=True:=bG Tryz.func115
theorem mi:ao Tryz.prog 116=True:=bG Tryz.func116
theorem mM:ao Tryz.prog 117=True:=bG Tryz.func117
theorem Tk:ao Tryz.prog 118=True:=bG Tryz.func118
theorem jb:ao Tryz.prog 119=True:=bG Tryz.func119
theorem cP:ao Tryz.prog 120=True:=bG Tryz.func120
theorem T8:ao Tryz.prog 121=True:=bG Tryz.func121
theorem tY:ao Tryz.prog 122=True:=bG Tryz.func122
theorem dz:ao Tryz.prog 123=True:=bG Tryz.func123
theorem CY:ao Tryz.prog 124=True:=bG Tryz.func124
theorem DT:ao Tryz.prog 125=True:=bG Tryz.func125
theorem CJ:ao Tryz.prog 126=True:=bG Tryz.func126
theorem Uy:ao Tryz.prog 127=True:=bG Tryz.func127
theorem SM:ao Tryz.prog 128=True:=bG Tryz.func128
theorem RL:ao Tryz.prog 129=True:=bG Tryz.func129
theorem UB:ao Tryz.prog 130=True:=bG Tryz.func130
theorem yv:ao Tryz.prog 131=True:=bG Tryz.func131
theorem Rv:ao Tryz.prog 132=True:=bG Tryz.func132
theorem DF:ao Tryz.prog 133=True:=bG Tryz.func133
theorem Ci:ao Tryz.prog 134=True:=bG Tryz.func134
theorem C0:ao Tryz.prog 135=True:=bG Tryz.func135
theorem mA:ao Tryz.prog 136=True:=bG Tryz.func136
theorem UD:ao Tryz.prog 137=True:=bG Tryz.func137
theorem UC:ao Tryz.prog 138=True:=bG Tryz.func138
theorem Ti:ao Tryz.prog 139=True:=bG Tryz.func139
theorem RD:ao Tryz.prog 142=True:=bG Tryz.func142
theorem yd:ao Tryz.prog 143=True:=bG Tryz.func143
theorem qw:ao Tryz.prog 144=True:=bG Tryz.func144
theorem jF:ao Tryz.prog 145=True:=bG Tryz.func145
theorem gE:ao Tryz.prog 146=True:=bG Tryz.func146
theorem oV:ao Tryz.prog 147=True:=bG Tryz.func147
theorem iV:ao Tryz.prog 148=True:=bG Tryz.func148
theorem Ri:ao Tryz.prog 149=True:=bG Tryz.func149
theorem SD:ao Tryz.prog 150=True:=bG Tryz.func150
theorem oB:ao Tryz.prog 151=True:=bG Tryz.func151
theorem Us:ao Tryz.prog 152=True:=bG Tryz.func152
theorem To:ao Tryz.prog 153=True:=bG Tryz.func153
theorem qy:ao Tryz.prog 154=True:=bG Tryz.func154
theorem Dg:ao Tryz.prog 155=True:=bG Tryz.func155
theorem TM:ao Tryz.prog 156=True:=bG Tryz.func156
theorem Ih:ao Tryz.prog 157=True:=bG Tryz.func157
theorem JK:ao Tryz.prog 158=True:=bG Tryz.func158
theorem oT:ao Tryz.prog 159=True:=bG Tryz.func159
theorem Cg:ao Tryz.prog 160=True:=bG Tryz.func160
theorem RK:ao Tryz.prog 161=True:=bG Tryz.func161
theorem yN:ao Tryz.prog 162=True:=bG Tryz.func162
theorem MM:ao Tryz.prog 163=True:=bG Tryz.func163
theorem ID:ao Tryz.prog 164=True:=bG Tryz.func164
theorem Lr:ao Tryz.prog 165=True:=bG Tryz.func165
theorem TE:ao Tryz.prog 166=True:=bG Tryz.func166
theorem TB:ao Tryz.prog 167=True:=bG Tryz.func167
theorem tW:ao Tryz.prog 170=True:=bG Tryz.func170
theorem JW:ao Tryz.prog 171=True:=bG Tryz.func171
theorem CC:ao Tryz.prog 172=True:=bG Tryz.func172
theorem Rj:ao Tryz.prog 173=True:=bG Tryz.func173
theorem Tp:ao Tryz.prog 174=True:=bG Tryz.func174
theorem M1:ao Tryz.prog 175=True:=bG Tryz.func175
theorem Tq:ao Tryz.prog 176=True:=bG Tryz.func176
theorem qP:ao Tryz.prog 177=True:=bG Tryz.func177
theorem rf:ao Tryz.prog 178=True:=bG Tryz.func178
theorem na:ao Tryz.prog 179=True:=bG Tryz.func179
theorem c8:ao Tryz.prog 180=True:=bG Tryz.func180
theorem dB:ao Tryz.prog 181=True:=bG Tryz.func181
theorem qB:ao Tryz.prog 182=True:=bG Tryz.func182
theorem yA:ao Tryz.prog 183=True:=bG Tryz.func183
theorem Tx:ao Tryz.prog 184=True:=bG Tryz.func184
theorem Nh:ao Tryz.prog 185=True:=bG Tryz.func185
theorem Jr:ao Tryz.prog 186=True:=bG Tryz.func186
theorem UR:ao Tryz.prog 187=True:=bG Tryz.func187
theorem Ud:ao Tryz.prog 188=True:=bG Tryz.func188
theorem IP:ao Tryz.prog 189=True:=bG Tryz.func189
theorem SF:ao Tryz.prog 190=True:=bG Tryz.func190
theorem KJ:ao Tryz.prog 191=True:=bG Tryz.func191
theorem Lh:ao Tryz.prog 192=True:=bG Tryz.func192
theorem Ty:ao Tryz.prog 193=True:=bG Tryz.func193
theorem CA:ao Tryz.prog 194=True:=bG Tryz.func194
theorem LK:ao Tryz.prog 195=True:=bG Tryz.func195
theorem Ts:ao Tryz.prog 196=True:=bG Tryz.func196
theorem Lw:ao Tryz.prog 197=True:=bG Tryz.func197
theorem S1:ao Tryz.prog 198=True:=bG Tryz.func198
theorem Uv:ao Tryz.prog 199=True:=bG Tryz.func199
theorem LP:ao Tryz.prog 200=True:=bG Tryz.func200
theorem La:ao Tryz.prog 201=True:=bG Tryz.func201
theorem SX:ao Tryz.prog 202=True:=bG Tryz.func202
theorem fi:ao Tryz.prog 203=True:=bG Tryz.func203
theorem mq:ao Tryz.prog 204=True:=bG Tryz.func204
theorem qT:ao Tryz.prog 205=True:=bG Tryz.func205
theorem oG:ao Tryz.prog 206=True:=bG Tryz.func206
theorem I5:ao Tryz.prog 207=True:=bG Tryz.func207
theorem S3:ao Tryz.prog 208=True:=bG Tryz.func208
theorem Uf:ao Tryz.prog 209=True:=bG Tryz.func209
theorem RA:ao Tryz.prog 210=True:=bG Tryz.func210
theorem Tf:ao Tryz.prog 211=True:=bG Tryz.func211
theorem JT:ao Tryz.prog 212=True:=bG Tryz.func212
theorem Tv:ao Tryz.prog 213=True:=bG Tryz.func213
theorem Q0:ao Tryz.prog 215=True:=bG Tryz.func215
theorem H2:ao Tryz.prog 216=True:=bG Tryz.func216
theorem T7:ao Tryz.prog 217=True:=bG Tryz.func217
theorem Tu:ao Tryz.prog 218=True:=bG Tryz.func218
theorem SP:ao Tryz.prog 219=True:=bG Tryz.func219
theorem S4:ao Tryz.prog 220=True:=bG Tryz.func220
theorem SH:ao Tryz.prog 221=True:=bG Tryz.func221
theorem Tl:ao Tryz.prog 222=True:=bG Tryz.func222
theorem RJ:ao Tryz.prog 223=True:=bG Tryz.func223
theorem TG:ao Tryz.prog 224=True:=bG Tryz.func224
theorem TO:ao Tryz.prog 225=True:=bG Tryz.func225
theorem RZ:ao Tryz.prog 226=True:=bG Tryz.func226
theorem JS:ao Tryz.prog 227=True:=bG Tryz.func227
theorem Tz:ao Tryz.prog 228=True:=bG Tryz.func228
theorem S7:ao Tryz.prog 229=True:=bG Tryz.func229
theorem mixed:Tryz.prog.follows .mixedOrders=true:=by kernel_rfl
variable {κ:Ctx} {σ:List Res} {K:Ret→List Res→Prop} {o o':Option (Option (Nat × Nat))}
theorem Blank {c:Int} (hK:K (.ret (B (blankI c))) σ):ACallF κ Tryz.prog 72 [I c] σ K:=by
 refine ACallF.dropL (aa Tryz.func72 rfl ?_);simp only [Tryz.ntmps72]
 repeat' (first|simp only [WL,ay,WM,reduceCtorEq,bg,Nat.reduceAdd,Nat.reduceSub,Bool.not_false,true_and,reduceIte,Bool.false_eq_true,Tryz.results72]|((with_reducible first|refine ai (fun h=>?_) (fun h=>?_)|refine ab (fun h=>?_) (fun h=>?_))<;>(try simp only [h])<;>(try simp only [bf,ba] at h)))
 all_goals (refine ak ae (aj (congrArg B ?_)) hK;simp [blankI, *])
 all_goals (rw [Bool.eq_iff_iff];simp)
theorem within {c a b:Int} (hK:K (.ret (B (decide (a≤c∧c≤b)))) σ):ACallF κ Tryz.prog 194 [I c,I a,I b] σ K:=by
 refine ACallF.dropL (aa Tryz.func194 rfl ?_);simp only [Tryz.ntmps194]
 repeat' (first|simp only [WL,ay,WM,reduceCtorEq,bg,Nat.reduceAdd,Nat.reduceSub,Bool.not_true,true_and,reduceIte,Bool.false_eq_true,Tryz.results194]|((with_reducible first|refine ai (fun h=>?_) (fun h=>?_)|refine ab (fun h=>?_) (fun h=>?_))<;>(try simp only [h])<;>(try simp only [bf,ba] at h)))
 all_goals (refine ak ae (aj (congrArg B ?_)) hK;rw [Bool.eq_iff_iff];simp;omega)
theorem QG {c:Int} (hK:K (.ret (B (kD c))) σ):ACallF κ Tryz.prog 165 [I c] σ K:=by
 refine ACallF.dropL (aa Tryz.func165 rfl ?_);simp only [Tryz.ntmps165]
 repeat' (first|simp only [WL,ay,WM,reduceCtorEq,bg,Nat.reduceAdd,Nat.reduceSub,Bool.not_false,true_and,reduceIte,Bool.false_eq_true,CA,Tryz.results165]|with_reducible refine cD (within ?_)|((with_reducible first|refine ai (fun h=>?_) (fun h=>?_)|refine ab (fun h=>?_) (fun h=>?_))<;>(try simp only [h])<;>(try simp only [bf,ba] at h)))
 all_goals (refine ak ae (aj (congrArg B ?_)) hK;rw [Bool.eq_iff_iff];simp only [kD,decide_eq_true_eq,Bool.false_eq_true,false_iff,true_iff,eq_self];omega)
theorem Q3 {c:Int} (hK:K (.ret (B (kD c))) σ):ACallF κ Tryz.prog 41 [I c] σ K:=by
 refine ACallF.dropL (aa Tryz.func41 rfl ?_);simp only [Tryz.ntmps41]
 repeat' (first|simp only [WL,ay,WM,reduceCtorEq,bg,Nat.reduceAdd,Nat.reduceSub,Bool.not_true,Bool.not_false,true_and,reduceIte,Bool.false_eq_true,Tryz.results41]|((with_reducible first|refine ai (fun h=>?_) (fun h=>?_)|refine ab (fun h=>?_) (fun h=>?_))<;>(try simp only [h])<;>(try simp only [bf,ba] at h))|omega)
 all_goals (refine ak ae (aj (congrArg B ?_)) hK;rw [Bool.eq_iff_iff];simp only [kD,decide_eq_true_eq,Bool.false_eq_true,false_iff,true_iff,eq_self];omega)
theorem rest {l:List Int} (hl:l.length≤1000000000) (hK:K (.ret (SI none (l.dropWhile blankI))) σ):ACallF κ Tryz.prog 92 [SI o l] σ K:=by
 refine ACallF.dropL (aa Tryz.func92 rfl ?_);simp only [Tryz.ntmps92]
 repeat' (first|simp only [WL,WM,Nat.reduceAdd,Nat.reduceSub])
 refine bF (fun x:Option (Option (Nat × Nat)) × List Int=>⟨(SI x.1 x.2::.any::.any::.any::.any::.any::.any::.any::.any::.any::.any::.any::.any::.any::.any::[]),σ,true,[]⟩) (fun x=>x.2.dropWhile blankI=l.dropWhile blankI∧x.2.length≤l.length) (fun x=>x.2.length) (o,l) (aq bH id) ⟨rfl,Nat.le_refl _⟩ ?_;rintro ⟨o',l'⟩ ⟨h1,h2⟩;dsimp only at h1 h2 ⊢
 repeat' (first|simp only [WL,ay,WM,Int.reduceToNat,reduceCtorEq,bg,Nat.reduceAdd,Bool.not_true,true_and,reduceIte,Bool.false_eq_true,T3,cb,fM,Tryz.results92]|simp (disch:=first|omega|(simp only [aU];omega)) only [bL]|(with_reducible first|refine ax (hb:=?_)|refine cD (Blank ?_))|((with_reducible first|refine ai (fun h=>?_) (fun h=>?_)|refine ab (fun h=>?_) (fun h=>?_))<;>(try simp only [h])<;>(try simp only [bf,ba] at h)))
 ·refine ⟨(none,l'.drop 1),aq bH id,⟨?_, ?_⟩, ?_⟩
  ·rw [← h1];exact (EJ (by omega) h).symm
  ·simp;omega
  ·simp;omega
 ·exact ak ae (eI (by rw [← h1,Fo (by omega) h];exact le_ro)) hK
 ·exact ak ae (eI (by rw [← h1,List.eq_nil_of_length_eq_zero (l:=l') (by omega)];exact le_ro)) hK
theorem Cr {n:Int}{l:List Int} (hl:l.length≤1000000000) (hK:K (.ret (B (l.all blankI))) σ):ACallF κ Tryz.prog 172 [.agg [I n,SI o l]] σ K:=by
 refine ACallF.dropL (aa Tryz.func172 rfl ?_);simp only [Tryz.ntmps172]
 repeat' (first|simp only [WL,ay,WM,reduceCtorEq,bg,Nat.reduceAdd,Nat.reduceSub,Nat.reduceEqDiff,true_and,cb,fR c9,QJ,Tryz.results172]|(with_reducible first|refine ax (hb:=?_)|refine au (hK:=?_)|refine aQ (hK:=fun b=>?_)|refine cD (rest ?_ ?_))|omega)
 exact ak (ah ae) (aj (congrArg B (by rw [Bool.eq_iff_iff,← qQ];simp))) hK
theorem uJ {n:Int}{l:List Int} (hl:l.length≤1000000000) (hK:K (.ret (B (dW l))) σ):ACallF κ Tryz.prog 71 [.agg [I n,SI o l]] σ K:=by
 refine ACallF.dropL (aa Tryz.func71 rfl ?_);simp only [Tryz.ntmps71]
 repeat' (first|simp only [WL,ay,WM,Int.reduceToNat,reduceCtorEq,bg,Nat.reduceAdd,Nat.reduceSub,Nat.reduceEqDiff,Bool.not_false,true_and,reduceIte,Bool.false_eq_true,T3,cb,fR c9,QJ,Tryz.results71]|simp (disch:=first|omega|(simp only [aU];omega)) only [bL]|(with_reducible first|refine ax (hb:=?_)|refine au (hK:=?_)|refine aQ (hK:=fun b=>?_)|refine cD (rest ?_ ?_))|((with_reducible first|refine ai (fun h=>?_) (fun h=>?_)|refine ab (fun h=>?_) (fun h=>?_))<;>(try simp only [h])<;>(try simp only [bf,ba] at h))|omega)
 ·have h:¬(l.dropWhile blankI).length=0:=by omega
  rw [qQ] at h;exact ak (ah ae) (aj (congrArg B (by simp [dW,h]))) hK
 ·have h:(l.dropWhile blankI).length=0:=by omega
  rw [qQ] at h;exact ak (ah ae) (aj (congrArg B (by simp [dW,h]))) hK
theorem Qh {s:ByteArray}{c:Int} (hs:s.size≤1000000000) (hK:K (.ret (B (decide (c∈aJ s)))) σ):ACallF κ Tryz.prog 191 [.raw (.string s),I c] σ K:=by
 have hl:=bJ s
 refine ACallF.dropL (aa Tryz.func191 rfl ?_);simp only [Tryz.ntmps191]
 repeat' (first|simp only [WL,WM,Nat.reduceAdd,Nat.reduceSub,true_and,nL,sn]|with_reducible refine EU ?_ ?_|(refine bq ?_;(first|omega|(simp only [aU];omega))))
 refine bF (fun k:Nat=>⟨(.raw (.string s)::I c::.any::.any::.any::.any::.any::.any::SU none (aJ s)::I s.size::I k::.any::.any::.any::.any::.any::.any::.any::.any::[]),σ,true,[]⟩) (fun k=>k≤s.size∧∀ j,j < k→¬(aJ s).getD j 0=c) (fun k=>s.size - k) 0 (aq (by simp only [hl];exact bH) id) ⟨Nat.zero_le _,fun j h=>by omega⟩ ?_;rintro k ⟨hk,hb⟩;have hby:k < s.size→0≤(aJ s).getD k 0∧(aJ s).getD k 0≤255:=fun h=>ei s _ (by rw [List.getD_eq_getElem?_getD,List.getElem?_eq_getElem (by omega)];exact List.getElem_mem _)
 repeat' (first|simp only [WL,ay,WM,reduceCtorEq,bg,Nat.reduceAdd,true_and,T5,sn,cI z7,Tryz.results191]|simp (disch:=first|omega|(simp only [aU];omega)) only [an,za]|with_reducible refine ax (hb:=?_)|((with_reducible first|refine ai (fun h=>?_) (fun h=>?_)|refine ab (fun h=>?_) (fun h=>?_))<;>(try simp only [h])<;>(try simp only [bf,ba] at h)))
 ·exact ak ae (aj (congrArg B (decide_eq_true (zv (k:=k) (by omega) (by assumption))).symm)) hK
 ·refine ⟨k+1,aq bH id,⟨by omega,fun j h=>?_⟩,by omega⟩
  rcases Nat.lt_succ_iff_lt_or_eq.1 h with h|rfl
  ·exact hb j h
  ·assumption
 ·exact ak ae (aj (congrArg B (decide_eq_false (pt (fun j hj=>hb j (by omega)))).symm)) hK
theorem Jb {s:ByteArray}{c:Int} (hs:s.size≤1000000000) (hK:K (.ret (B (decide (c∈aJ s)))) σ):ACallF κ Tryz.prog 43 [.raw (.string s),I c] σ K:=by
 have hl:=bJ s
 refine ACallF.dropL (aa Tryz.func43 rfl ?_);simp only [Tryz.ntmps43]
 repeat' (first|simp only [WL,WM,Nat.reduceAdd,Nat.reduceSub])
 refine bF (fun k:Nat=>⟨(.raw (.string s)::I c::.any::.any::.any::I k::.any::.any::.any::.any::.any::.any::.any::.any::.any::.any::.any::.any::[]),σ,true,[]⟩) (fun k=>k≤s.size∧∀ j,j < k→¬(aJ s).getD j 0=c) (fun k=>s.size - k) 0 (aq bH id) ⟨Nat.zero_le _,fun j h=>by omega⟩ ?_;rintro k ⟨hk,hb⟩;have hby:k < s.size→0≤(aJ s).getD k 0∧(aJ s).getD k 0≤255:=fun h=>ei s _ (by rw [List.getD_eq_getElem?_getD,List.getElem?_eq_getElem (by omega)];exact List.getElem_mem _)
 repeat' (first|simp only [WL,ay,WM,ne_eq,reduceCtorEq,not_false_eq_true,true_and,T9,cI z7,Tryz.results43,Y3]|simp (disch:=first|omega|(simp only [aU];omega)) only [an]|with_reducible refine ax (hb:=?_)|((with_reducible first|refine ai (fun h=>?_) (fun h=>?_)|refine ab (fun h=>?_) (fun h=>?_))<;>(try simp only [h])<;>(try simp only [bf,ba] at h)))
 ·exact ak ae (aj (congrArg B (decide_eq_true (zv (k:=k) (by omega) (by assumption))).symm)) hK
 ·refine ⟨k+1,aq bH id,⟨by omega,fun j h=>?_⟩,by omega⟩
  rcases Nat.lt_succ_iff_lt_or_eq.1 h with h|rfl
  ·exact hb j h
  ·assumption
 ·exact ak ae (aj (congrArg B (decide_eq_false (pt (fun j hj=>hb j (by omega)))).symm)) hK
theorem wU {c:Int} (hK:K (.ret (B (kf c))) σ):ACallF κ Tryz.prog 154 [I c] σ K:=by
 refine ACallF.dropL (aa Tryz.func154 rfl ?_);simp only [Tryz.ntmps154]
 repeat' (first|simp only [WL,WM,Nat.reduceAdd,Nat.reduceSub,true_and,KJ,Tryz.results154]|with_reducible refine cD (Qh ?_ ?_))
 ·decide
 ·exact ak ae (aj (congrArg B (IJ (by decide) c))) hK
theorem XI {c:Int} (hK:K (.ret (B (eK c))) σ):ACallF κ Tryz.prog 132 [I c] σ K:=by
 refine ACallF.dropL (aa Tryz.func132 rfl ?_);simp only [Tryz.ntmps132]
 repeat' (first|simp only [WL,ay,WM,reduceCtorEq,bg,Nat.reduceAdd,Nat.reduceSub,Bool.not_true,true_and,reduceIte,Bool.false_eq_true,fM,qy,Lr,Tryz.results132]|(with_reducible first|refine cD (Blank ?_)|refine cD (wU ?_)|refine cD (QG ?_))|((with_reducible first|refine ai (fun h=>?_) (fun h=>?_)|refine ab (fun h=>?_) (fun h=>?_))<;>(try simp only [h])<;>(try simp only [bf,ba] at h)))
 all_goals exact ak ae (aj (congrArg B (by simp [eK, *]))) hK
theorem PJ {c:Int} (hK:K (.ret (B (cr c))) σ):ACallF κ Tryz.prog 195 [I c] σ K:=by
 refine ACallF.dropL (aa Tryz.func195 rfl ?_);simp only [Tryz.ntmps195]
 repeat' (first|simp only [WL,ay,WM,reduceCtorEq,bg,Nat.reduceAdd,Nat.reduceSub,Bool.not_false,true_and,reduceIte,Bool.false_eq_true,CA,Tryz.results195]|with_reducible refine cD (within ?_)|((with_reducible first|refine ai (fun h=>?_) (fun h=>?_)|refine ab (fun h=>?_) (fun h=>?_))<;>(try simp only [h])<;>(try simp only [bf,ba] at h)))
 all_goals (refine ak ae (aj (congrArg B ?_)) hK;rw [Bool.eq_iff_iff];simp only [cr,decide_eq_true_eq,beq_iff_eq,Bool.false_eq_true,false_iff,true_iff,eq_self];omega)
theorem AC {c:Int} (hK:K (.ret (B (cr c))) σ):ACallF κ Tryz.prog 19 [I c] σ K:=by
 refine ACallF.dropL (aa Tryz.func19 rfl ?_);simp only [Tryz.ntmps19]
 repeat' (first|simp only [WL,ay,WM,reduceCtorEq,bg,Nat.reduceAdd,Nat.reduceSub,Bool.not_true,Bool.not_false,true_and,reduceIte,Bool.false_eq_true,Tryz.results19]|((with_reducible first|refine ai (fun h=>?_) (fun h=>?_)|refine ab (fun h=>?_) (fun h=>?_))<;>(try simp only [h])<;>(try simp only [bf,ba] at h))|omega)
 all_goals (refine ak ae (aj (congrArg B ?_)) hK;rw [Bool.eq_iff_iff];simp only [cr,decide_eq_true_eq,beq_iff_eq,Bool.false_eq_true,false_iff,true_iff,eq_self];omega)
theorem Xr {c:Int} (hK:K (.ret (I (iN c))) σ):ACallF κ Tryz.prog 216 [I c] σ K:=by
 refine ACallF.dropL (aa Tryz.func216 rfl ?_);simp only [Tryz.ntmps216]
 repeat' (first|simp only [WL,ay,WM,reduceCtorEq,bg,Nat.reduceAdd,Nat.reduceSub,true_and,CA,Tryz.results216]|simp (disch:=first|omega|(simp only [aU];omega)) only [an]|with_reducible refine cD (within ?_)|((with_reducible first|refine ai (fun h=>?_) (fun h=>?_)|refine ab (fun h=>?_) (fun h=>?_))<;>(try simp only [h])<;>(try simp only [bf,ba] at h)))
 all_goals (refine ak ae (aj (congrArg I ?_)) hK;unfold iN;(repeat' split)<;>omega)
theorem Wx {c:Int} (hK:K (.ret (I (iN c))) σ):ACallF κ Tryz.prog 44 [I c] σ K:=by
 refine ACallF.dropL (aa Tryz.func44 rfl ?_);simp only [Tryz.ntmps44]
 repeat' (first|simp only [WL,ay,WM,reduceCtorEq,bg,Nat.reduceAdd,Nat.reduceSub,Bool.not_true,true_and,reduceIte,Bool.false_eq_true,Tryz.results44]|simp (disch:=first|omega|(simp only [aU];omega)) only [an]|((with_reducible first|refine ai (fun h=>?_) (fun h=>?_)|refine ab (fun h=>?_) (fun h=>?_))<;>(try simp only [h])<;>(try simp only [bf,ba] at h))|omega)
 all_goals (refine ak ae (aj (congrArg I ?_)) hK;unfold iN;(repeat' split)<;>omega)
theorem cZ {n:Int}{l:List Int} (hl:l.length≤1000000000) (hK:K (.ret (I (aZ n l))) σ):ACallF κ Tryz.prog 56 [.agg [I n,SI o l]] σ K:=by
  refine ACallF.dropL (aa Tryz.func56 rfl ?_);simp only [Tryz.ntmps56]
  repeat' (first|simp only [WL,ay,WM,Int.reduceToNat,reduceCtorEq,bg,Nat.reduceAdd,Nat.reduceSub,Nat.reduceEqDiff,Bool.not_true,Bool.not_false,true_and,reduceIte,Bool.false_eq_true,T3,cb,fR db,fR c9,fM,Tryz.results56]|simp (disch:=first|omega|(simp only [aU];omega)) only [bL]|(with_reducible first|refine ax (hb:=?_)|refine au (hK:=?_)|refine aQ (hK:=fun b=>?_)|refine dp (hK:=?_)|refine cD (Blank ?_))|((with_reducible first|refine ai (fun h=>?_) (fun h=>?_)|refine ab (fun h=>?_) (fun h=>?_))<;>(try simp only [h])<;>(try simp only [bf,ba] at h)))
  all_goals first
    | exact ak (ah ae) (aj (congrArg I (zM (by assumption) (by omega)).symm)) hK
    | (refine ak (ah ae) (aj (congrArg I ?_)) hK
       unfold aZ
       repeat' split
       all_goals first|rfl|omega)
    | skip
  all_goals
    refine bF (fun k:Nat=>⟨(.agg [I n,SI o l]::.raw (.pointer (some ⟨b,0,none⟩))::.any::.any::.any::.any::.any::.any::.any::.any::.any::.any::.any::.any::.any::.any::.any::.any::.any::.any::.any::.any::.any::.any::.any::.any::.any::.any::.sl 1 none [I 45,I 46]::I 2::I k::.any::.any::.any::.any::.any::.any::.any::.any::.any::.any::.any::.any::.any::.any::.any::.any::.any::.any::.any::.any::.any::.any::.any::.any::.any::.any::.any::.any::.any::[]),.obj b [I n,SI o l]::σ,true,[]⟩) (fun k=>k≤2∧(1≤k→¬(l.getD 0 0=45∧l.getD 1 0=45∧l.getD 2 0=45))∧(2≤k→¬(l.getD 0 0=46∧l.getD 1 0=46∧l.getD 2 0=46))) (fun k=>2 - k) 0 (aq bH id) ⟨by decide,fun h=>absurd h (by decide),fun h=>absurd h (by decide)⟩ ?_;rintro k ⟨h1,h2,h3⟩;obtain rfl|rfl|rfl:k=0∨k=1∨k=2:=by omega
  repeat' (first|simp only [WL,ay,WM,Int.reduceToNat,reduceCtorEq,bg,Nat.reduceAdd,Nat.reduceSub,Nat.reduceEqDiff,Bool.not_true,true_and,reduceIte,Bool.false_eq_true,T3,cb,fR c9,Tryz.results56]|simp (disch:=first|omega|(simp only [aU];omega)) only [an,bL]|(with_reducible first|refine ax (hb:=?_)|refine au (hK:=?_))|((with_reducible first|refine ai (fun h=>?_) (fun h=>?_)|refine ab (fun h=>?_) (fun h=>?_))<;>(try simp only [h])<;>(try simp only [bf,ba] at h))|omega)
  all_goals first
    | exact ⟨1,aq bH id,⟨by decide,fun _=>by omega,fun h=>by omega⟩,by decide⟩
    | exact ⟨2,aq bH id,⟨by decide,fun _=>by omega,fun h=>by omega⟩,by decide⟩
    | (refine ak (ah ae) (aj (congrArg I ?_)) hK
       unfold aZ
       repeat' split
       all_goals first|rfl|omega)
    | (refine ak (ah ae) (aj (congrArg I ?_)) hK
       unfold aZ;rw [if_pos ⟨by omega,by omega,by omega,by omega,fun _=>by first|assumption|omega⟩]
       first
         | (rw [if_pos (by omega)];rfl)
         | (rw [if_neg (by omega),if_pos (by omega)];rfl))
end Go.Proofs.YthkabaiamcjdbaaGreat
