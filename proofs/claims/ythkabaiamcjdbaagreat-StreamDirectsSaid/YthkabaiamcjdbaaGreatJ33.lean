/-
  Texts Vl, Sy, Te, Vm, one behind the other.
-/
import Derived.Test.YthkabaiamcjdbaaGreatJ31
import Derived.Test.YthkabaiamcjdbaaGreatJ32
set_option linter.unusedVariables false
set_option maxRecDepth 4000
set_option linter.unusedSimpArgs false
set_option maxHeartbeats 16000000
namespace Go.Proofs.YthkabaiamcjdbaaGreat
open Go.Abs
abbrev litOne:ByteArray:={ data:=#[49] }
def kM (x:List Int) (m:MapL) (v:Int):Option (MapL × Int) :=
 if (kB x).2.2.2=false then none
 else if ((kB x).1.toList == litY.toList)=true then (if v+1=1∧((kB x).2.1.toList == litOne.toList)=true then some (m,v+1) else none)
 else if ((kB x).1.toList == litT.toList)=true then (if (cL m (kB x).2.1).isSome=true then none else some (m++[((kB x).2.1,(kB x).2.2.1,m.length)],v))
 else some (m,v)
def kK (ls:List Ln):Nat→Int→MapL→Int→Bool→Except Int (MapL × Int)
  | 0,_,_,_,_=>.error 2
  | f+1,i,m,v,s =>
    if i < ls.length∧CX (aF ls i)=true then
      (match kM (aF ls i).2 m v with
       | none=>.error 2
       | some (m',v')=>kK ls f (dy ls ls.length (i+1)) m' v' true)
    else if s=true∧(i=ls.length∨¬aZ (aF ls i).1 (aF ls i).2=1) then .error 2
    else .ok (m,i)
def iO (ls:List Ln) (i:Int):Except Int (MapL × Int):=kK ls (ls.length+1) i [] 0 false
abbrev NM (m:MapL) (e:EvV):EvV:={ e with t:=(cV m e.t).1 }
def fB (m:MapL) (l:List EvV):Except Int (List EvV):=if l.all (fun e=>(cV m e.t).2 == 0)=true then .ok (l.map (NM m)) else .error 11
abbrev Na (ls:List Ln) (i:Int):Bool:=decide (aZ (aF ls i).1 (aF ls i).2=1)
abbrev Dj (ls:List Ln) (i:Int):Int:=if Na ls i=true then 3 else 0
def mK (ls:List Ln) (i:Int) (m:MapL):Except Int (List EvV × Int × Bool) :=
 match jz ls i (Dj ls i) with
 | .error e=>.error e
 | .ok (ev,k)=>match fB m ev with
  | .error e=>.error e
  | .ok ev' =>
   if k < ls.length∧aZ (aF ls k).1 (aF ls k).2=2 then (if dW ((aF ls k).2.drop 3)=true then .ok (gY (Na ls i) true ev',k+1,true) else .error 2)
   else .ok (gY (Na ls i) false ev',k,false)
def kW (ls:List Ln) (i:Int) (may:Bool):Except Int (List EvV × Int × Bool) :=
 if may=true then (match iO ls i with
  | .error e=>.error e
  | .ok (m,j)=>mK ls j m) else mK ls i []
def MOk (m:MapL):Prop:=∀ e∈m,e.2.1.size≤100000
theorem MOk.nil:MOk []:=fun e he=>by simp at he
theorem IH {l:MapL}{h p:ByteArray} (hl:cL l h=some p):∃ e∈l,e.2.1=p:=by
 induction l with
 | nil=>cases hl
 | cons e l ih =>
  rw [cL] at hl;split at hl
  ·cases hl;exact ⟨e,by simp,rfl⟩
  ·obtain ⟨x,hx,h2⟩:=ih hl
   exact ⟨x,by simp [hx],h2⟩
theorem MOk.pre {m:MapL} (hm:MOk m) (h:ByteArray):(o0 m h).1.size≤1152921504606846976:=by
 unfold o0;split
 ·rename_i p hp
  obtain ⟨e,he,rfl⟩:=IH hp;have:=hm e he
  show e.2.1.size≤_
  omega
 ·have:=vQ h
  omega
theorem vY (l:List Int):(aK l).size≤4 * l.length:=by
 have h1:=mw l
 rwa [← gA,bJ] at h1
theorem IY (x:List Int):(kB x).2.2.1.size≤4 * x.length:=by
 have h0:(zV.2.2.1).size≤4 * x.length:=by show (0:Nat)≤_;omega
 have hd:∀ a b:Nat,(aK ((x.take a).drop b)).size≤4 * x.length:=fun a b=>by
  have h1:=vY ((x.take a).drop b)
  have h2:((x.take a).drop b).length≤x.length:=by rw [List.length_drop,List.length_take];omega
  omega
 unfold kB;split
 ·exact h0
 ·split
  ·split
   ·show (pE x _).2.1.size≤_
    unfold pE;split
    ·exact h0
    ·exact hd _ _
   ·exact h0
  ·split
   ·split
    ·show (sa x _).2.1.size≤_
     unfold sa;split
     ·exact h0
     ·exact hd _ _
    ·exact h0
   ·split
    ·exact h0
    ·exact h0
theorem Fq {x:List Int}{m m':MapL}{v v':Int} (h:kM x m v=some (m',v')) (hx:x.length≤2000) (hm:MOk m):MOk m'∧(v'=v∨v'=v+1):=by
 unfold kM at h;split at h
 ·cases h
 ·split at h
  ·split at h
   ·cases h;exact ⟨hm,.inr rfl⟩
   ·cases h
  ·split at h
   ·split at h
    ·cases h
    ·cases h
     refine ⟨fun e he=>?_,.inl rfl⟩;rcases List.mem_append.1 he with he|he
     ·exact hm e he
     ·rw [List.mem_singleton] at he
      subst he;have:=IY x
      show (kB x).2.2.1.size≤_
      omega
   ·cases h;exact ⟨hm,.inl rfl⟩
theorem FS {ls:List Ln} (hs:Small ls):∀ (f:Nat) (i:Int) (m:MapL) (v:Int) (s:Bool) (m':MapL) (j:Int),0≤i→i≤ls.length→(s=false→i < ls.length)→MOk m→kK ls f i m v s=.ok (m',j)→MOk m'∧i≤j∧j < ls.length
 | 0,i,m,v,s,m',j,_,_,_,_,h=>by cases h
 | f+1,i,m,v,s,m',j,h0,h1,h2,hm,h=>by
  rw [kK] at h;split at h
  ·rename_i hi
   split at h
   ·cases h
   ·rename_i m2 v2 ht
    have hx:=hs.at_ (i:=i.toNat) (by omega)
    have g1:=kU (ls:=ls) ls.length (i+1)
    have g2:=kR (ls:=ls) ls.length (i+1) (by omega)
    obtain ⟨a,b,c⟩:=FS hs f _ _ _ _ m' j (by omega) g2 (fun e=>by cases e) (Fq ht hx.1 hm).1 h;exact ⟨a,by omega,c⟩
  ·split at h
   ·cases h
   ·rename_i hn
    cases h
    refine ⟨hm,Int.le_refl _, ?_⟩;cases s
    ·exact h2 rfl
    ·refine Classical.byContradiction fun h3=>hn ⟨rfl,.inl (by omega)⟩
theorem AS {ls:List Ln}{i j:Int}{m:MapL} (hs:Small ls) (hi:0≤i∧i < ls.length) (h:iO ls i=.ok (m,j)):MOk m∧i≤j∧j < ls.length:=FS hs _ i [] 0 false m j hi.1 (by omega) (fun _=>hi.2) MOk.nil h
theorem zS {ls:List Ln}:∀ (f:Nat) {i:Int}{m:MapL}{v:Int}{s:Bool},¬kK ls f i m v s=.error 0
 | 0,_,_,_,_=>fun h=>by cases h
 | f+1,_,_,_,_=>fun h=>by
  rw [kK] at h;split at h
  ·split at h
   ·cases h
   ·exact zS f h
  ·split at h<;>cases h
def BA (m:MapL) (l:List EvV) (q:Nat):List EvV:=(l.take q).map (NM m)++l.drop q
theorem yU {m:MapL}{l:List EvV}{q:Nat}:(BA m l q).length=l.length:=by
 unfold BA;rw [List.length_append,List.length_map,List.length_take,List.length_drop];omega
theorem Lx {m:MapL}{l:List EvV}{q:Nat} (h:q < l.length):(BA m l q).getD q ev0=l.getD q ev0:=by
 unfold BA;rw [List.getD_eq_getElem?_getD,List.getElem?_append_right (by rw [List.length_map,List.length_take];omega),List.length_map,List.length_take,Nat.min_eq_left (by omega),Nat.sub_self,List.getElem?_drop,Nat.add_zero,List.getD_eq_getElem?_getD]
theorem LR {m:MapL}{l:List EvV}{q:Nat} (h:q < l.length):BA m l (q+1)=(BA m l q).set q (NM m (l.getD q ev0)):=by
 unfold BA;have hl:((l.take q).map (NM m)).length=q:=by rw [List.length_map,List.length_take];omega
 have hd:l.drop q=l.getD q ev0::l.drop (q+1):=by
  rw [List.drop_eq_getElem_cons h,List.getD_eq_getElem?_getD,List.getElem?_eq_getElem h];rfl
 have ht:(l.take (q+1)).map (NM m)=(l.take q).map (NM m)++[NM m (l.getD q ev0)]:=by
  rw [List.take_add_one,List.getD_eq_getElem?_getD,List.getElem?_eq_getElem h,List.map_append];rfl
 rw [List.set_append_right q _ (by omega),hl,Nat.sub_self,hd,List.set_cons_zero,ht,List.append_assoc];rfl
theorem J4 {m:MapL}{l:List EvV}:BA m l 0=l:=by unfold BA;simp
theorem PB {m:MapL}{l:List EvV}:BA m l l.length=l.map (NM m):=by unfold BA;simp
theorem NH {l:List EvV}{e:EvV}{i:Nat}{t:ByteArray} (h:i < l.length) (he:l.getD i ev0=e) (cs:List AV):(aD (l.map EVA)++cs).set (i * 6+2) (.raw (.string t))=aD ((l.set i { e with t:=t }).map EVA)++cs:=by
 have hcl:∀ l:List EvV,(aD (l.map EVA)).length=l.length * 6:=fun l=>by rw [da _ (oD l),List.length_map]
 subst he;induction l generalizing i with
 | nil=>simp at h
 | cons x l ih =>
  cases i with
  | zero =>
   show ((aD (EVA x::l.map EVA))++cs).set 2 _=_
   rw [nr];show _=aD (EVA _::l.map EVA)++cs
   rw [nr];rfl
  | succ i =>
   show ((aD (EVA x::l.map EVA))++cs).set ((i+1) * 6+2) _=aD (EVA x::(l.set i _).map EVA)++cs
   rw [nr,nr,show (i+1) * 6+2=(i * 6+2)+6 by omega];simp only [List.set_cons_succ];have:=ih (i:=i) (by simpa using h)
   rw [this];rfl
theorem NI {m:MapL}{l:List EvV}{q:Nat} (h:q < l.length) (hq:¬(cV m (l.getD q ev0).t).2=0):fB m l=.error 11:=by
 unfold fB;rw [if_neg];intro ha;rw [List.all_eq_true] at ha;have:=ha (l.getD q ev0) (by rw [List.getD_eq_getElem?_getD,List.getElem?_eq_getElem h];exact List.getElem_mem h)
 exact hq (by simpa using this)
theorem Pz {m:MapL}{l:List EvV} (h:∀ q,q < l.length→(cV m (l.getD q ev0).t).2=0):fB m l=.ok (l.map (NM m)):=by
 unfold fB;rw [if_pos];rw [List.all_eq_true];intro e he;obtain ⟨q,hq,rfl⟩:=List.mem_iff_getElem.1 he;have:=h q hq
 rw [List.getD_eq_getElem?_getD,List.getElem?_eq_getElem hq] at this;simpa using this
theorem Cq (m:MapL) (s:ByteArray):(cV m s).2=0∨(cV m s).2=11:=by
 unfold cV;split
 ·exact .inl rfl
 ·split
  ·exact .inr rfl
  ·split
   ·exact .inl rfl
   ·split
    ·exact .inr rfl
    ·exact .inl rfl
end Go.Proofs.YthkabaiamcjdbaaGreat
namespace Go.Abs
theorem xJ {l t:List Int} (h:¬bM l=0):bM (l++t)=bM l:=by
 cases l with
 | nil=>exact absurd rfl h
 | cons c r =>
  simp only [List.cons_append,bM] at h ⊢;by_cases h37:c=37
  ·simp only [h37,if_true] at h ⊢
   by_cases hh:2≤r.length∧0≤iN (r.getD 0 0)∧0≤iN (r.getD 1 0)
   ·have e0:(r++t).getD 0 0=r.getD 0 0:=by
     rw [List.getD_eq_getElem?_getD,List.getD_eq_getElem?_getD,List.getElem?_append_left (by omega)]
    have e1:(r++t).getD 1 0=r.getD 1 0:=by
     rw [List.getD_eq_getElem?_getD,List.getD_eq_getElem?_getD,List.getElem?_append_left (by omega)]
    rw [if_pos hh,e0,e1,if_pos ⟨by rw [List.length_append];omega,hh.2⟩]
   ·rw [if_neg hh] at h;exact absurd rfl h
  ·simp only [h37,if_false]
theorem EX:∀ (n:Nat) (l t:List Int),l.length≤n→cG dQ l=l.length→bM t=0→cG dQ (l++t)=l.length
 | _,[],t,_,_,ht=>by rw [List.nil_append,nw (.inl ht)];rfl
 | 0,c::r,_,h,_,_=>by simp at h
 | n+1,c::r,t,h,hu,ht=>by
  by_cases hz:bM (c::r)=0
  ·rw [nw (.inl hz)] at hu;simp at hu
  ·have hs:=(ur (c::r)).2
   rw [mQ hz rfl] at hu;rw [mQ (by rw [xJ hz];exact hz) rfl,xJ hz,List.drop_append_of_le_length hs];have:=EX n ((c::r).drop (bM (c::r))) t (by simp only [List.length_drop,List.length_cons] at *;omega) (by rw [List.length_drop];omega) ht
   rw [this,List.length_drop];omega
theorem C4 {c:Int} (h:cr c=true):eV c=true∧¬c=37:=by
 unfold cr at h;have:=of_decide_eq_true h
 unfold eV kf;refine ⟨?_,by omega⟩;simp only [Bool.and_eq_true,Bool.not_eq_true',beq_eq_false_iff_ne,decide_eq_false_iff_not];omega
theorem kI:∀ (l t:List Int),(∀ c∈l,cr c=true)→(bM t=0∨eV (t.getD 0 0)=false)→cG eV (l++t)=l.length
 | [],t,_,ht=>by rw [List.nil_append,nw ht];rfl
 | c::r,t,h,ht=>by
  have hc:=h c (by simp)
  obtain ⟨h1,h2⟩:=C4 hc;have e:bM (c::(r++t))=1:=by simp only [bM];rw [if_neg h2,hc];rfl
  rw [List.cons_append,mQ (by rw [e];decide) (by simpa using h1),e,List.drop_succ_cons,List.drop_zero,kI r t (fun x hx=>h x (by simp [hx])) ht];simp;omega
theorem HK {l t:List Int} (h:∀ c∈l,cr c=true) (ht:gD cr t=0):gD cr (l++t)=l.length:=by rw [lO h,ht];rfl
theorem Nw {l t:List Int} (h0:0 < l.length) (h:∀ c∈l,cr c=true) (ht:gD cr t=0) (ht2:t.getD 0 0=32) (hs:bM t=0):cK ([33]++l++t)=(aK (33::l),((l.length+1:Nat):Int),true):=by
 obtain ⟨c,r,rfl⟩:∃ c r,l=c::r:=by cases l with
  | nil=>simp at h0
  | cons c r=>exact ⟨c,r,rfl⟩
 have hc:=h c (by simp)
 have a0:nH ([33]++(c::r)++t) 0 33=true:=decide_eq_true ⟨by simp,by simp⟩
 have a1:nH ([33]++(c::r)++t) 1 60=false:=by
  refine decide_eq_false (fun e=>?_);have e2:c=60:=by simpa using e.2
  rw [e2] at hc;revert hc;decide
 have ed:([33]++(c::r)++t).drop 1=(c::r)++t:=by simp
 have hh:bB ([33]++(c::r)++t)=0:=by
  unfold bB;rw [ed,HK h ht,if_neg];rw [Bool.not_eq_true];refine decide_eq_false (fun e=>?_);have:=e.2
  rw [getD_pre (p:=[33]++(c::r)) (by simp;try omega),ht2] at this;cases this
 have em:max (bB ([33]++(c::r)++t)) 1=1:=by rw [hh];rfl
 unfold cK gl;rw [a0,a1,if_neg (by decide),if_neg (by decide),em,ed,kI _ t h (.inl hs),hh,if_neg (by omega)];have:([33]++(c::r)++t).take ((c::r).length+1)=33::c::r:=by rw [List.take_left' (by simp)];simp
 rw [this]
theorem EV {l t:List Int} (h0:0 < l.length) (h:∀ c∈l,cr c=true) (hs:bM t=0):cK ([33,33]++l++t)=(aK (33::33::l),((l.length+2:Nat):Int),true):=by
 have a0:nH ([33,33]++l++t) 0 33=true:=decide_eq_true ⟨by simp,by simp⟩
 have a1:nH ([33,33]++l++t) 1 60=false:=decide_eq_false (fun e=>by simp at e)
 have hh:bB ([33,33]++l++t)=2:=by
  unfold bB;have:gD cr (([33,33]++l++t).drop 1)=0:=by
   have e:List.drop 1 ([33,33]++l++t)=33::(l++t):=by simp
   rw [e];exact iT (by decide)
  rw [this,show nH ([33,33]++l++t) (1+0) 33=true from decide_eq_true ⟨by simp,by simp⟩];rfl
 have em:max (bB ([33,33]++l++t)) 1=2:=by rw [hh];rfl
 have ed:([33,33]++l++t).drop 2=l++t:=by simp
 unfold cK gl;rw [a0,a1,if_neg (by decide),if_neg (by decide),em,ed,kI _ t h (.inl hs),if_neg (by omega)];have:([33,33]++l++t).take (l.length+2)=33::33::l:=by rw [List.take_left' (by simp)];simp
 rw [this]
theorem Ct {s:ByteArray} (h:gI (aJ s)=true):s=aK (aJ s)∧ie (aJ s)=some (aJ s)∧0 < (aJ s).length∧cG dQ (aJ s)=(aJ s).length:=by
 have ha:=ke h
 have hv:=of_decide_eq_true h
 exact ⟨by rw [aK,lh ha,im],lB ha,hv⟩
end Go.Abs
namespace Go.Proofs.YthkabaiamcjdbaaGreat
open Go.Abs
theorem Co (a b:ByteArray):aJ (a++b)=aJ a++aJ b:=by simp [aJ,ByteArray.data_append]
theorem lS (s:ByteArray) (i j:Nat):aJ (s.extract i j)=((aJ s).drop i).take (j - i):=by
 simp [aJ,ByteArray.data_extract,List.map_take,List.map_drop,List.extract_eq_take_drop]
theorem lp {a b:ByteArray} (h:aJ a=aJ b):a=b:=by rw [← im a,← im b,h]
theorem KH {s p:ByteArray}:hasB s p=true↔∃ r,aJ s=aJ p++r:=by
 unfold hasB;constructor
 ·intro h
  by_cases hp:p.size≤s.size
  ·rw [if_pos hp,hU,decide_eq_true_eq] at h
   refine ⟨(aJ s).drop p.size, ?_⟩;have:=congrArg aJ h
   rw [lS,Nat.sub_zero,List.drop_zero] at this;rw [← this,List.take_append_drop]
  ·rw [if_neg hp] at h;cases h
 ·rintro ⟨r,h⟩
  have hl:=congrArg List.length h
  rw [List.length_append,bJ,bJ] at hl;rw [if_pos (by omega),hU,decide_eq_true_eq];apply lp
  rw [lS,h,List.drop_zero,Nat.sub_zero,List.take_left' (bJ p)]
theorem zN {s:ByteArray} (h:∀ c∈aJ s,c < 128):∀ (n p:Nat),s.size - p≤n→eD s p=(aJ s).drop p:=by
 intro n;induction n with
 | zero=>intro p hn;rw [qI (by omega),List.drop_eq_nil_of_le (by rw [bJ];omega)]
 | succ n ih =>
  intro p hn;by_cases hp:p < s.size
  ·have hl:p < (aJ s).length:=by rw [bJ];exact hp
   have hb:((s[p]'hp).toNat:Int)=(aJ s)[p]:=by simp [aJ];rfl
   have ha:(s[p]'hp).toNat < 128:=by have:=h _ (List.getElem_mem hl);omega
   rw [tn hp,decode_ascii s p hp ha,ih (p+1) (by omega),List.drop_eq_getElem_cons hl,hb]
  ·rw [qI (by omega),List.drop_eq_nil_of_le (by rw [bJ];omega)]
theorem Pw {c:Int} (h:cr c=true):0≤c∧c < 128∧¬c=33∧¬c=60:=by
 unfold cr at h;have:=of_decide_eq_true h
 omega
theorem K0 {l:List Int} (h0:0 < l.length) (h:∀ c∈l,cr c=true):cK (33::l)=(aK (33::l),((l.length+1:Nat):Int),true):=by
 obtain ⟨c,r,rfl⟩:∃ c r,l=c::r:=by cases l with
  | nil=>simp at h0
  | cons c r=>exact ⟨c,r,rfl⟩
 have hc:=h c (by simp)
 have a0:nH (33::c::r) 0 33=true:=decide_eq_true ⟨by simp,by simp⟩
 have a1:nH (33::c::r) 1 60=false:=by
  refine decide_eq_false (fun e=>?_);have e2:c=60:=by simpa using e.2
  exact (Pw hc).2.2.2 e2
 have ec:gD cr (c::r)=(c::r).length:=by
  have:=lO (b:=[]) h
  rw [List.append_nil] at this;rw [this];rfl
 have hh:bB (33::c::r)=0:=by
  unfold bB;rw [List.drop_succ_cons,List.drop_zero,ec,if_neg];rw [Bool.not_eq_true];exact decide_eq_false (fun e=>by have:=e.1;simp at this;omega)
 have em:max (bB (33::c::r)) 1=1:=by rw [hh];rfl
 have eu:=kI (c::r) [] h (.inl rfl)
 rw [List.append_nil] at eu;unfold cK gl;rw [a0,a1,if_neg (by decide),if_neg (by decide),em,List.drop_succ_cons,List.drop_zero,eu,hh,if_neg (by omega)];have:(33::c::r).take ((c::r).length+1)=33::c::r:=by rw [List.take_of_length_le (by simp)]
 rw [this]
theorem D1:aJ bangB=[33]:=by decide +kernel
theorem JB:aJ bang2B=[33,33]:=by decide +kernel
theorem OJ:aJ lessB=[60]:=by decide +kernel
theorem LL:aJ less2B=[33,60]:=by decide +kernel
theorem E3:aJ ({ data:=#[] }:ByteArray)=[]:=by decide +kernel
theorem BV {t p:ByteArray} (h:∀ r,aJ t≠aJ p++r):hasB t p=false:=by
 rw [Bool.eq_false_iff];intro e;obtain ⟨r,hr⟩:=KH.1 e;exact h r hr
theorem Cf (t:ByteArray) (n:Nat):aJ (t.extract n t.size)=(aJ t).drop n:=by
 rw [lS,List.take_of_length_le (by rw [List.length_drop,bJ];exact Nat.le_refl _)]
theorem KT (t:ByteArray) (n:Nat):aJ (t.extract 0 n)=(aJ t).take n:=by rw [lS,List.drop_zero,Nat.sub_zero]
theorem sM {a b:ByteArray} (h:aJ a≠aJ b):(a.toList == b.toList)=false:=by
 rw [hU,decide_eq_false_iff_not];exact fun e=>h (by rw [e])
theorem tv:∀ (l:List UInt8) (c:UInt8),Go.Lib.indexByte l c < l.length
 | [],_=>by simp [Go.Lib.indexByte]
 | b::l,c=>by
  have:=tv l c
  simp only [Go.Lib.indexByte,List.length_cons];split
  ·omega
  ·split<;>omega
theorem FO (s:ByteArray) (c:Int):-1≤lE s c∧lE s c < s.size:=by
 refine ⟨Go.Lib.indexByte_ge _ _, ?_⟩;have:=tv s.data.toList c.toNat.toUInt8
 rw [Array.length_toList] at this;exact this
theorem E1 {t:ByteArray} (h:1≤t.size):gw t≤t.size:=by
 have h1:=(FO (t.extract 1 t.size) 33).2
 have h2:(t.extract 1 t.size).size=t.size - 1:=by rw [ByteArray.size_extract];omega
 unfold gw;split<;>omega
theorem CQ {t:ByteArray} (ha:∀ c∈aJ t,c < 128) (hl:hasB t lessB=false):pC t=((cK (aJ t)).2.2 && decide ((cK (aJ t)).2.1=(aJ t).length) && !hasB t less2B):=by
 unfold pC;rw [if_neg (by rw [hl];decide),zN ha _ 0 (Nat.le_refl _),List.drop_zero]
theorem Xl:mj bangB=(bangB,true):=by unfold mj;rw [if_pos (by decide +kernel)]
theorem TV:mj bang2B=(yB,true):=by unfold mj;rw [if_neg (by decide +kernel),if_pos (by decide +kernel)]
theorem KY:∀ (l:List UInt8) (c:UInt8) (k:Nat),k < l.length→(∀ j,j < k→l.getD j 0≠c)→l.getD k 0=c→Go.Lib.indexByte l c=k
 | [],_,k,h,_,_=>by simp at h
 | b::l,c,0,_,_,he=>by
  have:b=c:=by simpa using he
  simp [Go.Lib.indexByte,this]
 | b::l,c,k+1,h,hn,he=>by
  have hb:¬b=c:=by simpa using hn 0 (by omega)
  have:=KY l c k (by simpa using h) (fun j hj=>by simpa using hn (j+1) (by omega)) (by simpa using he)
  simp [Go.Lib.indexByte,hb,this]
theorem R8 (l:List UInt8) (c:UInt8) (hn:∀ j,j < l.length→l.getD j 0≠c):Go.Lib.indexByte l c = -1:=by
 induction l with
 | nil=>rfl
 | cons b l ih =>
  have hb:¬b=c:=by simpa using hn 0 (by simp)
  simp [Go.Lib.indexByte,hb,ih (fun j hj=>by simpa using hn (j+1) (by simpa using hj))]
theorem Jn {s:ByteArray}{k:Nat} (h:k < s.size):(((s.data.toList.getD k 0).toNat:Nat):Int)=(aJ s).getD k 0:=by
 have h2:k < s.data.toList.length:=by simpa using h
 rw [aJ,List.getD_eq_getElem?_getD,List.getD_eq_getElem?_getD,List.getElem?_map,List.getElem?_eq_getElem h2];rfl
theorem yI {s:ByteArray}{j:Nat} (h:j < s.size):s.data.toList.getD j 0=33↔(aJ s).getD j 0=33:=by
 rw [← Jn h];constructor
 ·intro e;rw [e];rfl
 ·intro e;apply UInt8.toNat.inj;show _=33;omega
theorem u4 (s:ByteArray):(s.extract 1 s.size).data.toList=s.data.toList.drop 1:=by
 rw [ByteArray.data_extract,Array.toList_extract,List.extract_eq_take_drop,List.take_of_length_le];rw [List.length_drop,Array.length_toList];exact Nat.le_refl _
theorem ext_get (s:ByteArray) (j:Nat):(s.extract 1 s.size).data.toList.getD j 0=s.data.toList.getD (j+1) 0:=by
 rw [u4,List.getD_eq_getElem?_getD,List.getElem?_drop,← List.getD_eq_getElem?_getD,Nat.add_comm]
theorem i6 {s:ByteArray}{k:Nat} (h:k < s.size) (h1:1≤k) (hn:∀ j,1≤j→j < k→¬(aJ s).getD j 0=33) (he:(aJ s).getD k 0=33):gw s=k+1:=by
 have:lE (s.extract 1 s.size) 33=(k - 1:Nat):=by
  refine KY _ _ _ (by rw [u4,List.length_drop,Array.length_toList];show k - 1 < s.size - 1;omega) (fun j hj=>?_) ?_
  ·rw [ext_get];exact fun e=>hn (j+1) (by omega) (by omega) ((yI (by omega)).1 e)
  ·rw [ext_get,show k - 1+1=k by omega];exact (yI h).2 he
 unfold gw;rw [this,if_pos (by omega)];omega
theorem Q5 {s:ByteArray} (hn:∀ j,1≤j→j < s.size→¬(aJ s).getD j 0=33):gw s=1:=by
 have:lE (s.extract 1 s.size) 33 = -1:=by
  refine R8 _ _ (fun j hj=>?_);rw [u4,List.length_drop,Array.length_toList] at hj;have hj:j < s.size - 1:=hj
  rw [ext_get];exact fun e=>hn (j+1) (by omega) (by omega) ((yI (by omega)).1 e)
 unfold gw;rw [this,if_neg (by decide)]
variable {κ:Ctx} {σ:List Res} {K:Ret→List Res→Prop} {o o':Option (Option (Nat × Nat))}
inductive ScR (sb:Nat):MapL→List Res→Prop where
 | nil:ScR sb [] [.obj sb [.raw (.map none)]]
 | mk {mb:Nat} {m:MapL}:ScR sb m [.blk mb (j1 m m.length),.obj sb [.raw (.map (some mb))]]
structure Sc (σ:List Res) (sb:Nat) (m:MapL):Prop where
 is:∃ A B ρ,σ=A++(ρ++B)∧ScR sb m ρ
theorem Sc.app {sb:Nat}{m:MapL} (h:Sc σ sb m) (C:List Res):Sc (C++σ) sb m:=by
 obtain ⟨A,B,ρ,rfl,hρ⟩:=h.is;exact ⟨C++A,B,ρ,by rw [List.append_assoc],hρ⟩
theorem Sc.cons {sb:Nat}{m:MapL} (h:Sc σ sb m) (r:Res):Sc (r::σ) sb m:=h.app [r]
theorem Sc.of {sb:Nat}{m:MapL}{ρ:List Res} (h:ScR sb m ρ):Sc (ρ++σ) sb m:=⟨[],σ,ρ,rfl,h⟩
theorem ACallF.under {P:Program}{f:FuncId}{args:List AV} (ρ:List Res) (hc:ACallF κ P f args σ (fun r σ'=>K r (ρ++σ'))):ACallF κ P f args (ρ++σ) K:=by
 refine (hc.front ρ).mono ?_;rintro r σ' ⟨τ',rfl,hk⟩;exact hk
theorem ACallF.under1 {P:Program}{f:FuncId}{args:List AV}{r:Res} (hc:ACallF κ P f args σ (fun x σ'=>K x (r::σ'))):ACallF κ P f args (r::σ) K:=ACallF.under [r] hc
theorem Fp {s:ByteArray}{sb:Nat}{m:MapL} (hS:Sc σ sb m) (hm:MOk m) (hs:s.size≤1000000) (hK:K (.ret (.tup [.raw (.string (cV m s).1),I (cV m s).2])) σ):ACallF κ Tryz.prog 96 [JP sb,.raw (.string s)] σ K:=by
 rcases Nat.eq_zero_or_pos s.size with h0|h0
 ·obtain rfl:s=ByteArray.empty:=ByteArray.size_eq_zero_iff.mp h0
  have e:cV m ByteArray.empty=(ByteArray.empty,0):=by
   unfold cV;rw [if_pos (.inl (by rw [show ByteArray.empty=({ data:=#[] }:ByteArray) from rfl];exact beq_self_eq_true _))]
  rw [e] at hK;exact PF hK
 ·obtain ⟨A,B,ρ,rfl,hρ⟩:=hS.is
  have hi:=FO (s.extract 1 s.size) 33
  have hz:=xp (s:=s) 1
  refine ACallF.under A ?_;cases hρ with
  | nil=>exact O2 hs (E1 h0) ⟨hi.1,by omega⟩ hK
  | mk=>exact OL hm.pre hs (E1 h0) ⟨hi.1,by omega⟩ hK
theorem Wb {h p:ByteArray}{sb:Nat}{m:MapL}{ρ:List Res} (hR:ScR sb m ρ) (h1:cL m h=none→∀ ρ',ScR sb (m++[(h,p,m.length)]) ρ'→K (.ret (B true)) (ρ'++σ)) (h2:(cL m h).isSome=true→K (.ret (B false)) (ρ++σ)):ACallF κ Tryz.prog 94 [JP sb,.raw (.string h),.raw (.string p)] (ρ++σ) K:=by
 cases hR with
 | nil=>exact Vy (fun mb=>h1 rfl _ (ScR.mk (mb:=mb) (m:=[(h,p,0)])))
 | @mk mb _ =>
  refine Yu (fun hn=>?_) (fun hn=>h2 hn);have:=h1 hn _ (ScR.mk (mb:=mb) (m:=m++[(h,p,m.length)]))
  rw [List.length_append] at this;exact this
theorem E5 {rb ix rc sb:Nat}{l:List EvV}{cs:List AV}{m:MapL} [hH:Hold σ rb ix (aD (l.map EVA)++cs)] (hS:Sc σ sb m) (hm:MOk m) (h0:0 < l.length) (hl:l.length≤1000000000) (ht:∀ e∈l,e.t.size≤1000000)
  (h1:∀ l',fB m l=.ok l'→∀ b c cs',l.length≤c→(aD (l'.map EVA)++cs').length=c * 6→K (.ret (.tup [bT b 0 l.length c,I 0])) (.obj b (aD (l'.map EVA)++cs')::σ))
  (h2:∀ e,fB m l=.error e→K (.ret (.tup [nilS,I e])) σ):ACallF κ Tryz.prog 75 [bT rb 0 l.length rc,JP sb] σ K:=by
 have hcl:∀ l:List EvV,(aD (l.map EVA)).length=l.length * 6:=fun l=>by rw [da _ (oD l),List.length_map]
 have htk:((aD (l.map EVA)++cs).drop 0).take (l.length * 6)=aD (l.map EVA):=by rw [List.drop_zero,← hcl,List.take_left]
 refine ACallF.dropL (aN Tryz.func75 rfl ?_);simp only [Tryz.ntmps75]
 repeat' (first|(with_reducible first|refine aC ?_|refine bO ?_|refine al (al ?_)|refine aG ?_|refine aB ?_)|simp only [WL,WM,Nat.reduceAdd,Nat.reduceSub,true_and,mf,Qe]|( refine callD_mk (Nq (l2:=l) h0 rfl hl htk (fun b' c' cs' q1 q2 q3=>?_))))
 obtain ⟨cs2,rfl⟩:∃ cs2,cs'=aD (l.map EVA)++cs2:=⟨cs'.drop (l.length * 6),by rw [← q3,List.take_append_drop]⟩
 have q4:∀ l':List EvV,l'.length=l.length→(aD (l'.map EVA)++cs2).length=c' * 6:=fun l' hl'=>by
  rw [List.length_append,hcl] at q1 ⊢;rw [hl'];exact q1
 clear q1 q3 htk;refine dq (fun q:Nat=>⟨(bT rb 0 l.length rc::JP sb::.any::.any::.any::.any::bT b' 0 l.length c'::.any::.any::.any::.any::.any::.any::bT b' 0 l.length c'::I l.length::I q::.any::.any::.any::.any::.any::.any::.any::.any::.any::.any::.any::.any::.any::.any::.any::.any::.any::.any::.any::.any::.any::[]),.obj b' (aD ((BA m l q).map EVA)++cs2)::σ,true,[]⟩) (fun q=>q≤l.length∧∀ j,j < q→(cV m (l.getD j ev0).t).2=0) (fun q=>l.length - q) 0 (aM bH (ResW.of_eq (by rw [J4])) id) ⟨Nat.zero_le _,fun j h=>by omega⟩ ?_;rintro q ⟨hq,hz⟩;rcases Nat.lt_or_ge q l.length with hqn|hqn
 ·have hqw:q < (BA m l q).length:=by rw [yU];exact hqn
  have e1:=U4 hqw cs2
  rw [Lx hqn] at e1;have e2:=NH (t:=(cV m (l.getD q ev0).t).1) hqw (Lx hqn) cs2
  have e3:(BA m l q).set q { l.getD q ev0 with t:=(cV m (l.getD q ev0).t).1 }=BA m l (q+1):=(LR hqn).symm
  rw [e3] at e2;have hts:=ht (l.getD q ev0) (by rw [List.getD_eq_getElem?_getD,List.getElem?_eq_getElem hqn];exact List.getElem_mem hqn)
  have hcw:=hcl (BA m l q)
  rw [yU] at hcw;have q5:=q4 (BA m l q) yU
  have hS2:=fun b1 C1 C=>(hS.cons (.obj b' C)).cons (.obj b1 C1)
  rcases Cq m (l.getD q ev0).t with h9|h9
  ·have hz2:∀ j,j < q+1→(cV m (l.getD j ev0).t).2=0:=fun j hj=>by
    rcases Nat.lt_or_ge j q with h|h
    ·exact hz j h
    ·obtain rfl:j=q:=by omega
     exact h9
   repeat' (first|( with_reducible refine fI (hK:=?_))|( with_reducible refine aA (hn:=by rw [List.length_append,hcw];omega) (hK:=?_))|(with_reducible first|refine al (aC ?_)|refine al (al ?_)|refine aG ?_|refine aB ?_|refine aw ?_|refine aO ?_)|simp only [WL,ay,WM,reduceCtorEq,bg,Nat.reduceAdd,Nat.reduceLT,Nat.reduceEqDiff,true_and,T9,fR lH,Qo,Tryz.results75,e1,e2,h9,Nat.zero_add]|simp (disch:=first|omega|(simp only [aU];omega)) only [an]|(with_reducible first|refine ax (hb:=?_)|refine au (hK:=?_)|refine aP (hK:=?_)|refine az (hK:=?_)|refine aV (hK:=fun b=>?_)|refine callD_mk (Fp (hS2 _ _ _) hm hts ?_))|((with_reducible first|refine ai (fun h=>?_) (fun h=>?_)|refine ab (fun h=>?_) (fun h=>?_))<;>(try simp only [h])<;>(try simp only [bf,ba] at h))|omega)
   all_goals first
    | exact absurd trivial (by assumption)
    | exact ⟨q+1,aM bH (ResW.sub (List.sublist_cons_self _ _)) id,⟨hqn,hz2⟩,by omega⟩
  ·have h3:=h2 11 (NI hqn (by omega))
   repeat' (first|( with_reducible refine fI (hK:=?_))|( with_reducible refine aA (hn:=by rw [List.length_append,hcw];omega) (hK:=?_))|(with_reducible first|refine al (aC ?_)|refine al (al ?_)|refine aG ?_|refine aB ?_|refine aw ?_|refine aO ?_)|simp only [WL,ay,WM,reduceCtorEq,bg,Nat.reduceAdd,Nat.reduceLT,Nat.reduceEqDiff,true_and,T9,fR lH,Qo,Tryz.results75,e1,e2,h9,Nat.zero_add]|simp (disch:=first|omega|(simp only [aU];omega)) only [an]|(with_reducible first|refine ax (hb:=?_)|refine au (hK:=?_)|refine aP (hK:=?_)|refine az (hK:=?_)|refine aV (hK:=fun b=>?_)|refine callD_mk (Fp (hS2 _ _ _) hm hts ?_))|((with_reducible first|refine ai (fun h=>?_) (fun h=>?_)|refine ab (fun h=>?_) (fun h=>?_))<;>(try simp only [h])<;>(try simp only [bf,ba] at h))|omega)
   all_goals first
    | exact absurd trivial (by assumption)
    | exact ak bC (aj rfl) h3
 ·obtain rfl:q=l.length:=by omega
  have h3:=h1 _ (Pz hz) b' c' cs2 q2 (q4 _ (by rw [List.length_map]))
  rw [PB]
  repeat' (first|(with_reducible first|refine al (aC ?_)|refine aG ?_|refine aO ?_)|simp only [WL,ay,WM,ne_eq,reduceCtorEq,not_false_eq_true,true_and,Tryz.results75]|((with_reducible first|refine ai (fun h=>?_) (fun h=>?_)|refine ab (fun h=>?_) (fun h=>?_))<;>(try simp only [h])<;>(try simp only [bf,ba] at h))|omega)
  exact ak bC (aj rfl) h3
theorem W7 {sb vb:Nat}{k v:Int}{x:List Int}{m:MapL}{ρ:List Res} (hR:ScR sb m ρ) (hl:x.length≤2000) (hv:0≤v∧v≤5000)
  (h1:∀ m' v' ρ',kM x m v=some (m',v')→ScR sb m' ρ'→K (.ret (B true)) (.obj vb [I v']::(ρ'++σ)))
  (h2:∀ v' ρ',kM x m v=none→K (.ret (B false)) (.obj vb [I v']::(ρ'++σ))):ACallF κ Tryz.prog 74 [.agg [I k,SI none x],JP sb,JP vb] (.obj vb [I v]::(ρ++σ)) K:=by
 have hSet:=fun (bx:Nat) (cx:List AV) (h p:ByteArray) (K:Ret→List Res→Prop) (g1:cL m h=none→∀ ρ',ScR sb (m++[(h,p,m.length)]) ρ'→K (.ret (B true)) (.obj bx cx::.obj vb [I v]::(ρ'++σ))) (g2:(cL m h).isSome=true→K (.ret (B false)) (.obj bx cx::.obj vb [I v]::(ρ++σ)))=>ACallF.under1 (κ:=κ) (K:=K) (r:=.obj bx cx) (ACallF.under1 (r:=.obj vb [I v]) (Wb (κ:=κ) (σ:=σ) (h:=h) (p:=p) hR g1 g2))
 have hY:({ data:=#[89,65,77,76] }:ByteArray)=litY:=rfl
 have hT:({ data:=#[84,65,71] }:ByteArray)=litT:=rfl
 have hO:({ data:=#[49] }:ByteArray)=litOne:=rfl
 unfold kM at h1 h2;cases d1:(kB x).2.2.2
 ·have h3:=h2 v ρ (by rw [d1,if_pos rfl])
  refine ACallF.dropL (aa Tryz.func74 rfl ?_);simp only [Tryz.ntmps74]
  repeat' (first|simp only [WL,WM,Nat.reduceAdd,Nat.reduceSub,Nat.reduceLT,Nat.reduceEqDiff,Bool.not_false,true_and,cb,fR c9,Ap,Tryz.results74,d1]|(with_reducible first|refine ax (hb:=?_)|refine au (hK:=?_)|refine aQ (hK:=fun b=>?_)|refine cD (jI (by omega) ?_)))
  all_goals first
   | exact absurd trivial (by assumption)
   | exact ak bC (aj rfl) h3
 ·rw [d1,if_neg (by decide)] at h1 h2
  cases d2:((kB x).1.toList == litY.toList)
  ·rw [d2,if_neg (by decide)] at h1 h2
   cases d3:((kB x).1.toList == litT.toList)
   ·rw [d3,if_neg (by decide)] at h1 h2
    have h3:=h1 m v ρ rfl hR
    refine ACallF.dropL (aa Tryz.func74 rfl ?_);simp only [Tryz.ntmps74]
    repeat' (first|simp only [WL,dx,WM,Nat.reduceAdd,Nat.reduceSub,Nat.reduceLT,Nat.reduceEqDiff,Bool.not_true,true_and,cb,fR c9,Ap,Tryz.results74,d1,hY,hT,hO,d2,d3]|(with_reducible first|refine ax (hb:=?_)|refine au (hK:=?_)|refine aQ (hK:=fun b=>?_)|refine cD (jI (by omega) ?_)))
    all_goals first
     | exact absurd trivial (by assumption)
     | exact ak bC (aj rfl) h3
   ·rw [d3,if_pos rfl] at h1 h2
    refine ACallF.dropL (aa Tryz.func74 rfl ?_);simp only [Tryz.ntmps74]
    repeat' (first|simp only [WL,dx,WM,Nat.reduceAdd,Nat.reduceSub,Nat.reduceLT,Nat.reduceEqDiff,Bool.not_true,true_and,cb,fR c9,Ap,VP,Tryz.results74,d1,hY,hT,hO,d2,d3]|(with_reducible first|refine ax (hb:=?_)|refine au (hK:=?_)|refine aQ (hK:=fun b=>?_)|refine cD (jI (by omega) ?_)|refine callD_mk (hSet _ _ _ _ _ (fun e1 ρ' hr=>?_) (fun e1=>?_))))
    all_goals first
     | exact absurd trivial (by assumption)
     | exact ak bC (aj rfl) (h1 _ _ _ (if_neg (by rw [e1];simp)) hr)
     | exact ak bC (aj rfl) (h2 _ ρ (if_pos e1))
  ·rw [d2,if_pos rfl] at h1 h2
   cases d4:((kB x).2.1.toList == litOne.toList)
   ·have h3:=h2 (v+1) ρ (by rw [d4,if_neg (by simp)])
    refine ACallF.dropL (aa Tryz.func74 rfl ?_);simp only [Tryz.ntmps74]
    repeat' (first|simp only [WL,ay,dx,WM,reduceCtorEq,bg,Nat.reduceAdd,Nat.reduceSub,Nat.reduceLT,Nat.reduceEqDiff,Bool.not_true,true_and,reduceIte,Bool.false_eq_true,cb,fR c9,Ap,Tryz.results74,d1,hY,hT,hO,d2,d4]|simp (disch:=first|omega|(simp only [aU];omega)) only [an]|(with_reducible first|refine ax (hb:=?_)|refine au (hK:=?_)|refine aP (hK:=?_)|refine aQ (hK:=fun b=>?_)|refine cD (jI (by omega) ?_))|((with_reducible first|refine ai (fun h=>?_) (fun h=>?_)|refine ab (fun h=>?_) (fun h=>?_))<;>(try simp only [h])<;>(try simp only [bf,ba] at h)))
    all_goals first
     | exact absurd trivial (by assumption)
     | exact ak bC (aj rfl) h3
   ·rw [d4] at h1 h2
    refine ACallF.dropL (aa Tryz.func74 rfl ?_);simp only [Tryz.ntmps74]
    repeat' (first|simp only [WL,ay,dx,WM,reduceCtorEq,bg,Nat.reduceAdd,Nat.reduceSub,Nat.reduceLT,Nat.reduceEqDiff,Bool.not_true,true_and,reduceIte,Bool.false_eq_true,cb,fR c9,Ap,Tryz.results74,d1,hY,hT,hO,d2,d4]|simp (disch:=first|omega|(simp only [aU];omega)) only [an]|(with_reducible first|refine ax (hb:=?_)|refine au (hK:=?_)|refine aP (hK:=?_)|refine aQ (hK:=fun b=>?_)|refine cD (jI (by omega) ?_))|((with_reducible first|refine ai (fun h=>?_) (fun h=>?_)|refine ab (fun h=>?_) (fun h=>?_))<;>(try simp only [h])<;>(try simp only [bf,ba] at h)))
    all_goals first
     | exact absurd trivial (by assumption)
     | exact ak bC (aj rfl) (h1 _ _ _ (if_pos ⟨by omega,rfl⟩) hR)
     | exact ak bC (aj rfl) (h2 (v+1) ρ (if_neg (fun h=>absurd h.1 (by omega))))
def Q9 (ls:List Ln) (i:Int):Prop:=∃ ev k,jz ls i (Dj ls i)=.ok (ev,k)∧0 < ev.length∧ev.length≤1000000∧(∀ e∈ev,e.t.size≤1000000)∧¬(k < ls.length∧aZ (aF ls k).1 (aF ls k).2=2)
def GM (κ:Ctx) (ls:List Ln) (Q:Int→Prop):Prop:=∀ {pr sb:Nat} {i:Int} {y:AV} {l:List EvV} {ρ:List Res} {m:MapL} {σ:List Res} {K:Ret→List Res→Prop},Q i→Sc σ sb m→MOk m→RowR 6 y (l.map EVA) ρ→l.length≤100000000→0≤i∧i < ls.length →
 (∀ ev k d y' ρ',mK ls i m=.ok (ev,k,d)→RowR 6 y' ((l++ev).map EVA) ρ'→K (.ret (I 0)) (.obj pr (SR ls k y')::(ρ'++σ)))→(∀ e,mK ls i m=.error e→K (.ret (I e)) σ)→ACallF κ Tryz.prog 59 [JP pr,JP sb] (.obj pr (SR ls i y)::(ρ++σ)) K
theorem CD {m:MapL}{l l':List EvV} (h:fB m l=.ok l'):l'.length=l.length:=by
 unfold fB at h;split at h
 ·cases h;exact List.length_map _
 ·cases h
end Go.Proofs.YthkabaiamcjdbaaGreat
