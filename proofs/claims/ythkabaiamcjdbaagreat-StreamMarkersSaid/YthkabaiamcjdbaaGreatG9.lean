/-
  Texts Sv, Si, Sd, Db, Dc, Hk, MH, one behind the other.
-/
import Derived.Test.YthkabaiamcjdbaaGreatG8
set_option linter.unusedVariables false
set_option linter.unusedSimpArgs false
set_option maxHeartbeats 16000000
/-
 Plain specifications for chapter 8: at places of a text. No program in sight.
-/


namespace Go.Abs
theorem Aq {l:List Int}{k:Nat} (h:k+1 < l.length) (h1:l.getD k 0=39) (h2:l.getD (k+1) 0=39):nq (l.drop k)=39::nq (l.drop (k+2)):=by
 rw [a9 (show k < l.length by omega),a9 h,h1,h2,J3]
theorem AT {l:List Int}{k:Nat} (h:k < l.length) (hn:¬(l.getD k 0=39∧k+1 < l.length∧l.getD (k+1) 0=39)):nq (l.drop k)=l.getD k 0::nq (l.drop (k+1)):=by
 rw [a9 h]
 by_cases hk:k+1 < l.length
 ·rw [a9 hk,Gi (fun h3=>hn ⟨h3.1,hk,h3.2⟩)]
 ·rw [List.drop_eq_nil_of_le (by omega)];rfl
theorem Ah {l:List Int}{k n:Nat} (h:k < l.length) (hn:¬l.getD k 0=39):ir n (l.drop k)=ir (n+1) (l.drop (k+1)):=by
 rw [a9 h]
 by_cases hk:k+1 < l.length
 ·rw [a9 hk];simp only [ir];rw [if_neg hn]
 ·rw [List.drop_eq_nil_of_le (by omega)];simp only [ir];rw [if_neg hn]
theorem yp {l:List Int}{k n:Nat} (h:k+1 < l.length) (h1:l.getD k 0=39) (h2:l.getD (k+1) 0=39):ir n (l.drop k)=ir (n+2) (l.drop (k+2)):=by
 rw [a9 (show k < l.length by omega),a9 h,h1,h2];simp [ir]
theorem pI {l:List Int}{k n:Nat} (h:k < l.length) (h1:l.getD k 0=39) (h2:¬(k+1 < l.length∧l.getD (k+1) 0=39)):ir n (l.drop k)=((n:Int),true):=by
 rw [a9 h,h1]
 by_cases hk:k+1 < l.length
 ·rw [a9 hk];simp only [ir];rw [if_pos trivial,if_neg (fun e=>h2 ⟨hk,e⟩)]
 ·rw [List.drop_eq_nil_of_le (by omega)];simp [ir]
theorem Gy {n:Nat}:ir n []=(0,false):=rfl
theorem qH:∀ l:List (List Int),tot (l.map nq)≤tot l
 | []=>Nat.le_refl _
 | t::r=>by
  have h1:=qH r
  have h2:=vO t
  simp only [tot,List.map_cons,List.sum_cons] at *
  omega
theorem C0 (t:List Int):i5 [t]=t:=by simp [i5,di,gh,dg]
theorem II {l:List (List Int)}{k:Nat} (h:k < l.length):(l.take (k+1)).map nq=(l.take k).map nq++[nq (l.getD k [])]:=by
 rw [List.take_succ_eq_append_getElem h,List.map_append,List.map_cons,List.map_nil,List.getD_eq_getElem?_getD,List.getElem?_eq_getElem h]
 rfl
end Go.Abs
/-
 Walks: chapter 8,single quotes.
-/




namespace Go.Proofs.YthkabaiamcjdbaaGreat
open Go.Abs
variable {κ:Ctx} {σ:List Res} {K:Ret→List Res→Prop} {o o':Option (Option (Nat × Nat))}
theorem TW {l:List Int} (hl:l.length≤1000000000) (hK:K (.ret (.tup [I (ir 0 l).1,B (ir 0 l).2])) σ):ACallF κ Tryz.prog 199 [SI o l] σ K:=by
 have Oh:∀ k:Nat,((k:Int)+1).toNat=k+1:=fun k=>by omega
 refine ACallF.dropL (aa Tryz.func199 rfl ?_)
 simp only [Tryz.ntmps199]
 repeat' (first|simp only [WL,WM,Nat.reduceAdd,Nat.reduceSub])
 refine bH (fun k:Nat=>⟨(SI o l::.any::.any::.any::I k::.any::.any::.any::.any::.any::.any::.any::.any::.any::.any::.any::.any::.any::.any::.any::.any::.any::.any::.any::.any::.any::.any::.any::.any::.any::.any::.any::.any::.any::[]),σ,true,[]⟩) (fun k=>k≤l.length∧ir 0 l=ir k (l.drop k)) (fun k=>l.length - k) 0 (ao bz id) ⟨Nat.zero_le _,by simp⟩ ?_
 rintro k ⟨h1,h2⟩
 repeat' (first|simp only [WL,aD,WM,reduceCtorEq,ba,Nat.reduceAdd,Bool.not_true,true_and,reduceIte,Bool.false_eq_true,T3,bX,Tryz.results199,Oh]|simp (disch:=first|omega|(simp only [aT];omega)) only [aq,aV]|with_reducible refine aC (hb:=?_)|((with_reducible first|refine ai (fun h=>?_) (fun h=>?_)|refine ab (fun h=>?_) (fun h=>?_))<;>(try simp only [h])<;>(try simp only [bg,bm] at h)))
 ·exact ⟨k+1,ao bz id,⟨by omega,by rw [h2,Ah (by omega) (by assumption)]⟩,by omega⟩
 ·exact ⟨k+2,ao bz id,⟨by omega,by rw [h2,yp (by omega) (by assumption) (by assumption)]⟩,by omega⟩
 ·exact ak ah (aj (by rw [h2,pI (by omega) (by assumption) (fun e=>by rename_i h9 _;first|exact absurd e.2 (by assumption)|exact absurd e.1 (by omega))])) hK
 ·exact ak ah (aj (by rw [h2,pI (by omega) (by assumption) (fun e=>absurd e.1 (by omega))])) hK
 ·exact ak ah (aj (by rw [h2,List.drop_eq_nil_of_le (by omega),Gy])) hK
theorem D6 {l:List Int} (hl:l.length≤1000000000) (hK:K (.ret (SI none (nq l))) σ):ACallF κ Tryz.prog 202 [SI o l] σ K:=by
 have Oh:∀ k:Nat,((k:Int)+1).toNat=k+1:=fun k=>by omega
 refine ACallF.dropL (aa Tryz.func202 rfl ?_)
 simp only [Tryz.ntmps202]
 repeat' (first|simp only [WL,WM,Nat.reduceAdd,Nat.reduceSub])
 refine bH (fun x:Nat × List Int × Option (Nat × Nat)=>⟨(SI o l::.any::.any::SI (some x.2.2) x.2.1::I x.1::.any::.any::.any::.any::.any::.any::.any::.any::.any::.any::.any::.any::.any::.any::.any::.any::.any::.any::.any::.any::.any::.any::.any::.any::.any::.any::.any::.any::.any::.any::.any::.any::.any::.any::.any::.any::[]),.tip x.2.2::σ,true,[]⟩) (fun x=>x.1≤l.length∧nq l=x.2.1++nq (l.drop x.1)∧x.2.1.length≤x.1) (fun x=>l.length - x.1) (0,[],none) (aL bz ResW.void id) ⟨Nat.zero_le _,by simp,Nat.le_refl _⟩ ?_
 rintro ⟨k,out,tk⟩ ⟨h1,h2,h3⟩
 dsimp only at h1 h2 h3 ⊢
 repeat' (first|simp only [WL,aD,WM,reduceCtorEq,ba,Nat.reduceAdd,Bool.not_true,true_and,reduceIte,Bool.false_eq_true,T3,bX,Tryz.results202,Oh]|simp (disch:=first|omega|(simp only [aT];omega)) only [aq,aV]|(with_reducible first|refine aC (hb:=?_)|refine cq (hlen:=?_) (hmax:=?_) (hK:=fun tk=>?_)|refine cF (hK:=?_))|((with_reducible first|refine ai (fun h=>?_) (fun h=>?_)|refine ab (fun h=>?_) (fun h=>?_))<;>(try simp only [h])<;>(try simp only [bg,bm] at h))|omega|(refine bq ?_;(first|omega|(simp only [aT];omega))))
 ·exact ⟨(k+2,out++[39],_),aL (by rw [show l.getD k 0=39 by assumption];exact bz) (ResW.refl _) id,⟨by dsimp only;omega,by dsimp only;rw [h2,Aq (by omega) (by assumption) (by assumption)];simp,by simp;omega⟩,by dsimp only;omega⟩
 all_goals first
  | exact ⟨(k+1,out++[l.getD k 0],_),aL bz (ResW.refl _) id,⟨by dsimp only;omega,by dsimp only;rw [h2,AT (by omega) (fun e=>by first|exact absurd e.1 (by assumption)|exact absurd e.2.2 (by assumption)|exact absurd e.2.1 (by omega))];simp,by simp;omega⟩,by dsimp only;omega⟩
  | exact ak (ae ah) (d8 (by rw [h2,List.drop_eq_nil_of_le (by omega)];simp only [nq,List.append_nil];exact le_ro)) hK
theorem QG {l:List (List Int)} (hl:tot l≤1000000000) (hK:K (.ret (SI none (i5 (l.map nq)))) σ):ACallF κ Tryz.prog 176 [lN o l] σ K:=by
 have hlen:=gb l
 have hz:∀ k,tot ((l.take k).map nq)≤tot l:=fun k=>Nat.le_trans (qH _) (kQ l k)
 have hw:=qH l
 refine ACallF.dropL (aa Tryz.func176 rfl ?_)
 simp only [Tryz.ntmps176]
 repeat' (first|simp only [WL,WM,Nat.reduceAdd,Nat.reduceSub,true_and,il])
 refine bH (fun x:Nat × Option (Nat × Nat)=>⟨(lN o l::.any::.any::lN (some x.2) ((l.take x.1).map nq)::.any::.any::lN o l::I l.length::I x.1::.any::.any::.any::.any::.any::.any::.any::.any::.any::.any::.any::[]),.tip x.2::σ,true,[]⟩) (fun x=>x.1≤l.length) (fun x=>l.length - x.1) (0,none) (aL bz ResW.void id) (Nat.zero_le _) ?_
 rintro ⟨k,tk⟩ h1
 dsimp only at h1 ⊢
 have e2:=nQ (l:=l) k
 repeat' (first|simp only [WL,aD,WM,reduceCtorEq,ba,Nat.reduceAdd,true_and,bX,il,IF,M3,Tryz.results176]|simp (disch:=first|omega|(simp only [aT];omega)) only [aq,wS]|(with_reducible first|refine aC (hb:=?_)|refine cq (hlen:=?_) (hmax:=?_) (hK:=fun tk=>?_)|refine cF (hK:=?_)|refine cD (Px ?_ ?_)|refine cD (D6 ?_ ?_))|((with_reducible first|refine ai (fun h=>?_) (fun h=>?_)|refine ab (fun h=>?_) (fun h=>?_))<;>(try simp only [h])<;>(try simp only [bg,bm] at h))|omega|(simp only [aT];omega)|(refine bq ?_;(first|omega|(simp only [aT];omega))))
 ·exact ⟨(k+1,_),aL (by dsimp only;rw [II (by omega)];exact bz) (ResW.refl _) id,by dsimp only;omega,by dsimp only;omega⟩
 ·have:=hz k;omega
 ·exact ak (ae ah) (aj (by rw [List.take_of_length_le (by omega)])) hK
end Go.Proofs.YthkabaiamcjdbaaGreat
/-
 Plain specifications for chapter 7: texts cO double quotes. No program in sight.
-/



namespace Go.Abs
def hU:Nat→List Int→Int × Bool
 | _,[]=>(0,false)
 | k,[c]=>if c=34 then (k,true) else (0,false)
 | k,c::d::r=>if c=92 then hU (k+2) r else if c=34 then (k,true) else hU (k+1) (d::r)
theorem wY {l:List Int}{k n:Nat} (h:k < l.length) (h1:l.getD k 0=92):hU n (l.drop k)=hU (n+2) (l.drop (k+2)):=by
 rw [a9 h,h1]
 by_cases hk:k+1 < l.length
 ·rw [a9 hk];simp only [hU];rw [if_pos trivial]
 ·rw [List.drop_eq_nil_of_le (show l.length≤k+1 by omega),List.drop_eq_nil_of_le (show l.length≤k+2 by omega)];simp [hU]
theorem w6 {l:List Int}{k n:Nat} (h:k < l.length) (h1:l.getD k 0=34):hU n (l.drop k)=((n:Int),true):=by
 rw [a9 h,h1]
 by_cases hk:k+1 < l.length
 ·rw [a9 hk];simp only [hU];rw [if_neg (by decide),if_pos trivial]
 ·rw [List.drop_eq_nil_of_le (show l.length≤k+1 by omega)];simp [hU]
theorem zW {l:List Int}{k n:Nat} (h:k < l.length) (h1:¬l.getD k 0=92) (h2:¬l.getD k 0=34):hU n (l.drop k)=hU (n+1) (l.drop (k+1)):=by
 rw [a9 h]
 by_cases hk:k+1 < l.length
 ·rw [a9 hk];simp only [hU];rw [if_neg h1,if_neg h2]
 ·rw [List.drop_eq_nil_of_le (show l.length≤k+1 by omega)];simp only [hU];rw [if_neg h2]
theorem GU {n:Nat}:hU n []=(0,false):=rfl
abbrev TC (x:Int × Bool):AV:=.agg [I x.1,B x.2]
abbrev SG (o:Option (Option (Nat × Nat))) (l:List (Int × Bool)):AV:=.sl 2 o (l.map TC)
theorem N8 {l:List (Int × Bool)}{k:Nat} (h:k < l.length):(l.map TC).getD k .any=TC (l.getD k (0,false)):=by
 simp [List.getD_eq_getElem?_getD,h]
def ox (x:Int × Bool):Bool:=!x.2 && blankI x.1
def gC (c:Int):Int × Bool :=
 if c=48 then (0,true) else if c=97 then (7,true) else if c=98 then (8,true) else if c=116∨c=9 then (9,true) else if c=110 then (10,true)
 else if c=118 then (11,true) else if c=102 then (12,true) else if c=114 then (13,true) else if c=101 then (27,true) else if c=32∨c=34∨c=47∨c=92 then (c,true)
 else if c=78 then (133,true) else if c=95 then (160,true) else if c=76 then (8232,true) else if c=80 then (8233,true) else (0,false)
def kv (c:Int):Nat:=if c=120 then 2 else if c=117 then 4 else if c=85 then 8 else 0
theorem yc (c:Int):kv c≤8:=by unfold kv;(repeat' split)<;>omega
def pO:Int→List Int→Option Int
 | a,[]=>some a
 | a,d::r=>if ky d < 0 then none else pO (a * 16+ky d) r
def wm:Option Int→Int × Int
 | none=>(0,2)
 | some c=>if hZ c then (c,0) else (0,4)
def iH (l:List Int) (n:Nat):Int × Int:=if l.length < n then (0,2) else wm (pO 0 (l.take n))
theorem EF {α:Type}{p:α→Bool}{d:α}:∀ {l:List α},0 < l.length→p (l.getD 0 d)=true→l.dropWhile p=(l.drop 1).dropWhile p
 | [],h,_=>by simp at h
 | x::l,_,h=>by
  have:p x=true:=by simpa using h
  simp [List.dropWhile_cons,this]
theorem GC {α:Type}{p:α→Bool}{d:α}:∀ {l:List α},0 < l.length→p (l.getD 0 d)=false→l.dropWhile p=l
 | [],h,_=>by simp at h
 | x::l,_,h=>by
  have:p x=false:=by simpa using h
  simp [List.dropWhile_cons,this]
theorem oQ {α:Type}{d:α}{l:List α} (h:0 < l.length):l=l.take (l.length - 1)++[l.getD (l.length - 1) d]:=by
 have h2:l.length - 1 < l.length:=by omega
 conv=>lhs;rw [← List.take_length (l:=l),show l.length=l.length - 1+1 by omega]
 rw [List.take_succ_eq_append_getElem h2,List.getD_eq_getElem?_getD,List.getElem?_eq_getElem h2]
 rfl
theorem Fp {α:Type}{p:α→Bool}{d:α}{l:List α} (h:0 < l.length) (hb:p (l.getD (l.length - 1) d)=true):(l.reverse.dropWhile p).reverse=((l.take (l.length - 1)).reverse.dropWhile p).reverse:=by
 conv=>lhs;rw [oQ (d:=d) h]
 rw [List.reverse_append]
 simp only [List.reverse_cons,List.reverse_nil,List.nil_append,List.cons_append,List.dropWhile_cons,hb,if_true]
theorem GD {α:Type}{p:α→Bool}{d:α}{l:List α} (h:0 < l.length) (hb:p (l.getD (l.length - 1) d)=false):(l.reverse.dropWhile p).reverse=l:=by
 conv=>lhs;rw [oQ (d:=d) h]
 rw [List.reverse_append]
 simp only [List.reverse_cons,List.reverse_nil,List.nil_append,List.cons_append,List.dropWhile_cons,hb,Bool.false_eq_true,if_false]
 rw [List.reverse_reverse]
 exact (oQ h).symm
def iU (l:List Int):Int × Int × Int :=
 match l with
 | []=>(0,0,2)
 | c::r=>if (gC c).2 then ((gC c).1,1,0) else if kv c=0 then (0,0,2) else ((iH r (kv c)).1,(kv c:Int)+1,(iH r (kv c)).2)
theorem qU {l:List Int} (h:0 < l.length):iU l=if (gC (l.getD 0 0)).2 then ((gC (l.getD 0 0)).1,1,0) else if kv (l.getD 0 0)=0 then (0,0,2) else ((iH (l.drop 1) (kv (l.getD 0 0))).1,(kv (l.getD 0 0):Int)+1,(iH (l.drop 1) (kv (l.getD 0 0))).2):=by
 cases l with
 | nil=>simp at h
 | cons c r=>rfl
theorem ES {l:List Int} (h:l.length=0):iU l=(0,0,2):=by
 obtain rfl:=List.eq_nil_of_length_eq_zero h
 rfl
theorem yv {m:List Int}{a:Int}{k:Nat} (h:k < m.length):pO a (m.drop k)=if ky (m.getD k 0) < 0 then none else pO (a * 16+ky (m.getD k 0)) (m.drop (k+1)):=by
 rw [a9 h];rfl
theorem R7 {k:Nat} (h:k≤8):2 ^ (4 * k)≤4294967296∧2 ^ (4 * (k+1))=16 * 2 ^ (4 * k):=by
 refine ⟨Nat.le_trans (Nat.pow_le_pow_right (by decide) (show 4 * k≤32 by omega)) (by decide), ?_⟩
 rw [show 4 * (k+1)=4 * k+4 by omega,Nat.pow_add];omega
theorem PS (l:List Int):0≤(iU l).2.1∧(iU l).2.1≤9:=by
 unfold iU
 split
 ·decide
 ·rename_i c r
  have:=yc c
  (repeat' split)<;>(try simp only)<;>omega
def fH (last:Bool):Nat→List (Int × Bool)→List Int→List (Int × Bool) × Bool × Int
 | 0,acc,_=>(acc,false,0)
 | _+1,acc,[]=>(acc,false,0)
 | f+1,acc,c::r =>
  if ¬c=92 then fH last f (acc++[(c,false)]) r
  else if r=[]∧last=false then (acc,true,0)
  else if ¬(iU r).2.2=0 then ([],false,(iU r).2.2)
  else fH last f (acc++[((iU r).1,true)]) (r.drop (iU r).2.1.toNat)
def dx (last:Bool) (l:List Int):List (Int × Bool) × Bool × Int:=fH last l.length [] l
theorem mK (last:Bool):∀ (f:Nat) (acc:List (Int × Bool)) (l:List Int),(fH last f acc l).1.length≤acc.length+l.length
 | 0,acc,l=>by simp [fH]
 | f+1,acc,[]=>by simp [fH]
 | f+1,acc,c::r=>by
  have h1:=mK last f (acc++[(c,false)]) r
  have h2:=mK last f (acc++[((iU r).1,true)]) (r.drop (iU r).2.1.toNat)
  simp only [List.length_append,List.length_cons,List.length_nil,List.length_drop] at h1 h2 ⊢
  unfold fH
  (repeat' split)
  all_goals first|omega|(simp;done)|(simp;omega)
theorem wJ (last:Bool) (l:List Int):(dx last l).1.length≤l.length:=by
 have:=mK last l.length [] l
 simpa [dx] using this
theorem lf (last:Bool):∀ (f f':Nat) (acc:List (Int × Bool)) (l:List Int),l.length≤f→l.length≤f'→fH last f acc l=fH last f' acc l
 | 0,0,_,_,_,_=>rfl
 | 0,f'+1,acc,l,h,_=>by
  obtain rfl:=List.eq_nil_of_length_eq_zero (by omega:l.length=0)
  rfl
 | f+1,0,acc,l,_,h=>by
  obtain rfl:=List.eq_nil_of_length_eq_zero (by omega:l.length=0)
  rfl
 | f+1,f'+1,acc,[],_,_=>rfl
 | f+1,f'+1,acc,c::r,h,h'=>by
  simp only [List.length_cons] at h h'
  have h1:=lf last f f' (acc++[(c,false)]) r (by omega) (by omega)
  have h2:=lf last f f' (acc++[((iU r).1,true)]) (r.drop (iU r).2.1.toNat) (by simp;omega) (by simp;omega)
  unfold fH
  rw [h1,h2]
def fi (last:Bool) (l:List Int) (acc:List (Int × Bool)) (k:Nat):List (Int × Bool) × Bool × Int:=fH last (l.length - k) acc (l.drop k)
theorem AI {last:Bool}{l:List Int}{acc:List (Int × Bool)}{k:Nat} (h:l.length≤k):fi last l acc k=(acc,false,0):=by
 unfold fi;rw [show l.length - k=0 by omega];rfl
theorem v9 {last:Bool}{l:List Int}{acc:List (Int × Bool)}{k:Nat} (h:k < l.length) (h1:¬l.getD k 0=92):fi last l acc k=fi last l (acc++[(l.getD k 0,false)]) (k+1):=by
 unfold fi
 rw [show l.length - k=(l.length - (k+1))+1 by omega,a9 h]
 simp only [fH]
 rw [if_pos h1]
theorem xq {last:Bool}{l:List Int}{acc:List (Int × Bool)}{k:Nat} (h:k+1=l.length) (h1:l.getD k 0=92) (h2:last=false):fi last l acc k=(acc,true,0):=by
 unfold fi
 rw [show l.length - k=(l.length - (k+1))+1 by omega,a9 (show k < l.length by omega)]
 simp only [fH]
 rw [if_neg (by simpa using h1),if_pos ⟨List.drop_eq_nil_of_le (by omega),h2⟩]
theorem sq {last:Bool}{l:List Int}{acc:List (Int × Bool)}{k:Nat} (h:k < l.length) (h1:l.getD k 0=92) (h2:¬(k+1=l.length∧last=false)) (h3:¬(iU (l.drop (k+1))).2.2=0):fi last l acc k=([],false,(iU (l.drop (k+1))).2.2):=by
 unfold fi
 rw [show l.length - k=(l.length - (k+1))+1 by omega,a9 h]
 simp only [fH]
 rw [if_neg (by simpa using h1),if_neg (fun e=>h2 ⟨by have:=e.1;simp at this;omega,e.2⟩),if_pos h3]
theorem sD {last:Bool}{l:List Int}{acc:List (Int × Bool)}{k:Nat}{n:Nat} (h:k < l.length) (h1:l.getD k 0=92) (h2:¬(k+1=l.length∧last=false)) (h3:(iU (l.drop (k+1))).2.2=0) (hn:(iU (l.drop (k+1))).2.1=(n:Int)):fi last l acc k=fi last l (acc++[((iU (l.drop (k+1))).1,true)]) (k+1+n):=by
 unfold fi
 rw [show l.length - k=(l.length - (k+1))+1 by omega,a9 h]
 simp only [fH]
 rw [if_neg (by simpa using h1),if_neg (fun e=>h2 ⟨by have:=e.1;simp at this;omega,e.2⟩),if_neg (by simpa using h3),hn]
 rw [Int.toNat_natCast,List.drop_drop]
 exact lf last _ _ _ _ (by simp;omega) (by simp)
def oH (b:Bool) (t:List (Int × Bool)):List (Int × Bool):=if b then t.dropWhile ox else t
def p8 (b:Bool) (t:List (Int × Bool)):List (Int × Bool):=if b then (t.reverse.dropWhile ox).reverse else t
def oB (i n:Nat) (x:List (Int × Bool) × Bool):List (Int × Bool):=p8 (decide (i+1 < n) && !x.2) (oH (decide (0 < i)) x.1)
def jx (n:Nat):Nat→Bool→Nat→List (List (Int × Bool) × Bool)→List Int
 | _,_,_,[]=>[]
 | i,j,e,x::r =>
  if oB i n x=[]∧x.2=false∧j=false∧i+1 < n then jx n (i+1) j (e+1) r
  else (if j=false∧e=0 then [32] else [])++List.replicate e 10++(oB i n x).map (·.1)++jx n (i+1) x.2 0 r
def uM (l:List (List (Int × Bool) × Bool)):List Int:=jx l.length 0 true 0 l
def cR:List (List Int)→List (List (Int × Bool) × Bool) × Int
 | []=>([],0)
 | t::r=>let x:=dx r.isEmpty t
  if ¬x.2.2=0 then ([],x.2.2) else if ¬(cR r).2=0 then ([],(cR r).2) else ((x.1,x.2.1)::(cR r).1,0)
def jh (l:List (List Int)):List Int × Int:=if ¬(cR l).2=0 then ([],(cR l).2) else (uM (cR l).1,0)
/-! ### Lines -/
abbrev TE (x:List (Int × Bool) × Bool):AV:=.agg [SG none x.1,B x.2]
abbrev zv (o:Option (Option (Nat × Nat))) (l:List (List (Int × Bool) × Bool)):AV:=.sl 2 o (l.map TE)
theorem P6 {l:List (List (Int × Bool) × Bool)}{k:Nat} (h:k < l.length):(l.map TE).getD k .any=TE (l.getD k ([],false)):=by
 simp [List.getD_eq_getElem?_getD,h]
def mO (l:List (List (Int × Bool) × Bool)):Nat:=(l.map fun t=>t.1.length+1).sum
theorem FJ (l:List (List (Int × Bool) × Bool)):l.length≤mO l:=by
 induction l with
 | nil=>simp [mO]
 | cons x r ih=>simp only [mO,List.map_cons,List.sum_cons,List.length_cons] at *;omega
theorem F3 {l:List (List (Int × Bool) × Bool)} (k:Nat):(l.getD k ([],false)).1.length≤mO l:=by
 induction l generalizing k with
 | nil=>simp [mO]
 | cons x r ih =>
  cases k with
  | zero=>simp [mO];omega
  | succ k=>have:=ih k;simp only [mO,List.map_cons,List.sum_cons,List.getD_cons_succ] at *;omega
theorem Fw (b:Bool) (t:List (Int × Bool)):(p8 b t).length≤t.length:=by
 unfold p8
 split
 ·have:=(List.dropWhile_suffix ox (l:=t.reverse)).length_le
  simpa using this
 ·exact Nat.le_refl _
theorem ve (b:Bool) (t:List (Int × Bool)):(oH b t).length≤t.length:=by
 unfold oH
 split
 ·exact (List.dropWhile_suffix ox).length_le
 ·exact Nat.le_refl _
theorem yD (i n:Nat) (x:List (Int × Bool) × Bool):(oB i n x).length≤x.1.length:=Nat.le_trans (Fw _ _) (ve _ _)
theorem o9 (n:Nat):∀ (l:List (List (Int × Bool) × Bool)) (i:Nat) (j:Bool) (e:Nat),(jx n i j e l).length≤e+mO l
 | [],i,j,e=>by simp [jx]
 | x::r,i,j,e=>by
  have h1:=o9 n r (i+1) j (e+1)
  have h2:=o9 n r (i+1) x.2 0
  have h3:=yD i n x
  simp only [mO,List.map_cons,List.sum_cons] at *
  unfold jx
  split
  ·omega
  ·simp only [List.length_append,List.length_replicate,List.length_map]
   split<;>simp<;>omega
theorem uW (l:List (List (Int × Bool) × Bool)):(uM l).length≤mO l:=by have:=o9 l.length l 0 true 0;unfold uM;omega
theorem tZ {l:List (List (Int × Bool) × Bool)}{k:Nat} (h:k < l.length):l.drop k=l.getD k ([],false)::l.drop (k+1):=by
 rw [List.drop_eq_getElem_cons h]
 simp [List.getD_eq_getElem?_getD,h]
theorem Af {n i:Nat}{j:Bool}{e:Nat}{l:List (List (Int × Bool) × Bool)}{T:List (Int × Bool)} (h:i < l.length) (hT:oB i n (l.getD i ([],false))=T) (h1:T.length=0) (h2:(l.getD i ([],false)).2=false) (h3:j=false) (h4:i+1 < n) :
  jx n i j e (l.drop i)=jx n (i+1) j (e+1) (l.drop (i+1)):=by
 rw [tZ h]
 simp only [jx]
 rw [if_pos ⟨by rw [hT];exact List.eq_nil_of_length_eq_zero h1,h2,h3,h4⟩]
theorem z2 {n i:Nat}{j:Bool}{e:Nat}{l:List (List (Int × Bool) × Bool)}{T:List (Int × Bool)}{s:List Int} (h:i < l.length) (hT:oB i n (l.getD i ([],false))=T) (h1:¬(T.length=0∧(l.getD i ([],false)).2=false∧j=false∧i+1 < n))
  (hs:s=if j=false∧e=0 then [32] else []):jx n i j e (l.drop i)=s++List.replicate e 10++T.map (·.1)++jx n (i+1) (l.getD i ([],false)).2 0 (l.drop (i+1)):=by
 rw [tZ h]
 simp only [jx]
 rw [if_neg (fun e=>h1 ⟨by rw [← hT,e.1];rfl,e.2⟩),hT,hs]
theorem xF {T:List (Int × Bool)}{m:Nat} (h:m < T.length):(T.take (m+1)).map (·.1)=(T.take m).map (·.1)++[(T.getD m (0,false)).1]:=by
 rw [List.take_succ_eq_append_getElem h,List.map_append,List.getD_eq_getElem?_getD,List.getElem?_eq_getElem h]
 rfl
theorem As {t:List Int}{r:List (List Int)} (h:¬(dx r.isEmpty t).2.2=0):cR (t::r)=([],(dx r.isEmpty t).2.2):=by
 simp only [cR];rw [if_pos h]
theorem DB {t:List Int}{r:List (List Int)} (h:(dx r.isEmpty t).2.2=0):(cR (t::r)).2=(cR r).2∧((cR r).2=0→(cR (t::r)).1=((dx r.isEmpty t).1,(dx r.isEmpty t).2.1)::(cR r).1):=by
 simp only [cR]
 rw [if_neg (by simpa using h)]
 split
 ·rename_i h2;exact ⟨rfl,fun h3=>(h2 h3).elim⟩
 ·rename_i h2;exact ⟨by simp only [Decidable.not_not] at h2;exact h2.symm,fun _=>rfl⟩
theorem nh:∀ l:List (List Int),mO (cR l).1≤tot l
 | []=>by simp [cR,mO]
 | t::r=>by
  have h1:=nh r
  have h2:=wJ r.isEmpty t
  simp only [tot,mO,List.map_cons,List.sum_cons] at *
  simp only [cR]
  (repeat' split)<;>simp<;>omega
theorem Kz {l:List (List Int)}{i:Nat} (h:i < l.length):(((i:Int)+1) == (l.length:Int))=(l.drop (i+1)).isEmpty:=by
 rw [Bool.eq_iff_iff,beq_iff_eq,List.isEmpty_iff,List.drop_eq_nil_iff]
 omega
theorem Dz {l:List (List Int)}{e:Int} (h:(cR l).2=e) (h0:¬e=0):jh l=([],e):=by unfold jh;rw [h,if_pos h0]
theorem EU {l:List (List Int)} (h:(cR l).2=0):jh l=(uM (cR l).1,0):=by unfold jh;rw [h,if_neg (by decide)]
end Go.Abs
/-
 Walks: chapter 7,double quotes: what one line is.
-/



namespace Go.Proofs.YthkabaiamcjdbaaGreat
open Go.Abs
variable {κ:Ctx} {σ:List Res} {K:Ret→List Res→Prop} {o o':Option (Option (Nat × Nat))}
theorem Uh {l:List Int} (hl:l.length≤1000000000) (hK:K (.ret (.tup [I (hU 0 l).1,B (hU 0 l).2])) σ):ACallF κ Tryz.prog 198 [SI o l] σ K:=by
 refine ACallF.dropL (aa Tryz.func198 rfl ?_)
 simp only [Tryz.ntmps198]
 repeat' (first|simp only [WL,WM,Nat.reduceAdd,Nat.reduceSub])
 refine bH (fun k:Nat=>⟨(SI o l::.any::.any::.any::I k::.any::.any::.any::.any::.any::.any::.any::.any::.any::.any::.any::.any::.any::.any::.any::.any::.any::[]),σ,true,[]⟩) (fun k=>k≤l.length+1∧hU 0 l=hU k (l.drop k)) (fun k=>l.length+2 - k) 0 (ao bz id) ⟨Nat.zero_le _,by simp⟩ ?_
 rintro k ⟨h1,h2⟩
 repeat' (first|simp only [WL,aD,WM,reduceCtorEq,ba,Nat.reduceAdd,true_and,T3,bX,Tryz.results198]|simp (disch:=first|omega|(simp only [aT];omega)) only [aq,aV]|with_reducible refine aC (hb:=?_)|((with_reducible first|refine ai (fun h=>?_) (fun h=>?_)|refine ab (fun h=>?_) (fun h=>?_))<;>(try simp only [h])<;>(try simp only [bg,bm] at h)))
 ·exact ⟨k+2,ao bz id,⟨by omega,by rw [h2,wY (by omega) (by assumption)]⟩,by omega⟩
 ·exact ak ah (aj (by rw [h2,w6 (by omega) (by assumption)])) hK
 ·exact ⟨k+1,ao bz id,⟨by omega,by rw [h2,zW (by omega) (by assumption) (by assumption)]⟩,by omega⟩
 ·exact ak ah (aj (by rw [h2,List.drop_eq_nil_of_le (by omega),GU])) hK
theorem VD {c:Int} (hK:K (.ret (B (hZ c))) σ):ACallF κ Tryz.prog 229 [I c] σ K:=by
 refine ACallF.dropL (aa Tryz.func229 rfl ?_)
 simp only [Tryz.ntmps229]
 repeat' (first|simp only [WL,aD,WM,reduceCtorEq,ba,Nat.reduceAdd,Nat.reduceSub,Bool.not_true,Bool.not_false,true_and,reduceIte,Bool.false_eq_true,Tryz.results229]|((with_reducible first|refine ai (fun h=>?_) (fun h=>?_)|refine ab (fun h=>?_) (fun h=>?_))<;>(try simp only [h])<;>(try simp only [bg,bm] at h)))
 all_goals (refine ak ah (aj (congrArg B ?_)) hK;rw [Bool.eq_iff_iff];simp only [gA,decide_eq_true_eq,Bool.false_eq_true,false_iff,true_iff,eq_self];omega)
theorem OH {c:Int} (hK:K (.ret (.tup [I (gC c).1,B (gC c).2])) σ):ACallF κ Tryz.prog 224 [I c] σ K:=by
 refine ACallF.dropL (aa Tryz.func224 rfl ?_)
 simp only [Tryz.ntmps224]
 repeat' (first|simp only [WL,aD,WM,reduceCtorEq,ba,Nat.reduceAdd,Nat.reduceSub,true_and,Tryz.results224]|((with_reducible first|refine ai (fun h=>?_) (fun h=>?_)|refine ab (fun h=>?_) (fun h=>?_))<;>(try simp only [h])<;>(try simp only [bg,bm] at h)))
 all_goals (refine ak ah (aj ?_) hK;simp [gC, *])
theorem Q9 {c:Int} (hK:K (.ret (I (kv c:Nat))) σ):ACallF κ Tryz.prog 225 [I c] σ K:=by
 refine ACallF.dropL (aa Tryz.func225 rfl ?_)
 simp only [Tryz.ntmps225]
 repeat' (first|simp only [WL,aD,WM,reduceCtorEq,ba,Nat.reduceAdd,Nat.reduceSub,true_and,Tryz.results225]|((with_reducible first|refine ai (fun h=>?_) (fun h=>?_)|refine ab (fun h=>?_) (fun h=>?_))<;>(try simp only [h])<;>(try simp only [bg,bm] at h)))
 all_goals (refine ak ah (aj ?_) hK;simp [kv, *])
theorem K0 {l:List Int}{n:Nat} (hl:l.length≤1000000000) (hn:n≤8) (hK:K (.ret (.tup [I (iH l n).1,I (iH l n).2])) σ):ACallF κ Tryz.prog 226 [SI o l,I n] σ K:=by
 refine ACallF.dropL (aa Tryz.func226 rfl ?_)
 simp only [Tryz.ntmps226]
 repeat' (first|simp only [WL,aD,WM,Int.reduceToNat,reduceCtorEq,ba,Nat.reduceAdd,Nat.reduceSub,true_and,T3,bX,Tryz.results226]|with_reducible refine aC (hb:=?_)|((with_reducible first|refine ai (fun h=>?_) (fun h=>?_)|refine ab (fun h=>?_) (fun h=>?_))<;>(try simp only [h])<;>(try simp only [bg,bm] at h)))
 ·exact ak ah (aj (by unfold iH;rw [if_pos (by omega)])) hK
 have hm:(l.take n).length=n:=by simp;omega
 have hu:iH l n=wm (pO 0 (l.take n)):=by unfold iH;rw [if_neg (by omega)]
 generalize l.take n=m at *
 refine bH (fun x:Nat × Nat=>⟨(SI o l::I n::.any::.any::.any::.any::I x.2::.any::.any::.any::.any::.any::.any::.any::.any::.any::SI none m::I m.length::I x.1::.any::.any::.any::.any::.any::.any::.any::.any::.any::.any::.any::.any::.any::.any::.any::.any::[]),σ,true,[]⟩) (fun x=>x.1≤m.length∧pO 0 m=pO x.2 (m.drop x.1)∧x.2 < 2 ^ (4 * x.1)) (fun x=>m.length - x.1) (0,0) (ao bz id) ⟨Nat.zero_le _,by simp,by decide⟩ ?_
 rintro ⟨k,a⟩ ⟨h1,h2,h3⟩
 dsimp only at h1 h2 h3 ⊢
 have hp:=R7 (k:=k) (by omega)
 have hx:=JM (m.getD k 0)
 repeat' (first|simp only [WL,aD,WM,reduceCtorEq,ba,Nat.reduceAdd,true_and,T3,bX,GR,Oy,Tryz.results226]|simp (disch:=first|omega|(simp only [aT];omega)) only [aq,aV]|(with_reducible first|refine aC (hb:=?_)|refine cD (R9 ?_)|refine cD (VD ?_))|((with_reducible first|refine ai (fun h=>?_) (fun h=>?_)|refine ab (fun h=>?_) (fun h=>?_))<;>(try simp only [h])<;>(try simp only [bg,bm] at h)))
 ·rw [yv (by omega),if_pos (by omega)] at h2
  exact ak ah (aj (by rw [hu,h2];rfl)) hK
 ·rw [yv (by omega),if_neg (by omega)] at h2
  exact ⟨(k+1,a * 16+(ky (m.getD k 0)).toNat),ao bz id,⟨by dsimp only;omega,by dsimp only;rw [h2];congr 1;omega,by dsimp only;omega⟩,by dsimp only;omega⟩
 all_goals
  rw [List.drop_eq_nil_of_le (by omega)] at h2
  simp only [pO] at h2
 ·exact ak ah (aj (by rw [hu,h2];unfold wm;simp only;rw [if_neg (by simp [*])])) hK
 ·exact ak ah (aj (by rw [hu,h2];unfold wm;simp only;rw [if_pos (by assumption)])) hK
theorem Jm {l:List Int} (hl:l.length≤1000000000) (hK:K (.ret (.tup [I (iU l).1,I (iU l).2.1,I (iU l).2.2])) σ):ACallF κ Tryz.prog 217 [SI o l] σ K:=by
 have hb:=yc (l.getD 0 0)
 refine ACallF.dropL (aa Tryz.func217 rfl ?_)
 simp only [Tryz.ntmps217]
 repeat' (first|simp only [WL,aD,WM,Int.reduceToNat,reduceCtorEq,ba,Nat.reduceAdd,Nat.reduceSub,Nat.reduceLT,true_and,T3,bX,PZ,Oc,Nx,Tryz.results217]|simp (disch:=first|omega|(simp only [aT];omega)) only [aq,aV]|(with_reducible first|refine aC (hb:=?_)|refine cD (OH ?_)|refine cD (Q9 ?_)|refine cD (K0 ?_ ?_ ?_))|((with_reducible first|refine ai (fun h=>?_) (fun h=>?_)|refine ab (fun h=>?_) (fun h=>?_))<;>(try simp only [h])<;>(try simp only [bg,bm] at h))|omega|(simp only [aT];omega))
 all_goals first
  | exact ak ah (aj (by rw [ES (by omega)])) hK
  | exact ak ah (aj (by rw [qU (by omega),if_pos (by assumption)])) hK
  | exact ak ah (aj (by rw [qU (by omega),if_neg (by simp only [*];decide),if_pos (by omega)])) hK
  | exact ak ah (aj (by rw [qU (by omega),if_neg (by simp only [*];decide),if_neg (by omega)])) hK
theorem H1 {x:Int × Bool} (hK:K (.ret (B (ox x))) σ):ACallF κ Tryz.prog 227 [TC x] σ K:=by
 refine ACallF.dropL (aa Tryz.func227 rfl ?_)
 simp only [Tryz.ntmps227]
 repeat' (first|simp only [WL,WM,Nat.reduceAdd,Nat.reduceSub,Nat.reduceEqDiff,Bool.not_true,true_and,reduceIte,Bool.false_eq_true,T3,T4,fR qE,fR wz,fw,Tryz.results227]|(with_reducible first|refine aC (hb:=?_)|refine ax (hK:=?_)|refine aP (hK:=fun b=>?_)|refine cD (Blank ?_))|((with_reducible first|refine ai (fun h=>?_) (fun h=>?_)|refine ab (fun h=>?_) (fun h=>?_))<;>(try simp only [h])<;>(try simp only [bg,bm] at h)))
 all_goals exact ak (ae ah) (aj (congrArg B (by simp [ox, *]))) hK
theorem NL {b:Nat}{l:List (Int × Bool)}{j:Bool} (hl:l.length≤1000000000) (hK:∀ o',K (.ret (.tup [])) (.obj b [SG o' (l.dropWhile ox),B j]::σ)):ACallF κ Tryz.prog 218 [.raw (.pointer (some ⟨b,0,none⟩))] (.obj b [SG o l,B j]::σ) K:=by
 refine ACallF.dropL (aa Tryz.func218 rfl ?_)
 simp only [Tryz.ntmps218]
 repeat' (first|simp only [WL,WM,Nat.reduceAdd,Nat.reduceSub])
 refine bH (fun x:Option (Option (Nat × Nat)) × List (Int × Bool)=>⟨(.raw (.pointer (some ⟨b,0,none⟩))::.any::.any::.any::.any::.any::.any::.any::.any::.any::.any::.any::.any::.any::.any::.any::.any::.any::.any::.any::.any::.any::.any::.any::.any::[]),.obj b [SG x.1 x.2,B j]::σ,true,[]⟩) (fun x=>x.2.dropWhile ox=l.dropWhile ox∧x.2.length≤l.length) (fun x=>x.2.length) (o,l) (ao bz id) ⟨rfl,Nat.le_refl _⟩ ?_
 rintro ⟨o',l'⟩ hx
 dsimp only at hx ⊢
 have h1:=hx.1
 have h2:=hx.2
 repeat' (first|simp only [WL,aD,WM,Int.reduceToNat,reduceCtorEq,ba,Nat.reduceAdd,Nat.reduceEqDiff,Bool.not_true,true_and,reduceIte,Bool.false_eq_true,Di,OP,fR kb,FH,Tryz.results218]|simp (disch:=first|omega|(simp only [aT];omega)) only [N8]|(with_reducible first|refine aC (hb:=?_)|refine ax (hK:=?_)|refine aO (hK:=?_)|refine cD (H1 ?_))|((with_reducible first|refine ai (fun h=>?_) (fun h=>?_)|refine ab (fun h=>?_) (fun h=>?_))<;>(try simp only [h])<;>(try simp only [bg,bm] at h)))
 ·exact ⟨(none,l'.drop 1),aL bz (ResW.refl _) id,⟨(EF (d:=(0,false)) (by omega) (by assumption)).symm.trans h1,by simp;omega⟩,by simp;omega⟩
 ·exact ak ah (aj rfl) (by rw [← h1,GC (d:=(0,false)) (by omega) (by assumption)] at hK;exact hK _)
 ·obtain rfl:l'=[]:=List.eq_nil_of_length_eq_zero (by omega)
  exact ak ah (aj rfl) (by rw [← h1] at hK;exact hK _)
theorem R1 {b:Nat}{l:List (Int × Bool)}{j:Bool} (hl:l.length≤1000000000) (hK:∀ o',K (.ret (.tup [])) (.obj b [SG o' (p8 (!j) l),B j]::σ)):ACallF κ Tryz.prog 219 [.raw (.pointer (some ⟨b,0,none⟩))] (.obj b [SG o l,B j]::σ) K:=by
 refine ACallF.dropL (aa Tryz.func219 rfl ?_)
 simp only [Tryz.ntmps219]
 repeat' (first|simp only [WL,WM,Nat.reduceAdd,Nat.reduceSub])
 refine bH (fun x:Option (Option (Nat × Nat)) × List (Int × Bool)=>⟨(.raw (.pointer (some ⟨b,0,none⟩))::.any::.any::.any::.any::.any::.any::.any::.any::.any::.any::.any::.any::.any::.any::.any::.any::.any::.any::.any::.any::.any::.any::.any::.any::.any::.any::.any::.any::.any::.any::.any::.any::.any::.any::.any::.any::.any::.any::.any::.any::.any::.any::.any::[]),.obj b [SG x.1 x.2,B j]::σ,true,[]⟩) (fun x=>p8 (!j) x.2=p8 (!j) l∧x.2.length≤l.length) (fun x=>x.2.length) (o,l) (ao bz id) ⟨rfl,Nat.le_refl _⟩ ?_
 rintro ⟨o',l'⟩ ⟨h1,h2⟩
 dsimp only at h1 h2 ⊢
 have e1:0 < l'.length→((l'.length:Int) - 1).toNat=l'.length - 1:=fun _=>by omega
 repeat' (first|simp only [WL,aD,WM,Int.reduceToNat,reduceCtorEq,ba,Nat.reduceAdd,Nat.reduceEqDiff,Bool.not_true,true_and,reduceIte,Bool.false_eq_true,T4,Di,OP,fR kb,fR lW,FH,Tryz.results219]|simp (disch:=first|omega|(simp only [aT];omega)) only [aq,N8,e1]|(with_reducible first|refine aC (hb:=?_)|refine ax (hK:=?_)|refine aO (hK:=?_)|refine cQ (H1 aW) ?_)|((with_reducible refine aH (id:=0) 28 mixed ?_ ?_);kernel_rfl)|((with_reducible refine aH (id:=1) 14 mixed ?_ ?_);kernel_rfl)|(with_reducible refine bP ?_)|((with_reducible first|refine ai (fun h=>?_) (fun h=>?_)|refine ab (fun h=>?_) (fun h=>?_))<;>(try simp only [h])<;>(try simp only [bg,bm] at h)))
 ·subst_vars
  exact ⟨(none,l'.take (l'.length - 1)),aL bz (ResW.refl _) id,⟨Eq.trans (Fp (d:=(0,false)) (by omega) (by assumption)).symm h1,by simp;omega⟩,by simp;omega⟩
 ·subst_vars
  exact ak ah (aj rfl) (by rw [← h1] at hK;unfold p8 at hK;simp only [Bool.not_false,if_true] at hK;rw [GD (d:=(0,false)) (by omega) (by assumption)] at hK;exact hK _)
 ·subst_vars
  obtain rfl:l'=[]:=List.eq_nil_of_length_eq_zero (by omega)
  exact ak ah (aj rfl) (by rw [← h1] at hK;exact hK _)
 ·subst_vars
  exact ak ah (aj rfl) (hK _)
theorem Qy {l:List Int}{last:Bool} (hl:l.length≤100000000) (hK:K (.ret (.tup [.agg [SG none (dx last l).1,B (dx last l).2.1],I (dx last l).2.2])) σ):ACallF κ Tryz.prog 200 [SI o l,B last] σ K:=by
 refine ACallF.dropS ?_
 have hz:dx last l=fi last l [] 0:=by simp [dx,fi]
 refine ACallF.dropL (aa Tryz.func200 rfl ?_)
 simp only [Tryz.ntmps200]
 repeat' (first|simp only [WL,WM,Nat.reduceAdd,Nat.reduceSub]|with_reducible refine aS (hK:=fun b=>?_))
 rename_i b0
 refine bH (fun x:Nat × List (Int × Bool) × Option (Nat × Nat)=>⟨(SI o l::B last::.any::.any::.raw (.pointer (some ⟨b0,0,none⟩))::.any::.raw (.pointer (some ⟨b,0,none⟩))::I x.1::.any::.any::.any::.any::.any::.any::.any::.any::.any::.any::.any::.any::.any::.any::.any::.any::.any::.any::.any::.any::.any::.any::.any::.any::.any::.any::.any::.any::.any::.any::.any::.any::.any::.any::.any::.any::.any::.any::.any::.any::.any::.any::.any::.any::.any::.any::.any::.any::.any::.any::.any::.any::.any::.any::.any::.any::.any::.any::.any::[]),.obj b [SG (some x.2.2) x.2.1,B false]::.tip x.2.2::.obj b0 [nilS,B false]::σ,true,[]⟩)
  (fun x=>x.2.1.length≤x.1∧fi last l [] 0=fi last l x.2.1 x.1∧x.1≤l.length+9) (fun x=>l.length+10 - x.1) (0,[],none) (aL bz (((ResW.void).cons _).trans (ResW.obj (fU (le_nil (by decide)) le_rfl))) id) ⟨Nat.le_refl _,rfl,by omega⟩ ?_
 rintro ⟨k,out,tk⟩ ⟨h1,h2,h3⟩
 dsimp only at h1 h2 h3 ⊢
 rw [hz,h2] at hK
 have hn:=PS (l.drop (k+1))
 obtain ⟨n,hn2⟩:=Int.eq_ofNat_of_zero_le hn.1
 repeat' (first|simp only [WL,aD,WM,reduceCtorEq,ba,Nat.reduceAdd,Nat.reduceLT,Nat.reduceEqDiff,Bool.not_true,true_and,reduceIte,Bool.false_eq_true,T3,T4,bX,Di,fR kb,fR lW,Ol,Tryz.results200,Oh]|simp (disch:=first|omega|(simp only [aT];omega)) only [aq,aV]|(with_reducible first|refine aC (hb:=?_)|refine ax (hK:=?_)|refine aA (hK:=?_)|refine aO (hK:=?_)|refine az (hK:=?_)|refine cq (hlen:=?_) (hmax:=?_) (hK:=fun tk=>?_)|refine cF (hK:=?_)|refine aG (hK:=?_)|refine cD (Jm ?_ ?_))|((with_reducible refine aU ?_);apply wT (hf:=Tryz.results200);exact aZ)|((with_reducible refine aH (id:=6) 8 mixed ?_ ?_);kernel_rfl)|(with_reducible refine bP ?_)|((with_reducible first|refine ai (fun h=>?_) (fun h=>?_)|refine ab (fun h=>?_) (fun h=>?_))<;>(try simp only [h])<;>(try simp only [bg,bm] at h))|omega|(simp only [aT];omega)|(refine bq ?_;(first|omega|(simp only [aT];omega))))
 ·exact ⟨(k+1,out++[(l.getD k 0,false)],tk),aL bz (ResW.of_eq (by simp)) id,⟨by simp;omega,by dsimp only;rw [h2,v9 (by omega) (by assumption)],by dsimp only;omega⟩,by dsimp only;omega⟩
 ·rw [xq (by omega) (by assumption) (by assumption)] at hK
  exact ak (ae (ae (ae ah))) (aj rfl) (B7 ah (qO (cz (qM (cz (dF le_ro) (cz cr gT))) (cz cr gT))) hK)
 ·rw [sq (by omega) (by assumption) (fun e=>by have e1:=e.1;have e2:=e.2;first|omega|simp_all) (by assumption)] at hK
  exact ak (ae (ae (ae ah))) (aj rfl) (B7 ah (qO (cz (qM (cz (dF (fq (by decide))) (cz cr gT))) (cz cr gT))) hK)
 ·exact ⟨(k+1+n,out++[((iU (l.drop (k+1))).1,true)],tk),aL bz (ResW.of_eq (by simp)) id,⟨by simp;omega,by dsimp only;rw [h2,sD (by omega) (by assumption) (fun e=>by have e1:=e.1;have e2:=e.2;first|omega|simp_all) (by assumption) hn2],by dsimp only;omega⟩,by dsimp only;omega⟩
 ·rw [sq (by omega) (by assumption) (fun e=>by have e1:=e.1;have e2:=e.2;first|omega|simp_all) (by assumption)] at hK
  exact ak (ae (ae (ae ah))) (aj rfl) (B7 ah (qO (cz (qM (cz (dF (fq (by decide))) (cz cr gT))) (cz cr gT))) hK)
 ·exact ⟨(k+1+n,out++[((iU (l.drop (k+1))).1,true)],tk),aL bz (ResW.of_eq (by simp)) id,⟨by simp;omega,by dsimp only;rw [h2,sD (by omega) (by assumption) (fun e=>by have e1:=e.1;have e2:=e.2;first|omega|simp_all) (by assumption) hn2],by dsimp only;omega⟩,by dsimp only;omega⟩
 ·rw [AI (by omega)] at hK
  exact ak (ae (ae (ae ah))) (aj rfl) (B7 ah (qO (cz (qM (cz (dF le_ro) (cz cr gT))) (cz cr gT))) hK)
theorem CN {l:List (List (Int × Bool) × Bool)} (hl:mO l≤1000000000) (hK:K (.ret (SI none (uM l))) σ):ACallF κ Tryz.prog 201 [zv o l] σ K:=by
 have hlen:=FJ l
 have hfl:=uW l
 refine ACallF.dropL (aR Tryz.func201 rfl ?_)
 simp only [Tryz.ntmps201]
 repeat' (first|(with_reducible first|refine ay ?_|refine bW ?_|refine al (al ?_)|refine aJ ?_|refine aB ?_)|simp only [WL,WM,Nat.reduceAdd,Nat.reduceSub,true_and,Jb])
 refine dM (fun x:Nat × List Int × Nat × Bool × Option (Nat × Nat)=>⟨(zv o l::.any::.any::SI (some x.2.2.2.2) x.2.1::I x.2.2.1::B x.2.2.2.1::.any::.any::.any::.any::zv o l::I l.length::I x.1::.any::.any::.any::.any::.any::.any::.any::.any::.any::.any::.any::.any::.any::.any::.any::.any::.any::.any::.any::.any::.any::.any::.any::.any::.any::.any::.any::.any::.any::.any::.any::.any::.any::.any::.any::.any::.any::.any::.any::.any::.any::.any::.any::.any::.any::.any::.any::.any::.any::.any::.any::.any::.any::.any::.any::.any::.any::.any::.any::.any::.any::.any::.any::.any::.any::.any::.any::[]),.tip x.2.2.2.2::σ,true,[]⟩)
  (fun x=>x.1≤l.length∧uM l=x.2.1++jx l.length x.1 x.2.2.2.1 x.2.2.1 (l.drop x.1)∧x.2.2.1≤x.1∧(x.2.2.2.1=true→x.2.2.1=0)) (fun x=>l.length - x.1) (0,[],0,true,none) (aL bz ResW.void id) ⟨Nat.zero_le _,rfl,Nat.le_refl _,fun _=>rfl⟩ ?_
 rintro ⟨i,out,e,j,tk⟩ hx
 dsimp only at hx ⊢
 have h1:=hx.1
 have h2:=hx.2.1
 have h3:=hx.2.2.1
 have h4:=hx.2.2.2
 have ol:out.length≤mO l:=by have:=congrArg List.length h2;simp only [List.length_append] at this;omega
 have tl:=yD i l.length (l.getD i ([],false))
 have tf:=ve (decide (0 < i)) (l.getD i ([],false)).1
 have tg:=F3 (l:=l) i
 repeat' (first|(with_reducible first|refine jK (id:=7) ?_|refine al (ay ?_)|refine aJ ?_|refine aY ?_)|simp only [WL,aD,WM,reduceCtorEq,ba,Nat.reduceAdd,true_and,Jb,Ud,Tryz.results201]|simp (disch:=first|omega|(simp only [aT];omega)) only [P6]|(with_reducible first|refine aC (hb:=?_)|refine az (hK:=?_)|refine aS (hK:=fun b=>?_))|((with_reducible first|refine ai (fun h=>?_) (fun h=>?_)|refine ab (fun h=>?_) (fun h=>?_))<;>(try simp only [h])<;>(try simp only [bg,bm] at h)))
 ·refine nt (fun of:Option (Option (Nat × Nat))=>⟨(zv o l::.any::.any::SI (some tk) out::I e::B j::I i::.raw (.pointer (some ⟨b,0,none⟩))::.any::.any::zv o l::I l.length::I i::.any::.any::.any::.any::.any::.any::.any::.any::.any::.any::.any::.any::.any::.any::.any::.any::.any::.any::.any::.any::.any::.any::.any::.any::.any::.any::.any::.any::.any::.any::.any::.any::.any::.any::.any::.any::.any::.any::.any::.any::.any::.any::.any::.any::.any::.any::.any::.any::.any::.any::.any::.any::.any::.any::.any::.any::.any::.any::.any::.any::.any::.any::.any::.any::.any::.any::.any::[]),.obj b [SG of (oH (decide (0 < i)) (l.getD i ([],false)).1),B (l.getD i ([],false)).2]::.tip tk::σ,true,[]⟩) (fun _=>True) ?_ ?_
  ·
   repeat' (first|(with_reducible first|refine aJ ?_|refine aw ?_)|simp only [WL,aD,WM,ne_eq,reduceCtorEq,not_false_eq_true,true_and,and_true,Oq]|with_reducible refine cD (NL ?_ (fun of=>?_))|((with_reducible first|refine ai (fun h=>?_) (fun h=>?_)|refine ab (fun h=>?_) (fun h=>?_))<;>(try simp only [h])<;>(try simp only [bg,bm] at h))|omega)
   ·exact ⟨of,aL bz (ResW.of_eq (by simp [oH,show 0 < i by omega])) id⟩
   ·exact ⟨none,aL bz (ResW.of_eq (by simp [oH,show ¬0 < i by omega])) id⟩
  ·intro of _
   refine nt (fun of:Option (Option (Nat × Nat))=>⟨(zv o l::.any::.any::SI (some tk) out::I e::B j::I i::.raw (.pointer (some ⟨b,0,none⟩))::.any::.any::zv o l::I l.length::I i::.any::.any::.any::.any::.any::.any::.any::.any::.any::.any::.any::.any::.any::.any::.any::.any::.any::.any::.any::.any::.any::.any::.any::.any::.any::.any::.any::.any::.any::.any::.any::.any::.any::.any::.any::.any::.any::.any::.any::.any::.any::.any::.any::.any::.any::.any::.any::.any::.any::.any::.any::.any::.any::.any::.any::.any::.any::.any::.any::.any::.any::.any::.any::.any::.any::.any::.any::[]),.obj b [SG of (oB i l.length (l.getD i ([],false))),B (l.getD i ([],false)).2]::.tip tk::σ,true,[]⟩) (fun _=>True) ?_ ?_
   ·
    repeat' (first|(with_reducible first|refine aJ ?_|refine aw ?_)|simp only [WL,aD,WM,ne_eq,reduceCtorEq,not_false_eq_true,true_and,and_true,Jb,OC]|simp (disch:=first|omega|(simp only [aT];omega)) only [aq]|with_reducible refine cD (R1 ?_ (fun of=>?_))|((with_reducible first|refine ai (fun h=>?_) (fun h=>?_)|refine ab (fun h=>?_) (fun h=>?_))<;>(try simp only [h])<;>(try simp only [bg,bm] at h))|omega)
    ·exact ⟨of,aL bz (ResW.of_eq (by simp [oB,show i+1 < l.length by omega])) id⟩
    ·exact ⟨of,aL bz (ResW.of_eq (by simp [oB,p8,show ¬i+1 < l.length by omega])) id⟩
   ·intro of _
    have hsk:=fun h=>Af (n:=l.length) (i:=i) (j:=j) (e:=e) (l:=l) h rfl
    have htk:=fun h=>z2 (n:=l.length) (i:=i) (j:=j) (e:=e) (l:=l) (s:=if j=false∧e=0 then [32] else []) h rfl
    generalize hT:oB i l.length (l.getD i ([],false))=T at *
    generalize hL:l.getD i ([],false)=L at *
    obtain ⟨L1,L2⟩:=L
    dsimp only at tl tg hsk htk ⊢
    generalize hS:(if j=false∧e=0 then [(32:Int)] else [])=S at *
    refine al ?_
    refine nt (fun z:Bool=>⟨(zv o l::.any::.any::SI (some tk) out::I e::B j::I i::.raw (.pointer (some ⟨b,0,none⟩))::.any::.any::zv o l::I l.length::I i::.any::.any::.any::.any::.any::.any::.any::.any::.any::.any::.any::.any::.any::.any::.any::.any::.any::.any::.any::.any::.any::.any::.any::.any::.any::.any::.any::.any::.any::.any::.any::.any::B z::.any::.any::.any::.any::.any::.any::.any::.any::.any::.any::.any::.any::.any::.any::.any::.any::.any::.any::.any::.any::.any::.any::.any::.any::.any::.any::.any::.any::.any::.any::.any::.any::.any::.any::[]),.obj b [SG of T,B L2]::.tip tk::σ,true,[]⟩) (fun z=>z=true↔(T.length=0∧L2=false∧j=false∧i+1 < l.length)) ?_ ?_
    ·
     repeat' (first|with_reducible refine aB ?_|simp only [WL,aD,WM,reduceCtorEq,ba,Nat.reduceAdd,Nat.reduceEqDiff,Bool.not_true,true_and,reduceIte,Bool.false_eq_true,T4,Jb,Di,fR kb,fR lW]|simp (disch:=first|omega|(simp only [aT];omega)) only [aq]|(with_reducible first|refine aC (hb:=?_)|refine ax (hK:=?_))|((with_reducible first|refine ai (fun h=>?_) (fun h=>?_)|refine ab (fun h=>?_) (fun h=>?_))<;>(try simp only [h])<;>(try simp only [bg,bm] at h)))
     all_goals exact ⟨_,aL bz (ResW.refl _) id,by first|exact ⟨fun h9=>⟨by omega,by assumption,by assumption,by have:=of_decide_eq_true h9;omega⟩,fun h9=>decide_eq_true (by omega)⟩|exact ⟨fun _=>⟨by omega,by assumption,by assumption,by omega⟩,fun _=>by first|rfl|assumption|(simp;omega)⟩|exact ⟨fun h9=>(by cases h9),fun h9=>(by exfalso;obtain ⟨a1,a2,a3,a4⟩:=h9;first|omega|(simp_all;done))⟩⟩
    ·intro z hz
     repeat' (first|(with_reducible first|refine B4 (id:=2) ?_|refine aB ?_|refine aw ?_)|simp only [WL,aD,WM,ne_eq,reduceCtorEq,not_false_eq_true]|simp (disch:=first|omega|(simp only [aT];omega)) only [aq]|((with_reducible first|refine ai (fun h=>?_) (fun h=>?_)|refine ab (fun h=>?_) (fun h=>?_))<;>(try simp only [h])<;>(try simp only [bg,bm] at h)))
     ·have hz2:=hz.1 (by assumption)
      exact ⟨(i+1,out,e+1,j,tk),aL bz (ResW.sub (List.sublist_cons_self _ _)) id,⟨by dsimp only;omega,by dsimp only;rw [h2,hsk (by omega) hz2.1 hz2.2.1 hz2.2.2.1 hz2.2.2.2],by dsimp only;omega,fun e1=>by rw [hz2.2.2.1] at e1;cases e1⟩,by dsimp only;omega⟩
     have hz2:¬(T.length=0∧L2=false∧j=false∧i+1 < l.length):=fun e1=>by rw [hz.2 e1] at *;contradiction
     rw [htk (by omega) hz2 rfl] at h2
     have ol2:=congrArg List.length h2
     simp only [List.length_append,List.length_replicate,List.length_map] at ol2
     refine nt (fun tk:Option (Nat × Nat)=>⟨(zv o l::.any::.any::SI (some tk) (out++S)::I e::B j::I i::.raw (.pointer (some ⟨b,0,none⟩))::.any::.any::zv o l::I l.length::I i::.any::.any::.any::.any::.any::.any::.any::.any::.any::.any::.any::.any::.any::.any::.any::.any::.any::.any::.any::.any::.any::.any::.any::.any::.any::.any::.any::.any::.any::.any::.any::.any::.any::.any::.any::.any::.any::.any::.any::.any::.any::.any::.any::.any::.any::.any::.any::.any::.any::.any::.any::.any::.any::.any::.any::.any::.any::.any::.any::.any::.any::.any::.any::.any::.any::.any::.any::[]),.obj b [SG of T,B L2]::.tip tk::σ,true,[]⟩) (fun _=>True) ?_ ?_
     ·
      repeat' (first|(with_reducible first|refine ay ?_|refine aJ ?_|refine aw ?_)|simp only [WL,aD,WM,reduceCtorEq,ba,Nat.reduceAdd,and_true]|(with_reducible first|refine cq (hlen:=?_) (hmax:=?_) (hK:=fun tk=>?_)|refine cF (hK:=?_))|((with_reducible first|refine ai (fun h=>?_) (fun h=>?_)|refine ab (fun h=>?_) (fun h=>?_))<;>(try simp only [h])<;>(try simp only [bg,bm] at h))|omega|(refine bq ?_;(first|omega|(simp only [aT];omega))))
      ·obtain rfl:S=[]:=by rw [← hS,if_neg (by simp [*])]
       exact ⟨tk,aL (by simp only [List.append_nil];exact bz) (ResW.refl _) id⟩
      ·obtain rfl:S=[32]:=by rw [← hS,if_pos ⟨by assumption,by omega⟩]
       exact ⟨tk,aL bz (ResW.refl _) id⟩
      ·obtain rfl:S=[]:=by rw [← hS,if_neg (by omega)]
       exact ⟨tk,aL (by simp only [List.append_nil];exact bz) (ResW.refl _) id⟩
     ·intro tk _
      repeat' (first|(with_reducible first|refine ay ?_|refine bW ?_|refine al (al ?_)|refine aB ?_)|simp only [WL,WM])
      refine dM (fun x:Nat × Option (Nat × Nat)=>⟨(zv o l::.any::.any::SI (some x.2) (out++S++List.replicate x.1 10)::I e::B j::I i::.raw (.pointer (some ⟨b,0,none⟩))::.any::.any::zv o l::I l.length::I i::.any::.any::.any::.any::.any::.any::.any::.any::.any::.any::.any::.any::.any::.any::.any::.any::.any::.any::.any::.any::.any::.any::.any::.any::.any::.any::.any::.any::.any::.any::.any::.any::.any::.any::.any::.any::.any::.any::.any::.any::.any::.any::.any::I e::I x.1::.any::.any::.any::.any::.any::.any::.any::.any::.any::.any::.any::.any::.any::.any::.any::.any::.any::.any::.any::.any::.any::.any::[]),.obj b [SG of T,B L2]::.tip x.2::σ,true,[]⟩) (fun x=>x.1≤e) (fun x=>e - x.1) (0,tk) (aL (by simp only [List.replicate_zero,List.append_nil];exact bz) (ResW.refl _) id) (Nat.zero_le _) ?_
      rintro ⟨m,tk⟩ h9
      dsimp only at h9 ⊢
      repeat' (first|(with_reducible first|refine al (ay ?_)|refine ay ?_|refine bW ?_|refine al (al ?_)|refine aJ ?_|refine aB ?_)|simp only [WL,aD,WM,reduceCtorEq,ba,Nat.reduceAdd,Nat.reduceEqDiff,true_and,Di,fR kb]|simp (disch:=first|omega|(simp only [aT];omega)) only [aq]|(with_reducible first|refine aC (hb:=?_)|refine ax (hK:=?_)|refine cq (hlen:=?_) (hmax:=?_) (hK:=fun tk=>?_)|refine cF (hK:=?_))|((with_reducible first|refine ai (fun h=>?_) (fun h=>?_)|refine ab (fun h=>?_) (fun h=>?_))<;>(try simp only [h])<;>(try simp only [bg,bm] at h))|(simp only [aT];omega)|(refine bq ?_;(first|omega|(simp only [aT];omega))))
      ·exact ⟨(m+1,tk),aL (by simp only [List.replicate_succ',← List.append_assoc];exact bz) (ResW.refl _) id,by dsimp only;omega,by dsimp only;omega⟩
      obtain rfl:m=e:=by omega
      refine dM (fun x:Nat × Option (Nat × Nat)=>⟨(zv o l::.any::.any::SI (some x.2) (out++S++List.replicate m 10++(T.take x.1).map (·.1))::I m::B j::I i::.raw (.pointer (some ⟨b,0,none⟩))::.any::.any::zv o l::I l.length::I i::.any::.any::.any::.any::.any::.any::.any::.any::.any::.any::.any::.any::.any::.any::.any::.any::.any::.any::.any::.any::.any::.any::.any::.any::.any::.any::.any::.any::.any::.any::.any::.any::.any::.any::.any::.any::.any::.any::.any::.any::.any::.any::.any::.any::.any::.any::.any::.any::.any::.any::.any::SG none T::I T.length::I x.1::.any::.any::.any::.any::.any::.any::.any::.any::.any::.any::.any::.any::.any::[]),.obj b [SG of T,B L2]::.tip x.2::σ,true,[]⟩) (fun x=>x.1≤T.length) (fun x=>T.length - x.1) (0,tk) (aL (by simp only [List.take_zero,List.map_nil,List.append_nil];exact bz) (ResW.refl _) id) (Nat.zero_le _) ?_
      rintro ⟨k,tk⟩ h9
      dsimp only at h9 ⊢
      repeat' (first|(with_reducible first|refine al (ay ?_)|refine aJ ?_|refine aB ?_)|simp only [WL,aD,WM,reduceCtorEq,ba,Nat.reduceAdd,Nat.reduceEqDiff,true_and,T3,T4,Di,OP,fR lW,fR qE]|simp (disch:=first|omega|(simp only [aT];omega)) only [aq,N8]|(with_reducible first|refine aC (hb:=?_)|refine ax (hK:=?_)|refine az (hK:=?_)|refine aS (hK:=fun b=>?_)|refine cq (hlen:=?_) (hmax:=?_) (hK:=fun tk=>?_)|refine cF (hK:=?_))|((with_reducible first|refine ai (fun h=>?_) (fun h=>?_)|refine ab (fun h=>?_) (fun h=>?_))<;>(try simp only [h])<;>(try simp only [bg,bm] at h))|(simp only [aT];omega)|(refine bq ?_;(first|omega|(simp only [aT];omega))))
      ·exact ⟨(k+1,tk),aL (by dsimp only;rw [xF (by omega)];exact bz) (ResW.sub (List.sublist_cons_self _ _)) id,by dsimp only;omega,by dsimp only;omega⟩
      ·exact ⟨(i+1,out++S++List.replicate m 10++T.map (·.1),0,L2,tk),aL (by dsimp only;rw [List.take_of_length_le (show T.length≤k by omega)];exact bz) (ResW.sub (List.sublist_cons_self _ _)) id,⟨by dsimp only;omega,by dsimp only;rw [h2];simp only [List.append_assoc],Nat.zero_le _,fun _=>rfl⟩,by dsimp only;omega⟩
 ·rw [List.drop_eq_nil_of_le (by omega)] at h2
  exact ak (ae ah) (d8 (by rw [h2];simp only [jx,List.append_nil];exact le_ro)) hK
theorem IS {l:List (List Int)} (hl:tot l≤100000000) (hK:K (.ret (.tup [SI none (jh l).1,I (jh l).2])) σ):ACallF κ Tryz.prog 173 [lN o l] σ K:=by
 have hlen:=gb l
 refine ACallF.dropL (aR Tryz.func173 rfl ?_)
 simp only [Tryz.ntmps173]
 repeat' (first|(with_reducible first|refine ay ?_|refine bW ?_|refine al (al ?_)|refine aJ ?_|refine aB ?_)|simp only [WL,WM,Nat.reduceAdd,Nat.reduceSub,true_and,il])
 refine dM (fun x:Nat × List (List (Int × Bool) × Bool) × Option (Nat × Nat)=>⟨(lN o l::.any::.any::.any::zv (some x.2.2) x.2.1::.any::.any::.any::.any::lN o l::I l.length::I x.1::.any::.any::.any::.any::.any::.any::.any::.any::.any::.any::.any::.any::.any::.any::.any::.any::.any::.any::.any::.any::.any::.any::.any::.any::[]),.tip x.2.2::σ,true,[]⟩)
  (fun x=>x.1≤l.length∧x.2.1.length=x.1∧(cR l).2=(cR (l.drop x.1)).2∧((cR (l.drop x.1)).2=0→(cR l).1=x.2.1++(cR (l.drop x.1)).1)) (fun x=>l.length - x.1) (0,[],none) (aL bz ResW.void id) ⟨Nat.zero_le _,rfl,rfl,fun _=>rfl⟩ ?_
 rintro ⟨i,acc,tk⟩ hx
 dsimp only at hx ⊢
 have h1:=hx.1
 have h2:=hx.2.1
 have h3:=hx.2.2.1
 have h4:=hx.2.2.2
 have tg:=nQ (l:=l) i
 rcases Nat.lt_or_ge i l.length with hi|hi
 ·have hla:=Kz hi
  have hd:=fL hi
  rw [hd] at h3 h4
  have hbad:=As (t:=l.getD i []) (r:=l.drop (i+1))
  have hok:=DB (t:=l.getD i []) (r:=l.drop (i+1))
  rw [← hla] at hbad hok
  generalize hX:dx ((i:Int)+1 == (l.length:Int)) (l.getD i [])=X at *
  repeat' (first|(with_reducible first|refine al (ay ?_)|refine al (al ?_)|refine aJ ?_|refine aB ?_|refine aw ?_|refine aY ?_)|simp only [WL,aD,WM,reduceCtorEq,ba,Nat.reduceAdd,Nat.reduceLT,true_and,bX,il,ED,GF,Tryz.results173,hX]|simp (disch:=first|omega|(simp only [aT];omega)) only [aq,wS]|(with_reducible first|refine aC (hb:=?_)|refine aA (hK:=?_)|refine az (hK:=?_)|refine aS (hK:=fun b=>?_)|refine cq (hlen:=?_) (hmax:=?_) (hK:=fun tk=>?_)|refine cF (hK:=?_)|refine cD (Qy ?_ ?_)|refine cD (CN ?_ ?_))|((with_reducible first|refine ai (fun h=>?_) (fun h=>?_)|refine ab (fun h=>?_) (fun h=>?_))<;>(try simp only [h])<;>(try simp only [bg,bm] at h))|omega|(refine bq ?_;(first|omega|(simp only [aT];omega))))
  ·rw [Dz (h3.trans (by rw [hbad (by assumption)])) (by assumption)] at hK
   exact ak (ae (ae ah)) (jo (fU (fq (by decide)) le_rfl)) hK
  ·obtain ⟨k1,k2⟩:=hok (by assumption)
   exact ⟨(i+1,acc++[(X.1,X.2.1)],tk),aL bz (ResW.sub (List.sublist_cons_self _ _)) id,⟨by dsimp only;omega,by simp [h2],h3.trans k1,fun h9=>by dsimp only at h9 ⊢;rw [h4 (by rw [k1];exact h9),k2 h9];simp⟩,by dsimp only;omega⟩
 ·rw [List.drop_eq_nil_of_le hi] at h3 h4
  have hr:=EU h3
  have ha:=h4 rfl
  have ht:=nh l
  simp only [cR,List.append_nil] at ha
  rw [ha] at hr ht
  repeat' (first|(with_reducible first|refine al (ay ?_)|refine aJ ?_|refine aY ?_)|simp only [WL,aD,WM,ne_eq,reduceCtorEq,not_false_eq_true,true_and,bX,il,ED,GF,Tryz.results173]|simp (disch:=first|omega|(simp only [aT];omega)) only [aq]|(with_reducible first|refine aC (hb:=?_)|refine cD (CN ?_ ?_))|((with_reducible first|refine ai (fun h=>?_) (fun h=>?_)|refine ab (fun h=>?_) (fun h=>?_))<;>(try simp only [h])<;>(try simp only [bg,bm] at h))|omega)
  exact ak (ae ah) (aj (by rw [hr])) hK
def i6 (ls:List Ln) (p:Int × Int) (l:List Int):Bool:=(bK l).2.2 && sT (aF ls (p.1,p.2+((bK l).2.1+1)))
theorem UO {a b:Bool} (h1:a=true) (h2:b=true):(a && b)=true:=by rw [h1,h2];rfl
theorem RY {a b:Bool} (h:a=false∨b=false):(a && b)=false:=by rcases h with h|h<;>rw [h]<;>simp
theorem Jn {bj:Nat}{ls:List Ln}{n d:Int}{bk:Bool}{x y:AV}{op:List Int}{l:List EvV}{τ σ0:List Res}{p:Int × Int}{t:List Int} (hJ:JX x y op l τ σ0) (hll:l.length≤1000000000) (hs:Small ls) (hp:Pl ls p) (ht:t.length≤2000)
  (h1:i6 ls p t=true→∀ y' τ',JX x y' op (l++[⟨8,.empty,.empty,(bK t).1,0,false⟩]) τ' σ0→K (.ret (cS (p.1,p.2+((bK t).2.1+1)))) (.obj bj (JC ls n bk d x y')::τ'))
  (h2:i6 ls p t=false→K (.pan (bI 2)) (.obj bj (JC ls n bk d x y)::τ)):ACallF κ Tryz.prog 142 [JP bj,cS p,SI o t] (.obj bj (JC ls n bk d x y)::τ) K:=by
 have ha:=jA ff t
 have ha1:(bK t).2.1=(th ff t:Nat):=rfl
 have hl:=hs.1
 unfold Pl at hp
 have hA:bS (p.1,p.2+((bK t).2.1+1)).1∧bS (p.1,p.2+((bK t).2.1+1)).2:=⟨by dsimp only;omega,by dsimp only;omega⟩
 unfold i6 at h1 h2
 refine ACallF.dropL (aa Tryz.func142 rfl ?_)
 simp only [Tryz.ntmps142]
 repeat' (first|simp only [WL,aD,WM,reduceCtorEq,ba,Nat.reduceAdd,Nat.reduceSub,Nat.reduceLT,Bool.not_true,true_and,reduceIte,Bool.false_eq_true,cT,dr,AH,AS,qW,Tryz.results142]|simp (disch:=first|omega|(simp only [aT];omega)) only [aq]|(with_reducible first|refine aC (hb:=?_)|refine aA (hK:=?_)|refine az (hK:=?_)|refine aP (hK:=fun b=>?_)|refine aS (hK:=fun b=>?_)|refine aG (hK:=?_)|refine cD (i9 ?_)|refine cD (E1 (p:=(p.1,p.2+((bK t).2.1+1))) hs hA ?_)|refine cD (Cn hJ hll (fun y' τ' hJ'=>?_))|refine cD (cb ?_ ?_)|refine cD (lz (fun h=>?_) (fun h=>?_))|refine cD (vV ?_ ?_))|((with_reducible refine aU ?_);apply db (hf:=Tryz.results142);exact aZ)|((with_reducible first|refine ai (fun h=>?_) (fun h=>?_)|refine ab (fun h=>?_) (fun h=>?_))<;>(try simp only [h])<;>(try simp only [bg,bm] at h))|omega)
 all_goals first
  | exact ak (ae (ae (ae ah))) (aj rfl) (h1 (UO (by assumption) (by assumption)) _ _ (by assumption))
  | exact aN (ae (ae (ae ah))) rfl (h2 (RY (by first|exact .inl (by assumption)|exact .inr (by assumption))))
theorem Nr {bj:Nat}{ls:List Ln}{n d:Int}{bk:Bool}{x y:AV}{op:List Int}{l:List EvV}{ρ τ σ0:List Res}{p:Int × Int}{t:List Int} [hS:Split σ bj ρ (JC ls n bk d x y) τ] (hJ:JX x y op l τ σ0) (hll:l.length≤1000000000) (hs:Small ls) (hp:Pl ls p) (ht:t.length≤2000)
  (h1:i6 ls p t=true→∀ y' τ',JX x y' op (l++[⟨8,.empty,.empty,(bK t).1,0,false⟩]) τ' σ0→K (.ret (cS (p.1,p.2+((bK t).2.1+1)))) (ρ ++ .obj bj (JC ls n bk d x y')::τ'))
  (h2:i6 ls p t=false→K (.pan (bI 2)) σ):ACallF κ Tryz.prog 142 [JP bj,cS p,SI o t] σ K :=
 ACallF.at_ (b:=bj) (Jn hJ hll hs hp ht h1 (fun h=>by have:=h2 h;rwa [hS.is] at this))
def dk (l:List Int) (c:Int):Int × Bool:=if c=34 then hU 0 l else ir 0 l
theorem xn {l:List Int}{c:Int} (hl:l.length≤1000000000) (hK:K (.ret (.tup [I (dk l c).1,B (dk l c).2])) σ):ACallF κ Tryz.prog 171 [SI o l,I c] σ K:=by
 unfold dk at hK
 refine ACallF.dropL (aa Tryz.func171 rfl ?_)
 simp only [Tryz.ntmps171]
 repeat' (first|simp only [WL,aD,WM,reduceCtorEq,ba,Nat.reduceAdd,Nat.reduceSub,Nat.reduceLT,true_and,MZ,Oo,Tryz.results171]|(with_reducible first|refine cD (Uh ?_ ?_)|refine cD (TW ?_ ?_))|((with_reducible first|refine ai (fun h=>?_) (fun h=>?_)|refine ab (fun h=>?_) (fun h=>?_))<;>(try simp only [h])<;>(try simp only [bg,bm] at h))|omega)
 ·rw [if_pos (by assumption)] at hK;exact ak ah (aj rfl) hK
 ·rw [if_neg (by assumption)] at hK;exact ak ah (aj rfl) hK
theorem vG:∀ (l:List Int) (k:Nat),(hU k l).2=true→k≤(hU k l).1∧(hU k l).1 < k+l.length
 | [],k,h=>by simp [hU] at h
 | [c],k,h=>by
  unfold hU at h ⊢
  split at h
  ·rename_i h0;rw [if_pos h0];simp only [List.length_cons,List.length_nil];omega
  ·cases h
 | c::d::r,k,h=>by
  unfold hU at h ⊢
  split at h
  ·rename_i h0
   rw [if_pos h0]
   have:=vG r (k+2) h
   simp only [List.length_cons] at *;omega
  ·rename_i h0
   rw [if_neg h0]
   split at h
   ·rename_i h1;rw [if_pos h1];simp only [List.length_cons];omega
   ·rename_i h1
    rw [if_neg h1]
    have:=vG (d::r) (k+1) h
    simp only [List.length_cons] at *;omega
theorem wK:∀ (l:List Int) (k:Nat),(ir k l).2=true→k≤(ir k l).1∧(ir k l).1 < k+l.length
 | [],k,h=>by simp [ir] at h
 | [c],k,h=>by
  unfold ir at h ⊢
  split at h
  ·rename_i h0;rw [if_pos h0];simp only [List.length_cons,List.length_nil];omega
  ·cases h
 | c::d::r,k,h=>by
  unfold ir at h ⊢
  split at h
  ·rename_i h0
   rw [if_pos h0]
   split at h
   ·rename_i h1
    rw [if_pos h1]
    have:=wK r (k+2) h
    simp only [List.length_cons] at *;omega
   ·rename_i h1;rw [if_neg h1];simp only [List.length_cons];omega
  ·rename_i h0
   rw [if_neg h0]
   have:=wK (d::r) (k+1) h
   simp only [List.length_cons] at *;omega
theorem yl {l:List Int}{c:Int} (h:(dk l c).2=true):0≤(dk l c).1∧(dk l c).1 < l.length:=by
 unfold dk at h ⊢
 split at h
 ·rename_i h0;rw [if_pos h0];have:=vG l 0 h;omega
 ·rename_i h0;rw [if_neg h0];have:=wK l 0 h;omega
def quotedN (ls:List Ln) (n c:Int):Nat→Int × Int→List Int→List (List Int)→Except Int ((Int × Int) × List (List Int) × Int)
 | f,p,l,all =>
  if (dk l c).2 then .ok (p,all++[l.take (dk l c).1.toNat],(dk l c).1)
  else if bC ls (p.1+1) then .error 2
  else if (ls.getD (p.1+1).toNat (0,[])).2.all blankI=false∧(ls.getD (p.1+1).toNat (0,[])).1≤n then .error 7
  else match f with
   | 0=>.error 2
   | f+1=>quotedN ls n c f (p.1+1,(ls.getD (p.1+1).toNat (0,[])).1) (ls.getD (p.1+1).toNat (0,[])).2 (all++[l])
def cH (ls:List Ln) (n c:Int) (q:Int × Int):Except Int (List Int × Int × (Int × Int)) :=
 match quotedN ls n c ls.length (q.1,q.2+1) (aF ls (q.1,q.2+1)) [] with
 | .error e=>.error e
 | .ok (p,all,k) =>
  if c=34 then (if (jh all).2=0 then .ok ((jh all).1,3,(p.1,p.2+(k+1))) else .error (jh all).2)
  else .ok (i5 (all.map nq),2,(p.1,p.2+(k+1)))
theorem j1 {ls:List Ln}{n c:Int}{f:Nat}{p:Int × Int}{l:List Int}{all:List (List Int)}:quotedN ls n c f p l all =
  if (dk l c).2 then .ok (p,all++[l.take (dk l c).1.toNat],(dk l c).1)
  else if bC ls (p.1+1) then .error 2
  else if (ls.getD (p.1+1).toNat (0,[])).2.all blankI=false∧(ls.getD (p.1+1).toNat (0,[])).1≤n then .error 7
  else match f with
   | 0=>.error 2
   | f+1=>quotedN ls n c f (p.1+1,(ls.getD (p.1+1).toNat (0,[])).1) (ls.getD (p.1+1).toNat (0,[])).2 (all++[l]):=by
 cases f<;>rfl
theorem De (l:List (List Int)):(jh l).1.length≤tot l:=by
 unfold jh
 split
 ·simp
 ·exact Nat.le_trans (uW _) (nh l)
theorem qC (a b:List (List Int)):tot (a++b)=tot a+tot b:=by unfold tot;simp
theorem wv (t:List Int):tot [t]=t.length+1:=by unfold tot;simp
theorem wB (a:List (List Int)) (t:List Int):List.map (SI none) a++[AV.sl 1 none (List.map I t)]=List.map (SI none) (a++[t]):=by simp
theorem FB       {bj : Nat} {ls : List Ln} {n d c : Int} {bk : Bool} {x y : AV} {op : List Int} {l : List EvV} {τ σ0 : List Res} {v : TrV} {q : Int × Int} (hJ : JX x y op l τ σ0) (hll : l.length ≤ 1000000000) (hs : Small ls) (hp : Pl ls q)
    (h1:∀ t s e,cH ls n c q=.ok (t,s,e)→∀ y' τ',JX x y' op (l++[⟨7,cu t,v.t,v.a,s,false⟩]) τ' σ0→K (.ret (cS e)) (.obj bj (JC ls n bk d x y')::τ'))
    (h2:∀ e,cH ls n c q=.error e→K (.pan (bI e)) (.obj bj (JC ls n bk d x y)::τ)):ACallF κ Tryz.prog 143 [JP bj,cS q,I c,vx v] (.obj bj (JC ls n bk d x y)::τ) K:=by
  have hl:=hs.1
  unfold Pl at hp
  have hq1:bS ((q.1,q.2+1):Int × Int).1∧bS ((q.1,q.2+1):Int × Int).2:=⟨by dsimp only;omega,by dsimp only;omega⟩
  have hr:=bZ (p:=(q.1,q.2+1)) hs
  refine ACallF.dropL (aa Tryz.func143 rfl ?_)
  simp only [Tryz.ntmps143]
  repeat' (first|simp only [WL,WM,Nat.reduceAdd,Nat.reduceSub,Nat.reduceLT,true_and,e8,cT,FN]|(with_reducible first|refine aC (hb:=?_)|refine aA (hK:=?_)|refine az (hK:=?_)|refine aP (hK:=fun b=>?_)|refine aS (hK:=fun b=>?_)|refine cD (eU (p:=(q.1,q.2+1)) hs hq1 ?_)|refine cD (cb ?_ ?_)|refine cD (xn ?_ ?_))|omega)
  rename_i b5 b7
  refine bH (fun z:(Int × Int) × List Int × List (List Int) × Option (Nat × Nat)=>⟨(JP bj::cS q::I c::vx v::.any::JP b5::.any::JP b7::JP b::lN (some z.2.2.2) z.2.2.1::SI none z.2.1::I (dk z.2.1 c).1::B (dk z.2.1 c).2::.any::.any::.any::.any::.any::.any::.any::.any::.any::.any::.any::.any::.any::.any::.any::.any::.any::.any::.any::.any::.any::.any::.any::.any::.any::.any::.any::.any::.any::.any::.any::.any::.any::.any::.any::.any::.any::.any::.any::.any::.any::.any::.any::.any::.any::.any::.any::.any::.any::.any::.any::.any::.any::.any::.any::.any::.any::.any::.any::.any::.any::.any::.any::.any::.any::.any::.any::.any::.any::.any::.any::.any::.any::.any::.any::.any::.any::.any::.any::.any::.any::.any::.any::.any::.any::.any::.any::.any::.any::.any::.any::[]),.tip z.2.2.2::.obj b [I 0,I 0]::.obj b7 (uz v)::.obj b5 [I z.1.1,I z.1.2]::.obj bj (JC ls n bk d x y)::τ,true,[]⟩)
    (fun z=>(∃ f:Nat,(ls.length:Int)≤z.1.1+1+f∧quotedN ls n c ls.length (q.1,q.2+1) (aF ls (q.1,q.2+1)) []=quotedN ls n c f z.1 z.2.1 z.2.2.1)∧z.2.1.length≤2000∧tot z.2.2.1≤2001 * (z.1.1 - q.1).toNat∧q.1≤z.1.1∧z.1.1 < ls.length∧0≤z.1.2∧z.1.2≤4001) (fun z=>((ls.length:Int) - z.1.1).toNat) ((q.1,q.2+1),aF ls (q.1,q.2+1),[],none) (aL bz ResW.void id)
    ⟨⟨ls.length,by dsimp only;omega,rfl⟩,hr,by simp [tot],by dsimp only;omega,by dsimp only;omega,by dsimp only;omega,by dsimp only;omega⟩ ?_
  rintro ⟨⟨i,k⟩,cur,all,tk⟩ ⟨⟨f,hf,hR⟩,hc,ht,hi1,hi2,hk1,hk2⟩
  dsimp only at hf hR hc ht hi1 hi2 hk1 hk2 ⊢
  replace hR:=hR.trans j1
  dsimp only at hR
  have hal:=gb all
  have ha:=hs.at_ (i:=(i+1).toNat)
  have hac:=qC all [cur.take (dk cur c).1.toNat]
  rw [wv,List.length_take] at hac
  have hac2:=qC all [cur]
  rw [wv] at hac2
  have htt:tot all≤4002000:=by omega
  cases hb:(dk cur c).2
  · simp only [hb,Bool.false_eq_true,if_false] at hR
    cases ho:bC ls (i+1)
    · simp only [ho,Bool.false_eq_true,if_false] at hR
      have hlt:=im ho
      have ha:=ha (by omega)
      repeat' (first|simp only [WL,aD,WM,reduceCtorEq,ba,Nat.reduceAdd,Nat.reduceLT,Nat.reduceEqDiff,Bool.not_true,Bool.not_false,true_and,reduceIte,Bool.false_eq_true,T3,bX,fT,jb,fR cX,fR dP,fR dK,fR gg,fR vP,rU,dr,mZ,FN,z7,ho,wB]|simp (disch:=first|omega|(simp only [aT];omega)) only [aq,dN]|(with_reducible first|refine aC (hb:=?_)|refine ax (hK:=?_)|refine aA (hK:=?_)|refine az (hK:=?_)|refine aS (hK:=fun b=>?_)|refine cq (hlen:=?_) (hmax:=?_) (hK:=fun tk=>?_)|refine cF (hK:=?_)|refine aG (hK:=?_)|refine cD (kz ?_)|refine cD (oa hs (by omega) ?_)|refine cD (yY ?_)|refine cD (xn ?_ ?_)|refine cQ (AE ?_ aW) ?_)|((with_reducible refine HW (id:=9) [0,1,2,3,4,5,6,7,8] (some 9) [([],some 10),([],none)] mixed ?_ ?_);kernel_rfl)|((with_reducible apply aQ);intro σq hq;have hqi:=cm hq;clear hq)|(with_reducible exact bU)|((with_reducible apply bA);rfl;rfl)|(with_reducible refine bR (by first|exact Has.refl|exact Has.cons Has.refl|exact Has.cons (Has.cons Has.refl)) ?_)|((with_reducible refine aH (id:=10) 12 mixed ?_ ?_);kernel_rfl)|((with_reducible refine dq (id:=12) [0,3,4,6,7] (some 1) [([2,5],some 8),([9],none)] mixed ?_ ?_);kernel_rfl)|(with_reducible refine bR (jY (by first|(simp;done)|fail)) ?_)|(with_reducible refine bP ?_)|((with_reducible first|refine ai (fun h=>?_) (fun h=>?_)|refine ab (fun h=>?_) (fun h=>?_))<;>(try simp only [h])<;>(try simp only [bg,bm] at h))|omega|(refine bq ?_;(first|omega|(simp only [aT];omega))))
      all_goals first
        | (have he:cH ls n c q=.error 7:=by unfold cH;rw [hR,if_pos ⟨by assumption,by assumption⟩]
           exact aN (ae (ae (ae (ae (ae ah))))) rfl (h2 _ he))
        | skip
      all_goals
        rw [if_neg (by first|(intro h9;have:=h9.2;omega)|exact fun h9=>Bool.false_ne_true (h9.1.symm.trans (by assumption)))] at hR
        cases f with
        | zero=>exfalso;omega
        | succ f =>
        refine ⟨((i+1,(ls.getD (i+1).toNat (0,[])).1),(ls.getD (i+1).toNat (0,[])).2,all++[cur],tk),aL bz (ResW.sub (List.sublist_cons_self _ _)) id,⟨⟨f,by dsimp only;omega,hR⟩, ?_, ?_, ?_, ?_, ?_, ?_⟩, ?_⟩<;>dsimp only<;>omega
    · simp only [ho,if_true] at hR
      repeat' (first|simp only [WL,aD,WM,reduceCtorEq,ba,Nat.reduceAdd,Nat.reduceEqDiff,Bool.not_true,Bool.not_false,true_and,T3,fR dK,dr,mZ,ho]|simp (disch:=first|omega|(simp only [aT];omega)) only [aq]|(with_reducible first|refine aC (hb:=?_)|refine ax (hK:=?_)|refine cq (hlen:=?_) (hmax:=?_) (hK:=fun tk=>?_)|refine cF (hK:=?_)|refine cD (i9 ?_)|refine cD (oa ?_ ?_ ?_))|omega|(refine bq ?_;(first|omega|(simp only [aT];omega))))
      have he:cH ls n c q=.error 2:=by unfold cH;rw [hR]
      exact aN (ae (ae (ae (ae ah)))) rfl (h2 _ he)
  · simp only [hb,if_true] at hR
    have hin:=yl hb
    generalize hA:all++[cur.take (dk cur c).1.toNat]=A at *
    have hac3:tot A≤100000000:=by omega
    have hrl:=De A
    have hfl:=oU (A.map nq)
    have hfu:=qH A
    have hE : cH      ls n c q = if c = 34 then (if (jh    A).2 = 0 then .ok ((jh    A).1, 3, (i, k + ((dk     cur c).1 + 1))) else .error (jh    A).2)
        else .ok (i5 (A.map nq),2,(i,k+((dk cur c).1+1))):=by unfold cH;rw [hR]
    clear hR ha hac hac2 hf
    repeat' (first|simp only [WL,aD,WM,Int.reduceToNat,reduceCtorEq,ba,Nat.reduceAdd,Nat.reduceLT,Bool.not_true,true_and,T3,bX,cT,PE,PQ,F7,NZ,Tryz.results143,wB,hA]|simp (disch:=first|omega|(simp only [aT];omega)) only [aq]|(with_reducible first|refine aC (hb:=?_)|refine aA (hK:=?_)|refine az (hK:=?_)|refine cq (hlen:=?_) (hmax:=?_) (hK:=fun tk=>?_)|refine cF (hK:=?_)|refine cD (IS (l:=A) hac3 ?_)|refine cD (OB (fun h=>?_) (fun h=>?_))|refine cD (CL hJ hll (by omega) (fun y' τ' hJ'=>?_))|refine cD (cb (p:=(i,k)) (n:=(dk cur c).1+1) (by dsimp only;omega) ?_)|refine cQ (QG ?_ aW) ?_)|((with_reducible refine aU ?_);apply db (hf:=Tryz.results143);exact aZ)|((with_reducible apply aQ);intro σq hq)|(with_reducible exact bU)|((with_reducible apply bA);rfl;rfl)|(with_reducible refine bR trivial ?_)|((with_reducible refine gI (id:=18) [0,1,2] (some 3) [([],some 4),([],none)] (fun _=>True) trivial mixed ?_ ?_);kernel_rfl)|((with_reducible first|refine ai (fun h=>?_) (fun h=>?_)|refine ab (fun h=>?_) (fun h=>?_))<;>(try simp only [h])<;>(try simp only [bg,bm] at h))|omega|(refine bq ?_;(first|omega|(simp only [aT];omega))))
    all_goals first
      | exact aN (ae (ae (ae (ae ah)))) rfl (h2 _ (hE.trans (by rw [if_pos (by assumption),if_neg (by assumption)])))
      | exact ak (ae (ae (ae (ae ah)))) (aj rfl) (h1 _ _ (i,k+((dk cur c).1+1)) (hE.trans (by rw [if_pos (by assumption),if_pos (by assumption)])) _ _ (by assumption))
      | exact ak (ae (ae (ae (ae ah)))) (aj rfl) (h1 _ _ (i,k+((dk cur c).1+1)) (hE.trans (by rw [if_neg (by assumption)])) _ _ (by assumption))
theorem A6 {bj:Nat}{ls:List Ln}{n d c:Int}{bk:Bool}{x y:AV}{op:List Int}{l:List EvV}{ρ τ σ0:List Res}{v:TrV}{q:Int × Int} [hS:Split σ bj ρ (JC ls n bk d x y) τ] (hJ:JX x y op l τ σ0) (hll:l.length≤1000000000) (hs:Small ls) (hp:Pl ls q)
  (h1:∀ t s e,cH ls n c q=.ok (t,s,e)→∀ y' τ',JX x y' op (l++[⟨7,cu t,v.t,v.a,s,false⟩]) τ' σ0→K (.ret (cS e)) (ρ ++ .obj bj (JC ls n bk d x y')::τ'))
  (h2:∀ e,cH ls n c q=.error e→K (.pan (bI e)) σ):ACallF κ Tryz.prog 143 [JP bj,cS q,I c,vx v] σ K :=
 ACallF.at_ (b:=bj) (FB hJ hll hs hp h1 (fun e h=>by have:=h2 e h;rwa [hS.is] at this))
end Go.Proofs.YthkabaiamcjdbaaGreat
/-
 The abstract layer,part H: elements that are nil.
-/

namespace Go.Abs
section
variable {κ:Ctx} {P:Program} {all rest:List Oper} {Q:Exit→St→Prop} {d:Option Tmp} {s:St} {m:MA} {x:AV} {o:Option (Option (Nat × Nat))} {sz:Nat}
theorem AAct.argsS {xs ys:List AV}{σ:List Res}{K:AV→List Res→Prop} (hl:o8 xs ys) (h:AAct κ P m ys σ K):AAct κ P m xs σ K:=fun φ g w vs hR hv=>h φ g w vs hR (hv.leS hl)
theorem zM (hsz:0 < sz) (h:cC κ false P all Q d rest s m [x,.sl 1 o [.sl sz none []]]):cC κ false P all Q d rest s m [x,.sl 1 o [nilS]] :=
 AAct.argsS (ys:=[x,.sl 1 o [.sl sz none []]]) ⟨cr,NI (KE rfl rfl (dF (fq hsz)) trivial),trivial⟩ h
end
end Go.Abs
