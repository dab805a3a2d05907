/-
  Texts Sv, Si, Sd, Db, Dc, Hk, MH, one behind the other.
-/
import Derived.Test.YthkabaiamcjdbaaGreatG8
set_option linter.unusedVariables false
set_option linter.unusedSimpArgs false
set_option maxHeartbeats 16000000
/-
 Plain specifications for chapter 8: at places of a text. No program in sight.
-/


namespace Go.Abs
theorem und_at_two {l:List Int}{k:Nat} (h:k+1 < l.length) (h1:l.getD k 0=39) (h2:l.getD (k+1) 0=39):und (l.drop k)=39::und (l.drop (k+2)):=by
 rw [drop_getD (show k < l.length by omega),drop_getD h,h1,h2,und_two]
theorem und_at_one {l:List Int}{k:Nat} (h:k < l.length) (hn:¬(l.getD k 0=39∧k+1 < l.length∧l.getD (k+1) 0=39)):und (l.drop k)=l.getD k 0::und (l.drop (k+1)):=by
 rw [drop_getD h]
 by_cases hk:k+1 < l.length
 ·rw [drop_getD hk,und_lone (fun h3=>hn ⟨h3.1,hk,h3.2⟩)]
 ·rw [List.drop_eq_nil_of_le (by omega)];rfl
theorem endG_at_no {l:List Int}{k n:Nat} (h:k < l.length) (hn:¬l.getD k 0=39):endG n (l.drop k)=endG (n+1) (l.drop (k+1)):=by
 rw [drop_getD h]
 by_cases hk:k+1 < l.length
 ·rw [drop_getD hk];simp only [endG];rw [if_neg hn]
 ·rw [List.drop_eq_nil_of_le (by omega)];simp only [endG];rw [if_neg hn]
theorem endG_at_two {l:List Int}{k n:Nat} (h:k+1 < l.length) (h1:l.getD k 0=39) (h2:l.getD (k+1) 0=39):endG n (l.drop k)=endG (n+2) (l.drop (k+2)):=by
 rw [drop_getD (show k < l.length by omega),drop_getD h,h1,h2];simp [endG]
theorem endG_at_end {l:List Int}{k n:Nat} (h:k < l.length) (h1:l.getD k 0=39) (h2:¬(k+1 < l.length∧l.getD (k+1) 0=39)):endG n (l.drop k)=((n:Int),true):=by
 rw [drop_getD h,h1]
 by_cases hk:k+1 < l.length
 ·rw [drop_getD hk];simp only [endG];rw [if_pos trivial,if_neg (fun e=>h2 ⟨hk,e⟩)]
 ·rw [List.drop_eq_nil_of_le (by omega)];simp [endG]
theorem endG_nil {n:Nat}:endG n []=(0,false):=rfl
theorem und_tot:∀ l:List (List Int),tot (l.map und)≤tot l
 | []=>Nat.le_refl _
 | t::r=>by
  have h1:=und_tot r
  have h2:=und_len t
  simp only [tot,List.map_cons,List.sum_cons] at *
  omega
theorem und_take {l:List (List Int)}{k:Nat} (h:k < l.length):(l.take (k+1)).map und=(l.take k).map und++[und (l.getD k [])]:=by
 rw [List.take_succ_eq_append_getElem h,List.map_append,List.map_cons,List.map_nil,List.getD_eq_getElem?_getD,List.getElem?_eq_getElem h]
 rfl
end Go.Abs
/-
 Walks: chapter 8,single quotes.
-/




namespace Go.Proofs.YthkabaiamcjdbaaGreat
open Go.Abs
variable {κ:Ctx} {σ:List Res} {K:Ret→List Res→Prop} {o o':Option (Option (Nat × Nat))}
theorem sEnd {l:List Int} (hl:l.length≤1000000000) (hK:K (.ret (.tup [I (endG 0 l).1,B (endG 0 l).2])) σ):ACallF κ Tryz.prog 199 [SI o l] σ K:=by
 have tn1:∀ k:Nat,((k:Int)+1).toNat=k+1:=fun k=>by omega
 refine ACallF.dropL (ACallF_intro Tryz.func199 rfl ?_)
 simp only [Tryz.ntmps199]
 repeat' (first|simp only [WL,WM,Nat.reduceAdd,Nat.reduceSub])
 refine loop_by (fun k:Nat=>⟨(SI o l::.any::.any::.any::I k::.any::.any::.any::.any::.any::.any::.any::.any::.any::.any::.any::.any::.any::.any::.any::.any::.any::.any::.any::.any::.any::.any::.any::.any::.any::.any::.any::.any::.any::[]),σ,true,[]⟩) (fun k=>k≤l.length∧endG 0 l=endG k (l.drop k)) (fun k=>l.length - k) 0 (St_le_same leA id) ⟨Nat.zero_le _,by simp⟩ ?_
 rintro k ⟨h1,h2⟩
 repeat' (first|simp only [WL,intF,WM,reduceCtorEq,WLb,Nat.reduceAdd,Bool.not_true,true_and,reduceIte,Bool.false_eq_true,T3,T22,Tryz.results199,tn1]|simp (disch:=first|omega|(simp only [LN_];omega)) only [wrap_id,getI]|with_reducible refine andA (hb:=?_)|((with_reducible first|refine grd_cases (fun h=>?_) (fun h=>?_)|refine condC_split (fun h=>?_) (fun h=>?_))<;>(try simp only [h])<;>(try simp only [NR_,NRb] at h)))
 ·exact ⟨k+1,St_le_same leA id,⟨by omega,by rw [h2,endG_at_no (by omega) (by assumption)]⟩,by omega⟩
 ·exact ⟨k+2,St_le_same leA id,⟨by omega,by rw [h2,endG_at_two (by omega) (by assumption) (by assumption)]⟩,by omega⟩
 ·exact leafL sub_rfl (leT_eq (by rw [h2,endG_at_end (by omega) (by assumption) (fun e=>by rename_i h9 _;first|exact absurd e.2 (by assumption)|exact absurd e.1 (by omega))])) hK
 ·exact leafL sub_rfl (leT_eq (by rw [h2,endG_at_end (by omega) (by assumption) (fun e=>absurd e.1 (by omega))])) hK
 ·exact leafL sub_rfl (leT_eq (by rw [h2,List.drop_eq_nil_of_le (by omega),endG_nil])) hK
theorem undoubled {l:List Int} (hl:l.length≤1000000000) (hK:K (.ret (SI none (und l))) σ):ACallF κ Tryz.prog 202 [SI o l] σ K:=by
 have tn1:∀ k:Nat,((k:Int)+1).toNat=k+1:=fun k=>by omega
 refine ACallF.dropL (ACallF_intro Tryz.func202 rfl ?_)
 simp only [Tryz.ntmps202]
 repeat' (first|simp only [WL,WM,Nat.reduceAdd,Nat.reduceSub])
 refine loop_by (fun x:Nat × List Int × Option (Nat × Nat)=>⟨(SI o l::.any::.any::SI (some x.2.2) x.2.1::I x.1::.any::.any::.any::.any::.any::.any::.any::.any::.any::.any::.any::.any::.any::.any::.any::.any::.any::.any::.any::.any::.any::.any::.any::.any::.any::.any::.any::.any::.any::.any::.any::.any::.any::.any::.any::.any::[]),.tip x.2.2::σ,true,[]⟩) (fun x=>x.1≤l.length∧und l=x.2.1++und (l.drop x.1)∧x.2.1.length≤x.1) (fun x=>l.length - x.1) (0,[],none) (St_leW leA ResW.void id) ⟨Nat.zero_le _,by simp,Nat.le_refl _⟩ ?_
 rintro ⟨k,out,tk⟩ ⟨h1,h2,h3⟩
 dsimp only at h1 h2 h3 ⊢
 repeat' (first|simp only [WL,intF,WM,reduceCtorEq,WLb,Nat.reduceAdd,Bool.not_true,true_and,reduceIte,Bool.false_eq_true,T3,T22,Tryz.results202,tn1]|simp (disch:=first|omega|(simp only [LN_];omega)) only [wrap_id,getI]|(with_reducible first|refine andA (hb:=?_)|refine y_app (hlen:=?_) (hmax:=?_) (hK:=fun tk=>?_)|refine y_bs (hK:=?_))|((with_reducible first|refine grd_cases (fun h=>?_) (fun h=>?_)|refine condC_split (fun h=>?_) (fun h=>?_))<;>(try simp only [h])<;>(try simp only [NR_,NRb] at h))|omega|(refine maxLen_ok ?_;(first|omega|(simp only [LN_];omega))))
 ·exact ⟨(k+2,out++[39],_),St_leW (by rw [show l.getD k 0=39 by assumption];exact leA) (ResW.refl _) id,⟨by dsimp only;omega,by dsimp only;rw [h2,und_at_two (by omega) (by assumption) (by assumption)];simp,by simp;omega⟩,by dsimp only;omega⟩
 all_goals first
  | exact ⟨(k+1,out++[l.getD k 0],_),St_leW leA (ResW.refl _) id,⟨by dsimp only;omega,by dsimp only;rw [h2,und_at_one (by omega) (fun e=>by first|exact absurd e.1 (by assumption)|exact absurd e.2.2 (by assumption)|exact absurd e.2.1 (by omega))];simp,by simp;omega⟩,by dsimp only;omega⟩
  | exact leafL (sub_cons sub_rfl) (leT_le (by rw [h2,List.drop_eq_nil_of_le (by omega)];simp only [und,List.append_nil];exact le_ro)) hK
theorem sRead {l:List (List Int)} (hl:tot l≤1000000000) (hK:K (.ret (SI none (flowF (l.map und)))) σ):ACallF κ Tryz.prog 176 [SSI o l] σ K:=by
 have hlen:=tot_len l
 have hz:∀ k,tot ((l.take k).map und)≤tot l:=fun k=>Nat.le_trans (und_tot _) (tot_take l k)
 have hw:=und_tot l
 refine ACallF.dropL (ACallF_intro Tryz.func176 rfl ?_)
 simp only [Tryz.ntmps176]
 repeat' (first|simp only [WL,WM,Nat.reduceAdd,Nat.reduceSub,true_and,T191])
 refine loop_by (fun x:Nat × Option (Nat × Nat)=>⟨(SSI o l::.any::.any::SSI (some x.2) ((l.take x.1).map und)::.any::.any::SSI o l::I l.length::I x.1::.any::.any::.any::.any::.any::.any::.any::.any::.any::.any::.any::[]),.tip x.2::σ,true,[]⟩) (fun x=>x.1≤l.length) (fun x=>l.length - x.1) (0,none) (St_leW leA ResW.void id) (Nat.zero_le _) ?_
 rintro ⟨k,tk⟩ h1
 dsimp only at h1 ⊢
 have e2:=tot_get (l:=l) k
 repeat' (first|simp only [WL,intF,WM,reduceCtorEq,WLb,Nat.reduceAdd,true_and,T22,T191,cok189,cok202,Tryz.results176]|simp (disch:=first|omega|(simp only [LN_];omega)) only [wrap_id,getS]|(with_reducible first|refine andA (hb:=?_)|refine y_app (hlen:=?_) (hmax:=?_) (hK:=fun tk=>?_)|refine y_bs (hK:=?_)|refine cD (flow ?_ ?_)|refine cD (undoubled ?_ ?_))|((with_reducible first|refine grd_cases (fun h=>?_) (fun h=>?_)|refine condC_split (fun h=>?_) (fun h=>?_))<;>(try simp only [h])<;>(try simp only [NR_,NRb] at h))|omega|(simp only [LN_];omega)|(refine maxLen_ok ?_;(first|omega|(simp only [LN_];omega))))
 ·exact ⟨(k+1,_),St_leW (by dsimp only;rw [und_take (by omega)];exact leA) (ResW.refl _) id,by dsimp only;omega,by dsimp only;omega⟩
 ·have:=hz k;omega
 ·exact leafL (sub_cons sub_rfl) (leT_eq (by rw [List.take_of_length_le (by omega)])) hK
end Go.Proofs.YthkabaiamcjdbaaGreat
/-
 Plain specifications for chapter 7: texts between double quotes. No program in sight.
-/



namespace Go.Abs
def endD:Nat→List Int→Int × Bool
 | _,[]=>(0,false)
 | k,[c]=>if c=34 then (k,true) else (0,false)
 | k,c::d::r=>if c=92 then endD (k+2) r else if c=34 then (k,true) else endD (k+1) (d::r)
theorem endD_at_esc {l:List Int}{k n:Nat} (h:k < l.length) (h1:l.getD k 0=92):endD n (l.drop k)=endD (n+2) (l.drop (k+2)):=by
 rw [drop_getD h,h1]
 by_cases hk:k+1 < l.length
 ·rw [drop_getD hk];simp only [endD];rw [if_pos trivial]
 ·rw [List.drop_eq_nil_of_le (show l.length≤k+1 by omega),List.drop_eq_nil_of_le (show l.length≤k+2 by omega)];simp [endD]
theorem endD_at_end {l:List Int}{k n:Nat} (h:k < l.length) (h1:l.getD k 0=34):endD n (l.drop k)=((n:Int),true):=by
 rw [drop_getD h,h1]
 by_cases hk:k+1 < l.length
 ·rw [drop_getD hk];simp only [endD];rw [if_neg (by decide),if_pos trivial]
 ·rw [List.drop_eq_nil_of_le (show l.length≤k+1 by omega)];simp [endD]
theorem endD_at_no {l:List Int}{k n:Nat} (h:k < l.length) (h1:¬l.getD k 0=92) (h2:¬l.getD k 0=34):endD n (l.drop k)=endD (n+1) (l.drop (k+1)):=by
 rw [drop_getD h]
 by_cases hk:k+1 < l.length
 ·rw [drop_getD hk];simp only [endD];rw [if_neg h1,if_neg h2]
 ·rw [List.drop_eq_nil_of_le (show l.length≤k+1 by omega)];simp only [endD];rw [if_neg h2]
theorem endD_nil {n:Nat}:endD n []=(0,false):=rfl
abbrev SGA (x:Int × Bool):AV:=.agg [I x.1,B x.2]
abbrev SG (o:Option (Option (Nat × Nat))) (l:List (Int × Bool)):AV:=.sl 2 o (l.map SGA)
theorem getG {l:List (Int × Bool)}{k:Nat} (h:k < l.length):(l.map SGA).getD k .any=SGA (l.getD k (0,false)):=by
 simp [List.getD_eq_getElem?_getD,h]
def softG (x:Int × Bool):Bool:=!x.2 && blankI x.1
def escShortI (c:Int):Int × Bool :=
 if c=48 then (0,true) else if c=97 then (7,true) else if c=98 then (8,true) else if c=116∨c=9 then (9,true) else if c=110 then (10,true)
 else if c=118 then (11,true) else if c=102 then (12,true) else if c=114 then (13,true) else if c=101 then (27,true) else if c=32∨c=34∨c=47∨c=92 then (c,true)
 else if c=78 then (133,true) else if c=95 then (160,true) else if c=76 then (8232,true) else if c=80 then (8233,true) else (0,false)
def longI (c:Int):Nat:=if c=120 then 2 else if c=117 then 4 else if c=85 then 8 else 0
theorem longI_le (c:Int):longI c≤8:=by unfold longI;(repeat' split)<;>omega
def numGo:Int→List Int→Option Int
 | a,[]=>some a
 | a,d::r=>if hexI d < 0 then none else numGo (a * 16+hexI d) r
def numEnd:Option Int→Int × Int
 | none=>(0,2)
 | some c=>if rightI c then (c,0) else (0,4)
def numberI (l:List Int) (n:Nat):Int × Int:=if l.length < n then (0,2) else numEnd (numGo 0 (l.take n))
theorem dwg_step {α:Type}{p:α→Bool}{d:α}:∀ {l:List α},0 < l.length→p (l.getD 0 d)=true→l.dropWhile p=(l.drop 1).dropWhile p
 | [],h,_=>by simp at h
 | x::l,_,h=>by
  have:p x=true:=by simpa using h
  simp [List.dropWhile_cons,this]
theorem dwg_stop {α:Type}{p:α→Bool}{d:α}:∀ {l:List α},0 < l.length→p (l.getD 0 d)=false→l.dropWhile p=l
 | [],h,_=>by simp at h
 | x::l,_,h=>by
  have:p x=false:=by simpa using h
  simp [List.dropWhile_cons,this]
theorem take_last {α:Type}{d:α}{l:List α} (h:0 < l.length):l=l.take (l.length - 1)++[l.getD (l.length - 1) d]:=by
 have h2:l.length - 1 < l.length:=by omega
 conv=>lhs;rw [← List.take_length (l:=l),show l.length=l.length - 1+1 by omega]
 rw [List.take_succ_eq_append_getElem h2,List.getD_eq_getElem?_getD,List.getElem?_eq_getElem h2]
 rfl
theorem bkg_step {α:Type}{p:α→Bool}{d:α}{l:List α} (h:0 < l.length) (hb:p (l.getD (l.length - 1) d)=true):(l.reverse.dropWhile p).reverse=((l.take (l.length - 1)).reverse.dropWhile p).reverse:=by
 conv=>lhs;rw [take_last (d:=d) h]
 rw [List.reverse_append]
 simp only [List.reverse_cons,List.reverse_nil,List.nil_append,List.cons_append,List.dropWhile_cons,hb,if_true]
theorem bkg_stop {α:Type}{p:α→Bool}{d:α}{l:List α} (h:0 < l.length) (hb:p (l.getD (l.length - 1) d)=false):(l.reverse.dropWhile p).reverse=l:=by
 conv=>lhs;rw [take_last (d:=d) h]
 rw [List.reverse_append]
 simp only [List.reverse_cons,List.reverse_nil,List.nil_append,List.cons_append,List.dropWhile_cons,hb,Bool.false_eq_true,if_false]
 rw [List.reverse_reverse]
 exact (take_last h).symm
def escI (l:List Int):Int × Int × Int :=
 match l with
 | []=>(0,0,2)
 | c::r=>if (escShortI c).2 then ((escShortI c).1,1,0) else if longI c=0 then (0,0,2) else ((numberI r (longI c)).1,(longI c:Int)+1,(numberI r (longI c)).2)
theorem escI_def {l:List Int} (h:0 < l.length):escI l=if (escShortI (l.getD 0 0)).2 then ((escShortI (l.getD 0 0)).1,1,0) else if longI (l.getD 0 0)=0 then (0,0,2) else ((numberI (l.drop 1) (longI (l.getD 0 0))).1,(longI (l.getD 0 0):Int)+1,(numberI (l.drop 1) (longI (l.getD 0 0))).2):=by
 cases l with
 | nil=>simp at h
 | cons c r=>rfl
theorem escI_nil {l:List Int} (h:l.length=0):escI l=(0,0,2):=by
 obtain rfl:=List.eq_nil_of_length_eq_zero h
 rfl
theorem numGo_at {m:List Int}{a:Int}{k:Nat} (h:k < m.length):numGo a (m.drop k)=if hexI (m.getD k 0) < 0 then none else numGo (a * 16+hexI (m.getD k 0)) (m.drop (k+1)):=by
 rw [drop_getD h];rfl
theorem pow16 {k:Nat} (h:k≤8):2 ^ (4 * k)≤4294967296∧2 ^ (4 * (k+1))=16 * 2 ^ (4 * k):=by
 refine ⟨Nat.le_trans (Nat.pow_le_pow_right (by decide) (show 4 * k≤32 by omega)) (by decide), ?_⟩
 rw [show 4 * (k+1)=4 * k+4 by omega,Nat.pow_add];omega
theorem escI_n (l:List Int):0≤(escI l).2.1∧(escI l).2.1≤9:=by
 unfold escI
 split
 ·decide
 ·rename_i c r
  have:=longI_le c
  (repeat' split)<;>(try simp only)<;>omega
def readGo (last:Bool):Nat→List (Int × Bool)→List Int→List (Int × Bool) × Bool × Int
 | 0,acc,_=>(acc,false,0)
 | _+1,acc,[]=>(acc,false,0)
 | f+1,acc,c::r =>
  if ¬c=92 then readGo last f (acc++[(c,false)]) r
  else if r=[]∧last=false then (acc,true,0)
  else if ¬(escI r).2.2=0 then ([],false,(escI r).2.2)
  else readGo last f (acc++[((escI r).1,true)]) (r.drop (escI r).2.1.toNat)
def readLine (last:Bool) (l:List Int):List (Int × Bool) × Bool × Int:=readGo last l.length [] l
theorem readGo_len (last:Bool):∀ (f:Nat) (acc:List (Int × Bool)) (l:List Int),(readGo last f acc l).1.length≤acc.length+l.length
 | 0,acc,l=>by simp [readGo]
 | f+1,acc,[]=>by simp [readGo]
 | f+1,acc,c::r=>by
  have h1:=readGo_len last f (acc++[(c,false)]) r
  have h2:=readGo_len last f (acc++[((escI r).1,true)]) (r.drop (escI r).2.1.toNat)
  simp only [List.length_append,List.length_cons,List.length_nil,List.length_drop] at h1 h2 ⊢
  unfold readGo
  (repeat' split)
  all_goals first|omega|(simp;done)|(simp;omega)
theorem readLine_len (last:Bool) (l:List Int):(readLine last l).1.length≤l.length:=by
 have:=readGo_len last l.length [] l
 simpa [readLine] using this
theorem readGo_fuel (last:Bool):∀ (f f':Nat) (acc:List (Int × Bool)) (l:List Int),l.length≤f→l.length≤f'→readGo last f acc l=readGo last f' acc l
 | 0,0,_,_,_,_=>rfl
 | 0,f'+1,acc,l,h,_=>by
  obtain rfl:=List.eq_nil_of_length_eq_zero (by omega:l.length=0)
  rfl
 | f+1,0,acc,l,_,h=>by
  obtain rfl:=List.eq_nil_of_length_eq_zero (by omega:l.length=0)
  rfl
 | f+1,f'+1,acc,[],_,_=>rfl
 | f+1,f'+1,acc,c::r,h,h'=>by
  simp only [List.length_cons] at h h'
  have h1:=readGo_fuel last f f' (acc++[(c,false)]) r (by omega) (by omega)
  have h2:=readGo_fuel last f f' (acc++[((escI r).1,true)]) (r.drop (escI r).2.1.toNat) (by simp;omega) (by simp;omega)
  unfold readGo
  rw [h1,h2]
def readAt (last:Bool) (l:List Int) (acc:List (Int × Bool)) (k:Nat):List (Int × Bool) × Bool × Int:=readGo last (l.length - k) acc (l.drop k)
theorem readAt_end {last:Bool}{l:List Int}{acc:List (Int × Bool)}{k:Nat} (h:l.length≤k):readAt last l acc k=(acc,false,0):=by
 unfold readAt;rw [show l.length - k=0 by omega];rfl
theorem readAt_plain {last:Bool}{l:List Int}{acc:List (Int × Bool)}{k:Nat} (h:k < l.length) (h1:¬l.getD k 0=92):readAt last l acc k=readAt last l (acc++[(l.getD k 0,false)]) (k+1):=by
 unfold readAt
 rw [show l.length - k=(l.length - (k+1))+1 by omega,drop_getD h]
 simp only [readGo]
 rw [if_pos h1]
theorem readAt_join {last:Bool}{l:List Int}{acc:List (Int × Bool)}{k:Nat} (h:k+1=l.length) (h1:l.getD k 0=92) (h2:last=false):readAt last l acc k=(acc,true,0):=by
 unfold readAt
 rw [show l.length - k=(l.length - (k+1))+1 by omega,drop_getD (show k < l.length by omega)]
 simp only [readGo]
 rw [if_neg (by simpa using h1),if_pos ⟨List.drop_eq_nil_of_le (by omega),h2⟩]
theorem readAt_bad {last:Bool}{l:List Int}{acc:List (Int × Bool)}{k:Nat} (h:k < l.length) (h1:l.getD k 0=92) (h2:¬(k+1=l.length∧last=false)) (h3:¬(escI (l.drop (k+1))).2.2=0):readAt last l acc k=([],false,(escI (l.drop (k+1))).2.2):=by
 unfold readAt
 rw [show l.length - k=(l.length - (k+1))+1 by omega,drop_getD h]
 simp only [readGo]
 rw [if_neg (by simpa using h1),if_neg (fun e=>h2 ⟨by have:=e.1;simp at this;omega,e.2⟩),if_pos h3]
theorem readAt_esc {last:Bool}{l:List Int}{acc:List (Int × Bool)}{k:Nat}{n:Nat} (h:k < l.length) (h1:l.getD k 0=92) (h2:¬(k+1=l.length∧last=false)) (h3:(escI (l.drop (k+1))).2.2=0) (hn:(escI (l.drop (k+1))).2.1=(n:Int)):readAt last l acc k=readAt last l (acc++[((escI (l.drop (k+1))).1,true)]) (k+1+n):=by
 unfold readAt
 rw [show l.length - k=(l.length - (k+1))+1 by omega,drop_getD h]
 simp only [readGo]
 rw [if_neg (by simpa using h1),if_neg (fun e=>h2 ⟨by have:=e.1;simp at this;omega,e.2⟩),if_neg (by simpa using h3),hn]
 rw [Int.toNat_natCast,List.drop_drop]
 exact readGo_fuel last _ _ _ _ (by simp;omega) (by simp)
def frontG (b:Bool) (t:List (Int × Bool)):List (Int × Bool):=if b then t.dropWhile softG else t
def backG (b:Bool) (t:List (Int × Bool)):List (Int × Bool):=if b then (t.reverse.dropWhile softG).reverse else t
def trimG (i n:Nat) (x:List (Int × Bool) × Bool):List (Int × Bool):=backG (decide (i+1 < n) && !x.2) (frontG (decide (0 < i)) x.1)
def foldG (n:Nat):Nat→Bool→Nat→List (List (Int × Bool) × Bool)→List Int
 | _,_,_,[]=>[]
 | i,j,e,x::r =>
  if trimG i n x=[]∧x.2=false∧j=false∧i+1 < n then foldG n (i+1) j (e+1) r
  else (if j=false∧e=0 then [32] else [])++List.replicate e 10++(trimG i n x).map (·.1)++foldG n (i+1) x.2 0 r
def foldD (l:List (List (Int × Bool) × Bool)):List Int:=foldG l.length 0 true 0 l
def linesD:List (List Int)→List (List (Int × Bool) × Bool) × Int
 | []=>([],0)
 | t::r=>let x:=readLine r.isEmpty t
  if ¬x.2.2=0 then ([],x.2.2) else if ¬(linesD r).2=0 then ([],(linesD r).2) else ((x.1,x.2.1)::(linesD r).1,0)
def readD (l:List (List Int)):List Int × Int:=if ¬(linesD l).2=0 then ([],(linesD l).2) else (foldD (linesD l).1,0)
/-! ### Lines -/
abbrev LNA (x:List (Int × Bool) × Bool):AV:=.agg [SG none x.1,B x.2]
abbrev LLA (o:Option (Option (Nat × Nat))) (l:List (List (Int × Bool) × Bool)):AV:=.sl 2 o (l.map LNA)
theorem getLNA {l:List (List (Int × Bool) × Bool)}{k:Nat} (h:k < l.length):(l.map LNA).getD k .any=LNA (l.getD k ([],false)):=by
 simp [List.getD_eq_getElem?_getD,h]
def totG (l:List (List (Int × Bool) × Bool)):Nat:=(l.map fun t=>t.1.length+1).sum
theorem totG_len (l:List (List (Int × Bool) × Bool)):l.length≤totG l:=by
 induction l with
 | nil=>simp [totG]
 | cons x r ih=>simp only [totG,List.map_cons,List.sum_cons,List.length_cons] at *;omega
theorem totG_get {l:List (List (Int × Bool) × Bool)} (k:Nat):(l.getD k ([],false)).1.length≤totG l:=by
 induction l generalizing k with
 | nil=>simp [totG]
 | cons x r ih =>
  cases k with
  | zero=>simp [totG];omega
  | succ k=>have:=ih k;simp only [totG,List.map_cons,List.sum_cons,List.getD_cons_succ] at *;omega
theorem backG_le (b:Bool) (t:List (Int × Bool)):(backG b t).length≤t.length:=by
 unfold backG
 split
 ·have:=(List.dropWhile_suffix softG (l:=t.reverse)).length_le
  simpa using this
 ·exact Nat.le_refl _
theorem frontG_le (b:Bool) (t:List (Int × Bool)):(frontG b t).length≤t.length:=by
 unfold frontG
 split
 ·exact (List.dropWhile_suffix softG).length_le
 ·exact Nat.le_refl _
theorem trimG_le (i n:Nat) (x:List (Int × Bool) × Bool):(trimG i n x).length≤x.1.length:=Nat.le_trans (backG_le _ _) (frontG_le _ _)
theorem foldG_len (n:Nat):∀ (l:List (List (Int × Bool) × Bool)) (i:Nat) (j:Bool) (e:Nat),(foldG n i j e l).length≤e+totG l
 | [],i,j,e=>by simp [foldG]
 | x::r,i,j,e=>by
  have h1:=foldG_len n r (i+1) j (e+1)
  have h2:=foldG_len n r (i+1) x.2 0
  have h3:=trimG_le i n x
  simp only [totG,List.map_cons,List.sum_cons] at *
  unfold foldG
  split
  ·omega
  ·simp only [List.length_append,List.length_replicate,List.length_map]
   split<;>simp<;>omega
theorem foldD_len (l:List (List (Int × Bool) × Bool)):(foldD l).length≤totG l:=by have:=foldG_len l.length l 0 true 0;unfold foldD;omega
theorem drop_getG {l:List (List (Int × Bool) × Bool)}{k:Nat} (h:k < l.length):l.drop k=l.getD k ([],false)::l.drop (k+1):=by
 rw [List.drop_eq_getElem_cons h]
 simp [List.getD_eq_getElem?_getD,h]
theorem foldG_skip {n i:Nat}{j:Bool}{e:Nat}{l:List (List (Int × Bool) × Bool)}{T:List (Int × Bool)} (h:i < l.length) (hT:trimG i n (l.getD i ([],false))=T) (h1:T.length=0) (h2:(l.getD i ([],false)).2=false) (h3:j=false) (h4:i+1 < n) :
  foldG n i j e (l.drop i)=foldG n (i+1) j (e+1) (l.drop (i+1)):=by
 rw [drop_getG h]
 simp only [foldG]
 rw [if_pos ⟨by rw [hT];exact List.eq_nil_of_length_eq_zero h1,h2,h3,h4⟩]
theorem foldG_take {n i:Nat}{j:Bool}{e:Nat}{l:List (List (Int × Bool) × Bool)}{T:List (Int × Bool)}{s:List Int} (h:i < l.length) (hT:trimG i n (l.getD i ([],false))=T) (h1:¬(T.length=0∧(l.getD i ([],false)).2=false∧j=false∧i+1 < n))
  (hs:s=if j=false∧e=0 then [32] else []):foldG n i j e (l.drop i)=s++List.replicate e 10++T.map (·.1)++foldG n (i+1) (l.getD i ([],false)).2 0 (l.drop (i+1)):=by
 rw [drop_getG h]
 simp only [foldG]
 rw [if_neg (fun e=>h1 ⟨by rw [← hT,e.1];rfl,e.2⟩),hT,hs]
theorem mapfst_take {T:List (Int × Bool)}{m:Nat} (h:m < T.length):(T.take (m+1)).map (·.1)=(T.take m).map (·.1)++[(T.getD m (0,false)).1]:=by
 rw [List.take_succ_eq_append_getElem h,List.map_append,List.getD_eq_getElem?_getD,List.getElem?_eq_getElem h]
 rfl
theorem linesD_bad {t:List Int}{r:List (List Int)} (h:¬(readLine r.isEmpty t).2.2=0):linesD (t::r)=([],(readLine r.isEmpty t).2.2):=by
 simp only [linesD];rw [if_pos h]
theorem linesD_ok {t:List Int}{r:List (List Int)} (h:(readLine r.isEmpty t).2.2=0):(linesD (t::r)).2=(linesD r).2∧((linesD r).2=0→(linesD (t::r)).1=((readLine r.isEmpty t).1,(readLine r.isEmpty t).2.1)::(linesD r).1):=by
 simp only [linesD]
 rw [if_neg (by simpa using h)]
 split
 ·rename_i h2;exact ⟨rfl,fun h3=>(h2 h3).elim⟩
 ·rename_i h2;exact ⟨by simp only [Decidable.not_not] at h2;exact h2.symm,fun _=>rfl⟩
theorem linesD_tot:∀ l:List (List Int),totG (linesD l).1≤tot l
 | []=>by simp [linesD,totG]
 | t::r=>by
  have h1:=linesD_tot r
  have h2:=readLine_len r.isEmpty t
  simp only [tot,totG,List.map_cons,List.sum_cons] at *
  simp only [linesD]
  (repeat' split)<;>simp<;>omega
theorem last_at {l:List (List Int)}{i:Nat} (h:i < l.length):(((i:Int)+1) == (l.length:Int))=(l.drop (i+1)).isEmpty:=by
 rw [Bool.eq_iff_iff,beq_iff_eq,List.isEmpty_iff,List.drop_eq_nil_iff]
 omega
theorem readD_bad {l:List (List Int)}{e:Int} (h:(linesD l).2=e) (h0:¬e=0):readD l=([],e):=by unfold readD;rw [h,if_pos h0]
theorem readD_ok {l:List (List Int)} (h:(linesD l).2=0):readD l=(foldD (linesD l).1,0):=by unfold readD;rw [h,if_neg (by decide)]
end Go.Abs
/-
 Walks: chapter 7,double quotes: what one line is.
-/



namespace Go.Proofs.YthkabaiamcjdbaaGreat
open Go.Abs
variable {κ:Ctx} {σ:List Res} {K:Ret→List Res→Prop} {o o':Option (Option (Nat × Nat))}
theorem dEnd {l:List Int} (hl:l.length≤1000000000) (hK:K (.ret (.tup [I (endD 0 l).1,B (endD 0 l).2])) σ):ACallF κ Tryz.prog 198 [SI o l] σ K:=by
 refine ACallF.dropL (ACallF_intro Tryz.func198 rfl ?_)
 simp only [Tryz.ntmps198]
 repeat' (first|simp only [WL,WM,Nat.reduceAdd,Nat.reduceSub])
 refine loop_by (fun k:Nat=>⟨(SI o l::.any::.any::.any::I k::.any::.any::.any::.any::.any::.any::.any::.any::.any::.any::.any::.any::.any::.any::.any::.any::.any::[]),σ,true,[]⟩) (fun k=>k≤l.length+1∧endD 0 l=endD k (l.drop k)) (fun k=>l.length+2 - k) 0 (St_le_same leA id) ⟨Nat.zero_le _,by simp⟩ ?_
 rintro k ⟨h1,h2⟩
 repeat' (first|simp only [WL,intF,WM,reduceCtorEq,WLb,Nat.reduceAdd,true_and,T3,T22,Tryz.results198]|simp (disch:=first|omega|(simp only [LN_];omega)) only [wrap_id,getI]|with_reducible refine andA (hb:=?_)|((with_reducible first|refine grd_cases (fun h=>?_) (fun h=>?_)|refine condC_split (fun h=>?_) (fun h=>?_))<;>(try simp only [h])<;>(try simp only [NR_,NRb] at h)))
 ·exact ⟨k+2,St_le_same leA id,⟨by omega,by rw [h2,endD_at_esc (by omega) (by assumption)]⟩,by omega⟩
 ·exact leafL sub_rfl (leT_eq (by rw [h2,endD_at_end (by omega) (by assumption)])) hK
 ·exact ⟨k+1,St_le_same leA id,⟨by omega,by rw [h2,endD_at_no (by omega) (by assumption) (by assumption)]⟩,by omega⟩
 ·exact leafL sub_rfl (leT_eq (by rw [h2,List.drop_eq_nil_of_le (by omega),endD_nil])) hK
theorem dIs {c:Int} (hK:K (.ret (B (rightI c))) σ):ACallF κ Tryz.prog 229 [I c] σ K:=by
 refine ACallF.dropL (ACallF_intro Tryz.func229 rfl ?_)
 simp only [Tryz.ntmps229]
 repeat' (first|simp only [WL,intF,WM,reduceCtorEq,WLb,Nat.reduceAdd,Nat.reduceSub,Bool.not_true,Bool.not_false,true_and,reduceIte,Bool.false_eq_true,Tryz.results229]|((with_reducible first|refine grd_cases (fun h=>?_) (fun h=>?_)|refine condC_split (fun h=>?_) (fun h=>?_))<;>(try simp only [h])<;>(try simp only [NR_,NRb] at h)))
 all_goals (refine leafL sub_rfl (leT_eq (congrArg B ?_)) hK;rw [Bool.eq_iff_iff];simp only [rightI_iff,decide_eq_true_eq,Bool.false_eq_true,false_iff,true_iff,eq_self];omega)
theorem dShort {c:Int} (hK:K (.ret (.tup [I (escShortI c).1,B (escShortI c).2])) σ):ACallF κ Tryz.prog 224 [I c] σ K:=by
 refine ACallF.dropL (ACallF_intro Tryz.func224 rfl ?_)
 simp only [Tryz.ntmps224]
 repeat' (first|simp only [WL,intF,WM,reduceCtorEq,WLb,Nat.reduceAdd,Nat.reduceSub,true_and,Tryz.results224]|((with_reducible first|refine grd_cases (fun h=>?_) (fun h=>?_)|refine condC_split (fun h=>?_) (fun h=>?_))<;>(try simp only [h])<;>(try simp only [NR_,NRb] at h)))
 all_goals (refine leafL sub_rfl (leT_eq ?_) hK;simp [escShortI, *])
theorem dLong {c:Int} (hK:K (.ret (I (longI c:Nat))) σ):ACallF κ Tryz.prog 225 [I c] σ K:=by
 refine ACallF.dropL (ACallF_intro Tryz.func225 rfl ?_)
 simp only [Tryz.ntmps225]
 repeat' (first|simp only [WL,intF,WM,reduceCtorEq,WLb,Nat.reduceAdd,Nat.reduceSub,true_and,Tryz.results225]|((with_reducible first|refine grd_cases (fun h=>?_) (fun h=>?_)|refine condC_split (fun h=>?_) (fun h=>?_))<;>(try simp only [h])<;>(try simp only [NR_,NRb] at h)))
 all_goals (refine leafL sub_rfl (leT_eq ?_) hK;simp [longI, *])
theorem dNumber {l:List Int}{n:Nat} (hl:l.length≤1000000000) (hn:n≤8) (hK:K (.ret (.tup [I (numberI l n).1,I (numberI l n).2])) σ):ACallF κ Tryz.prog 226 [SI o l,I n] σ K:=by
 refine ACallF.dropL (ACallF_intro Tryz.func226 rfl ?_)
 simp only [Tryz.ntmps226]
 repeat' (first|simp only [WL,intF,WM,Int.reduceToNat,reduceCtorEq,WLb,Nat.reduceAdd,Nat.reduceSub,true_and,T3,T22,Tryz.results226]|with_reducible refine andA (hb:=?_)|((with_reducible first|refine grd_cases (fun h=>?_) (fun h=>?_)|refine condC_split (fun h=>?_) (fun h=>?_))<;>(try simp only [h])<;>(try simp only [NR_,NRb] at h)))
 ·exact leafL sub_rfl (leT_eq (by unfold numberI;rw [if_pos (by omega)])) hK
 have hm:(l.take n).length=n:=by simp;omega
 have hu:numberI l n=numEnd (numGo 0 (l.take n)):=by unfold numberI;rw [if_neg (by omega)]
 generalize l.take n=m at *
 refine loop_by (fun x:Nat × Nat=>⟨(SI o l::I n::.any::.any::.any::.any::I x.2::.any::.any::.any::.any::.any::.any::.any::.any::.any::SI none m::I m.length::I x.1::.any::.any::.any::.any::.any::.any::.any::.any::.any::.any::.any::.any::.any::.any::.any::.any::[]),σ,true,[]⟩) (fun x=>x.1≤m.length∧numGo 0 m=numGo x.2 (m.drop x.1)∧x.2 < 2 ^ (4 * x.1)) (fun x=>m.length - x.1) (0,0) (St_le_same leA id) ⟨Nat.zero_le _,by simp,by decide⟩ ?_
 rintro ⟨k,a⟩ ⟨h1,h2,h3⟩
 dsimp only at h1 h2 h3 ⊢
 have hp:=pow16 (k:=k) (by omega)
 have hx:=hexI_le (m.getD k 0)
 repeat' (first|simp only [WL,intF,WM,reduceCtorEq,WLb,Nat.reduceAdd,true_and,T3,T22,cok216,cok229,Tryz.results226]|simp (disch:=first|omega|(simp only [LN_];omega)) only [wrap_id,getI]|(with_reducible first|refine andA (hb:=?_)|refine cD (cHex ?_)|refine cD (dIs ?_))|((with_reducible first|refine grd_cases (fun h=>?_) (fun h=>?_)|refine condC_split (fun h=>?_) (fun h=>?_))<;>(try simp only [h])<;>(try simp only [NR_,NRb] at h)))
 ·rw [numGo_at (by omega),if_pos (by omega)] at h2
  exact leafL sub_rfl (leT_eq (by rw [hu,h2];rfl)) hK
 ·rw [numGo_at (by omega),if_neg (by omega)] at h2
  exact ⟨(k+1,a * 16+(hexI (m.getD k 0)).toNat),St_le_same leA id,⟨by dsimp only;omega,by dsimp only;rw [h2];congr 1;omega,by dsimp only;omega⟩,by dsimp only;omega⟩
 all_goals
  rw [List.drop_eq_nil_of_le (by omega)] at h2
  simp only [numGo] at h2
 ·exact leafL sub_rfl (leT_eq (by rw [hu,h2];unfold numEnd;simp only;rw [if_neg (by simp [*])])) hK
 ·exact leafL sub_rfl (leT_eq (by rw [hu,h2];unfold numEnd;simp only;rw [if_pos (by assumption)])) hK
theorem dEscape {l:List Int} (hl:l.length≤1000000000) (hK:K (.ret (.tup [I (escI l).1,I (escI l).2.1,I (escI l).2.2])) σ):ACallF κ Tryz.prog 217 [SI o l] σ K:=by
 have hb:=longI_le (l.getD 0 0)
 refine ACallF.dropL (ACallF_intro Tryz.func217 rfl ?_)
 simp only [Tryz.ntmps217]
 repeat' (first|simp only [WL,intF,WM,Int.reduceToNat,reduceCtorEq,WLb,Nat.reduceAdd,Nat.reduceSub,Nat.reduceLT,true_and,T3,T22,cok224,cok225,cok226,Tryz.results217]|simp (disch:=first|omega|(simp only [LN_];omega)) only [wrap_id,getI]|(with_reducible first|refine andA (hb:=?_)|refine cD (dShort ?_)|refine cD (dLong ?_)|refine cD (dNumber ?_ ?_ ?_))|((with_reducible first|refine grd_cases (fun h=>?_) (fun h=>?_)|refine condC_split (fun h=>?_) (fun h=>?_))<;>(try simp only [h])<;>(try simp only [NR_,NRb] at h))|omega|(simp only [LN_];omega))
 all_goals first
  | exact leafL sub_rfl (leT_eq (by rw [escI_nil (by omega)])) hK
  | exact leafL sub_rfl (leT_eq (by rw [escI_def (by omega),if_pos (by assumption)])) hK
  | exact leafL sub_rfl (leT_eq (by rw [escI_def (by omega),if_neg (by simp only [*];decide),if_pos (by omega)])) hK
  | exact leafL sub_rfl (leT_eq (by rw [escI_def (by omega),if_neg (by simp only [*];decide),if_neg (by omega)])) hK
theorem sBlank {x:Int × Bool} (hK:K (.ret (B (softG x))) σ):ACallF κ Tryz.prog 227 [SGA x] σ K:=by
 refine ACallF.dropL (ACallF_intro Tryz.func227 rfl ?_)
 simp only [Tryz.ntmps227]
 repeat' (first|simp only [WL,WM,Nat.reduceAdd,Nat.reduceSub,Nat.reduceEqDiff,Bool.not_true,true_and,reduceIte,Bool.false_eq_true,T3,T4,fR fl245_0,fR fl245_1,cok72,Tryz.results227]|(with_reducible first|refine andA (hb:=?_)|refine y_load (hK:=?_)|refine y_box (hK:=fun b=>?_)|refine cD (Blank ?_))|((with_reducible first|refine grd_cases (fun h=>?_) (fun h=>?_)|refine condC_split (fun h=>?_) (fun h=>?_))<;>(try simp only [h])<;>(try simp only [NR_,NRb] at h)))
 all_goals exact leafL (sub_cons sub_rfl) (leT_eq (congrArg B (by simp [softG, *]))) hK
theorem dFront {b:Nat}{l:List (Int × Bool)}{j:Bool} (hl:l.length≤1000000000) (hK:∀ o',K (.ret (.tup [])) (.obj b [SG o' (l.dropWhile softG),B j]::σ)):ACallF κ Tryz.prog 218 [.raw (.pointer (some ⟨b,0,none⟩))] (.obj b [SG o l,B j]::σ) K:=by
 refine ACallF.dropL (ACallF_intro Tryz.func218 rfl ?_)
 simp only [Tryz.ntmps218]
 repeat' (first|simp only [WL,WM,Nat.reduceAdd,Nat.reduceSub])
 refine loop_by (fun x:Option (Option (Nat × Nat)) × List (Int × Bool)=>⟨(.raw (.pointer (some ⟨b,0,none⟩))::.any::.any::.any::.any::.any::.any::.any::.any::.any::.any::.any::.any::.any::.any::.any::.any::.any::.any::.any::.any::.any::.any::.any::.any::[]),.obj b [SG x.1 x.2,B j]::σ,true,[]⟩) (fun x=>x.2.dropWhile softG=l.dropWhile softG∧x.2.length≤l.length) (fun x=>x.2.length) (o,l) (St_le_same leA id) ⟨rfl,Nat.le_refl _⟩ ?_
 rintro ⟨o',l'⟩ hx
 dsimp only at hx ⊢
 have h1:=hx.1
 have h2:=hx.2
 repeat' (first|simp only [WL,intF,WM,Int.reduceToNat,reduceCtorEq,WLb,Nat.reduceAdd,Nat.reduceEqDiff,Bool.not_true,true_and,reduceIte,Bool.false_eq_true,T227,T245,fR fl229_0,cok227,Tryz.results218]|simp (disch:=first|omega|(simp only [LN_];omega)) only [getG]|(with_reducible first|refine andA (hb:=?_)|refine y_load (hK:=?_)|refine y_store (hK:=?_)|refine cD (sBlank ?_))|((with_reducible first|refine grd_cases (fun h=>?_) (fun h=>?_)|refine condC_split (fun h=>?_) (fun h=>?_))<;>(try simp only [h])<;>(try simp only [NR_,NRb] at h)))
 ·exact ⟨(none,l'.drop 1),St_leW leA (ResW.refl _) id,⟨(dwg_step (d:=(0,false)) (by omega) (by assumption)).symm.trans h1,by simp;omega⟩,by simp;omega⟩
 ·exact leafL sub_rfl (leT_eq rfl) (by rw [← h1,dwg_stop (d:=(0,false)) (by omega) (by assumption)] at hK;exact hK _)
 ·obtain rfl:l'=[]:=List.eq_nil_of_length_eq_zero (by omega)
  exact leafL sub_rfl (leT_eq rfl) (by rw [← h1] at hK;exact hK _)
theorem dBack {b:Nat}{l:List (Int × Bool)}{j:Bool} (hl:l.length≤1000000000) (hK:∀ o',K (.ret (.tup [])) (.obj b [SG o' (backG (!j) l),B j]::σ)):ACallF κ Tryz.prog 219 [.raw (.pointer (some ⟨b,0,none⟩))] (.obj b [SG o l,B j]::σ) K:=by
 refine ACallF.dropL (ACallF_intro Tryz.func219 rfl ?_)
 simp only [Tryz.ntmps219]
 repeat' (first|simp only [WL,WM,Nat.reduceAdd,Nat.reduceSub])
 refine loop_by (fun x:Option (Option (Nat × Nat)) × List (Int × Bool)=>⟨(.raw (.pointer (some ⟨b,0,none⟩))::.any::.any::.any::.any::.any::.any::.any::.any::.any::.any::.any::.any::.any::.any::.any::.any::.any::.any::.any::.any::.any::.any::.any::.any::.any::.any::.any::.any::.any::.any::.any::.any::.any::.any::.any::.any::.any::.any::.any::.any::.any::.any::.any::[]),.obj b [SG x.1 x.2,B j]::σ,true,[]⟩) (fun x=>backG (!j) x.2=backG (!j) l∧x.2.length≤l.length) (fun x=>x.2.length) (o,l) (St_le_same leA id) ⟨rfl,Nat.le_refl _⟩ ?_
 rintro ⟨o',l'⟩ ⟨h1,h2⟩
 dsimp only at h1 h2 ⊢
 have e1:0 < l'.length→((l'.length:Int) - 1).toNat=l'.length - 1:=fun _=>by omega
 repeat' (first|simp only [WL,intF,WM,Int.reduceToNat,reduceCtorEq,WLb,Nat.reduceAdd,Nat.reduceEqDiff,Bool.not_true,true_and,reduceIte,Bool.false_eq_true,T4,T227,T245,fR fl229_0,fR fl229_1,cok227,Tryz.results219]|simp (disch:=first|omega|(simp only [LN_];omega)) only [wrap_id,getG,e1]|(with_reducible first|refine andA (hb:=?_)|refine y_load (hK:=?_)|refine y_store (hK:=?_)|refine cQ (sBlank isR_mk) ?_)|((with_reducible refine AW_drawM (id:=0) 28 mixed ?_ ?_);kernel_rfl)|((with_reducible refine AW_drawM (id:=1) 14 mixed ?_ ?_);kernel_rfl)|(with_reducible refine dmQ_mk ?_)|((with_reducible first|refine grd_cases (fun h=>?_) (fun h=>?_)|refine condC_split (fun h=>?_) (fun h=>?_))<;>(try simp only [h])<;>(try simp only [NR_,NRb] at h)))
 ·subst_vars
  exact ⟨(none,l'.take (l'.length - 1)),St_leW leA (ResW.refl _) id,⟨Eq.trans (bkg_step (d:=(0,false)) (by omega) (by assumption)).symm h1,by simp;omega⟩,by simp;omega⟩
 ·subst_vars
  exact leafL sub_rfl (leT_eq rfl) (by rw [← h1] at hK;unfold backG at hK;simp only [Bool.not_false,if_true] at hK;rw [bkg_stop (d:=(0,false)) (by omega) (by assumption)] at hK;exact hK _)
 ·subst_vars
  obtain rfl:l'=[]:=List.eq_nil_of_length_eq_zero (by omega)
  exact leafL sub_rfl (leT_eq rfl) (by rw [← h1] at hK;exact hK _)
 ·subst_vars
  exact leafL sub_rfl (leT_eq rfl) (hK _)
theorem dRead {l:List Int}{last:Bool} (hl:l.length≤100000000) (hK:K (.ret (.tup [.agg [SG none (readLine last l).1,B (readLine last l).2.1],I (readLine last l).2.2])) σ):ACallF κ Tryz.prog 200 [SI o l,B last] σ K:=by
 refine ACallF.dropS ?_
 have hz:readLine last l=readAt last l [] 0:=by simp [readLine,readAt]
 refine ACallF.dropL (ACallF_intro Tryz.func200 rfl ?_)
 simp only [Tryz.ntmps200]
 repeat' (first|simp only [WL,WM,Nat.reduceAdd,Nat.reduceSub]|with_reducible refine y_new (hK:=fun b=>?_))
 rename_i b0
 refine loop_by (fun x:Nat × List (Int × Bool) × Option (Nat × Nat)=>⟨(SI o l::B last::.any::.any::.raw (.pointer (some ⟨b0,0,none⟩))::.any::.raw (.pointer (some ⟨b,0,none⟩))::I x.1::.any::.any::.any::.any::.any::.any::.any::.any::.any::.any::.any::.any::.any::.any::.any::.any::.any::.any::.any::.any::.any::.any::.any::.any::.any::.any::.any::.any::.any::.any::.any::.any::.any::.any::.any::.any::.any::.any::.any::.any::.any::.any::.any::.any::.any::.any::.any::.any::.any::.any::.any::.any::.any::.any::.any::.any::.any::.any::.any::[]),.obj b [SG (some x.2.2) x.2.1,B false]::.tip x.2.2::.obj b0 [nilS,B false]::σ,true,[]⟩)
  (fun x=>x.2.1.length≤x.1∧readAt last l [] 0=readAt last l x.2.1 x.1∧x.1≤l.length+9) (fun x=>l.length+10 - x.1) (0,[],none) (St_leW leA (((ResW.void).cons _).trans (ResW.obj (leL_two (le_nil (by decide)) le_rfl))) id) ⟨Nat.le_refl _,rfl,by omega⟩ ?_
 rintro ⟨k,out,tk⟩ ⟨h1,h2,h3⟩
 dsimp only at h1 h2 h3 ⊢
 rw [hz,h2] at hK
 have hn:=escI_n (l.drop (k+1))
 obtain ⟨n,hn2⟩:=Int.eq_ofNat_of_zero_le hn.1
 repeat' (first|simp only [WL,intF,WM,reduceCtorEq,WLb,Nat.reduceAdd,Nat.reduceLT,Nat.reduceEqDiff,Bool.not_true,true_and,reduceIte,Bool.false_eq_true,T3,T4,T22,T227,fR fl229_0,fR fl229_1,cok217,Tryz.results200,tn1]|simp (disch:=first|omega|(simp only [LN_];omega)) only [wrap_id,getI]|(with_reducible first|refine andA (hb:=?_)|refine y_load (hK:=?_)|refine y_loadA (hK:=?_)|refine y_store (hK:=?_)|refine y_storeA (hK:=?_)|refine y_app (hlen:=?_) (hmax:=?_) (hK:=fun tk=>?_)|refine y_bs (hK:=?_)|refine y_build (hK:=?_)|refine cD (dEscape ?_ ?_))|((with_reducible refine resL_id ?_);apply res_ct (hf:=Tryz.results200);exact y_load2)|((with_reducible refine AW_drawM (id:=6) 8 mixed ?_ ?_);kernel_rfl)|(with_reducible refine dmQ_mk ?_)|((with_reducible first|refine grd_cases (fun h=>?_) (fun h=>?_)|refine condC_split (fun h=>?_) (fun h=>?_))<;>(try simp only [h])<;>(try simp only [NR_,NRb] at h))|omega|(simp only [LN_];omega)|(refine maxLen_ok ?_;(first|omega|(simp only [LN_];omega))))
 ·exact ⟨(k+1,out++[(l.getD k 0,false)],tk),St_leW leA (ResW.of_eq (by simp)) id,⟨by simp;omega,by dsimp only;rw [h2,readAt_plain (by omega) (by assumption)],by dsimp only;omega⟩,by dsimp only;omega⟩
 ·rw [readAt_join (by omega) (by assumption) (by assumption)] at hK
  exact leafL (sub_cons (sub_cons (sub_cons sub_rfl))) (leT_eq rfl) (leafS sub_rfl (leS_tup (leSL_cons (leS_agg (leSL_cons (leS_le le_ro) (leSL_cons leS_rfl leSL_nil))) (leSL_cons leS_rfl leSL_nil))) hK)
 ·rw [readAt_bad (by omega) (by assumption) (fun e=>by have e1:=e.1;have e2:=e.2;first|omega|simp_all) (by assumption)] at hK
  exact leafL (sub_cons (sub_cons (sub_cons sub_rfl))) (leT_eq rfl) (leafS sub_rfl (leS_tup (leSL_cons (leS_agg (leSL_cons (leS_le (le_nilro (by decide))) (leSL_cons leS_rfl leSL_nil))) (leSL_cons leS_rfl leSL_nil))) hK)
 ·exact ⟨(k+1+n,out++[((escI (l.drop (k+1))).1,true)],tk),St_leW leA (ResW.of_eq (by simp)) id,⟨by simp;omega,by dsimp only;rw [h2,readAt_esc (by omega) (by assumption) (fun e=>by have e1:=e.1;have e2:=e.2;first|omega|simp_all) (by assumption) hn2],by dsimp only;omega⟩,by dsimp only;omega⟩
 ·rw [readAt_bad (by omega) (by assumption) (fun e=>by have e1:=e.1;have e2:=e.2;first|omega|simp_all) (by assumption)] at hK
  exact leafL (sub_cons (sub_cons (sub_cons sub_rfl))) (leT_eq rfl) (leafS sub_rfl (leS_tup (leSL_cons (leS_agg (leSL_cons (leS_le (le_nilro (by decide))) (leSL_cons leS_rfl leSL_nil))) (leSL_cons leS_rfl leSL_nil))) hK)
 ·exact ⟨(k+1+n,out++[((escI (l.drop (k+1))).1,true)],tk),St_leW leA (ResW.of_eq (by simp)) id,⟨by simp;omega,by dsimp only;rw [h2,readAt_esc (by omega) (by assumption) (fun e=>by have e1:=e.1;have e2:=e.2;first|omega|simp_all) (by assumption) hn2],by dsimp only;omega⟩,by dsimp only;omega⟩
 ·rw [readAt_end (by omega)] at hK
  exact leafL (sub_cons (sub_cons (sub_cons sub_rfl))) (leT_eq rfl) (leafS sub_rfl (leS_tup (leSL_cons (leS_agg (leSL_cons (leS_le le_ro) (leSL_cons leS_rfl leSL_nil))) (leSL_cons leS_rfl leSL_nil))) hK)
theorem dFolded {l:List (List (Int × Bool) × Bool)} (hl:totG l≤1000000000) (hK:K (.ret (SI none (foldD l))) σ):ACallF κ Tryz.prog 201 [LLA o l] σ K:=by
 have hlen:=totG_len l
 have hfl:=foldD_len l
 refine ACallF.dropL (ACallF_introA Tryz.func201 rfl ?_)
 simp only [Tryz.ntmps201]
 repeat' (first|(with_reducible first|refine AW_block ?_|refine cut_loop ?_|refine AW_seqA (AW_seqA ?_)|refine AW_seq ?_|refine AW_runReg ?_)|simp only [WL,WM,Nat.reduceAdd,Nat.reduceSub,true_and,T226])
 refine loopA (fun x:Nat × List Int × Nat × Bool × Option (Nat × Nat)=>⟨(LLA o l::.any::.any::SI (some x.2.2.2.2) x.2.1::I x.2.2.1::B x.2.2.2.1::.any::.any::.any::.any::LLA o l::I l.length::I x.1::.any::.any::.any::.any::.any::.any::.any::.any::.any::.any::.any::.any::.any::.any::.any::.any::.any::.any::.any::.any::.any::.any::.any::.any::.any::.any::.any::.any::.any::.any::.any::.any::.any::.any::.any::.any::.any::.any::.any::.any::.any::.any::.any::.any::.any::.any::.any::.any::.any::.any::.any::.any::.any::.any::.any::.any::.any::.any::.any::.any::.any::.any::.any::.any::.any::.any::.any::[]),.tip x.2.2.2.2::σ,true,[]⟩)
  (fun x=>x.1≤l.length∧foldD l=x.2.1++foldG l.length x.1 x.2.2.2.1 x.2.2.1 (l.drop x.1)∧x.2.2.1≤x.1∧(x.2.2.2.1=true→x.2.2.1=0)) (fun x=>l.length - x.1) (0,[],0,true,none) (St_leW leA ResW.void id) ⟨Nat.zero_le _,rfl,Nat.le_refl _,fun _=>rfl⟩ ?_
 rintro ⟨i,out,e,j,tk⟩ hx
 dsimp only at hx ⊢
 have h1:=hx.1
 have h2:=hx.2.1
 have h3:=hx.2.2.1
 have h4:=hx.2.2.2
 have ol:out.length≤totG l:=by have:=congrArg List.length h2;simp only [List.length_append] at this;omega
 have tl:=trimG_le i l.length (l.getD i ([],false))
 have tf:=frontG_le (decide (0 < i)) (l.getD i ([],false)).1
 have tg:=totG_get (l:=l) i
 repeat' (first|(with_reducible first|refine cut_unit (id:=7) ?_|refine AW_seqA (AW_block ?_)|refine AW_seq ?_|refine AW_runRet ?_)|simp only [WL,intF,WM,reduceCtorEq,WLb,Nat.reduceAdd,true_and,T226,T229,Tryz.results201]|simp (disch:=first|omega|(simp only [LN_];omega)) only [getLNA]|(with_reducible first|refine andA (hb:=?_)|refine y_storeA (hK:=?_)|refine y_new (hK:=fun b=>?_))|((with_reducible first|refine grd_cases (fun h=>?_) (fun h=>?_)|refine condC_split (fun h=>?_) (fun h=>?_))<;>(try simp only [h])<;>(try simp only [NR_,NRb] at h)))
 ·refine midA (fun of:Option (Option (Nat × Nat))=>⟨(LLA o l::.any::.any::SI (some tk) out::I e::B j::I i::.raw (.pointer (some ⟨b,0,none⟩))::.any::.any::LLA o l::I l.length::I i::.any::.any::.any::.any::.any::.any::.any::.any::.any::.any::.any::.any::.any::.any::.any::.any::.any::.any::.any::.any::.any::.any::.any::.any::.any::.any::.any::.any::.any::.any::.any::.any::.any::.any::.any::.any::.any::.any::.any::.any::.any::.any::.any::.any::.any::.any::.any::.any::.any::.any::.any::.any::.any::.any::.any::.any::.any::.any::.any::.any::.any::.any::.any::.any::.any::.any::.any::[]),.obj b [SG of (frontG (decide (0 < i)) (l.getD i ([],false)).1),B (l.getD i ([],false)).2]::.tip tk::σ,true,[]⟩) (fun _=>True) ?_ ?_
  ·
   repeat' (first|(with_reducible first|refine AW_seq ?_|refine AW_runCond ?_)|simp only [WL,intF,WM,ne_eq,reduceCtorEq,not_false_eq_true,true_and,and_true,cok218]|with_reducible refine cD (dFront ?_ (fun of=>?_))|((with_reducible first|refine grd_cases (fun h=>?_) (fun h=>?_)|refine condC_split (fun h=>?_) (fun h=>?_))<;>(try simp only [h])<;>(try simp only [NR_,NRb] at h))|omega)
   ·exact ⟨of,St_leW leA (ResW.of_eq (by simp [frontG,show 0 < i by omega])) id⟩
   ·exact ⟨none,St_leW leA (ResW.of_eq (by simp [frontG,show ¬0 < i by omega])) id⟩
  ·intro of _
   refine midA (fun of:Option (Option (Nat × Nat))=>⟨(LLA o l::.any::.any::SI (some tk) out::I e::B j::I i::.raw (.pointer (some ⟨b,0,none⟩))::.any::.any::LLA o l::I l.length::I i::.any::.any::.any::.any::.any::.any::.any::.any::.any::.any::.any::.any::.any::.any::.any::.any::.any::.any::.any::.any::.any::.any::.any::.any::.any::.any::.any::.any::.any::.any::.any::.any::.any::.any::.any::.any::.any::.any::.any::.any::.any::.any::.any::.any::.any::.any::.any::.any::.any::.any::.any::.any::.any::.any::.any::.any::.any::.any::.any::.any::.any::.any::.any::.any::.any::.any::.any::[]),.obj b [SG of (trimG i l.length (l.getD i ([],false))),B (l.getD i ([],false)).2]::.tip tk::σ,true,[]⟩) (fun _=>True) ?_ ?_
   ·
    repeat' (first|(with_reducible first|refine AW_seq ?_|refine AW_runCond ?_)|simp only [WL,intF,WM,ne_eq,reduceCtorEq,not_false_eq_true,true_and,and_true,T226,cok219]|simp (disch:=first|omega|(simp only [LN_];omega)) only [wrap_id]|with_reducible refine cD (dBack ?_ (fun of=>?_))|((with_reducible first|refine grd_cases (fun h=>?_) (fun h=>?_)|refine condC_split (fun h=>?_) (fun h=>?_))<;>(try simp only [h])<;>(try simp only [NR_,NRb] at h))|omega)
    ·exact ⟨of,St_leW leA (ResW.of_eq (by simp [trimG,show i+1 < l.length by omega])) id⟩
    ·exact ⟨of,St_leW leA (ResW.of_eq (by simp [trimG,backG,show ¬i+1 < l.length by omega])) id⟩
   ·intro of _
    have hsk:=fun h=>foldG_skip (n:=l.length) (i:=i) (j:=j) (e:=e) (l:=l) h rfl
    have htk:=fun h=>foldG_take (n:=l.length) (i:=i) (j:=j) (e:=e) (l:=l) (s:=if j=false∧e=0 then [32] else []) h rfl
    generalize hT:trimG i l.length (l.getD i ([],false))=T at *
    generalize hL:l.getD i ([],false)=L at *
    obtain ⟨L1,L2⟩:=L
    dsimp only at tl tg hsk htk ⊢
    generalize hS:(if j=false∧e=0 then [(32:Int)] else [])=S at *
    refine AW_seqA ?_
    refine midA (fun z:Bool=>⟨(LLA o l::.any::.any::SI (some tk) out::I e::B j::I i::.raw (.pointer (some ⟨b,0,none⟩))::.any::.any::LLA o l::I l.length::I i::.any::.any::.any::.any::.any::.any::.any::.any::.any::.any::.any::.any::.any::.any::.any::.any::.any::.any::.any::.any::.any::.any::.any::.any::.any::.any::.any::.any::.any::.any::.any::.any::B z::.any::.any::.any::.any::.any::.any::.any::.any::.any::.any::.any::.any::.any::.any::.any::.any::.any::.any::.any::.any::.any::.any::.any::.any::.any::.any::.any::.any::.any::.any::.any::.any::.any::.any::[]),.obj b [SG of T,B L2]::.tip tk::σ,true,[]⟩) (fun z=>z=true↔(T.length=0∧L2=false∧j=false∧i+1 < l.length)) ?_ ?_
    ·
     repeat' (first|with_reducible refine AW_runReg ?_|simp only [WL,intF,WM,reduceCtorEq,WLb,Nat.reduceAdd,Nat.reduceEqDiff,Bool.not_true,true_and,reduceIte,Bool.false_eq_true,T4,T226,T227,fR fl229_0,fR fl229_1]|simp (disch:=first|omega|(simp only [LN_];omega)) only [wrap_id]|(with_reducible first|refine andA (hb:=?_)|refine y_load (hK:=?_))|((with_reducible first|refine grd_cases (fun h=>?_) (fun h=>?_)|refine condC_split (fun h=>?_) (fun h=>?_))<;>(try simp only [h])<;>(try simp only [NR_,NRb] at h)))
     all_goals exact ⟨_,St_leW leA (ResW.refl _) id,by first|exact ⟨fun h9=>⟨by omega,by assumption,by assumption,by have:=of_decide_eq_true h9;omega⟩,fun h9=>decide_eq_true (by omega)⟩|exact ⟨fun _=>⟨by omega,by assumption,by assumption,by omega⟩,fun _=>by first|rfl|assumption|(simp;omega)⟩|exact ⟨fun h9=>(by cases h9),fun h9=>(by exfalso;obtain ⟨a1,a2,a3,a4⟩:=h9;first|omega|(simp_all;done))⟩⟩
    ·intro z hz
     repeat' (first|(with_reducible first|refine cut_blk (id:=2) ?_|refine AW_runReg ?_|refine AW_runCond ?_)|simp only [WL,intF,WM,ne_eq,reduceCtorEq,not_false_eq_true]|simp (disch:=first|omega|(simp only [LN_];omega)) only [wrap_id]|((with_reducible first|refine grd_cases (fun h=>?_) (fun h=>?_)|refine condC_split (fun h=>?_) (fun h=>?_))<;>(try simp only [h])<;>(try simp only [NR_,NRb] at h)))
     ·have hz2:=hz.1 (by assumption)
      exact ⟨(i+1,out,e+1,j,tk),St_leW leA (ResW.sub (List.sublist_cons_self _ _)) id,⟨by dsimp only;omega,by dsimp only;rw [h2,hsk (by omega) hz2.1 hz2.2.1 hz2.2.2.1 hz2.2.2.2],by dsimp only;omega,fun e1=>by rw [hz2.2.2.1] at e1;cases e1⟩,by dsimp only;omega⟩
     have hz2:¬(T.length=0∧L2=false∧j=false∧i+1 < l.length):=fun e1=>by rw [hz.2 e1] at *;contradiction
     rw [htk (by omega) hz2 rfl] at h2
     have ol2:=congrArg List.length h2
     simp only [List.length_append,List.length_replicate,List.length_map] at ol2
     refine midA (fun tk:Option (Nat × Nat)=>⟨(LLA o l::.any::.any::SI (some tk) (out++S)::I e::B j::I i::.raw (.pointer (some ⟨b,0,none⟩))::.any::.any::LLA o l::I l.length::I i::.any::.any::.any::.any::.any::.any::.any::.any::.any::.any::.any::.any::.any::.any::.any::.any::.any::.any::.any::.any::.any::.any::.any::.any::.any::.any::.any::.any::.any::.any::.any::.any::.any::.any::.any::.any::.any::.any::.any::.any::.any::.any::.any::.any::.any::.any::.any::.any::.any::.any::.any::.any::.any::.any::.any::.any::.any::.any::.any::.any::.any::.any::.any::.any::.any::.any::.any::[]),.obj b [SG of T,B L2]::.tip tk::σ,true,[]⟩) (fun _=>True) ?_ ?_
     ·
      repeat' (first|(with_reducible first|refine AW_block ?_|refine AW_seq ?_|refine AW_runCond ?_)|simp only [WL,intF,WM,reduceCtorEq,WLb,Nat.reduceAdd,and_true]|(with_reducible first|refine y_app (hlen:=?_) (hmax:=?_) (hK:=fun tk=>?_)|refine y_bs (hK:=?_))|((with_reducible first|refine grd_cases (fun h=>?_) (fun h=>?_)|refine condC_split (fun h=>?_) (fun h=>?_))<;>(try simp only [h])<;>(try simp only [NR_,NRb] at h))|omega|(refine maxLen_ok ?_;(first|omega|(simp only [LN_];omega))))
      ·obtain rfl:S=[]:=by rw [← hS,if_neg (by simp [*])]
       exact ⟨tk,St_leW (by simp only [List.append_nil];exact leA) (ResW.refl _) id⟩
      ·obtain rfl:S=[32]:=by rw [← hS,if_pos ⟨by assumption,by omega⟩]
       exact ⟨tk,St_leW leA (ResW.refl _) id⟩
      ·obtain rfl:S=[]:=by rw [← hS,if_neg (by omega)]
       exact ⟨tk,St_leW (by simp only [List.append_nil];exact leA) (ResW.refl _) id⟩
     ·intro tk _
      repeat' (first|(with_reducible first|refine AW_block ?_|refine cut_loop ?_|refine AW_seqA (AW_seqA ?_)|refine AW_runReg ?_)|simp only [WL,WM])
      refine loopA (fun x:Nat × Option (Nat × Nat)=>⟨(LLA o l::.any::.any::SI (some x.2) (out++S++List.replicate x.1 10)::I e::B j::I i::.raw (.pointer (some ⟨b,0,none⟩))::.any::.any::LLA o l::I l.length::I i::.any::.any::.any::.any::.any::.any::.any::.any::.any::.any::.any::.any::.any::.any::.any::.any::.any::.any::.any::.any::.any::.any::.any::.any::.any::.any::.any::.any::.any::.any::.any::.any::.any::.any::.any::.any::.any::.any::.any::.any::.any::.any::.any::I e::I x.1::.any::.any::.any::.any::.any::.any::.any::.any::.any::.any::.any::.any::.any::.any::.any::.any::.any::.any::.any::.any::.any::.any::[]),.obj b [SG of T,B L2]::.tip x.2::σ,true,[]⟩) (fun x=>x.1≤e) (fun x=>e - x.1) (0,tk) (St_leW (by simp only [List.replicate_zero,List.append_nil];exact leA) (ResW.refl _) id) (Nat.zero_le _) ?_
      rintro ⟨m,tk⟩ h9
      dsimp only at h9 ⊢
      repeat' (first|(with_reducible first|refine AW_seqA (AW_block ?_)|refine AW_block ?_|refine cut_loop ?_|refine AW_seqA (AW_seqA ?_)|refine AW_seq ?_|refine AW_runReg ?_)|simp only [WL,intF,WM,reduceCtorEq,WLb,Nat.reduceAdd,Nat.reduceEqDiff,true_and,T227,fR fl229_0]|simp (disch:=first|omega|(simp only [LN_];omega)) only [wrap_id]|(with_reducible first|refine andA (hb:=?_)|refine y_load (hK:=?_)|refine y_app (hlen:=?_) (hmax:=?_) (hK:=fun tk=>?_)|refine y_bs (hK:=?_))|((with_reducible first|refine grd_cases (fun h=>?_) (fun h=>?_)|refine condC_split (fun h=>?_) (fun h=>?_))<;>(try simp only [h])<;>(try simp only [NR_,NRb] at h))|(simp only [LN_];omega)|(refine maxLen_ok ?_;(first|omega|(simp only [LN_];omega))))
      ·exact ⟨(m+1,tk),St_leW (by simp only [List.replicate_succ',← List.append_assoc];exact leA) (ResW.refl _) id,by dsimp only;omega,by dsimp only;omega⟩
      obtain rfl:m=e:=by omega
      refine loopA (fun x:Nat × Option (Nat × Nat)=>⟨(LLA o l::.any::.any::SI (some x.2) (out++S++List.replicate m 10++(T.take x.1).map (·.1))::I m::B j::I i::.raw (.pointer (some ⟨b,0,none⟩))::.any::.any::LLA o l::I l.length::I i::.any::.any::.any::.any::.any::.any::.any::.any::.any::.any::.any::.any::.any::.any::.any::.any::.any::.any::.any::.any::.any::.any::.any::.any::.any::.any::.any::.any::.any::.any::.any::.any::.any::.any::.any::.any::.any::.any::.any::.any::.any::.any::.any::.any::.any::.any::.any::.any::.any::.any::.any::SG none T::I T.length::I x.1::.any::.any::.any::.any::.any::.any::.any::.any::.any::.any::.any::.any::.any::[]),.obj b [SG of T,B L2]::.tip x.2::σ,true,[]⟩) (fun x=>x.1≤T.length) (fun x=>T.length - x.1) (0,tk) (St_leW (by simp only [List.take_zero,List.map_nil,List.append_nil];exact leA) (ResW.refl _) id) (Nat.zero_le _) ?_
      rintro ⟨k,tk⟩ h9
      dsimp only at h9 ⊢
      repeat' (first|(with_reducible first|refine AW_seqA (AW_block ?_)|refine AW_seq ?_|refine AW_runReg ?_)|simp only [WL,intF,WM,reduceCtorEq,WLb,Nat.reduceAdd,Nat.reduceEqDiff,true_and,T3,T4,T227,T245,fR fl229_1,fR fl245_0]|simp (disch:=first|omega|(simp only [LN_];omega)) only [wrap_id,getG]|(with_reducible first|refine andA (hb:=?_)|refine y_load (hK:=?_)|refine y_storeA (hK:=?_)|refine y_new (hK:=fun b=>?_)|refine y_app (hlen:=?_) (hmax:=?_) (hK:=fun tk=>?_)|refine y_bs (hK:=?_))|((with_reducible first|refine grd_cases (fun h=>?_) (fun h=>?_)|refine condC_split (fun h=>?_) (fun h=>?_))<;>(try simp only [h])<;>(try simp only [NR_,NRb] at h))|(simp only [LN_];omega)|(refine maxLen_ok ?_;(first|omega|(simp only [LN_];omega))))
      ·exact ⟨(k+1,tk),St_leW (by dsimp only;rw [mapfst_take (by omega)];exact leA) (ResW.sub (List.sublist_cons_self _ _)) id,by dsimp only;omega,by dsimp only;omega⟩
      ·exact ⟨(i+1,out++S++List.replicate m 10++T.map (·.1),0,L2,tk),St_leW (by dsimp only;rw [List.take_of_length_le (show T.length≤k by omega)];exact leA) (ResW.sub (List.sublist_cons_self _ _)) id,⟨by dsimp only;omega,by dsimp only;rw [h2];simp only [List.append_assoc],Nat.zero_le _,fun _=>rfl⟩,by dsimp only;omega⟩
 ·rw [List.drop_eq_nil_of_le (by omega)] at h2
  exact leafL (sub_cons sub_rfl) (leT_le (by rw [h2];simp only [foldG,List.append_nil];exact le_ro)) hK
theorem dReadAll {l:List (List Int)} (hl:tot l≤100000000) (hK:K (.ret (.tup [SI none (readD l).1,I (readD l).2])) σ):ACallF κ Tryz.prog 173 [SSI o l] σ K:=by
 have hlen:=tot_len l
 refine ACallF.dropL (ACallF_introA Tryz.func173 rfl ?_)
 simp only [Tryz.ntmps173]
 repeat' (first|(with_reducible first|refine AW_block ?_|refine cut_loop ?_|refine AW_seqA (AW_seqA ?_)|refine AW_seq ?_|refine AW_runReg ?_)|simp only [WL,WM,Nat.reduceAdd,Nat.reduceSub,true_and,T191])
 refine loopA (fun x:Nat × List (List (Int × Bool) × Bool) × Option (Nat × Nat)=>⟨(SSI o l::.any::.any::.any::LLA (some x.2.2) x.2.1::.any::.any::.any::.any::SSI o l::I l.length::I x.1::.any::.any::.any::.any::.any::.any::.any::.any::.any::.any::.any::.any::.any::.any::.any::.any::.any::.any::.any::.any::.any::.any::.any::.any::[]),.tip x.2.2::σ,true,[]⟩)
  (fun x=>x.1≤l.length∧x.2.1.length=x.1∧(linesD l).2=(linesD (l.drop x.1)).2∧((linesD (l.drop x.1)).2=0→(linesD l).1=x.2.1++(linesD (l.drop x.1)).1)) (fun x=>l.length - x.1) (0,[],none) (St_leW leA ResW.void id) ⟨Nat.zero_le _,rfl,rfl,fun _=>rfl⟩ ?_
 rintro ⟨i,acc,tk⟩ hx
 dsimp only at hx ⊢
 have h1:=hx.1
 have h2:=hx.2.1
 have h3:=hx.2.2.1
 have h4:=hx.2.2.2
 have tg:=tot_get (l:=l) i
 rcases Nat.lt_or_ge i l.length with hi|hi
 ·have hla:=last_at hi
  have hd:=drop_getDL hi
  rw [hd] at h3 h4
  have hbad:=linesD_bad (t:=l.getD i []) (r:=l.drop (i+1))
  have hok:=linesD_ok (t:=l.getD i []) (r:=l.drop (i+1))
  rw [← hla] at hbad hok
  generalize hX:readLine ((i:Int)+1 == (l.length:Int)) (l.getD i [])=X at *
  repeat' (first|(with_reducible first|refine AW_seqA (AW_block ?_)|refine AW_seqA (AW_seqA ?_)|refine AW_seq ?_|refine AW_runReg ?_|refine AW_runCond ?_|refine AW_runRet ?_)|simp only [WL,intF,WM,reduceCtorEq,WLb,Nat.reduceAdd,Nat.reduceLT,true_and,T22,T191,cok200,cok201,Tryz.results173,hX]|simp (disch:=first|omega|(simp only [LN_];omega)) only [wrap_id,getS]|(with_reducible first|refine andA (hb:=?_)|refine y_loadA (hK:=?_)|refine y_storeA (hK:=?_)|refine y_new (hK:=fun b=>?_)|refine y_app (hlen:=?_) (hmax:=?_) (hK:=fun tk=>?_)|refine y_bs (hK:=?_)|refine cD (dRead ?_ ?_)|refine cD (dFolded ?_ ?_))|((with_reducible first|refine grd_cases (fun h=>?_) (fun h=>?_)|refine condC_split (fun h=>?_) (fun h=>?_))<;>(try simp only [h])<;>(try simp only [NR_,NRb] at h))|omega|(refine maxLen_ok ?_;(first|omega|(simp only [LN_];omega))))
  ·rw [readD_bad (h3.trans (by rw [hbad (by assumption)])) (by assumption)] at hK
   exact leafL (sub_cons (sub_cons sub_rfl)) (leT_tup (leL_two (le_nilro (by decide)) le_rfl)) hK
  ·obtain ⟨k1,k2⟩:=hok (by assumption)
   exact ⟨(i+1,acc++[(X.1,X.2.1)],tk),St_leW leA (ResW.sub (List.sublist_cons_self _ _)) id,⟨by dsimp only;omega,by simp [h2],h3.trans k1,fun h9=>by dsimp only at h9 ⊢;rw [h4 (by rw [k1];exact h9),k2 h9];simp⟩,by dsimp only;omega⟩
 ·rw [List.drop_eq_nil_of_le hi] at h3 h4
  have hr:=readD_ok h3
  have ha:=h4 rfl
  have ht:=linesD_tot l
  simp only [linesD,List.append_nil] at ha
  rw [ha] at hr ht
  repeat' (first|(with_reducible first|refine AW_seqA (AW_block ?_)|refine AW_seq ?_|refine AW_runRet ?_)|simp only [WL,intF,WM,ne_eq,reduceCtorEq,not_false_eq_true,true_and,T22,T191,cok200,cok201,Tryz.results173]|simp (disch:=first|omega|(simp only [LN_];omega)) only [wrap_id]|(with_reducible first|refine andA (hb:=?_)|refine cD (dFolded ?_ ?_))|((with_reducible first|refine grd_cases (fun h=>?_) (fun h=>?_)|refine condC_split (fun h=>?_) (fun h=>?_))<;>(try simp only [h])<;>(try simp only [NR_,NRb] at h))|omega)
  exact leafL (sub_cons sub_rfl) (leT_eq (by rw [hr])) hK
def aliasB (ls:List Ln) (p:Int × Int) (l:List Int):Bool:=(anchorI l).2.2 && endsF (restF ls (p.1,p.2+((anchorI l).2.1+1)))
theorem and2 {a b:Bool} (h1:a=true) (h2:b=true):(a && b)=true:=by rw [h1,h2];rfl
theorem nand2 {a b:Bool} (h:a=false∨b=false):(a && b)=false:=by rcases h with h|h<;>rw [h]<;>simp
theorem jAlias0 {bj:Nat}{ls:List Ln}{n d:Int}{bk:Bool}{x y:AV}{op:List Int}{l:List EvV}{τ σ0:List Res}{p:Int × Int}{t:List Int} (hJ:JX x y op l τ σ0) (hll:l.length≤1000000000) (hs:Small ls) (hp:Pl ls p) (ht:t.length≤2000)
  (h1:aliasB ls p t=true→∀ y' τ',JX x y' op (l++[⟨8,.empty,.empty,(anchorI t).1,0,false⟩]) τ' σ0→K (.ret (PLA (p.1,p.2+((anchorI t).2.1+1)))) (.obj bj (JC ls n bk d x y')::τ'))
  (h2:aliasB ls p t=false→K (.pan (wrongC 2)) (.obj bj (JC ls n bk d x y)::τ)):ACallF κ Tryz.prog 142 [JP bj,PLA p,SI o t] (.obj bj (JC ls n bk d x y)::τ) K:=by
 have ha:=cnt_le nameI t
 have ha1:(anchorI t).2.1=(cnt nameI t:Nat):=rfl
 have hl:=hs.1
 unfold Pl at hp
 have hA:In64 (p.1,p.2+((anchorI t).2.1+1)).1∧In64 (p.1,p.2+((anchorI t).2.1+1)).2:=⟨by dsimp only;omega,by dsimp only;omega⟩
 unfold aliasB at h1 h2
 refine ACallF.dropL (ACallF_intro Tryz.func142 rfl ?_)
 simp only [Tryz.ntmps142]
 repeat' (first|simp only [WL,intF,WM,reduceCtorEq,WLb,Nat.reduceAdd,Nat.reduceSub,Nat.reduceLT,Bool.not_true,true_and,reduceIte,Bool.false_eq_true,cok120,cok123,cok124,cok126,cok170,Tryz.results142]|simp (disch:=first|omega|(simp only [LN_];omega)) only [wrap_id]|(with_reducible first|refine andA (hb:=?_)|refine y_loadA (hK:=?_)|refine y_storeA (hK:=?_)|refine y_box (hK:=fun b=>?_)|refine y_new (hK:=fun b=>?_)|refine y_build (hK:=?_)|refine cD (jNeedF ?_)|refine cD (jEnds (p:=(p.1,p.2+((anchorI t).2.1+1))) hs hA ?_)|refine cD (jPutV hJ hll (fun y' τ' hJ'=>?_))|refine cD (jBehind ?_ ?_)|refine cD (jNeed (fun h=>?_) (fun h=>?_))|refine cD (pAnchor ?_ ?_))|((with_reducible refine resL_id ?_);apply res_c (hf:=Tryz.results142);exact y_load2)|((with_reducible first|refine grd_cases (fun h=>?_) (fun h=>?_)|refine condC_split (fun h=>?_) (fun h=>?_))<;>(try simp only [h])<;>(try simp only [NR_,NRb] at h))|omega)
 all_goals first
  | exact leafL (sub_cons (sub_cons (sub_cons sub_rfl))) (leT_eq rfl) (h1 (and2 (by assumption) (by assumption)) _ _ (by assumption))
  | exact leafP (sub_cons (sub_cons (sub_cons sub_rfl))) rfl (h2 (nand2 (by first|exact .inl (by assumption)|exact .inr (by assumption))))
theorem jAlias {bj:Nat}{ls:List Ln}{n d:Int}{bk:Bool}{x y:AV}{op:List Int}{l:List EvV}{ρ τ σ0:List Res}{p:Int × Int}{t:List Int} [hS:Split σ bj ρ (JC ls n bk d x y) τ] (hJ:JX x y op l τ σ0) (hll:l.length≤1000000000) (hs:Small ls) (hp:Pl ls p) (ht:t.length≤2000)
  (h1:aliasB ls p t=true→∀ y' τ',JX x y' op (l++[⟨8,.empty,.empty,(anchorI t).1,0,false⟩]) τ' σ0→K (.ret (PLA (p.1,p.2+((anchorI t).2.1+1)))) (ρ ++ .obj bj (JC ls n bk d x y')::τ'))
  (h2:aliasB ls p t=false→K (.pan (wrongC 2)) σ):ACallF κ Tryz.prog 142 [JP bj,PLA p,SI o t] σ K :=
 ACallF.at_ (b:=bj) (jAlias0 hJ hll hs hp ht h1 (fun h=>by have:=h2 h;rwa [hS.is] at this))
def closeI (l:List Int) (c:Int):Int × Bool:=if c=34 then endD 0 l else endG 0 l
theorem jClosing {l:List Int}{c:Int} (hl:l.length≤1000000000) (hK:K (.ret (.tup [I (closeI l c).1,B (closeI l c).2])) σ):ACallF κ Tryz.prog 171 [SI o l,I c] σ K:=by
 unfold closeI at hK
 refine ACallF.dropL (ACallF_intro Tryz.func171 rfl ?_)
 simp only [Tryz.ntmps171]
 repeat' (first|simp only [WL,intF,WM,reduceCtorEq,WLb,Nat.reduceAdd,Nat.reduceSub,Nat.reduceLT,true_and,cok198,cok199,Tryz.results171]|(with_reducible first|refine cD (dEnd ?_ ?_)|refine cD (sEnd ?_ ?_))|((with_reducible first|refine grd_cases (fun h=>?_) (fun h=>?_)|refine condC_split (fun h=>?_) (fun h=>?_))<;>(try simp only [h])<;>(try simp only [NR_,NRb] at h))|omega)
 ·rw [if_pos (by assumption)] at hK;exact leafL sub_rfl (leT_eq rfl) hK
 ·rw [if_neg (by assumption)] at hK;exact leafL sub_rfl (leT_eq rfl) hK
theorem endD_in:∀ (l:List Int) (k:Nat),(endD k l).2=true→k≤(endD k l).1∧(endD k l).1 < k+l.length
 | [],k,h=>by simp [endD] at h
 | [c],k,h=>by
  unfold endD at h ⊢
  split at h
  ·rename_i h0;rw [if_pos h0];simp only [List.length_cons,List.length_nil];omega
  ·cases h
 | c::d::r,k,h=>by
  unfold endD at h ⊢
  split at h
  ·rename_i h0
   rw [if_pos h0]
   have:=endD_in r (k+2) h
   simp only [List.length_cons] at *;omega
  ·rename_i h0
   rw [if_neg h0]
   split at h
   ·rename_i h1;rw [if_pos h1];simp only [List.length_cons];omega
   ·rename_i h1
    rw [if_neg h1]
    have:=endD_in (d::r) (k+1) h
    simp only [List.length_cons] at *;omega
theorem endG_in:∀ (l:List Int) (k:Nat),(endG k l).2=true→k≤(endG k l).1∧(endG k l).1 < k+l.length
 | [],k,h=>by simp [endG] at h
 | [c],k,h=>by
  unfold endG at h ⊢
  split at h
  ·rename_i h0;rw [if_pos h0];simp only [List.length_cons,List.length_nil];omega
  ·cases h
 | c::d::r,k,h=>by
  unfold endG at h ⊢
  split at h
  ·rename_i h0
   rw [if_pos h0]
   split at h
   ·rename_i h1
    rw [if_pos h1]
    have:=endG_in r (k+2) h
    simp only [List.length_cons] at *;omega
   ·rename_i h1;rw [if_neg h1];simp only [List.length_cons];omega
  ·rename_i h0
   rw [if_neg h0]
   have:=endG_in (d::r) (k+1) h
   simp only [List.length_cons] at *;omega
theorem close_in {l:List Int}{c:Int} (h:(closeI l c).2=true):0≤(closeI l c).1∧(closeI l c).1 < l.length:=by
 unfold closeI at h ⊢
 split at h
 ·rename_i h0;rw [if_pos h0];have:=endD_in l 0 h;omega
 ·rename_i h0;rw [if_neg h0];have:=endG_in l 0 h;omega
def quotedN (ls:List Ln) (n c:Int):Nat→Int × Int→List Int→List (List Int)→Except Int ((Int × Int) × List (List Int) × Int)
 | f,p,l,all =>
  if (closeI l c).2 then .ok (p,all++[l.take (closeI l c).1.toNat],(closeI l c).1)
  else if overF ls (p.1+1) then .error 2
  else if (ls.getD (p.1+1).toNat (0,[])).2.all blankI=false∧(ls.getD (p.1+1).toNat (0,[])).1≤n then .error 7
  else match f with
   | 0=>.error 2
   | f+1=>quotedN ls n c f (p.1+1,(ls.getD (p.1+1).toNat (0,[])).1) (ls.getD (p.1+1).toNat (0,[])).2 (all++[l])
def quotedF (ls:List Ln) (n c:Int) (q:Int × Int):Except Int (List Int × Int × (Int × Int)) :=
 match quotedN ls n c ls.length (q.1,q.2+1) (restF ls (q.1,q.2+1)) [] with
 | .error e=>.error e
 | .ok (p,all,k) =>
  if c=34 then (if (readD all).2=0 then .ok ((readD all).1,3,(p.1,p.2+(k+1))) else .error (readD all).2)
  else .ok (flowF (all.map und),2,(p.1,p.2+(k+1)))
theorem quotedN_eq {ls:List Ln}{n c:Int}{f:Nat}{p:Int × Int}{l:List Int}{all:List (List Int)}:quotedN ls n c f p l all =
  if (closeI l c).2 then .ok (p,all++[l.take (closeI l c).1.toNat],(closeI l c).1)
  else if overF ls (p.1+1) then .error 2
  else if (ls.getD (p.1+1).toNat (0,[])).2.all blankI=false∧(ls.getD (p.1+1).toNat (0,[])).1≤n then .error 7
  else match f with
   | 0=>.error 2
   | f+1=>quotedN ls n c f (p.1+1,(ls.getD (p.1+1).toNat (0,[])).1) (ls.getD (p.1+1).toNat (0,[])).2 (all++[l]):=by
 cases f<;>rfl
theorem readD_len (l:List (List Int)):(readD l).1.length≤tot l:=by
 unfold readD
 split
 ·simp
 ·exact Nat.le_trans (foldD_len _) (linesD_tot l)
theorem tot_app (a b:List (List Int)):tot (a++b)=tot a+tot b:=by unfold tot;simp
theorem tot_one (t:List Int):tot [t]=t.length+1:=by unfold tot;simp
theorem app_ssi (a:List (List Int)) (t:List Int):List.map (SI none) a++[AV.sl 1 none (List.map I t)]=List.map (SI none) (a++[t]):=by simp
theorem jQuoted0 {bj : Nat} {ls : List Ln} {n d c : Int} {bk : Bool} {x y : AV} {op : List Int} {l : List EvV} {τ σ0 : List Res} {v : TrV} {q : Int × Int} (hJ : JX x y op l τ σ0) (hll : l.length ≤ 1000000000) (hs : Small ls) (hp : Pl ls q)
    (h1:∀ t s e,quotedF ls n c q=.ok (t,s,e)→∀ y' τ',JX x y' op (l++[⟨7,textI t,v.t,v.a,s,false⟩]) τ' σ0→K (.ret (PLA e)) (.obj bj (JC ls n bk d x y')::τ'))
    (h2:∀ e,quotedF ls n c q=.error e→K (.pan (wrongC e)) (.obj bj (JC ls n bk d x y)::τ)):ACallF κ Tryz.prog 143 [JP bj,PLA q,I c,TrA v] (.obj bj (JC ls n bk d x y)::τ) K:=by
  have hl:=hs.1
  unfold Pl at hp
  have hq1:In64 ((q.1,q.2+1):Int × Int).1∧In64 ((q.1,q.2+1):Int × Int).2:=⟨by dsimp only;omega,by dsimp only;omega⟩
  have hr:=restF_len (p:=(q.1,q.2+1)) hs
  refine ACallF.dropL (ACallF_intro Tryz.func143 rfl ?_)
  simp only [Tryz.ntmps143]
  repeat' (first|simp only [WL,WM,Nat.reduceAdd,Nat.reduceSub,Nat.reduceLT,true_and,cok99,cok120,cok171]|(with_reducible first|refine andA (hb:=?_)|refine y_loadA (hK:=?_)|refine y_storeA (hK:=?_)|refine y_box (hK:=fun b=>?_)|refine y_new (hK:=fun b=>?_)|refine cD (jRest (p:=(q.1,q.2+1)) hs hq1 ?_)|refine cD (jBehind ?_ ?_)|refine cD (jClosing ?_ ?_))|omega)
  rename_i b5 b7
  refine loop_by (fun z:(Int × Int) × List Int × List (List Int) × Option (Nat × Nat)=>⟨(JP bj::PLA q::I c::TrA v::.any::JP b5::.any::JP b7::JP b::SSI (some z.2.2.2) z.2.2.1::SI none z.2.1::I (closeI z.2.1 c).1::B (closeI z.2.1 c).2::.any::.any::.any::.any::.any::.any::.any::.any::.any::.any::.any::.any::.any::.any::.any::.any::.any::.any::.any::.any::.any::.any::.any::.any::.any::.any::.any::.any::.any::.any::.any::.any::.any::.any::.any::.any::.any::.any::.any::.any::.any::.any::.any::.any::.any::.any::.any::.any::.any::.any::.any::.any::.any::.any::.any::.any::.any::.any::.any::.any::.any::.any::.any::.any::.any::.any::.any::.any::.any::.any::.any::.any::.any::.any::.any::.any::.any::.any::.any::.any::.any::.any::.any::.any::.any::.any::.any::.any::.any::.any::.any::[]),.tip z.2.2.2::.obj b [I 0,I 0]::.obj b7 (TrC v)::.obj b5 [I z.1.1,I z.1.2]::.obj bj (JC ls n bk d x y)::τ,true,[]⟩)
    (fun z=>(∃ f:Nat,(ls.length:Int)≤z.1.1+1+f∧quotedN ls n c ls.length (q.1,q.2+1) (restF ls (q.1,q.2+1)) []=quotedN ls n c f z.1 z.2.1 z.2.2.1)∧z.2.1.length≤2000∧tot z.2.2.1≤2001 * (z.1.1 - q.1).toNat∧q.1≤z.1.1∧z.1.1 < ls.length∧0≤z.1.2∧z.1.2≤4001) (fun z=>((ls.length:Int) - z.1.1).toNat) ((q.1,q.2+1),restF ls (q.1,q.2+1),[],none) (St_leW leA ResW.void id)
    ⟨⟨ls.length,by dsimp only;omega,rfl⟩,hr,by simp [tot],by dsimp only;omega,by dsimp only;omega,by dsimp only;omega,by dsimp only;omega⟩ ?_
  rintro ⟨⟨i,k⟩,cur,all,tk⟩ ⟨⟨f,hf,hR⟩,hc,ht,hi1,hi2,hk1,hk2⟩
  dsimp only at hf hR hc ht hi1 hi2 hk1 hk2 ⊢
  replace hR:=hR.trans quotedN_eq
  dsimp only at hR
  have hal:=tot_len all
  have ha:=hs.at_ (i:=(i+1).toNat)
  have hac:=tot_app all [cur.take (closeI cur c).1.toNat]
  rw [tot_one,List.length_take] at hac
  have hac2:=tot_app all [cur]
  rw [tot_one] at hac2
  have htt:tot all≤4002000:=by omega
  cases hb:(closeI cur c).2
  · simp only [hb,Bool.false_eq_true,if_false] at hR
    cases ho:overF ls (i+1)
    · simp only [ho,Bool.false_eq_true,if_false] at hR
      have hlt:=over_in ho
      have ha:=ha (by omega)
      repeat' (first|simp only [WL,intF,WM,reduceCtorEq,WLb,Nat.reduceAdd,Nat.reduceLT,Nat.reduceEqDiff,Bool.not_true,Bool.not_false,true_and,reduceIte,Bool.false_eq_true,T3,T22,T31,T51,fR fl51_0,fR fl51_1,fR fl131_0,fR fl159_0,fR fl159_1,cok122,cok123,cok151,cok171,cok172,ho,app_ssi]|simp (disch:=first|omega|(simp only [LN_];omega)) only [wrap_id,getL]|(with_reducible first|refine andA (hb:=?_)|refine y_load (hK:=?_)|refine y_loadA (hK:=?_)|refine y_storeA (hK:=?_)|refine y_new (hK:=fun b=>?_)|refine y_app (hlen:=?_) (hmax:=?_) (hK:=fun tk=>?_)|refine y_bs (hK:=?_)|refine y_build (hK:=?_)|refine cD (jNeedT ?_)|refine cD (jOver hs (by omega) ?_)|refine cD (jFail ?_)|refine cD (jClosing ?_ ?_)|refine cQ (lEmpty ?_ isR_mk) ?_)|((with_reducible refine AW_phH (id:=9) [0,1,2,3,4,5,6,7,8] (some 9) [([],some 10),([],none)] mixed ?_ ?_);kernel_rfl)|((with_reducible apply phE_intro);intro σq hq;have hqi:=has_of hq;clear hq)|(with_reducible exact isT_mk)|((with_reducible apply phC_ops);rfl;rfl)|(with_reducible refine phQ_mk (by first|exact Has.refl|exact Has.cons Has.refl|exact Has.cons (Has.cons Has.refl)) ?_)|((with_reducible refine AW_drawM (id:=10) 12 mixed ?_ ?_);kernel_rfl)|((with_reducible refine AW_phS1 (id:=12) [0,3,4,6,7] (some 1) [([2,5],some 8),([9],none)] mixed ?_ ?_);kernel_rfl)|(with_reducible refine phQ_mk (has1 (by first|(simp;done)|fail)) ?_)|(with_reducible refine dmQ_mk ?_)|((with_reducible first|refine grd_cases (fun h=>?_) (fun h=>?_)|refine condC_split (fun h=>?_) (fun h=>?_))<;>(try simp only [h])<;>(try simp only [NR_,NRb] at h))|omega|(refine maxLen_ok ?_;(first|omega|(simp only [LN_];omega))))
      all_goals first
        | (have he:quotedF ls n c q=.error 7:=by unfold quotedF;rw [hR,if_pos ⟨by assumption,by assumption⟩]
           exact leafP (sub_cons (sub_cons (sub_cons (sub_cons (sub_cons sub_rfl))))) rfl (h2 _ he))
        | skip
      all_goals
        rw [if_neg (by first|(intro h9;have:=h9.2;omega)|exact fun h9=>Bool.false_ne_true (h9.1.symm.trans (by assumption)))] at hR
        cases f with
        | zero=>exfalso;omega
        | succ f =>
        refine ⟨((i+1,(ls.getD (i+1).toNat (0,[])).1),(ls.getD (i+1).toNat (0,[])).2,all++[cur],tk),St_leW leA (ResW.sub (List.sublist_cons_self _ _)) id,⟨⟨f,by dsimp only;omega,hR⟩, ?_, ?_, ?_, ?_, ?_, ?_⟩, ?_⟩<;>dsimp only<;>omega
    · simp only [ho,if_true] at hR
      repeat' (first|simp only [WL,intF,WM,reduceCtorEq,WLb,Nat.reduceAdd,Nat.reduceEqDiff,Bool.not_true,Bool.not_false,true_and,T3,fR fl131_0,cok123,cok151,ho]|simp (disch:=first|omega|(simp only [LN_];omega)) only [wrap_id]|(with_reducible first|refine andA (hb:=?_)|refine y_load (hK:=?_)|refine y_app (hlen:=?_) (hmax:=?_) (hK:=fun tk=>?_)|refine y_bs (hK:=?_)|refine cD (jNeedF ?_)|refine cD (jOver ?_ ?_ ?_))|omega|(refine maxLen_ok ?_;(first|omega|(simp only [LN_];omega))))
      have he:quotedF ls n c q=.error 2:=by unfold quotedF;rw [hR]
      exact leafP (sub_cons (sub_cons (sub_cons (sub_cons sub_rfl)))) rfl (h2 _ he)
  · simp only [hb,if_true] at hR
    have hin:=close_in hb
    generalize hA:all++[cur.take (closeI cur c).1.toNat]=A at *
    have hac3:tot A≤100000000:=by omega
    have hrl:=readD_len A
    have hfl:=flowF_len (A.map und)
    have hfu:=und_tot A
    have hE : quotedF ls n c q = if c = 34 then (if (readD A).2 = 0 then .ok ((readD A).1, 3, (i, k + ((closeI cur c).1 + 1))) else .error (readD A).2)
        else .ok (flowF (A.map und),2,(i,k+((closeI cur c).1+1))):=by unfold quotedF;rw [hR]
    clear hR ha hac hac2 hf
    repeat' (first|simp only [WL,intF,WM,Int.reduceToNat,reduceCtorEq,WLb,Nat.reduceAdd,Nat.reduceLT,Bool.not_true,true_and,T3,T22,cok120,cok173,cok174,cok175,cok176,Tryz.results143,app_ssi,hA]|simp (disch:=first|omega|(simp only [LN_];omega)) only [wrap_id]|(with_reducible first|refine andA (hb:=?_)|refine y_loadA (hK:=?_)|refine y_storeA (hK:=?_)|refine y_app (hlen:=?_) (hmax:=?_) (hK:=fun tk=>?_)|refine y_bs (hK:=?_)|refine cD (dReadAll (l:=A) hac3 ?_)|refine cD (jMustE (fun h=>?_) (fun h=>?_))|refine cD (jScalar hJ hll (by omega) (fun y' τ' hJ'=>?_))|refine cD (jBehind (p:=(i,k)) (n:=(closeI cur c).1+1) (by dsimp only;omega) ?_)|refine cQ (sRead ?_ isR_mk) ?_)|((with_reducible refine resL_id ?_);apply res_c (hf:=Tryz.results143);exact y_load2)|((with_reducible apply phE_intro);intro σq hq)|(with_reducible exact isT_mk)|((with_reducible apply phC_ops);rfl;rfl)|(with_reducible refine phQ_mk trivial ?_)|((with_reducible refine AW_phE (id:=18) [0,1,2] (some 3) [([],some 4),([],none)] (fun _=>True) trivial mixed ?_ ?_);kernel_rfl)|((with_reducible first|refine grd_cases (fun h=>?_) (fun h=>?_)|refine condC_split (fun h=>?_) (fun h=>?_))<;>(try simp only [h])<;>(try simp only [NR_,NRb] at h))|omega|(refine maxLen_ok ?_;(first|omega|(simp only [LN_];omega))))
    all_goals first
      | exact leafP (sub_cons (sub_cons (sub_cons (sub_cons sub_rfl)))) rfl (h2 _ (hE.trans (by rw [if_pos (by assumption),if_neg (by assumption)])))
      | exact leafL (sub_cons (sub_cons (sub_cons (sub_cons sub_rfl)))) (leT_eq rfl) (h1 _ _ (i,k+((closeI cur c).1+1)) (hE.trans (by rw [if_pos (by assumption),if_pos (by assumption)])) _ _ (by assumption))
      | exact leafL (sub_cons (sub_cons (sub_cons (sub_cons sub_rfl)))) (leT_eq rfl) (h1 _ _ (i,k+((closeI cur c).1+1)) (hE.trans (by rw [if_neg (by assumption)])) _ _ (by assumption))
theorem jQuoted {bj:Nat}{ls:List Ln}{n d c:Int}{bk:Bool}{x y:AV}{op:List Int}{l:List EvV}{ρ τ σ0:List Res}{v:TrV}{q:Int × Int} [hS:Split σ bj ρ (JC ls n bk d x y) τ] (hJ:JX x y op l τ σ0) (hll:l.length≤1000000000) (hs:Small ls) (hp:Pl ls q)
  (h1:∀ t s e,quotedF ls n c q=.ok (t,s,e)→∀ y' τ',JX x y' op (l++[⟨7,textI t,v.t,v.a,s,false⟩]) τ' σ0→K (.ret (PLA e)) (ρ ++ .obj bj (JC ls n bk d x y')::τ'))
  (h2:∀ e,quotedF ls n c q=.error e→K (.pan (wrongC e)) σ):ACallF κ Tryz.prog 143 [JP bj,PLA q,I c,TrA v] σ K :=
 ACallF.at_ (b:=bj) (jQuoted0 hJ hll hs hp h1 (fun e h=>by have:=h2 e h;rwa [hS.is] at this))
end Go.Proofs.YthkabaiamcjdbaaGreat
/-
 The abstract layer,part H: elements that are nil.
-/

namespace Go.Abs
section
variable {κ:Ctx} {P:Program} {all rest:List Oper} {Q:Exit→St→Prop} {d:Option Tmp} {s:St} {m:MA} {x:AV} {o:Option (Option (Nat × Nat))} {sz:Nat}
theorem AAct.argsS {xs ys:List AV}{σ:List Res}{K:AV→List Res→Prop} (hl:leSL xs ys) (h:AAct κ P m ys σ K):AAct κ P m xs σ K:=fun φ g w vs hR hv=>h φ g w vs hR (hv.leS hl)
theorem actC_nilel (hsz:0 < sz) (h:actC κ false P all Q d rest s m [x,.sl 1 o [.sl sz none []]]):actC κ false P all Q d rest s m [x,.sl 1 o [nilS]] :=
 AAct.argsS (ys:=[x,.sl 1 o [.sl sz none []]]) ⟨leS_rfl,leS_sl (leC_one rfl rfl (leS_le (le_nilro hsz)) trivial),trivial⟩ h
end
end Go.Abs
