/-
  Texts Vd, Pd, Pe, Pf, Pa, Pl, MB, Ta, So, Tb, Tc, Td, Tg, one behind the other.
-/
import Derived.Test.YthkabaiamcjdbaaGreatJ21
import Derived.MapKept
import Derived.Laws.RangeAny
import Derived.Shelf.Small.Strs
import Derived.KernelRfl
set_option linter.unusedVariables false
set_option maxRecDepth 4000
set_option linter.unusedSimpArgs false
set_option maxHeartbeats 16000000
namespace Go.Proofs.YthkabaiamcjdbaaGreat
open Go.Abs
variable {κ:Ctx} {σ:List Res} {K:Ret→List Res→Prop} {o o':Option (Option (Nat × Nat))}
def CX (x:Ln):Bool:=decide (x.1=0) && (decide (0 < x.2.length) && x.2.getD 0 0 == 37)
theorem lu {k:Int}{t:List Int} (hl:t.length≤2000) (hK:K (.ret (B (CX (k,t)))) σ):ACallF κ Tryz.prog 73 [.agg [I k,SI none t]] σ K:=by
 unfold CX at hK;refine ACallF.dropL (aa Tryz.func73 rfl ?_);simp only [Tryz.ntmps73]
 repeat' (first|simp only [WL,ay,WM,Int.reduceToNat,reduceCtorEq,bg,Nat.reduceAdd,Nat.reduceSub,Nat.reduceEqDiff,Bool.not_true,true_and,reduceIte,Bool.false_eq_true,T3,cb,fR db,fR c9,Tryz.results73]|simp (disch:=first|omega|(simp only [aU];omega)) only [bL,bL]|(with_reducible first|refine ax (hb:=?_)|refine au (hK:=?_)|refine aQ (hK:=fun b=>?_))|((with_reducible first|refine ai (fun h=>?_) (fun h=>?_)|refine ab (fun h=>?_) (fun h=>?_))<;>(try simp only [h])<;>(try simp only [bf,ba] at h)))
 all_goals first
  | exact ak (ah ae) (aj (congrArg B (by simp_all))) hK
theorem jX {l:List Int}{i j:Nat}:(l.drop i).getD j 0=l.getD (i+j) 0:=by simp [List.getD_eq_getElem?_getD]
theorem pK {l:List Int}{i:Nat} (hl:l.length≤1000000000) (hi:i≤l.length) (hK:K (.ret (I (i+gD blankI (l.drop i):Nat))) σ):ACallF κ Tryz.prog 111 [SI o l,I i] σ K:=by
  have hcl:=eX blankI (l.drop i)
  rw [List.length_drop] at hcl;refine ACallF.dropL (aN Tryz.func111 rfl ?_);simp only [Tryz.ntmps111]
  repeat' (first|(with_reducible first|refine al (aC ?_)|refine bO ?_|refine aG ?_)|simp only [WL,WM,Nat.reduceAdd,Nat.reduceSub])
  refine dq (fun k:Nat=>⟨(SI o l::I (i+k:Nat)::.any::.any::.any::.any::.any::.any::.any::.any::.any::.any::.any::.any::.any::.any::.any::.any::.any::[]),σ,true,[]⟩) (fun k=>k≤gD blankI (l.drop i)) (fun k=>l.length - k) 0 (aq bH id) (Nat.zero_le _) ?_;intro k hk
  repeat' (first|(with_reducible first|refine aC ?_|refine al (al ?_)|refine aG ?_|refine aB ?_|refine aw ?_|refine aO ?_)|simp only [WL,ay,WM,reduceCtorEq,bg,Nat.reduceAdd,Bool.not_true,true_and,reduceIte,Bool.false_eq_true,T3,cb,fM,Tryz.results111]|simp (disch:=first|omega|(simp only [aU];omega)) only [an,bL]|(with_reducible first|refine ax (hb:=?_)|refine cD (Blank ?_))|((with_reducible first|refine ai (fun h=>?_) (fun h=>?_)|refine ab (fun h=>?_) (fun h=>?_))<;>(try simp only [h])<;>(try simp only [bf,ba] at h)))
  all_goals first
    | exact ⟨k+1,aq bH id,qe hk (by rw [List.length_drop];omega) (by rw [jX];assumption),by omega⟩
    | (have e:=pW hk (by first|exact .inl (by rw [List.length_drop];omega)|exact .inr (by rw [jX];assumption))
       exact ak ae (aj (by rw [← e])) hK)
theorem Lg {l:List Int}{i:Nat} (hl:l.length≤1000000000) (hi:i≤l.length) (hK:K (.ret (B (uq (l.drop i)))) σ):ACallF κ Tryz.prog 134 [SI o l,I i] σ K:=by
 have hcl:=eX blankI (l.drop i)
 rw [List.length_drop] at hcl;refine ACallF.dropL (aa Tryz.func134 rfl ?_);simp only [Tryz.ntmps134]
 repeat' (first|simp only [WL,ay,WM,reduceCtorEq,bg,Nat.reduceAdd,Nat.reduceSub,Bool.not_true,Bool.not_false,true_and,reduceIte,Bool.false_eq_true,T3,cb,tZ,Tryz.results134]|simp (disch:=first|omega|(simp only [aU];omega)) only [bL]|(with_reducible first|refine ax (hb:=?_)|refine cD (pK ?_ ?_ ?_))|((with_reducible first|refine ai (fun h=>?_) (fun h=>?_)|refine ab (fun h=>?_) (fun h=>?_))<;>(try simp only [h])<;>(try simp only [bf,ba] at h))|omega)
 all_goals
  refine ak ae (aj (congrArg B ?_)) hK;rw [Bool.eq_iff_iff];simp only [uq,List.length_drop,jX,decide_eq_true_eq,beq_iff_eq,Bool.false_eq_true,false_iff,true_iff];omega
theorem yJ {l:List Int}{i:Nat} (hl:l.length≤1000000000) (hi:i≤l.length) (hK:K (.ret (I (i+gD eB (l.drop i):Nat))) σ):ACallF κ Tryz.prog 133 [SI o l,I i] σ K:=by
  have hcl:=eX eB (l.drop i)
  rw [List.length_drop] at hcl;refine ACallF.dropL (aN Tryz.func133 rfl ?_);simp only [Tryz.ntmps133]
  repeat' (first|(with_reducible first|refine al (aC ?_)|refine bO ?_|refine aG ?_)|simp only [WL,WM,Nat.reduceAdd,Nat.reduceSub])
  refine dq (fun k:Nat=>⟨(SI o l::I (i+k:Nat)::.any::.any::.any::.any::.any::.any::.any::.any::.any::.any::.any::.any::.any::.any::.any::.any::.any::.any::.any::.any::.any::.any::.any::.any::[]),σ,true,[]⟩) (fun k=>k≤gD eB (l.drop i)) (fun k=>l.length - k) 0 (aq bH id) (Nat.zero_le _) ?_;intro k hk
  repeat' (first|(with_reducible first|refine aC ?_|refine al (al ?_)|refine aG ?_|refine aB ?_|refine aw ?_|refine aO ?_)|simp only [WL,ay,WM,reduceCtorEq,bg,Nat.reduceAdd,Bool.not_true,true_and,reduceIte,Bool.false_eq_true,T3,cb,Tryz.results133]|simp (disch:=first|omega|(simp only [aU];omega)) only [an,bL]|with_reducible refine ax (hb:=?_)|((with_reducible first|refine ai (fun h=>?_) (fun h=>?_)|refine ab (fun h=>?_) (fun h=>?_))<;>(try simp only [h])<;>(try simp only [bf,ba] at h)))
  all_goals first
    | exact ⟨k+1,aq bH id,qe hk (by rw [List.length_drop];omega) (by rw [jX];exact decide_eq_true ⟨by omega,by omega⟩),by omega⟩
    | (have e:=pW hk (by first|exact .inl (by rw [List.length_drop];omega)|exact .inr (by rw [jX];exact decide_eq_false (by omega)))
       exact ak ae (aj (by rw [← e])) hK)
theorem IG {l:List Int}{i:Nat} (hl:l.length≤1000000000) (hi:i≤l.length) (hK:K (.ret (.tup [.raw (.string (pE l i).1),.raw (.string (pE l i).2.1),B (pE l i).2.2])) σ):ACallF κ Tryz.prog 112 [SI o l,I i] σ K:=by
  have hcl:=eX eB (l.drop i)
  rw [List.length_drop] at hcl;unfold pE at hK;generalize ha:gD eB (l.drop i)=a at *;have hdig:∀ (K:Ret→List Res→Prop),K (.ret (I (i+a:Nat))) σ→ACallF κ Tryz.prog 133 [SI o l,I i] σ K:=fun K h=>yJ hl hi (by rw [ha];exact h)
  cases h2:nH l (i+a) 46
  · rw [if_pos (.inr h2)] at hK
    refine ACallF.dropL (aa Tryz.func112 rfl ?_);simp only [Tryz.ntmps112]
    repeat' (first|simp only [WL,ay,WM,reduceCtorEq,bg,Nat.reduceAdd,Nat.reduceSub,Bool.not_false,true_and,reduceIte,Bool.false_eq_true,fy,DF,Tryz.results112,h2]|(with_reducible first|refine callD_mk (hdig _ ?_)|refine cD (xF (i:=i+a) ?_ ?_ ?_))|((with_reducible first|refine ai (fun h=>?_) (fun h=>?_)|refine ab (fun h=>?_) (fun h=>?_))<;>(try simp only [h])<;>(try simp only [bf,ba] at h))|omega)
    all_goals exact ak ae (aj rfl) hK
  have hl3:=(kA h2).1
  have hb:=eX eB (l.drop (i+a+1))
  rw [List.length_drop] at hb;by_cases h1:a=0
  · rw [if_pos (.inl h1)] at hK
    refine ACallF.dropL (aa Tryz.func112 rfl ?_);simp only [Tryz.ntmps112]
    repeat' (first|simp only [WL,ay,WM,reduceCtorEq,bg,Nat.reduceAdd,Nat.reduceSub,Bool.not_true,Bool.not_false,true_and,reduceIte,Bool.false_eq_true,T3,cb,fy,jP,DF,Ci,Tryz.results112,h2]|simp (disch:=first|omega|(simp only [aU];omega)) only [an]|(with_reducible first|refine ax (hb:=?_)|refine callD_mk (hdig _ ?_)|refine cD (xF (i:=i+a) ?_ ?_ ?_)|refine cQ (nm ?_ aT) ?_|refine cD (yJ ?_ ?_ ?_)|refine cQ (Lg ?_ ?_ aT) ?_)|((with_reducible refine aE (id:=5) 23 mixed ?_ ?_);kernel_rfl)|(with_reducible refine bK ?_)|((with_reducible first|refine ai (fun h=>?_) (fun h=>?_)|refine ab (fun h=>?_) (fun h=>?_))<;>(try simp only [h])<;>(try simp only [bf,ba] at h))|omega)
    all_goals first
      | exact ak ae (aj rfl) hK
      | (exfalso;omega)
  · rw [if_neg (fun h=>h.elim h1 (fun h=>by rw [h2] at h;cases h))] at hK
    generalize hb2:gD eB (l.drop (i+a+1))=b at *;have hdig2:∀ (K:Ret→List Res→Prop),K (.ret (I (i+a+1+b:Nat))) σ→ACallF κ Tryz.prog 133 [SI o l,I (i+a+1:Nat)] σ K:=fun K h=>yJ (i:=i+a+1) hl (by omega) (by rw [hb2];exact h)
    have e1:((i+a:Nat):Int)+1=((i+a+1:Nat):Int):=by omega
    refine ACallF.dropL (aa Tryz.func112 rfl ?_);simp only [Tryz.ntmps112]
    repeat' (first|simp only [WL,ay,WM,reduceCtorEq,bg,Nat.reduceAdd,Nat.reduceSub,Bool.not_true,Bool.not_false,true_and,reduceIte,Bool.false_eq_true,T3,cb,fy,jP,DF,Ci,Tryz.results112,h2,e1]|simp (disch:=first|omega|(simp only [aU];omega)) only [an]|(with_reducible first|refine ax (hb:=?_)|refine callD_mk (hdig _ ?_)|refine callD_mk (hdig2 _ ?_)|refine cD (xF (i:=i+a) ?_ ?_ ?_)|refine cQ (nm ?_ aT) ?_|refine cQ (Lg ?_ ?_ aT) ?_)|((with_reducible refine aE (id:=5) 23 mixed ?_ ?_);kernel_rfl)|(with_reducible refine bK ?_)|((with_reducible first|refine ai (fun h=>?_) (fun h=>?_)|refine ab (fun h=>?_) (fun h=>?_))<;>(try simp only [h])<;>(try simp only [bf,ba] at h))|omega|(simp only [aU];omega))
    all_goals first
      | (exfalso;omega)
      | (have n1:0 < b:=by omega
         exact ak ae (aj (by simp [n1])) hK)
      | (have n1:¬0 < b:=by omega
         exact ak ae (aj (by simp [n1])) hK)
theorem Oa {l:List Int}{i:Nat} (hl:l.length≤1000000000) (hi:i≤l.length) (hK:K (.ret (.tup [.raw (.string (sa l i).1),.raw (.string (sa l i).2.1),B (sa l i).2.2])) σ):ACallF κ Tryz.prog 113 [SI o l,I i] σ K:=by
  unfold sa at hK;cases h2:nH l i 33
  · rw [if_pos h2] at hK
    refine ACallF.dropL (aa Tryz.func113 rfl ?_);simp only [Tryz.ntmps113]
    repeat' (first|simp only [WL,WM,Nat.reduceAdd,Nat.reduceSub,Bool.not_false,true_and,fy,Tryz.results113,h2]|with_reducible refine cD (xF ?_ ?_ ?_)|omega)
    all_goals exact ak ae (aj rfl) hK
  · rw [if_neg (by rw [h2];decide)] at hK
    have hlt:=(kA h2).1
    have h3:=FG hlt
    have h4:=FM hlt
    have h5:=OG hlt
    have eH:(i:Int)+max 1 ((bB (l.drop i):Nat):Int)=((kG l i:Nat):Int):=by unfold kG;omega
    have eF:kG l i+gD blankI (l.drop (kG l i))=jl l i:=rfl
    have eU:cG dQ (l.drop (jl l i))=nU l i:=rfl
    have eS:((jl l i:Nat):Int)+((nU l i:Nat):Int)=((jl l i+nU l i:Nat):Int):=by omega
    refine ACallF.dropL (aa Tryz.func113 rfl ?_);simp only [Tryz.ntmps113]
    repeat' (first|simp only [WL,ay,WM,reduceCtorEq,bg,Nat.reduceAdd,Nat.reduceSub,Bool.not_true,true_and,reduceIte,Bool.false_eq_true,T3,cb,fy,jP,tZ,Ci,C0,mA,Tryz.results113,h2,eH,eF,eU,eS]|simp (disch:=first|omega|(simp only [aU];omega)) only [an]|(with_reducible first|refine ax (hb:=?_)|refine mS ?_|refine cD (pK (i:=kG l i) ?_ ?_ ?_)|refine cD (qm ?_ ?_)|refine callD_q (Lg (i:=jl l i+nU l i) hl h5 aT) ?_|refine cD (xF ?_ ?_ ?_)|refine cQ (nm ?_ aT) ?_|refine cD (x5 ?_ ?_ ?_))|((with_reducible refine aE (id:=6) 29 mixed ?_ ?_);kernel_rfl)|(with_reducible refine bK ?_)|((with_reducible first|refine ai (fun h=>?_) (fun h=>?_)|refine ab (fun h=>?_) (fun h=>?_))<;>(try simp only [h])<;>(try simp only [bf,ba] at h))|omega|(simp only [aU];omega))
    all_goals first
      | (exfalso;omega)
      | (have n1:kG l i < jl l i:=by omega
         have n2:0 < nU l i:=by omega
         exact ak ae (aj (by simp [n1,n2])) hK)
      | (have n1:kG l i < jl l i:=by omega
         have n2:¬0 < nU l i:=by omega
         exact ak ae (aj (by simp [n1,n2])) hK)
      | (have n1:¬kG l i < jl l i:=by omega
         exact ak ae (aj (by simp [n1])) hK)
theorem jI {l:List Int} (hl:l.length≤1000000000) (hK:K (.ret (.tup [.raw (.string (kB l).1),.raw (.string (kB l).2.1),.raw (.string (kB l).2.2.1),B (kB l).2.2.2])) σ):ACallF κ Tryz.prog 93 [SI o l] σ K:=by
 unfold kB at hK;cases h0:nH l 0 37
 ·rw [if_pos h0] at hK
  refine ACallF.dropL (aa Tryz.func93 rfl ?_);simp only [Tryz.ntmps93]
  repeat' (first|simp only [WL,WM,Nat.reduceAdd,Nat.reduceSub,Nat.reduceLeDiff,Bool.not_false,true_and,fy,Tryz.results93,h0]|with_reducible refine cD (xF (i:=0) ?_ ?_ ?_)|omega)
  all_goals exact ak ae (aj rfl) hK
 rw [if_neg (by rw [h0];decide)] at hK;have hlt:=(kA h0).1
 have hn:=OT hlt
 have hm:=Nt l
 have hn1:1≤gT l:=by unfold gT;omega
 have eN:(1:Int)+((gD eK (l.drop 1):Nat):Int)=((gT l:Nat):Int):=by unfold gT;omega
 have eM:gT l+gD blankI (l.drop (gT l))=gT l+oL l:=rfl
 have eT:aK ((l.take (gT l)).drop 1)=mX l:=rfl
 by_cases hY:(mX l).toList=litY.toList
 ·rw [if_pos hY] at hK
  have q1:((mX l).toList == litY.toList)=true:=by simp [hY]
  have q2:((mX l).toList == ({ data:=#[] }:ByteArray).toList)=false:=by rw [hY];decide +kernel
  refine ACallF.dropL (aa Tryz.func93 rfl ?_);simp only [Tryz.ntmps93]
  repeat' (first|simp only [WL,ay,dx,WM,Int.reduceToNat,reduceCtorEq,bg,Nat.reduceAdd,Nat.reduceSub,Nat.reduceLT,Nat.reduceLeDiff,Bool.not_true,Bool.not_false,true_and,reduceIte,Bool.false_eq_true,T3,cb,fy,zc,jP,tZ,Tw,Tryz.results93,h0,eN,eM,eT,q1,q2]|simp (disch:=first|omega|(simp only [aU];omega)) only [an]|(with_reducible first|refine ax (hb:=?_)|refine cD (xF (i:=0) ?_ ?_ ?_)|refine cD (pK (i:=gT l) ?_ ?_ ?_)|refine cD (IG (i:=gT l+oL l) ?_ ?_ ?_)|refine cD (yF ?_ ?_)|refine cD (nm ?_ ?_))|((with_reducible first|refine ai (fun h=>?_) (fun h=>?_)|refine ab (fun h=>?_) (fun h=>?_))<;>(try simp only [h])<;>(try simp only [bf,ba] at h))|omega|(simp only [aU];omega))
  all_goals first
   | (exfalso;omega)
   | (rw [if_pos ⟨by assumption,by omega⟩] at hK;exact ak ae (aj rfl) hK)
   | (rw [if_neg (fun h=>by have:=h.2;omega)] at hK;exact ak ae (aj rfl) hK)
   | (rw [if_neg (fun h=>by have:=h.1;simp_all)] at hK;exact ak ae (aj rfl) hK)
 ·have q1:((mX l).toList == litY.toList)=false:=by simpa using hY
  rw [if_neg hY] at hK;by_cases hT:(mX l).toList=litT.toList
  ·rw [if_pos hT] at hK
   have q3:((mX l).toList == litT.toList)=true:=by simp [hT]
   have q2:((mX l).toList == ({ data:=#[] }:ByteArray).toList)=false:=by rw [hT];decide +kernel
   refine ACallF.dropL (aa Tryz.func93 rfl ?_);simp only [Tryz.ntmps93]
   repeat' (first|simp only [WL,ay,dx,WM,Int.reduceToNat,reduceCtorEq,bg,Nat.reduceAdd,Nat.reduceSub,Nat.reduceLT,Nat.reduceLeDiff,Bool.not_true,Bool.not_false,true_and,reduceIte,Bool.false_eq_true,T3,cb,fy,zc,jP,tZ,T0,Tryz.results93,h0,eN,eM,eT,q1,q2,q3]|simp (disch:=first|omega|(simp only [aU];omega)) only [an]|(with_reducible first|refine ax (hb:=?_)|refine cD (xF (i:=0) ?_ ?_ ?_)|refine cD (pK (i:=gT l) ?_ ?_ ?_)|refine cD (Oa (i:=gT l+oL l) ?_ ?_ ?_)|refine cD (yF ?_ ?_)|refine cD (nm ?_ ?_))|((with_reducible first|refine ai (fun h=>?_) (fun h=>?_)|refine ab (fun h=>?_) (fun h=>?_))<;>(try simp only [h])<;>(try simp only [bf,ba] at h))|omega|(simp only [aU];omega))
   all_goals first
    | (exfalso;omega)
    | (rw [if_pos ⟨by assumption,by omega⟩] at hK;exact ak ae (aj rfl) hK)
    | (rw [if_neg (fun h=>by have:=h.2;omega)] at hK;exact ak ae (aj rfl) hK)
    | (rw [if_neg (fun h=>by have:=h.1;simp_all)] at hK;exact ak ae (aj rfl) hK)
  ·have q3:((mX l).toList == litT.toList)=false:=by simpa using hT
   rw [if_neg hT] at hK;refine ACallF.dropL (aa Tryz.func93 rfl ?_);simp only [Tryz.ntmps93]
   repeat' (first|simp only [WL,ay,dx,WM,Int.reduceToNat,reduceCtorEq,bg,Nat.reduceAdd,Nat.reduceSub,Nat.reduceLeDiff,Bool.not_true,Bool.not_false,true_and,reduceIte,Bool.false_eq_true,T3,cb,fy,zc,jP,tZ,Tryz.results93,h0,eN,eM,eT,q1,q3]|simp (disch:=first|omega|(simp only [aU];omega)) only [an]|(with_reducible first|refine ax (hb:=?_)|refine cD (xF (i:=0) ?_ ?_ ?_)|refine cD (pK (i:=gT l) ?_ ?_ ?_)|refine cD (yF ?_ ?_)|refine cD (nm ?_ ?_))|((with_reducible first|refine ai (fun h=>?_) (fun h=>?_)|refine ab (fun h=>?_) (fun h=>?_))<;>(try simp only [h])<;>(try simp only [bf,ba] at h))|omega|(simp only [aU];omega))
   all_goals first
    | (rw [if_pos ⟨by assumption,by omega⟩] at hK;exact ak ae (aj rfl) hK)
    | (rw [if_neg (fun h=>by have:=h.2;omega)] at hK;exact ak ae (aj rfl) hK)
    | (rw [if_neg (fun h=>h.1 (by assumption))] at hK;exact ak ae (aj rfl) hK)
theorem Qz {a:Int}:pP a 31=a % 32:=iQ (a:=a) 5 (by decide)
theorem Qv {a:Int}:pP a 15=a % 16:=iQ (a:=a) 4 (by decide)
theorem VL {a:Int}:pP a 7=a % 8:=iQ (a:=a) 3 (by decide)
theorem qf:∀ {n:Nat}{c:Int}{l:List Int},l.length < n→dv n c l=none
 | 0,_,_,h=>by omega
 | n+1,c,[],_=>rfl
 | n+1,c,y::r,h=>by
  simp only [dv];split
  ·exact qf (by simpa using h)
  ·rfl
theorem C5 {n:Nat}{c:Int}{l:List Int}{i:Nat} (h:i < l.length) (h2:l.getD i 0 < 128∨191 < l.getD i 0):dv (n+1) c (l.drop i)=none:=by
 rw [aX h];simp only [dv];rw [if_neg (by omega)]
theorem GT {n:Nat}{c:Int}{l:List Int}{i:Nat} (h:i < l.length) (h1:128≤l.getD i 0) (h2:l.getD i 0≤191):dv (n+1) c (l.drop i)=dv n (c * 64+l.getD i 0 % 64) (l.drop (i+1)):=by
 rw [aX h];simp only [dv];rw [if_pos ⟨h1,h2⟩]
theorem GK {b:List Int} (h:0 < b.length):cv b=(if b.getD 0 0 < 128 then (b.getD 0 0,1)
  else if 194≤b.getD 0 0∧b.getD 0 0 < 224 then kV 2 128 (dv 1 (b.getD 0 0 % 32) (b.drop 1))
  else if 224≤b.getD 0 0∧b.getD 0 0 < 240 then kV 3 2048 (dv 2 (b.getD 0 0 % 16) (b.drop 1))
  else if 240≤b.getD 0 0∧b.getD 0 0 < 245 then kV 4 65536 (dv 3 (b.getD 0 0 % 8) (b.drop 1))
  else (0,0)):=by
 cases b with
 | nil=>simp at h
 | cons x r=>rfl
theorem FA {b:List Int} (hl:b.length≤1000000000) (h0:0 < b.length) (hb:∀ x∈b,0≤x∧x≤255) (hK:K (.ret (.tup [I (cv b).1,I (cv b).2])) σ):ACallF κ Tryz.prog 54 [SU o b] σ K:=by
  have hg:∀ j,j < b.length→0≤b.getD j 0∧b.getD j 0≤255:=fun j hj=>by
    rw [List.getD_eq_getElem?_getD,List.getElem?_eq_getElem hj];exact hb _ (List.getElem_mem hj)
  have h00:=hg 0 h0
  have hp:=GK h0
  refine ACallF.dropL (aN Tryz.func54 rfl ?_);simp only [Tryz.ntmps54]
  repeat' (first|(with_reducible first|refine yq (id:=0) ?_|refine aG ?_)|simp only [WL,WM,Int.reduceToNat,Nat.reduceAdd,Nat.reduceSub,true_and,T5,sn,cI z7]|simp (disch:=first|omega|(simp only [aU];omega)) only [an,za]|with_reducible refine ax (hb:=?_))
  refine nW (fun x:Int × Int × Int=>⟨(SU o b::.any::.any::.any::.any::I x.1::I x.2.1::I x.2.2::.any::.any::.any::.any::.any::.any::.any::.any::.any::.any::.any::.any::.any::.any::.any::.any::.any::.any::.any::.any::.any::.any::.any::.any::.any::.any::.any::.any::.any::.any::.any::.any::.any::.any::.any::.any::.any::.any::.any::.any::.any::.any::.any::.any::.any::.any::.any::.any::.any::.any::.any::.any::.any::.any::.any::.any::.any::.any::.any::.any::.any::.any::.any::.any::.any::.any::.any::.any::.any::.any::.any::.any::[]),σ,true,[]⟩) (fun x=>∃ n:Nat,x.1=n∧2≤n∧n≤4∧0≤x.2.2∧x.2.2 < 32∧cv b=kV n x.2.1 (dv (n - 1) x.2.2 (b.drop 1))) ?_ ?_
  · skip
    repeat' (first|(with_reducible first|refine aC ?_|refine aG ?_|refine aw ?_)|simp only [WL,ay,WM,ne_eq,reduceCtorEq,not_false_eq_true,Bool.not_true,true_and,reduceIte,Bool.false_eq_true,Tryz.results54,AL,Qz,Qv,VL]|((with_reducible first|refine ai (fun h=>?_) (fun h=>?_)|refine ab (fun h=>?_) (fun h=>?_))<;>(try simp only [h])<;>(try simp only [bf,ba] at h))|omega)
    all_goals first
      | (refine ⟨(2,128,b.getD 0 0 % 32),aq bH id,2,rfl,by omega,by omega,by dsimp only;omega,by dsimp only;omega, ?_⟩
         rw [hp,if_neg (by omega),if_pos (by omega)])
      | (refine ⟨(3,2048,b.getD 0 0 % 16),aq bH id,3,rfl,by omega,by omega,by dsimp only;omega,by dsimp only;omega, ?_⟩
         rw [hp,if_neg (by omega),if_neg (by omega),if_pos (by omega)])
      | (refine ⟨(4,65536,b.getD 0 0 % 8),aq bH id,4,rfl,by omega,by omega,by dsimp only;omega,by dsimp only;omega, ?_⟩
         rw [hp,if_neg (by omega),if_neg (by omega),if_neg (by omega),if_pos (by omega)])
      | (rw [hp,if_pos (by omega)] at hK;exact ak ae (aj rfl) hK)
      | (rw [hp,if_neg (by omega),if_neg (by omega),if_neg (by omega),if_neg (by omega)] at hK;exact ak ae (aj rfl) hK)
      | (exfalso;omega)
  · rintro ⟨n',least,c⟩ ⟨n,rfl,hn1,hn2,hc1,hc2,hpt⟩
    dsimp only at hc1 hc2 hpt ⊢;by_cases hlen:b.length < n
    · rw [qf (by rw [List.length_drop];omega)] at hpt
      rw [hpt] at hK
      repeat' (first|(with_reducible first|refine aC ?_|refine bO ?_|refine al (al ?_)|refine aB ?_|refine aw ?_)|simp only [WL,ay,WM,ne_eq,reduceCtorEq,not_false_eq_true,true_and,sn,Tryz.results54]|((with_reducible first|refine ai (fun h=>?_) (fun h=>?_)|refine ab (fun h=>?_) (fun h=>?_))<;>(try simp only [h])<;>(try simp only [bf,ba] at h))|omega)
      all_goals first
        | exact ak ae (aj rfl) hK
        | (exfalso;omega)
    · skip
      repeat' (first|(with_reducible first|refine aC ?_|refine bO ?_|refine al (al ?_)|refine aB ?_|refine aw ?_)|simp only [WL,ay,WM,ne_eq,reduceCtorEq,not_false_eq_true,true_and,sn,Tryz.results54]|((with_reducible first|refine ai (fun h=>?_) (fun h=>?_)|refine ab (fun h=>?_) (fun h=>?_))<;>(try simp only [h])<;>(try simp only [bf,ba] at h))|omega)
      all_goals first
        | (exfalso;omega)
        | skip
      refine dq (fun x:Nat × Int=>⟨(SU o b::.any::.any::.any::.any::I n::I least::I x.2::I x.1::.any::.any::.any::.any::.any::.any::.any::.any::.any::.any::.any::.any::.any::.any::.any::.any::.any::.any::.any::.any::.any::.any::.any::.any::.any::.any::.any::.any::.any::.any::.any::.any::.any::.any::.any::.any::.any::.any::.any::.any::.any::.any::.any::.any::.any::.any::.any::.any::.any::.any::.any::.any::.any::.any::.any::.any::.any::.any::.any::.any::.any::.any::.any::.any::.any::.any::.any::.any::.any::.any::.any::[]),σ,true,[]⟩) (fun x=>1≤x.1∧x.1≤n∧0≤x.2∧((x.1=1∧x.2 < 32)∨(x.1=2∧x.2 < 2048)∨(x.1=3∧x.2 < 131072)∨(x.1=4∧x.2 < 8388608))∧cv b=kV n least (dv (n - x.1) x.2 (b.drop x.1))) (fun x=>n - x.1) (1,c) (aq bH id) ⟨Nat.le_refl _,by dsimp only;omega,hc1,.inl ⟨rfl,hc2⟩,hpt⟩ ?_;rintro ⟨i,c⟩ hx;dsimp only at hx ⊢;obtain ⟨hi1,hin,hc3,hc4,hpt⟩:=hx;rcases Nat.lt_or_ge i n with hlt|hge
      · have hgi:=hg i (by omega)
        obtain ⟨m,hm⟩:∃ m,n - i=m+1:=⟨n - i - 1,by omega⟩
        have hm2:n - (i+1)=m:=by omega
        rw [hm] at hpt
        repeat' (first|(with_reducible first|refine al (aC ?_)|refine al (al ?_)|refine aG ?_|refine aB ?_|refine aw ?_|refine aO ?_)|simp only [WL,ay,WM,reduceCtorEq,bg,Nat.reduceAdd,Bool.not_false,true_and,reduceIte,Bool.false_eq_true,T5,sn,cI z7,PX,Tryz.results54,AL,Xv]|simp (disch:=first|omega|(simp only [aU];omega)) only [an,za]|(with_reducible first|refine ax (hb:=?_)|refine cD (IM ?_))|((with_reducible first|refine ai (fun h=>?_) (fun h=>?_)|refine ab (fun h=>?_) (fun h=>?_))<;>(try simp only [h])<;>(try simp only [bf,ba] at h))|omega)
        all_goals first
          | (rw [C5 (by omega) (by omega)] at hpt;rw [hpt] at hK;exact ak ae (aj rfl) hK)
          | (rw [GT (by omega) (by omega) (by omega)] at hpt
             exact ⟨(i+1,c * 64+b.getD i 0 % 64),aq bH id,⟨by omega,by omega,by dsimp only;omega,by dsimp only;omega,by dsimp only;rw [hm2];exact hpt⟩,by dsimp only;omega⟩)
      · obtain rfl:i=n:=by omega
        rw [Nat.sub_self] at hpt;simp only [dv,kV] at hpt;rw [hpt] at hK
        repeat' (first|(with_reducible first|refine al (aC ?_)|refine al (al ?_)|refine aG ?_|refine aB ?_|refine aw ?_|refine aO ?_)|simp only [WL,ay,WM,ne_eq,reduceCtorEq,not_false_eq_true,Bool.not_false,true_and,reduceIte,Bool.false_eq_true,T5,sn,PX,Tryz.results54]|(with_reducible first|refine ax (hb:=?_)|refine cD (IM ?_))|((with_reducible first|refine ai (fun h=>?_) (fun h=>?_)|refine ab (fun h=>?_) (fun h=>?_))<;>(try simp only [h])<;>(try simp only [bf,ba] at h))|omega)
        all_goals first
          | (rw [if_pos (by first|exact .inl (by omega)|exact .inr (by assumption))] at hK;exact ak ae (aj rfl) hK)
          | (rw [if_neg (fun h=>h.elim (fun h=>by omega) (fun h=>by simp_all))] at hK;exact ak ae (aj rfl) hK)
          | (exfalso;omega)
theorem CM {b acc:List Int}{i:Nat} (h:i < b.length) (hb:∀ x∈b,0≤x∧x≤255):dS (b.length - i) acc (b.drop i)=if (cv (b.drop i)).2=0 then none else dS (b.length - (i+(cv (b.drop i)).2)) (acc++[(cv (b.drop i)).1]) (b.drop (i+(cv (b.drop i)).2)):=by
 obtain ⟨f,hf⟩:∃ f,b.length - i=f+1:=⟨b.length - i - 1,by omega⟩
 rw [hf];have e:=aX h
 generalize b.drop (i+1)=r at e
 conv=>lhs;rw [e]
 simp only [dS];rw [← e];split
 ·rfl
 ·rename_i hn
  have:=qY (fun x hx=>hb x (List.mem_of_mem_drop hx)) (b:=b.drop i) (c:=(cv (b.drop i)).1) (n:=(cv (b.drop i)).2) rfl (by omega)
  rw [List.drop_drop];exact ql _ _ _ _ (by rw [List.length_drop];omega) (by rw [List.length_drop];omega)
theorem Pj {b:List Int} (hl:b.length≤1000000000) (hb:∀ x∈b,0≤x∧x≤255) (hK:K (.ret (.tup [SI none ((ie b).getD []),B (ie b).isSome])) σ):ACallF κ Tryz.prog 37 [SU o b] σ K:=by
 refine ACallF.dropL (aN Tryz.func37 rfl ?_);simp only [Tryz.ntmps37]
 repeat' (first|(with_reducible first|refine aC ?_|refine bO ?_|refine al (al ?_)|refine aG ?_|refine aB ?_)|simp only [WL,WM,Nat.reduceAdd,Nat.reduceSub])
 refine dq (fun x:Nat × List Int × Option (Nat × Nat)=>⟨(SU o b::.any::.any::.any::SI (some x.2.2) x.2.1::I x.1::.any::.any::.any::.any::.any::.any::.any::.any::.any::.any::.any::.any::.any::.any::.any::.any::.any::.any::.any::.any::.any::.any::.any::[]),.tip x.2.2::σ,true,[]⟩) (fun x=>x.1≤b.length∧x.2.1.length≤x.1∧ie b=dS (b.length - x.1) x.2.1 (b.drop x.1)) (fun x=>b.length - x.1) (0,[],none) (aM bH ResW.void id) ⟨Nat.zero_le _,Nat.le_refl _,rfl⟩ ?_;rintro ⟨i,acc,tk⟩ hx;dsimp only at hx ⊢;obtain ⟨hi,hacc,hs⟩:=hx;rcases Nat.lt_or_ge i b.length with hlt|hge
 ·have hb2:∀ x∈b.drop i,0≤x∧x≤255:=fun x hx=>hb x (List.mem_of_mem_drop hx)
  have hp4:=Lf (b.drop i)
  rw [CM hlt hb] at hs;have hpe:=fun hn=>(qY hb2 (c:=(cv (b.drop i)).1) (n:=(cv (b.drop i)).2) rfl hn).1
  rw [List.length_drop] at hpe
  repeat' (first|(with_reducible first|refine aC ?_|refine al (al ?_)|refine aG ?_|refine aB ?_|refine aw ?_|refine aO ?_)|simp only [WL,ay,WM,reduceCtorEq,bg,Nat.reduceAdd,Nat.reduceLT,true_and,T5,sn,Ew,Tryz.results37]|simp (disch:=first|omega|(simp only [aU];omega)) only [an]|(with_reducible first|refine ax (hb:=?_)|refine cX (hlen:=?_) (hmax:=?_) (hK:=fun tk=>?_)|refine dp (hK:=?_)|refine cD (FA ?_ ?_ ?_ ?_))|((with_reducible first|refine ai (fun h=>?_) (fun h=>?_)|refine ab (fun h=>?_) (fun h=>?_))<;>(try simp only [h])<;>(try simp only [bf,ba] at h))|omega|(simp only [aU];omega)|(refine bq ?_;(first|omega|(simp only [aU];omega))))
  ·rw [if_pos (by omega)] at hs
   rw [hs] at hK;exact ak (ah ae) (iA (fF (fg (by decide)) le_rfl)) hK
  ·rw [if_neg (by omega)] at hs
   have:=hpe (by omega)
   exact ⟨(i+(cv (b.drop i)).2,acc++[(cv (b.drop i)).1],tk),aM bH (ResW.refl _) id,⟨by dsimp only;omega,by dsimp only;simp;omega,hs⟩,by dsimp only;omega⟩
 ·rw [List.drop_eq_nil_of_le hge] at hs
  have e:ie b=some acc:=by rw [hs];cases b.length - i<;>rfl
  rw [e] at hK
  repeat' (first|(with_reducible first|refine aC ?_|refine al (al ?_)|refine aG ?_|refine aB ?_|refine aw ?_|refine aO ?_)|simp only [WL,ay,WM,reduceCtorEq,bg,Nat.reduceAdd,Nat.reduceLT,true_and,T5,sn,Ew,Tryz.results37]|simp (disch:=first|omega|(simp only [aU];omega)) only [an]|(with_reducible first|refine ax (hb:=?_)|refine cX (hlen:=?_) (hmax:=?_) (hK:=fun tk=>?_)|refine dp (hK:=?_)|refine cD (FA ?_ ?_ ?_ ?_))|((with_reducible first|refine ai (fun h=>?_) (fun h=>?_)|refine ab (fun h=>?_) (fun h=>?_))<;>(try simp only [h])<;>(try simp only [bf,ba] at h))|omega)
  exact ak (ah ae) (iA (fF le_ro le_rfl)) hK
theorem N4 (l:List Int):l.length≤(ic l).length:=by
 induction l with
 | nil=>simp
 | cons c r ih =>
  have:=uF c
  simp only [ic,List.flatMap_cons,List.length_append,List.length_cons] at *;omega
theorem ei (s:ByteArray):∀ x∈aJ s,0≤x∧x≤255:=by
 intro x hx;simp only [aJ,List.mem_map] at hx;obtain ⟨y,_,rfl⟩:=hx;have:=y.toNat_lt
 omega
theorem QR {s:ByteArray} (hl:s.size≤1000000000) (hK:K (.ret (.tup [SI none ((ie (aJ s)).getD []),B (ie (aJ s)).isSome])) σ):ACallF κ Tryz.prog 28 [.raw (.string s)] σ K:=by
 have h1:=bJ s
 refine ACallF.dropL (aa Tryz.func28 rfl ?_);simp only [Tryz.ntmps28]
 repeat' (first|simp only [WL,WM,Nat.reduceAdd,Nat.reduceSub,Nat.reduceLT,true_and,nL,P5,Tryz.results28]|(with_reducible first|refine EU ?_ ?_|refine cD (Pj ?_ (ei _) ?_))|omega|(refine bq ?_;(first|omega|(simp only [aU];omega))))
 all_goals first
  | exact ak ae (aj rfl) hK
theorem Re {s:ByteArray} (hl:s.size≤1000000000) (hK:K (.ret (B (gI (aJ s)))) σ):ACallF κ Tryz.prog 18 [.raw (.string s)] σ K:=by
 rw [zZ (ei s)] at hK;cases hm:ie (aJ s) with
 | none =>
  rw [hm] at hK;simp only at hK;refine ACallF.dropL (aa Tryz.func18 rfl ?_);simp only [Tryz.ntmps18]
  repeat' (first|simp only [WL,WM,Nat.reduceAdd,Nat.reduceSub,Nat.reduceLT,Bool.not_false,true_and,reduceIte,Qf,Tryz.results18,hm]|with_reducible refine cD (QR ?_ ?_)|omega)
  all_goals first
   | exact ak ae (aj rfl) hK
 | some m =>
  rw [hm] at hK;simp only at hK;have hml:m.length≤s.size:=by
   have:=(sY (ei s) hm).1
   have h2:=N4 m
   rw [this,bJ] at h2;exact h2
  have ev:gI m=decide (0 < m.length∧cG dQ m=m.length):=rfl
  refine ACallF.dropL (aa Tryz.func18 rfl ?_);simp only [Tryz.ntmps18]
  repeat' (first|simp only [WL,ay,WM,reduceCtorEq,bg,Nat.reduceAdd,Nat.reduceSub,Nat.reduceLT,Bool.not_true,true_and,reduceIte,Bool.false_eq_true,cb,Qf,Tryz.results18,hm,Option.getD_some]|with_reducible refine cD (QR ?_ ?_)|((with_reducible first|refine ai (fun h=>?_) (fun h=>?_)|refine ab (fun h=>?_) (fun h=>?_))<;>(try simp only [h])<;>(try simp only [bf,ba] at h))|omega)
  ·exact ak ae (aj (congrArg B (by rw [ev,decide_eq_false (by omega)]))) hK
  refine bF (fun i:Nat=>⟨(.raw (.string s)::.any::.any::SI none m::.any::I i::.any::.any::.any::.any::.any::.any::.any::.any::.any::.any::.any::.any::.any::.any::.any::.any::.any::.any::.any::.any::.any::.any::.any::.any::.any::[]),σ,true,[]⟩) (fun i=>i≤m.length∧cG dQ m=i+cG dQ (m.drop i)) (fun i=>m.length - i) 0 (aq bH id) ⟨Nat.zero_le _,(Nat.zero_add _).symm⟩ ?_;rintro i ⟨hi,hu⟩;have hsn:=fW (l:=m) (i:=i)
  rcases Nat.lt_or_ge i m.length with hlt|hge
  ·by_cases hz:bM (m.drop i)=0
   ·rw [nw (l:=m.drop i) (.inl hz)] at hu
    repeat' (first|simp only [WL,ay,WM,ne_eq,reduceCtorEq,not_false_eq_true,true_and,cb,JV,Tryz.results18,hz]|simp (disch:=first|omega|(simp only [aU];omega)) only [an]|with_reducible refine cD (TZ ?_ ?_)|((with_reducible first|refine ai (fun h=>?_) (fun h=>?_)|refine ab (fun h=>?_) (fun h=>?_))<;>(try simp only [h])<;>(try simp only [bf,ba] at h))|omega)
    all_goals first
     | exact ak ae (aj (congrArg B (by rw [ev,decide_eq_false (by omega)]))) hK
     | (exfalso;omega)
   ·rw [mQ hz rfl,List.drop_drop] at hu
    repeat' (first|simp only [WL,ay,WM,ne_eq,reduceCtorEq,not_false_eq_true,true_and,cb,JV,Tryz.results18]|simp (disch:=first|omega|(simp only [aU];omega)) only [an]|with_reducible refine cD (TZ ?_ ?_)|((with_reducible first|refine ai (fun h=>?_) (fun h=>?_)|refine ab (fun h=>?_) (fun h=>?_))<;>(try simp only [h])<;>(try simp only [bf,ba] at h))|omega)
    all_goals first
     | exact ⟨i+bM (m.drop i),aq bH id,⟨by omega,by omega⟩,by omega⟩
     | (exfalso;omega)
  ·rw [List.drop_eq_nil_of_le hge,show cG dQ []=0 from rfl] at hu
   repeat' (first|simp only [WL,ay,WM,ne_eq,reduceCtorEq,not_false_eq_true,true_and,cb,JV,Tryz.results18]|simp (disch:=first|omega|(simp only [aU];omega)) only [an]|with_reducible refine cD (TZ ?_ ?_)|((with_reducible first|refine ai (fun h=>?_) (fun h=>?_)|refine ab (fun h=>?_) (fun h=>?_))<;>(try simp only [h])<;>(try simp only [bf,ba] at h))|omega)
   all_goals first
    | exact ak ae (aj (congrArg B (by rw [ev,decide_eq_true (by omega)]))) hK
theorem Tt {s:ByteArray} (hl:s.size≤1000000000) (hK:K (.ret (B (gI (aJ s)))) σ):ACallF κ Tryz.prog 138 [.raw (.string s)] σ K:=by
 have h1:=bJ s
 have hbb:=ei s
 have ev:gI (aJ s)=decide (0 < (aJ s).length∧cG dQ (aJ s)=(aJ s).length):=rfl
 refine ACallF.dropL (aN Tryz.func138 rfl ?_);simp only [Tryz.ntmps138]
 repeat' (first|(with_reducible first|refine aC ?_|refine bO ?_|refine al (al ?_)|refine aG ?_|refine aB ?_)|simp only [WL,WM,Nat.reduceAdd,Nat.reduceSub,true_and,nL,sn]|with_reducible refine EU ?_ ?_|(refine bq ?_;(first|omega|(simp only [aU];omega))))
 generalize aJ s=bs at *;have hg:∀ j,j < bs.length→0≤bs.getD j 0∧bs.getD j 0≤255:=fun j hj=>by
  rw [List.getD_eq_getElem?_getD,List.getElem?_eq_getElem hj];exact hbb _ (List.getElem_mem hj)
 refine dq (fun x:Nat × Option (Nat × Nat)=>⟨(.raw (.string s)::.any::.any::SI (some x.2) (bs.take x.1)::.any::.any::.any::SU none bs::I bs.length::I x.1::.any::.any::.any::.any::.any::.any::.any::.any::.any::.any::.any::.any::.any::.any::.any::.any::.any::.any::.any::[]),.tip x.2::σ,true,[]⟩) (fun x=>x.1≤bs.length) (fun x=>bs.length - x.1) (0,none) (aM bH ResW.void id) (Nat.zero_le _) ?_;rintro ⟨k,tk⟩ hk;dsimp only at hk ⊢;rcases Nat.lt_or_ge k bs.length with hlt|hge
 ·have hgk:=hg k hlt
  have ht:(bs.take k).length=k:=by simp;omega
  repeat' (first|(with_reducible first|refine al (aC ?_)|refine aG ?_|refine aB ?_|refine aO ?_)|simp only [WL,ay,WM,reduceCtorEq,bg,Nat.reduceAdd,Bool.not_true,true_and,reduceIte,Bool.false_eq_true,T5,cb,sn,cI z7,mA,Tryz.results138]|simp (disch:=first|omega|(simp only [aU];omega)) only [an,za]|(with_reducible first|refine ax (hb:=?_)|refine cX (hlen:=?_) (hmax:=?_) (hK:=fun tk=>?_)|refine dp (hK:=?_))|((with_reducible first|refine ai (fun h=>?_) (fun h=>?_)|refine ab (fun h=>?_) (fun h=>?_))<;>(try simp only [h])<;>(try simp only [bf,ba] at h))|omega|(refine bq ?_;(first|omega|(simp only [aU];omega))))
  have et:bs.take (k+1)=bs.take k++[bs.getD k 0]:=by rw [List.take_succ_eq_append_getElem hlt];simp [List.getD_eq_getElem?_getD,hlt]
  exact ⟨(k+1,_),aM (by simp only [et];exact bH) (ResW.refl _) id,by dsimp only;omega,by dsimp only;omega⟩
 ·obtain rfl:k=bs.length:=by omega
  rw [List.take_length]
  repeat' (first|(with_reducible first|refine al (aC ?_)|refine aG ?_|refine aB ?_|refine aO ?_)|simp only [WL,ay,WM,ne_eq,reduceCtorEq,not_false_eq_true,Bool.not_true,true_and,reduceIte,Bool.false_eq_true,T5,cb,sn,mA,Tryz.results138]|(with_reducible first|refine ax (hb:=?_)|refine cD (qm ?_ ?_))|((with_reducible first|refine ai (fun h=>?_) (fun h=>?_)|refine ab (fun h=>?_) (fun h=>?_))<;>(try simp only [h])<;>(try simp only [bf,ba] at h))|omega)
  ·exact ak (ah ae) (aj (congrArg B (by rw [ev,Bool.eq_iff_iff];simp;omega))) hK
  ·exact ak (ah ae) (aj (congrArg B (by rw [ev,decide_eq_false (by omega)]))) hK
end Go.Proofs.YthkabaiamcjdbaaGreat
namespace Go.Abs
open Go.RowKit Go.MapKept
theorem Rel.set_blk {κ:Ctx}{g:Nat→Nat}{ρ:List Res}{w:World}{b:Nat}{o:Obj} (o':Obj) (h:Rel κ g (.blk b o::ρ) w) (ho:uC o') :
  Rel κ g (.blk b o'::ρ) { w with heap:=w.heap.setIfInBounds b o' }∧GE g w g { w with heap:=w.heap.setIfInBounds b o' }:=by
 obtain ⟨hg,hb,hn⟩:=h.holds (.blk b o) (by simp);have hlt:=(h.bnd (.blk b o) (by simp) b rfl).2
 have hsame:∀ k,k≠b→(w.heap.setIfInBounds b o')[k]? = w.heap[k]?:=fun k hk=>by simp [Ne.symm hk]
 have hnew:(w.heap.setIfInBounds b o')[b]? = some o':=by simp [hlt]
 have H:GE g w g { w with heap:=w.heap.setIfInBounds b o' }:=by
  refine ⟨by simp,fun _=>Nat.le_refl _,fun k j hk=>?_,fun k=>?_⟩
  ·by_cases e:k=b
   ·subst e;rw [hg] at hk;omega
   ·simp only [World.cell?];rw [hsame k e]
  ·by_cases e:k=b
   ·subst e
    simp only [bu,hb];cases o<;>first|exact Nat.zero_le _|exact absurd hn id
   ·simp only [bu];rw [hsame k e];exact Nat.le_refl _
 exact ⟨h.change H rfl rfl rfl (by simp) hsame (fun _ _=>rfl) rfl rfl ⟨hg,hnew,ho⟩,H⟩
theorem VR.tup_raw {g:Nat→Nat}{w:World}{l:List Value}:VR g w (.tup (l.map .raw)) (.tuple l.toArray) :=
 .tup _ (by simp) (fun k y hy=>by
  rw [List.getElem?_map] at hy;cases h:l[k]? with
  | none=>rw [h] at hy;cases hy
  | some v =>
   rw [h] at hy;cases hy;have:l.toArray.getD k undef=v:=by simp [Array.getD_eq_getD_getElem?,h]
   rw [this];exact .raw _)
section
variable {κ:Ctx} {P:Program} {σ:List Res} {K:AV→List Res→Prop}
theorem vz {t:TypeId}{s:ByteArray} (ht:isStr P t=true) (hK:∀ b,K (.raw (.pointer (some ⟨b,0,none⟩))) (.blk b (.stringIter s 0)::σ)):AAct κ P (.range t) [.raw (.string s)] σ K:=by
 intro φ g w vs hR hvs;obtain ⟨v,rfl,hu⟩:=jU hvs;cases hu.raw_eq
 obtain ⟨a1,a2⟩:=hR.new_blk (.stringIter s 0) trivial;refine ⟨.pointer (some ⟨w.heap.size,0,none⟩),_,g,_,_, ?_,a1.perm List.perm_middle.symm,a2,.raw _,hK _⟩;show (Instr.range t (.string s)).run P w=_
 simp [Instr.range,run_underlying (eC ht)]
theorem yC {t:TypeId}{s:ByteArray}{b pos:Nat} (i:Nat) (h:σ[i]? = some (.blk b (.stringIter s pos))) (hp:s.size≤pos) (hK:K (.tup [B false]) σ) :
  AAct κ P (.next true t) [.raw (.pointer (some ⟨b,0,none⟩))] σ K:=by
 intro φ g w vs hR hvs;obtain ⟨v,rfl,hu⟩:=jU hvs;cases hu.raw_eq
 have hR2:=hR.perm (c6 (φ:=φ) (dE h))
 obtain ⟨hg,hb,hn⟩:=hR2.holds (.blk b (.stringIter s pos)) (by simp);refine ⟨.tuple #[.bool false],w,g,_,σ, ?_,hR,GE.refl _ _,VR.tup_raw (l:=[.bool false]),hK⟩;show (Instr.next (.pointer (some ⟨b,0,none⟩)) true t).run P w=_
 simp [Instr.next,getObj,Sem.run,hb,Nat.not_lt.2 hp]
theorem xZ {t:TypeId}{s:ByteArray}{b pos:Nat} (i:Nat) (h:σ[i]? = some (.blk b (.stringIter s pos))) (hp:pos < s.size)
  (hK:K (.tup [B true,I pos,.raw (.int .i32 (Utf8.decode s pos).1)]) (σ.set i (.blk b (.stringIter s (pos+(Utf8.decode s pos).2))))) :
  AAct κ P (.next true t) [.raw (.pointer (some ⟨b,0,none⟩))] σ K:=by
 intro φ g w vs hR hvs;obtain ⟨v,rfl,hu⟩:=jU hvs;cases hu.raw_eq
 have hR2:=hR.perm (c6 (φ:=φ) (dE h))
 obtain ⟨hg,hb,hn⟩:=hR2.holds (.blk b (.stringIter s pos)) (by simp);obtain ⟨a1,a2⟩:=hR2.set_blk (.stringIter s (pos+(Utf8.decode s pos).2)) trivial;refine ⟨.tuple #[.bool true,.int .i64 pos,.int .i32 (Utf8.decode s pos).1],_,g,_,_, ?_,a1.perm (List.perm_middle.symm.trans ((fq h).append_left φ)),a2,VR.tup_raw (l:=[.bool true,.int .i64 pos,.int .i32 (Utf8.decode s pos).1]),hK⟩;show (Instr.next (.pointer (some ⟨b,0,none⟩)) true t).run P w=_
 simp [Instr.next,getObj,setObj,Sem.run,hb,hp,goInt]
/-! ### Maps from texts to texts -/
abbrev MapL:=List (ByteArray × ByteArray × Nat)
def yp (l:MapL):List MapEntry:=l.map fun e=>{ key:=.string e.1,val:=.string e.2.1,born:=e.2.2 }
theorem J8 (l:MapL) (k x:ByteArray) (c:Nat):yp (l++[(k,x,c)])=yp l++[{ key:=.string k,val:=.string x,born:=c }]:=by simp [yp]
def j1 (l:MapL) (clock:Nat):Obj:=.map (yp l).toArray clock
def cL:MapL→ByteArray→Option ByteArray
 | [],_=>none
 | e::l,k=>if k=e.1 then some e.2.1 else cL l k
theorem qD (k:ByteArray):∀ (l:MapL) (i:Nat),∃ j,Instr.findNow .string (.string k) (yp l) i=some ((cL l k).map fun v=>(j,.string v))
 | [],_=>⟨0,rfl⟩
 | e::l,i=>by
  obtain ⟨r,hr,hiff⟩:=sameNow_of_keys (d:=.string) (a:=.string k) (b:=.string e.1) trivial trivial;by_cases h:k=e.1
  ·obtain rfl:r=true:=hiff.2 (by rw [h])
   exact ⟨i,by simp only [yp,List.map_cons,Instr.findNow,hr,cL,if_pos h];rfl⟩
  ·obtain ⟨j,hj⟩:=qD k l (i+1)
   refine ⟨j, ?_⟩;obtain rfl:r=false:=by
    cases r with
    | false=>rfl
    | true=>exact absurd (Value.string.inj (hiff.1 rfl)) h
   simp only [yp,List.map_cons,Instr.findNow,hr,cL,if_neg h];exact hj
structure TMap (P:Program) (t kt et:TypeId):Prop where
 map:P.underlying t=some (.map kt et)
 key:P.underlying kt=some .string
 elem:dP P et=some (.string ByteArray.empty)
theorem w7 {P:Program}{t:TypeId}{z:Value}{w:World} (hz:dP P t=some z):(zeroValue t).run P w=.ok z w:=by
 unfold dP at hz;cases hi:P.info? t with
 | none=>simp [hi] at hz
 | some i =>
  have:i.zero=some z:=by simpa [hi] using hz
  simp [zeroValue,kJ hi,this]
theorem uV {t kt et:TypeId}{k:ByteArray} (T:TMap P t kt et) (hK:K (.tup [.raw (.string ByteArray.empty),B false]) σ):AAct κ P (.lookup t true) [.raw (.map none),.raw (.string k)] σ K:=by
 intro φ g w vs hR hvs;obtain ⟨v,u,rfl,hu,hv⟩:=dA hvs;cases hu.raw_eq
 cases hv.raw_eq
 refine ⟨.tuple #[.string ByteArray.empty,.bool false],w,g,_,σ, ?_,hR,GE.refl _ _,VR.tup_raw (l:=[.string ByteArray.empty,.bool false]),hK⟩;show (Instr.lookup t (.map none) (.string k) true).run P w=_
 have h1:=run_checkKey (P:=P) (w:=w) (k:=.string k) T.key trivial true 9999
 have h2:=run_findKey (P:=P) (w:=w) (k:=.string k) (l:=[]) (a:=none) T.key rfl
 simp [Instr.lookup,run_underlying T.map,h1,h2,w7 T.elem]
theorem B9 {t kt et:TypeId}{k:ByteArray}{l:MapL}{clock b:Nat} (i:Nat) (h:σ[i]? = some (.blk b (j1 l clock))) (T:TMap P t kt et)
  (hK:K (.tup [.raw (.string ((cL l k).getD ByteArray.empty)),B (cL l k).isSome]) σ):AAct κ P (.lookup t true) [.raw (.map (some b)),.raw (.string k)] σ K:=by
 intro φ g w vs hR hvs;obtain ⟨v,u,rfl,hu,hv⟩:=dA hvs;cases hu.raw_eq
 cases hv.raw_eq
 have hR2:=hR.perm (c6 (φ:=φ) (dE h))
 obtain ⟨hg,hb,hn⟩:=hR2.holds (.blk b (j1 l clock)) (by simp);refine ⟨.tuple #[.string ((cL l k).getD ByteArray.empty),.bool (cL l k).isSome],w,g,_,σ, ?_,hR,GE.refl _ _,VR.tup_raw (l:=[.string ((cL l k).getD ByteArray.empty),.bool (cL l k).isSome]),hK⟩;show (Instr.lookup t (.map (some b)) (.string k) true).run P w=_
 obtain ⟨j,hj⟩:=qD k l 0;have h1:=fun e=>run_checkKey (P:=P) (w:=w) (k:=.string k) T.key trivial e 9999
 have h2:=run_findKey (P:=P) (w:=w) (k:=.string k) T.key hj
 have h3:(getObj b).run P w=.ok (.map (yp l).toArray clock) w:=Go.MapKept.run_getObj_map hb
 cases hl:cL l k<;>simp [Instr.lookup,run_underlying T.map,h1,h2,h3,hl,w7 T.elem]
theorem Ga {t:TypeId} (hK:∀ b,K (.raw (.map (some b))) (.blk b (j1 [] 0)::σ)):AAct κ P (.makeMap t) [] σ K:=by
 intro φ g w vs hR hvs;have:=mE hvs
 subst this;obtain ⟨a1,a2⟩:=hR.new_blk (j1 [] 0) trivial;refine ⟨.map (some w.heap.size),_,g,_,_, ?_,a1.perm List.perm_middle.symm,a2,.raw _,hK _⟩;show (Instr.makeMap t none).run P w=_
 simp [Instr.makeMap];rfl
theorem Cb {t kt et:TypeId}{k x:ByteArray}{l:MapL}{clock b:Nat} (i:Nat) (h:σ[i]? = some (.blk b (j1 l clock))) (T:TMap P t kt et) (hn:cL l k=none)
  (hK:K .any (σ.set i (.blk b (j1 (l++[(k,x,clock)]) (clock+1))))):AAct κ P (.mapUpdate t) [.raw (.map (some b)),.raw (.string k),.raw (.string x)] σ K:=by
 intro φ g w vs hR hvs;obtain ⟨v,u,y,rfl,hu,hv,hy⟩:∃ v u y,vs=[v,u,y]∧VR g w (.raw (.map (some b))) v∧VR g w (.raw (.string k)) u∧VR g w (.raw (.string x)) y:=by
  match vs,hvs.size with
  | [v,u,y],_=>exact ⟨v,u,y,rfl,hvs.get 0 _ rfl,hvs.get 1 _ rfl,hvs.get 2 _ rfl⟩
 cases hu.raw_eq
 cases hv.raw_eq
 cases hy.raw_eq
 have hR2:=hR.perm (c6 (φ:=φ) (dE h))
 obtain ⟨hg,hb,_⟩:=hR2.holds (.blk b (j1 l clock)) (by simp);obtain ⟨a1,a2⟩:=hR2.set_blk (j1 (l++[(k,x,clock)]) (clock+1)) trivial;refine ⟨undef,_,g,.any,_, ?_,a1.perm (List.perm_middle.symm.trans ((fq h).append_left φ)),a2,.any _,hK⟩;obtain ⟨j,hj⟩:=qD k l 0;rw [hn,Option.map_none] at hj;have h1:=fun e=>run_checkKey (P:=P) (w:=w) (k:=.string k) T.key trivial e 9999
 have h2:=run_findKey (P:=P) (w:=w) (k:=.string k) T.key hj
 have h3:(getObj b).run P w=.ok (.map (yp l).toArray clock) w:=Go.MapKept.run_getObj_map hb
 have h4:=fun o=>Go.MapKept.run_setObj_map (P:=P) o hb
 simp [MA.sem,nth,Instr.mapUpdate,run_underlying T.map,h1,h2,h3,h4,j1,J8]
theorem Bz {t kt et:TypeId}{m:Option Nat}{w:World} (n:Nat) (T:TMap P t kt et):(Op.equalIn (n+1) t (.map none) (.map m)).run P w=.ok m.isNone w:=by
 simp [Op.equalIn,run_underlying T.map]
theorem Aw {t kt et:TypeId}{b:Nat}{w:World} (n:Nat) (T:TMap P t kt et):(Op.equalIn (n+1) t (.map (some b)) (.map none)).run P w=.ok false w:=by
 simp [Op.equalIn,run_underlying T.map]
theorem Dz {t kt et:TypeId}{m:Option Nat} (T:TMap P t kt et) (hK:K (B m.isNone) σ):AAct κ P (.bin .eql t) [.raw (.map none),.raw (.map m)] σ K:=by
 intro φ g w vs hR hvs;obtain ⟨v,u,rfl,hu,hv⟩:=dA hvs;cases hu.raw_eq
 cases hv.raw_eq
 refine ⟨.bool m.isNone,w,g,_,σ, ?_,hR,GE.refl _ _,.raw _,hK⟩;show (binOp .eql t (.map none) (.map m)).run P w=_
 have:=Bz (w:=w) (m:=m) 9999 T
 simp only [binOp,Op.equal,show Op.maxDepth=9999+1 from rfl,Sem.run_bind,this];rfl
theorem GQ {t kt et:TypeId}{b:Nat} (T:TMap P t kt et) (hK:K (B false) σ):AAct κ P (.bin .eql t) [.raw (.map (some b)),.raw (.map none)] σ K:=by
 intro φ g w vs hR hvs;obtain ⟨v,u,rfl,hu,hv⟩:=dA hvs;cases hu.raw_eq
 cases hv.raw_eq
 refine ⟨.bool false,w,g,_,σ, ?_,hR,GE.refl _ _,.raw _,hK⟩;show (binOp .eql t (.map (some b)) (.map none)).run P w=_
 have:=Aw (w:=w) (b:=b) 9999 T
 simp only [binOp,Op.equal,show Op.maxDepth=9999+1 from rfl,Sem.run_bind,this];rfl
end
theorem r6 {κ:Ctx}{P:Program}{f:FuncId}{xs:List Value}{v:Value}{σ:List Res}{K:Ret→List Res→Prop} (h:∀ w,Calls P f xs.toArray w fun e w'=>e=.returned v∧w'=w)
  (hK:K (.ret (.raw v)) σ):ACallF κ P f (xs.map .raw) σ K:=by
 intro φ g w vs hR hvs;have hvs2:vs=xs.toArray:=by
  apply Array.ext'
  apply List.ext_getElem?
  intro k;have hs:=hvs.size
  rw [List.length_map] at hs;rcases Nat.lt_or_ge k xs.length with hk|hk
  ·have:=hvs.get k (.raw xs[k]) (by simp [hk])
   have e:=this.raw_eq
   simp only [Array.getD_eq_getD_getElem?] at e;have hk2:k < vs.size:=by omega
   simp [hk] at e ⊢;simp [hk2] at e ⊢;exact e
  ·rw [List.getElem?_eq_none (by simpa [hs] using hk),List.getElem?_eq_none (by simpa using hk)]
 subst hvs2;refine callsIn_wide.2 ?_;intro cs;obtain ⟨e,w',fr,⟨rfl,rfl⟩,s,x⟩:=h w cs;exact ⟨.returned v,w',fr,⟨g,σ,.ret (.raw v),hR,GE.refl _ _,.raw _,hK⟩,s,x⟩
end Go.Abs
namespace Go.Proofs.YthkabaiamcjdbaaGreat
open Go.Abs
variable {κ:Ctx} {σ:List Res} {K:Ret→List Res→Prop} {o o':Option (Option (Nat × Nat))}
def hasB (s p:ByteArray):Bool:=if p.size≤s.size then (s.extract 0 p.size).toList == p.toList else false
theorem ON {s p:ByteArray} (h:hasB s p=true):p.size≤s.size:=by
 unfold hasB at h;by_cases hp:p.size≤s.size
 ·exact hp
 ·rw [if_neg hp] at h;cases h
theorem DV {s p:ByteArray} (hK:K (.ret (B (hasB s p))) σ):ACallF κ Tryz.prog 168 [.raw (.string s),.raw (.string p)] σ K:=by
 unfold hasB at hK;refine ACallF.dropL (aa Tryz.func168 rfl ?_);simp only [Tryz.ntmps168]
 repeat' (first|simp only [WL,ay,dx,WM,Int.reduceToNat,reduceCtorEq,bg,Nat.reduceAdd,Nat.reduceSub,Bool.not_true,true_and,reduceIte,Bool.false_eq_true,T9,Tryz.results168]|with_reducible refine ax (hb:=?_)|((with_reducible first|refine ai (fun h=>?_) (fun h=>?_)|refine ab (fun h=>?_) (fun h=>?_))<;>(try simp only [h])<;>(try simp only [bf,ba] at h)))
 all_goals first
  | (rw [if_pos (by omega)] at hK;exact ak ae (aj rfl) hK)
  | (rw [if_neg (by omega)] at hK;exact ak ae (aj rfl) hK)
theorem De:ao Tryz.prog 168=True:=bG Tryz.func168
theorem TJ:ao Tryz.prog 140=True:=bG Tryz.func140
theorem Xm {s p:ByteArray} (hK:K (.ret (B (hasB s p))) σ):ACallF κ Tryz.prog 139 [.raw (.string s),.raw (.string p)] σ K:=by
 refine ACallF.dropL (aa Tryz.func139 rfl ?_);simp only [Tryz.ntmps139]
 repeat' (first|simp only [WL,WM,Nat.reduceAdd,Nat.reduceSub,true_and,De,Tryz.results139]|with_reducible refine cD (DV ?_))
 all_goals exact ak ae (aj rfl) hK
def yY (s p:ByteArray):ByteArray × Bool:=if hasB s p=true then (s.extract p.size s.size,true) else (s,false)
theorem MX {s p:ByteArray} (h:hasB s p=true):yY s p=(s.extract p.size s.size,true):=if_pos h
theorem Nr {s p:ByteArray} (h:hasB s p=false):yY s p=(s,false):=if_neg (by rw [h];decide)
theorem Ur {s p:ByteArray} (hK:K (.ret (.tup [.raw (.string (yY s p).1),B (yY s p).2])) σ):ACallF κ Tryz.prog 140 [.raw (.string s),.raw (.string p)] σ K:=by
 cases h:hasB s p
 ·rw [Nr h] at hK
  refine ACallF.dropL (aa Tryz.func140 rfl ?_);simp only [Tryz.ntmps140]
  repeat' (first|simp only [WL,WM,Nat.reduceAdd,Nat.reduceSub,Bool.not_false,true_and,De,Tryz.results140,h]|with_reducible refine cD (DV ?_))
  all_goals first
   | exact ak ae (aj rfl) hK
 ·rw [MX h] at hK
  have hle:=ON h
  refine ACallF.dropL (aa Tryz.func140 rfl ?_);simp only [Tryz.ntmps140]
  repeat' (first|simp only [WL,WM,Nat.reduceAdd,Nat.reduceSub,Bool.not_true,true_and,T9,De,Tryz.results140,h]|(with_reducible first|refine ax (hb:=?_)|refine cD (DV ?_)))
  all_goals first
   | exact ak ae (aj rfl) hK
theorem l7 {s p:ByteArray} (hK:K (.ret (.tup [.raw (.string (yY s p).1),B (yY s p).2])) σ):ACallF κ Tryz.prog 115 [.raw (.string s),.raw (.string p)] σ K:=by
 refine ACallF.dropL (aa Tryz.func115 rfl ?_);simp only [Tryz.ntmps115]
 repeat' (first|simp only [WL,WM,Nat.reduceAdd,Nat.reduceSub,Nat.reduceLT,true_and,TJ,Tryz.results115]|with_reducible refine cD (Ur ?_))
 all_goals exact ak ae (aj rfl) hK
theorem Jg {l:List Int}{k:Nat} (h:k < l.length) (h1:(l.take k).all cr=true) (h2:cr (l.getD k 0)=true):(l.take (k+1)).all cr=true:=by
 have:l.take (k+1)=l.take k++[l.getD k 0]:=by rw [List.take_succ_eq_append_getElem h];simp [List.getD_eq_getElem?_getD,h]
 rw [this,List.all_append,h1];simpa using h2
end Go.Proofs.YthkabaiamcjdbaaGreat
namespace Go.Abs
theorem sK {x y:ByteArray}{v:Option Value} (h:x.size+y.size≤1000000000):(if ((x.size+y.size:Nat):Int) > IntKind.i64.max then none else v)=v:=by
 rw [if_neg];have:IntKind.i64.max=9223372036854775807:=by decide
 omega
theorem lO {p:Int→Bool}{a b:List Int} (h:∀ c∈a,p c=true):gD p (a++b)=a.length+gD p b:=by
 induction a with
 | nil=>simp
 | cons c r ih =>
  have h1:=h c (by simp)
  have h2:=ih (fun x hx=>h x (by simp [hx]))
  unfold gD at *;rw [List.cons_append,List.takeWhile_cons,if_pos h1];simp only [List.length_cons];omega
theorem iT {p:Int→Bool}{c:Int}{r:List Int} (h:p c=false):gD p (c::r)=0:=by
 unfold gD;rw [List.takeWhile_cons,if_neg (by rw [h];decide)];rfl
theorem getD_pre {p r:List Int}{n:Nat} (h:n=p.length):(p++r).getD n 0=r.getD 0 0:=by
 subst h;rw [List.getD_eq_getElem?_getD,List.getElem?_append_right (Nat.le_refl _),Nat.sub_self,List.getD_eq_getElem?_getD]
theorem ua {p r:List Int}{n:Nat} (h:n=p.length):(p++r).drop n=r:=by subst h;simp
theorem ow {p q r:List Int}{n m:Nat} (h:n=p.length) (h2:m=p.length+q.length):((p++(q++r)).take m).drop n=q:=by
 subst h;subst h2;rw [← List.append_assoc,← List.length_append,List.take_left',List.drop_left' rfl];rfl
end Go.Abs
namespace Go.Proofs.YthkabaiamcjdbaaGreat
open Go.Abs
variable {κ:Ctx} {σ:List Res} {K:Ret→List Res→Prop} {o o':Option (Option (Nat × Nat))}
def yB:ByteArray:={ data:=#[116,97,103,58,121,97,109,108,46,111,114,103,44,50,48,48,50,58] }
def bangB:ByteArray:={ data:=#[33] }
def bang2B:ByteArray:={ data:=#[33,33] }
def lessB:ByteArray:={ data:=#[60] }
theorem Gq:({ data:=#[116,97,103,58,121,97,109,108,46,111,114,103,44,50,48,48,50,58] }:ByteArray)=yB:=rfl
theorem jZ:({ data:=#[33] }:ByteArray)=bangB:=rfl
theorem wy:({ data:=#[33,33] }:ByteArray)=bang2B:=rfl
theorem pM:({ data:=#[60] }:ByteArray)=lessB:=rfl
theorem Z8:yB.size=18:=by decide +kernel
theorem z_b:bangB.size=1:=by decide +kernel
theorem Zl:lessB.size=1:=by decide +kernel
theorem xp {s:ByteArray} (a:Nat):(s.extract a s.size).size≤s.size:=by rw [ByteArray.size_extract];omega
section
variable {κ:Ctx} {P:Program} {all rest:List Oper} {Q:Exit→St→Prop} {d:Option Tmp} {t:List AV} {σ:List Res} {fr:Bool} {df:List Deferred}
theorem XF {ty:TypeId}{s:ByteArray} [hs:TStr P ty] (hK:∀ b,dw κ false P all Q d rest ⟨t,σ,fr,df⟩ (.raw (.pointer (some ⟨b,0,none⟩))) (.blk b (.stringIter s 0)::σ)):cu κ false P all Q d rest ⟨t,σ,fr,df⟩ (.range ty) [.raw (.string s)] :=
 cl (vz hs.str hK)
theorem UP {ty:TypeId}{s:ByteArray}{b p:Nat} (i:Nat) (h:σ[i]? = some (.blk b (.stringIter s p))) (hp:p < s.size)
  (hK:dw κ false P all Q d rest ⟨t,σ,fr,df⟩ (.tup [B true,I p,.raw (.int .i32 (Utf8.decode s p).1)]) (σ.set i (.blk b (.stringIter s (p+(Utf8.decode s p).2))))):cu κ false P all Q d rest ⟨t,σ,fr,df⟩ (.next true ty) [.raw (.pointer (some ⟨b,0,none⟩))] :=
 cl (xZ i h hp hK)
theorem RY {ty:TypeId}{s:ByteArray}{b p:Nat} (i:Nat) (h:σ[i]? = some (.blk b (.stringIter s p))) (hp:s.size≤p)
  (hK:dw κ false P all Q d rest ⟨t,σ,fr,df⟩ (.tup [B false]) σ):cu κ false P all Q d rest ⟨t,σ,fr,df⟩ (.next true ty) [.raw (.pointer (some ⟨b,0,none⟩))] :=
 cl (yC i h hp hK)
end
variable {κ:Ctx} {σ:List Res} {K:Ret→List Res→Prop} {o o':Option (Option (Nat × Nat))}
def eD (s:ByteArray) (p:Nat):List Int:=if h:p < s.size then ((Utf8.decode s p).1:Int)::eD s (p+max 1 (Utf8.decode s p).2) else []
termination_by s.size - p
theorem sS {s:ByteArray}{p:Nat} (h:p < s.size):1≤(Utf8.decode s p).2:=by
 by_cases ha:(s[p]'h).toNat < 128
 ·rw [decode_ascii s p h ha];exact Nat.le_refl _
 ·exact (decode_high s p h (by omega)).2
theorem tn {s:ByteArray}{p:Nat} (h:p < s.size):eD s p=((Utf8.decode s p).1:Int)::eD s (p+(Utf8.decode s p).2):=by
 have:=sS h
 rw [eD,dif_pos h,Nat.max_eq_right this]
theorem qI {s:ByteArray}{p:Nat} (h:s.size≤p):eD s p=[]:=by rw [eD,dif_neg (by omega)]
def less2B:ByteArray:={ data:=#[33,60] }
theorem YI:({ data:=#[33,60] }:ByteArray)=less2B:=rfl
def pC (s:ByteArray):Bool :=
 if hasB s lessB=true then gI (aJ (s.extract 1 s.size))
 else (cK (eD s 0)).2.2 && decide ((cK (eD s 0)).2.1=(eD s 0).length) && !hasB s less2B
theorem ma {s:ByteArray} (hs:s.size≤1000000) (hK:K (.ret (B (pC s))) σ):ACallF κ Tryz.prog 114 [.raw (.string s)] σ K:=by
  have y4:=Zl
  have e2:=xp (s:=s) 1
  have k2:yY s lessB=if hasB s lessB=true then (s.extract 1 s.size,true) else (s,false):=rfl
  unfold pC at hK;cases h1:hasB s lessB
  · rw [if_neg (by rw [h1];decide)] at hK
    rw [if_neg (by rw [h1];decide)] at k2;refine ACallF.dropL (aN Tryz.func114 rfl ?_);simp only [Tryz.ntmps114]
    repeat' (first|(with_reducible first|refine aC ?_|refine bO ?_|refine al (al ?_)|refine aG ?_|refine aB ?_|refine aw ?_)|simp only [WL,WM,Nat.reduceAdd,Nat.reduceSub,Nat.reduceLT,true_and,i7,pM,k2]|( refine XF (fun b=>?_))|with_reducible refine cD (l7 ?_))
    refine dq (fun x:Nat × List Int × Option (Nat × Nat)=>⟨(.raw (.string s)::.any::.any::.any::.any::SI (some x.2.2) x.2.1::.any::.any::.any::.any::.any::.any::.any::.any::.any::.any::.any::.any::.any::.any::.raw (.pointer (some ⟨b,0,none⟩))::.any::.any::.any::.any::.any::.any::.any::.any::.any::.any::.any::.any::.any::.any::.any::.any::.any::.any::.any::.any::.any::.any::.any::.any::.any::.any::[]),.tip x.2.2::.blk b (.stringIter s x.1)::σ,true,[]⟩) (fun x=>x.2.1.length≤x.1∧x.2.1.length≤s.size∧x.2.1++eD s x.1=eD s 0) (fun x=>s.size - x.1) (0,[],none) (aM bH ResW.void id) ⟨Nat.le_refl _,Nat.zero_le _,rfl⟩ ?_;rintro ⟨p,l,tk⟩ ⟨hp,hp2,hl⟩;dsimp only at hp hp2 hl ⊢;rcases Nat.lt_or_ge p s.size with hlt|hge
    · rw [tn hlt] at hl
      have hd:=decode_le s p
      have hw:=sS hlt
      repeat' (first|(with_reducible first|refine aC ?_|refine aG ?_|refine aB ?_)|simp only [WL,WM,Nat.reduceAdd,Nat.reduceLT,true_and,cI z7]|simp (disch:=first|omega|(simp only [aU];omega)) only [an]|(with_reducible first|refine ax (hb:=?_)|refine cX (hlen:=?_) (hmax:=?_) (hK:=fun tk=>?_)|refine dp (hK:=?_))|( refine UP 1 rfl hlt ?_)|omega|(refine bq ?_;(first|omega|(simp only [aU];omega))))
      exact ⟨(p+(Utf8.decode s p).2,l++[((Utf8.decode s p).1:Int)],_),aM (by dsimp only;simp only [SI,List.map_append,List.map_cons,List.map_nil];exact bH) (ResW.refl _) id,⟨by simp;omega,by simp;omega,by simpa using hl⟩,by dsimp only;omega⟩
    · rw [qI hge,List.append_nil] at hl
      subst hl
      repeat' (first|(with_reducible first|refine aG ?_|refine aO ?_)|simp only [WL,ay,WM,reduceCtorEq,bg,Nat.reduceAdd,Nat.reduceLT,Bool.not_true,true_and,reduceIte,Bool.false_eq_true,cb,DT,Ti,Tryz.results114,YI]|( refine RY 1 rfl hge ?_)|(with_reducible first|refine cD (Uj ?_ ?_)|refine cD (Xm ?_))|((with_reducible first|refine ai (fun h=>?_) (fun h=>?_)|refine ab (fun h=>?_) (fun h=>?_))<;>(try simp only [h])<;>(try simp only [bf,ba] at h))|omega)
      all_goals first
        | (have ha:(cK (eD s 0)).2.2=false:=by assumption
           rw [ha,Bool.false_and,Bool.false_and] at hK;exact ak (ah (ah ae)) (aj rfl) hK)
        | (have ha:(cK (eD s 0)).2.2=true:=by assumption
           have hb:(cK (eD s 0)).2.1=((eD s 0).length:Int):=by assumption
           rw [ha,decide_eq_true hb,Bool.true_and,Bool.true_and] at hK;exact ak (ah (ah ae)) (aj rfl) hK)
        | (have ha:(cK (eD s 0)).2.2=true:=by assumption
           have hb:¬(cK (eD s 0)).2.1=((eD s 0).length:Int):=by assumption
           rw [ha,decide_eq_false hb,Bool.true_and,Bool.false_and] at hK;exact ak (ah (ah ae)) (aj rfl) hK)
  · rw [if_pos h1] at hK
    rw [if_pos h1] at k2;refine ACallF.dropL (aa Tryz.func114 rfl ?_);simp only [Tryz.ntmps114]
    repeat' (first|simp only [WL,WM,Nat.reduceAdd,Nat.reduceSub,Nat.reduceLT,true_and,i7,UC,Tryz.results114,pM,k2]|(with_reducible first|refine cD (l7 ?_)|refine cD (Tt ?_ ?_))|omega)
    all_goals first
      | exact ak ae (aj rfl) hK
end Go.Proofs.YthkabaiamcjdbaaGreat
namespace Go.Proofs.YthkabaiamcjdbaaGreat
open Go.Shelf
open Go.Abs
section
variable {κ:Ctx} {P:Program} {all rest:List Oper} {Q:Exit→St→Prop} {d:Option Tmp} {t:List AV} {σ:List Res} {fr:Bool} {df:List Deferred}
theorem sB {ty kt et:TypeId}{k:ByteArray} (T:TMap P ty kt et) (hK:dw κ false P all Q d rest ⟨t,σ,fr,df⟩ (.tup [.raw (.string ByteArray.empty),B false]) σ):cu κ false P all Q d rest ⟨t,σ,fr,df⟩ (.lookup ty true) [.raw (.map none),.raw (.string k)] :=
 cl (uV T hK)
theorem qS {ty kt et:TypeId}{k:ByteArray}{l:MapL}{clock b:Nat} (i:Nat) (h:σ[i]? = some (.blk b (j1 l clock))) (T:TMap P ty kt et) (hK:dw κ false P all Q d rest ⟨t,σ,fr,df⟩ (.tup [.raw (.string ((cL l k).getD ByteArray.empty)),B (cL l k).isSome]) σ):cu κ false P all Q d rest ⟨t,σ,fr,df⟩ (.lookup ty true) [.raw (.map (some b)),.raw (.string k)] :=
 cl (B9 i h T hK)
end
theorem pY:TMap Tryz.prog 106 9 9:=⟨by kernel_rfl,by kernel_rfl,by kernel_rfl⟩
variable {κ:Ctx} {σ:List Res} {K:Ret→List Res→Prop} {o o':Option (Option (Nat × Nat))}
def lE (s:ByteArray) (c:Int):Int:=Go.Lib.indexByte s.data.toList c.toNat.toUInt8
def ZV:Go.Shelf.Ren:=⟨fun|137=>116|217=>141|266=>169|n=>n,fun|3=>3|5=>5|9=>9|n=>n,fun n=>n⟩
theorem XB:Lays.n137 Tryz.prog ZV where
 mixed:=by kernel_rfl
 f137:=Tryz.func116.trans (congrArg some (by kernel_rfl))
 f217:=Tryz.func141.trans (congrArg some (by kernel_rfl))
 f266:=Tryz.func169.trans (congrArg some (by kernel_rfl))
 t3:=Tryz.underlying3
 a3:=Tryz.isAgg3
 z3:=Tryz.sizeOf3
 v3:=Tryz.zeroValue3
 t5:=Tryz.underlying5
 a5:=Tryz.isAgg5
 z5:=Tryz.sizeOf5
 v5:=Tryz.zeroValue5
 t9:=Tryz.underlying9
 a9:=Tryz.isAgg9
 z9:=Tryz.sizeOf9
 v9:=Tryz.zeroValue9
theorem kl {s:ByteArray}{c:Int} (hK:K (.ret (I (lE s c))) σ):ACallF κ Tryz.prog 116 [.raw (.string s),.raw (.int .u8 c)] σ K :=
 r6 (xs:=[.string s,.int .u8 c]) (fun w=>Any.strings_IndexByte XB s c w) hK
def mj (h:ByteArray):ByteArray × Bool :=
 if (h.toList == bangB.toList)=true then (bangB,true) else if (h.toList == bang2B.toList)=true then (yB,true) else (({ data:=#[] }:ByteArray),false)
theorem qh {h:ByteArray}{b:Nat} (hK:K (.ret (.tup [.raw (.string (mj h).1),B (mj h).2])) (.obj b [.raw (.map none)]::σ)):ACallF κ Tryz.prog 117 [.raw (.pointer (some ⟨b,0,none⟩)),.raw (.string h)] (.obj b [.raw (.map none)]::σ) K:=by
 unfold mj at hK;cases h1:(h.toList == bangB.toList)
 ·cases h2:(h.toList == bang2B.toList)
  ·rw [if_neg (by rw [h1];decide),if_neg (by rw [h2];decide)] at hK
   refine ACallF.dropL (aa Tryz.func117 rfl ?_);simp only [Tryz.ntmps117]
   repeat' (first|simp only [WL,dx,WM,Nat.reduceAdd,Nat.reduceSub,Nat.reduceLT,Nat.reduceEqDiff,true_and,vB,fR iC,Tryz.results117,Gq,jZ,wy,h1,h2]|(with_reducible first|refine ax (hb:=?_)|refine au (hK:=?_))|( refine sB pY ?_))
   all_goals first
    | exact ak ae (aj rfl) hK
  ·rw [if_neg (by rw [h1];decide),if_pos h2] at hK
   refine ACallF.dropL (aa Tryz.func117 rfl ?_);simp only [Tryz.ntmps117]
   repeat' (first|simp only [WL,dx,WM,Nat.reduceAdd,Nat.reduceSub,Nat.reduceLT,Nat.reduceEqDiff,true_and,vB,fR iC,Tryz.results117,Gq,jZ,wy,h1,h2]|(with_reducible first|refine ax (hb:=?_)|refine au (hK:=?_))|( refine sB pY ?_))
   all_goals first
    | exact ak ae (aj rfl) hK
 ·rw [if_pos h1] at hK
  refine ACallF.dropL (aa Tryz.func117 rfl ?_);simp only [Tryz.ntmps117]
  repeat' (first|simp only [WL,dx,WM,Nat.reduceAdd,Nat.reduceSub,Nat.reduceLT,Nat.reduceEqDiff,true_and,vB,fR iC,Tryz.results117,Gq,jZ,wy,h1]|(with_reducible first|refine ax (hb:=?_)|refine au (hK:=?_))|( refine sB pY ?_))
  all_goals first
   | exact ak ae (aj rfl) hK
def gw (s:ByteArray):Nat:=if 0≤lE (s.extract 1 s.size) 33 then (lE (s.extract 1 s.size) 33).toNat+2 else 1
def Dd (s:ByteArray):ByteArray × Int :=
 if (s.toList == ({ data:=#[] }:ByteArray).toList)=true∨(s.toList == bangB.toList)=true then (s,0)
 else if pC s=false then (({ data:=#[] }:ByteArray),11)
 else if hasB s lessB=true then (s.extract 1 s.size,0)
 else if (mj (s.extract 0 (gw s))).2=false then (({ data:=#[] }:ByteArray),11)
 else ((mj (s.extract 0 (gw s))).1++s.extract (gw s) s.size,0)
theorem vQ (h:ByteArray):(mj h).1.size≤18:=by
 unfold mj;split
 ·rw [z_b];decide
 ·split
  ·rw [Z8];decide
  ·decide +kernel
theorem O2 {s:ByteArray}{b:Nat} (hs:s.size≤1000000) (hn:gw s≤s.size) (hi:-1≤lE (s.extract 1 s.size) 33∧lE (s.extract 1 s.size) 33≤1000000) (hK:K (.ret (.tup [.raw (.string (Dd s).1),I (Dd s).2])) (.obj b [.raw (.map none)]::σ)):ACallF κ Tryz.prog 96 [.raw (.pointer (some ⟨b,0,none⟩)),.raw (.string s)] (.obj b [.raw (.map none)]::σ) K:=by
 have y4:=Zl
 have e2:=xp (s:=s) 1
 have e3:=xp (s:=s) (gw s)
 have e4:=vQ (s.extract 0 (gw s))
 have k2:yY s lessB=if hasB s lessB=true then (s.extract 1 s.size,true) else (s,false):=rfl
 unfold Dd at hK;cases h0:(s.toList == ({ data:=#[] }:ByteArray).toList)
 ·cases h1:(s.toList == bangB.toList)
  ·rw [if_neg (fun e=>by rw [h0,h1] at e;exact e.elim (fun e=>by cases e) (fun e=>by cases e))] at hK
   have hpos:1≤s.size:=by
    rcases Nat.eq_zero_or_pos s.size with h|h
    ·have:s=ByteArray.empty:=ByteArray.size_eq_zero_iff.mp h
     subst this
     revert h0;decide +kernel
    ·exact h
   cases h2:pC s
   ·rw [if_pos h2] at hK
    refine ACallF.dropL (aa Tryz.func96 rfl ?_);simp only [Tryz.ntmps96]
    repeat' (first|simp only [WL,dx,WM,Nat.reduceAdd,Nat.reduceSub,Bool.not_false,true_and,reduceIte,Bool.false_eq_true,iX,Tryz.results96,jZ,pM,h0,h1,h2]|with_reducible refine cD (ma ?_ ?_)|omega)
    all_goals first
     | exact ak ae (aj rfl) hK
   ·rw [if_neg (by rw [h2];decide)] at hK
    cases h3:hasB s lessB
    ·rw [if_neg (by rw [h3];decide)] at hK
     rw [if_neg (by rw [h3];decide)] at k2;have hc:0≤lE (s.extract 1 s.size) 33→lE (s.extract 1 s.size) 33+2=(gw s:Int):=fun h=>by unfold gw;rw [if_pos h];omega
     have hc2:¬0≤lE (s.extract 1 s.size) 33→(1:Int)=(gw s:Int):=fun h=>by unfold gw;rw [if_neg h];rfl
     by_cases h4:0≤lE (s.extract 1 s.size) 33
     ·have hc:=hc h4
      cases h5:(mj (s.extract 0 (gw s))).2
      ·rw [if_pos h5] at hK
       refine ACallF.dropL (aa Tryz.func96 rfl ?_);simp only [Tryz.ntmps96]
       repeat' (first|simp only [WL,ay,dx,WM,Int.reduceToNat,reduceCtorEq,bg,Nat.reduceAdd,Nat.reduceSub,Nat.reduceLT,Bool.not_true,Bool.not_false,true_and,reduceIte,Bool.false_eq_true,T9,iX,i7,mi,mM,Tryz.results96,jZ,pM,h0,h1,h2,k2,hc,h5,Int.toNat_zero]|simp (disch:=first|omega|(simp only [aU];omega)) only [an,sK]|(with_reducible first|refine ax (hb:=?_)|refine cD (ma ?_ ?_)|refine cD (l7 ?_)|refine cD (kl ?_)|refine cD (qh ?_))|((with_reducible first|refine ai (fun h=>?_) (fun h=>?_)|refine ab (fun h=>?_) (fun h=>?_))<;>(try simp only [h])<;>(try simp only [bf,ba] at h))|omega)
       all_goals first
        | exact ak ae (aj rfl) hK
        | (exfalso;omega)
      ·rw [if_neg (by rw [h5];decide)] at hK
       refine ACallF.dropL (aa Tryz.func96 rfl ?_);simp only [Tryz.ntmps96]
       repeat' (first|simp only [WL,ay,dx,WM,Int.reduceToNat,reduceCtorEq,bg,Nat.reduceAdd,Nat.reduceSub,Nat.reduceLT,Bool.not_true,true_and,reduceIte,Bool.false_eq_true,T9,iX,i7,mi,mM,Tryz.results96,jZ,pM,h0,h1,h2,k2,hc,h5,Int.toNat_zero]|simp (disch:=first|omega|(simp only [aU];omega)) only [an,sK]|(with_reducible first|refine ax (hb:=?_)|refine cD (ma ?_ ?_)|refine cD (l7 ?_)|refine cD (kl ?_)|refine cD (qh ?_))|((with_reducible first|refine ai (fun h=>?_) (fun h=>?_)|refine ab (fun h=>?_) (fun h=>?_))<;>(try simp only [h])<;>(try simp only [bf,ba] at h))|omega)
       all_goals first
        | exact ak ae (aj rfl) hK
        | (exfalso;omega)
     ·have hc:=hc2 h4
      have hc1:gw s=1:=by omega
      rw [hc1] at hK e3 e4;cases h5:(mj (s.extract 0 1)).2
      ·rw [if_pos h5] at hK
       refine ACallF.dropL (aa Tryz.func96 rfl ?_);simp only [Tryz.ntmps96]
       repeat' (first|simp only [WL,ay,dx,WM,Int.reduceToNat,reduceCtorEq,bg,Nat.reduceAdd,Nat.reduceSub,Nat.reduceLT,Bool.not_true,Bool.not_false,true_and,reduceIte,Bool.false_eq_true,T9,iX,i7,mi,mM,Tryz.results96,jZ,pM,h0,h1,h2,k2,h5,Int.toNat_zero]|simp (disch:=first|omega|(simp only [aU];omega)) only [an,sK]|(with_reducible first|refine ax (hb:=?_)|refine cD (ma ?_ ?_)|refine cD (l7 ?_)|refine cD (kl ?_)|refine cD (qh ?_))|((with_reducible first|refine ai (fun h=>?_) (fun h=>?_)|refine ab (fun h=>?_) (fun h=>?_))<;>(try simp only [h])<;>(try simp only [bf,ba] at h))|omega)
       all_goals first
        | exact ak ae (aj rfl) hK
        | (exfalso;omega)
      ·rw [if_neg (by rw [h5];decide)] at hK
       refine ACallF.dropL (aa Tryz.func96 rfl ?_);simp only [Tryz.ntmps96]
       repeat' (first|simp only [WL,ay,dx,WM,Int.reduceToNat,reduceCtorEq,bg,Nat.reduceAdd,Nat.reduceSub,Nat.reduceLT,Bool.not_true,true_and,reduceIte,Bool.false_eq_true,T9,iX,i7,mi,mM,Tryz.results96,jZ,pM,h0,h1,h2,k2,h5,Int.toNat_zero]|simp (disch:=first|omega|(simp only [aU];omega)) only [an,sK]|(with_reducible first|refine ax (hb:=?_)|refine cD (ma ?_ ?_)|refine cD (l7 ?_)|refine cD (kl ?_)|refine cD (qh ?_))|((with_reducible first|refine ai (fun h=>?_) (fun h=>?_)|refine ab (fun h=>?_) (fun h=>?_))<;>(try simp only [h])<;>(try simp only [bf,ba] at h))|omega)
       all_goals first
        | exact ak ae (aj rfl) hK
        | (exfalso;omega)
    ·rw [if_pos h3] at hK
     rw [if_pos h3] at k2;refine ACallF.dropL (aa Tryz.func96 rfl ?_);simp only [Tryz.ntmps96]
     repeat' (first|simp only [WL,dx,WM,Nat.reduceAdd,Nat.reduceSub,Nat.reduceLT,Bool.not_true,true_and,reduceIte,Bool.false_eq_true,iX,i7,Tryz.results96,jZ,pM,h0,h1,h2,k2]|(with_reducible first|refine cD (ma ?_ ?_)|refine cD (l7 ?_))|omega)
     all_goals first
      | exact ak ae (aj rfl) hK
  ·rw [if_pos (.inr h1)] at hK
   refine ACallF.dropL (aa Tryz.func96 rfl ?_);simp only [Tryz.ntmps96]
   repeat' (first|simp only [WL,dx,WM,Nat.reduceAdd,Nat.reduceSub,true_and,reduceIte,Bool.false_eq_true,Tryz.results96,jZ,h0,h1])
   all_goals first
    | exact ak ae (aj rfl) hK
 ·rw [if_pos (.inl h0)] at hK
  refine ACallF.dropL (aa Tryz.func96 rfl ?_);simp only [Tryz.ntmps96]
  repeat' (first|simp only [WL,dx,WM,Nat.reduceAdd,Nat.reduceSub,true_and,reduceIte,Tryz.results96,jZ,h0])
  all_goals first
   | exact ak ae (aj rfl) hK
section
variable {κ:Ctx} {P:Program} {all rest:List Oper} {Q:Exit→St→Prop} {d:Option Tmp} {t:List AV} {σ:List Res} {fr:Bool} {df:List Deferred}
theorem Nv {ty:TypeId} (hK:∀ b,dw κ false P all Q d rest ⟨t,σ,fr,df⟩ (.raw (.map (some b))) (.blk b (j1 [] 0)::σ)):cu κ false P all Q d rest ⟨t,σ,fr,df⟩ (.makeMap ty) [] :=
 cl (Ga hK)
def Yi (κ:Ctx) (dm:Bool) (P:Program) (all:List Oper) (Q:Exit→St→Prop) (d:Option Tmp) (rest:List Oper) (s:St) (ty:TypeId) (m k x:AV):Prop:=actM κ dm P (.mapUpdate ty) [m,k,x] s.σ (fun _ σ'=>dw κ dm P all Q d rest s .any σ')
theorem wR {dm:Bool}{ty:TypeId}{m k x:Operand}{ty':TypeId}{pos:String}{af:Array Edge}:bA κ dm P all Q (⟨d,.mapUpdate ty m k x,ty',pos,af,none⟩::rest) ⟨t,σ,fr,df⟩=Yi κ dm P all Q d rest ⟨t,σ,fr,df⟩ ty (St.ev ⟨t,σ,fr,df⟩ m) (St.ev ⟨t,σ,fr,df⟩ k) (St.ev ⟨t,σ,fr,df⟩ x):=propext Iff.rfl
theorem zJ {ty kt et:TypeId}{k x:ByteArray}{l:MapL}{clock b:Nat} (i:Nat) (h:σ[i]? = some (.blk b (j1 l clock))) (T:TMap P ty kt et) (hn:cL l k=none)
  (hK:dw κ false P all Q d rest ⟨t,σ,fr,df⟩ .any (σ.set i (.blk b (j1 (l++[(k,x,clock)]) (clock+1))))):Yi κ false P all Q d rest ⟨t,σ,fr,df⟩ ty (.raw (.map (some b))) (.raw (.string k)) (.raw (.string x)) :=
 Cb i h T hn hK
theorem Oj {ty kt et:TypeId}{b:Nat} (T:TMap P ty kt et) (hK:dw κ false P all Q d rest ⟨t,σ,fr,df⟩ (B false) σ):ij κ false P all Q d rest ⟨t,σ,fr,df⟩ .eql ty (.raw (.map (some b))) (.raw (.map none)) :=
 ⟨rfl,GQ T hK⟩
theorem I0 {ty kt et:TypeId} (T:TMap P ty kt et) (hK:dw κ false P all Q d rest ⟨t,σ,fr,df⟩ (B true) σ):ij κ false P all Q d rest ⟨t,σ,fr,df⟩ .eql ty (.raw (.map none)) (.raw (.map none)) :=
 ⟨rfl,Dz (m:=none) T hK⟩
end
variable {κ:Ctx} {σ:List Res} {K:Ret→List Res→Prop} {o o':Option (Option (Nat × Nat))}
theorem Vy {h p:ByteArray}{b:Nat} (hK:∀ mb,K (.ret (B true)) (.blk mb (j1 [(h,p,0)] 1)::.obj b [.raw (.map (some mb))]::σ)):ACallF κ Tryz.prog 94 [.raw (.pointer (some ⟨b,0,none⟩)),.raw (.string h),.raw (.string p)] (.obj b [.raw (.map none)]::σ) K:=by
 refine ACallF.dropL (aa Tryz.func94 rfl ?_);simp only [Tryz.ntmps94]
 repeat' (first|simp only [WL,WM,Nat.reduceAdd,Nat.reduceSub,Nat.reduceLT,Nat.reduceEqDiff,true_and,vB,fR iC,Tryz.results94,wR]|(with_reducible first|refine ax (hb:=?_)|refine au (hK:=?_)|refine aP (hK:=?_))|( refine sB pY ?_)|( refine I0 pY ?_)|( refine Nv (fun mb=>?_))|( refine zJ 0 rfl pY rfl ?_))
 all_goals first
  | exact ak ae (aj rfl) (hK _)
theorem Yu {h p:ByteArray}{b mb c:Nat}{l:MapL} (h1:cL l h=none→K (.ret (B true)) (.blk mb (j1 (l++[(h,p,c)]) (c+1))::.obj b [.raw (.map (some mb))]::σ)) (h2:(cL l h).isSome=true→K (.ret (B false)) (.blk mb (j1 l c)::.obj b [.raw (.map (some mb))]::σ)):ACallF κ Tryz.prog 94 [.raw (.pointer (some ⟨b,0,none⟩)),.raw (.string h),.raw (.string p)] (.blk mb (j1 l c)::.obj b [.raw (.map (some mb))]::σ) K:=by
 cases hn:cL l h
 ·have hK:=h1 hn
  have hs:(cL l h).isSome=false:=by rw [hn];rfl
  refine ACallF.dropL (aa Tryz.func94 rfl ?_);simp only [Tryz.ntmps94]
  repeat' (first|simp only [WL,WM,Nat.reduceAdd,Nat.reduceSub,Nat.reduceLT,Nat.reduceEqDiff,true_and,vB,fR iC,Tryz.results94,hs,wR]|(with_reducible first|refine ax (hb:=?_)|refine au (hK:=?_))|( refine qS 0 rfl pY ?_)|( refine Oj pY ?_)|( refine zJ 0 rfl pY hn ?_))
  all_goals first
   | exact ak ae (aj rfl) hK
 ·have hs:(cL l h).isSome=true:=by rw [hn];rfl
  have hK:=h2 hs
  refine ACallF.dropL (aa Tryz.func94 rfl ?_);simp only [Tryz.ntmps94]
  repeat' (first|simp only [WL,WM,Nat.reduceAdd,Nat.reduceSub,Nat.reduceLT,Nat.reduceEqDiff,true_and,vB,fR iC,Tryz.results94,hs]|(with_reducible first|refine ax (hb:=?_)|refine au (hK:=?_))|( refine qS 0 rfl pY ?_))
  all_goals first
   | exact ak ae (aj rfl) hK
def o0 (l:MapL) (h:ByteArray):ByteArray × Bool:=match cL l h with|some p=>(p,true)|none=>mj h
theorem pd {h:ByteArray}{b mb c:Nat}{l:MapL} (hK:K (.ret (.tup [.raw (.string (o0 l h).1),B (o0 l h).2])) (.blk mb (j1 l c)::.obj b [.raw (.map (some mb))]::σ)):ACallF κ Tryz.prog 117 [.raw (.pointer (some ⟨b,0,none⟩)),.raw (.string h)] (.blk mb (j1 l c)::.obj b [.raw (.map (some mb))]::σ) K:=by
 unfold o0 at hK;cases hn:cL l h
 ·simp only [hn] at hK
  unfold mj at hK;have hs:(cL l h).isSome=false:=by rw [hn];rfl
  cases h1:(h.toList == bangB.toList)
  ·cases h2:(h.toList == bang2B.toList)
   ·rw [if_neg (by rw [h1];decide),if_neg (by rw [h2];decide)] at hK
    refine ACallF.dropL (aa Tryz.func117 rfl ?_);simp only [Tryz.ntmps117]
    repeat' (first|simp only [WL,dx,WM,Nat.reduceAdd,Nat.reduceSub,Nat.reduceLT,Nat.reduceEqDiff,true_and,vB,fR iC,Tryz.results117,hs,Gq,jZ,wy,h1,h2]|(with_reducible first|refine ax (hb:=?_)|refine au (hK:=?_))|( refine qS 0 rfl pY ?_))
    all_goals first
     | exact ak ae (aj rfl) hK
   ·rw [if_neg (by rw [h1];decide),if_pos h2] at hK
    refine ACallF.dropL (aa Tryz.func117 rfl ?_);simp only [Tryz.ntmps117]
    repeat' (first|simp only [WL,dx,WM,Nat.reduceAdd,Nat.reduceSub,Nat.reduceLT,Nat.reduceEqDiff,true_and,vB,fR iC,Tryz.results117,hs,Gq,jZ,wy,h1,h2]|(with_reducible first|refine ax (hb:=?_)|refine au (hK:=?_))|( refine qS 0 rfl pY ?_))
    all_goals first
     | exact ak ae (aj rfl) hK
  ·rw [if_pos h1] at hK
   refine ACallF.dropL (aa Tryz.func117 rfl ?_);simp only [Tryz.ntmps117]
   repeat' (first|simp only [WL,dx,WM,Nat.reduceAdd,Nat.reduceSub,Nat.reduceLT,Nat.reduceEqDiff,true_and,vB,fR iC,Tryz.results117,hs,Gq,jZ,wy,h1]|(with_reducible first|refine ax (hb:=?_)|refine au (hK:=?_))|( refine qS 0 rfl pY ?_))
   all_goals first
    | exact ak ae (aj rfl) hK
 ·rename_i p
  simp only [hn] at hK;have hs:(cL l h).isSome=true:=by rw [hn];rfl
  have hg:(cL l h).getD ByteArray.empty=p:=by rw [hn];rfl
  refine ACallF.dropL (aa Tryz.func117 rfl ?_);simp only [Tryz.ntmps117]
  repeat' (first|simp only [WL,WM,Nat.reduceAdd,Nat.reduceSub,Nat.reduceLT,Nat.reduceEqDiff,true_and,vB,fR iC,Tryz.results117,hs,hg]|(with_reducible first|refine ax (hb:=?_)|refine au (hK:=?_))|( refine qS 0 rfl pY ?_))
  all_goals first
   | exact ak ae (aj rfl) hK
theorem mY {x y:ByteArray}{v:Option Value} (h:x.size+y.size≤4611686018427387904):(if ((x.size+y.size:Nat):Int) > IntKind.i64.max then none else v)=v:=by
 rw [if_neg];have:IntKind.i64.max=9223372036854775807:=by decide
 omega
def cV (l:MapL) (s:ByteArray):ByteArray × Int :=
 if (s.toList == ({ data:=#[] }:ByteArray).toList)=true∨(s.toList == bangB.toList)=true then (s,0)
 else if pC s=false then (({ data:=#[] }:ByteArray),11)
 else if hasB s lessB=true then (s.extract 1 s.size,0)
 else if (o0 l (s.extract 0 (gw s))).2=false then (({ data:=#[] }:ByteArray),11)
 else ((o0 l (s.extract 0 (gw s))).1++s.extract (gw s) s.size,0)
theorem OL {s:ByteArray}{b mb c:Nat}{l:MapL} (hp:∀ h,(o0 l h).1.size≤1152921504606846976) (hs:s.size≤1000000) (hn:gw s≤s.size) (hi:-1≤lE (s.extract 1 s.size) 33∧lE (s.extract 1 s.size) 33≤1000000) (hK:K (.ret (.tup [.raw (.string (cV l s).1),I (cV l s).2])) (.blk mb (j1 l c)::.obj b [.raw (.map (some mb))]::σ)):ACallF κ Tryz.prog 96 [.raw (.pointer (some ⟨b,0,none⟩)),.raw (.string s)] (.blk mb (j1 l c)::.obj b [.raw (.map (some mb))]::σ) K:=by
 have y4:=Zl
 have e2:=xp (s:=s) 1
 have e3:=xp (s:=s) (gw s)
 have e4:=hp (s.extract 0 (gw s))
 have k2:yY s lessB=if hasB s lessB=true then (s.extract 1 s.size,true) else (s,false):=rfl
 unfold cV at hK;cases h0:(s.toList == ({ data:=#[] }:ByteArray).toList)
 ·cases h1:(s.toList == bangB.toList)
  ·rw [if_neg (fun e=>by rw [h0,h1] at e;exact e.elim (fun e=>by cases e) (fun e=>by cases e))] at hK
   have hpos:1≤s.size:=by
    rcases Nat.eq_zero_or_pos s.size with h|h
    ·have:s=ByteArray.empty:=ByteArray.size_eq_zero_iff.mp h
     subst this
     revert h0;decide +kernel
    ·exact h
   cases h2:pC s
   ·rw [if_pos h2] at hK
    refine ACallF.dropL (aa Tryz.func96 rfl ?_);simp only [Tryz.ntmps96]
    repeat' (first|simp only [WL,dx,WM,Nat.reduceAdd,Nat.reduceSub,Bool.not_false,true_and,reduceIte,Bool.false_eq_true,iX,Tryz.results96,jZ,pM,h0,h1,h2]|with_reducible refine cD (ma ?_ ?_)|omega)
    all_goals first
     | exact ak ae (aj rfl) hK
   ·rw [if_neg (by rw [h2];decide)] at hK
    cases h3:hasB s lessB
    ·rw [if_neg (by rw [h3];decide)] at hK
     rw [if_neg (by rw [h3];decide)] at k2;have hc:0≤lE (s.extract 1 s.size) 33→lE (s.extract 1 s.size) 33+2=(gw s:Int):=fun h=>by unfold gw;rw [if_pos h];omega
     have hc2:¬0≤lE (s.extract 1 s.size) 33→(1:Int)=(gw s:Int):=fun h=>by unfold gw;rw [if_neg h];rfl
     by_cases h4:0≤lE (s.extract 1 s.size) 33
     ·have hc:=hc h4
      cases h5:(o0 l (s.extract 0 (gw s))).2
      ·rw [if_pos h5] at hK
       refine ACallF.dropL (aa Tryz.func96 rfl ?_);simp only [Tryz.ntmps96]
       repeat' (first|simp only [WL,ay,dx,WM,Int.reduceToNat,reduceCtorEq,bg,Nat.reduceAdd,Nat.reduceSub,Nat.reduceLT,Bool.not_true,Bool.not_false,true_and,reduceIte,Bool.false_eq_true,T9,iX,i7,mi,mM,Tryz.results96,jZ,pM,h0,h1,h2,k2,hc,h5,Int.toNat_zero]|simp (disch:=first|omega|(simp only [aU];omega)) only [an,mY]|(with_reducible first|refine ax (hb:=?_)|refine cD (ma ?_ ?_)|refine cD (l7 ?_)|refine cD (kl ?_)|refine cD (pd ?_))|((with_reducible first|refine ai (fun h=>?_) (fun h=>?_)|refine ab (fun h=>?_) (fun h=>?_))<;>(try simp only [h])<;>(try simp only [bf,ba] at h))|omega)
       all_goals first
        | exact ak ae (aj rfl) hK
        | (exfalso;omega)
      ·rw [if_neg (by rw [h5];decide)] at hK
       refine ACallF.dropL (aa Tryz.func96 rfl ?_);simp only [Tryz.ntmps96]
       repeat' (first|simp only [WL,ay,dx,WM,Int.reduceToNat,reduceCtorEq,bg,Nat.reduceAdd,Nat.reduceSub,Nat.reduceLT,Bool.not_true,true_and,reduceIte,Bool.false_eq_true,T9,iX,i7,mi,mM,Tryz.results96,jZ,pM,h0,h1,h2,k2,hc,h5,Int.toNat_zero]|simp (disch:=first|omega|(simp only [aU];omega)) only [an,mY]|(with_reducible first|refine ax (hb:=?_)|refine cD (ma ?_ ?_)|refine cD (l7 ?_)|refine cD (kl ?_)|refine cD (pd ?_))|((with_reducible first|refine ai (fun h=>?_) (fun h=>?_)|refine ab (fun h=>?_) (fun h=>?_))<;>(try simp only [h])<;>(try simp only [bf,ba] at h))|omega)
       all_goals first
        | exact ak ae (aj rfl) hK
        | (exfalso;omega)
     ·have hc:=hc2 h4
      have hc1:gw s=1:=by omega
      rw [hc1] at hK e3 e4;cases h5:(o0 l (s.extract 0 1)).2
      ·rw [if_pos h5] at hK
       refine ACallF.dropL (aa Tryz.func96 rfl ?_);simp only [Tryz.ntmps96]
       repeat' (first|simp only [WL,ay,dx,WM,Int.reduceToNat,reduceCtorEq,bg,Nat.reduceAdd,Nat.reduceSub,Nat.reduceLT,Bool.not_true,Bool.not_false,true_and,reduceIte,Bool.false_eq_true,T9,iX,i7,mi,mM,Tryz.results96,jZ,pM,h0,h1,h2,k2,h5,Int.toNat_zero]|simp (disch:=first|omega|(simp only [aU];omega)) only [an,mY]|(with_reducible first|refine ax (hb:=?_)|refine cD (ma ?_ ?_)|refine cD (l7 ?_)|refine cD (kl ?_)|refine cD (pd ?_))|((with_reducible first|refine ai (fun h=>?_) (fun h=>?_)|refine ab (fun h=>?_) (fun h=>?_))<;>(try simp only [h])<;>(try simp only [bf,ba] at h))|omega)
       all_goals first
        | exact ak ae (aj rfl) hK
        | (exfalso;omega)
      ·rw [if_neg (by rw [h5];decide)] at hK
       refine ACallF.dropL (aa Tryz.func96 rfl ?_);simp only [Tryz.ntmps96]
       repeat' (first|simp only [WL,ay,dx,WM,Int.reduceToNat,reduceCtorEq,bg,Nat.reduceAdd,Nat.reduceSub,Nat.reduceLT,Bool.not_true,true_and,reduceIte,Bool.false_eq_true,T9,iX,i7,mi,mM,Tryz.results96,jZ,pM,h0,h1,h2,k2,h5,Int.toNat_zero]|simp (disch:=first|omega|(simp only [aU];omega)) only [an,mY]|(with_reducible first|refine ax (hb:=?_)|refine cD (ma ?_ ?_)|refine cD (l7 ?_)|refine cD (kl ?_)|refine cD (pd ?_))|((with_reducible first|refine ai (fun h=>?_) (fun h=>?_)|refine ab (fun h=>?_) (fun h=>?_))<;>(try simp only [h])<;>(try simp only [bf,ba] at h))|omega)
       all_goals first
        | exact ak ae (aj rfl) hK
        | (exfalso;omega)
    ·rw [if_pos h3] at hK
     rw [if_pos h3] at k2;refine ACallF.dropL (aa Tryz.func96 rfl ?_);simp only [Tryz.ntmps96]
     repeat' (first|simp only [WL,dx,WM,Nat.reduceAdd,Nat.reduceSub,Nat.reduceLT,Bool.not_true,true_and,reduceIte,Bool.false_eq_true,iX,i7,Tryz.results96,jZ,pM,h0,h1,h2,k2]|(with_reducible first|refine cD (ma ?_ ?_)|refine cD (l7 ?_))|omega)
     all_goals first
      | exact ak ae (aj rfl) hK
  ·rw [if_pos (.inr h1)] at hK
   refine ACallF.dropL (aa Tryz.func96 rfl ?_);simp only [Tryz.ntmps96]
   repeat' (first|simp only [WL,dx,WM,Nat.reduceAdd,Nat.reduceSub,true_and,reduceIte,Bool.false_eq_true,Tryz.results96,jZ,h0,h1])
   all_goals first
    | exact ak ae (aj rfl) hK
 ·rw [if_pos (.inl h0)] at hK
  refine ACallF.dropL (aa Tryz.func96 rfl ?_);simp only [Tryz.ntmps96]
  repeat' (first|simp only [WL,dx,WM,Nat.reduceAdd,Nat.reduceSub,true_and,reduceIte,Tryz.results96,jZ,h0])
  all_goals first
   | exact ak ae (aj rfl) hK
end Go.Proofs.YthkabaiamcjdbaaGreat
