/-
  Texts Kj, one behind the other.
-/
import Derived.Test.YthkabaiamcjdbaaGreatG19
set_option linter.unusedVariables false
set_option linter.unusedSimpArgs false
set_option maxHeartbeats 16000000
/-
 Walks: chapter 14,what stands on lines.
-/


namespace Go.Proofs.YthkabaiamcjdbaaGreat
open Go.Abs
variable {κ:Ctx} {σ:List Res} {K:Ret→List Res→Prop} {o o':Option (Option (Nat × Nat))}
theorem H5 {ls:List Ln}{i c:Int}{q:Nat} (hb:nj (iM ls i c)=q):restP ls i c=if bV ((iM ls i c).drop q) 35=true∧(0 < q∨max c (aE ls i).1+(q:Nat)=0∨lh ls i (max c (aE ls i).1+(q:Nat) - 1)=true) then ([],max c (aE ls i).1+(q:Nat)) else ((iM ls i c).drop q,max c (aE ls i).1+(q:Nat)):=by
 subst hb;rfl
theorem jT {pr br ix:Nat}{ls:List Ln}{x y:AV} [hJ:Hold σ pr ix (RC ls br x y)] {i c:Int} (hs:Small ls) (hi:0≤i∧i < ls.length) (hc:-1000000000≤c∧c≤1000000000) (hK:K (.ret (.tup [SI none (restP ls i c).1,I (restP ls i c).2])) σ):ACallF κ Tryz.prog 60 [JP pr,I i,I c] σ K:=by
  have ha:(ls.getD i.toNat (0,[])).2.length≤2000∧0≤(ls.getD i.toNat (0,[])).1∧(ls.getD i.toNat (0,[])).1≤2000:=hs.at_ (by omega)
  have hcl:(iM ls i c).length≤2000:=by unfold iM;rw [List.length_drop];dsimp only [aE];omega
  have hcu:iM ls i c=(ls.getD i.toNat (0,[])).2.drop (min (max c (ls.getD i.toNat (0,[])).1 - (ls.getD i.toNat (0,[])).1) ((ls.getD i.toNat (0,[])).2.length:Int)).toNat:=rfl
  refine ACallF.dropL (aR Tryz.func60 rfl ?_)
  simp only [Tryz.ntmps60]
  repeat' (first|(with_reducible first|refine al (ay ?_)|refine bW ?_|refine aJ ?_)|simp only [WL,aD,WM,reduceCtorEq,ba,Nat.reduceAdd,Nat.reduceSub,Nat.reduceEqDiff,true_and,T3,bX,fT,jb,fR cX,fR dP,fR fW]|simp (disch:=first|omega|(simp only [aT];omega)) only [aq,dN]|(with_reducible first|refine aC (hb:=?_)|refine ax (hK:=?_)|refine az (hK:=?_)|refine aS (hK:=fun b=>?_)|refine my ?_|refine Cd ?_))
  have hg:∀ q:Nat,q < (iM ls i c).length→(iM ls i c).getD q 0=(ls.getD i.toNat (0,[])).2.getD (max c (ls.getD i.toNat (0,[])).1 - (ls.getD i.toNat (0,[])).1+q).toNat 0:=fun q hq=>by
    rw [hcu,kg]
    congr 1
    rw [hcu,List.length_drop] at hq
    omega
  have hR:=fun q hb=>H5 (ls:=ls) (i:=i) (c:=c) (q:=q) hb
  dsimp only [aE] at hR
  rw [← hcu]
  generalize iM ls i c=C at *
  have hcC:C.length=(ls.getD i.toNat (0,[])).2.length - (min (max c (ls.getD i.toNat (0,[])).1 - (ls.getD i.toNat (0,[])).1) ((ls.getD i.toNat (0,[])).2.length:Int)).toNat:=by rw [hcu,List.length_drop]
  have hT:∀ q,nj C=q→(bV (C.drop q) 35=true∧(0 < q∨max c (ls.getD i.toNat (0,[])).1+(q:Nat)=0∨lh ls i (max c (ls.getD i.toNat (0,[])).1+(q:Nat) - 1)=true))→K (.ret (.tup [SI none [],I (max c (ls.getD i.toNat (0,[])).1+(q:Nat))])) σ:=fun q h1 h2=>by rw [hR q h1,if_pos h2] at hK;exact hK
  have hF:∀ q,nj C=q→¬(bV (C.drop q) 35=true∧(0 < q∨max c (ls.getD i.toNat (0,[])).1+(q:Nat)=0∨lh ls i (max c (ls.getD i.toNat (0,[])).1+(q:Nat) - 1)=true))→K (.ret (.tup [SI none (C.drop q),I (max c (ls.getD i.toNat (0,[])).1+(q:Nat))])) σ:=fun q h1 h2=>by rw [hR q h1,if_neg h2] at hK;exact hK
  clear hR hK
  refine dM (fun q:Nat=>⟨(JP pr::I i::I (max c (ls.getD i.toNat (0,[])).1+(q:Nat))::.any::.any::.any::nilS::I 0::JP b::SI none (C.drop q)::I (max c (ls.getD i.toNat (0,[])).1)::.any::.any::.any::.any::.any::.any::.any::.any::.any::.any::.any::.any::.any::.any::.any::.any::.any::.any::.any::.any::.any::.any::.any::.any::.any::.any::.any::.any::.any::.any::.any::.any::.any::.any::.any::.any::.any::.any::.any::.any::.any::.any::.any::.any::.any::.any::.any::.any::.any::.any::.any::.any::.any::.any::.any::.any::.any::.any::.any::.any::.any::.any::.any::.any::[]),.obj b [I (ls.getD i.toNat (0,[])).1,SI none (ls.getD i.toNat (0,[])).2]::σ,true,[]⟩) (fun q=>q≤C.length∧∀ m,m < q→blankI (C.getD m 0)=true) (fun q=>C.length - q) 0 (ao bz id) ⟨Nat.zero_le _,fun m hm=>absurd hm (Nat.not_lt_zero _)⟩ ?_
  rintro q ⟨hq,hb⟩
  have hd:(C.drop q).getD 0 0=C.getD q 0:=by rw [kg,Nat.add_zero]
  have hdl:(C.drop q).length=C.length - q:=List.length_drop
  repeat' (first|(with_reducible first|refine ay ?_|refine al (al ?_)|refine aJ ?_|refine aB ?_|refine aw ?_|refine aY ?_)|simp only [WL,aD,WM,Int.reduceToNat,reduceCtorEq,ba,Nat.reduceAdd,Bool.not_true,Bool.not_false,true_and,reduceIte,Bool.false_eq_true,T3,bX,fw,QU,Tryz.results60]|simp (disch:=first|omega|(simp only [aT];omega)) only [aq,aV,aV]|(with_reducible first|refine aC (hb:=?_)|refine cD (Qi hs hi (by dsimp only [aE];omega) ?_)|refine cD (Blank ?_))|((with_reducible first|refine ai (fun h=>?_) (fun h=>?_)|refine ab (fun h=>?_) (fun h=>?_))<;>(try simp only [h])<;>(try simp only [bg,bm] at h))|omega)
  all_goals first
    | (refine ⟨q+1,ao (by simp only [List.drop_drop];exact bz) id,⟨by omega,fun m hm=>?_⟩,by omega⟩
       by_cases e:m=q
       · subst e;rw [← hd];assumption
       · exact hb m (by omega))
    | exact ak (ae ah) (jo (fU (fq (by decide)) le_rfl)) (hT q (mC _ q hb hq (.inr (by rw [← hd];assumption))) ⟨kl (by omega) (by assumption),by first|(exact .inl (by omega))|(exact .inr (.inl (by omega)))|(exact .inr (.inr (by assumption)))⟩)
    | exact ak (ae ah) (aj rfl) (hF q (mC _ q hb hq (.inl (by omega))) (fun h=>absurd h.1 (by rw [vw (by omega)];exact Bool.false_ne_true)))
    | exact ak (ae ah) (aj rfl) (hF q (mC _ q hb hq (.inr (by rw [← hd];assumption))) (fun h=>absurd h.1 (by rw [jv (by assumption)];exact Bool.false_ne_true)))
    | exact ak (ae ah) (aj rfl) (hF q (mC _ q hb hq (.inr (by rw [← hd];assumption))) (fun h=>by rcases h.2 with h|h|h;omega;omega;exact Bool.false_ne_true (Eq.trans (by symm;assumption) h)))
theorem MT {pr br ix:Nat}{ls:List Ln}{x y:AV} [hJ:Hold σ pr ix (RC ls br x y)] {i:Int} (hs:Small ls) (hi:0≤i∧i≤ls.length)
  (h1:∀ k ok,nextP ls i=.ok (k,ok)→K (.ret (.tup [I k,B ok])) σ) (h2:∀ e,nextP ls i=.error e→K (.pan (bF e)) σ):ACallF κ Tryz.prog 51 [JP pr,I i] σ K:=by
 have hl:=hs.1
 refine ACallF.dropL (aR Tryz.func51 rfl ?_)
 simp only [Tryz.ntmps51]
 repeat' (first|(with_reducible first|refine al (ay ?_)|refine bW ?_|refine aJ ?_)|simp only [WL,WM,Nat.reduceAdd,Nat.reduceSub])
 refine dM (fun q:Nat=>⟨(JP pr::I (i+(q:Nat))::.any::.any::I 0::B false::.any::.any::.any::.any::.any::.any::.any::.any::.any::.any::.any::.any::.any::.any::.any::.any::.any::.any::.any::.any::.any::.any::.any::.any::.any::.any::.any::.any::.any::.any::.any::.any::.any::.any::.any::.any::.any::.any::.any::.any::.any::.any::.any::.any::.any::.any::.any::.any::.any::.any::.any::[]),σ,true,[]⟩) (fun q=>i+(q:Nat)≤ls.length∧nextB ls ls.length i=nextB ls (ls.length - q) (i+(q:Nat))) (fun q=>ls.length - q) 0 (ao bz id) ⟨by omega,by simp⟩ ?_
 rintro q ⟨hq,hn⟩
 have hx:=fun h:(i+(q:Nat)).toNat < ls.length=>hs.at_ h
 have hstop:¬(i+(q:Nat) < ls.length∧cU (aE ls (i+(q:Nat))).2=true)→nextB ls ls.length i=i+(q:Nat):=fun h=>by
  rw [hn]
  cases ls.length - q with
  | zero=>rfl
  | succ f=>rw [nextB,if_neg h]
 unfold nextP at h1 h2
 rcases Int.lt_or_le (i+(q:Nat)) ls.length with hlt|hge
 ·have hx:=hx (by omega)
  cases hb:cU (ls.getD (i+(q:Nat)).toNat (0,[])).2
  ·have hst:=hstop (by rintro ⟨-,h⟩;dsimp only [aE] at h;rw [hb] at h;cases h)
   rw [hst] at h1 h2
   have hpos:0 < (ls.getD (i+(q:Nat)).toNat (0,[])).2.length:=by
    rcases Nat.eq_zero_or_pos (ls.getD (i+(q:Nat)).toNat (0,[])).2.length with h|h
    ·rw [List.eq_nil_of_length_eq_zero h] at hb;cases hb
    ·exact h
   unfold bC at h1 h2
   rw [decide_eq_false (by omega)] at h1 h2
   repeat' (first|(with_reducible first|refine al (al ?_)|refine aJ ?_|refine aB ?_|refine aw ?_|refine aY ?_)|simp only [WL,aD,WM,Int.reduceToNat,reduceCtorEq,ba,Nat.reduceAdd,Nat.reduceLeDiff,Nat.reduceEqDiff,Bool.not_true,Bool.not_false,true_and,reduceIte,Bool.false_eq_true,T3,bX,fT,jb,fC dP,fR fW,nB,f7,rC,Tryz.results51,hb]|simp (disch:=first|omega|(simp only [aT];omega)) only [aV,dN,aV]|(with_reducible first|refine aC (hb:=?_)|refine ax (hK:=?_)|refine cD (sv ?_ ?_)|refine cD (dh ?_ ?_)|refine cD (ny ?_))|((with_reducible first|refine ai (fun h=>?_) (fun h=>?_)|refine ab (fun h=>?_) (fun h=>?_))<;>(try simp only [h])<;>(try simp only [bg,bm] at h))|omega)
   all_goals first
    | exact ak ah (aj rfl) (h1 _ _ (by rw [if_pos (by simpa using by assumption)]))
    | exact aN ah rfl (h2 _ (by rw [if_neg (by simpa using by assumption),if_pos (by assumption)]))
    | exact ak ah (aj rfl) (h1 _ _ (by rw [if_neg (by simpa using by assumption),if_neg (by assumption)]))
  ·skip
   repeat' (first|(with_reducible first|refine ay ?_|refine al (al ?_)|refine aJ ?_|refine aB ?_|refine aw ?_|refine aY ?_)|simp only [WL,aD,WM,Int.reduceToNat,reduceCtorEq,ba,Nat.reduceAdd,Nat.reduceLeDiff,Nat.reduceEqDiff,Bool.not_true,Bool.not_false,true_and,reduceIte,Bool.false_eq_true,T3,bX,fT,jb,fC dP,fR fW,nB,f7,rC,Tryz.results51,hb]|simp (disch:=first|omega|(simp only [aT];omega)) only [aq,aV,dN,aV]|(with_reducible first|refine aC (hb:=?_)|refine ax (hK:=?_)|refine cD (sv ?_ ?_)|refine cD (dh ?_ ?_)|refine cD (ny ?_))|((with_reducible first|refine ai (fun h=>?_) (fun h=>?_)|refine ab (fun h=>?_) (fun h=>?_))<;>(try simp only [h])<;>(try simp only [bg,bm] at h))|omega)
   refine ⟨q+1,ao bz id,⟨by omega, ?_⟩,by omega⟩
   rw [hn,show ls.length - q=(ls.length - (q+1))+1 by omega,nextB,if_pos ⟨hlt,hb⟩,show i+((q+1:Nat):Int)=i+(q:Nat)+1 by omega]
 ·have hst:=hstop (by omega)
  rw [hst] at h1 h2
  unfold bC at h1 h2
  rw [decide_eq_true hge] at h1 h2
  repeat' (first|(with_reducible first|refine ay ?_|refine al (al ?_)|refine aJ ?_|refine aB ?_|refine aw ?_|refine aY ?_)|simp only [WL,aD,WM,Int.reduceToNat,reduceCtorEq,ba,Nat.reduceAdd,Nat.reduceLeDiff,Nat.reduceEqDiff,Bool.not_true,Bool.not_false,true_and,reduceIte,Bool.false_eq_true,T3,bX,fT,jb,fC dP,fR fW,nB,f7,rC,Tryz.results51]|simp (disch:=first|omega|(simp only [aT];omega)) only [aq,aV,dN,aV]|(with_reducible first|refine aC (hb:=?_)|refine ax (hK:=?_)|refine cD (sv ?_ ?_)|refine cD (dh ?_ ?_)|refine cD (ny ?_))|((with_reducible first|refine ai (fun h=>?_) (fun h=>?_)|refine ab (fun h=>?_) (fun h=>?_))<;>(try simp only [h])<;>(try simp only [bg,bm] at h))|omega)
  exact ak ah (aj rfl) (h1 _ _ (by simp))
end Go.Proofs.YthkabaiamcjdbaaGreat
