/-
  Texts Kj, one behind the other.
-/
import Derived.Test.YthkabaiamcjdbaaGreatJ19
set_option linter.unusedVariables false
set_option linter.unusedSimpArgs false
set_option maxHeartbeats 16000000
namespace Go.Proofs.YthkabaiamcjdbaaGreat
open Go.Abs
variable {κ:Ctx} {σ:List Res} {K:Ret→List Res→Prop} {o o':Option (Option (Nat × Nat))}
theorem Ll {ls:List Ln}{i c:Int}{q:Nat} (hb:pg (jO ls i c)=q):bz ls i c=if bU ((jO ls i c).drop q) 35=true∧(0 < q∨max c (aF ls i).1+(q:Nat)=0∨qK ls i (max c (aF ls i).1+(q:Nat) - 1)=true) then ([],max c (aF ls i).1+(q:Nat)) else ((jO ls i c).drop q,max c (aF ls i).1+(q:Nat)):=by
 subst hb;rfl
theorem kN {pr br ix:Nat}{ls:List Ln}{x y:AV} [hJ:Hold σ pr ix (RC ls br x y)] {i c:Int} (hs:Small ls) (hi:0≤i∧i < ls.length) (hc:-1000000000≤c∧c≤1000000000) (hK:K (.ret (.tup [SI none (bz ls i c).1,I (bz ls i c).2])) σ):ACallF κ Tryz.prog 60 [JP pr,I i,I c] σ K:=by
  have ha:(ls.getD i.toNat (0,[])).2.length≤2000∧0≤(ls.getD i.toNat (0,[])).1∧(ls.getD i.toNat (0,[])).1≤2000:=hs.at_ (by omega)
  have hcl:(jO ls i c).length≤2000:=by unfold jO;rw [List.length_drop];dsimp only [aF];omega
  have hcu:jO ls i c=(ls.getD i.toNat (0,[])).2.drop (min (max c (ls.getD i.toNat (0,[])).1 - (ls.getD i.toNat (0,[])).1) ((ls.getD i.toNat (0,[])).2.length:Int)).toNat:=rfl
  refine ACallF.dropL (aN Tryz.func60 rfl ?_);simp only [Tryz.ntmps60]
  repeat' (first|(with_reducible first|refine al (aC ?_)|refine bO ?_|refine aG ?_)|simp only [WL,ay,WM,reduceCtorEq,bg,Nat.reduceAdd,Nat.reduceSub,Nat.reduceEqDiff,true_and,T3,cb,gg,jm,fR db,fR c9,fR gL]|simp (disch:=first|omega|(simp only [aU];omega)) only [an,dO]|(with_reducible first|refine ax (hb:=?_)|refine au (hK:=?_)|refine az (hK:=?_)|refine aV (hK:=fun b=>?_)|refine mS ?_|refine Fk ?_))
  have hg:∀ q:Nat,q < (jO ls i c).length→(jO ls i c).getD q 0=(ls.getD i.toNat (0,[])).2.getD (max c (ls.getD i.toNat (0,[])).1 - (ls.getD i.toNat (0,[])).1+q).toNat 0:=fun q hq=>by
    rw [hcu,lx];congr 1
    rw [hcu,List.length_drop] at hq;omega
  have hR:=fun q hb=>Ll (ls:=ls) (i:=i) (c:=c) (q:=q) hb
  dsimp only [aF] at hR;rw [← hcu];generalize jO ls i c=C at *;have hcC:C.length=(ls.getD i.toNat (0,[])).2.length - (min (max c (ls.getD i.toNat (0,[])).1 - (ls.getD i.toNat (0,[])).1) ((ls.getD i.toNat (0,[])).2.length:Int)).toNat:=by rw [hcu,List.length_drop]
  have hT:∀ q,pg C=q→(bU (C.drop q) 35=true∧(0 < q∨max c (ls.getD i.toNat (0,[])).1+(q:Nat)=0∨qK ls i (max c (ls.getD i.toNat (0,[])).1+(q:Nat) - 1)=true))→K (.ret (.tup [SI none [],I (max c (ls.getD i.toNat (0,[])).1+(q:Nat))])) σ:=fun q h1 h2=>by rw [hR q h1,if_pos h2] at hK;exact hK
  have hF:∀ q,pg C=q→¬(bU (C.drop q) 35=true∧(0 < q∨max c (ls.getD i.toNat (0,[])).1+(q:Nat)=0∨qK ls i (max c (ls.getD i.toNat (0,[])).1+(q:Nat) - 1)=true))→K (.ret (.tup [SI none (C.drop q),I (max c (ls.getD i.toNat (0,[])).1+(q:Nat))])) σ:=fun q h1 h2=>by rw [hR q h1,if_neg h2] at hK;exact hK
  clear hR hK;refine dq (fun q:Nat=>⟨(JP pr::I i::I (max c (ls.getD i.toNat (0,[])).1+(q:Nat))::.any::.any::.any::nilS::I 0::JP b::SI none (C.drop q)::I (max c (ls.getD i.toNat (0,[])).1)::.any::.any::.any::.any::.any::.any::.any::.any::.any::.any::.any::.any::.any::.any::.any::.any::.any::.any::.any::.any::.any::.any::.any::.any::.any::.any::.any::.any::.any::.any::.any::.any::.any::.any::.any::.any::.any::.any::.any::.any::.any::.any::.any::.any::.any::.any::.any::.any::.any::.any::.any::.any::.any::.any::.any::.any::.any::.any::.any::.any::.any::.any::.any::.any::[]),.obj b [I (ls.getD i.toNat (0,[])).1,SI none (ls.getD i.toNat (0,[])).2]::σ,true,[]⟩) (fun q=>q≤C.length∧∀ m,m < q→blankI (C.getD m 0)=true) (fun q=>C.length - q) 0 (aq bH id) ⟨Nat.zero_le _,fun m hm=>absurd hm (Nat.not_lt_zero _)⟩ ?_;rintro q ⟨hq,hb⟩;have hd:(C.drop q).getD 0 0=C.getD q 0:=by rw [lx,Nat.add_zero]
  have hdl:(C.drop q).length=C.length - q:=List.length_drop
  repeat' (first|(with_reducible first|refine aC ?_|refine al (al ?_)|refine aG ?_|refine aB ?_|refine aw ?_|refine aO ?_)|simp only [WL,ay,WM,Int.reduceToNat,reduceCtorEq,bg,Nat.reduceAdd,Bool.not_true,Bool.not_false,true_and,reduceIte,Bool.false_eq_true,T3,cb,fM,Xe,Tryz.results60]|simp (disch:=first|omega|(simp only [aU];omega)) only [an,bL,bL]|(with_reducible first|refine ax (hb:=?_)|refine cD (Rg hs hi (by dsimp only [aF];omega) ?_)|refine cD (Blank ?_))|((with_reducible first|refine ai (fun h=>?_) (fun h=>?_)|refine ab (fun h=>?_) (fun h=>?_))<;>(try simp only [h])<;>(try simp only [bf,ba] at h))|omega)
  all_goals first
    | (refine ⟨q+1,aq (by simp only [List.drop_drop];exact bH) id,⟨by omega,fun m hm=>?_⟩,by omega⟩
       by_cases e:m=q
       · subst e;rw [← hd];assumption
       · exact hb m (by omega))
    | exact ak (ah ae) (iA (fF (fg (by decide)) le_rfl)) (hT q (oK _ q hb hq (.inr (by rw [← hd];assumption))) ⟨km (by omega) (by assumption),by first|(exact .inl (by omega))|(exact .inr (.inl (by omega)))|(exact .inr (.inr (by assumption)))⟩)
    | exact ak (ah ae) (aj rfl) (hF q (oK _ q hb hq (.inl (by omega))) (fun h=>absurd h.1 (by rw [yE (by omega)];exact Bool.false_ne_true)))
    | exact ak (ah ae) (aj rfl) (hF q (oK _ q hb hq (.inr (by rw [← hd];assumption))) (fun h=>absurd h.1 (by rw [kv (by assumption)];exact Bool.false_ne_true)))
    | exact ak (ah ae) (aj rfl) (hF q (oK _ q hb hq (.inr (by rw [← hd];assumption))) (fun h=>by rcases h.2 with h|h|h;omega;omega;exact Bool.false_ne_true (Eq.trans (by symm;assumption) h)))
theorem PI {pr br ix:Nat}{ls:List Ln}{x y:AV} [hJ:Hold σ pr ix (RC ls br x y)] {i:Int} (hs:Small ls) (hi:0≤i∧i≤ls.length)
  (h1:∀ k ok,fX ls i=.ok (k,ok)→K (.ret (.tup [I k,B ok])) σ) (h2:∀ e,fX ls i=.error e→K (.pan (bI e)) σ):ACallF κ Tryz.prog 51 [JP pr,I i] σ K:=by
 have hl:=hs.1
 refine ACallF.dropL (aN Tryz.func51 rfl ?_);simp only [Tryz.ntmps51]
 repeat' (first|(with_reducible first|refine al (aC ?_)|refine bO ?_|refine aG ?_)|simp only [WL,WM,Nat.reduceAdd,Nat.reduceSub])
 refine dq (fun q:Nat=>⟨(JP pr::I (i+(q:Nat))::.any::.any::I 0::B false::.any::.any::.any::.any::.any::.any::.any::.any::.any::.any::.any::.any::.any::.any::.any::.any::.any::.any::.any::.any::.any::.any::.any::.any::.any::.any::.any::.any::.any::.any::.any::.any::.any::.any::.any::.any::.any::.any::.any::.any::.any::.any::.any::.any::.any::.any::.any::.any::.any::.any::.any::[]),σ,true,[]⟩) (fun q=>i+(q:Nat)≤ls.length∧dy ls ls.length i=dy ls (ls.length - q) (i+(q:Nat))) (fun q=>ls.length - q) 0 (aq bH id) ⟨by omega,by simp⟩ ?_;rintro q ⟨hq,hn⟩;have hx:=fun h:(i+(q:Nat)).toNat < ls.length=>hs.at_ h
 have hstop:¬(i+(q:Nat) < ls.length∧dW (aF ls (i+(q:Nat))).2=true)→dy ls ls.length i=i+(q:Nat):=fun h=>by
  rw [hn];cases ls.length - q with
  | zero=>rfl
  | succ f=>rw [dy,if_neg h]
 unfold fX at h1 h2;rcases Int.lt_or_le (i+(q:Nat)) ls.length with hlt|hge
 ·have hx:=hx (by omega)
  cases hb:dW (ls.getD (i+(q:Nat)).toNat (0,[])).2
  ·have hst:=hstop (by rintro ⟨-,h⟩;dsimp only [aF] at h;rw [hb] at h;cases h)
   rw [hst] at h1 h2;have hpos:0 < (ls.getD (i+(q:Nat)).toNat (0,[])).2.length:=by
    rcases Nat.eq_zero_or_pos (ls.getD (i+(q:Nat)).toNat (0,[])).2.length with h|h
    ·rw [List.eq_nil_of_length_eq_zero h] at hb;cases hb
    ·exact h
   unfold bZ at h1 h2;rw [decide_eq_false (by omega)] at h1 h2
   repeat' (first|(with_reducible first|refine al (al ?_)|refine aG ?_|refine aB ?_|refine aw ?_|refine aO ?_)|simp only [WL,ay,WM,Int.reduceToNat,reduceCtorEq,bg,Nat.reduceAdd,Nat.reduceLeDiff,Nat.reduceEqDiff,Bool.not_true,Bool.not_false,true_and,reduceIte,Bool.false_eq_true,T3,cb,gg,jm,fC c9,fR gL,pj,fY,tT,Tryz.results51,hb]|simp (disch:=first|omega|(simp only [aU];omega)) only [bL,dO,bL]|(with_reducible first|refine ax (hb:=?_)|refine au (hK:=?_)|refine cD (uJ ?_ ?_)|refine cD (cZ ?_ ?_)|refine cD (qg ?_))|((with_reducible first|refine ai (fun h=>?_) (fun h=>?_)|refine ab (fun h=>?_) (fun h=>?_))<;>(try simp only [h])<;>(try simp only [bf,ba] at h))|omega)
   all_goals first
    | exact ak ae (aj rfl) (h1 _ _ (by rw [if_pos (by simpa using by assumption)]))
    | exact aS ae rfl (h2 _ (by rw [if_neg (by simpa using by assumption),if_pos (by assumption)]))
    | exact ak ae (aj rfl) (h1 _ _ (by rw [if_neg (by simpa using by assumption),if_neg (by assumption)]))
  ·skip
   repeat' (first|(with_reducible first|refine aC ?_|refine al (al ?_)|refine aG ?_|refine aB ?_|refine aw ?_|refine aO ?_)|simp only [WL,ay,WM,Int.reduceToNat,reduceCtorEq,bg,Nat.reduceAdd,Nat.reduceLeDiff,Nat.reduceEqDiff,Bool.not_true,Bool.not_false,true_and,reduceIte,Bool.false_eq_true,T3,cb,gg,jm,fC c9,fR gL,pj,fY,tT,Tryz.results51,hb]|simp (disch:=first|omega|(simp only [aU];omega)) only [an,bL,dO,bL]|(with_reducible first|refine ax (hb:=?_)|refine au (hK:=?_)|refine cD (uJ ?_ ?_)|refine cD (cZ ?_ ?_)|refine cD (qg ?_))|((with_reducible first|refine ai (fun h=>?_) (fun h=>?_)|refine ab (fun h=>?_) (fun h=>?_))<;>(try simp only [h])<;>(try simp only [bf,ba] at h))|omega)
   refine ⟨q+1,aq bH id,⟨by omega, ?_⟩,by omega⟩;rw [hn,show ls.length - q=(ls.length - (q+1))+1 by omega,dy,if_pos ⟨hlt,hb⟩,show i+((q+1:Nat):Int)=i+(q:Nat)+1 by omega]
 ·have hst:=hstop (by omega)
  rw [hst] at h1 h2;unfold bZ at h1 h2;rw [decide_eq_true hge] at h1 h2
  repeat' (first|(with_reducible first|refine aC ?_|refine al (al ?_)|refine aG ?_|refine aB ?_|refine aw ?_|refine aO ?_)|simp only [WL,ay,WM,Int.reduceToNat,reduceCtorEq,bg,Nat.reduceAdd,Nat.reduceLeDiff,Nat.reduceEqDiff,Bool.not_true,Bool.not_false,true_and,reduceIte,Bool.false_eq_true,T3,cb,gg,jm,fC c9,fR gL,pj,fY,tT,Tryz.results51]|simp (disch:=first|omega|(simp only [aU];omega)) only [an,bL,dO,bL]|(with_reducible first|refine ax (hb:=?_)|refine au (hK:=?_)|refine cD (uJ ?_ ?_)|refine cD (cZ ?_ ?_)|refine cD (qg ?_))|((with_reducible first|refine ai (fun h=>?_) (fun h=>?_)|refine ab (fun h=>?_) (fun h=>?_))<;>(try simp only [h])<;>(try simp only [bf,ba] at h))|omega)
  exact ak ae (aj rfl) (h1 _ _ (by simp))
end Go.Proofs.YthkabaiamcjdbaaGreat
