/-
  Texts Kj, one behind the other.
-/
import Derived.Test.YthkabaiamcjdbaaGreatG19
set_option linter.unusedVariables false
set_option linter.unusedSimpArgs false
set_option maxHeartbeats 16000000
/-
 Walks: chapter 14,what stands on lines.
-/


namespace Go.Proofs.YthkabaiamcjdbaaGreat
open Go.Abs
variable {κ:Ctx} {σ:List Res} {K:Ret→List Res→Prop} {o o':Option (Option (Nat × Nat))}
theorem restP_eq {ls:List Ln}{i c:Int}{q:Nat} (hb:blN (cutP ls i c)=q):restP ls i c=if headF ((cutP ls i c).drop q) 35=true∧(0 < q∨max c (lineP ls i).1+(q:Nat)=0∨blankP ls i (max c (lineP ls i).1+(q:Nat) - 1)=true) then ([],max c (lineP ls i).1+(q:Nat)) else ((cutP ls i c).drop q,max c (lineP ls i).1+(q:Nat)):=by
 subst hb;rfl
theorem zRest {pr br ix:Nat}{ls:List Ln}{x y:AV} [hJ:Hold σ pr ix (RC ls br x y)] {i c:Int} (hs:Small ls) (hi:0≤i∧i < ls.length) (hc:-1000000000≤c∧c≤1000000000) (hK:K (.ret (.tup [SI none (restP ls i c).1,I (restP ls i c).2])) σ):ACallF κ Tryz.prog 60 [JP pr,I i,I c] σ K:=by
  have ha:(ls.getD i.toNat (0,[])).2.length≤2000∧0≤(ls.getD i.toNat (0,[])).1∧(ls.getD i.toNat (0,[])).1≤2000:=hs.at_ (by omega)
  have hcl:(cutP ls i c).length≤2000:=by unfold cutP;rw [List.length_drop];dsimp only [lineP];omega
  have hcu:cutP ls i c=(ls.getD i.toNat (0,[])).2.drop (min (max c (ls.getD i.toNat (0,[])).1 - (ls.getD i.toNat (0,[])).1) ((ls.getD i.toNat (0,[])).2.length:Int)).toNat:=rfl
  refine ACallF.dropL (ACallF_introA Tryz.func60 rfl ?_)
  simp only [Tryz.ntmps60]
  repeat' (first|(with_reducible first|refine AW_seqA (AW_block ?_)|refine cut_loop ?_|refine AW_seq ?_)|simp only [WL,intF,WM,reduceCtorEq,WLb,Nat.reduceAdd,Nat.reduceSub,Nat.reduceEqDiff,true_and,T3,T22,T31,T51,fR fl51_0,fR fl51_1,fR fl58_0]|simp (disch:=first|omega|(simp only [LN_];omega)) only [wrap_id,getL]|(with_reducible first|refine andA (hb:=?_)|refine y_load (hK:=?_)|refine y_storeA (hK:=?_)|refine y_new (hK:=fun b=>?_)|refine y_max ?_|refine y_min ?_))
  have hg:∀ q:Nat,q < (cutP ls i c).length→(cutP ls i c).getD q 0=(ls.getD i.toNat (0,[])).2.getD (max c (ls.getD i.toNat (0,[])).1 - (ls.getD i.toNat (0,[])).1+q).toNat 0:=fun q hq=>by
    rw [hcu,getD_drop_]
    congr 1
    rw [hcu,List.length_drop] at hq
    omega
  have hR:=fun q hb=>restP_eq (ls:=ls) (i:=i) (c:=c) (q:=q) hb
  dsimp only [lineP] at hR
  rw [← hcu]
  generalize cutP ls i c=C at *
  have hcC:C.length=(ls.getD i.toNat (0,[])).2.length - (min (max c (ls.getD i.toNat (0,[])).1 - (ls.getD i.toNat (0,[])).1) ((ls.getD i.toNat (0,[])).2.length:Int)).toNat:=by rw [hcu,List.length_drop]
  have hT:∀ q,blN C=q→(headF (C.drop q) 35=true∧(0 < q∨max c (ls.getD i.toNat (0,[])).1+(q:Nat)=0∨blankP ls i (max c (ls.getD i.toNat (0,[])).1+(q:Nat) - 1)=true))→K (.ret (.tup [SI none [],I (max c (ls.getD i.toNat (0,[])).1+(q:Nat))])) σ:=fun q h1 h2=>by rw [hR q h1,if_pos h2] at hK;exact hK
  have hF:∀ q,blN C=q→¬(headF (C.drop q) 35=true∧(0 < q∨max c (ls.getD i.toNat (0,[])).1+(q:Nat)=0∨blankP ls i (max c (ls.getD i.toNat (0,[])).1+(q:Nat) - 1)=true))→K (.ret (.tup [SI none (C.drop q),I (max c (ls.getD i.toNat (0,[])).1+(q:Nat))])) σ:=fun q h1 h2=>by rw [hR q h1,if_neg h2] at hK;exact hK
  clear hR hK
  refine loopA (fun q:Nat=>⟨(JP pr::I i::I (max c (ls.getD i.toNat (0,[])).1+(q:Nat))::.any::.any::.any::nilS::I 0::JP b::SI none (C.drop q)::I (max c (ls.getD i.toNat (0,[])).1)::.any::.any::.any::.any::.any::.any::.any::.any::.any::.any::.any::.any::.any::.any::.any::.any::.any::.any::.any::.any::.any::.any::.any::.any::.any::.any::.any::.any::.any::.any::.any::.any::.any::.any::.any::.any::.any::.any::.any::.any::.any::.any::.any::.any::.any::.any::.any::.any::.any::.any::.any::.any::.any::.any::.any::.any::.any::.any::.any::.any::.any::.any::.any::.any::[]),.obj b [I (ls.getD i.toNat (0,[])).1,SI none (ls.getD i.toNat (0,[])).2]::σ,true,[]⟩) (fun q=>q≤C.length∧∀ m,m < q→blankI (C.getD m 0)=true) (fun q=>C.length - q) 0 (St_le_same leA id) ⟨Nat.zero_le _,fun m hm=>absurd hm (Nat.not_lt_zero _)⟩ ?_
  rintro q ⟨hq,hb⟩
  have hd:(C.drop q).getD 0 0=C.getD q 0:=by rw [getD_drop_,Nat.add_zero]
  have hdl:(C.drop q).length=C.length - q:=List.length_drop
  repeat' (first|(with_reducible first|refine AW_block ?_|refine AW_seqA (AW_seqA ?_)|refine AW_seq ?_|refine AW_runReg ?_|refine AW_runCond ?_|refine AW_runRet ?_)|simp only [WL,intF,WM,Int.reduceToNat,reduceCtorEq,WLb,Nat.reduceAdd,Bool.not_true,Bool.not_false,true_and,reduceIte,Bool.false_eq_true,T3,T22,cok72,cok76,Tryz.results60]|simp (disch:=first|omega|(simp only [LN_];omega)) only [wrap_id,getI,getI]|(with_reducible first|refine andA (hb:=?_)|refine cD (zBlank hs hi (by dsimp only [lineP];omega) ?_)|refine cD (Blank ?_))|((with_reducible first|refine grd_cases (fun h=>?_) (fun h=>?_)|refine condC_split (fun h=>?_) (fun h=>?_))<;>(try simp only [h])<;>(try simp only [NR_,NRb] at h))|omega)
  all_goals first
    | (refine ⟨q+1,St_le_same (by simp only [List.drop_drop];exact leA) id,⟨by omega,fun m hm=>?_⟩,by omega⟩
       by_cases e:m=q
       · subst e;rw [← hd];assumption
       · exact hb m (by omega))
    | exact leafL (sub_cons sub_rfl) (leT_tup (leL_two (le_nilro (by decide)) le_rfl)) (hT q (blN_is _ q hb hq (.inr (by rw [← hd];assumption))) ⟨headF_t (by omega) (by assumption),by first|(exact .inl (by omega))|(exact .inr (.inl (by omega)))|(exact .inr (.inr (by assumption)))⟩)
    | exact leafL (sub_cons sub_rfl) (leT_eq rfl) (hF q (blN_is _ q hb hq (.inl (by omega))) (fun h=>absurd h.1 (by rw [headF_0 (by omega)];exact Bool.false_ne_true)))
    | exact leafL (sub_cons sub_rfl) (leT_eq rfl) (hF q (blN_is _ q hb hq (.inr (by rw [← hd];assumption))) (fun h=>absurd h.1 (by rw [headF_f (by assumption)];exact Bool.false_ne_true)))
    | exact leafL (sub_cons sub_rfl) (leT_eq rfl) (hF q (blN_is _ q hb hq (.inr (by rw [← hd];assumption))) (fun h=>by rcases h.2 with h|h|h;omega;omega;exact Bool.false_ne_true (Eq.trans (by symm;assumption) h)))
theorem zNext {pr br ix:Nat}{ls:List Ln}{x y:AV} [hJ:Hold σ pr ix (RC ls br x y)] {i:Int} (hs:Small ls) (hi:0≤i∧i≤ls.length)
  (h1:∀ k ok,nextP ls i=.ok (k,ok)→K (.ret (.tup [I k,B ok])) σ) (h2:∀ e,nextP ls i=.error e→K (.pan (wrongP e)) σ):ACallF κ Tryz.prog 51 [JP pr,I i] σ K:=by
 have hl:=hs.1
 refine ACallF.dropL (ACallF_introA Tryz.func51 rfl ?_)
 simp only [Tryz.ntmps51]
 repeat' (first|(with_reducible first|refine AW_seqA (AW_block ?_)|refine cut_loop ?_|refine AW_seq ?_)|simp only [WL,WM,Nat.reduceAdd,Nat.reduceSub])
 refine loopA (fun q:Nat=>⟨(JP pr::I (i+(q:Nat))::.any::.any::I 0::B false::.any::.any::.any::.any::.any::.any::.any::.any::.any::.any::.any::.any::.any::.any::.any::.any::.any::.any::.any::.any::.any::.any::.any::.any::.any::.any::.any::.any::.any::.any::.any::.any::.any::.any::.any::.any::.any::.any::.any::.any::.any::.any::.any::.any::.any::.any::.any::.any::.any::.any::.any::[]),σ,true,[]⟩) (fun q=>i+(q:Nat)≤ls.length∧nextB ls ls.length i=nextB ls (ls.length - q) (i+(q:Nat))) (fun q=>ls.length - q) 0 (St_le_same leA id) ⟨by omega,by simp⟩ ?_
 rintro q ⟨hq,hn⟩
 have hx:=fun h:(i+(q:Nat)).toNat < ls.length=>hs.at_ h
 have hstop:¬(i+(q:Nat) < ls.length∧bareI (lineP ls (i+(q:Nat))).2=true)→nextB ls ls.length i=i+(q:Nat):=fun h=>by
  rw [hn]
  cases ls.length - q with
  | zero=>rfl
  | succ f=>rw [nextB,if_neg h]
 unfold nextP at h1 h2
 rcases Int.lt_or_le (i+(q:Nat)) ls.length with hlt|hge
 ·have hx:=hx (by omega)
  cases hb:bareI (ls.getD (i+(q:Nat)).toNat (0,[])).2
  ·have hst:=hstop (by rintro ⟨-,h⟩;dsimp only [lineP] at h;rw [hb] at h;cases h)
   rw [hst] at h1 h2
   have hpos:0 < (ls.getD (i+(q:Nat)).toNat (0,[])).2.length:=by
    rcases Nat.eq_zero_or_pos (ls.getD (i+(q:Nat)).toNat (0,[])).2.length with h|h
    ·rw [List.eq_nil_of_length_eq_zero h] at hb;cases hb
    ·exact h
   unfold overF at h1 h2
   rw [decide_eq_false (by omega)] at h1 h2
   repeat' (first|(with_reducible first|refine AW_seqA (AW_seqA ?_)|refine AW_seq ?_|refine AW_runReg ?_|refine AW_runCond ?_|refine AW_runRet ?_)|simp only [WL,intF,WM,Int.reduceToNat,reduceCtorEq,WLb,Nat.reduceAdd,Nat.reduceLeDiff,Nat.reduceEqDiff,Bool.not_true,Bool.not_false,true_and,reduceIte,Bool.false_eq_true,T3,T22,T31,T51,fC fl51_1,fR fl58_0,cok52,cok56,cok71,Tryz.results51,hb]|simp (disch:=first|omega|(simp only [LN_];omega)) only [getI,getL,getI]|(with_reducible first|refine andA (hb:=?_)|refine y_load (hK:=?_)|refine cD (lBare ?_ ?_)|refine cD (lMarker ?_ ?_)|refine cD (zFail ?_))|((with_reducible first|refine grd_cases (fun h=>?_) (fun h=>?_)|refine condC_split (fun h=>?_) (fun h=>?_))<;>(try simp only [h])<;>(try simp only [NR_,NRb] at h))|omega)
   all_goals first
    | exact leafL sub_rfl (leT_eq rfl) (h1 _ _ (by rw [if_pos (by simpa using by assumption)]))
    | exact leafP sub_rfl rfl (h2 _ (by rw [if_neg (by simpa using by assumption),if_pos (by assumption)]))
    | exact leafL sub_rfl (leT_eq rfl) (h1 _ _ (by rw [if_neg (by simpa using by assumption),if_neg (by assumption)]))
  ·skip
   repeat' (first|(with_reducible first|refine AW_block ?_|refine AW_seqA (AW_seqA ?_)|refine AW_seq ?_|refine AW_runReg ?_|refine AW_runCond ?_|refine AW_runRet ?_)|simp only [WL,intF,WM,Int.reduceToNat,reduceCtorEq,WLb,Nat.reduceAdd,Nat.reduceLeDiff,Nat.reduceEqDiff,Bool.not_true,Bool.not_false,true_and,reduceIte,Bool.false_eq_true,T3,T22,T31,T51,fC fl51_1,fR fl58_0,cok52,cok56,cok71,Tryz.results51,hb]|simp (disch:=first|omega|(simp only [LN_];omega)) only [wrap_id,getI,getL,getI]|(with_reducible first|refine andA (hb:=?_)|refine y_load (hK:=?_)|refine cD (lBare ?_ ?_)|refine cD (lMarker ?_ ?_)|refine cD (zFail ?_))|((with_reducible first|refine grd_cases (fun h=>?_) (fun h=>?_)|refine condC_split (fun h=>?_) (fun h=>?_))<;>(try simp only [h])<;>(try simp only [NR_,NRb] at h))|omega)
   refine ⟨q+1,St_le_same leA id,⟨by omega, ?_⟩,by omega⟩
   rw [hn,show ls.length - q=(ls.length - (q+1))+1 by omega,nextB,if_pos ⟨hlt,hb⟩,show i+((q+1:Nat):Int)=i+(q:Nat)+1 by omega]
 ·have hst:=hstop (by omega)
  rw [hst] at h1 h2
  unfold overF at h1 h2
  rw [decide_eq_true hge] at h1 h2
  repeat' (first|(with_reducible first|refine AW_block ?_|refine AW_seqA (AW_seqA ?_)|refine AW_seq ?_|refine AW_runReg ?_|refine AW_runCond ?_|refine AW_runRet ?_)|simp only [WL,intF,WM,Int.reduceToNat,reduceCtorEq,WLb,Nat.reduceAdd,Nat.reduceLeDiff,Nat.reduceEqDiff,Bool.not_true,Bool.not_false,true_and,reduceIte,Bool.false_eq_true,T3,T22,T31,T51,fC fl51_1,fR fl58_0,cok52,cok56,cok71,Tryz.results51]|simp (disch:=first|omega|(simp only [LN_];omega)) only [wrap_id,getI,getL,getI]|(with_reducible first|refine andA (hb:=?_)|refine y_load (hK:=?_)|refine cD (lBare ?_ ?_)|refine cD (lMarker ?_ ?_)|refine cD (zFail ?_))|((with_reducible first|refine grd_cases (fun h=>?_) (fun h=>?_)|refine condC_split (fun h=>?_) (fun h=>?_))<;>(try simp only [h])<;>(try simp only [NR_,NRb] at h))|omega)
  exact leafL sub_rfl (leT_eq rfl) (h1 _ _ (by simp))
end Go.Proofs.YthkabaiamcjdbaaGreat
