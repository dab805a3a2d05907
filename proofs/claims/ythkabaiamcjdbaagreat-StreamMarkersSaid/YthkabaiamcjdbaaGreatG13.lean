/-
  Texts Hu, one behind the other.
-/
import Derived.Test.YthkabaiamcjdbaaGreatG11
set_option linter.unusedVariables false
set_option linter.unusedSimpArgs false
set_option maxHeartbeats 16000000
/-
 Walks: chapter 13,a node: quoted scalars.
-/

namespace Go.Proofs.YthkabaiamcjdbaaGreat
open Go.Abs
variable {κ:Ctx} {σ:List Res} {K:Ret→List Res→Prop} {o o':Option (Option (Nat × Nat))}
theorem vI {bj:Nat}{ls:List Ln}{n d:Int}{bk:Bool}{x y:AV}{op:List Int}{l:List EvV}{τ σ0:List Res}{p q:Int × Int}{v:TrV}{X:List Int} (hs:Small ls) (hJ:JX x y op l τ σ0) (hll:l.length≤1000000000) (hlo2:op.length≤1000000000) (hp:PlW p) (ht:bG ls n p=.ok (v,q,true)) (c2:Pl ls q) (c3:0 < X.length) (hX:aF ls q=X) (e1:(X.getD 0 0 == 42)=false) (e2:(X.getD 0 0 == 34)=true)
  (h1:∀ t s e,cH ls n (X.getD 0 0) q=.ok (t,s,e)→∀ y' τ',JX x y' op (l++[⟨7,cu t,v.t,v.a,s,false⟩]) τ' σ0→K (.ret (tL (e,true))) (.obj bj (JC ls n bk d x y')::τ'))
  (h2:∀ e,cH ls n (X.getD 0 0) q=.error e→K (.pan (bI e)) (.obj bj (JC ls n bk d x y)::τ)):ACallF κ Tryz.prog 119 [JP bj,cS p] (.obj bj (JC ls n bk d x y)::τ) K:=by
 have p64:=hp.in64
 have q64:=c2.in64 hs
 have hr:=bZ (p:=q) hs
 rw [hX] at hr
 refine ACallF.dropL (aa Tryz.func119 rfl ?_)
 simp only [Tryz.ntmps119]
 repeat' (first|simp only [WL,aD,WM,Int.reduceToNat,reduceCtorEq,ba,Nat.reduceAdd,Nat.reduceSub,Nat.reduceLT,Nat.reduceEqDiff,Bool.not_true,Bool.not_false,true_and,reduceIte,Bool.false_eq_true,T3,bX,ia,fR eI,jr,jG,e8,dr,vT,oP,iX,gm,mE,hO,Tryz.results119,e1,e2,hX]|simp (disch:=first|omega|(simp only [aT];omega)) only [aV,aV]|(with_reducible first|refine aC (hb:=?_)|refine aA (hK:=?_)|refine az (hK:=?_)|refine aP (hK:=fun b=>?_)|refine aS (hK:=fun b=>?_)|refine aG (hK:=?_)|refine cD (dw (p:=p) ht hs hp ?_)|refine cD (eU (p:=q) hs q64 ?_)|refine cD (A6 (q:=q) (c:=X.getD 0 0) (v:=v) hJ hll hs c2 (fun t s e hq y' τ' hJ'=>?_) (fun e hq=>?_))|refine cD (oW ?_)|refine cD (lz (fun h=>?_) (fun h=>?_))|refine cD (iw ?_ ?_)|refine cD (dQ (by assumption) ?_ ?_)|refine cD (nc (by assumption) ?_ ?_ ?_ ?_ ?_ (fun s e hq y' τ' hJ'=>?_) (fun e hq=>?_))|refine cD (ic (by assumption) ?_ (fun y' τ' hJ'=>?_)))|((with_reducible refine aU ?_);apply db (hf:=Tryz.results119);exact aZ)|((with_reducible refine eh (id:=9) [0,1,2,3,4,5] (some 6) [([7],some 8),([],none)] mixed ?_ ?_);kernel_rfl)|((with_reducible apply aQ);intro σq hq;have hqi:=cm hq;clear hq)|(with_reducible exact bU)|((with_reducible apply bA);rfl;rfl)|(with_reducible refine oh (fun tq=>?_))|(with_reducible refine bR (l8 (by first|(simp;done)|fail) (by first|(simp;done)|fail)) ?_)|((with_reducible refine aH (id:=11) 8 mixed ?_ ?_);kernel_rfl)|((with_reducible first|refine ai (fun h=>?_) (fun h=>?_)|refine ab (fun h=>?_) (fun h=>?_))<;>(try simp only [h])<;>(try simp only [bg,bm] at h))|omega)
 all_goals first
  | exact ak bE (aj rfl) (h1 _ _ _ hq _ _ (by assumption))
  | exact aN bE rfl (h2 _ hq)
theorem wt {bj:Nat}{ls:List Ln}{n d:Int}{bk:Bool}{x y:AV}{op:List Int}{l:List EvV}{τ σ0:List Res}{p q:Int × Int}{v:TrV}{X:List Int} (hs:Small ls) (hJ:JX x y op l τ σ0) (hll:l.length≤1000000000) (hlo2:op.length≤1000000000) (hp:PlW p) (ht:bG ls n p=.ok (v,q,true)) (c2:Pl ls q) (c3:0 < X.length) (hX:aF ls q=X) (e1:(X.getD 0 0 == 42)=false) (e2:(X.getD 0 0 == 34)=false) (e3:(X.getD 0 0 == 39)=true)
  (h1:∀ t s e,cH ls n (X.getD 0 0) q=.ok (t,s,e)→∀ y' τ',JX x y' op (l++[⟨7,cu t,v.t,v.a,s,false⟩]) τ' σ0→K (.ret (tL (e,true))) (.obj bj (JC ls n bk d x y')::τ'))
  (h2:∀ e,cH ls n (X.getD 0 0) q=.error e→K (.pan (bI e)) (.obj bj (JC ls n bk d x y)::τ)):ACallF κ Tryz.prog 119 [JP bj,cS p] (.obj bj (JC ls n bk d x y)::τ) K:=by
 have p64:=hp.in64
 have q64:=c2.in64 hs
 have hr:=bZ (p:=q) hs
 rw [hX] at hr
 refine ACallF.dropL (aa Tryz.func119 rfl ?_)
 simp only [Tryz.ntmps119]
 repeat' (first|simp only [WL,aD,WM,Int.reduceToNat,reduceCtorEq,ba,Nat.reduceAdd,Nat.reduceSub,Nat.reduceLT,Nat.reduceEqDiff,Bool.not_true,Bool.not_false,true_and,reduceIte,Bool.false_eq_true,T3,bX,ia,fR eI,jr,jG,e8,dr,vT,oP,iX,gm,mE,hO,Tryz.results119,e1,e2,e3,hX]|simp (disch:=first|omega|(simp only [aT];omega)) only [aV,aV]|(with_reducible first|refine aC (hb:=?_)|refine aA (hK:=?_)|refine az (hK:=?_)|refine aP (hK:=fun b=>?_)|refine aS (hK:=fun b=>?_)|refine aG (hK:=?_)|refine cD (dw (p:=p) ht hs hp ?_)|refine cD (eU (p:=q) hs q64 ?_)|refine cD (A6 (q:=q) (c:=X.getD 0 0) (v:=v) hJ hll hs c2 (fun t s e hq y' τ' hJ'=>?_) (fun e hq=>?_))|refine cD (oW ?_)|refine cD (lz (fun h=>?_) (fun h=>?_))|refine cD (iw ?_ ?_)|refine cD (dQ (by assumption) ?_ ?_)|refine cD (nc (by assumption) ?_ ?_ ?_ ?_ ?_ (fun s e hq y' τ' hJ'=>?_) (fun e hq=>?_))|refine cD (ic (by assumption) ?_ (fun y' τ' hJ'=>?_)))|((with_reducible refine aU ?_);apply db (hf:=Tryz.results119);exact aZ)|((with_reducible refine eh (id:=9) [0,1,2,3,4,5] (some 6) [([7],some 8),([],none)] mixed ?_ ?_);kernel_rfl)|((with_reducible apply aQ);intro σq hq;have hqi:=cm hq;clear hq)|(with_reducible exact bU)|((with_reducible apply bA);rfl;rfl)|(with_reducible refine oh (fun tq=>?_))|(with_reducible refine bR (l8 (by first|(simp;done)|fail) (by first|(simp;done)|fail)) ?_)|((with_reducible refine aH (id:=11) 8 mixed ?_ ?_);kernel_rfl)|((with_reducible first|refine ai (fun h=>?_) (fun h=>?_)|refine ab (fun h=>?_) (fun h=>?_))<;>(try simp only [h])<;>(try simp only [bg,bm] at h))|omega)
 all_goals first
  | exact ak bE (aj rfl) (h1 _ _ _ hq _ _ (by assumption))
  | exact aN bE rfl (h2 _ hq)
end Go.Proofs.YthkabaiamcjdbaaGreat
