/-
  Texts Ht, one behind the other.
-/
import Derived.Test.YthkabaiamcjdbaaGreatJ11
set_option linter.unusedVariables false
set_option linter.unusedSimpArgs false
set_option maxHeartbeats 16000000
namespace Go.Proofs.YthkabaiamcjdbaaGreat
open Go.Abs
variable {κ:Ctx} {σ:List Res} {K:Ret→List Res→Prop} {o o':Option (Option (Nat × Nat))}
theorem Jd {bj:Nat}{ls:List Ln}{n d e:Int}{bk:Bool}{x y:AV}{τ:List Res}{p:Int × Int} (hs:Small ls) (hp:PlW p) (ht:bS ls n p=.error e) (h2:K (.pan (bN e)) (.obj bj (JC ls n bk d x y)::τ)):ACallF κ Tryz.prog 119 [JP bj,cU p] (.obj bj (JC ls n bk d x y)::τ) K:=by
 have p64:=hp.in64
 refine ACallF.dropL (aa Tryz.func119 rfl ?_);simp only [Tryz.ntmps119]
 repeat' (first|simp only [WL,WM,Nat.reduceAdd,Nat.reduceSub,true_and,kh]|(with_reducible first|refine aA (hK:=?_)|refine aQ (hK:=fun b=>?_)|refine aV (hK:=fun b=>?_)|refine cD (vL (p:=p) ht hs hp ?_)))
 exact aS bC rfl (h2)
theorem C7 {bj:Nat}{ls:List Ln}{n d:Int}{bk:Bool}{x y:AV}{op:List Int}{l:List EvV}{τ σ0:List Res}{p q:Int × Int}{v:TrV}{X:List Int} (hs:Small ls) (hJ:JX x y op l τ σ0) (hll:l.length≤1000000000) (hlo2:op.length≤1000000000) (hp:PlW p) (ht:bS ls n p=.ok (v,q,true)) (c2:Pl ls q) (c3:0 < X.length) (hX:aH ls q=X) (e1:(X.getD 0 0 == 42)=true) (ha:jW v=false)
  (h1:mU ls q (X.drop 1)=true→∀ y' τ',JX x y' op (l++[⟨8,.empty,.empty,(bR (X.drop 1)).1,0,false⟩]) τ' σ0→K (.ret (vh ((q.1,q.2+((bR (X.drop 1)).2.1+1)),false))) (.obj bj (JC ls n bk d x y')::τ'))
  (h2:mU ls q (X.drop 1)=false→K (.pan (bN 2)) (.obj bj (JC ls n bk d x y)::τ)):ACallF κ Tryz.prog 119 [JP bj,cU p] (.obj bj (JC ls n bk d x y)::τ) K:=by
 have p64:=hp.in64
 have q64:=c2.in64 hs
 have hr:=cj (p:=q) hs
 rw [hX] at hr;refine ACallF.dropL (aa Tryz.func119 rfl ?_);simp only [Tryz.ntmps119]
 repeat' (first|simp only [WL,ay,WM,Int.reduceToNat,reduceCtorEq,bg,Nat.reduceAdd,Nat.reduceSub,Nat.reduceLT,Bool.not_true,Bool.not_false,true_and,reduceIte,Bool.false_eq_true,T3,cb,kh,kY,fk,dz,RD,yd,qw,jF,gE,oV,Tryz.results119,ha,e1,hX]|simp (disch:=first|omega|(simp only [aU];omega)) only [bL,bL]|(with_reducible first|refine ax (hb:=?_)|refine aA (hK:=?_)|refine az (hK:=?_)|refine aQ (hK:=fun b=>?_)|refine aV (hK:=fun b=>?_)|refine aI (hK:=?_)|refine cD (dD (p:=p) ht hs hp ?_)|refine cD (fm (p:=q) hs q64 ?_)|refine cD (mI ?_)|refine cD (jQ ?_)|refine cD (TN (p:=q) (t:=X.drop 1) hJ hll hs c2 (by rw [List.length_drop];omega) (fun hal y' τ' hJ'=>?_) (fun hal=>?_))|refine cD (qo ?_)|refine cD (jr ?_ ?_)|refine cD (dV (by assumption) ?_ ?_)|refine cD (oO (by assumption) ?_ ?_ ?_ ?_ ?_ (fun s e hq y' τ' hJ'=>?_) (fun e hq=>?_)))|((with_reducible refine aY ?_);apply di (hf:=Tryz.results119);exact bn)|((with_reducible refine ik (id:=7) [0,2,3] (some 1) [([],some 4),([5],some 6),([],none)] (fun _=>True) trivial mixed ?_ ?_);kernel_rfl)|((with_reducible apply aW);intro σq hq)|(with_reducible exact b9)|((with_reducible apply bD);rfl;rfl)|(with_reducible refine pk (fun tq=>?_))|(with_reducible refine bV trivial ?_)|((with_reducible refine aE (id:=9) 8 mixed ?_ ?_);kernel_rfl)|((with_reducible refine aE (id:=11) 8 mixed ?_ ?_);kernel_rfl)|((with_reducible first|refine ai (fun h=>?_) (fun h=>?_)|refine ab (fun h=>?_) (fun h=>?_))<;>(try simp only [h])<;>(try simp only [bf,ba] at h))|omega)
 all_goals first
  | exact ak bC (aj rfl) (h1 hal _ _ (by assumption))
  | exact aS bC rfl (h2 hal)
theorem vu {bj:Nat}{ls:List Ln}{n d:Int}{bk:Bool}{x y:AV}{op:List Int}{l:List EvV}{τ σ0:List Res}{p q:Int × Int}{v:TrV}{X:List Int} (hs:Small ls) (hJ:JX x y op l τ σ0) (hll:l.length≤1000000000) (hlo2:op.length≤1000000000) (hp:PlW p) (ht:bS ls n p=.ok (v,q,true)) (c2:Pl ls q) (c3:0 < X.length) (hX:aH ls q=X) (e1:(X.getD 0 0 == 42)=true) (ha:jW v=true) (h2:K (.pan (bN 2)) (.obj bj (JC ls n bk d x y)::τ)):ACallF κ Tryz.prog 119 [JP bj,cU p] (.obj bj (JC ls n bk d x y)::τ) K:=by
 have p64:=hp.in64
 have q64:=c2.in64 hs
 have hr:=cj (p:=q) hs
 rw [hX] at hr;refine ACallF.dropL (aa Tryz.func119 rfl ?_);simp only [Tryz.ntmps119]
 repeat' (first|simp only [WL,ay,WM,Int.reduceToNat,reduceCtorEq,bg,Nat.reduceAdd,Nat.reduceSub,Nat.reduceLT,Nat.reduceEqDiff,Bool.not_true,Bool.not_false,true_and,reduceIte,Bool.false_eq_true,T3,cb,ja,fR fc,kh,kY,fk,dz,yd,qw,jF,gE,oV,iV,Tryz.results119,ha,e1,hX]|simp (disch:=first|omega|(simp only [aU];omega)) only [bL,bL]|(with_reducible first|refine ax (hb:=?_)|refine aA (hK:=?_)|refine az (hK:=?_)|refine aQ (hK:=fun b=>?_)|refine aV (hK:=fun b=>?_)|refine aI (hK:=?_)|refine cD (dD (p:=p) ht hs hp ?_)|refine cD (fm (p:=q) hs q64 ?_)|refine cD (mI ?_)|refine cD (jQ ?_)|refine cD (qo ?_)|refine cD (jr ?_ ?_)|refine cD (dV (by assumption) ?_ ?_)|refine cD (oO (by assumption) ?_ ?_ ?_ ?_ ?_ (fun s e hq y' τ' hJ'=>?_) (fun e hq=>?_))|refine cD (i9 (by assumption) ?_ (fun y' τ' hJ'=>?_)))|((with_reducible refine aY ?_);apply di (hf:=Tryz.results119);exact bn)|((with_reducible refine aE (id:=9) 8 mixed ?_ ?_);kernel_rfl)|((with_reducible refine aE (id:=11) 8 mixed ?_ ?_);kernel_rfl)|((with_reducible first|refine ai (fun h=>?_) (fun h=>?_)|refine ab (fun h=>?_) (fun h=>?_))<;>(try simp only [h])<;>(try simp only [bf,ba] at h))|omega)
 all_goals exact aS bC rfl (h2)
end Go.Proofs.YthkabaiamcjdbaaGreat
