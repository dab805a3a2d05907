/-
  Texts Ht, one behind the other.
-/
import Derived.Test.YthkabaiamcjdbaaGreatG11
set_option linter.unusedVariables false
set_option linter.unusedSimpArgs false
set_option maxHeartbeats 16000000
/-
 Walks: chapter 13,a node: aliases.
-/

namespace Go.Proofs.YthkabaiamcjdbaaGreat
open Go.Abs
variable {κ:Ctx} {σ:List Res} {K:Ret→List Res→Prop} {o o':Option (Option (Nat × Nat))}
theorem FM {bj:Nat}{ls:List Ln}{n d e:Int}{bk:Bool}{x y:AV}{τ:List Res}{p:Int × Int} (hs:Small ls) (hp:PlW p) (ht:bG ls n p=.error e) (h2:K (.pan (bI e)) (.obj bj (JC ls n bk d x y)::τ)):ACallF κ Tryz.prog 119 [JP bj,cS p] (.obj bj (JC ls n bk d x y)::τ) K:=by
 have p64:=hp.in64
 refine ACallF.dropL (aa Tryz.func119 rfl ?_)
 simp only [Tryz.ntmps119]
 repeat' (first|simp only [WL,WM,Nat.reduceAdd,Nat.reduceSub,true_and,jr]|(with_reducible first|refine aA (hK:=?_)|refine aP (hK:=fun b=>?_)|refine aS (hK:=fun b=>?_)|refine cD (uq (p:=p) ht hs hp ?_)))
 exact aN bE rfl (h2)
theorem Av {bj:Nat}{ls:List Ln}{n d:Int}{bk:Bool}{x y:AV}{op:List Int}{l:List EvV}{τ σ0:List Res}{p q:Int × Int}{v:TrV}{X:List Int} (hs:Small ls) (hJ:JX x y op l τ σ0) (hll:l.length≤1000000000) (hlo2:op.length≤1000000000) (hp:PlW p) (ht:bG ls n p=.ok (v,q,true)) (c2:Pl ls q) (c3:0 < X.length) (hX:aF ls q=X) (e1:(X.getD 0 0 == 42)=true) (ha:iD v=false)
  (h1:i6 ls q (X.drop 1)=true→∀ y' τ',JX x y' op (l++[⟨8,.empty,.empty,(bK (X.drop 1)).1,0,false⟩]) τ' σ0→K (.ret (tL ((q.1,q.2+((bK (X.drop 1)).2.1+1)),false))) (.obj bj (JC ls n bk d x y')::τ'))
  (h2:i6 ls q (X.drop 1)=false→K (.pan (bI 2)) (.obj bj (JC ls n bk d x y)::τ)):ACallF κ Tryz.prog 119 [JP bj,cS p] (.obj bj (JC ls n bk d x y)::τ) K:=by
 have p64:=hp.in64
 have q64:=c2.in64 hs
 have hr:=bZ (p:=q) hs
 rw [hX] at hr
 refine ACallF.dropL (aa Tryz.func119 rfl ?_)
 simp only [Tryz.ntmps119]
 repeat' (first|simp only [WL,aD,WM,Int.reduceToNat,reduceCtorEq,ba,Nat.reduceAdd,Nat.reduceSub,Nat.reduceLT,Bool.not_true,Bool.not_false,true_and,reduceIte,Bool.false_eq_true,T3,bX,jr,jG,e8,dr,O5,vT,oP,iX,gm,mE,Tryz.results119,ha,e1,hX]|simp (disch:=first|omega|(simp only [aT];omega)) only [aV,aV]|(with_reducible first|refine aC (hb:=?_)|refine aA (hK:=?_)|refine az (hK:=?_)|refine aP (hK:=fun b=>?_)|refine aS (hK:=fun b=>?_)|refine aG (hK:=?_)|refine cD (dw (p:=p) ht hs hp ?_)|refine cD (eU (p:=q) hs q64 ?_)|refine cD (kz ?_)|refine cD (i9 ?_)|refine cD (Nr (p:=q) (t:=X.drop 1) hJ hll hs c2 (by rw [List.length_drop];omega) (fun hal y' τ' hJ'=>?_) (fun hal=>?_))|refine cD (oW ?_)|refine cD (iw ?_ ?_)|refine cD (dQ (by assumption) ?_ ?_)|refine cD (nc (by assumption) ?_ ?_ ?_ ?_ ?_ (fun s e hq y' τ' hJ'=>?_) (fun e hq=>?_)))|((with_reducible refine aU ?_);apply db (hf:=Tryz.results119);exact aZ)|((with_reducible refine gI (id:=7) [0,2,3] (some 1) [([],some 4),([5],some 6),([],none)] (fun _=>True) trivial mixed ?_ ?_);kernel_rfl)|((with_reducible apply aQ);intro σq hq)|(with_reducible exact bU)|((with_reducible apply bA);rfl;rfl)|(with_reducible refine oh (fun tq=>?_))|(with_reducible refine bR trivial ?_)|((with_reducible refine aH (id:=9) 8 mixed ?_ ?_);kernel_rfl)|((with_reducible refine aH (id:=11) 8 mixed ?_ ?_);kernel_rfl)|((with_reducible first|refine ai (fun h=>?_) (fun h=>?_)|refine ab (fun h=>?_) (fun h=>?_))<;>(try simp only [h])<;>(try simp only [bg,bm] at h))|omega)
 all_goals first
  | exact ak bE (aj rfl) (h1 hal _ _ (by assumption))
  | exact aN bE rfl (h2 hal)
theorem tA {bj:Nat}{ls:List Ln}{n d:Int}{bk:Bool}{x y:AV}{op:List Int}{l:List EvV}{τ σ0:List Res}{p q:Int × Int}{v:TrV}{X:List Int} (hs:Small ls) (hJ:JX x y op l τ σ0) (hll:l.length≤1000000000) (hlo2:op.length≤1000000000) (hp:PlW p) (ht:bG ls n p=.ok (v,q,true)) (c2:Pl ls q) (c3:0 < X.length) (hX:aF ls q=X) (e1:(X.getD 0 0 == 42)=true) (ha:iD v=true) (h2:K (.pan (bI 2)) (.obj bj (JC ls n bk d x y)::τ)):ACallF κ Tryz.prog 119 [JP bj,cS p] (.obj bj (JC ls n bk d x y)::τ) K:=by
 have p64:=hp.in64
 have q64:=c2.in64 hs
 have hr:=bZ (p:=q) hs
 rw [hX] at hr
 refine ACallF.dropL (aa Tryz.func119 rfl ?_)
 simp only [Tryz.ntmps119]
 repeat' (first|simp only [WL,aD,WM,Int.reduceToNat,reduceCtorEq,ba,Nat.reduceAdd,Nat.reduceSub,Nat.reduceLT,Nat.reduceEqDiff,Bool.not_true,Bool.not_false,true_and,reduceIte,Bool.false_eq_true,T3,bX,ia,fR eI,jr,jG,e8,dr,vT,oP,iX,gm,mE,hO,Tryz.results119,ha,e1,hX]|simp (disch:=first|omega|(simp only [aT];omega)) only [aV,aV]|(with_reducible first|refine aC (hb:=?_)|refine aA (hK:=?_)|refine az (hK:=?_)|refine aP (hK:=fun b=>?_)|refine aS (hK:=fun b=>?_)|refine aG (hK:=?_)|refine cD (dw (p:=p) ht hs hp ?_)|refine cD (eU (p:=q) hs q64 ?_)|refine cD (kz ?_)|refine cD (i9 ?_)|refine cD (oW ?_)|refine cD (iw ?_ ?_)|refine cD (dQ (by assumption) ?_ ?_)|refine cD (nc (by assumption) ?_ ?_ ?_ ?_ ?_ (fun s e hq y' τ' hJ'=>?_) (fun e hq=>?_))|refine cD (ic (by assumption) ?_ (fun y' τ' hJ'=>?_)))|((with_reducible refine aU ?_);apply db (hf:=Tryz.results119);exact aZ)|((with_reducible refine aH (id:=9) 8 mixed ?_ ?_);kernel_rfl)|((with_reducible refine aH (id:=11) 8 mixed ?_ ?_);kernel_rfl)|((with_reducible first|refine ai (fun h=>?_) (fun h=>?_)|refine ab (fun h=>?_) (fun h=>?_))<;>(try simp only [h])<;>(try simp only [bg,bm] at h))|omega)
 all_goals exact aN bE rfl (h2)
end Go.Proofs.YthkabaiamcjdbaaGreat
