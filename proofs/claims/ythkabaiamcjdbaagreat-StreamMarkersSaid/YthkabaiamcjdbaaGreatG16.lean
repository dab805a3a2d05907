/-
  Texts Hx, one behind the other.
-/
import Derived.Test.YthkabaiamcjdbaaGreatG11
set_option linter.unusedVariables false
set_option linter.unusedSimpArgs false
set_option maxHeartbeats 16000000
/-
 Walks: chapter 13,a node: none.
-/

namespace Go.Proofs.YthkabaiamcjdbaaGreat
open Go.Abs
variable {κ:Ctx} {σ:List Res} {K:Ret→List Res→Prop} {o o':Option (Option (Nat × Nat))}
theorem An {bj:Nat}{ls:List Ln}{n d:Int}{bk:Bool}{x y:AV}{op:List Int}{l:List EvV}{τ σ0:List Res}{p q:Int × Int}{v:TrV}{X:List Int} (hs:Small ls) (hJ:JX x y op l τ σ0) (hll:l.length≤1000000000) (hlo2:op.length≤1000000000) (hp:PlW p) (ht:bG ls n p=.ok (v,q,true)) (c2:Pl ls q) (c3:0 < X.length) (hX:aF ls q=X) (e1:(X.getD 0 0 == 42)=false) (e2:(X.getD 0 0 == 34)=false) (e3:(X.getD 0 0 == 39)=false) (e4:(X.getD 0 0 == 91)=false) (e5:(X.getD 0 0 == 123)=false) (e6:fb X (!(bk && decide (op.length=0)))=false) (ha:iD v=true) (h1:∀ y' τ',JX x y' op (l++[j8 v]) τ' σ0→K (.ret (tL (v.q,false))) (.obj bj (JC ls n bk d x y')::τ')):ACallF κ Tryz.prog 119 [JP bj,cS p] (.obj bj (JC ls n bk d x y)::τ) K:=by
 have p64:=hp.in64
 have q64:=c2.in64 hs
 have hr:=bZ (p:=q) hs
 rw [hX] at hr
 refine ACallF.dropL (aa Tryz.func119 rfl ?_)
 simp only [Tryz.ntmps119]
 repeat' (first|simp only [WL,aD,WM,Int.reduceToNat,reduceCtorEq,ba,Nat.reduceAdd,Nat.reduceSub,Nat.reduceLT,Nat.reduceEqDiff,Bool.not_true,true_and,reduceIte,Bool.false_eq_true,T3,bX,ia,fR eI,jr,jG,e8,dr,iX,gm,hO,Tryz.results119,e1,e2,e3,e4,e5,e6,ha,hX]|simp (disch:=first|omega|(simp only [aT];omega)) only [aV,aV]|(with_reducible first|refine aC (hb:=?_)|refine aA (hK:=?_)|refine az (hK:=?_)|refine aP (hK:=fun b=>?_)|refine aS (hK:=fun b=>?_)|refine aG (hK:=?_)|refine cD (dw (p:=p) ht hs hp ?_)|refine cD (eU (p:=q) hs q64 ?_)|refine cD (kz ?_)|refine cD (dQ hJ hlo2 ?_)|refine cD (ic (v:=v) hJ hll (fun y' τ' hJ'=>?_))|refine cD (oW ?_)|refine cD (iw ?_ ?_))|((with_reducible refine aU ?_);apply db (hf:=Tryz.results119);exact aZ)|((with_reducible first|refine ai (fun h=>?_) (fun h=>?_)|refine ab (fun h=>?_) (fun h=>?_))<;>(try simp only [h])<;>(try simp only [bg,bm] at h))|omega)
 all_goals exact ak bE (aj rfl) (h1 _ _ (by assumption))
theorem z1 {bj:Nat}{ls:List Ln}{n d:Int}{bk:Bool}{x y:AV}{op:List Int}{l:List EvV}{τ σ0:List Res}{p:Int × Int}{v:TrV} (hs:Small ls) (hJ:JX x y op l τ σ0) (hll:l.length≤1000000000) (hp:PlW p) (ht:bG ls n p=.ok (v,(0,0),false)) (ha:iD v=true) (h1:∀ y' τ',JX x y' op (l++[j8 v]) τ' σ0→K (.ret (tL (v.q,false))) (.obj bj (JC ls n bk d x y')::τ')):ACallF κ Tryz.prog 119 [JP bj,cS p] (.obj bj (JC ls n bk d x y)::τ) K:=by
 have p64:=hp.in64
 have q64:bS ((0,0):Int × Int).1∧bS ((0,0):Int × Int).2:=⟨by decide,by decide⟩
 refine ACallF.dropL (aa Tryz.func119 rfl ?_)
 simp only [Tryz.ntmps119]
 repeat' (first|simp only [WL,aD,WM,reduceCtorEq,ba,Nat.reduceAdd,Nat.reduceSub,Nat.reduceLT,Nat.reduceEqDiff,Bool.not_true,Bool.not_false,true_and,reduceIte,Bool.false_eq_true,bX,ia,fR eI,jr,jG,e8,dr,iX,gm,hO,Tryz.results119,ha]|(with_reducible first|refine aC (hb:=?_)|refine aA (hK:=?_)|refine az (hK:=?_)|refine aP (hK:=fun b=>?_)|refine aS (hK:=fun b=>?_)|refine aG (hK:=?_)|refine cD (dw (p:=p) ht hs hp ?_)|refine cD (eU (p:=(0,0)) hs q64 ?_)|refine cD (kz ?_)|refine cD (ic (v:=v) hJ hll (fun y' τ' hJ'=>?_))|refine cD (oW ?_)|refine cD (dQ (by assumption) ?_ ?_))|((with_reducible refine aU ?_);apply db (hf:=Tryz.results119);exact aZ)|((with_reducible first|refine ai (fun h=>?_) (fun h=>?_)|refine ab (fun h=>?_) (fun h=>?_))<;>(try simp only [h])<;>(try simp only [bg,bm] at h))|omega)
 all_goals exact ak bE (aj rfl) (h1 _ _ (by assumption))
theorem Ax {bj:Nat}{ls:List Ln}{n d:Int}{bk:Bool}{x y:AV}{op:List Int}{l:List EvV}{τ σ0:List Res}{p q:Int × Int}{v:TrV}{X:List Int} (hs:Small ls) (hJ:JX x y op l τ σ0) (hll:l.length≤1000000000) (hlo2:op.length≤1000000000) (hp:PlW p) (ht:bG ls n p=.ok (v,q,true)) (c2:Pl ls q) (c3:0 < X.length) (hX:aF ls q=X) (e1:(X.getD 0 0 == 42)=false) (e2:(X.getD 0 0 == 34)=false) (e3:(X.getD 0 0 == 39)=false) (e4:(X.getD 0 0 == 91)=false) (e5:(X.getD 0 0 == 123)=false) (e6:fb X (!(bk && decide (op.length=0)))=false) (ha:iD v=false) (h2:K (.pan (bI 2)) (.obj bj (JC ls n bk d x y)::τ)):ACallF κ Tryz.prog 119 [JP bj,cS p] (.obj bj (JC ls n bk d x y)::τ) K:=by
 have p64:=hp.in64
 have q64:=c2.in64 hs
 have hr:=bZ (p:=q) hs
 rw [hX] at hr
 refine ACallF.dropL (aa Tryz.func119 rfl ?_)
 simp only [Tryz.ntmps119]
 repeat' (first|simp only [WL,aD,WM,Int.reduceToNat,reduceCtorEq,ba,Nat.reduceAdd,Nat.reduceSub,Nat.reduceLT,Bool.not_true,true_and,reduceIte,Bool.false_eq_true,T3,bX,jr,jG,e8,dr,iX,gm,e1,e2,e3,e4,e5,e6,ha,hX]|simp (disch:=first|omega|(simp only [aT];omega)) only [aV,aV]|(with_reducible first|refine aC (hb:=?_)|refine aA (hK:=?_)|refine az (hK:=?_)|refine aP (hK:=fun b=>?_)|refine aS (hK:=fun b=>?_)|refine cD (dw (p:=p) ht hs hp ?_)|refine cD (eU (p:=q) hs q64 ?_)|refine cD (i9 ?_)|refine cD (dQ hJ hlo2 ?_)|refine cD (oW ?_)|refine cD (iw ?_ ?_))|((with_reducible first|refine ai (fun h=>?_) (fun h=>?_)|refine ab (fun h=>?_) (fun h=>?_))<;>(try simp only [h])<;>(try simp only [bg,bm] at h))|omega)
 all_goals exact aN bE rfl (h2)
theorem zO {bj:Nat}{ls:List Ln}{n d:Int}{bk:Bool}{x y:AV}{op:List Int}{l:List EvV}{τ σ0:List Res}{p:Int × Int}{v:TrV} (hs:Small ls) (hJ:JX x y op l τ σ0) (hll:l.length≤1000000000) (hp:PlW p) (ht:bG ls n p=.ok (v,(0,0),false)) (ha:iD v=false) (h2:K (.pan (bI 2)) (.obj bj (JC ls n bk d x y)::τ)):ACallF κ Tryz.prog 119 [JP bj,cS p] (.obj bj (JC ls n bk d x y)::τ) K:=by
 have p64:=hp.in64
 have q64:bS ((0,0):Int × Int).1∧bS ((0,0):Int × Int).2:=⟨by decide,by decide⟩
 refine ACallF.dropL (aa Tryz.func119 rfl ?_)
 simp only [Tryz.ntmps119]
 repeat' (first|simp only [WL,aD,WM,reduceCtorEq,ba,Nat.reduceAdd,Nat.reduceSub,Nat.reduceLT,Bool.not_true,Bool.not_false,true_and,reduceIte,Bool.false_eq_true,bX,jr,jG,e8,dr,iX,gm,ha]|(with_reducible first|refine aA (hK:=?_)|refine az (hK:=?_)|refine aP (hK:=fun b=>?_)|refine aS (hK:=fun b=>?_)|refine cD (dw (p:=p) ht hs hp ?_)|refine cD (eU (p:=(0,0)) hs q64 ?_)|refine cD (i9 ?_)|refine cD (oW ?_)|refine cD (dQ (by assumption) ?_ ?_))|((with_reducible first|refine ai (fun h=>?_) (fun h=>?_)|refine ab (fun h=>?_) (fun h=>?_))<;>(try simp only [h])<;>(try simp only [bg,bm] at h))|omega)
 all_goals exact aN bE rfl (h2)
end Go.Proofs.YthkabaiamcjdbaaGreat
