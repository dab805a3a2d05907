/-
  Texts Hx, one behind the other.
-/
import Derived.Test.YthkabaiamcjdbaaGreatJ11
set_option linter.unusedVariables false
set_option linter.unusedSimpArgs false
set_option maxHeartbeats 16000000
namespace Go.Proofs.YthkabaiamcjdbaaGreat
open Go.Abs
variable {κ:Ctx} {σ:List Res} {K:Ret→List Res→Prop} {o o':Option (Option (Nat × Nat))}
theorem Cc {bj:Nat}{ls:List Ln}{n d:Int}{bk:Bool}{x y:AV}{op:List Int}{l:List EvV}{τ σ0:List Res}{p q:Int × Int}{v:TrV}{X:List Int} (hs:Small ls) (hJ:JX x y op l τ σ0) (hll:l.length≤1000000000) (hlo2:op.length≤1000000000) (hp:PlW p) (ht:bS ls n p=.ok (v,q,true)) (c2:Pl ls q) (c3:0 < X.length) (hX:aH ls q=X) (e1:(X.getD 0 0 == 42)=false) (e2:(X.getD 0 0 == 34)=false) (e3:(X.getD 0 0 == 39)=false) (e4:(X.getD 0 0 == 91)=false) (e5:(X.getD 0 0 == 123)=false) (e6:fJ X (!(bk && decide (op.length=0)))=false) (ha:jW v=true) (h1:∀ y' τ',JX x y' op (l++[mL v]) τ' σ0→K (.ret (vh (v.q,false))) (.obj bj (JC ls n bk d x y')::τ')):ACallF κ Tryz.prog 119 [JP bj,cU p] (.obj bj (JC ls n bk d x y)::τ) K:=by
 have p64:=hp.in64
 have q64:=c2.in64 hs
 have hr:=cj (p:=q) hs
 rw [hX] at hr;refine ACallF.dropL (aa Tryz.func119 rfl ?_);simp only [Tryz.ntmps119]
 repeat' (first|simp only [WL,ay,WM,Int.reduceToNat,reduceCtorEq,bg,Nat.reduceAdd,Nat.reduceSub,Nat.reduceLT,Nat.reduceEqDiff,Bool.not_true,true_and,reduceIte,Bool.false_eq_true,T3,cb,ja,fR fc,kh,kY,fk,dz,jF,gE,iV,Tryz.results119,e1,e2,e3,e4,e5,e6,ha,hX]|simp (disch:=first|omega|(simp only [aU];omega)) only [bL,bL]|(with_reducible first|refine ax (hb:=?_)|refine aA (hK:=?_)|refine az (hK:=?_)|refine aQ (hK:=fun b=>?_)|refine aV (hK:=fun b=>?_)|refine aI (hK:=?_)|refine cD (dD (p:=p) ht hs hp ?_)|refine cD (fm (p:=q) hs q64 ?_)|refine cD (mI ?_)|refine cD (dV hJ hlo2 ?_)|refine cD (i9 (v:=v) hJ hll (fun y' τ' hJ'=>?_))|refine cD (qo ?_)|refine cD (jr ?_ ?_))|((with_reducible refine aY ?_);apply di (hf:=Tryz.results119);exact bn)|((with_reducible first|refine ai (fun h=>?_) (fun h=>?_)|refine ab (fun h=>?_) (fun h=>?_))<;>(try simp only [h])<;>(try simp only [bf,ba] at h))|omega)
 all_goals exact ak bC (aj rfl) (h1 _ _ (by assumption))
theorem Ca {bj:Nat}{ls:List Ln}{n d:Int}{bk:Bool}{x y:AV}{op:List Int}{l:List EvV}{τ σ0:List Res}{p:Int × Int}{v:TrV} (hs:Small ls) (hJ:JX x y op l τ σ0) (hll:l.length≤1000000000) (hp:PlW p) (ht:bS ls n p=.ok (v,(0,0),false)) (ha:jW v=true) (h1:∀ y' τ',JX x y' op (l++[mL v]) τ' σ0→K (.ret (vh (v.q,false))) (.obj bj (JC ls n bk d x y')::τ')):ACallF κ Tryz.prog 119 [JP bj,cU p] (.obj bj (JC ls n bk d x y)::τ) K:=by
 have p64:=hp.in64
 have q64:bW ((0,0):Int × Int).1∧bW ((0,0):Int × Int).2:=⟨by decide,by decide⟩
 refine ACallF.dropL (aa Tryz.func119 rfl ?_);simp only [Tryz.ntmps119]
 repeat' (first|simp only [WL,ay,WM,reduceCtorEq,bg,Nat.reduceAdd,Nat.reduceSub,Nat.reduceLT,Nat.reduceEqDiff,Bool.not_true,Bool.not_false,true_and,reduceIte,Bool.false_eq_true,cb,ja,fR fc,kh,kY,fk,dz,jF,gE,iV,Tryz.results119,ha]|(with_reducible first|refine ax (hb:=?_)|refine aA (hK:=?_)|refine az (hK:=?_)|refine aQ (hK:=fun b=>?_)|refine aV (hK:=fun b=>?_)|refine aI (hK:=?_)|refine cD (dD (p:=p) ht hs hp ?_)|refine cD (fm (p:=(0,0)) hs q64 ?_)|refine cD (mI ?_)|refine cD (i9 (v:=v) hJ hll (fun y' τ' hJ'=>?_))|refine cD (qo ?_)|refine cD (dV (by assumption) ?_ ?_))|((with_reducible refine aY ?_);apply di (hf:=Tryz.results119);exact bn)|((with_reducible first|refine ai (fun h=>?_) (fun h=>?_)|refine ab (fun h=>?_) (fun h=>?_))<;>(try simp only [h])<;>(try simp only [bf,ba] at h))|omega)
 all_goals exact ak bC (aj rfl) (h1 _ _ (by assumption))
theorem Cl {bj:Nat}{ls:List Ln}{n d:Int}{bk:Bool}{x y:AV}{op:List Int}{l:List EvV}{τ σ0:List Res}{p q:Int × Int}{v:TrV}{X:List Int} (hs:Small ls) (hJ:JX x y op l τ σ0) (hll:l.length≤1000000000) (hlo2:op.length≤1000000000) (hp:PlW p) (ht:bS ls n p=.ok (v,q,true)) (c2:Pl ls q) (c3:0 < X.length) (hX:aH ls q=X) (e1:(X.getD 0 0 == 42)=false) (e2:(X.getD 0 0 == 34)=false) (e3:(X.getD 0 0 == 39)=false) (e4:(X.getD 0 0 == 91)=false) (e5:(X.getD 0 0 == 123)=false) (e6:fJ X (!(bk && decide (op.length=0)))=false) (ha:jW v=false) (h2:K (.pan (bN 2)) (.obj bj (JC ls n bk d x y)::τ)):ACallF κ Tryz.prog 119 [JP bj,cU p] (.obj bj (JC ls n bk d x y)::τ) K:=by
 have p64:=hp.in64
 have q64:=c2.in64 hs
 have hr:=cj (p:=q) hs
 rw [hX] at hr;refine ACallF.dropL (aa Tryz.func119 rfl ?_);simp only [Tryz.ntmps119]
 repeat' (first|simp only [WL,ay,WM,Int.reduceToNat,reduceCtorEq,bg,Nat.reduceAdd,Nat.reduceSub,Nat.reduceLT,Bool.not_true,true_and,reduceIte,Bool.false_eq_true,T3,cb,kh,kY,fk,dz,jF,gE,e1,e2,e3,e4,e5,e6,ha,hX]|simp (disch:=first|omega|(simp only [aU];omega)) only [bL,bL]|(with_reducible first|refine ax (hb:=?_)|refine aA (hK:=?_)|refine az (hK:=?_)|refine aQ (hK:=fun b=>?_)|refine aV (hK:=fun b=>?_)|refine cD (dD (p:=p) ht hs hp ?_)|refine cD (fm (p:=q) hs q64 ?_)|refine cD (jQ ?_)|refine cD (dV hJ hlo2 ?_)|refine cD (qo ?_)|refine cD (jr ?_ ?_))|((with_reducible first|refine ai (fun h=>?_) (fun h=>?_)|refine ab (fun h=>?_) (fun h=>?_))<;>(try simp only [h])<;>(try simp only [bf,ba] at h))|omega)
 all_goals exact aS bC rfl (h2)
theorem Cu {bj:Nat}{ls:List Ln}{n d:Int}{bk:Bool}{x y:AV}{op:List Int}{l:List EvV}{τ σ0:List Res}{p:Int × Int}{v:TrV} (hs:Small ls) (hJ:JX x y op l τ σ0) (hll:l.length≤1000000000) (hp:PlW p) (ht:bS ls n p=.ok (v,(0,0),false)) (ha:jW v=false) (h2:K (.pan (bN 2)) (.obj bj (JC ls n bk d x y)::τ)):ACallF κ Tryz.prog 119 [JP bj,cU p] (.obj bj (JC ls n bk d x y)::τ) K:=by
 have p64:=hp.in64
 have q64:bW ((0,0):Int × Int).1∧bW ((0,0):Int × Int).2:=⟨by decide,by decide⟩
 refine ACallF.dropL (aa Tryz.func119 rfl ?_);simp only [Tryz.ntmps119]
 repeat' (first|simp only [WL,ay,WM,reduceCtorEq,bg,Nat.reduceAdd,Nat.reduceSub,Nat.reduceLT,Bool.not_true,Bool.not_false,true_and,reduceIte,Bool.false_eq_true,cb,kh,kY,fk,dz,jF,gE,ha]|(with_reducible first|refine aA (hK:=?_)|refine az (hK:=?_)|refine aQ (hK:=fun b=>?_)|refine aV (hK:=fun b=>?_)|refine cD (dD (p:=p) ht hs hp ?_)|refine cD (fm (p:=(0,0)) hs q64 ?_)|refine cD (jQ ?_)|refine cD (qo ?_)|refine cD (dV (by assumption) ?_ ?_))|((with_reducible first|refine ai (fun h=>?_) (fun h=>?_)|refine ab (fun h=>?_) (fun h=>?_))<;>(try simp only [h])<;>(try simp only [bf,ba] at h))|omega)
 all_goals exact aS bC rfl (h2)
end Go.Proofs.YthkabaiamcjdbaaGreat
