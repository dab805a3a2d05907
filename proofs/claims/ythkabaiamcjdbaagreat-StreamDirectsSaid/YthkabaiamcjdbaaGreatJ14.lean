/-
  Texts Hv, one behind the other.
-/
import Derived.Test.YthkabaiamcjdbaaGreatJ11
set_option linter.unusedVariables false
set_option linter.unusedSimpArgs false
set_option maxHeartbeats 16000000
namespace Go.Proofs.YthkabaiamcjdbaaGreat
open Go.Abs
variable {κ:Ctx} {σ:List Res} {K:Ret→List Res→Prop} {o o':Option (Option (Nat × Nat))}
theorem CB {bj:Nat}{ls:List Ln}{n d:Int}{bk:Bool}{x y:AV}{op:List Int}{l:List EvV}{τ σ0:List Res}{p q:Int × Int}{v:TrV}{X:List Int}{N:Nat→Int × Int→NodeR} (hd:0≤d∧d≤1000000000) (hP:cO d op.length 0=true→pV κ bj ls n d bk (lZ ls n (N (op.length+1))) 178 (op.length+1)) (hI:cO d op.length 0=true→pV κ bj ls n d bk (jd ls n d (op.length+1) (N (op.length+1)) (N (op.length+2))) 177 (op.length+1)) (hG:∀ k,fU ls (N k)) (hlo:op.length≤1000000) (hb:l.length+8 * mu q+8≤1000000000) (hs:Small ls) (hJ:JX x y op l τ σ0) (hll:l.length≤1000000000) (hlo2:op.length≤1000000000) (hp:PlW p) (ht:bS ls n p=.ok (v,q,true)) (c2:Pl ls q) (c3:0 < X.length) (hX:aH ls q=X) (e1:(X.getD 0 0 == 42)=false) (e2:(X.getD 0 0 == 34)=false) (e3:(X.getD 0 0 == 39)=false) (e4:(X.getD 0 0 == 91)=true)
  (h1:∀ ev e,l5 ls n d op.length N q (X.getD 0 0) v=.ok (ev,e)→∀ x' y' τ',JX x' y' op (l++ev) τ' σ0→K (.ret (vh (e,true))) (.obj bj (JC ls n bk d x' y')::τ'))
  (h2:∀ e,l5 ls n d op.length N q (X.getD 0 0) v=.error e→∀ x' y' op' l' τ',JX x' y' op' l' τ' σ0→K (.pan (bN e)) (.obj bj (JC ls n bk d x' y')::τ')):ACallF κ Tryz.prog 119 [JP bj,cU p] (.obj bj (JC ls n bk d x y)::τ) K:=by
 have p64:=hp.in64
 have q64:=c2.in64 hs
 have hr:=cj (p:=q) hs
 rw [hX] at hr;have c3':0 < (aH ls q).length:=by rw [hX];exact c3
 refine ACallF.dropL (aa Tryz.func119 rfl ?_);simp only [Tryz.ntmps119]
 repeat' (first|simp only [WL,ay,WM,Int.reduceToNat,reduceCtorEq,bg,Nat.reduceAdd,Nat.reduceSub,Nat.reduceLT,Nat.reduceEqDiff,Bool.not_true,true_and,reduceIte,Bool.false_eq_true,T3,cb,ja,fR fc,kh,kY,fk,dz,qw,jF,gE,oV,iV,Tryz.results119,e1,e2,e3,e4,hX]|simp (disch:=first|omega|(simp only [aU];omega)) only [bL,bL]|(with_reducible first|refine ax (hb:=?_)|refine aA (hK:=?_)|refine az (hK:=?_)|refine aQ (hK:=fun b=>?_)|refine aV (hK:=fun b=>?_)|refine aI (hK:=?_)|refine cD (dD (p:=p) ht hs hp ?_)|refine cD (fm (p:=q) hs q64 ?_)|refine callD_mk (Qa (N:=N) (p:=q) (c:=X.getD 0 0) (v:=v) hs hd hP hI hG hJ hlo c2 c3' hb (fun ev e hq x' y' τ' hJ'=>?_) (fun e hq x' y' op' l' τ' hJ'=>?_))|refine cD (qo ?_)|refine cD (mB (fun h=>?_) (fun h=>?_))|refine cD (jr ?_ ?_)|refine cD (dV (by assumption) ?_ ?_)|refine cD (oO (by assumption) ?_ ?_ ?_ ?_ ?_ (fun s e hq y' τ' hJ'=>?_) (fun e hq=>?_))|refine cD (i9 (by assumption) ?_ (fun y' τ' hJ'=>?_)))|((with_reducible refine aY ?_);apply di (hf:=Tryz.results119);exact bn)|((with_reducible refine eE (id:=11) [0,1,2,3,4,5] (some 6) [([7],some 8),([],none)] mixed ?_ ?_);kernel_rfl)|((with_reducible apply aW);intro σq hq;have hqi:=cy hq;clear hq)|(with_reducible exact b9)|((with_reducible apply bD);rfl;rfl)|(with_reducible refine pk (fun tq=>?_))|(with_reducible refine bV (nZ (by first|(simp;done)|fail) (by first|(simp;done)|fail)) ?_)|((with_reducible first|refine ai (fun h=>?_) (fun h=>?_)|refine ab (fun h=>?_) (fun h=>?_))<;>(try simp only [h])<;>(try simp only [bf,ba] at h))|omega)
 all_goals first
  | exact ak bC (aj rfl) (h1 _ _ hq _ _ _ (by assumption))
  | exact aS bC rfl (h2 _ hq _ _ _ _ _ (by assumption))
theorem CS {bj:Nat}{ls:List Ln}{n d:Int}{bk:Bool}{x y:AV}{op:List Int}{l:List EvV}{τ σ0:List Res}{p q:Int × Int}{v:TrV}{X:List Int}{N:Nat→Int × Int→NodeR} (hd:0≤d∧d≤1000000000) (hP:cO d op.length 0=true→pV κ bj ls n d bk (lZ ls n (N (op.length+1))) 178 (op.length+1)) (hI:cO d op.length 0=true→pV κ bj ls n d bk (jd ls n d (op.length+1) (N (op.length+1)) (N (op.length+2))) 177 (op.length+1)) (hG:∀ k,fU ls (N k)) (hlo:op.length≤1000000) (hb:l.length+8 * mu q+8≤1000000000) (hs:Small ls) (hJ:JX x y op l τ σ0) (hll:l.length≤1000000000) (hlo2:op.length≤1000000000) (hp:PlW p) (ht:bS ls n p=.ok (v,q,true)) (c2:Pl ls q) (c3:0 < X.length) (hX:aH ls q=X) (e1:(X.getD 0 0 == 42)=false) (e2:(X.getD 0 0 == 34)=false) (e3:(X.getD 0 0 == 39)=false) (e4:(X.getD 0 0 == 91)=false) (e5:(X.getD 0 0 == 123)=true)
  (h1:∀ ev e,l5 ls n d op.length N q (X.getD 0 0) v=.ok (ev,e)→∀ x' y' τ',JX x' y' op (l++ev) τ' σ0→K (.ret (vh (e,true))) (.obj bj (JC ls n bk d x' y')::τ'))
  (h2:∀ e,l5 ls n d op.length N q (X.getD 0 0) v=.error e→∀ x' y' op' l' τ',JX x' y' op' l' τ' σ0→K (.pan (bN e)) (.obj bj (JC ls n bk d x' y')::τ')):ACallF κ Tryz.prog 119 [JP bj,cU p] (.obj bj (JC ls n bk d x y)::τ) K:=by
 have p64:=hp.in64
 have q64:=c2.in64 hs
 have hr:=cj (p:=q) hs
 rw [hX] at hr;have c3':0 < (aH ls q).length:=by rw [hX];exact c3
 refine ACallF.dropL (aa Tryz.func119 rfl ?_);simp only [Tryz.ntmps119]
 repeat' (first|simp only [WL,ay,WM,Int.reduceToNat,reduceCtorEq,bg,Nat.reduceAdd,Nat.reduceSub,Nat.reduceLT,Nat.reduceEqDiff,Bool.not_true,true_and,reduceIte,Bool.false_eq_true,T3,cb,ja,fR fc,kh,kY,fk,dz,qw,jF,gE,oV,iV,Tryz.results119,e1,e2,e3,e4,e5,hX]|simp (disch:=first|omega|(simp only [aU];omega)) only [bL,bL]|(with_reducible first|refine ax (hb:=?_)|refine aA (hK:=?_)|refine az (hK:=?_)|refine aQ (hK:=fun b=>?_)|refine aV (hK:=fun b=>?_)|refine aI (hK:=?_)|refine cD (dD (p:=p) ht hs hp ?_)|refine cD (fm (p:=q) hs q64 ?_)|refine callD_mk (Qa (N:=N) (p:=q) (c:=X.getD 0 0) (v:=v) hs hd hP hI hG hJ hlo c2 c3' hb (fun ev e hq x' y' τ' hJ'=>?_) (fun e hq x' y' op' l' τ' hJ'=>?_))|refine cD (qo ?_)|refine cD (mB (fun h=>?_) (fun h=>?_))|refine cD (jr ?_ ?_)|refine cD (dV (by assumption) ?_ ?_)|refine cD (oO (by assumption) ?_ ?_ ?_ ?_ ?_ (fun s e hq y' τ' hJ'=>?_) (fun e hq=>?_))|refine cD (i9 (by assumption) ?_ (fun y' τ' hJ'=>?_)))|((with_reducible refine aY ?_);apply di (hf:=Tryz.results119);exact bn)|((with_reducible refine eE (id:=11) [0,1,2,3,4,5] (some 6) [([7],some 8),([],none)] mixed ?_ ?_);kernel_rfl)|((with_reducible apply aW);intro σq hq;have hqi:=cy hq;clear hq)|(with_reducible exact b9)|((with_reducible apply bD);rfl;rfl)|(with_reducible refine pk (fun tq=>?_))|(with_reducible refine bV (nZ (by first|(simp;done)|fail) (by first|(simp;done)|fail)) ?_)|((with_reducible first|refine ai (fun h=>?_) (fun h=>?_)|refine ab (fun h=>?_) (fun h=>?_))<;>(try simp only [h])<;>(try simp only [bf,ba] at h))|omega)
 all_goals first
  | exact ak bC (aj rfl) (h1 _ _ hq _ _ _ (by assumption))
  | exact aS bC rfl (h2 _ hq _ _ _ _ _ (by assumption))
end Go.Proofs.YthkabaiamcjdbaaGreat
