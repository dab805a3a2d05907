/-
  Texts Hv, one behind the other.
-/
import Derived.Test.YthkabaiamcjdbaaGreatG11
set_option linter.unusedVariables false
set_option linter.unusedSimpArgs false
set_option maxHeartbeats 16000000
/-
 Walks: chapter 13,a node: collections.
-/

namespace Go.Proofs.YthkabaiamcjdbaaGreat
open Go.Abs
variable {κ:Ctx} {σ:List Res} {K:Ret→List Res→Prop} {o o':Option (Option (Nat × Nat))}
theorem A2 {bj:Nat}{ls:List Ln}{n d:Int}{bk:Bool}{x y:AV}{op:List Int}{l:List EvV}{τ σ0:List Res}{p q:Int × Int}{v:TrV}{X:List Int}{N:Nat→Int × Int→NodeR} (hd:0≤d∧d≤1000000000) (hP:cN d op.length 0=true→nD κ bj ls n d bk (gw ls n (N (op.length+1))) 178 (op.length+1)) (hI:cN d op.length 0=true→nD κ bj ls n d bk (eu ls n d (op.length+1) (N (op.length+1)) (N (op.length+2))) 177 (op.length+1)) (hG:∀ k,eO ls (N k)) (hlo:op.length≤1000000) (hb:l.length+8 * mu q+8≤1000000000) (hs:Small ls) (hJ:JX x y op l τ σ0) (hll:l.length≤1000000000) (hlo2:op.length≤1000000000) (hp:PlW p) (ht:bG ls n p=.ok (v,q,true)) (c2:Pl ls q) (c3:0 < X.length) (hX:aF ls q=X) (e1:(X.getD 0 0 == 42)=false) (e2:(X.getD 0 0 == 34)=false) (e3:(X.getD 0 0 == 39)=false) (e4:(X.getD 0 0 == 91)=true)
  (h1:∀ ev e,gZ ls n d op.length N q (X.getD 0 0) v=.ok (ev,e)→∀ x' y' τ',JX x' y' op (l++ev) τ' σ0→K (.ret (tL (e,true))) (.obj bj (JC ls n bk d x' y')::τ'))
  (h2:∀ e,gZ ls n d op.length N q (X.getD 0 0) v=.error e→∀ x' y' op' l' τ',JX x' y' op' l' τ' σ0→K (.pan (bI e)) (.obj bj (JC ls n bk d x' y')::τ')):ACallF κ Tryz.prog 119 [JP bj,cS p] (.obj bj (JC ls n bk d x y)::τ) K:=by
 have p64:=hp.in64
 have q64:=c2.in64 hs
 have hr:=bZ (p:=q) hs
 rw [hX] at hr
 have c3':0 < (aF ls q).length:=by rw [hX];exact c3
 refine ACallF.dropL (aa Tryz.func119 rfl ?_)
 simp only [Tryz.ntmps119]
 repeat' (first|simp only [WL,aD,WM,Int.reduceToNat,reduceCtorEq,ba,Nat.reduceAdd,Nat.reduceSub,Nat.reduceLT,Nat.reduceEqDiff,Bool.not_true,true_and,reduceIte,Bool.false_eq_true,T3,bX,ia,fR eI,jr,jG,e8,dr,oP,iX,gm,mE,hO,Tryz.results119,e1,e2,e3,e4,hX]|simp (disch:=first|omega|(simp only [aT];omega)) only [aV,aV]|(with_reducible first|refine aC (hb:=?_)|refine aA (hK:=?_)|refine az (hK:=?_)|refine aP (hK:=fun b=>?_)|refine aS (hK:=fun b=>?_)|refine aG (hK:=?_)|refine cD (dw (p:=p) ht hs hp ?_)|refine cD (eU (p:=q) hs q64 ?_)|refine callD_mk (MQ (N:=N) (p:=q) (c:=X.getD 0 0) (v:=v) hs hd hP hI hG hJ hlo c2 c3' hb (fun ev e hq x' y' τ' hJ'=>?_) (fun e hq x' y' op' l' τ' hJ'=>?_))|refine cD (oW ?_)|refine cD (lz (fun h=>?_) (fun h=>?_))|refine cD (iw ?_ ?_)|refine cD (dQ (by assumption) ?_ ?_)|refine cD (nc (by assumption) ?_ ?_ ?_ ?_ ?_ (fun s e hq y' τ' hJ'=>?_) (fun e hq=>?_))|refine cD (ic (by assumption) ?_ (fun y' τ' hJ'=>?_)))|((with_reducible refine aU ?_);apply db (hf:=Tryz.results119);exact aZ)|((with_reducible refine eh (id:=11) [0,1,2,3,4,5] (some 6) [([7],some 8),([],none)] mixed ?_ ?_);kernel_rfl)|((with_reducible apply aQ);intro σq hq;have hqi:=cm hq;clear hq)|(with_reducible exact bU)|((with_reducible apply bA);rfl;rfl)|(with_reducible refine oh (fun tq=>?_))|(with_reducible refine bR (l8 (by first|(simp;done)|fail) (by first|(simp;done)|fail)) ?_)|((with_reducible first|refine ai (fun h=>?_) (fun h=>?_)|refine ab (fun h=>?_) (fun h=>?_))<;>(try simp only [h])<;>(try simp only [bg,bm] at h))|omega)
 all_goals first
  | exact ak bE (aj rfl) (h1 _ _ hq _ _ _ (by assumption))
  | exact aN bE rfl (h2 _ hq _ _ _ _ _ (by assumption))
theorem zz {bj:Nat}{ls:List Ln}{n d:Int}{bk:Bool}{x y:AV}{op:List Int}{l:List EvV}{τ σ0:List Res}{p q:Int × Int}{v:TrV}{X:List Int}{N:Nat→Int × Int→NodeR} (hd:0≤d∧d≤1000000000) (hP:cN d op.length 0=true→nD κ bj ls n d bk (gw ls n (N (op.length+1))) 178 (op.length+1)) (hI:cN d op.length 0=true→nD κ bj ls n d bk (eu ls n d (op.length+1) (N (op.length+1)) (N (op.length+2))) 177 (op.length+1)) (hG:∀ k,eO ls (N k)) (hlo:op.length≤1000000) (hb:l.length+8 * mu q+8≤1000000000) (hs:Small ls) (hJ:JX x y op l τ σ0) (hll:l.length≤1000000000) (hlo2:op.length≤1000000000) (hp:PlW p) (ht:bG ls n p=.ok (v,q,true)) (c2:Pl ls q) (c3:0 < X.length) (hX:aF ls q=X) (e1:(X.getD 0 0 == 42)=false) (e2:(X.getD 0 0 == 34)=false) (e3:(X.getD 0 0 == 39)=false) (e4:(X.getD 0 0 == 91)=false) (e5:(X.getD 0 0 == 123)=true)
  (h1:∀ ev e,gZ ls n d op.length N q (X.getD 0 0) v=.ok (ev,e)→∀ x' y' τ',JX x' y' op (l++ev) τ' σ0→K (.ret (tL (e,true))) (.obj bj (JC ls n bk d x' y')::τ'))
  (h2:∀ e,gZ ls n d op.length N q (X.getD 0 0) v=.error e→∀ x' y' op' l' τ',JX x' y' op' l' τ' σ0→K (.pan (bI e)) (.obj bj (JC ls n bk d x' y')::τ')):ACallF κ Tryz.prog 119 [JP bj,cS p] (.obj bj (JC ls n bk d x y)::τ) K:=by
 have p64:=hp.in64
 have q64:=c2.in64 hs
 have hr:=bZ (p:=q) hs
 rw [hX] at hr
 have c3':0 < (aF ls q).length:=by rw [hX];exact c3
 refine ACallF.dropL (aa Tryz.func119 rfl ?_)
 simp only [Tryz.ntmps119]
 repeat' (first|simp only [WL,aD,WM,Int.reduceToNat,reduceCtorEq,ba,Nat.reduceAdd,Nat.reduceSub,Nat.reduceLT,Nat.reduceEqDiff,Bool.not_true,true_and,reduceIte,Bool.false_eq_true,T3,bX,ia,fR eI,jr,jG,e8,dr,oP,iX,gm,mE,hO,Tryz.results119,e1,e2,e3,e4,e5,hX]|simp (disch:=first|omega|(simp only [aT];omega)) only [aV,aV]|(with_reducible first|refine aC (hb:=?_)|refine aA (hK:=?_)|refine az (hK:=?_)|refine aP (hK:=fun b=>?_)|refine aS (hK:=fun b=>?_)|refine aG (hK:=?_)|refine cD (dw (p:=p) ht hs hp ?_)|refine cD (eU (p:=q) hs q64 ?_)|refine callD_mk (MQ (N:=N) (p:=q) (c:=X.getD 0 0) (v:=v) hs hd hP hI hG hJ hlo c2 c3' hb (fun ev e hq x' y' τ' hJ'=>?_) (fun e hq x' y' op' l' τ' hJ'=>?_))|refine cD (oW ?_)|refine cD (lz (fun h=>?_) (fun h=>?_))|refine cD (iw ?_ ?_)|refine cD (dQ (by assumption) ?_ ?_)|refine cD (nc (by assumption) ?_ ?_ ?_ ?_ ?_ (fun s e hq y' τ' hJ'=>?_) (fun e hq=>?_))|refine cD (ic (by assumption) ?_ (fun y' τ' hJ'=>?_)))|((with_reducible refine aU ?_);apply db (hf:=Tryz.results119);exact aZ)|((with_reducible refine eh (id:=11) [0,1,2,3,4,5] (some 6) [([7],some 8),([],none)] mixed ?_ ?_);kernel_rfl)|((with_reducible apply aQ);intro σq hq;have hqi:=cm hq;clear hq)|(with_reducible exact bU)|((with_reducible apply bA);rfl;rfl)|(with_reducible refine oh (fun tq=>?_))|(with_reducible refine bR (l8 (by first|(simp;done)|fail) (by first|(simp;done)|fail)) ?_)|((with_reducible first|refine ai (fun h=>?_) (fun h=>?_)|refine ab (fun h=>?_) (fun h=>?_))<;>(try simp only [h])<;>(try simp only [bg,bm] at h))|omega)
 all_goals first
  | exact ak bE (aj rfl) (h1 _ _ hq _ _ _ (by assumption))
  | exact aN bE rfl (h2 _ hq _ _ _ _ _ (by assumption))
end Go.Proofs.YthkabaiamcjdbaaGreat
