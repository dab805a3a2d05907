/-
  Texts Hu, one behind the other.
-/
import Derived.Test.YthkabaiamcjdbaaGreatG11
set_option linter.unusedVariables false
set_option linter.unusedSimpArgs false
set_option maxHeartbeats 16000000
/-
 Walks: chapter 13,a node: quoted scalars.
-/

namespace Go.Proofs.YthkabaiamcjdbaaGreat
open Go.Abs
variable {κ:Ctx} {σ:List Res} {K:Ret→List Res→Prop} {o o':Option (Option (Nat × Nat))}
theorem jNodeQuotedD {bj:Nat}{ls:List Ln}{n d:Int}{bk:Bool}{x y:AV}{op:List Int}{l:List EvV}{τ σ0:List Res}{p q:Int × Int}{v:TrV}{X:List Int} (hs:Small ls) (hJ:JX x y op l τ σ0) (hll:l.length≤1000000000) (hlo2:op.length≤1000000000) (hp:PlW p) (ht:traitsF ls n p=.ok (v,q,true)) (c2:Pl ls q) (c3:0 < X.length) (hX:restF ls q=X) (e1:(X.getD 0 0 == 42)=false) (e2:(X.getD 0 0 == 34)=true)
  (h1:∀ t s e,quotedF ls n (X.getD 0 0) q=.ok (t,s,e)→∀ y' τ',JX x y' op (l++[⟨7,textI t,v.t,v.a,s,false⟩]) τ' σ0→K (.ret (EDA (e,true))) (.obj bj (JC ls n bk d x y')::τ'))
  (h2:∀ e,quotedF ls n (X.getD 0 0) q=.error e→K (.pan (wrongC e)) (.obj bj (JC ls n bk d x y)::τ)):ACallF κ Tryz.prog 119 [JP bj,PLA p] (.obj bj (JC ls n bk d x y)::τ) K:=by
 have p64:=hp.in64
 have q64:=c2.in64 hs
 have hr:=restF_len (p:=q) hs
 rw [hX] at hr
 refine ACallF.dropL (ACallF_intro Tryz.func119 rfl ?_)
 simp only [Tryz.ntmps119]
 repeat' (first|simp only [WL,intF,WM,Int.reduceToNat,reduceCtorEq,WLb,Nat.reduceAdd,Nat.reduceSub,Nat.reduceLT,Nat.reduceEqDiff,Bool.not_true,Bool.not_false,true_and,reduceIte,Bool.false_eq_true,T3,T22,T131,fR fl133_2,cok87,cok88,cok99,cok123,cok143,cok144,cok145,cok146,cok147,cok148,Tryz.results119,e1,e2,hX]|simp (disch:=first|omega|(simp only [LN_];omega)) only [getI,getI]|(with_reducible first|refine andA (hb:=?_)|refine y_loadA (hK:=?_)|refine y_storeA (hK:=?_)|refine y_box (hK:=fun b=>?_)|refine y_new (hK:=fun b=>?_)|refine y_build (hK:=?_)|refine cD (jTraitsOk (p:=p) ht hs hp ?_)|refine cD (jRest (p:=q) hs q64 ?_)|refine cD (jQuoted (q:=q) (c:=X.getD 0 0) (v:=v) hJ hll hs c2 (fun t s e hq y' τ' hJ'=>?_) (fun e hq=>?_))|refine cD (jAny ?_)|refine cD (jNeed (fun h=>?_) (fun h=>?_))|refine cD (pBegins ?_ ?_)|refine cD (jInBlock (by assumption) ?_ ?_)|refine cD (jPlain (by assumption) ?_ ?_ ?_ ?_ ?_ (fun s e hq y' τ' hJ'=>?_) (fun e hq=>?_))|refine cD (jEmpty (by assumption) ?_ (fun y' τ' hJ'=>?_)))|((with_reducible refine resL_id ?_);apply res_c (hf:=Tryz.results119);exact y_load2)|((with_reducible refine AW_phS2 (id:=9) [0,1,2,3,4,5] (some 6) [([7],some 8),([],none)] mixed ?_ ?_);kernel_rfl)|((with_reducible apply phE_intro);intro σq hq;have hqi:=has_of hq;clear hq)|(with_reducible exact isT_mk)|((with_reducible apply phC_ops);rfl;rfl)|(with_reducible refine phQ_pan (fun tq=>?_))|(with_reducible refine phQ_mk (has2 (by first|(simp;done)|fail) (by first|(simp;done)|fail)) ?_)|((with_reducible refine AW_drawM (id:=11) 8 mixed ?_ ?_);kernel_rfl)|((with_reducible first|refine grd_cases (fun h=>?_) (fun h=>?_)|refine condC_split (fun h=>?_) (fun h=>?_))<;>(try simp only [h])<;>(try simp only [NR_,NRb] at h))|omega)
 all_goals first
  | exact leafL subA (leT_eq rfl) (h1 _ _ _ hq _ _ (by assumption))
  | exact leafP subA rfl (h2 _ hq)
theorem jNodeQuotedS {bj:Nat}{ls:List Ln}{n d:Int}{bk:Bool}{x y:AV}{op:List Int}{l:List EvV}{τ σ0:List Res}{p q:Int × Int}{v:TrV}{X:List Int} (hs:Small ls) (hJ:JX x y op l τ σ0) (hll:l.length≤1000000000) (hlo2:op.length≤1000000000) (hp:PlW p) (ht:traitsF ls n p=.ok (v,q,true)) (c2:Pl ls q) (c3:0 < X.length) (hX:restF ls q=X) (e1:(X.getD 0 0 == 42)=false) (e2:(X.getD 0 0 == 34)=false) (e3:(X.getD 0 0 == 39)=true)
  (h1:∀ t s e,quotedF ls n (X.getD 0 0) q=.ok (t,s,e)→∀ y' τ',JX x y' op (l++[⟨7,textI t,v.t,v.a,s,false⟩]) τ' σ0→K (.ret (EDA (e,true))) (.obj bj (JC ls n bk d x y')::τ'))
  (h2:∀ e,quotedF ls n (X.getD 0 0) q=.error e→K (.pan (wrongC e)) (.obj bj (JC ls n bk d x y)::τ)):ACallF κ Tryz.prog 119 [JP bj,PLA p] (.obj bj (JC ls n bk d x y)::τ) K:=by
 have p64:=hp.in64
 have q64:=c2.in64 hs
 have hr:=restF_len (p:=q) hs
 rw [hX] at hr
 refine ACallF.dropL (ACallF_intro Tryz.func119 rfl ?_)
 simp only [Tryz.ntmps119]
 repeat' (first|simp only [WL,intF,WM,Int.reduceToNat,reduceCtorEq,WLb,Nat.reduceAdd,Nat.reduceSub,Nat.reduceLT,Nat.reduceEqDiff,Bool.not_true,Bool.not_false,true_and,reduceIte,Bool.false_eq_true,T3,T22,T131,fR fl133_2,cok87,cok88,cok99,cok123,cok143,cok144,cok145,cok146,cok147,cok148,Tryz.results119,e1,e2,e3,hX]|simp (disch:=first|omega|(simp only [LN_];omega)) only [getI,getI]|(with_reducible first|refine andA (hb:=?_)|refine y_loadA (hK:=?_)|refine y_storeA (hK:=?_)|refine y_box (hK:=fun b=>?_)|refine y_new (hK:=fun b=>?_)|refine y_build (hK:=?_)|refine cD (jTraitsOk (p:=p) ht hs hp ?_)|refine cD (jRest (p:=q) hs q64 ?_)|refine cD (jQuoted (q:=q) (c:=X.getD 0 0) (v:=v) hJ hll hs c2 (fun t s e hq y' τ' hJ'=>?_) (fun e hq=>?_))|refine cD (jAny ?_)|refine cD (jNeed (fun h=>?_) (fun h=>?_))|refine cD (pBegins ?_ ?_)|refine cD (jInBlock (by assumption) ?_ ?_)|refine cD (jPlain (by assumption) ?_ ?_ ?_ ?_ ?_ (fun s e hq y' τ' hJ'=>?_) (fun e hq=>?_))|refine cD (jEmpty (by assumption) ?_ (fun y' τ' hJ'=>?_)))|((with_reducible refine resL_id ?_);apply res_c (hf:=Tryz.results119);exact y_load2)|((with_reducible refine AW_phS2 (id:=9) [0,1,2,3,4,5] (some 6) [([7],some 8),([],none)] mixed ?_ ?_);kernel_rfl)|((with_reducible apply phE_intro);intro σq hq;have hqi:=has_of hq;clear hq)|(with_reducible exact isT_mk)|((with_reducible apply phC_ops);rfl;rfl)|(with_reducible refine phQ_pan (fun tq=>?_))|(with_reducible refine phQ_mk (has2 (by first|(simp;done)|fail) (by first|(simp;done)|fail)) ?_)|((with_reducible refine AW_drawM (id:=11) 8 mixed ?_ ?_);kernel_rfl)|((with_reducible first|refine grd_cases (fun h=>?_) (fun h=>?_)|refine condC_split (fun h=>?_) (fun h=>?_))<;>(try simp only [h])<;>(try simp only [NR_,NRb] at h))|omega)
 all_goals first
  | exact leafL subA (leT_eq rfl) (h1 _ _ _ hq _ _ (by assumption))
  | exact leafP subA rfl (h2 _ hq)
end Go.Proofs.YthkabaiamcjdbaaGreat
