/-
  Texts Ht, one behind the other.
-/
import Derived.Test.YthkabaiamcjdbaaGreatG11
set_option linter.unusedVariables false
set_option linter.unusedSimpArgs false
set_option maxHeartbeats 16000000
/-
 Walks: chapter 13,a node: aliases.
-/

namespace Go.Proofs.YthkabaiamcjdbaaGreat
open Go.Abs
variable {κ:Ctx} {σ:List Res} {K:Ret→List Res→Prop} {o o':Option (Option (Nat × Nat))}
theorem jNodeErr {bj:Nat}{ls:List Ln}{n d e:Int}{bk:Bool}{x y:AV}{τ:List Res}{p:Int × Int} (hs:Small ls) (hp:PlW p) (ht:traitsF ls n p=.error e) (h2:K (.pan (wrongC e)) (.obj bj (JC ls n bk d x y)::τ)):ACallF κ Tryz.prog 119 [JP bj,PLA p] (.obj bj (JC ls n bk d x y)::τ) K:=by
 have p64:=hp.in64
 refine ACallF.dropL (ACallF_intro Tryz.func119 rfl ?_)
 simp only [Tryz.ntmps119]
 repeat' (first|simp only [WL,WM,Nat.reduceAdd,Nat.reduceSub,true_and,cok87]|(with_reducible first|refine y_loadA (hK:=?_)|refine y_box (hK:=fun b=>?_)|refine y_new (hK:=fun b=>?_)|refine cD (jTraitsEr (p:=p) ht hs hp ?_)))
 exact leafP subA rfl (h2)
theorem jNodeAlias {bj:Nat}{ls:List Ln}{n d:Int}{bk:Bool}{x y:AV}{op:List Int}{l:List EvV}{τ σ0:List Res}{p q:Int × Int}{v:TrV}{X:List Int} (hs:Small ls) (hJ:JX x y op l τ σ0) (hll:l.length≤1000000000) (hlo2:op.length≤1000000000) (hp:PlW p) (ht:traitsF ls n p=.ok (v,q,true)) (c2:Pl ls q) (c3:0 < X.length) (hX:restF ls q=X) (e1:(X.getD 0 0 == 42)=true) (ha:anyT v=false)
  (h1:aliasB ls q (X.drop 1)=true→∀ y' τ',JX x y' op (l++[⟨8,.empty,.empty,(anchorI (X.drop 1)).1,0,false⟩]) τ' σ0→K (.ret (EDA ((q.1,q.2+((anchorI (X.drop 1)).2.1+1)),false))) (.obj bj (JC ls n bk d x y')::τ'))
  (h2:aliasB ls q (X.drop 1)=false→K (.pan (wrongC 2)) (.obj bj (JC ls n bk d x y)::τ)):ACallF κ Tryz.prog 119 [JP bj,PLA p] (.obj bj (JC ls n bk d x y)::τ) K:=by
 have p64:=hp.in64
 have q64:=c2.in64 hs
 have hr:=restF_len (p:=q) hs
 rw [hX] at hr
 refine ACallF.dropL (ACallF_intro Tryz.func119 rfl ?_)
 simp only [Tryz.ntmps119]
 repeat' (first|simp only [WL,intF,WM,Int.reduceToNat,reduceCtorEq,WLb,Nat.reduceAdd,Nat.reduceSub,Nat.reduceLT,Bool.not_true,Bool.not_false,true_and,reduceIte,Bool.false_eq_true,T3,T22,cok87,cok88,cok99,cok123,cok142,cok143,cok144,cok145,cok146,cok147,Tryz.results119,ha,e1,hX]|simp (disch:=first|omega|(simp only [LN_];omega)) only [getI,getI]|(with_reducible first|refine andA (hb:=?_)|refine y_loadA (hK:=?_)|refine y_storeA (hK:=?_)|refine y_box (hK:=fun b=>?_)|refine y_new (hK:=fun b=>?_)|refine y_build (hK:=?_)|refine cD (jTraitsOk (p:=p) ht hs hp ?_)|refine cD (jRest (p:=q) hs q64 ?_)|refine cD (jNeedT ?_)|refine cD (jNeedF ?_)|refine cD (jAlias (p:=q) (t:=X.drop 1) hJ hll hs c2 (by rw [List.length_drop];omega) (fun hal y' τ' hJ'=>?_) (fun hal=>?_))|refine cD (jAny ?_)|refine cD (pBegins ?_ ?_)|refine cD (jInBlock (by assumption) ?_ ?_)|refine cD (jPlain (by assumption) ?_ ?_ ?_ ?_ ?_ (fun s e hq y' τ' hJ'=>?_) (fun e hq=>?_)))|((with_reducible refine resL_id ?_);apply res_c (hf:=Tryz.results119);exact y_load2)|((with_reducible refine AW_phE (id:=7) [0,2,3] (some 1) [([],some 4),([5],some 6),([],none)] (fun _=>True) trivial mixed ?_ ?_);kernel_rfl)|((with_reducible apply phE_intro);intro σq hq)|(with_reducible exact isT_mk)|((with_reducible apply phC_ops);rfl;rfl)|(with_reducible refine phQ_pan (fun tq=>?_))|(with_reducible refine phQ_mk trivial ?_)|((with_reducible refine AW_drawM (id:=9) 8 mixed ?_ ?_);kernel_rfl)|((with_reducible refine AW_drawM (id:=11) 8 mixed ?_ ?_);kernel_rfl)|((with_reducible first|refine grd_cases (fun h=>?_) (fun h=>?_)|refine condC_split (fun h=>?_) (fun h=>?_))<;>(try simp only [h])<;>(try simp only [NR_,NRb] at h))|omega)
 all_goals first
  | exact leafL subA (leT_eq rfl) (h1 hal _ _ (by assumption))
  | exact leafP subA rfl (h2 hal)
theorem jNodeAliasBad {bj:Nat}{ls:List Ln}{n d:Int}{bk:Bool}{x y:AV}{op:List Int}{l:List EvV}{τ σ0:List Res}{p q:Int × Int}{v:TrV}{X:List Int} (hs:Small ls) (hJ:JX x y op l τ σ0) (hll:l.length≤1000000000) (hlo2:op.length≤1000000000) (hp:PlW p) (ht:traitsF ls n p=.ok (v,q,true)) (c2:Pl ls q) (c3:0 < X.length) (hX:restF ls q=X) (e1:(X.getD 0 0 == 42)=true) (ha:anyT v=true) (h2:K (.pan (wrongC 2)) (.obj bj (JC ls n bk d x y)::τ)):ACallF κ Tryz.prog 119 [JP bj,PLA p] (.obj bj (JC ls n bk d x y)::τ) K:=by
 have p64:=hp.in64
 have q64:=c2.in64 hs
 have hr:=restF_len (p:=q) hs
 rw [hX] at hr
 refine ACallF.dropL (ACallF_intro Tryz.func119 rfl ?_)
 simp only [Tryz.ntmps119]
 repeat' (first|simp only [WL,intF,WM,Int.reduceToNat,reduceCtorEq,WLb,Nat.reduceAdd,Nat.reduceSub,Nat.reduceLT,Nat.reduceEqDiff,Bool.not_true,Bool.not_false,true_and,reduceIte,Bool.false_eq_true,T3,T22,T131,fR fl133_2,cok87,cok88,cok99,cok123,cok143,cok144,cok145,cok146,cok147,cok148,Tryz.results119,ha,e1,hX]|simp (disch:=first|omega|(simp only [LN_];omega)) only [getI,getI]|(with_reducible first|refine andA (hb:=?_)|refine y_loadA (hK:=?_)|refine y_storeA (hK:=?_)|refine y_box (hK:=fun b=>?_)|refine y_new (hK:=fun b=>?_)|refine y_build (hK:=?_)|refine cD (jTraitsOk (p:=p) ht hs hp ?_)|refine cD (jRest (p:=q) hs q64 ?_)|refine cD (jNeedT ?_)|refine cD (jNeedF ?_)|refine cD (jAny ?_)|refine cD (pBegins ?_ ?_)|refine cD (jInBlock (by assumption) ?_ ?_)|refine cD (jPlain (by assumption) ?_ ?_ ?_ ?_ ?_ (fun s e hq y' τ' hJ'=>?_) (fun e hq=>?_))|refine cD (jEmpty (by assumption) ?_ (fun y' τ' hJ'=>?_)))|((with_reducible refine resL_id ?_);apply res_c (hf:=Tryz.results119);exact y_load2)|((with_reducible refine AW_drawM (id:=9) 8 mixed ?_ ?_);kernel_rfl)|((with_reducible refine AW_drawM (id:=11) 8 mixed ?_ ?_);kernel_rfl)|((with_reducible first|refine grd_cases (fun h=>?_) (fun h=>?_)|refine condC_split (fun h=>?_) (fun h=>?_))<;>(try simp only [h])<;>(try simp only [NR_,NRb] at h))|omega)
 all_goals exact leafP subA rfl (h2)
end Go.Proofs.YthkabaiamcjdbaaGreat
