/-
  Texts Hx, one behind the other.
-/
import Derived.Test.YthkabaiamcjdbaaGreatG11
set_option linter.unusedVariables false
set_option linter.unusedSimpArgs false
set_option maxHeartbeats 16000000
/-
 Walks: chapter 13,a node: none.
-/

namespace Go.Proofs.YthkabaiamcjdbaaGreat
open Go.Abs
variable {κ:Ctx} {σ:List Res} {K:Ret→List Res→Prop} {o o':Option (Option (Nat × Nat))}
theorem jNodeNoneY {bj:Nat}{ls:List Ln}{n d:Int}{bk:Bool}{x y:AV}{op:List Int}{l:List EvV}{τ σ0:List Res}{p q:Int × Int}{v:TrV}{X:List Int} (hs:Small ls) (hJ:JX x y op l τ σ0) (hll:l.length≤1000000000) (hlo2:op.length≤1000000000) (hp:PlW p) (ht:traitsF ls n p=.ok (v,q,true)) (c2:Pl ls q) (c3:0 < X.length) (hX:restF ls q=X) (e1:(X.getD 0 0 == 42)=false) (e2:(X.getD 0 0 == 34)=false) (e3:(X.getD 0 0 == 39)=false) (e4:(X.getD 0 0 == 91)=false) (e5:(X.getD 0 0 == 123)=false) (e6:beginsI X (!(bk && decide (op.length=0)))=false) (ha:anyT v=true) (h1:∀ y' τ',JX x y' op (l++[emptyE v]) τ' σ0→K (.ret (EDA (v.q,false))) (.obj bj (JC ls n bk d x y')::τ')):ACallF κ Tryz.prog 119 [JP bj,PLA p] (.obj bj (JC ls n bk d x y)::τ) K:=by
 have p64:=hp.in64
 have q64:=c2.in64 hs
 have hr:=restF_len (p:=q) hs
 rw [hX] at hr
 refine ACallF.dropL (ACallF_intro Tryz.func119 rfl ?_)
 simp only [Tryz.ntmps119]
 repeat' (first|simp only [WL,intF,WM,Int.reduceToNat,reduceCtorEq,WLb,Nat.reduceAdd,Nat.reduceSub,Nat.reduceLT,Nat.reduceEqDiff,Bool.not_true,true_and,reduceIte,Bool.false_eq_true,T3,T22,T131,fR fl133_2,cok87,cok88,cok99,cok123,cok145,cok146,cok148,Tryz.results119,e1,e2,e3,e4,e5,e6,ha,hX]|simp (disch:=first|omega|(simp only [LN_];omega)) only [getI,getI]|(with_reducible first|refine andA (hb:=?_)|refine y_loadA (hK:=?_)|refine y_storeA (hK:=?_)|refine y_box (hK:=fun b=>?_)|refine y_new (hK:=fun b=>?_)|refine y_build (hK:=?_)|refine cD (jTraitsOk (p:=p) ht hs hp ?_)|refine cD (jRest (p:=q) hs q64 ?_)|refine cD (jNeedT ?_)|refine cD (jInBlock hJ hlo2 ?_)|refine cD (jEmpty (v:=v) hJ hll (fun y' τ' hJ'=>?_))|refine cD (jAny ?_)|refine cD (pBegins ?_ ?_))|((with_reducible refine resL_id ?_);apply res_c (hf:=Tryz.results119);exact y_load2)|((with_reducible first|refine grd_cases (fun h=>?_) (fun h=>?_)|refine condC_split (fun h=>?_) (fun h=>?_))<;>(try simp only [h])<;>(try simp only [NR_,NRb] at h))|omega)
 all_goals exact leafL subA (leT_eq rfl) (h1 _ _ (by assumption))
theorem jNodeOverY {bj:Nat}{ls:List Ln}{n d:Int}{bk:Bool}{x y:AV}{op:List Int}{l:List EvV}{τ σ0:List Res}{p:Int × Int}{v:TrV} (hs:Small ls) (hJ:JX x y op l τ σ0) (hll:l.length≤1000000000) (hp:PlW p) (ht:traitsF ls n p=.ok (v,(0,0),false)) (ha:anyT v=true) (h1:∀ y' τ',JX x y' op (l++[emptyE v]) τ' σ0→K (.ret (EDA (v.q,false))) (.obj bj (JC ls n bk d x y')::τ')):ACallF κ Tryz.prog 119 [JP bj,PLA p] (.obj bj (JC ls n bk d x y)::τ) K:=by
 have p64:=hp.in64
 have q64:In64 ((0,0):Int × Int).1∧In64 ((0,0):Int × Int).2:=⟨by decide,by decide⟩
 refine ACallF.dropL (ACallF_intro Tryz.func119 rfl ?_)
 simp only [Tryz.ntmps119]
 repeat' (first|simp only [WL,intF,WM,reduceCtorEq,WLb,Nat.reduceAdd,Nat.reduceSub,Nat.reduceLT,Nat.reduceEqDiff,Bool.not_true,Bool.not_false,true_and,reduceIte,Bool.false_eq_true,T22,T131,fR fl133_2,cok87,cok88,cok99,cok123,cok145,cok146,cok148,Tryz.results119,ha]|(with_reducible first|refine andA (hb:=?_)|refine y_loadA (hK:=?_)|refine y_storeA (hK:=?_)|refine y_box (hK:=fun b=>?_)|refine y_new (hK:=fun b=>?_)|refine y_build (hK:=?_)|refine cD (jTraitsOk (p:=p) ht hs hp ?_)|refine cD (jRest (p:=(0,0)) hs q64 ?_)|refine cD (jNeedT ?_)|refine cD (jEmpty (v:=v) hJ hll (fun y' τ' hJ'=>?_))|refine cD (jAny ?_)|refine cD (jInBlock (by assumption) ?_ ?_))|((with_reducible refine resL_id ?_);apply res_c (hf:=Tryz.results119);exact y_load2)|((with_reducible first|refine grd_cases (fun h=>?_) (fun h=>?_)|refine condC_split (fun h=>?_) (fun h=>?_))<;>(try simp only [h])<;>(try simp only [NR_,NRb] at h))|omega)
 all_goals exact leafL subA (leT_eq rfl) (h1 _ _ (by assumption))
theorem jNodeNoneN {bj:Nat}{ls:List Ln}{n d:Int}{bk:Bool}{x y:AV}{op:List Int}{l:List EvV}{τ σ0:List Res}{p q:Int × Int}{v:TrV}{X:List Int} (hs:Small ls) (hJ:JX x y op l τ σ0) (hll:l.length≤1000000000) (hlo2:op.length≤1000000000) (hp:PlW p) (ht:traitsF ls n p=.ok (v,q,true)) (c2:Pl ls q) (c3:0 < X.length) (hX:restF ls q=X) (e1:(X.getD 0 0 == 42)=false) (e2:(X.getD 0 0 == 34)=false) (e3:(X.getD 0 0 == 39)=false) (e4:(X.getD 0 0 == 91)=false) (e5:(X.getD 0 0 == 123)=false) (e6:beginsI X (!(bk && decide (op.length=0)))=false) (ha:anyT v=false) (h2:K (.pan (wrongC 2)) (.obj bj (JC ls n bk d x y)::τ)):ACallF κ Tryz.prog 119 [JP bj,PLA p] (.obj bj (JC ls n bk d x y)::τ) K:=by
 have p64:=hp.in64
 have q64:=c2.in64 hs
 have hr:=restF_len (p:=q) hs
 rw [hX] at hr
 refine ACallF.dropL (ACallF_intro Tryz.func119 rfl ?_)
 simp only [Tryz.ntmps119]
 repeat' (first|simp only [WL,intF,WM,Int.reduceToNat,reduceCtorEq,WLb,Nat.reduceAdd,Nat.reduceSub,Nat.reduceLT,Bool.not_true,true_and,reduceIte,Bool.false_eq_true,T3,T22,cok87,cok88,cok99,cok123,cok145,cok146,e1,e2,e3,e4,e5,e6,ha,hX]|simp (disch:=first|omega|(simp only [LN_];omega)) only [getI,getI]|(with_reducible first|refine andA (hb:=?_)|refine y_loadA (hK:=?_)|refine y_storeA (hK:=?_)|refine y_box (hK:=fun b=>?_)|refine y_new (hK:=fun b=>?_)|refine cD (jTraitsOk (p:=p) ht hs hp ?_)|refine cD (jRest (p:=q) hs q64 ?_)|refine cD (jNeedF ?_)|refine cD (jInBlock hJ hlo2 ?_)|refine cD (jAny ?_)|refine cD (pBegins ?_ ?_))|((with_reducible first|refine grd_cases (fun h=>?_) (fun h=>?_)|refine condC_split (fun h=>?_) (fun h=>?_))<;>(try simp only [h])<;>(try simp only [NR_,NRb] at h))|omega)
 all_goals exact leafP subA rfl (h2)
theorem jNodeOverN {bj:Nat}{ls:List Ln}{n d:Int}{bk:Bool}{x y:AV}{op:List Int}{l:List EvV}{τ σ0:List Res}{p:Int × Int}{v:TrV} (hs:Small ls) (hJ:JX x y op l τ σ0) (hll:l.length≤1000000000) (hp:PlW p) (ht:traitsF ls n p=.ok (v,(0,0),false)) (ha:anyT v=false) (h2:K (.pan (wrongC 2)) (.obj bj (JC ls n bk d x y)::τ)):ACallF κ Tryz.prog 119 [JP bj,PLA p] (.obj bj (JC ls n bk d x y)::τ) K:=by
 have p64:=hp.in64
 have q64:In64 ((0,0):Int × Int).1∧In64 ((0,0):Int × Int).2:=⟨by decide,by decide⟩
 refine ACallF.dropL (ACallF_intro Tryz.func119 rfl ?_)
 simp only [Tryz.ntmps119]
 repeat' (first|simp only [WL,intF,WM,reduceCtorEq,WLb,Nat.reduceAdd,Nat.reduceSub,Nat.reduceLT,Bool.not_true,Bool.not_false,true_and,reduceIte,Bool.false_eq_true,T22,cok87,cok88,cok99,cok123,cok145,cok146,ha]|(with_reducible first|refine y_loadA (hK:=?_)|refine y_storeA (hK:=?_)|refine y_box (hK:=fun b=>?_)|refine y_new (hK:=fun b=>?_)|refine cD (jTraitsOk (p:=p) ht hs hp ?_)|refine cD (jRest (p:=(0,0)) hs q64 ?_)|refine cD (jNeedF ?_)|refine cD (jAny ?_)|refine cD (jInBlock (by assumption) ?_ ?_))|((with_reducible first|refine grd_cases (fun h=>?_) (fun h=>?_)|refine condC_split (fun h=>?_) (fun h=>?_))<;>(try simp only [h])<;>(try simp only [NR_,NRb] at h))|omega)
 all_goals exact leafP subA rfl (h2)
end Go.Proofs.YthkabaiamcjdbaaGreat
