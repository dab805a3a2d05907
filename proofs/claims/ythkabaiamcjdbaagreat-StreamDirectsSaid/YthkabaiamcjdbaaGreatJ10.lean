/-
  Texts Hk, MH, Hl, Hm, MI, Hn, Ho, Hp, Hq, one behind the other.
-/
import Derived.Test.YthkabaiamcjdbaaGreatJ9
set_option linter.unusedVariables false
set_option linter.unusedSimpArgs false
set_option maxHeartbeats 16000000
namespace Go.Proofs.YthkabaiamcjdbaaGreat
open Go.Abs
variable {κ:Ctx} {σ:List Res} {K:Ret→List Res→Prop} {o o':Option (Option (Nat × Nat))}
def mU (ls:List Ln) (p:Int × Int) (l:List Int):Bool:=(bR l).2.2 && s7 (aH ls (p.1,p.2+((bR l).2.1+1)))
theorem Zv {a b:Bool} (h1:a=true) (h2:b=true):(a && b)=true:=by rw [h1,h2];rfl
theorem Yb {a b:Bool} (h:a=false∨b=false):(a && b)=false:=by rcases h with h|h<;>rw [h]<;>simp
theorem On {bj:Nat}{ls:List Ln}{n d:Int}{bk:Bool}{x y:AV}{op:List Int}{l:List EvV}{τ σ0:List Res}{p:Int × Int}{t:List Int} (hJ:JX x y op l τ σ0) (hll:l.length≤1000000000) (hs:Small ls) (hp:Pl ls p) (ht:t.length≤2000)
  (h1:mU ls p t=true→∀ y' τ',JX x y' op (l++[⟨8,.empty,.empty,(bR t).1,0,false⟩]) τ' σ0→K (.ret (cU (p.1,p.2+((bR t).2.1+1)))) (.obj bj (JC ls n bk d x y')::τ'))
  (h2:mU ls p t=false→K (.pan (bN 2)) (.obj bj (JC ls n bk d x y)::τ)):ACallF κ Tryz.prog 142 [JP bj,cU p,SI o t] (.obj bj (JC ls n bk d x y)::τ) K:=by
 have ha:=eX eK t
 have ha1:(bR t).2.1=(gD eK t:Nat):=rfl
 have hl:=hs.1
 unfold Pl at hp;have hA:bW (p.1,p.2+((bR t).2.1+1)).1∧bW (p.1,p.2+((bR t).2.1+1)).2:=⟨by dsimp only;omega,by dsimp only;omega⟩
 unfold mU at h1 h2;refine ACallF.dropL (aa Tryz.func142 rfl ?_);simp only [Tryz.ntmps142]
 repeat' (first|simp only [WL,ay,WM,reduceCtorEq,bg,Nat.reduceAdd,Nat.reduceSub,Nat.reduceLT,Bool.not_true,true_and,reduceIte,Bool.false_eq_true,cP,dz,CY,CJ,tW,Tryz.results142]|simp (disch:=first|omega|(simp only [aU];omega)) only [an]|(with_reducible first|refine ax (hb:=?_)|refine aA (hK:=?_)|refine az (hK:=?_)|refine aQ (hK:=fun b=>?_)|refine aV (hK:=fun b=>?_)|refine aI (hK:=?_)|refine cD (jQ ?_)|refine cD (H5 (p:=(p.1,p.2+((bR t).2.1+1))) hs hA ?_)|refine cD (EP hJ hll (fun y' τ' hJ'=>?_))|refine cD (cm ?_ ?_)|refine cD (mB (fun h=>?_) (fun h=>?_))|refine cD (ye ?_ ?_))|((with_reducible refine aY ?_);apply di (hf:=Tryz.results142);exact bn)|((with_reducible first|refine ai (fun h=>?_) (fun h=>?_)|refine ab (fun h=>?_) (fun h=>?_))<;>(try simp only [h])<;>(try simp only [bf,ba] at h))|omega)
 all_goals first
  | exact ak (ah (ah (ah ae))) (aj rfl) (h1 (Zv (by assumption) (by assumption)) _ _ (by assumption))
  | exact aS (ah (ah (ah ae))) rfl (h2 (Yb (by first|exact .inl (by assumption)|exact .inr (by assumption))))
theorem TN {bj:Nat}{ls:List Ln}{n d:Int}{bk:Bool}{x y:AV}{op:List Int}{l:List EvV}{ρ τ σ0:List Res}{p:Int × Int}{t:List Int} [hS:Split σ bj ρ (JC ls n bk d x y) τ] (hJ:JX x y op l τ σ0) (hll:l.length≤1000000000) (hs:Small ls) (hp:Pl ls p) (ht:t.length≤2000)
  (h1:mU ls p t=true→∀ y' τ',JX x y' op (l++[⟨8,.empty,.empty,(bR t).1,0,false⟩]) τ' σ0→K (.ret (cU (p.1,p.2+((bR t).2.1+1)))) (ρ ++ .obj bj (JC ls n bk d x y')::τ'))
  (h2:mU ls p t=false→K (.pan (bN 2)) σ):ACallF κ Tryz.prog 142 [JP bj,cU p,SI o t] σ K :=
 ACallF.at_ (b:=bj) (On hJ hll hs hp ht h1 (fun h=>by have:=h2 h;rwa [hS.is] at this))
def dr (l:List Int) (c:Int):Int × Bool:=if c=34 then iW 0 l else jx 0 l
theorem Bt {l:List Int}{c:Int} (hl:l.length≤1000000000) (hK:K (.ret (.tup [I (dr l c).1,B (dr l c).2])) σ):ACallF κ Tryz.prog 171 [SI o l,I c] σ K:=by
 unfold dr at hK;refine ACallF.dropL (aa Tryz.func171 rfl ?_);simp only [Tryz.ntmps171]
 repeat' (first|simp only [WL,ay,WM,reduceCtorEq,bg,Nat.reduceAdd,Nat.reduceSub,Nat.reduceLT,true_and,S1,Uv,Tryz.results171]|(with_reducible first|refine cD (ZM ?_ ?_)|refine cD (YT ?_ ?_))|((with_reducible first|refine ai (fun h=>?_) (fun h=>?_)|refine ab (fun h=>?_) (fun h=>?_))<;>(try simp only [h])<;>(try simp only [bf,ba] at h))|omega)
 ·rw [if_pos (by assumption)] at hK;exact ak ae (aj rfl) hK
 ·rw [if_neg (by assumption)] at hK;exact ak ae (aj rfl) hK
theorem yL:∀ (l:List Int) (k:Nat),(iW k l).2=true→k≤(iW k l).1∧(iW k l).1 < k+l.length
 | [],k,h=>by simp [iW] at h
 | [c],k,h=>by
  unfold iW at h ⊢;split at h
  ·rename_i h0;rw [if_pos h0];simp only [List.length_cons,List.length_nil];omega
  ·cases h
 | c::d::r,k,h=>by
  unfold iW at h ⊢;split at h
  ·rename_i h0
   rw [if_pos h0];have:=yL r (k+2) h
   simp only [List.length_cons] at *;omega
  ·rename_i h0
   rw [if_neg h0];split at h
   ·rename_i h1;rw [if_pos h1];simp only [List.length_cons];omega
   ·rename_i h1
    rw [if_neg h1];have:=yL (d::r) (k+1) h
    simp only [List.length_cons] at *;omega
theorem x7:∀ (l:List Int) (k:Nat),(jx k l).2=true→k≤(jx k l).1∧(jx k l).1 < k+l.length
 | [],k,h=>by simp [jx] at h
 | [c],k,h=>by
  unfold jx at h ⊢;split at h
  ·rename_i h0;rw [if_pos h0];simp only [List.length_cons,List.length_nil];omega
  ·cases h
 | c::d::r,k,h=>by
  unfold jx at h ⊢;split at h
  ·rename_i h0
   rw [if_pos h0];split at h
   ·rename_i h1
    rw [if_pos h1];have:=x7 r (k+2) h
    simp only [List.length_cons] at *;omega
   ·rename_i h1;rw [if_neg h1];simp only [List.length_cons];omega
  ·rename_i h0
   rw [if_neg h0];have:=x7 (d::r) (k+1) h
   simp only [List.length_cons] at *;omega
theorem zB {l:List Int}{c:Int} (h:(dr l c).2=true):0≤(dr l c).1∧(dr l c).1 < l.length:=by
 unfold dr at h ⊢;split at h
 ·rename_i h0;rw [if_pos h0];have:=yL l 0 h;omega
 ·rename_i h0;rw [if_neg h0];have:=x7 l 0 h;omega
def jw (ls:List Ln) (n c:Int):Nat→Int × Int→List Int→List (List Int)→Except Int ((Int × Int) × List (List Int) × Int)
 | f,p,l,all =>
  if (dr l c).2 then .ok (p,all++[l.take (dr l c).1.toNat],(dr l c).1)
  else if bZ ls (p.1+1) then .error 2
  else if (ls.getD (p.1+1).toNat (0,[])).2.all blankI=false∧(ls.getD (p.1+1).toNat (0,[])).1≤n then .error 7
  else match f with
   | 0=>.error 2
   | f+1=>jw ls n c f (p.1+1,(ls.getD (p.1+1).toNat (0,[])).1) (ls.getD (p.1+1).toNat (0,[])).2 (all++[l])
def dk (ls:List Ln) (n c:Int) (q:Int × Int):Except Int (List Int × Int × (Int × Int)) :=
 match jw ls n c ls.length (q.1,q.2+1) (aH ls (q.1,q.2+1)) [] with
 | .error e=>.error e
 | .ok (p,all,k) =>
  if c=34 then (if (kj all).2=0 then .ok ((kj all).1,3,(p.1,p.2+(k+1))) else .error (kj all).2)
  else .ok (kS (all.map o8),2,(p.1,p.2+(k+1)))
theorem o3 {ls:List Ln}{n c:Int}{f:Nat}{p:Int × Int}{l:List Int}{all:List (List Int)}:jw ls n c f p l all =
  if (dr l c).2 then .ok (p,all++[l.take (dr l c).1.toNat],(dr l c).1)
  else if bZ ls (p.1+1) then .error 2
  else if (ls.getD (p.1+1).toNat (0,[])).2.all blankI=false∧(ls.getD (p.1+1).toNat (0,[])).1≤n then .error 7
  else match f with
   | 0=>.error 2
   | f+1=>jw ls n c f (p.1+1,(ls.getD (p.1+1).toNat (0,[])).1) (ls.getD (p.1+1).toNat (0,[])).2 (all++[l]):=by
 cases f<;>rfl
theorem HP (l:List (List Int)):(kj l).1.length≤gm l:=by
 unfold kj;split
 ·simp
 ·exact Nat.le_trans (vG _) (oS l)
theorem sL (a b:List (List Int)):gm (a++b)=gm a+gm b:=by unfold gm;simp
theorem ym (t:List Int):gm [t]=t.length+1:=by unfold gm;simp
theorem yi (a:List (List Int)) (t:List Int):List.map (SI none) a++[AV.sl 1 none (List.map I t)]=List.map (SI none) (a++[t]):=by simp
theorem II       {bj : Nat} {ls : List Ln} {n d c : Int} {bk : Bool} {x y : AV} {op : List Int} {l : List EvV} {τ σ0 : List Res} {v : TrV} {q : Int × Int} (hJ : JX x y op l τ σ0) (hll : l.length ≤ 1000000000) (hs : Small ls) (hp : Pl ls q)
    (h1:∀ t s e,dk ls n c q=.ok (t,s,e)→∀ y' τ',JX x y' op (l++[⟨7,aK t,v.t,v.a,s,false⟩]) τ' σ0→K (.ret (cU e)) (.obj bj (JC ls n bk d x y')::τ'))
    (h2:∀ e,dk ls n c q=.error e→K (.pan (bN e)) (.obj bj (JC ls n bk d x y)::τ)):ACallF κ Tryz.prog 143 [JP bj,cU q,I c,xL v] (.obj bj (JC ls n bk d x y)::τ) K:=by
  have hl:=hs.1
  unfold Pl at hp;have hq1:bW ((q.1,q.2+1):Int × Int).1∧bW ((q.1,q.2+1):Int × Int).2:=⟨by dsimp only;omega,by dsimp only;omega⟩
  have hr:=cj (p:=(q.1,q.2+1)) hs
  refine ACallF.dropL (aa Tryz.func143 rfl ?_);simp only [Tryz.ntmps143]
  repeat' (first|simp only [WL,WM,Nat.reduceAdd,Nat.reduceSub,Nat.reduceLT,true_and,fk,cP,JW]|(with_reducible first|refine ax (hb:=?_)|refine aA (hK:=?_)|refine az (hK:=?_)|refine aQ (hK:=fun b=>?_)|refine aV (hK:=fun b=>?_)|refine cD (fm (p:=(q.1,q.2+1)) hs hq1 ?_)|refine cD (cm ?_ ?_)|refine cD (Bt ?_ ?_))|omega)
  rename_i b5 b7;refine bF (fun z:(Int × Int) × List Int × List (List Int) × Option (Nat × Nat)=>⟨(JP bj::cU q::I c::xL v::.any::JP b5::.any::JP b7::JP b::nB (some z.2.2.2) z.2.2.1::SI none z.2.1::I (dr z.2.1 c).1::B (dr z.2.1 c).2::.any::.any::.any::.any::.any::.any::.any::.any::.any::.any::.any::.any::.any::.any::.any::.any::.any::.any::.any::.any::.any::.any::.any::.any::.any::.any::.any::.any::.any::.any::.any::.any::.any::.any::.any::.any::.any::.any::.any::.any::.any::.any::.any::.any::.any::.any::.any::.any::.any::.any::.any::.any::.any::.any::.any::.any::.any::.any::.any::.any::.any::.any::.any::.any::.any::.any::.any::.any::.any::.any::.any::.any::.any::.any::.any::.any::.any::.any::.any::.any::.any::.any::.any::.any::.any::.any::.any::.any::.any::.any::.any::[]),.tip z.2.2.2::.obj b [I 0,I 0]::.obj b7 (xj v)::.obj b5 [I z.1.1,I z.1.2]::.obj bj (JC ls n bk d x y)::τ,true,[]⟩)
    (fun z=>(∃ f:Nat,(ls.length:Int)≤z.1.1+1+f∧jw ls n c ls.length (q.1,q.2+1) (aH ls (q.1,q.2+1)) []=jw ls n c f z.1 z.2.1 z.2.2.1)∧z.2.1.length≤2000∧gm z.2.2.1≤2001 * (z.1.1 - q.1).toNat∧q.1≤z.1.1∧z.1.1 < ls.length∧0≤z.1.2∧z.1.2≤4001) (fun z=>((ls.length:Int) - z.1.1).toNat) ((q.1,q.2+1),aH ls (q.1,q.2+1),[],none) (aM bH ResW.void id)
    ⟨⟨ls.length,by dsimp only;omega,rfl⟩,hr,by simp [gm],by dsimp only;omega,by dsimp only;omega,by dsimp only;omega,by dsimp only;omega⟩ ?_
  rintro ⟨⟨i,k⟩,cur,all,tk⟩ ⟨⟨f,hf,hR⟩,hc,ht,hi1,hi2,hk1,hk2⟩;dsimp only at hf hR hc ht hi1 hi2 hk1 hk2 ⊢
  replace hR:=hR.trans o3
  dsimp only at hR;have hal:=gF all
  have ha:=hs.at_ (i:=(i+1).toNat)
  have hac:=sL all [cur.take (dr cur c).1.toNat]
  rw [ym,List.length_take] at hac;have hac2:=sL all [cur]
  rw [ym] at hac2;have htt:gm all≤4002000:=by omega
  cases hb:(dr cur c).2
  · simp only [hb,Bool.false_eq_true,if_false] at hR
    cases ho:bZ ls (i+1)
    · simp only [ho,Bool.false_eq_true,if_false] at hR
      have hlt:=ji ho
      have ha:=ha (by omega)
      repeat' (first|simp only [WL,ay,WM,reduceCtorEq,bg,Nat.reduceAdd,Nat.reduceLT,Nat.reduceEqDiff,Bool.not_true,Bool.not_false,true_and,reduceIte,Bool.false_eq_true,T3,cb,gg,jm,fR db,fR c9,fR dR,fR gO,fR yz,tY,dz,oB,JW,CC,ho,yi]|simp (disch:=first|omega|(simp only [aU];omega)) only [an,dO]|(with_reducible first|refine ax (hb:=?_)|refine au (hK:=?_)|refine aA (hK:=?_)|refine az (hK:=?_)|refine aV (hK:=fun b=>?_)|refine cX (hlen:=?_) (hmax:=?_) (hK:=fun tk=>?_)|refine dp (hK:=?_)|refine aI (hK:=?_)|refine cD (mI ?_)|refine cD (p6 hs (by omega) ?_)|refine cD (BR ?_)|refine cD (Bt ?_ ?_)|refine cQ (Cr ?_ aT) ?_)|((with_reducible refine Js (id:=9) [0,1,2,3,4,5,6,7,8] (some 9) [([],some 10),([],none)] mixed ?_ ?_);kernel_rfl)|((with_reducible apply aW);intro σq hq;have hqi:=cy hq;clear hq)|(with_reducible exact b9)|((with_reducible apply bD);rfl;rfl)|(with_reducible refine bV (by first|exact Has.refl|exact Has.cons Has.refl|exact Has.cons (Has.cons Has.refl)) ?_)|((with_reducible refine aE (id:=10) 12 mixed ?_ ?_);kernel_rfl)|((with_reducible refine dH (id:=12) [0,3,4,6,7] (some 1) [([2,5],some 8),([9],none)] mixed ?_ ?_);kernel_rfl)|(with_reducible refine bV (me (by first|(simp;done)|fail)) ?_)|(with_reducible refine bK ?_)|((with_reducible first|refine ai (fun h=>?_) (fun h=>?_)|refine ab (fun h=>?_) (fun h=>?_))<;>(try simp only [h])<;>(try simp only [bf,ba] at h))|omega|(refine bq ?_;(first|omega|(simp only [aU];omega))))
      all_goals first
        | (have he:dk ls n c q=.error 7:=by unfold dk;rw [hR,if_pos ⟨by assumption,by assumption⟩]
           exact aS (ah (ah (ah (ah (ah ae))))) rfl (h2 _ he))
        | skip
      all_goals
        rw [if_neg (by first|(intro h9;have:=h9.2;omega)|exact fun h9=>Bool.false_ne_true (h9.1.symm.trans (by assumption)))] at hR;cases f with
        | zero=>exfalso;omega
        | succ f =>
        refine ⟨((i+1,(ls.getD (i+1).toNat (0,[])).1),(ls.getD (i+1).toNat (0,[])).2,all++[cur],tk),aM bH (ResW.sub (List.sublist_cons_self _ _)) id,⟨⟨f,by dsimp only;omega,hR⟩, ?_, ?_, ?_, ?_, ?_, ?_⟩, ?_⟩<;>dsimp only<;>omega
    · simp only [ho,if_true] at hR
      repeat' (first|simp only [WL,ay,WM,reduceCtorEq,bg,Nat.reduceAdd,Nat.reduceEqDiff,Bool.not_true,Bool.not_false,true_and,T3,fR dR,dz,oB,ho]|simp (disch:=first|omega|(simp only [aU];omega)) only [an]|(with_reducible first|refine ax (hb:=?_)|refine au (hK:=?_)|refine cX (hlen:=?_) (hmax:=?_) (hK:=fun tk=>?_)|refine dp (hK:=?_)|refine cD (jQ ?_)|refine cD (p6 ?_ ?_ ?_))|omega|(refine bq ?_;(first|omega|(simp only [aU];omega))))
      have he:dk ls n c q=.error 2:=by unfold dk;rw [hR]
      exact aS (ah (ah (ah (ah ae)))) rfl (h2 _ he)
  · simp only [hb,if_true] at hR
    have hin:=zB hb
    generalize hA:all++[cur.take (dr cur c).1.toNat]=A at *;have hac3:gm A≤100000000:=by omega
    have hrl:=HP A
    have hfl:=qR (A.map o8)
    have hfu:=sH A
    have hE : dk      ls n c q = if c = 34 then (if (kj    A).2 = 0 then .ok ((kj    A).1, 3, (i, k + ((dr     cur c).1 + 1))) else .error (kj    A).2)
        else .ok (kS (A.map o8),2,(i,k+((dr cur c).1+1))):=by unfold dk;rw [hR]
    clear hR ha hac hac2 hf
    repeat' (first|simp only [WL,ay,WM,Int.reduceToNat,reduceCtorEq,bg,Nat.reduceAdd,Nat.reduceLT,Bool.not_true,true_and,T3,cb,cP,Rj,Tp,M1,Tq,Tryz.results143,yi,hA]|simp (disch:=first|omega|(simp only [aU];omega)) only [an]|(with_reducible first|refine ax (hb:=?_)|refine aA (hK:=?_)|refine az (hK:=?_)|refine cX (hlen:=?_) (hmax:=?_) (hK:=fun tk=>?_)|refine dp (hK:=?_)|refine cD (HZ (l:=A) hac3 ?_)|refine cD (SS (fun h=>?_) (fun h=>?_))|refine cD (Eg hJ hll (by omega) (fun y' τ' hJ'=>?_))|refine cD (cm (p:=(i,k)) (n:=(dr cur c).1+1) (by dsimp only;omega) ?_)|refine cQ (VX ?_ aT) ?_)|((with_reducible refine aY ?_);apply di (hf:=Tryz.results143);exact bn)|((with_reducible apply aW);intro σq hq)|(with_reducible exact b9)|((with_reducible apply bD);rfl;rfl)|(with_reducible refine bV trivial ?_)|((with_reducible refine ik (id:=18) [0,1,2] (some 3) [([],some 4),([],none)] (fun _=>True) trivial mixed ?_ ?_);kernel_rfl)|((with_reducible first|refine ai (fun h=>?_) (fun h=>?_)|refine ab (fun h=>?_) (fun h=>?_))<;>(try simp only [h])<;>(try simp only [bf,ba] at h))|omega|(refine bq ?_;(first|omega|(simp only [aU];omega))))
    all_goals first
      | exact aS (ah (ah (ah (ah ae)))) rfl (h2 _ (hE.trans (by rw [if_pos (by assumption),if_neg (by assumption)])))
      | exact ak (ah (ah (ah (ah ae)))) (aj rfl) (h1 _ _ (i,k+((dr cur c).1+1)) (hE.trans (by rw [if_pos (by assumption),if_pos (by assumption)])) _ _ (by assumption))
      | exact ak (ah (ah (ah (ah ae)))) (aj rfl) (h1 _ _ (i,k+((dr cur c).1+1)) (hE.trans (by rw [if_neg (by assumption)])) _ _ (by assumption))
theorem Ej {bj:Nat}{ls:List Ln}{n d c:Int}{bk:Bool}{x y:AV}{op:List Int}{l:List EvV}{ρ τ σ0:List Res}{v:TrV}{q:Int × Int} [hS:Split σ bj ρ (JC ls n bk d x y) τ] (hJ:JX x y op l τ σ0) (hll:l.length≤1000000000) (hs:Small ls) (hp:Pl ls q)
  (h1:∀ t s e,dk ls n c q=.ok (t,s,e)→∀ y' τ',JX x y' op (l++[⟨7,aK t,v.t,v.a,s,false⟩]) τ' σ0→K (.ret (cU e)) (ρ ++ .obj bj (JC ls n bk d x y')::τ'))
  (h2:∀ e,dk ls n c q=.error e→K (.pan (bN e)) σ):ACallF κ Tryz.prog 143 [JP bj,cU q,I c,xL v] σ K :=
 ACallF.at_ (b:=bj) (II hJ hll hs hp h1 (fun e h=>by have:=h2 e h;rwa [hS.is] at this))
end Go.Proofs.YthkabaiamcjdbaaGreat
namespace Go.Abs
section
variable {κ:Ctx} {P:Program} {all rest:List Oper} {Q:Exit→St→Prop} {d:Option Tmp} {s:St} {m:MA} {x:AV} {o:Option (Option (Nat × Nat))} {sz:Nat}
theorem AAct.argsS {xs ys:List AV}{σ:List Res}{K:AV→List Res→Prop} (hl:qp xs ys) (h:AAct κ P m ys σ K):AAct κ P m xs σ K:=fun φ g w vs hR hv=>h φ g w vs hR (hv.leS hl)
theorem CK (hsz:0 < sz) (h:cu κ false P all Q d rest s m [x,.sl 1 o [.sl sz none []]]):cu κ false P all Q d rest s m [x,.sl 1 o [nilS]] :=
 AAct.argsS (ys:=[x,.sl 1 o [.sl sz none []]]) ⟨cw,RN (N6 rfl rfl (dJ (fg hsz)) trivial),trivial⟩ h
end
end Go.Abs
namespace Go.Proofs.YthkabaiamcjdbaaGreat
open Go.Abs
variable {κ:Ctx} {σ:List Res} {K:Ret→List Res→Prop} {o o':Option (Option (Nat × Nat))}
def gb (ls:List Ln):Nat→Int→Int
 | 0,i=>i
 | f+1,i=>if bZ ls i=false∧(ls.getD i.toNat (0,[])).2.all blankI=true then gb ls f (i+1) else i
theorem wo {ls:List Ln}{i:Int} (h:¬(bZ ls i=false∧(ls.getD i.toNat (0,[])).2.all blankI=true)):∀ f,gb ls f i=i
 | 0=>rfl
 | f+1=>by unfold gb;rw [if_neg h]
theorem CE {ls:List Ln}{i:Int}{f:Nat} (h:bZ ls i=false∧(ls.getD i.toNat (0,[])).2.all blankI=true) (hf:(ls.length:Int)≤i+f):∃ f':Nat,(ls.length:Int)≤i+1+f'∧gb ls f i=gb ls f' (i+1):=by
 have h1:=ji h.1
 cases f with
 | zero=>omega
 | succ f=>exact ⟨f,by omega,by rw [gb,if_pos h]⟩
theorem s8 {ls:List Ln}:∀ (f:Nat) (i:Int),i≤gb ls f i
 | 0,i=>Int.le_refl _
 | f+1,i=>by
  unfold gb;split
  ·have:=s8 (ls:=ls) f (i+1);omega
  ·exact Int.le_refl _
theorem wZ {ls:List Ln}:∀ (f:Nat) (i:Int),(ls.length:Int)≤i+f→bZ ls (gb ls f i)=true∨(ls.getD (gb ls f i).toNat (0,[])).2.all blankI=false
  | 0,i,h=>.inl (by unfold bZ gb;rw [decide_eq_true (by omega)];rfl)
  | f+1,i,h=>by
    unfold gb;split
    · exact wZ f (i+1) (by omega)
    · rename_i h1
      cases h2:bZ ls i
      · exact .inr (by cases h3 : (ls.getD i.toNat (0, [])).2.all blankI
                       · rfl
                       · exact absurd ⟨h2,h3⟩ h1)
      · exact .inl rfl
def bX (ls:List Ln) (n:Int) (ib:Bool) (line:Int):(Int × Int) × Bool :=
 if bZ ls (gb ls ls.length (line+1))=true∨(ls.getD (gb ls ls.length (line+1)).toNat (0,[])).1≤n then ((0,0),false)
 else ((ca ls (gb ls ls.length (line+1),0)).1,!((ca ls (gb ls ls.length (line+1),0)).2.getD 0 0 == 35) && decide (0 < gG (ca ls (gb ls ls.length (line+1),0)).2 (!ib)))
theorem RT {l:List Int} (h:l.all blankI=false):pg l < l.length:=by
 unfold pg;induction l with
 | nil=>simp at h
 | cons c l ih =>
  rw [List.takeWhile_cons];split
  ·rename_i hc
   rw [List.all_cons,hc,Bool.true_and] at h;have:=ih h
   simp only [List.length_cons];omega
  ·simp
theorem PH {ls:List Ln}{i:Int} (hs:Small ls) (h0:0≤i) (h1:i < ls.length) (h:(ls.getD i.toNat (0,[])).2.all blankI=false):0 < (ca ls (i,0)).2.length:=by
 have ha:=hs.at_ (i:=i.toNat) (by omega)
 have hc:fV ls (i,0)=(ls.getD i.toNat (0,[])).1:=by unfold fV;rw [if_pos ⟨h0,h1⟩];dsimp only;omega
 have hr:aH ls (i,fV ls (i,0))=(ls.getD i.toNat (0,[])).2:=by
  rw [hc,gP (by dsimp only;omega) (by dsimp only;omega) (by dsimp only;omega),if_neg (by dsimp only;omega)];dsimp only;rw [show (min ((ls.getD i.toNat (0,[])).1 - max 0 (ls.getD i.toNat (0,[])).1) ((ls.getD i.toNat (0,[])).2.length:Int)).toNat=0 by omega,List.drop_zero]
 unfold ca;dsimp only;rw [hr,List.length_drop];have:=RT h
 omega
theorem wM {ls:List Ln}{n line:Int}{ib:Bool}{q:Int × Int} (hs:Small ls) (h0:0≤line) (h:bX ls n ib line=(q,true)):Pl ls q∧line < q.1∧0 < (aH ls q).length∧gh (aH ls q)=false:=by
  unfold bX at h;split at h
  · cases h
  · rename_i hn
    have h1:=s8 (ls:=ls) ls.length (line+1)
    have h2:=wZ (ls:=ls) ls.length (line+1) (by omega)
    generalize gb ls ls.length (line+1)=i at *
    have h3 : bZ    ls i = false := by cases e : bZ    ls i
                                       · rfl
                                       · exact absurd (.inl e) hn
    have h4:=PH hs (by omega) (ji h3) (h2.resolve_left (by rw [h3];decide))
    obtain ⟨rfl,-⟩:=Prod.mk.inj h;have h5:=nS hs h4
    refine ⟨Pl.of_rest hs (by rw [h5];exact h4),by rw [oA];dsimp only;omega,by rw [h5];exact h4,by rw [h5];exact pT⟩
theorem zF {ls:List Ln}{n line:Int}{ib:Bool} (hs:Small ls) (h0:0≤line):0≤(bX ls n ib line).1.1∧(bX ls n ib line).1.1≤2000:=by
  unfold bX;split
  · exact ⟨Int.le_refl _,by decide⟩
  · rename_i hn
    have h1:=s8 (ls:=ls) ls.length (line+1)
    generalize gb ls ls.length (line+1)=i at *
    have h3 : bZ    ls i = false := by cases e : bZ    ls i
                                       · rfl
                                       · exact absurd (.inl e) hn
    have h4:=ji h3
    have h5:=hs.1
    dsimp only;rw [oA];dsimp only;omega
theorem LB       {bj : Nat} {ls : List Ln} {n d : Int} {bk : Bool} {x y : AV} {op : List Int} {l : List EvV} {ρ τ σ0 : List Res} {i : Int} [hS : Split σ bj ρ (JC ls n bk d x y) τ] (hJ : JX x y op l τ σ0) (hl : op.length ≤ 1000000000) (hs : Small ls) (hi : 0 ≤ i ∧ i ≤ 1000000000)
    (hK:K (.ret (.tup [cU (bX ls n (bk && decide (op.length=0)) i).1,B (bX ls n (bk && decide (op.length=0)) i).2])) σ):ACallF κ Tryz.prog 188 [JP bj,I i] σ K:=by
  haveI hH:=oF hS
  have hlen:=hs.1
  refine ACallF.dropL (aa Tryz.func188 rfl ?_);simp only [Tryz.ntmps188]
  repeat' (first|simp only [WL,ay,WM,reduceCtorEq,bg,Nat.reduceAdd,Nat.reduceSub]|simp (disch:=first|omega|(simp only [aU];omega)) only [an]|with_reducible refine aV (hK:=fun b=>?_))
  refine bF (fun k:Int=>⟨(JP bj::I k::.any::.any::JP b::B false::.any::.any::.any::.any::.any::.any::.any::.any::.any::.any::.any::.any::.any::.any::.any::.any::.any::.any::.any::.any::.any::.any::.any::.any::.any::.any::.any::.any::.any::.any::.any::.any::.any::.any::.any::.any::.any::.any::.any::.any::.any::.any::.any::.any::.any::.any::.any::.any::.any::.any::.any::.any::.any::.any::.any::.any::.any::.any::.any::[]),.obj b [I 0,I 0]::σ,true,[]⟩) (fun k=>(∃ f:Nat,(ls.length:Int)≤k+f∧gb ls ls.length (i+1)=gb ls f k)∧0≤k∧k≤1000000001) (fun k=>((ls.length:Int) - k).toNat) (i+1) (aq bH id) ⟨⟨ls.length,by omega,rfl⟩,by omega,by omega⟩ ?_;rintro k ⟨⟨f,hf,hR⟩,hk0,hk1⟩;by_cases hc:bZ ls k=false∧(ls.getD k.toNat (0,[])).2.all blankI=true
  · have hlt:=ji hc.1
    have ha:=hs.at_ (i:=k.toNat) (by omega)
    have ho:=hc.1
    have he:=hc.2
    repeat' (first|simp only [WL,ay,WM,reduceCtorEq,bg,Nat.reduceAdd,Nat.reduceEqDiff,Bool.not_false,true_and,reduceIte,gg,jm,fR gO,oB,CC,ho,he]|simp (disch:=first|omega|(simp only [aU];omega)) only [an,dO]|(with_reducible first|refine ax (hb:=?_)|refine au (hK:=?_)|refine cD (p6 hs (by omega) ?_)|refine cD (Cr ?_ ?_))|omega)
    obtain ⟨f',hf',hst⟩:=CE hc hf;exact ⟨k+1,aq bH id,⟨⟨f',hf',hR.trans hst⟩,by omega,by omega⟩,by omega⟩
  · rw [wo hc] at hR
    unfold bX at hK;rw [hR] at hK;cases ho:bZ ls k
    · have hlt:=ji ho
      have he:(ls.getD k.toNat (0,[])).2.all blankI=false:=by
        cases e:(ls.getD k.toNat (0,[])).2.all blankI
        · rfl
        · exact absurd ⟨ho,e⟩ hc
      have ha:=hs.at_ (i:=k.toNat) (by omega)
      have hp0:=PH hs hk0 hlt he
      have hpl:=s6 (p:=(k,0)) hs
      have hin:bW ((k,0):Int × Int).1∧bW ((k,0):Int × Int).2:=⟨by dsimp only;omega,by dsimp only;omega⟩
      have hmem:Res.obj bj (JC ls n bk d x y)∈σ:=by rw [hS.is];simp
      obtain ⟨ρx,hR1⟩:=hJ.row;cases e35:((ca ls (k,0)).2.getD 0 0 == 35)
      all_goals
        have e36:((ca ls (k,0)).2.getD 0 0 != 35) = !((ca ls (k,0)).2.getD 0 0 == 35):=rfl
        rw [e35] at e36
        repeat' (first|simp only [WL,ay,WM,Int.reduceToNat,reduceCtorEq,bg,Nat.reduceAdd,Nat.reduceLT,Nat.reduceLeDiff,Nat.reduceEqDiff,Bool.not_true,Bool.not_false,true_and,reduceIte,Bool.false_eq_true,T3,cb,gg,jm,fC db,fR gO,fR yz,sW,gE,oB,CC,Jr,Tryz.results188,ho,he,e36]|simp (disch:=first|omega|(simp only [aU];omega)) only [bL,dO,bL]|(with_reducible first|refine ax (hb:=?_)|refine au (hK:=?_)|refine aA (hK:=?_)|refine az (hK:=?_)|refine aV (hK:=fun b=>?_)|refine aI (hK:=?_)|refine cD (p6 hs (by omega) ?_)|refine cD (Er (p:=(k,0)) hs hin ?_)|refine callD_q (wP hR1 hl aT) ?_|refine cQ (p6 ?_ ?_ aT) ?_|refine cD (Cr ?_ ?_)|refine cQ (Ws ?_ aT) ?_)|((with_reducible refine aY ?_);apply xM (hf:=Tryz.results188);exact bn)|((with_reducible refine aE (id:=4) 18 mixed ?_ ?_);kernel_rfl)|((with_reducible refine TD (r2:=.obj bj (JC ls n bk d x y)) (id:=7) [0,1,2,3,4,5,6,7,8,9,10,11,12] (some 13) [([14],none)] (by simp [hmem]) mixed ?_ ?_);kernel_rfl)|((with_reducible apply aW);intro σq hq;have hqi:=cy hq;clear hq)|(with_reducible exact b9)|((with_reducible apply bD);rfl;rfl)|(with_reducible refine bV (nZ (by first|(simp;done)|fail) (by first|(simp [hmem];done)|fail)) ?_)|(with_reducible refine bK ?_)|((with_reducible first|refine ai (fun h=>?_) (fun h=>?_)|refine ab (fun h=>?_) (fun h=>?_))<;>(try simp only [h])<;>(try simp only [bf,ba] at h))|omega)
      all_goals first
        | (rw [if_pos (.inr (by assumption))] at hK
           exact ak (ah ae) (aj rfl) hK)
        | (rw [if_neg (by rw [ho];simp only [Bool.false_eq_true,false_or];omega),e35] at hK
           exact ak (ah (ah ae)) (aj (by simp)) hK)
    · rw [if_pos (.inl ho)] at hK
      repeat' (first|simp only [WL,WM,Nat.reduceAdd,Bool.not_true,true_and,reduceIte,Bool.false_eq_true,oB,Tryz.results188,ho]|(with_reducible first|refine az (hK:=?_)|refine aI (hK:=?_)|refine cD (p6 hs (by omega) ?_)|refine cQ (p6 ?_ ?_ aT) ?_)|((with_reducible refine aY ?_);apply xM (hf:=Tryz.results188);exact bn)|((with_reducible refine aE (id:=4) 18 mixed ?_ ?_);kernel_rfl)|(with_reducible refine bK ?_)|omega)
      exact ak (ah ae) (aj rfl) hK
def mr (ls:List Ln) (n:Int) (ib:Bool):Nat→Int × Int→List Int→List (List Int)→Except Int (List (List Int) × (Int × Int))
  | f,p,l,all =>
    if 0 < all.length∧ib=true∧0≤BW l false then .error 2
    else if (ca ls (p.1,p.2+(gG l (!ib):Nat))).2.length=0∧(bX ls n ib p.1).2=true then
      (match f with
       | 0=>.error 2
       | f+1=>mr ls n ib f (bX ls n ib p.1).1 (aH ls (bX ls n ib p.1).1) (all++[l.take (gG l (!ib))]++List.replicate ((bX ls n ib p.1).1.1 - p.1 - 1).toNat []))
    else .ok (all++[l.take (gG l (!ib))],(p.1,p.2+(gG l (!ib):Nat)))
theorem kQ        {ls : List Ln} {n : Int} {ib : Bool} {f : Nat} {p : Int × Int} {l : List Int} {all : List (List Int)} : mr     ls n ib f p l all =
    if 0 < all.length∧ib=true∧0≤BW l false then .error 2
    else if (ca ls (p.1,p.2+(gG l (!ib):Nat))).2.length=0∧(bX ls n ib p.1).2=true then
      (match f with
       | 0=>.error 2
       | f+1=>mr ls n ib f (bX ls n ib p.1).1 (aH ls (bX ls n ib p.1).1) (all++[l.take (gG l (!ib))]++List.replicate ((bX ls n ib p.1).1.1 - p.1 - 1).toNat []))
    else .ok (all++[l.take (gG l (!ib))],(p.1,p.2+(gG l (!ib):Nat))):=by
  cases f<;>rfl
def fP (ls:List Ln) (n:Int) (ib:Bool) (p:Int × Int) (l:List Int):Except Int (List Int × (Int × Int)) :=
 match mr ls n ib ls.length p l [] with
 | .error e=>.error e
 | .ok (all,e)=>.ok (kS all,e)
theorem NL      {bj : Nat} {ls : List Ln} {n d : Int} {bk : Bool} {x y : AV} {op : List Int} {l : List EvV} {τ σ0 : List Res} {v : TrV} {q : Int × Int} {t : List Int} (hJ : JX x y op l τ σ0) (hll : l.length ≤ 1000000000) (hlo : op.length ≤ 1000000000) (hs : Small ls) (hp : Pl ls q) (ht : t.length ≤ 2000)
    (h1:∀ s e,fP ls n (bk && decide (op.length=0)) q t=.ok (s,e)→∀ y' τ',JX x y' op (l++[⟨7,aK s,v.t,v.a,1,false⟩]) τ' σ0→K (.ret (cU e)) (.obj bj (JC ls n bk d x y')::τ'))
    (h2:∀ e,fP ls n (bk && decide (op.length=0)) q t=.error e→K (.pan (bN e)) (.obj bj (JC ls n bk d x y)::τ)):ACallF κ Tryz.prog 147 [JP bj,cU q,SI o t,xL v] (.obj bj (JC ls n bk d x y)::τ) K:=by
  have hl:=hs.1
  unfold Pl at hp;generalize hib:(bk && decide (op.length=0))=ib at *;refine ACallF.dropL (aN Tryz.func147 rfl ?_);simp only [Tryz.ntmps147]
  repeat' (first|(with_reducible first|refine aC ?_|refine bO ?_|refine aG ?_)|simp only [WL,WM,Nat.reduceAdd,Nat.reduceSub]|(with_reducible first|refine aQ (hK:=fun b=>?_)|refine aV (hK:=fun b=>?_)))
  rename_i b5 b7;obtain ⟨b8,hb8⟩:∃ b8,b8=b:=⟨b,rfl⟩
  subst hb8;refine dq (fun z:(Int × Int) × List Int × List (List Int) × Option (Nat × Nat)=>⟨(JP bj::cU q::SI none z.2.1::xL v::.any::JP b5::.any::JP b7::JP b8::nB (some z.2.2.2) z.2.2.1::.any::.any::.any::.any::.any::.any::.any::.any::.any::.any::.any::.any::.any::.any::.any::.any::.any::.any::.any::.any::.any::.any::.any::.any::.any::.any::.any::.any::.any::.any::.any::.any::.any::.any::.any::.any::.any::.any::.any::.any::.any::.any::.any::.any::.any::.any::.any::.any::.any::.any::.any::.any::.any::.any::.any::.any::.any::.any::.any::.any::.any::.any::.any::.any::.any::.any::.any::.any::.any::.any::.any::.any::[]),.tip z.2.2.2::.obj b8 [I 0,I 0]::.obj b7 (xj v)::.obj b5 [I z.1.1,I z.1.2]::.obj bj (JC ls n bk d x y)::τ,true,[]⟩)
    (fun z=>(∃ f:Nat,(ls.length:Int)≤z.1.1+f∧mr ls n ib ls.length q t []=mr ls n ib f z.1 z.2.1 z.2.2.1)∧z.2.1.length≤2000∧gm z.2.2.1≤2001 * (z.1.1 - q.1).toNat∧q.1≤z.1.1∧z.1.1 < ls.length∧0≤z.1.2∧z.1.2≤4000) (fun z=>((ls.length:Int) - z.1.1).toNat) (q,t,[],none) (aM bH ResW.void id)
    ⟨⟨ls.length,by dsimp only;omega,rfl⟩,ht,by simp [gm],by dsimp only;omega,by dsimp only;omega,by dsimp only;omega,by dsimp only;omega⟩ ?_
  rintro ⟨⟨i,k⟩,cur,all,tk⟩ ⟨⟨f,hf,hR⟩,hc,htt,hi1,hi2,hk1,hk2⟩;dsimp only at hf hR hc htt hi1 hi2 hk1 hk2 ⊢
  replace hR:=hR.trans kQ
  dsimp only at hR;have hal:=gF all
  have hen:=Ei (l:=cur) (fl:=!ib)
  repeat' (first|(with_reducible first|refine jS (id:=3) ?_|refine aC ?_|refine aG ?_)|simp only [WL,WM,true_and,gE,Jr,hib]|(with_reducible first|refine cD (dV hJ hlo ?_)|refine cD (Ws ?_ ?_))|omega)
  refine nW (fun _:Unit=>⟨(JP bj::cU q::SI none cur::xL v::.any::JP b5::.any::JP b7::JP b8::nB (some tk) all::I (gG cur (!ib):Nat)::.any::.any::.any::.any::.any::.any::.any::.any::.any::.any::.any::.any::.any::.any::.any::.any::.any::.any::.any::.any::.any::.any::.any::.any::.any::.any::.any::.any::.any::.any::.any::.any::.any::.any::.any::.any::.any::.any::.any::.any::.any::.any::.any::.any::.any::.any::.any::.any::.any::.any::.any::.any::.any::.any::.any::.any::.any::.any::.any::.any::.any::.any::.any::.any::.any::.any::.any::.any::.any::.any::.any::[]),.tip tk::.obj b8 [I 0,I 0]::.obj b7 (xj v)::.obj b5 [I i,I k]::.obj bj (JC ls n bk d x y)::τ,true,[]⟩) (fun _=>¬(0 < all.length∧ib=true∧0≤BW cur false)) ?_ ?_
  · cases ib
    all_goals
      repeat' (first|(with_reducible first|refine aG ?_|refine aw ?_)|simp only [WL,ay,WM,ne_eq,reduceCtorEq,not_false_eq_true,Bool.not_true,Bool.not_false,true_and,reduceIte,Bool.false_eq_true,js,dz,gE,UR,hib]|(with_reducible first|refine cD (dV hJ hlo ?_)|refine cD (mB (fun h=>?_) (fun h=>?_))|refine cD (ZQ ?_ ?_))|((with_reducible first|refine ai (fun h=>?_) (fun h=>?_)|refine ab (fun h=>?_) (fun h=>?_))<;>(try simp only [h])<;>(try simp only [bf,ba] at h))|omega)
    all_goals first
      | (have hk:0≤BW cur false:=by have:=of_decide_eq_false (by assumption:decide (BW cur false < 0)=false);omega
         rw [if_pos ⟨by omega,rfl,hk⟩] at hR;exact aS (ah (ah (ah (ah ae)))) rfl (h2 _ (by unfold fP;rw [hR])))
      | exact ⟨(),aq bH id,fun h9=>by omega⟩
      | exact ⟨(),aq bH id,fun h9=>by simp at h9⟩
      | skip
    all_goals
      have h8:=of_decide_eq_true (by assumption:decide (BW cur false < 0)=true)
      exact ⟨(),aq bH id,fun h9=>by omega⟩
  · intro _ hn
    rw [if_neg hn] at hR;have hbe:bW ((i,k+((gG cur (!ib):Nat):Int)):Int × Int).1∧bW ((i,k+((gG cur (!ib):Nat):Int)):Int × Int).2:=⟨by dsimp only;omega,by dsimp only;omega⟩
    have hac:=sL all [cur.take (gG cur (!ib))]
    rw [ym,List.length_take] at hac;generalize hA:all++[cur.take (gG cur (!ib))]=A at *;have hfl:=qR A
    have hfq:=fun (e:(bX ls n ib i).2=true)=>wM (q:=(bX ls n ib i).1) hs (by omega) (Prod.ext rfl e)
    have hfr:=zF (ls:=ls) (n:=n) (ib:=ib) hs (show 0≤i by omega)
    repeat' (first|(with_reducible first|refine aC ?_|refine bO ?_|refine al (al ?_)|refine aG ?_|refine aB ?_|refine aw ?_)|simp only [WL,ay,WM,Int.reduceToNat,reduceCtorEq,bg,Nat.reduceAdd,Nat.reduceLT,Nat.reduceEqDiff,Bool.not_false,true_and,T3,cb,fR dR,sW,cP,M1,Ud,IP,Tryz.results147,hib,yi,hA]|simp (disch:=first|omega|(simp only [aU];omega)) only [an]|(with_reducible first|refine ax (hb:=?_)|refine au (hK:=?_)|refine aA (hK:=?_)|refine az (hK:=?_)|refine aV (hK:=fun b=>?_)|refine cX (hlen:=?_) (hmax:=?_) (hK:=fun tk=>?_)|refine dp (hK:=?_)|refine aI (hK:=?_)|refine cD (Er hs hbe ?_)|refine cD (cm (p:=(i,k)) (n:=((gG cur (!ib):Nat):Int)) (by dsimp only;omega) ?_)|refine cD (LB hJ hlo hs (by omega) ?_)|refine cD (Eg hJ hll (by omega) (fun y' τ' hJ'=>?_))|refine cQ (U0 ?_ aT) ?_)|((with_reducible refine aY ?_);apply di (hf:=Tryz.results147);exact bn)|((with_reducible refine ik (id:=12) [0,1,2] (some 3) [([],some 4),([],none)] (fun _=>True) trivial mixed ?_ ?_);kernel_rfl)|((with_reducible apply aW);intro σq hq)|(with_reducible exact b9)|((with_reducible apply bD);rfl;rfl)|(with_reducible refine bV trivial ?_)|((with_reducible first|refine ai (fun h=>?_) (fun h=>?_)|refine ab (fun h=>?_) (fun h=>?_))<;>(try simp only [h])<;>(try simp only [bf,ba] at h))|omega|(refine bq ?_;(first|omega|(simp only [aU];omega))))
    all_goals first
      | (rw [if_neg (by first|(intro h9;have:=h9.1;omega)|exact fun h9=>Bool.false_ne_true ((by assumption:(bX ls n ib i).2=false).symm.trans h9.2))] at hR
         exact ak bC (aj rfl) (h1 (kS A) (i,k+(gG cur (!ib):Nat)) (by unfold fP;rw [hR]) _ _ (by assumption)))
      | skip
    rename_i c11 c12 hm;obtain ⟨g1,g2,g3,-⟩:=hfq h;rw [if_pos ⟨by omega,h⟩] at hR;have g4:=cj (p:=(bX ls n ib i).1) hs
    generalize hq2:(bX ls n ib i).1=q2 at *;unfold Pl at g1;cases f with
    | zero=>exfalso;omega
    | succ f =>
    refine dq (fun z:Nat × Option (Nat × Nat)=>⟨(JP bj::cU q::SI none cur::xL v::.any::JP b5::.any::JP b7::JP b8::nB (some z.2) (A++List.replicate z.1 [])::.any::.any::JP c12::.any::.any::.any::.any::.any::.any::.any::.any::.any::.any::.any::.any::.any::.any::.any::.any::.any::.any::.any::.any::.any::.any::.any::.any::.any::.any::.any::.any::.any::.any::.any::.any::.any::.any::.any::.any::.any::.any::.any::.any::.any::.any::.any::.any::.any::.any::.any::.any::.any::.any::.any::.any::.any::.any::.any::.any::.any::.any::I (q2.1 - i - 1)::I z.1::.any::.any::.any::.any::.any::.any::.any::.any::.any::[]),.obj b [I (ca ls (i,k+(gG cur (!ib):Nat))).1.1,I (ca ls (i,k+(gG cur (!ib):Nat))).1.2]::.obj c12 [I q2.1,I q2.2]::.obj c11 [I i,I (k+(gG cur (!ib):Nat))]::.tip z.2::.obj b8 [I 0,I 0]::.obj b7 (xj v)::.obj b5 [I i,I k]::.obj bj (JC ls n bk d x y)::τ,true,[]⟩) (fun z=>(z.1:Int)≤q2.1 - i - 1) (fun z=>(q2.1 - i - 1).toNat - z.1) (0,tk) ?_ (by dsimp only;omega) ?_
    · exact aq (by simp only [List.replicate_zero,List.append_nil];exact bH) id
    rintro ⟨m,tk2⟩ h9;dsimp only at h9 ⊢;have hAl:=gF A
    have hAm:(A++List.replicate m ([]:List Int)).length≤10000000:=by rw [List.length_append,List.length_replicate];omega
    have hnx:List.map (SI none) (A++List.replicate m [])++[AV.sl 1 none []]=List.map (SI none) (A++List.replicate (m+1) []):=by rw [List.replicate_succ',← List.append_assoc,List.map_append (l₂:=[[]])];rfl
    repeat' (first|( with_reducible refine CK (sz:=1) (by decide) ?_)|(with_reducible first|refine al (aC ?_)|refine aG ?_|refine aB ?_)|simp only [WL,ay,WM,reduceCtorEq,bg,Nat.reduceAdd,true_and,fk,hnx]|simp (disch:=first|omega|(simp only [aU];omega)) only [an]|(with_reducible first|refine aA (hK:=?_)|refine az (hK:=?_)|refine cX (hlen:=?_) (hmax:=?_) (hK:=fun tk=>?_)|refine dp (hK:=?_)|refine cD (fm (p:=q2) hs ⟨by omega,by omega⟩ ?_))|((with_reducible refine eE (id:=18) [0,1,2] (some 3) [([],some 4),([5],none)] mixed ?_ ?_);kernel_rfl)|((with_reducible apply aW);intro σq hq;have hqi:=cy hq;clear hq)|(with_reducible exact b9)|((with_reducible apply bD);rfl;rfl)|(with_reducible refine bV (nZ (by first|(simp;done)|fail) (by first|(simp;done)|fail)) ?_)|((with_reducible first|refine ai (fun h=>?_) (fun h=>?_)|refine ab (fun h=>?_) (fun h=>?_))<;>(try simp only [h])<;>(try simp only [bf,ba] at h))|omega|(refine bq ?_;(first|omega|(simp only [aU];omega))))
    · exact ⟨(m+1,tk),aq bH id,by dsimp only;omega,by dsimp only;omega⟩
    · obtain rfl:m=(q2.1 - i - 1).toNat:=by omega
      have htA:=sL A (List.replicate (q2.1 - i - 1).toNat [])
      have htr:gm (List.replicate (q2.1 - i - 1).toNat ([]:List Int))=(q2.1 - i - 1).toNat:=by simp [gm]
      exact ⟨(q2,aH ls q2,A++List.replicate (q2.1 - i - 1).toNat [],tk2),aM bH (ResW.sub ((List.sublist_cons_self _ _).trans ((List.sublist_cons_self _ _).trans (List.sublist_cons_self _ _)))) id,⟨⟨f,by dsimp only;omega,hR⟩,g4,by dsimp only;omega,by dsimp only;omega,by dsimp only;omega,by dsimp only;omega,by dsimp only;omega⟩,by dsimp only;omega⟩
theorem oO {bj:Nat}{ls:List Ln}{n d:Int}{bk:Bool}{x y:AV}{op:List Int}{l:List EvV}{ρ τ σ0:List Res}{v:TrV}{q:Int × Int}{t:List Int} [hS:Split σ bj ρ (JC ls n bk d x y) τ] (hJ:JX x y op l τ σ0) (hll:l.length≤1000000000) (hlo:op.length≤1000000000) (hs:Small ls) (hp:Pl ls q) (ht:t.length≤2000)
  (h1:∀ s e,fP ls n (bk && decide (op.length=0)) q t=.ok (s,e)→∀ y' τ',JX x y' op (l++[⟨7,aK s,v.t,v.a,1,false⟩]) τ' σ0→K (.ret (cU e)) (ρ ++ .obj bj (JC ls n bk d x y')::τ'))
  (h2:∀ e,fP ls n (bk && decide (op.length=0)) q t=.error e→K (.pan (bN e)) σ):ACallF κ Tryz.prog 147 [JP bj,cU q,SI o t,xL v] σ K :=
 ACallF.at_ (b:=bj) (NL hJ hll hlo hs hp ht h1 (fun e h=>by have:=h2 e h;rwa [hS.is] at this))
abbrev NodeR:=Except Int (List EvV × (Int × Int) × Bool)
abbrev PartR:=Except Int (List EvV × (Int × Int))
abbrev mL (v:TrV):EvV:=⟨7,.empty,v.t,v.a,1,false⟩
abbrev iP (k:Int) (v:TrV):EvV:=⟨k,.empty,v.t,v.a,0,true⟩
abbrev ga (k:Int):EvV:=⟨k,.empty,.empty,.empty,0,false⟩
def dh (ls:List Ln) (n:Int) (p:Int × Int):Except Int (Int × Int) :=
 match zj ls n p with
 | none=>.error 7
 | some none=>.error 2
 | some (some q)=>.ok q
def gH (ls:List Ln) (p:Int × Int) (c:Int):Bool:=bU (aH ls p) c && !eW (aH ls p) 1 true
def uf (ls:List Ln) (p:Int × Int) (k:(Int × Int) × Bool):Bool:=gH ls p 58 || (l8 ls p 58 && k.2 && decide (k.1=p))
def jW (v:TrV):Bool:=!cf v.a || !cf v.t
def fO (ls:List Ln) (n:Int) (N:Int × Int→NodeR) (key:(Int × Int) × Bool) (shut:Int):PartR :=
 match dh ls n key.1 with
 | .error e=>.error e
 | .ok p =>
  if uf ls p key=false then .ok ([mL uX],key.1)
  else match dh ls n (p.1,p.2+1) with
   | .error e=>.error e
   | .ok q =>
    if (l8 ls q 44 || l8 ls q shut)=true then .ok ([mL uX],(p.1,p.2+1))
    else match N q with
     | .error e=>.error e
     | .ok (ev,e,_)=>.ok (ev,e)
def gr (ls:List Ln) (n:Int) (N:Int × Int→NodeR) (p:Int × Int) (shut:Int):NodeR :=
 match dh ls n (p.1,p.2+1) with
 | .error e=>.error e
 | .ok q =>
  if (l8 ls q 44 || l8 ls q shut || gH ls q 58)=true then .ok ([mL uX],(p.1,p.2+1),false)
  else N q
def hZ (ls:List Ln) (n:Int) (N:Int × Int→NodeR) (r:NodeR) (shut:Int):PartR :=
 match r with
 | .error e=>.error e
 | .ok (ev,key)=>match fO ls n N key shut with
  | .error e=>.error e
  | .ok (ev2,e)=>.ok (ev++ev2,e)
def lZ (ls:List Ln) (n:Int) (N:Int × Int→NodeR) (p:Int × Int):PartR :=
 if gH ls p 63=true then hZ ls n N (gr ls n N p 125) 125 else hZ ls n N (N p) 125
def ky:Int→Int→List EvV→Int
 | _,m,[]=>m
 | d,m,e::l=>if e.k=3∨e.k=5 then ky (d+1) (max m (d+1)) l else if e.k=4∨e.k=6 then ky (d - 1) m l else ky d m l
def o1 (l:List EvV):Int:=ky 0 0 l
def w9 (r:PartR):PartR :=
 match r with
 | .error e=>.error e
 | .ok (ev,e)=>.ok (iP 5 uX::(ev++[ga 6]),e)
def Dr (ls:List Ln) (p q:Int × Int) (key:(Int × Int) × Bool):Bool:=decide (key.1.1=p.1) && (decide (q.1=p.1) && (decide (q.2 - p.2≤1024) && uf ls q key))
def jd (ls:List Ln) (n d:Int) (k:Nat) (N N1:Int × Int→NodeR) (p:Int × Int):PartR :=
 if gH ls p 63=true then
  (if cO d k 0=false then .error 8 else w9 (hZ ls n N1 (gr ls n N1 p 93) 93))
 else match N p with
  | .error e=>.error e
  | .ok (ev,key)=>match dh ls n key.1 with
   | .error e=>.error e
   | .ok q =>
    if Dr ls p q key=false then .ok (ev,key.1)
    else if cO d k (o1 ev)=false then .error 8
    else w9 (hZ ls n N1 (.ok (ev,key)) 93)
def dF (ls:List Ln) (n:Int) (E:Int × Int→PartR) (shut:Int):Nat→Int × Int→List EvV→PartR
 | 0,_,_=>.error 2
 | f+1,q,acc =>
  if l8 ls q shut=true then .ok (acc,q)
  else match E q with
   | .error e=>.error e
   | .ok (ev,e)=>match dh ls n e with
    | .error e=>.error e
    | .ok q2 =>
     if l8 ls q2 44=false then (if l8 ls q2 shut=true then .ok (acc++ev,q2) else .error 2)
     else match dh ls n (q2.1,q2.2+1) with
      | .error e=>.error e
      | .ok q3=>dF ls n E shut f q3 (acc++ev)
def mu (p:Int × Int):Nat:=((2001 - p.1) * 5000+4999 - min p.2 4999).toNat
def l5 (ls:List Ln) (n d:Int) (k:Nat) (N:Nat→Int × Int→NodeR) (p:Int × Int) (c:Int) (v:TrV):PartR :=
 if cO d k 0=false then .error 8
 else match dh ls n (p.1,p.2+1) with
  | .error e=>.error e
  | .ok q=>match dF ls n (if c=123 then lZ ls n (N (k+1)) else jd ls n d (k+1) (N (k+1)) (N (k+2))) (if c=123 then 125 else 93) (mu p+1) q [] with
   | .error e=>.error e
   | .ok (ev,e)=>.ok (iP (if c=123 then 5 else 3) v::(ev++[ga (if c=123 then 6 else 4)]),(e.1,e.2+1))
def rq (ls:List Ln) (n d:Int) (bk:Bool) (N:Nat→Int × Int→NodeR) (k:Nat) (v:TrV) (q:Int × Int) (l:List Int):NodeR :=
  if bU l 42=true then
    (if jW v=true then .error 2 else if mU ls q (l.drop 1)=true then .ok ([⟨8,.empty,.empty,(bR (l.drop 1)).1,0,false⟩],(q.1,q.2+((bR (l.drop 1)).2.1+1)),false) else .error 2)
  else if bU l 34=true∨bU l 39=true then
    (match dk ls n (l.getD 0 0) q with
     | .error e=>.error e
     | .ok (t,s,e)=>.ok ([⟨7,aK t,v.t,v.a,s,false⟩],e,true))
  else if bU l 91=true∨bU l 123=true then
    (match l5 ls n d k N q (l.getD 0 0) v with
     | .error e=>.error e
     | .ok (ev,e)=>.ok (ev,e,true))
  else if 0 < l.length∧fJ l (!(bk && decide (k=0)))=true then
    (match fP ls n (bk && decide (k=0)) q l with
     | .error e=>.error e
     | .ok (t,e)=>.ok ([⟨7,aK t,v.t,v.a,1,false⟩],e,false))
  else if jW v=true then .ok ([mL v],v.q,false) else .error 2
def ki (ls:List Ln) (n d:Int) (bk:Bool) (N:Nat→Int × Int→NodeR) (k:Nat) (p:Int × Int):NodeR :=
 match bS ls n p with
 | .error e=>.error e
 | .ok (v,q,ok)=>rq ls n d bk N k v q (if ok=true then aH ls q else [])
def lb (ls:List Ln) (n d:Int) (bk:Bool):Nat→Nat→Int × Int→NodeR
 | 0=>ki ls n d bk (fun _ _=>.error 8)
 | f+1=>ki ls n d bk (lb ls n d bk f)
/-! ### What places there are -/
theorem iu {p q:Int × Int} (h:Le2 p q) (h0:0≤q.2) (h1:0≤p.2):mu q≤mu p:=by
 unfold mu;unfold Le2 at h;omega
theorem Uq {p:Int × Int}{k:Nat} (h0:0≤p.2) (h1:p.2+k≤4001) (h2:p.1≤2000):mu (p.1,p.2+k)+k=mu p:=by
 unfold mu;dsimp only;omega
theorem zQ {p:Int × Int} (h:0≤p.1∧0≤p.2):mu p≤10009999:=by
 unfold mu;omega
end Go.Proofs.YthkabaiamcjdbaaGreat
namespace Go.Abs
class TTwo (P:Program) (t:TypeId):Prop where
 ex : ∃ (f1 f2 : Field) (k1 k2 : IntKind), P.underlying t = some (.struct #[f1, f2]) ∧ f1.name ≠ "_" ∧ f2.name ≠ "_" ∧ f1.offset = 0 ∧ f2.offset = 1 ∧ P.underlying f1.type = some (.int k1) ∧ P.underlying f2.type = some (.int k2) ∧ aggT P f1.type = some false ∧ aggT P f2.type = some false
 stood:P.stoodInHeld t=false
 guard:P.eqGuardType P.depth t=false
section
variable {κ:Ctx} {P:Program} {all rest:List Oper} {Q:Exit→St→Prop} {d:Option Tmp} {t:List AV} {σ:List Res} {fr:Bool} {df:List Deferred}
theorem Ak {ty:TypeId}{k:IntKind} (n:Nat) (h:P.underlying ty=some (.int k)) {a c:Int}{w:World}:(Op.equalIn (n+1) ty (.int .i64 a) (.int .i64 c)).run P w=.ok (a == c) w:=by
 simp [Op.equalIn,bE h]
theorem J7 {ty:TypeId} (n:Nat) (h:TTwo P ty) {a b c e:Int}{w:World}:(Op.equalIn (n+1+1) ty (.agg #[.int .i64 a,.int .i64 b]) (.agg #[.int .i64 c,.int .i64 e])).run P w=.ok (a == c && b == e) w:=by
 obtain ⟨f1,f2,k1,k2,h1,h2,h3,h4,h5,h6,h7,h8,h9⟩:=h.ex;have hp:(program).run P w=.ok P w:=rfl
 have s1:=Ak n h6 (a:=a) (c:=c) (w:=w)
 have s2:=Ak n h7 (a:=b) (c:=e) (w:=w)
 have p1:∀ x y:Int,(part f1.type #[.int .i64 x,.int .i64 y] f1.offset).run P w=.ok (.int .i64 x) w:=fun x y=>by simp [part,dC h8,h4]
 have p2:∀ x y:Int,(part f2.type #[.int .i64 x,.int .i64 y] f2.offset).run P w=.ok (.int .i64 y) w:=fun x y=>by simp [part,dC h9,h5]
 rw [Op.equalIn];simp only [Sem.run_bind,bE h1,Result.andThen_ok,hp,h.stood];cases e1:(a == c)<;>cases e2:(b == e)<;>simp [h2,h3,s1,s2,p1,p2,e1,e2]
theorem GF {ty:TypeId} (h:TTwo P ty) {a b c e:Int}{w:World}:(Op.equal ty (.agg #[.int .i64 a,.int .i64 b]) (.agg #[.int .i64 c,.int .i64 e])).run P w=.ok (a == c && b == e) w:=by
 have:=J7 (w:=w) (a:=a) (b:=b) (c:=c) (e:=e) 9998 h
 simp only [Op.equal,show Op.maxDepth=9998+1+1 from rfl,this]
theorem H4 {ty:TypeId}{a b c e:Int} [h:TTwo P ty] (hK:dw κ false P all Q d rest ⟨t,σ,fr,df⟩ (B (a == c && b == e)) σ):ij κ false P all Q d rest ⟨t,σ,fr,df⟩ .eql ty (.agg [I a,I b]) (.agg [I c,I e]):=by
 refine ⟨by unfold jT;rw [h.guard];rfl, ?_⟩;show AAct κ P (.bin .eql ty) [.agg [I a,I b],.agg [I c,I e]] σ _
 intro φ g w vs hR hvs;obtain ⟨v,u,rfl,hu,hv⟩:=dA hvs;cases fv (l:=[.int .i64 a,.int .i64 b]) hu
 cases fv (l:=[.int .i64 c,.int .i64 e]) hv
 refine ⟨.bool (a == c && b == e),w,g,_,σ, ?_,hR,GE.refl _ _,.raw _,hK⟩;show (binOp .eql ty (.agg #[.int .i64 a,.int .i64 b]) (.agg #[.int .i64 c,.int .i64 e])).run P w=_
 simp only [binOp,Sem.run_bind,GF h];rfl
end
end Go.Abs
namespace Go.Proofs.YthkabaiamcjdbaaGreat
open Go.Abs
variable {κ:Ctx} {σ:List Res} {K:Ret→List Res→Prop} {o o':Option (Option (Nat × Nat))}
abbrev vh (k:(Int × Int) × Bool):AV:=.agg [I k.1.1,I k.1.2,B k.2]
theorem qo {v:TrV} (hK:K (.ret (B (jW v))) σ):ACallF κ Tryz.prog 88 [xL v] σ K:=by
 unfold jW cf at hK;have e1:(v.a.toList == ({ data:=#[] }:ByteArray).toList)=true∨(v.a.toList == ({ data:=#[] }:ByteArray).toList)=false:=by cases (v.a.toList == ({ data:=#[] }:ByteArray).toList)<;>simp
 refine ACallF.dropL (aa Tryz.func88 rfl ?_);simp only [Tryz.ntmps88]
 repeat' (first|simp only [WL,dx,WM,Nat.reduceAdd,Nat.reduceSub,Nat.reduceEqDiff,Bool.not_false,true_and,reduceIte,Bool.false_eq_true,T9,fR iD,fR ir,Tryz.results88]|(with_reducible first|refine ax (hb:=?_)|refine au (hK:=?_)|refine aQ (hK:=fun b=>?_))|((with_reducible first|refine ai (fun h=>?_) (fun h=>?_)|refine ab (fun h=>?_) (fun h=>?_))<;>(try simp only [h])<;>(try simp only [bf,ba] at h)))
 ·exact ak (ah ae) (aj (by rw [beq_iff_eq.2 (by assumption:v.a.toList=({ data:=#[] }:ByteArray).toList)];rfl)) hK
 ·exact ak (ah ae) (aj (by rw [beq_eq_false_iff_ne.2 (by assumption:¬v.a.toList=({ data:=#[] }:ByteArray).toList)];rfl)) hK
theorem fD {b ix:Nat}{ls:List Ln}{n d:Int}{bk:Bool}{x y:AV} [hJ:Hold σ b ix (JC ls n bk d x y)] {p:Int × Int}{c:Int} (hs:Small ls) (hp:bW p.1∧bW p.2) (hK:K (.ret (B (gH ls p c))) σ) :
  ACallF κ Tryz.prog 203 [JP b,cU p,I c] σ K:=by
 have hr:=cj (p:=p) hs
 unfold gH bU at hK;refine ACallF.dropL (aa Tryz.func203 rfl ?_);simp only [Tryz.ntmps203]
 repeat' (first|simp only [WL,ay,WM,Int.reduceToNat,reduceCtorEq,bg,Nat.reduceAdd,Nat.reduceSub,Nat.reduceLeDiff,Bool.not_true,true_and,reduceIte,Bool.false_eq_true,T3,cb,fk,yA,Tryz.results203]|simp (disch:=first|omega|(simp only [aU];omega)) only [bL]|(with_reducible first|refine ax (hb:=?_)|refine aA (hK:=?_)|refine aQ (hK:=fun b=>?_)|refine cD (fm hs hp ?_)|refine cD (p8 (i:=1) ?_ ?_ ?_))|((with_reducible first|refine ai (fun h=>?_) (fun h=>?_)|refine ab (fun h=>?_) (fun h=>?_))<;>(try simp only [h])<;>(try simp only [bf,ba] at h))|omega)
 ·rw [decide_eq_true (by omega),beq_iff_eq.2 (by assumption:(aH ls p).getD 0 0=c)] at hK
  exact ak (ah ae) (aj rfl) hK
 ·rw [beq_eq_false_iff_ne.2 (by assumption:¬(aH ls p).getD 0 0=c),Bool.and_false] at hK
  exact ak (ah ae) (aj rfl) hK
 ·rw [decide_eq_false (by omega)] at hK
  exact ak (ah ae) (aj rfl) hK
instance:TTwo Tryz.prog 131:=⟨⟨_,_,_,_,Tryz.underlying131,by decide,by decide,rfl,rfl,Tryz.underlying3,Tryz.underlying3,Ut,Ut⟩,by decide +kernel,by decide +kernel⟩
theorem JM {a b:Int × Int}:(a.1 == b.1 && a.2 == b.2)=decide (a=b):=by
 rw [Bool.eq_iff_iff];simp [Prod.ext_iff]
theorem ub {b ix:Nat}{ls:List Ln}{n d:Int}{bk:Bool}{x y:AV} [hJ:Hold σ b ix (JC ls n bk d x y)] {p:Int × Int}{k:(Int × Int) × Bool} (hs:Small ls) (hp:bW p.1∧bW p.2) (hK:K (.ret (B (uf ls p k))) σ) :
  ACallF κ Tryz.prog 206 [JP b,cU p,vh k] σ K:=by
 unfold uf at hK;cases h1:gH ls p 58<;>cases h2:l8 ls p 58<;>cases h3:k.2
 all_goals
  rw [h1,h2,h3] at hK;refine ACallF.dropL (aa Tryz.func206 rfl ?_);simp only [Tryz.ntmps206]
  repeat' (first|( with_reducible refine H4 ?_)|simp only [WL,WM,Nat.reduceAdd,Nat.reduceSub,Nat.reduceEqDiff,true_and,reduceIte,Bool.false_eq_true,T4,ja,fR fE,fR O9,dB,fi,Tryz.results206,h1,h2,h3,JM]|(with_reducible first|refine ax (hb:=?_)|refine au (hK:=?_)|refine aA (hK:=?_)|refine aQ (hK:=fun b=>?_)|refine cD (fD hs hp ?_)|refine cD (o7 hs hp ?_)))
 all_goals first
  | exact ak (ah (ah ae)) (aj rfl) hK
  | exact ak (ah (ah ae)) (aj (congrArg B (by simp))) hK
theorem fQ {ls:List Ln}{n:Int}{p q:Int × Int} (hs:Small ls) (h:dh ls n p=.ok q):Le2 p q∧Pl ls q∧0 < (aH ls q).length∧gh (aH ls q)=false:=by
 unfold dh at h;split at h
 ·cases h
 ·cases h
 ·rename_i q' hq
  cases h
  obtain ⟨h1,h2,h3⟩:=xA hs hq;exact ⟨h1,Pl.of_rest hs h2,h2,h3⟩
theorem e8 {ls:List Ln}{n:Int}{p q:Int × Int} (hs:Small ls) (h:dh ls n p=.ok q) (hp:0≤p.2):mu q≤mu p:=by
 obtain ⟨h1,h2,-⟩:=fQ hs h;unfold Pl at h2;exact iu h1 h2.2.2.1 hp
abbrev PlW (p:Int × Int):Prop:=0≤p.1∧p.1≤1000000000∧bW p.2∧0≤p.2
theorem Pl.w {ls:List Ln}{p:Int × Int} (hs:Small ls) (h:Pl ls p):PlW p:=by
 have:=hs.1
 unfold Pl at h;unfold PlW;omega
theorem Pl.w1 {ls:List Ln}{p:Int × Int} (hs:Small ls) (h:Pl ls p):PlW (p.1,p.2+1):=by
 have:=hs.1
 unfold Pl at h;unfold PlW;dsimp only;omega
theorem Pl.in64 {ls:List Ln}{p:Int × Int} (hs:Small ls) (h:Pl ls p):bW p.1∧bW p.2:=by
 have:=hs.1
 unfold Pl at h;exact ⟨by omega,by omega⟩
theorem PlW.in64 {p:Int × Int} (h:PlW p):bW p.1∧bW p.2:=⟨by have:=h.1;have:=h.2.1;omega,h.2.2.1⟩
theorem Lt {bj ix:Nat}{ls:List Ln}{n d:Int}{bk:Bool}{x y:AV} [hJ:Hold σ bj ix (JC ls n bk d x y)] {p:Int × Int} (hs:Small ls) (hp:PlW p)
  (h1:∀ q,dh ls n p=.ok q→K (.ret (cU q)) σ) (h2:∀ e,dh ls n p=.error e→K (.pan (bN e)) σ):ACallF κ Tryz.prog 180 [JP bj,cU p] σ K :=
 Yk hs hp (fun q h=>h1 q (by unfold dh;rw [h])) (fun h=>h2 2 (by unfold dh;rw [h])) (fun h=>h2 7 (by unfold dh;rw [h]))
theorem cq {bj ix:Nat}{ls:List Ln}{n d:Int}{bk:Bool}{x y:AV} [hJ:Hold σ bj ix (JC ls n bk d x y)] {p q:Int × Int} (hm:dh ls n p=.ok q) (hs:Small ls) (hp:PlW p) (hK:K (.ret (cU q)) σ):ACallF κ Tryz.prog 180 [JP bj,cU p] σ K :=
 Lt hs hp (fun q' h=>by rw [hm] at h;cases h;exact hK) (fun e h=>by rw [hm] at h;cases h)
theorem jq {bj ix:Nat}{ls:List Ln}{n d e:Int}{bk:Bool}{x y:AV} [hJ:Hold σ bj ix (JC ls n bk d x y)] {p:Int × Int} (hm:dh ls n p=.error e) (hs:Small ls) (hp:PlW p) (hK:K (.pan (bN e)) σ):ACallF κ Tryz.prog 180 [JP bj,cU p] σ K :=
 Lt hs hp (fun q' h=>by rw [hm] at h;cases h) (fun e h=>by rw [hm] at h;cases h;exact hK)
def fU (ls:List Ln) (N:Int × Int→NodeR):Prop:=∀ p ev e t,Pl ls p→N p=.ok (ev,e,t)→Le2 p e∧Pl ls e∧ev.length+4+8 * mu e≤8 * mu p∧0 < ev.length
def gS (κ:Ctx) (bj:Nat) (ls:List Ln) (n d:Int) (bk:Bool) (N:Int × Int→NodeR) (k:Nat):Prop :=
 ∀ {x y:AV} {op:List Int} {l:List EvV} {τ σ0:List Res} {p:Int × Int} {K:Ret→List Res→Prop},op.length=k→JX x y op l τ σ0→Pl ls p→l.length+8 * mu p+8≤1000000000 →
  (∀ ev e t,N p=.ok (ev,e,t)→∀ x' y' τ',JX x' y' op (l++ev) τ' σ0→K (.ret (vh (e,t))) (.obj bj (JC ls n bk d x' y')::τ')) →
  (∀ e,N p=.error e→∀ x' y' op' l' τ',JX x' y' op' l' τ' σ0→K (.pan (bN e)) (.obj bj (JC ls n bk d x' y')::τ')) →
  ACallF κ Tryz.prog 119 [JP bj,cU p] (.obj bj (JC ls n bk d x y)::τ) K
theorem K2 {bj k:Nat}{ls:List Ln}{n d:Int}{bk:Bool}{N:Int × Int→NodeR}{x y:AV}{op:List Int}{l:List EvV}{ρ τ σ0:List Res}{p:Int × Int} (hN:gS κ bj ls n d bk N k) (hk:op.length=k) [hS:Split σ bj ρ (JC ls n bk d x y) τ] (hJ:JX x y op l τ σ0) (hp:Pl ls p) (hb:l.length+8 * mu p+8≤1000000000)
  (h1:∀ ev e t,N p=.ok (ev,e,t)→∀ x' y' τ',JX x' y' op (l++ev) τ' σ0→K (.ret (vh (e,t))) (ρ ++ .obj bj (JC ls n bk d x' y')::τ'))
  (h2:∀ e,N p=.error e→∀ x' y' op' l' τ',JX x' y' op' l' τ' σ0→K (.pan (bN e)) (ρ ++ .obj bj (JC ls n bk d x' y')::τ')) :
  ACallF κ Tryz.prog 119 [JP bj,cU p] σ K :=
 ACallF.at_ (b:=bj) (hN hk hJ hp hb h1 h2)
theorem nt {bj k:Nat}{ls:List Ln}{n d:Int}{bk:Bool}{N:Int × Int→NodeR}{x y:AV}{op:List Int}{l ev:List EvV}{ρ τ σ0:List Res}{p e:Int × Int}{t:Bool} (hN:gS κ bj ls n d bk N k) (hn:N p=.ok (ev,e,t)) (hk:op.length=k) [hS:Split σ bj ρ (JC ls n bk d x y) τ] (hJ:JX x y op l τ σ0) (hp:Pl ls p) (hb:l.length+8 * mu p+8≤1000000000)
  (h1:∀ x' y' τ',JX x' y' op (l++ev) τ' σ0→K (.ret (vh (e,t))) (ρ ++ .obj bj (JC ls n bk d x' y')::τ')):ACallF κ Tryz.prog 119 [JP bj,cU p] σ K :=
 K2 hN hk hJ hp hb (fun ev' e' t' h=>by rw [hn] at h;cases h;exact h1) (fun e' h=>by rw [hn] at h;cases h)
theorem sx {bj k:Nat}{ls:List Ln}{n d e:Int}{bk:Bool}{N:Int × Int→NodeR}{x y:AV}{op:List Int}{l:List EvV}{ρ τ σ0:List Res}{p:Int × Int} (hN:gS κ bj ls n d bk N k) (hn:N p=.error e) (hk:op.length=k) [hS:Split σ bj ρ (JC ls n bk d x y) τ] (hJ:JX x y op l τ σ0) (hp:Pl ls p) (hb:l.length+8 * mu p+8≤1000000000)
  (h2:∀ x' y' op' l' τ',JX x' y' op' l' τ' σ0→K (.pan (bN e)) (ρ ++ .obj bj (JC ls n bk d x' y')::τ')):ACallF κ Tryz.prog 119 [JP bj,cU p] σ K :=
 K2 hN hk hJ hp hb (fun ev' e' t' h=>by rw [hn] at h;cases h) (fun e' h=>by rw [hn] at h;cases h;exact h2)
theorem en {ls:List Ln}{p:Int × Int} (hs:Small ls) (h:Pl ls p):mu (p.1,p.2+1)+1=mu p:=by
 have:=hs.1
 unfold Pl at h;exact Uq (k:=1) h.2.2.1 (by omega) (by omega)
theorem Oz {bj:Nat}{ls:List Ln}{n d:Int}{bk:Bool}{N:Int × Int→NodeR}{x y:AV}{op:List Int}{l:List EvV}{τ σ0:List Res}{key:(Int × Int) × Bool}{c:Int} (hN:gS κ bj ls n d bk N op.length) (hJ:JX x y op l τ σ0) (hs:Small ls) (hp:Pl ls key.1) (hb:l.length+8 * mu key.1+8≤1000000000)
  (h1:∀ ev e,fO ls n N key c=.ok (ev,e)→∀ x' y' τ',JX x' y' op (l++ev) τ' σ0→K (.ret (cU e)) (.obj bj (JC ls n bk d x' y')::τ'))
  (h2:∀ e,fO ls n N key c=.error e→∀ x' y' op' l' τ',JX x' y' op' l' τ' σ0→K (.pan (bN e)) (.obj bj (JC ls n bk d x' y')::τ')):ACallF κ Tryz.prog 204 [JP bj,vh key,I c] (.obj bj (JC ls n bk d x y)::τ) K:=by
 have hpw:=hp.w hs
 have hll:l.length≤1000000000:=by omega
 rw [fO] at h1 h2;cases hm:dh ls n key.1 with
 | error e =>
  rw [hm] at h2;refine ACallF.dropL (aa Tryz.func204 rfl ?_);simp only [Tryz.ntmps204]
  repeat' (first|simp only [WL,WM,Nat.reduceAdd,Nat.reduceSub,Nat.reduceEqDiff,true_and,ja,fR fE,c8]|(with_reducible first|refine ax (hb:=?_)|refine aA (hK:=?_)|refine aQ (hK:=fun b=>?_)|refine aV (hK:=fun b=>?_)|refine cD (jq (p:=key.1) hm hs hpw ?_)))
  exact aS bC rfl (h2 _ rfl _ _ _ _ _ hJ)
 | ok p =>
  rw [hm] at h1 h2;dsimp only at h1 h2;obtain ⟨a1,a2,a3,a4⟩:=fQ hs hm;have a5:=e8 hs hm hp.2.2.1
  have a6:=en hs a2
  have p64:=a2.in64 hs
  have pw1:=a2.w1 hs
  cases hsg:uf ls p key
  ·rw [if_pos hsg] at h1 h2
   refine ACallF.dropL (aa Tryz.func204 rfl ?_);simp only [Tryz.ntmps204]
   repeat' (first|simp only [WL,WM,Nat.reduceAdd,Nat.reduceSub,Nat.reduceEqDiff,Bool.not_false,true_and,ja,fR fE,iV,c8,oG,Tryz.results204,hsg]|(with_reducible first|refine ax (hb:=?_)|refine aA (hK:=?_)|refine az (hK:=?_)|refine aQ (hK:=fun b=>?_)|refine aV (hK:=fun b=>?_)|refine aI (hK:=?_)|refine cD (cq (p:=key.1) hm hs hpw ?_)|refine cD (ub (p:=p) (k:=key) hs p64 ?_)|refine cD (i9 (v:=uX) hJ hll (fun y' τ' hJ'=>?_)))|((with_reducible refine aY ?_);apply di (hf:=Tryz.results204);exact bn))
   exact ak bC (aj rfl) (h1 _ _ rfl _ _ _ (by assumption))
  ·rw [if_neg (by rw [hsg];decide)] at h1 h2
   cases hm2:dh ls n (p.1,p.2+1) with
   | error e =>
    rw [hm2] at h2;refine ACallF.dropL (aa Tryz.func204 rfl ?_);simp only [Tryz.ntmps204]
    repeat' (first|simp only [WL,WM,Nat.reduceAdd,Nat.reduceSub,Nat.reduceEqDiff,Bool.not_true,true_and,ja,fR fE,cP,c8,oG,hsg]|(with_reducible first|refine ax (hb:=?_)|refine aA (hK:=?_)|refine az (hK:=?_)|refine aQ (hK:=fun b=>?_)|refine aV (hK:=fun b=>?_)|refine cD (jq (p:=(p.1,p.2+1)) hm2 hs pw1 ?_)|refine cD (cq (p:=key.1) hm hs hpw ?_)|refine cD (ub (p:=p) (k:=key) hs p64 ?_)|refine cD (cm ?_ ?_))|omega)
    exact aS bC rfl (h2 _ rfl _ _ _ _ _ hJ)
   | ok q =>
    rw [hm2] at h1 h2;dsimp only at h1 h2;obtain ⟨c1,c2,c3,c4⟩:=fQ hs hm2;have c5:=e8 hs hm2 pw1.2.2.2
    have q64:=c2.in64 hs
    cases hi:(l8 ls q 44 || l8 ls q c)
    ·rw [if_neg (by rw [hi];decide)] at h1 h2
     have hi1:l8 ls q 44=false:=by cases e:l8 ls q 44<;>simp_all
     have hi2:l8 ls q c=false:=by cases e:l8 ls q c<;>simp_all
     cases hn:N q with
     | error e =>
      rw [hn] at h2;refine ACallF.dropL (aa Tryz.func204 rfl ?_);simp only [Tryz.ntmps204]
      repeat' (first|simp only [WL,WM,Nat.reduceAdd,Nat.reduceSub,Nat.reduceEqDiff,Bool.not_true,true_and,reduceIte,Bool.false_eq_true,ja,fR fE,jb,cP,c8,dB,oG,hsg,hi1,hi2]|(with_reducible first|refine ax (hb:=?_)|refine aA (hK:=?_)|refine az (hK:=?_)|refine aQ (hK:=fun b=>?_)|refine aV (hK:=fun b=>?_)|refine cD (cq (p:=(p.1,p.2+1)) hm2 hs pw1 ?_)|refine cD (cq (p:=key.1) hm hs hpw ?_)|refine cD (ub (p:=p) (k:=key) hs p64 ?_)|refine cD (o7 (p:=q) hs q64 ?_)|refine cD (sx hN hn rfl hJ c2 (by omega) (fun x' y' op' l' τ' hJ'=>?_))|refine cD (cm ?_ ?_))|omega)
      exact aS bC rfl (h2 _ rfl _ _ _ _ _ (by assumption))
     | ok r =>
      obtain ⟨ev,e,tt⟩:=r;rw [hn] at h1;refine ACallF.dropL (aa Tryz.func204 rfl ?_);simp only [Tryz.ntmps204]
      repeat' (first|simp only [WL,WM,Nat.reduceAdd,Nat.reduceSub,Nat.reduceEqDiff,Bool.not_true,true_and,reduceIte,Bool.false_eq_true,ja,fR fE,fA fE BY zA,jb,cP,c8,dB,oG,Tryz.results204,hsg,hi1,hi2]|(with_reducible first|refine ax (hb:=?_)|refine aA (hK:=?_)|refine az (hK:=?_)|refine aQ (hK:=fun b=>?_)|refine aV (hK:=fun b=>?_)|refine cD (cq (p:=(p.1,p.2+1)) hm2 hs pw1 ?_)|refine cD (cq (p:=key.1) hm hs hpw ?_)|refine cD (ub (p:=p) (k:=key) hs p64 ?_)|refine cD (o7 (p:=q) hs q64 ?_)|refine cD (nt hN hn rfl hJ c2 (by omega) (fun x' y' τ' hJ'=>?_))|refine cD (cm ?_ ?_))|((with_reducible refine aY ?_);apply di (hf:=Tryz.results204);exact bn)|omega)
      exact ak bC (aj rfl) (h1 _ _ rfl _ _ _ (by assumption))
    ·rw [if_pos hi] at h1 h2
     rcases (Bool.or_eq_true _ _).mp hi with hi1|hi1
     ·skip
      refine ACallF.dropL (aa Tryz.func204 rfl ?_);simp only [Tryz.ntmps204]
      repeat' (first|simp only [WL,WM,Nat.reduceAdd,Nat.reduceSub,Nat.reduceEqDiff,Bool.not_true,true_and,reduceIte,ja,fR fE,cP,iV,c8,dB,oG,Tryz.results204,hsg,hi1]|(with_reducible first|refine ax (hb:=?_)|refine aA (hK:=?_)|refine az (hK:=?_)|refine aQ (hK:=fun b=>?_)|refine aV (hK:=fun b=>?_)|refine aI (hK:=?_)|refine cD (cq (p:=(p.1,p.2+1)) hm2 hs pw1 ?_)|refine cD (cq (p:=key.1) hm hs hpw ?_)|refine cD (ub (p:=p) (k:=key) hs p64 ?_)|refine cD (o7 (p:=q) hs q64 ?_)|refine cD (i9 (v:=uX) hJ hll (fun y' τ' hJ'=>?_))|refine cD (cm ?_ ?_))|((with_reducible refine aY ?_);apply di (hf:=Tryz.results204);exact bn)|omega)
      exact ak bC (aj rfl) (h1 _ _ rfl _ _ _ (by assumption))
     ·skip
      refine ACallF.dropL (aa Tryz.func204 rfl ?_);simp only [Tryz.ntmps204]
      repeat' (first|simp only [WL,WM,Nat.reduceAdd,Nat.reduceSub,Nat.reduceEqDiff,Bool.not_true,Bool.not_false,true_and,reduceIte,Bool.false_eq_true,ja,fR fE,cP,iV,c8,dB,oG,Tryz.results204,hsg,hi1]|(with_reducible first|refine ax (hb:=?_)|refine aA (hK:=?_)|refine az (hK:=?_)|refine aQ (hK:=fun b=>?_)|refine aV (hK:=fun b=>?_)|refine aI (hK:=?_)|refine cD (cq (p:=(p.1,p.2+1)) hm2 hs pw1 ?_)|refine cD (cq (p:=key.1) hm hs hpw ?_)|refine cD (ub (p:=p) (k:=key) hs p64 ?_)|refine cD (o7 (p:=q) hs q64 ?_)|refine cD (i9 (v:=uX) hJ hll (fun y' τ' hJ'=>?_))|refine cD (cm ?_ ?_))|((with_reducible refine aY ?_);apply di (hf:=Tryz.results204);exact bn)|((with_reducible first|refine ai (fun h=>?_) (fun h=>?_)|refine ab (fun h=>?_) (fun h=>?_))<;>(try simp only [h])<;>(try simp only [bf,ba] at h))|omega)
      all_goals exact ak bC (aj rfl) (h1 _ _ rfl _ _ _ (by assumption))
theorem o5 {ls:List Ln}{n:Int}{N:Int × Int→NodeR}{key:(Int × Int) × Bool}{c:Int}{ev:List EvV}{e:Int × Int} (hs:Small ls) (hN:fU ls N) (hp:Pl ls key.1) (h:fO ls n N key c=.ok (ev,e)) :
  Le2 key.1 e∧Pl ls e∧ev.length+8 * mu e≤8 * mu key.1+1:=by
 unfold fO at h;split at h
 ·cases h
 ·rename_i p hm
  obtain ⟨a1,a2,a3,a4⟩:=fQ hs hm;have a5:=e8 hs hm hp.2.2.1
  split at h
  ·cases h
   exact ⟨Le2.rfl_,hp,by simp;omega⟩
  ·have a6:=en hs a2
   have a7:=Pl.behind (n:=1) hs a3 (by omega)
   have a8:Le2 key.1 (p.1,p.2+1):=a1.trans (.inr ⟨rfl,by dsimp only;omega⟩)
   split at h
   ·cases h
   ·rename_i q hm2
    obtain ⟨c1,c2,c3,c4⟩:=fQ hs hm2;have c5:=e8 hs hm2 a7.2.2.1
    split at h
    ·cases h
     exact ⟨a8,a7,by simp;omega⟩
    ·split at h
     ·cases h
     ·rename_i hn
      cases h
      obtain ⟨d1,d2,d3,d4⟩:=hN _ _ _ _ c2 hn;exact ⟨(a8.trans c1).trans d1,d2,by omega⟩
theorem lK {ls:List Ln}{n:Int}{N:Int × Int→NodeR}{p:Int × Int}{c:Int}{ev:List EvV}{e:Int × Int}{t:Bool} (hs:Small ls) (hN:fU ls N) (hp:Pl ls p) (h0:0 < (aH ls p).length) (h:gr ls n N p c=.ok (ev,e,t)) :
  Le2 p e∧Pl ls e∧ev.length+4+8 * mu e≤8 * mu p:=by
 have a6:=en hs hp
 have a7:=Pl.behind (n:=1) hs h0 (by omega)
 have a8:Le2 p (p.1,p.2+1):=.inr ⟨rfl,by dsimp only;omega⟩
 unfold gr at h;split at h
 ·cases h
 ·rename_i q hm2
  obtain ⟨c1,c2,c3,c4⟩:=fQ hs hm2;have c5:=e8 hs hm2 a7.2.2.1
  split at h
  ·cases h
   exact ⟨a8,a7,by simp;omega⟩
  ·obtain ⟨d1,d2,d3,d4⟩:=hN _ _ _ _ c2 h
   exact ⟨(a8.trans c1).trans d1,d2,by omega⟩
theorem lJ {ls:List Ln}{n:Int}{N:Int × Int→NodeR}{p:Int × Int}{c:Int}{r:NodeR}{ev:List EvV}{e:Int × Int} (hs:Small ls) (hN:fU ls N) (hr:∀ ev e t,r=.ok (ev,e,t)→Le2 p e∧Pl ls e∧ev.length+4+8 * mu e≤8 * mu p) (h:hZ ls n N r c=.ok (ev,e)) :
  Le2 p e∧Pl ls e∧ev.length+3+8 * mu e≤8 * mu p:=by
 unfold hZ at h;split at h
 ·cases h
 ·obtain ⟨a1,a2,a3⟩:=hr _ _ _ rfl
  split at h
  ·cases h
  ·rename_i hv
   cases h
   obtain ⟨b1,b2,b3⟩:=o5 hs hN a2 hv;exact ⟨a1.trans b1,b2,by rw [List.length_append];omega⟩
theorem nF {ls:List Ln}{p:Int × Int}{c:Int} (h:gH ls p c=true):0 < (aH ls p).length:=by
 unfold gH bU at h;simp only [Bool.and_eq_true,decide_eq_true_eq] at h;exact h.1.1
def zT (ls:List Ln) (E:Int × Int→PartR):Prop:=∀ p ev e,Pl ls p→E p=.ok (ev,e)→Le2 p e∧Pl ls e∧ev.length+1+8 * mu e≤8 * mu p
theorem qZ {ls:List Ln}{N:Int × Int→NodeR}{p:Int × Int} (hN:fU ls N) (hp:Pl ls p):∀ ev e t,N p=.ok (ev,e,t)→Le2 p e∧Pl ls e∧ev.length+4+8 * mu e≤8 * mu p:=fun ev e t h=>by
 obtain ⟨a1,a2,a3,-⟩:=hN _ _ _ _ hp h;exact ⟨a1,a2,a3⟩
theorem wx {ls:List Ln}{n:Int}{N:Int × Int→NodeR} (hs:Small ls) (hN:fU ls N):zT ls (lZ ls n N):=by
 intro p ev e hp h;unfold lZ at h;split at h
 ·rename_i h0
  obtain ⟨a1,a2,a3⟩:=lJ (p:=p) hs hN (fun ev e t h=>lK hs hN hp (nF h0) h) h;exact ⟨a1,a2,by omega⟩
 ·obtain ⟨a1,a2,a3⟩:=lJ (p:=p) hs hN (qZ hN hp) h
  exact ⟨a1,a2,by omega⟩
theorem xg {r:PartR}{ev:List EvV}{e:Int × Int} (h:w9 r=.ok (ev,e)):∃ ev',r=.ok (ev',e)∧ev=iP 5 uX::(ev'++[ga 6]):=by
 unfold w9 at h;split at h
 ·cases h
 ·cases h;exact ⟨_,rfl,rfl⟩
theorem vR {ls:List Ln}{n d:Int}{k:Nat}{N N1:Int × Int→NodeR} (hs:Small ls) (hN:fU ls N) (hN1:fU ls N1):zT ls (jd ls n d k N N1):=by
 intro p ev e hp h;unfold jd at h;split at h
 ·rename_i h0
  split at h
  ·cases h
  ·obtain ⟨ev',h1,rfl⟩:=xg h
   obtain ⟨a1,a2,a3⟩:=lJ (p:=p) hs hN1 (fun ev e t h=>lK hs hN1 hp (nF h0) h) h1;exact ⟨a1,a2,by simp only [List.length_cons,List.length_append,List.length_nil];omega⟩
 ·split at h
  ·cases h
  ·rename_i ev1 key hn
   obtain ⟨b1,b2,b3⟩:=qZ hN hp _ _ _ hn;split at h
   ·cases h
   ·split at h
    ·cases h
     exact ⟨b1,b2,by omega⟩
    ·split at h
     ·cases h
     ·obtain ⟨ev',h1,rfl⟩:=xg h
      obtain ⟨a1,a2,a3⟩:=lJ (p:=p) hs hN1 (fun ev e t h=>by cases h;exact ⟨b1,b2,b3⟩) h1;exact ⟨a1,a2,by simp only [List.length_cons,List.length_append,List.length_nil];omega⟩
theorem lA {ls:List Ln}{p:Int × Int}{c:Int} (h:l8 ls p c=true):0 < (aH ls p).length:=by
 unfold l8 bU at h;simp only [Bool.and_eq_true,decide_eq_true_eq] at h;exact h.1
theorem qc {ls:List Ln}{n:Int}{E:Int × Int→PartR}{c:Int}{M:Nat} (hs:Small ls) (hE:zT ls E):∀ {f:Nat}{q:Int × Int}{acc ev:List EvV}{e:Int × Int},Pl ls q→acc.length+8 * mu q≤M→dF ls n E c f q acc=.ok (ev,e) →
  Le2 q e∧Pl ls e∧ev.length+8 * mu e≤M∧0 < (aH ls e).length
 | 0,_,_,_,_,_,_,h=>by cases h
 | f+1,q,acc,ev,e,hp,hM,h=>by
  unfold dF at h;split at h
  ·rename_i h0
   cases h
   exact ⟨Le2.rfl_,hp,hM,lA h0⟩
  ·split at h
   ·cases h
   ·rename_i ev1 e1 hn
    obtain ⟨b1,b2,b3⟩:=hE _ _ _ hp hn;split at h
    ·cases h
    ·rename_i q2 hm
     obtain ⟨a1,a2,a3,a4⟩:=fQ hs hm;have a5:=e8 hs hm b2.2.2.1
     split at h
     ·split at h
      ·rename_i h0
       cases h
       exact ⟨b1.trans a1,a2,by rw [List.length_append];omega,lA h0⟩
      ·cases h
     ·have a6:=en hs a2
      have a7:=Pl.behind (n:=1) hs a3 (by omega)
      split at h
      ·cases h
      ·rename_i q3 hm3
       obtain ⟨c1,c2,c3,c4⟩:=fQ hs hm3;have c5:=e8 hs hm3 a7.2.2.1
       obtain ⟨d1,d2,d3,d4⟩:=qc (M:=M) hs hE c2 (by rw [List.length_append];omega) h;have a8:Le2 q2 (q2.1,q2.2+1):=.inr ⟨rfl,by dsimp only;omega⟩
       exact ⟨((b1.trans a1).trans a8).trans (c1.trans d1),d2,d3,d4⟩
theorem J2 {bj:Nat}{ls:List Ln}{n d:Int}{bk:Bool}{N:Int × Int→NodeR}{x y:AV}{op:List Int}{l:List EvV}{ρ τ σ0:List Res}{key:(Int × Int) × Bool}{c:Int} (hN:gS κ bj ls n d bk N op.length) [hS:Split σ bj ρ (JC ls n bk d x y) τ] (hJ:JX x y op l τ σ0) (hs:Small ls) (hp:Pl ls key.1) (hb:l.length+8 * mu key.1+8≤1000000000)
  (h1:∀ ev e,fO ls n N key c=.ok (ev,e)→∀ x' y' τ',JX x' y' op (l++ev) τ' σ0→K (.ret (cU e)) (ρ ++ .obj bj (JC ls n bk d x' y')::τ'))
  (h2:∀ e,fO ls n N key c=.error e→∀ x' y' op' l' τ',JX x' y' op' l' τ' σ0→K (.pan (bN e)) (ρ ++ .obj bj (JC ls n bk d x' y')::τ')):ACallF κ Tryz.prog 204 [JP bj,vh key,I c] σ K :=
 ACallF.at_ (b:=bj) (Oz hN hJ hs hp hb h1 h2)
theorem pU {bj:Nat}{ls:List Ln}{n d:Int}{bk:Bool}{N:Int × Int→NodeR}{x y:AV}{op:List Int}{l ev:List EvV}{ρ τ σ0:List Res}{key:(Int × Int) × Bool}{c:Int}{e:Int × Int} (hv:fO ls n N key c=.ok (ev,e)) (hN:gS κ bj ls n d bk N op.length) [hS:Split σ bj ρ (JC ls n bk d x y) τ] (hJ:JX x y op l τ σ0) (hs:Small ls) (hp:Pl ls key.1) (hb:l.length+8 * mu key.1+8≤1000000000)
  (h1:∀ x' y' τ',JX x' y' op (l++ev) τ' σ0→K (.ret (cU e)) (ρ ++ .obj bj (JC ls n bk d x' y')::τ')):ACallF κ Tryz.prog 204 [JP bj,vh key,I c] σ K :=
 J2 hN hJ hs hp hb (fun ev' e' h=>by rw [hv] at h;cases h;exact h1) (fun e' h=>by rw [hv] at h;cases h)
theorem ph {bj:Nat}{ls:List Ln}{n d e:Int}{bk:Bool}{N:Int × Int→NodeR}{x y:AV}{op:List Int}{l:List EvV}{ρ τ σ0:List Res}{key:(Int × Int) × Bool}{c:Int} (hv:fO ls n N key c=.error e) (hN:gS κ bj ls n d bk N op.length) [hS:Split σ bj ρ (JC ls n bk d x y) τ] (hJ:JX x y op l τ σ0) (hs:Small ls) (hp:Pl ls key.1) (hb:l.length+8 * mu key.1+8≤1000000000)
  (h2:∀ x' y' op' l' τ',JX x' y' op' l' τ' σ0→K (.pan (bN e)) (ρ ++ .obj bj (JC ls n bk d x' y')::τ')):ACallF κ Tryz.prog 204 [JP bj,vh key,I c] σ K :=
 J2 hN hJ hs hp hb (fun ev' e' h=>by rw [hv] at h;cases h) (fun e' h=>by rw [hv] at h;cases h;exact h2)
theorem D2 {bj:Nat}{ls:List Ln}{n d:Int}{bk:Bool}{N:Int × Int→NodeR}{x y:AV}{op:List Int}{l:List EvV}{τ σ0:List Res}{p:Int × Int}{c:Int} (hN:gS κ bj ls n d bk N op.length) (hJ:JX x y op l τ σ0) (hs:Small ls) (hp:Pl ls p) (hb:l.length+8 * mu p≤1000000000)
  (h1:∀ ev e t,gr ls n N p c=.ok (ev,e,t)→∀ x' y' τ',JX x' y' op (l++ev) τ' σ0→K (.ret (vh (e,t))) (.obj bj (JC ls n bk d x' y')::τ'))
  (h2:∀ e,gr ls n N p c=.error e→∀ x' y' op' l' τ',JX x' y' op' l' τ' σ0→K (.pan (bN e)) (.obj bj (JC ls n bk d x' y')::τ')):ACallF κ Tryz.prog 205 [JP bj,cU p,I c] (.obj bj (JC ls n bk d x y)::τ) K:=by
 have hll:l.length≤1000000000:=by omega
 have p64:=hp.in64 hs
 have pw1:=hp.w1 hs
 have a6:=en hs hp
 rw [gr] at h1 h2;cases hm2:dh ls n (p.1,p.2+1) with
 | error e =>
  rw [hm2] at h2;refine ACallF.dropL (aa Tryz.func205 rfl ?_);simp only [Tryz.ntmps205]
  repeat' (first|simp only [WL,WM,Nat.reduceAdd,Nat.reduceSub,true_and,cP,c8]|(with_reducible first|refine ax (hb:=?_)|refine aA (hK:=?_)|refine az (hK:=?_)|refine aQ (hK:=fun b=>?_)|refine aV (hK:=fun b=>?_)|refine cD (jq (p:=(p.1,p.2+1)) hm2 hs pw1 ?_)|refine cD (cm ?_ ?_))|omega)
  exact aS bC rfl (h2 _ rfl _ _ _ _ _ hJ)
 | ok q =>
  rw [hm2] at h1 h2;dsimp only at h1 h2;obtain ⟨c1,c2,c3,c4⟩:=fQ hs hm2;have c5:=e8 hs hm2 pw1.2.2.2
  have q64:=c2.in64 hs
  cases hi1:l8 ls q 44<;>cases hi2:l8 ls q c<;>cases hi3:gH ls q 58<;>rw [hi1,hi2,hi3] at h1 h2
  ·rw [if_neg (by decide)] at h1 h2
   cases hn:N q with
   | error e =>
    refine ACallF.dropL (aa Tryz.func205 rfl ?_);simp only [Tryz.ntmps205]
    repeat' (first|simp only [WL,WM,Nat.reduceAdd,Nat.reduceSub,true_and,reduceIte,Bool.false_eq_true,jb,cP,c8,dB,fi,hi1,hi2,hi3]|(with_reducible first|refine ax (hb:=?_)|refine aA (hK:=?_)|refine az (hK:=?_)|refine aQ (hK:=fun b=>?_)|refine aV (hK:=fun b=>?_)|refine cD (cq (p:=(p.1,p.2+1)) hm2 hs pw1 ?_)|refine cD (fD (p:=q) hs q64 ?_)|refine cD (o7 (p:=q) hs q64 ?_)|refine cD (sx hN hn rfl hJ c2 (by omega) (fun x' y' op' l' τ' hJ'=>?_))|refine cD (cm ?_ ?_))|omega)
    exact aS bC rfl (h2 _ hn _ _ _ _ _ (by assumption))
   | ok r =>
    obtain ⟨ev,e,tt⟩:=r;refine ACallF.dropL (aa Tryz.func205 rfl ?_);simp only [Tryz.ntmps205]
    repeat' (first|simp only [WL,WM,Nat.reduceAdd,Nat.reduceSub,true_and,reduceIte,Bool.false_eq_true,jb,cP,c8,dB,fi,Tryz.results205,hi1,hi2,hi3]|(with_reducible first|refine ax (hb:=?_)|refine aA (hK:=?_)|refine az (hK:=?_)|refine aQ (hK:=fun b=>?_)|refine aV (hK:=fun b=>?_)|refine cD (cq (p:=(p.1,p.2+1)) hm2 hs pw1 ?_)|refine cD (fD (p:=q) hs q64 ?_)|refine cD (o7 (p:=q) hs q64 ?_)|refine cD (nt hN hn rfl hJ c2 (by omega) (fun x' y' τ' hJ'=>?_))|refine cD (cm ?_ ?_))|((with_reducible refine aY ?_);apply di (hf:=Tryz.results205);exact bn)|omega)
    exact ak bC (aj rfl) (h1 _ _ _ hn _ _ _ (by assumption))
  all_goals
   rw [if_pos (by rfl)] at h1 h2;refine ACallF.dropL (aa Tryz.func205 rfl ?_);simp only [Tryz.ntmps205]
   repeat' (first|simp only [WL,WM,Nat.reduceAdd,Nat.reduceSub,true_and,reduceIte,Bool.false_eq_true,cP,iV,c8,dB,fi,Tryz.results205,hi1,hi2,hi3]|(with_reducible first|refine ax (hb:=?_)|refine aA (hK:=?_)|refine az (hK:=?_)|refine aQ (hK:=fun b=>?_)|refine aV (hK:=fun b=>?_)|refine aI (hK:=?_)|refine cD (cq (p:=(p.1,p.2+1)) hm2 hs pw1 ?_)|refine cD (fD (p:=q) hs q64 ?_)|refine cD (o7 (p:=q) hs q64 ?_)|refine cD (i9 (v:=uX) hJ hll (fun y' τ' hJ'=>?_))|refine cD (cm ?_ ?_))|((with_reducible refine aY ?_);apply di (hf:=Tryz.results205);exact bn)|omega)
   exact ak bC (aj rfl) (h1 _ _ _ rfl _ _ _ (by assumption))
theorem pJ {bj:Nat}{ls:List Ln}{n d:Int}{bk:Bool}{N:Int × Int→NodeR}{x y:AV}{op:List Int}{l ev:List EvV}{ρ τ σ0:List Res}{p e:Int × Int}{c:Int}{t:Bool} (hv:gr ls n N p c=.ok (ev,e,t)) (hN:gS κ bj ls n d bk N op.length) [hS:Split σ bj ρ (JC ls n bk d x y) τ] (hJ:JX x y op l τ σ0) (hs:Small ls) (hp:Pl ls p) (hb:l.length+8 * mu p≤1000000000)
  (h1:∀ x' y' τ',JX x' y' op (l++ev) τ' σ0→K (.ret (vh (e,t))) (ρ ++ .obj bj (JC ls n bk d x' y')::τ')):ACallF κ Tryz.prog 205 [JP bj,cU p,I c] σ K :=
 ACallF.at_ (b:=bj) (D2 hN hJ hs hp hb (fun ev' e' t' h=>by rw [hv] at h;cases h;exact h1) (fun e' h=>by rw [hv] at h;cases h))
theorem An {bj:Nat}{ls:List Ln}{n d e:Int}{bk:Bool}{N:Int × Int→NodeR}{x y:AV}{op:List Int}{l:List EvV}{ρ τ σ0:List Res}{p:Int × Int}{c:Int} (hv:gr ls n N p c=.error e) (hN:gS κ bj ls n d bk N op.length) [hS:Split σ bj ρ (JC ls n bk d x y) τ] (hJ:JX x y op l τ σ0) (hs:Small ls) (hp:Pl ls p) (hb:l.length+8 * mu p≤1000000000)
  (h2:∀ x' y' op' l' τ',JX x' y' op' l' τ' σ0→K (.pan (bN e)) (ρ ++ .obj bj (JC ls n bk d x' y')::τ')):ACallF κ Tryz.prog 205 [JP bj,cU p,I c] σ K :=
 ACallF.at_ (b:=bj) (D2 hN hJ hs hp hb (fun ev' e' t' h=>by rw [hv] at h;cases h) (fun e' h=>by rw [hv] at h;cases h;exact h2))
def pV (κ:Ctx) (bj:Nat) (ls:List Ln) (n d:Int) (bk:Bool) (E:Int × Int→PartR) (f:FuncId) (k:Nat):Prop :=
 ∀ {x y:AV} {op:List Int} {l:List EvV} {τ σ0:List Res} {p:Int × Int} {K:Ret→List Res→Prop},op.length=k→JX x y op l τ σ0→Pl ls p→l.length+8 * mu p+8≤1000000000 →
  (∀ ev e,E p=.ok (ev,e)→∀ x' y' τ',JX x' y' op (l++ev) τ' σ0→K (.ret (cU e)) (.obj bj (JC ls n bk d x' y')::τ')) →
  (∀ e,E p=.error e→∀ x' y' op' l' τ',JX x' y' op' l' τ' σ0→K (.pan (bN e)) (.obj bj (JC ls n bk d x' y')::τ')) →
  ACallF κ Tryz.prog f [JP bj,cU p] (.obj bj (JC ls n bk d x y)::τ) K
theorem kz {bj k:Nat}{ls:List Ln}{n d:Int}{bk:Bool}{E:Int × Int→PartR}{f:FuncId}{x y:AV}{op:List Int}{l ev:List EvV}{ρ τ σ0:List Res}{p e:Int × Int} (hE:pV κ bj ls n d bk E f k) (hn:E p=.ok (ev,e)) (hk:op.length=k) [hS:Split σ bj ρ (JC ls n bk d x y) τ] (hJ:JX x y op l τ σ0) (hp:Pl ls p) (hb:l.length+8 * mu p+8≤1000000000)
  (h1:∀ x' y' τ',JX x' y' op (l++ev) τ' σ0→K (.ret (cU e)) (ρ ++ .obj bj (JC ls n bk d x' y')::τ')):ACallF κ Tryz.prog f [JP bj,cU p] σ K :=
 ACallF.at_ (b:=bj) (hE hk hJ hp hb (fun ev' e' h=>by rw [hn] at h;cases h;exact h1) (fun e' h=>by rw [hn] at h;cases h))
theorem KG {bj k:Nat}{ls:List Ln}{n d e:Int}{bk:Bool}{E:Int × Int→PartR}{f:FuncId}{x y:AV}{op:List Int}{l:List EvV}{ρ τ σ0:List Res}{p:Int × Int} (hE:pV κ bj ls n d bk E f k) (hn:E p=.error e) (hk:op.length=k) [hS:Split σ bj ρ (JC ls n bk d x y) τ] (hJ:JX x y op l τ σ0) (hp:Pl ls p) (hb:l.length+8 * mu p+8≤1000000000)
  (h2:∀ x' y' op' l' τ',JX x' y' op' l' τ' σ0→K (.pan (bN e)) (ρ ++ .obj bj (JC ls n bk d x' y')::τ')):ACallF κ Tryz.prog f [JP bj,cU p] σ K :=
 ACallF.at_ (b:=bj) (hE hk hJ hp hb (fun ev' e' h=>by rw [hn] at h;cases h) (fun e' h=>by rw [hn] at h;cases h;exact h2))
theorem Wp {bj k:Nat}{ls:List Ln}{n d:Int}{bk:Bool}{N:Int × Int→NodeR} (hs:Small ls) (hN:gS κ bj ls n d bk N k) (hG:fU ls N):pV κ bj ls n d bk (lZ ls n N) 178 k:=by
 intro x y op l τ σ0 p K hk hJ hp hb h1 h2;subst hk;have p64:=hp.in64 hs
 unfold lZ hZ at h1 h2;cases h0:gH ls p 63
 ·simp only [h0,Bool.false_eq_true,if_false] at h1 h2
  cases hn:N p with
  | error e =>
   rw [hn] at h2;refine ACallF.dropL (aa Tryz.func178 rfl ?_);simp only [Tryz.ntmps178]
   repeat' (first|simp only [WL,WM,Nat.reduceAdd,Nat.reduceSub,true_and,jb,fi,h0]|(with_reducible first|refine aA (hK:=?_)|refine aQ (hK:=fun b=>?_)|refine aV (hK:=fun b=>?_)|refine cD (fD (p:=p) hs p64 ?_)|refine cD (sx hN hn rfl hJ hp (by omega) (fun x' y' op' l' τ' hJ'=>?_))))
   exact aS bC rfl (h2 _ rfl _ _ _ _ _ (by assumption))
  | ok r =>
   obtain ⟨ev,e,tt⟩:=r;rw [hn] at h1 h2;dsimp only at h1 h2;obtain ⟨a1,a2,a3⟩:=qZ hG hp _ _ _ hn;have hl2:(l++ev).length+8 * mu (e,tt).1+8≤1000000000:=by rw [List.length_append];dsimp only;omega
   cases hv:fO ls n N (e,tt) 125 with
   | error e2 =>
    rw [hv] at h2;refine ACallF.dropL (aa Tryz.func178 rfl ?_);simp only [Tryz.ntmps178]
    repeat' (first|simp only [WL,WM,Nat.reduceAdd,Nat.reduceSub,true_and,jb,fi,mq,h0]|(with_reducible first|refine aA (hK:=?_)|refine aQ (hK:=fun b=>?_)|refine aV (hK:=fun b=>?_)|refine cD (fD (p:=p) hs p64 ?_)|refine cD (nt hN hn rfl hJ hp (by omega) (fun x' y' τ' hJ'=>?_))|refine cD (ph (key:=(e,tt)) hv hN hJ' hs a2 hl2 (fun x'' y'' op' l' τ'' hJ''=>?_))))
    exact aS bC rfl (h2 _ rfl _ _ _ _ _ (by assumption))
   | ok r2 =>
    obtain ⟨ev2,e2⟩:=r2;rw [hv] at h1;refine ACallF.dropL (aa Tryz.func178 rfl ?_);simp only [Tryz.ntmps178]
    repeat' (first|simp only [WL,WM,Nat.reduceAdd,Nat.reduceSub,true_and,jb,fi,mq,Tryz.results178,h0]|(with_reducible first|refine aA (hK:=?_)|refine az (hK:=?_)|refine aQ (hK:=fun b=>?_)|refine aV (hK:=fun b=>?_)|refine cD (fD (p:=p) hs p64 ?_)|refine cD (nt hN hn rfl hJ hp (by omega) (fun x' y' τ' hJ'=>?_))|refine cD (pU (key:=(e,tt)) hv hN hJ' hs a2 hl2 (fun x'' y'' τ'' hJ''=>?_)))|((with_reducible refine aY ?_);apply di (hf:=Tryz.results178);exact bn))
    rw [List.append_assoc] at hJ'';exact ak bC (aj rfl) (h1 _ _ rfl _ _ _ hJ'')
 ·simp only [h0,if_true] at h1 h2
  cases hn:gr ls n N p 125 with
  | error e =>
   rw [hn] at h2;refine ACallF.dropL (aa Tryz.func178 rfl ?_);simp only [Tryz.ntmps178]
   repeat' (first|simp only [WL,WM,Nat.reduceAdd,Nat.reduceSub,true_and,fi,qT,h0]|(with_reducible first|refine aA (hK:=?_)|refine aQ (hK:=fun b=>?_)|refine aV (hK:=fun b=>?_)|refine cD (fD (p:=p) hs p64 ?_)|refine cD (An (p:=p) hn hN hJ hs hp (by omega) (fun x' y' op' l' τ' hJ'=>?_))))
   exact aS bC rfl (h2 _ rfl _ _ _ _ _ (by assumption))
  | ok r =>
   obtain ⟨ev,e,tt⟩:=r;rw [hn] at h1 h2;dsimp only at h1 h2;obtain ⟨a1,a2,a3⟩:=lK hs hG hp (nF h0) hn;have hl2:(l++ev).length+8 * mu (e,tt).1+8≤1000000000:=by rw [List.length_append];dsimp only;omega
   cases hv:fO ls n N (e,tt) 125 with
   | error e2 =>
    rw [hv] at h2;refine ACallF.dropL (aa Tryz.func178 rfl ?_);simp only [Tryz.ntmps178]
    repeat' (first|simp only [WL,WM,Nat.reduceAdd,Nat.reduceSub,true_and,fi,mq,qT,h0]|(with_reducible first|refine aA (hK:=?_)|refine aQ (hK:=fun b=>?_)|refine aV (hK:=fun b=>?_)|refine cD (fD (p:=p) hs p64 ?_)|refine cD (pJ (p:=p) hn hN hJ hs hp (by omega) (fun x' y' τ' hJ'=>?_))|refine cD (ph (key:=(e,tt)) hv hN hJ' hs a2 hl2 (fun x'' y'' op' l' τ'' hJ''=>?_))))
    exact aS bC rfl (h2 _ rfl _ _ _ _ _ (by assumption))
   | ok r2 =>
    obtain ⟨ev2,e2⟩:=r2;rw [hv] at h1;refine ACallF.dropL (aa Tryz.func178 rfl ?_);simp only [Tryz.ntmps178]
    repeat' (first|simp only [WL,WM,Nat.reduceAdd,Nat.reduceSub,true_and,fi,mq,qT,Tryz.results178,h0]|(with_reducible first|refine aA (hK:=?_)|refine az (hK:=?_)|refine aQ (hK:=fun b=>?_)|refine aV (hK:=fun b=>?_)|refine cD (fD (p:=p) hs p64 ?_)|refine cD (pJ (p:=p) hn hN hJ hs hp (by omega) (fun x' y' τ' hJ'=>?_))|refine cD (pU (key:=(e,tt)) hv hN hJ' hs a2 hl2 (fun x'' y'' τ'' hJ''=>?_)))|((with_reducible refine aY ?_);apply di (hf:=Tryz.results178);exact bn))
    rw [List.append_assoc] at hJ'';exact ak bC (aj rfl) (h1 _ _ rfl _ _ _ hJ'')
end Go.Proofs.YthkabaiamcjdbaaGreat
