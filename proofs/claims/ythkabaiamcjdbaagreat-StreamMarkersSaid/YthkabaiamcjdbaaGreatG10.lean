/-
  Texts Hl, Hm, MI, Hn, Ho, Hp, Hq, Hr, one behind the other.
-/
import Derived.Test.YthkabaiamcjdbaaGreatG9
set_option linter.unusedVariables false
set_option linter.unusedSimpArgs false
set_option maxHeartbeats 16000000
/-
 Walks: chapter 13,plain scalars.
-/


namespace Go.Proofs.YthkabaiamcjdbaaGreat
open Go.Abs
variable {κ:Ctx} {σ:List Res} {K:Ret→List Res→Prop} {o o':Option (Option (Nat × Nat))}
def nextL (ls:List Ln):Nat→Int→Int
 | 0,i=>i
 | f+1,i=>if bC ls i=false∧(ls.getD i.toNat (0,[])).2.all blankI=true then nextL ls f (i+1) else i
theorem Dt {ls:List Ln}{i:Int} (h:¬(bC ls i=false∧(ls.getD i.toNat (0,[])).2.all blankI=true)):∀ f,nextL ls f i=i
 | 0=>rfl
 | f+1=>by unfold nextL;rw [if_neg h]
theorem Ap {ls:List Ln}{i:Int}{f:Nat} (h:bC ls i=false∧(ls.getD i.toNat (0,[])).2.all blankI=true) (hf:(ls.length:Int)≤i+f):∃ f':Nat,(ls.length:Int)≤i+1+f'∧nextL ls f i=nextL ls f' (i+1):=by
 have h1:=im h.1
 cases f with
 | zero=>omega
 | succ f=>exact ⟨f,by omega,by rw [nextL,if_pos h]⟩
theorem so {ls:List Ln}:∀ (f:Nat) (i:Int),i≤nextL ls f i
 | 0,i=>Int.le_refl _
 | f+1,i=>by
  unfold nextL
  split
  ·have:=so (ls:=ls) f (i+1);omega
  ·exact Int.le_refl _
theorem vg {ls:List Ln}:∀ (f:Nat) (i:Int),(ls.length:Int)≤i+f→bC ls (nextL ls f i)=true∨(ls.getD (nextL ls f i).toNat (0,[])).2.all blankI=false
  | 0,i,h=>.inl (by unfold bC nextL;rw [decide_eq_true (by omega)];rfl)
  | f+1,i,h=>by
    unfold nextL
    split
    · exact vg f (i+1) (by omega)
    · rename_i h1
      cases h2:bC ls i
      · exact .inr (by cases h3 : (ls.getD i.toNat (0, [])).2.all blankI
                       · rfl
                       · exact absurd ⟨h2,h3⟩ h1)
      · exact .inl rfl
def bD (ls:List Ln) (n:Int) (ib:Bool) (line:Int):(Int × Int) × Bool :=
 if bC ls (nextL ls ls.length (line+1))=true∨(ls.getD (nextL ls ls.length (line+1)).toNat (0,[])).1≤n then ((0,0),false)
 else ((bO ls (nextL ls ls.length (line+1),0)).1,!((bO ls (nextL ls ls.length (line+1),0)).2.getD 0 0 == 35) && decide (0 < fG (bO ls (nextL ls ls.length (line+1),0)).2 (!ib)))
theorem NK {l:List Int} (h:l.all blankI=false):nj l < l.length:=by
 unfold nj
 induction l with
 | nil=>simp at h
 | cons c l ih =>
  rw [List.takeWhile_cons]
  split
  ·rename_i hc
   rw [List.all_cons,hc,Bool.true_and] at h
   have:=ih h
   simp only [List.length_cons];omega
  ·simp
theorem Le {ls:List Ln}{i:Int} (hs:Small ls) (h0:0≤i) (h1:i < ls.length) (h:(ls.getD i.toNat (0,[])).2.all blankI=false):0 < (bO ls (i,0)).2.length:=by
 have ha:=hs.at_ (i:=i.toNat) (by omega)
 have hc:dT ls (i,0)=(ls.getD i.toNat (0,[])).1:=by unfold dT;rw [if_pos ⟨h0,h1⟩];dsimp only;omega
 have hr:aF ls (i,dT ls (i,0))=(ls.getD i.toNat (0,[])).2:=by
  rw [hc,fZ (by dsimp only;omega) (by dsimp only;omega) (by dsimp only;omega),if_neg (by dsimp only;omega)]
  dsimp only
  rw [show (min ((ls.getD i.toNat (0,[])).1 - max 0 (ls.getD i.toNat (0,[])).1) ((ls.getD i.toNat (0,[])).2.length:Int)).toNat=0 by omega,List.drop_zero]
 unfold bO
 dsimp only
 rw [hr,List.length_drop]
 have:=NK h
 omega
theorem uT {ls:List Ln}{n line:Int}{ib:Bool}{q:Int × Int} (hs:Small ls) (h0:0≤line) (h:bD ls n ib line=(q,true)):Pl ls q∧line < q.1∧0 < (aF ls q).length∧fB (aF ls q)=false:=by
  unfold bD at h
  split at h
  · cases h
  · rename_i hn
    have h1:=so (ls:=ls) ls.length (line+1)
    have h2:=vg (ls:=ls) ls.length (line+1) (by omega)
    generalize nextL ls ls.length (line+1)=i at *
    have h3 : bC    ls i = false := by cases e : bC    ls i
                                       · rfl
                                       · exact absurd (.inl e) hn
    have h4:=Le hs (by omega) (im h3) (h2.resolve_left (by rw [h3];decide))
    obtain ⟨rfl,-⟩:=Prod.mk.inj h
    have h5:=lV hs h4
    refine ⟨Pl.of_rest hs (by rw [h5];exact h4),by rw [ng];dsimp only;omega,by rw [h5];exact h4,by rw [h5];exact nL⟩
theorem xO {ls:List Ln}{n line:Int}{ib:Bool} (hs:Small ls) (h0:0≤line):0≤(bD ls n ib line).1.1∧(bD ls n ib line).1.1≤2000:=by
  unfold bD
  split
  · exact ⟨Int.le_refl _,by decide⟩
  · rename_i hn
    have h1:=so (ls:=ls) ls.length (line+1)
    generalize nextL ls ls.length (line+1)=i at *
    have h3 : bC    ls i = false := by cases e : bC    ls i
                                       · rfl
                                       · exact absurd (.inl e) hn
    have h4:=im h3
    have h5:=hs.1
    dsimp only
    rw [ng]
    dsimp only
    omega
theorem Gn       {bj : Nat} {ls : List Ln} {n d : Int} {bk : Bool} {x y : AV} {op : List Int} {l : List EvV} {ρ τ σ0 : List Res} {i : Int} [hS : Split σ bj ρ (JC ls n bk d x y) τ] (hJ : JX x y op l τ σ0) (hl : op.length ≤ 1000000000) (hs : Small ls) (hi : 0 ≤ i ∧ i ≤ 1000000000)
    (hK:K (.ret (.tup [cS (bD ls n (bk && decide (op.length=0)) i).1,B (bD ls n (bk && decide (op.length=0)) i).2])) σ):ACallF κ Tryz.prog 188 [JP bj,I i] σ K:=by
  haveI hH:=nk hS
  have hlen:=hs.1
  refine ACallF.dropL (aa Tryz.func188 rfl ?_)
  simp only [Tryz.ntmps188]
  repeat' (first|simp only [WL,aD,WM,reduceCtorEq,ba,Nat.reduceAdd,Nat.reduceSub]|simp (disch:=first|omega|(simp only [aT];omega)) only [aq]|with_reducible refine aS (hK:=fun b=>?_))
  refine bH (fun k:Int=>⟨(JP bj::I k::.any::.any::JP b::B false::.any::.any::.any::.any::.any::.any::.any::.any::.any::.any::.any::.any::.any::.any::.any::.any::.any::.any::.any::.any::.any::.any::.any::.any::.any::.any::.any::.any::.any::.any::.any::.any::.any::.any::.any::.any::.any::.any::.any::.any::.any::.any::.any::.any::.any::.any::.any::.any::.any::.any::.any::.any::.any::.any::.any::.any::.any::.any::.any::[]),.obj b [I 0,I 0]::σ,true,[]⟩) (fun k=>(∃ f:Nat,(ls.length:Int)≤k+f∧nextL ls ls.length (i+1)=nextL ls f k)∧0≤k∧k≤1000000001) (fun k=>((ls.length:Int) - k).toNat) (i+1) (ao bz id) ⟨⟨ls.length,by omega,rfl⟩,by omega,by omega⟩ ?_
  rintro k ⟨⟨f,hf,hR⟩,hk0,hk1⟩
  by_cases hc:bC ls k=false∧(ls.getD k.toNat (0,[])).2.all blankI=true
  · have hlt:=im hc.1
    have ha:=hs.at_ (i:=k.toNat) (by omega)
    have ho:=hc.1
    have he:=hc.2
    repeat' (first|simp only [WL,aD,WM,reduceCtorEq,ba,Nat.reduceAdd,Nat.reduceEqDiff,Bool.not_false,true_and,reduceIte,fT,jb,fR gg,mZ,z7,ho,he]|simp (disch:=first|omega|(simp only [aT];omega)) only [aq,dN]|(with_reducible first|refine aC (hb:=?_)|refine ax (hK:=?_)|refine cD (oa hs (by omega) ?_)|refine cD (AE ?_ ?_))|omega)
    obtain ⟨f',hf',hst⟩:=Ap hc hf
    exact ⟨k+1,ao bz id,⟨⟨f',hf',hR.trans hst⟩,by omega,by omega⟩,by omega⟩
  · rw [Dt hc] at hR
    unfold bD at hK
    rw [hR] at hK
    cases ho:bC ls k
    · have hlt:=im ho
      have he:(ls.getD k.toNat (0,[])).2.all blankI=false:=by
        cases e:(ls.getD k.toNat (0,[])).2.all blankI
        · rfl
        · exact absurd ⟨ho,e⟩ hc
      have ha:=hs.at_ (i:=k.toNat) (by omega)
      have hp0:=Le hs hk0 hlt he
      have hpl:=rJ (p:=(k,0)) hs
      have hin:bS ((k,0):Int × Int).1∧bS ((k,0):Int × Int).2:=⟨by dsimp only;omega,by dsimp only;omega⟩
      have hmem:Res.obj bj (JC ls n bk d x y)∈σ:=by rw [hS.is];simp
      obtain ⟨ρx,hR1⟩:=hJ.row
      cases e35:((bO ls (k,0)).2.getD 0 0 == 35)
      all_goals
        have e36:((bO ls (k,0)).2.getD 0 0 != 35) = !((bO ls (k,0)).2.getD 0 0 == 35):=rfl
        rw [e35] at e36
        repeat' (first|simp only [WL,aD,WM,Int.reduceToNat,reduceCtorEq,ba,Nat.reduceAdd,Nat.reduceLT,Nat.reduceLeDiff,Nat.reduceEqDiff,Bool.not_true,Bool.not_false,true_and,reduceIte,Bool.false_eq_true,T3,bX,fT,jb,fC cX,fR gg,fR vP,rN,gm,mZ,z7,G0,Tryz.results188,ho,he,e36]|simp (disch:=first|omega|(simp only [aT];omega)) only [aV,dN,aV]|(with_reducible first|refine aC (hb:=?_)|refine ax (hK:=?_)|refine aA (hK:=?_)|refine az (hK:=?_)|refine aS (hK:=fun b=>?_)|refine aG (hK:=?_)|refine cD (oa hs (by omega) ?_)|refine cD (CF (p:=(k,0)) hs hin ?_)|refine callD_q (t5 hR1 hl aW) ?_|refine cQ (oa ?_ ?_ aW) ?_|refine cD (AE ?_ ?_)|refine cQ (RD ?_ aW) ?_)|((with_reducible refine aU ?_);apply wT (hf:=Tryz.results188);exact aZ)|((with_reducible refine aH (id:=4) 18 mixed ?_ ?_);kernel_rfl)|((with_reducible refine NV (r2:=.obj bj (JC ls n bk d x y)) (id:=7) [0,1,2,3,4,5,6,7,8,9,10,11,12] (some 13) [([14],none)] (by simp [hmem]) mixed ?_ ?_);kernel_rfl)|((with_reducible apply aQ);intro σq hq;have hqi:=cm hq;clear hq)|(with_reducible exact bU)|((with_reducible apply bA);rfl;rfl)|(with_reducible refine bR (l8 (by first|(simp;done)|fail) (by first|(simp [hmem];done)|fail)) ?_)|(with_reducible refine bP ?_)|((with_reducible first|refine ai (fun h=>?_) (fun h=>?_)|refine ab (fun h=>?_) (fun h=>?_))<;>(try simp only [h])<;>(try simp only [bg,bm] at h))|omega)
      all_goals first
        | (rw [if_pos (.inr (by assumption))] at hK
           exact ak (ae ah) (aj rfl) hK)
        | (rw [if_neg (by rw [ho];simp only [Bool.false_eq_true,false_or];omega),e35] at hK
           exact ak (ae (ae ah)) (aj (by simp)) hK)
    · rw [if_pos (.inl ho)] at hK
      repeat' (first|simp only [WL,WM,Nat.reduceAdd,Bool.not_true,true_and,reduceIte,Bool.false_eq_true,mZ,Tryz.results188,ho]|(with_reducible first|refine az (hK:=?_)|refine aG (hK:=?_)|refine cD (oa hs (by omega) ?_)|refine cQ (oa ?_ ?_ aW) ?_)|((with_reducible refine aU ?_);apply wT (hf:=Tryz.results188);exact aZ)|((with_reducible refine aH (id:=4) 18 mixed ?_ ?_);kernel_rfl)|(with_reducible refine bP ?_)|omega)
      exact ak (ae ah) (aj rfl) hK
def plainN (ls:List Ln) (n:Int) (ib:Bool):Nat→Int × Int→List Int→List (List Int)→Except Int (List (List Int) × (Int × Int))
  | f,p,l,all =>
    if 0 < all.length∧ib=true∧0≤zf l false then .error 2
    else if (bO ls (p.1,p.2+(fG l (!ib):Nat))).2.length=0∧(bD ls n ib p.1).2=true then
      (match f with
       | 0=>.error 2
       | f+1=>plainN ls n ib f (bD ls n ib p.1).1 (aF ls (bD ls n ib p.1).1) (all++[l.take (fG l (!ib))]++List.replicate ((bD ls n ib p.1).1.1 - p.1 - 1).toNat []))
    else .ok (all++[l.take (fG l (!ib))],(p.1,p.2+(fG l (!ib):Nat)))
theorem jJ        {ls : List Ln} {n : Int} {ib : Bool} {f : Nat} {p : Int × Int} {l : List Int} {all : List (List Int)} : plainN ls n ib f p l all =
    if 0 < all.length∧ib=true∧0≤zf l false then .error 2
    else if (bO ls (p.1,p.2+(fG l (!ib):Nat))).2.length=0∧(bD ls n ib p.1).2=true then
      (match f with
       | 0=>.error 2
       | f+1=>plainN ls n ib f (bD ls n ib p.1).1 (aF ls (bD ls n ib p.1).1) (all++[l.take (fG l (!ib))]++List.replicate ((bD ls n ib p.1).1.1 - p.1 - 1).toNat []))
    else .ok (all++[l.take (fG l (!ib))],(p.1,p.2+(fG l (!ib):Nat))):=by
  cases f<;>rfl
def eZ (ls:List Ln) (n:Int) (ib:Bool) (p:Int × Int) (l:List Int):Except Int (List Int × (Int × Int)) :=
 match plainN ls n ib ls.length p l [] with
 | .error e=>.error e
 | .ok (all,e)=>.ok (i5 all,e)
theorem Jj      {bj : Nat} {ls : List Ln} {n d : Int} {bk : Bool} {x y : AV} {op : List Int} {l : List EvV} {τ σ0 : List Res} {v : TrV} {q : Int × Int} {t : List Int} (hJ : JX x y op l τ σ0) (hll : l.length ≤ 1000000000) (hlo : op.length ≤ 1000000000) (hs : Small ls) (hp : Pl ls q) (ht : t.length ≤ 2000)
    (h1:∀ s e,eZ ls n (bk && decide (op.length=0)) q t=.ok (s,e)→∀ y' τ',JX x y' op (l++[⟨7,cu s,v.t,v.a,1,false⟩]) τ' σ0→K (.ret (cS e)) (.obj bj (JC ls n bk d x y')::τ'))
    (h2:∀ e,eZ ls n (bk && decide (op.length=0)) q t=.error e→K (.pan (bI e)) (.obj bj (JC ls n bk d x y)::τ)):ACallF κ Tryz.prog 147 [JP bj,cS q,SI o t,vx v] (.obj bj (JC ls n bk d x y)::τ) K:=by
  have hl:=hs.1
  unfold Pl at hp
  generalize hib:(bk && decide (op.length=0))=ib at *
  refine ACallF.dropL (aR Tryz.func147 rfl ?_)
  simp only [Tryz.ntmps147]
  repeat' (first|(with_reducible first|refine ay ?_|refine bW ?_|refine aJ ?_)|simp only [WL,WM,Nat.reduceAdd,Nat.reduceSub]|(with_reducible first|refine aP (hK:=fun b=>?_)|refine aS (hK:=fun b=>?_)))
  rename_i b5 b7
  obtain ⟨b8,hb8⟩:∃ b8,b8=b:=⟨b,rfl⟩
  subst hb8
  refine dM (fun z:(Int × Int) × List Int × List (List Int) × Option (Nat × Nat)=>⟨(JP bj::cS q::SI none z.2.1::vx v::.any::JP b5::.any::JP b7::JP b8::lN (some z.2.2.2) z.2.2.1::.any::.any::.any::.any::.any::.any::.any::.any::.any::.any::.any::.any::.any::.any::.any::.any::.any::.any::.any::.any::.any::.any::.any::.any::.any::.any::.any::.any::.any::.any::.any::.any::.any::.any::.any::.any::.any::.any::.any::.any::.any::.any::.any::.any::.any::.any::.any::.any::.any::.any::.any::.any::.any::.any::.any::.any::.any::.any::.any::.any::.any::.any::.any::.any::.any::.any::.any::.any::.any::.any::.any::.any::[]),.tip z.2.2.2::.obj b8 [I 0,I 0]::.obj b7 (uz v)::.obj b5 [I z.1.1,I z.1.2]::.obj bj (JC ls n bk d x y)::τ,true,[]⟩)
    (fun z=>(∃ f:Nat,(ls.length:Int)≤z.1.1+f∧plainN ls n ib ls.length q t []=plainN ls n ib f z.1 z.2.1 z.2.2.1)∧z.2.1.length≤2000∧tot z.2.2.1≤2001 * (z.1.1 - q.1).toNat∧q.1≤z.1.1∧z.1.1 < ls.length∧0≤z.1.2∧z.1.2≤4000) (fun z=>((ls.length:Int) - z.1.1).toNat) (q,t,[],none) (aL bz ResW.void id)
    ⟨⟨ls.length,by dsimp only;omega,rfl⟩,ht,by simp [tot],by dsimp only;omega,by dsimp only;omega,by dsimp only;omega,by dsimp only;omega⟩ ?_
  rintro ⟨⟨i,k⟩,cur,all,tk⟩ ⟨⟨f,hf,hR⟩,hc,htt,hi1,hi2,hk1,hk2⟩
  dsimp only at hf hR hc htt hi1 hi2 hk1 hk2 ⊢
  replace hR:=hR.trans jJ
  dsimp only at hR
  have hal:=gb all
  have hen:=CO (l:=cur) (fl:=!ib)
  repeat' (first|(with_reducible first|refine jK (id:=3) ?_|refine ay ?_|refine aJ ?_)|simp only [WL,WM,true_and,gm,G0,hib]|(with_reducible first|refine cD (dQ hJ hlo ?_)|refine cD (RD ?_ ?_))|omega)
  refine nt (fun _:Unit=>⟨(JP bj::cS q::SI none cur::vx v::.any::JP b5::.any::JP b7::JP b8::lN (some tk) all::I (fG cur (!ib):Nat)::.any::.any::.any::.any::.any::.any::.any::.any::.any::.any::.any::.any::.any::.any::.any::.any::.any::.any::.any::.any::.any::.any::.any::.any::.any::.any::.any::.any::.any::.any::.any::.any::.any::.any::.any::.any::.any::.any::.any::.any::.any::.any::.any::.any::.any::.any::.any::.any::.any::.any::.any::.any::.any::.any::.any::.any::.any::.any::.any::.any::.any::.any::.any::.any::.any::.any::.any::.any::.any::.any::.any::[]),.tip tk::.obj b8 [I 0,I 0]::.obj b7 (uz v)::.obj b5 [I i,I k]::.obj bj (JC ls n bk d x y)::τ,true,[]⟩) (fun _=>¬(0 < all.length∧ib=true∧0≤zf cur false)) ?_ ?_
  · cases ib
    all_goals
      repeat' (first|(with_reducible first|refine aJ ?_|refine aw ?_)|simp only [WL,aD,WM,ne_eq,reduceCtorEq,not_false_eq_true,Bool.not_true,Bool.not_false,true_and,reduceIte,Bool.false_eq_true,il,dr,gm,PN,hib]|(with_reducible first|refine cD (dQ hJ hlo ?_)|refine cD (lz (fun h=>?_) (fun h=>?_))|refine cD (Ut ?_ ?_))|((with_reducible first|refine ai (fun h=>?_) (fun h=>?_)|refine ab (fun h=>?_) (fun h=>?_))<;>(try simp only [h])<;>(try simp only [bg,bm] at h))|omega)
    all_goals first
      | (have hk:0≤zf cur false:=by have:=of_decide_eq_false (by assumption:decide (zf cur false < 0)=false);omega
         rw [if_pos ⟨by omega,rfl,hk⟩] at hR
         exact aN (ae (ae (ae (ae ah)))) rfl (h2 _ (by unfold eZ;rw [hR])))
      | exact ⟨(),ao bz id,fun h9=>by omega⟩
      | exact ⟨(),ao bz id,fun h9=>by simp at h9⟩
      | skip
    all_goals
      have h8:=of_decide_eq_true (by assumption:decide (zf cur false < 0)=true)
      exact ⟨(),ao bz id,fun h9=>by omega⟩
  · intro _ hn
    rw [if_neg hn] at hR
    have hbe:bS ((i,k+((fG cur (!ib):Nat):Int)):Int × Int).1∧bS ((i,k+((fG cur (!ib):Nat):Int)):Int × Int).2:=⟨by dsimp only;omega,by dsimp only;omega⟩
    have hac:=qC all [cur.take (fG cur (!ib))]
    rw [wv,List.length_take] at hac
    generalize hA:all++[cur.take (fG cur (!ib))]=A at *
    have hfl:=oU A
    have hfq:=fun (e:(bD ls n ib i).2=true)=>uT (q:=(bD ls n ib i).1) hs (by omega) (Prod.ext rfl e)
    have hfr:=xO (ls:=ls) (n:=n) (ib:=ib) hs (show 0≤i by omega)
    repeat' (first|(with_reducible first|refine ay ?_|refine bW ?_|refine al (al ?_)|refine aJ ?_|refine aB ?_|refine aw ?_)|simp only [WL,aD,WM,Int.reduceToNat,reduceCtorEq,ba,Nat.reduceAdd,Nat.reduceLT,Nat.reduceEqDiff,Bool.not_false,true_and,T3,bX,fR dK,rN,cT,F7,Pn,IF,Tryz.results147,hib,wB,hA]|simp (disch:=first|omega|(simp only [aT];omega)) only [aq]|(with_reducible first|refine aC (hb:=?_)|refine ax (hK:=?_)|refine aA (hK:=?_)|refine az (hK:=?_)|refine aS (hK:=fun b=>?_)|refine cq (hlen:=?_) (hmax:=?_) (hK:=fun tk=>?_)|refine cF (hK:=?_)|refine aG (hK:=?_)|refine cD (CF hs hbe ?_)|refine cD (cb (p:=(i,k)) (n:=((fG cur (!ib):Nat):Int)) (by dsimp only;omega) ?_)|refine cD (Gn hJ hlo hs (by omega) ?_)|refine cD (CL hJ hll (by omega) (fun y' τ' hJ'=>?_))|refine cQ (Px ?_ aW) ?_)|((with_reducible refine aU ?_);apply db (hf:=Tryz.results147);exact aZ)|((with_reducible refine gI (id:=12) [0,1,2] (some 3) [([],some 4),([],none)] (fun _=>True) trivial mixed ?_ ?_);kernel_rfl)|((with_reducible apply aQ);intro σq hq)|(with_reducible exact bU)|((with_reducible apply bA);rfl;rfl)|(with_reducible refine bR trivial ?_)|((with_reducible first|refine ai (fun h=>?_) (fun h=>?_)|refine ab (fun h=>?_) (fun h=>?_))<;>(try simp only [h])<;>(try simp only [bg,bm] at h))|omega|(refine bq ?_;(first|omega|(simp only [aT];omega))))
    all_goals first
      | (rw [if_neg (by first|(intro h9;have:=h9.1;omega)|exact fun h9=>Bool.false_ne_true ((by assumption:(bD ls n ib i).2=false).symm.trans h9.2))] at hR
         exact ak bE (aj rfl) (h1 (i5 A) (i,k+(fG cur (!ib):Nat)) (by unfold eZ;rw [hR]) _ _ (by assumption)))
      | skip
    rename_i c11 c12 hm
    obtain ⟨g1,g2,g3,-⟩:=hfq h
    rw [if_pos ⟨by omega,h⟩] at hR
    have g4:=bZ (p:=(bD ls n ib i).1) hs
    generalize hq2:(bD ls n ib i).1=q2 at *
    unfold Pl at g1
    cases f with
    | zero=>exfalso;omega
    | succ f =>
    refine dM (fun z:Nat × Option (Nat × Nat)=>⟨(JP bj::cS q::SI none cur::vx v::.any::JP b5::.any::JP b7::JP b8::lN (some z.2) (A++List.replicate z.1 [])::.any::.any::JP c12::.any::.any::.any::.any::.any::.any::.any::.any::.any::.any::.any::.any::.any::.any::.any::.any::.any::.any::.any::.any::.any::.any::.any::.any::.any::.any::.any::.any::.any::.any::.any::.any::.any::.any::.any::.any::.any::.any::.any::.any::.any::.any::.any::.any::.any::.any::.any::.any::.any::.any::.any::.any::.any::.any::.any::.any::.any::.any::I (q2.1 - i - 1)::I z.1::.any::.any::.any::.any::.any::.any::.any::.any::.any::[]),.obj b [I (bO ls (i,k+(fG cur (!ib):Nat))).1.1,I (bO ls (i,k+(fG cur (!ib):Nat))).1.2]::.obj c12 [I q2.1,I q2.2]::.obj c11 [I i,I (k+(fG cur (!ib):Nat))]::.tip z.2::.obj b8 [I 0,I 0]::.obj b7 (uz v)::.obj b5 [I i,I k]::.obj bj (JC ls n bk d x y)::τ,true,[]⟩) (fun z=>(z.1:Int)≤q2.1 - i - 1) (fun z=>(q2.1 - i - 1).toNat - z.1) (0,tk) ?_ (by dsimp only;omega) ?_
    · exact ao (by simp only [List.replicate_zero,List.append_nil];exact bz) id
    rintro ⟨m,tk2⟩ h9
    dsimp only at h9 ⊢
    have hAl:=gb A
    have hAm:(A++List.replicate m ([]:List Int)).length≤10000000:=by rw [List.length_append,List.length_replicate];omega
    have hnx:List.map (SI none) (A++List.replicate m [])++[AV.sl 1 none []]=List.map (SI none) (A++List.replicate (m+1) []):=by rw [List.replicate_succ',← List.append_assoc,List.map_append (l₂:=[[]])];rfl
    repeat' (first|( with_reducible refine zM (sz:=1) (by decide) ?_)|(with_reducible first|refine al (ay ?_)|refine aJ ?_|refine aB ?_)|simp only [WL,aD,WM,reduceCtorEq,ba,Nat.reduceAdd,true_and,e8,hnx]|simp (disch:=first|omega|(simp only [aT];omega)) only [aq]|(with_reducible first|refine aA (hK:=?_)|refine az (hK:=?_)|refine cq (hlen:=?_) (hmax:=?_) (hK:=fun tk=>?_)|refine cF (hK:=?_)|refine cD (eU (p:=q2) hs ⟨by omega,by omega⟩ ?_))|((with_reducible refine eh (id:=18) [0,1,2] (some 3) [([],some 4),([5],none)] mixed ?_ ?_);kernel_rfl)|((with_reducible apply aQ);intro σq hq;have hqi:=cm hq;clear hq)|(with_reducible exact bU)|((with_reducible apply bA);rfl;rfl)|(with_reducible refine bR (l8 (by first|(simp;done)|fail) (by first|(simp;done)|fail)) ?_)|((with_reducible first|refine ai (fun h=>?_) (fun h=>?_)|refine ab (fun h=>?_) (fun h=>?_))<;>(try simp only [h])<;>(try simp only [bg,bm] at h))|omega|(refine bq ?_;(first|omega|(simp only [aT];omega))))
    · exact ⟨(m+1,tk),ao bz id,by dsimp only;omega,by dsimp only;omega⟩
    · obtain rfl:m=(q2.1 - i - 1).toNat:=by omega
      have htA:=qC A (List.replicate (q2.1 - i - 1).toNat [])
      have htr:tot (List.replicate (q2.1 - i - 1).toNat ([]:List Int))=(q2.1 - i - 1).toNat:=by simp [tot]
      exact ⟨(q2,aF ls q2,A++List.replicate (q2.1 - i - 1).toNat [],tk2),aL bz (ResW.sub ((List.sublist_cons_self _ _).trans ((List.sublist_cons_self _ _).trans (List.sublist_cons_self _ _)))) id,⟨⟨f,by dsimp only;omega,hR⟩,g4,by dsimp only;omega,by dsimp only;omega,by dsimp only;omega,by dsimp only;omega,by dsimp only;omega⟩,by dsimp only;omega⟩
theorem nc {bj:Nat}{ls:List Ln}{n d:Int}{bk:Bool}{x y:AV}{op:List Int}{l:List EvV}{ρ τ σ0:List Res}{v:TrV}{q:Int × Int}{t:List Int} [hS:Split σ bj ρ (JC ls n bk d x y) τ] (hJ:JX x y op l τ σ0) (hll:l.length≤1000000000) (hlo:op.length≤1000000000) (hs:Small ls) (hp:Pl ls q) (ht:t.length≤2000)
  (h1:∀ s e,eZ ls n (bk && decide (op.length=0)) q t=.ok (s,e)→∀ y' τ',JX x y' op (l++[⟨7,cu s,v.t,v.a,1,false⟩]) τ' σ0→K (.ret (cS e)) (ρ ++ .obj bj (JC ls n bk d x y')::τ'))
  (h2:∀ e,eZ ls n (bk && decide (op.length=0)) q t=.error e→K (.pan (bI e)) σ):ACallF κ Tryz.prog 147 [JP bj,cS q,SI o t,vx v] σ K :=
 ACallF.at_ (b:=bj) (Jj hJ hll hlo hs hp ht h1 (fun e h=>by have:=h2 e h;rwa [hS.is] at this))
end Go.Proofs.YthkabaiamcjdbaaGreat
/-
 Chapter 13: nodes,as plain functions;nothing of the program is walked here.
-/

namespace Go.Proofs.YthkabaiamcjdbaaGreat
open Go.Abs
abbrev NodeR:=Except Int (List EvV × (Int × Int) × Bool)
abbrev PartR:=Except Int (List EvV × (Int × Int))
abbrev j8 (v:TrV):EvV:=⟨7,.empty,v.t,v.a,1,false⟩
abbrev fe (k:Int) (v:TrV):EvV:=⟨k,.empty,v.t,v.a,0,true⟩
abbrev eo (k:Int):EvV:=⟨k,.empty,.empty,.empty,0,false⟩
def ct (ls:List Ln) (n:Int) (p:Int × Int):Except Int (Int × Int) :=
 match onF ls n p with
 | none=>.error 7
 | some none=>.error 2
 | some (some q)=>.ok q
def ei (ls:List Ln) (p:Int × Int) (c:Int):Bool:=bV (aF ls p) c && !eC (aF ls p) 1 true
def lD (ls:List Ln) (p:Int × Int) (k:(Int × Int) × Bool):Bool:=ei ls p 58 || (isF ls p 58 && k.2 && decide (k.1=p))
def iD (v:TrV):Bool:=!ca v.a || !ca v.t
def ee (ls:List Ln) (n:Int) (N:Int × Int→NodeR) (key:(Int × Int) × Bool) (shut:Int):PartR :=
 match ct ls n key.1 with
 | .error e=>.error e
 | .ok p =>
  if lD ls p key=false then .ok ([j8 tr0],key.1)
  else match ct ls n (p.1,p.2+1) with
   | .error e=>.error e
   | .ok q =>
    if (isF ls q 44 || isF ls q shut)=true then .ok ([j8 tr0],(p.1,p.2+1))
    else match N q with
     | .error e=>.error e
     | .ok (ev,e,_)=>.ok (ev,e)
def eD (ls:List Ln) (n:Int) (N:Int × Int→NodeR) (p:Int × Int) (shut:Int):NodeR :=
 match ct ls n (p.1,p.2+1) with
 | .error e=>.error e
 | .ok q =>
  if (isF ls q 44 || isF ls q shut || ei ls q 58)=true then .ok ([j8 tr0],(p.1,p.2+1),false)
  else N q
def fh (ls:List Ln) (n:Int) (N:Int × Int→NodeR) (r:NodeR) (shut:Int):PartR :=
 match r with
 | .error e=>.error e
 | .ok (ev,key)=>match ee ls n N key shut with
  | .error e=>.error e
  | .ok (ev2,e)=>.ok (ev++ev2,e)
def gw (ls:List Ln) (n:Int) (N:Int × Int→NodeR) (p:Int × Int):PartR :=
 if ei ls p 63=true then fh ls n N (eD ls n N p 125) 125 else fh ls n N (N p) 125
def jy:Int→Int→List EvV→Int
 | _,m,[]=>m
 | d,m,e::l=>if e.k=3∨e.k=5 then jy (d+1) (max m (d+1)) l else if e.k=4∨e.k=6 then jy (d - 1) m l else jy d m l
def mI (l:List EvV):Int:=jy 0 0 l
def pY (r:PartR):PartR :=
 match r with
 | .error e=>.error e
 | .ok (ev,e)=>.ok (fe 5 tr0::(ev++[eo 6]),e)
def ql (ls:List Ln) (p q:Int × Int) (key:(Int × Int) × Bool):Bool:=decide (key.1.1=p.1) && (decide (q.1=p.1) && (decide (q.2 - p.2≤1024) && lD ls q key))
def eu (ls:List Ln) (n d:Int) (k:Nat) (N N1:Int × Int→NodeR) (p:Int × Int):PartR :=
 if ei ls p 63=true then
  (if cN d k 0=false then .error 8 else pY (fh ls n N1 (eD ls n N1 p 93) 93))
 else match N p with
  | .error e=>.error e
  | .ok (ev,key)=>match ct ls n key.1 with
   | .error e=>.error e
   | .ok q =>
    if ql ls p q key=false then .ok (ev,key.1)
    else if cN d k (mI ev)=false then .error 8
    else pY (fh ls n N1 (.ok (ev,key)) 93)
def cy (ls:List Ln) (n:Int) (E:Int × Int→PartR) (shut:Int):Nat→Int × Int→List EvV→PartR
 | 0,_,_=>.error 2
 | f+1,q,acc =>
  if isF ls q shut=true then .ok (acc,q)
  else match E q with
   | .error e=>.error e
   | .ok (ev,e)=>match ct ls n e with
    | .error e=>.error e
    | .ok q2 =>
     if isF ls q2 44=false then (if isF ls q2 shut=true then .ok (acc++ev,q2) else .error 2)
     else match ct ls n (q2.1,q2.2+1) with
      | .error e=>.error e
      | .ok q3=>cy ls n E shut f q3 (acc++ev)
def mu (p:Int × Int):Nat:=((2001 - p.1) * 5000+4999 - min p.2 4999).toNat
def gZ (ls:List Ln) (n d:Int) (k:Nat) (N:Nat→Int × Int→NodeR) (p:Int × Int) (c:Int) (v:TrV):PartR :=
 if cN d k 0=false then .error 8
 else match ct ls n (p.1,p.2+1) with
  | .error e=>.error e
  | .ok q=>match cy ls n (if c=123 then gw ls n (N (k+1)) else eu ls n d (k+1) (N (k+1)) (N (k+2))) (if c=123 then 125 else 93) (mu p+1) q [] with
   | .error e=>.error e
   | .ok (ev,e)=>.ok (fe (if c=123 then 5 else 3) v::(ev++[eo (if c=123 then 6 else 4)]),(e.1,e.2+1))
def lE (ls:List Ln) (n d:Int) (bk:Bool) (N:Nat→Int × Int→NodeR) (k:Nat) (v:TrV) (q:Int × Int) (l:List Int):NodeR :=
  if bV l 42=true then
    (if iD v=true then .error 2 else if i6 ls q (l.drop 1)=true then .ok ([⟨8,.empty,.empty,(bK (l.drop 1)).1,0,false⟩],(q.1,q.2+((bK (l.drop 1)).2.1+1)),false) else .error 2)
  else if bV l 34=true∨bV l 39=true then
    (match cH ls n (l.getD 0 0) q with
     | .error e=>.error e
     | .ok (t,s,e)=>.ok ([⟨7,cu t,v.t,v.a,s,false⟩],e,true))
  else if bV l 91=true∨bV l 123=true then
    (match gZ ls n d k N q (l.getD 0 0) v with
     | .error e=>.error e
     | .ok (ev,e)=>.ok (ev,e,true))
  else if 0 < l.length∧fb l (!(bk && decide (k=0)))=true then
    (match eZ ls n (bk && decide (k=0)) q l with
     | .error e=>.error e
     | .ok (t,e)=>.ok ([⟨7,cu t,v.t,v.a,1,false⟩],e,false))
  else if iD v=true then .ok ([j8 v],v.q,false) else .error 2
def nodeS (ls:List Ln) (n d:Int) (bk:Bool) (N:Nat→Int × Int→NodeR) (k:Nat) (p:Int × Int):NodeR :=
 match bG ls n p with
 | .error e=>.error e
 | .ok (v,q,ok)=>lE ls n d bk N k v q (if ok=true then aF ls q else [])
def nodeF (ls:List Ln) (n d:Int) (bk:Bool):Nat→Nat→Int × Int→NodeR
 | 0=>nodeS ls n d bk (fun _ _=>.error 8)
 | f+1=>nodeS ls n d bk (nodeF ls n d bk f)
/-! ### What places there are -/
theorem gP {p q:Int × Int} (h:Le2 p q) (h0:0≤q.2) (h1:0≤p.2):mu q≤mu p:=by
 unfold mu
 unfold Le2 at h
 omega
theorem P9 {p:Int × Int}{k:Nat} (h0:0≤p.2) (h1:p.2+k≤4001) (h2:p.1≤2000):mu (p.1,p.2+k)+k=mu p:=by
 unfold mu
 dsimp only
 omega
theorem zd {p:Int × Int} (h:0≤p.1∧0≤p.2):mu p≤10009999:=by
 unfold mu
 omega
end Go.Proofs.YthkabaiamcjdbaaGreat
/-
 The abstract layer,part I: structs of two numbers,held against each other.
-/

namespace Go.Abs
class TTwo (P:Program) (t:TypeId):Prop where
 ex : ∃ (f1 f2 : Field) (k1 k2 : IntKind), P.underlying t = some (.struct #[f1, f2]) ∧ f1.name ≠ "_" ∧ f2.name ≠ "_" ∧ f1.offset = 0 ∧ f2.offset = 1 ∧ P.underlying f1.type = some (.int k1) ∧ P.underlying f2.type = some (.int k2) ∧ aggT P f1.type = some false ∧ aggT P f2.type = some false
 stood:P.stoodInHeld t=false
 guard:P.eqGuardType P.depth t=false
section
variable {κ:Ctx} {P:Program} {all rest:List Oper} {Q:Exit→St→Prop} {d:Option Tmp} {t:List AV} {σ:List Res} {fr:Bool} {df:List Deferred}
theorem nY {ty:TypeId}{k:IntKind} (n:Nat) (h:P.underlying ty=some (.int k)) {a c:Int}{w:World}:(Op.equalIn (n+1) ty (.int .i64 a) (.int .i64 c)).run P w=.ok (a == c) w:=by
 simp [Op.equalIn,bu h]
theorem GO {ty:TypeId} (n:Nat) (h:TTwo P ty) {a b c e:Int}{w:World}:(Op.equalIn (n+1+1) ty (.agg #[.int .i64 a,.int .i64 b]) (.agg #[.int .i64 c,.int .i64 e])).run P w=.ok (a == c && b == e) w:=by
 obtain ⟨f1,f2,k1,k2,h1,h2,h3,h4,h5,h6,h7,h8,h9⟩:=h.ex
 have hp:(program).run P w=.ok P w:=rfl
 have s1:=nY n h6 (a:=a) (c:=c) (w:=w)
 have s2:=nY n h7 (a:=b) (c:=e) (w:=w)
 have p1:∀ x y:Int,(part f1.type #[.int .i64 x,.int .i64 y] f1.offset).run P w=.ok (.int .i64 x) w:=fun x y=>by simp [part,cd h8,h4]
 have p2:∀ x y:Int,(part f2.type #[.int .i64 x,.int .i64 y] f2.offset).run P w=.ok (.int .i64 y) w:=fun x y=>by simp [part,cd h9,h5]
 rw [Op.equalIn]
 simp only [Sem.run_bind,bu h1,Result.andThen_ok,hp,h.stood]
 cases e1:(a == c)<;>cases e2:(b == e)<;>simp [h2,h3,s1,s2,p1,p2,e1,e2]
theorem Eg {ty:TypeId} (h:TTwo P ty) {a b c e:Int}{w:World}:(Op.equal ty (.agg #[.int .i64 a,.int .i64 b]) (.agg #[.int .i64 c,.int .i64 e])).run P w=.ok (a == c && b == e) w:=by
 have:=GO (w:=w) (a:=a) (b:=b) (c:=c) (e:=e) 9998 h
 simp only [Op.equal,show Op.maxDepth=9998+1+1 from rfl,this]
theorem FC {ty:TypeId}{a b c e:Int} [h:TTwo P ty] (hK:dJ κ false P all Q d rest ⟨t,σ,fr,df⟩ (B (a == c && b == e)) σ):gX κ false P all Q d rest ⟨t,σ,fr,df⟩ .eql ty (.agg [I a,I b]) (.agg [I c,I e]):=by
 refine ⟨by unfold ig;rw [h.guard];rfl, ?_⟩
 show AAct κ P (.bin .eql ty) [.agg [I a,I b],.agg [I c,I e]] σ _
 intro φ g w vs hR hvs
 obtain ⟨v,u,rfl,hu,hv⟩:=dZ hvs
 cases dA (l:=[.int .i64 a,.int .i64 b]) hu
 cases dA (l:=[.int .i64 c,.int .i64 e]) hv
 refine ⟨.bool (a == c && b == e),w,g,_,σ, ?_,hR,GE.refl _ _,.raw _,hK⟩
 show (binOp .eql ty (.agg #[.int .i64 a,.int .i64 b]) (.agg #[.int .i64 c,.int .i64 e])).run P w=_
 simp only [binOp,Sem.run_bind,Eg h]
 rfl
end
end Go.Abs
/-
 Walks: chapter 13,signs cO nodes.
-/


namespace Go.Proofs.YthkabaiamcjdbaaGreat
open Go.Abs
variable {κ:Ctx} {σ:List Res} {K:Ret→List Res→Prop} {o o':Option (Option (Nat × Nat))}
abbrev tL (k:(Int × Int) × Bool):AV:=.agg [I k.1.1,I k.1.2,B k.2]
theorem oW {v:TrV} (hK:K (.ret (B (iD v))) σ):ACallF κ Tryz.prog 88 [vx v] σ K:=by
 unfold iD ca at hK
 have e1:(v.a.toList == ({ data:=#[] }:ByteArray).toList)=true∨(v.a.toList == ({ data:=#[] }:ByteArray).toList)=false:=by cases (v.a.toList == ({ data:=#[] }:ByteArray).toList)<;>simp
 refine ACallF.dropL (aa Tryz.func88 rfl ?_)
 simp only [Tryz.ntmps88]
 repeat' (first|simp only [WL,gE,WM,Nat.reduceAdd,Nat.reduceSub,Nat.reduceEqDiff,Bool.not_false,true_and,reduceIte,Bool.false_eq_true,T9,fR gN,fR gM,Tryz.results88]|(with_reducible first|refine aC (hb:=?_)|refine ax (hK:=?_)|refine aP (hK:=fun b=>?_))|((with_reducible first|refine ai (fun h=>?_) (fun h=>?_)|refine ab (fun h=>?_) (fun h=>?_))<;>(try simp only [h])<;>(try simp only [bg,bm] at h)))
 ·exact ak (ae ah) (aj (by rw [beq_iff_eq.2 (by assumption:v.a.toList=({ data:=#[] }:ByteArray).toList)];rfl)) hK
 ·exact ak (ae ah) (aj (by rw [beq_eq_false_iff_ne.2 (by assumption:¬v.a.toList=({ data:=#[] }:ByteArray).toList)];rfl)) hK
theorem eT {b ix:Nat}{ls:List Ln}{n d:Int}{bk:Bool}{x y:AV} [hJ:Hold σ b ix (JC ls n bk d x y)] {p:Int × Int}{c:Int} (hs:Small ls) (hp:bS p.1∧bS p.2) (hK:K (.ret (B (ei ls p c))) σ) :
  ACallF κ Tryz.prog 203 [JP b,cS p,I c] σ K:=by
 have hr:=bZ (p:=p) hs
 unfold ei bV at hK
 refine ACallF.dropL (aa Tryz.func203 rfl ?_)
 simp only [Tryz.ntmps203]
 repeat' (first|simp only [WL,aD,WM,Int.reduceToNat,reduceCtorEq,ba,Nat.reduceAdd,Nat.reduceSub,Nat.reduceLeDiff,Bool.not_true,true_and,reduceIte,Bool.false_eq_true,T3,bX,e8,wQ,Tryz.results203]|simp (disch:=first|omega|(simp only [aT];omega)) only [aV]|(with_reducible first|refine aC (hb:=?_)|refine aA (hK:=?_)|refine aP (hK:=fun b=>?_)|refine cD (eU hs hp ?_)|refine cD (nX (i:=1) ?_ ?_ ?_))|((with_reducible first|refine ai (fun h=>?_) (fun h=>?_)|refine ab (fun h=>?_) (fun h=>?_))<;>(try simp only [h])<;>(try simp only [bg,bm] at h))|omega)
 ·rw [decide_eq_true (by omega),beq_iff_eq.2 (by assumption:(aF ls p).getD 0 0=c)] at hK
  exact ak (ae ah) (aj rfl) hK
 ·rw [beq_eq_false_iff_ne.2 (by assumption:¬(aF ls p).getD 0 0=c),Bool.and_false] at hK
  exact ak (ae ah) (aj rfl) hK
 ·rw [decide_eq_false (by omega)] at hK
  exact ak (ae ah) (aj rfl) hK
instance:TTwo Tryz.prog 131:=⟨⟨_,_,_,_,Tryz.underlying131,by decide,by decide,rfl,rfl,Tryz.underlying3,Tryz.underlying3,OV,OV⟩,by decide +kernel,by decide +kernel⟩
theorem E9 {a b:Int × Int}:(a.1 == b.1 && a.2 == b.2)=decide (a=b):=by
 rw [Bool.eq_iff_iff];simp [Prod.ext_iff]
theorem rE {b ix:Nat}{ls:List Ln}{n d:Int}{bk:Bool}{x y:AV} [hJ:Hold σ b ix (JC ls n bk d x y)] {p:Int × Int}{k:(Int × Int) × Bool} (hs:Small ls) (hp:bS p.1∧bS p.2) (hK:K (.ret (B (lD ls p k))) σ) :
  ACallF κ Tryz.prog 206 [JP b,cS p,tL k] σ K:=by
 unfold lD at hK
 cases h1:ei ls p 58<;>cases h2:isF ls p 58<;>cases h3:k.2
 all_goals
  rw [h1,h2,h3] at hK
  refine ACallF.dropL (aa Tryz.func206 rfl ?_)
  simp only [Tryz.ntmps206]
  repeat' (first|( with_reducible refine FC ?_)|simp only [WL,WM,Nat.reduceAdd,Nat.reduceSub,Nat.reduceEqDiff,true_and,reduceIte,Bool.false_eq_true,T4,ia,fR fa,fR K2,dv,eY,Tryz.results206,h1,h2,h3,E9]|(with_reducible first|refine aC (hb:=?_)|refine ax (hK:=?_)|refine aA (hK:=?_)|refine aP (hK:=fun b=>?_)|refine cD (eT hs hp ?_)|refine cD (nn hs hp ?_)))
 all_goals first
  | exact ak (ae (ae ah)) (aj rfl) hK
  | exact ak (ae (ae ah)) (aj (congrArg B (by simp))) hK
theorem dE {ls:List Ln}{n:Int}{p q:Int × Int} (hs:Small ls) (h:ct ls n p=.ok q):Le2 p q∧Pl ls q∧0 < (aF ls q).length∧fB (aF ls q)=false:=by
 unfold ct at h
 split at h
 ·cases h
 ·cases h
 ·rename_i q' hq
  cases h
  obtain ⟨h1,h2,h3⟩:=uG hs hq
  exact ⟨h1,Pl.of_rest hs h2,h2,h3⟩
theorem eF {ls:List Ln}{n:Int}{p q:Int × Int} (hs:Small ls) (h:ct ls n p=.ok q) (hp:0≤p.2):mu q≤mu p:=by
 obtain ⟨h1,h2,-⟩:=dE hs h
 unfold Pl at h2
 exact gP h1 h2.2.2.1 hp
abbrev PlW (p:Int × Int):Prop:=0≤p.1∧p.1≤1000000000∧bS p.2∧0≤p.2
theorem Pl.w {ls:List Ln}{p:Int × Int} (hs:Small ls) (h:Pl ls p):PlW p:=by
 have:=hs.1
 unfold Pl at h
 unfold PlW
 omega
theorem Pl.w1 {ls:List Ln}{p:Int × Int} (hs:Small ls) (h:Pl ls p):PlW (p.1,p.2+1):=by
 have:=hs.1
 unfold Pl at h
 unfold PlW
 dsimp only
 omega
theorem Pl.in64 {ls:List Ln}{p:Int × Int} (hs:Small ls) (h:Pl ls p):bS p.1∧bS p.2:=by
 have:=hs.1
 unfold Pl at h
 exact ⟨by omega,by omega⟩
theorem PlW.in64 {p:Int × Int} (h:PlW p):bS p.1∧bS p.2:=⟨by have:=h.1;have:=h.2.1;omega,h.2.2.1⟩
theorem G6 {bj ix:Nat}{ls:List Ln}{n d:Int}{bk:Bool}{x y:AV} [hJ:Hold σ bj ix (JC ls n bk d x y)] {p:Int × Int} (hs:Small ls) (hp:PlW p)
  (h1:∀ q,ct ls n p=.ok q→K (.ret (cS q)) σ) (h2:∀ e,ct ls n p=.error e→K (.pan (bI e)) σ):ACallF κ Tryz.prog 180 [JP bj,cS p] σ K :=
 QX hs hp (fun q h=>h1 q (by unfold ct;rw [h])) (fun h=>h2 2 (by unfold ct;rw [h])) (fun h=>h2 7 (by unfold ct;rw [h]))
theorem cj {bj ix:Nat}{ls:List Ln}{n d:Int}{bk:Bool}{x y:AV} [hJ:Hold σ bj ix (JC ls n bk d x y)] {p q:Int × Int} (hm:ct ls n p=.ok q) (hs:Small ls) (hp:PlW p) (hK:K (.ret (cS q)) σ):ACallF κ Tryz.prog 180 [JP bj,cS p] σ K :=
 G6 hs hp (fun q' h=>by rw [hm] at h;cases h;exact hK) (fun e h=>by rw [hm] at h;cases h)
theorem iF {bj ix:Nat}{ls:List Ln}{n d e:Int}{bk:Bool}{x y:AV} [hJ:Hold σ bj ix (JC ls n bk d x y)] {p:Int × Int} (hm:ct ls n p=.error e) (hs:Small ls) (hp:PlW p) (hK:K (.pan (bI e)) σ):ACallF κ Tryz.prog 180 [JP bj,cS p] σ K :=
 G6 hs hp (fun q' h=>by rw [hm] at h;cases h) (fun e h=>by rw [hm] at h;cases h;exact hK)
def eO (ls:List Ln) (N:Int × Int→NodeR):Prop:=∀ p ev e t,Pl ls p→N p=.ok (ev,e,t)→Le2 p e∧Pl ls e∧ev.length+4+8 * mu e≤8 * mu p∧0 < ev.length
def gl (κ:Ctx) (bj:Nat) (ls:List Ln) (n d:Int) (bk:Bool) (N:Int × Int→NodeR) (k:Nat):Prop :=
 ∀ {x y:AV} {op:List Int} {l:List EvV} {τ σ0:List Res} {p:Int × Int} {K:Ret→List Res→Prop},op.length=k→JX x y op l τ σ0→Pl ls p→l.length+8 * mu p+8≤1000000000 →
  (∀ ev e t,N p=.ok (ev,e,t)→∀ x' y' τ',JX x' y' op (l++ev) τ' σ0→K (.ret (tL (e,t))) (.obj bj (JC ls n bk d x' y')::τ')) →
  (∀ e,N p=.error e→∀ x' y' op' l' τ',JX x' y' op' l' τ' σ0→K (.pan (bI e)) (.obj bj (JC ls n bk d x' y')::τ')) →
  ACallF κ Tryz.prog 119 [JP bj,cS p] (.obj bj (JC ls n bk d x y)::τ) K
theorem E0 {bj k:Nat}{ls:List Ln}{n d:Int}{bk:Bool}{N:Int × Int→NodeR}{x y:AV}{op:List Int}{l:List EvV}{ρ τ σ0:List Res}{p:Int × Int} (hN:gl κ bj ls n d bk N k) (hk:op.length=k) [hS:Split σ bj ρ (JC ls n bk d x y) τ] (hJ:JX x y op l τ σ0) (hp:Pl ls p) (hb:l.length+8 * mu p+8≤1000000000)
  (h1:∀ ev e t,N p=.ok (ev,e,t)→∀ x' y' τ',JX x' y' op (l++ev) τ' σ0→K (.ret (tL (e,t))) (ρ ++ .obj bj (JC ls n bk d x' y')::τ'))
  (h2:∀ e,N p=.error e→∀ x' y' op' l' τ',JX x' y' op' l' τ' σ0→K (.pan (bI e)) (ρ ++ .obj bj (JC ls n bk d x' y')::τ')) :
  ACallF κ Tryz.prog 119 [JP bj,cS p] σ K :=
 ACallF.at_ (b:=bj) (hN hk hJ hp hb h1 h2)
theorem lQ {bj k:Nat}{ls:List Ln}{n d:Int}{bk:Bool}{N:Int × Int→NodeR}{x y:AV}{op:List Int}{l ev:List EvV}{ρ τ σ0:List Res}{p e:Int × Int}{t:Bool} (hN:gl κ bj ls n d bk N k) (hn:N p=.ok (ev,e,t)) (hk:op.length=k) [hS:Split σ bj ρ (JC ls n bk d x y) τ] (hJ:JX x y op l τ σ0) (hp:Pl ls p) (hb:l.length+8 * mu p+8≤1000000000)
  (h1:∀ x' y' τ',JX x' y' op (l++ev) τ' σ0→K (.ret (tL (e,t))) (ρ ++ .obj bj (JC ls n bk d x' y')::τ')):ACallF κ Tryz.prog 119 [JP bj,cS p] σ K :=
 E0 hN hk hJ hp hb (fun ev' e' t' h=>by rw [hn] at h;cases h;exact h1) (fun e' h=>by rw [hn] at h;cases h)
theorem qG {bj k:Nat}{ls:List Ln}{n d e:Int}{bk:Bool}{N:Int × Int→NodeR}{x y:AV}{op:List Int}{l:List EvV}{ρ τ σ0:List Res}{p:Int × Int} (hN:gl κ bj ls n d bk N k) (hn:N p=.error e) (hk:op.length=k) [hS:Split σ bj ρ (JC ls n bk d x y) τ] (hJ:JX x y op l τ σ0) (hp:Pl ls p) (hb:l.length+8 * mu p+8≤1000000000)
  (h2:∀ x' y' op' l' τ',JX x' y' op' l' τ' σ0→K (.pan (bI e)) (ρ ++ .obj bj (JC ls n bk d x' y')::τ')):ACallF κ Tryz.prog 119 [JP bj,cS p] σ K :=
 E0 hN hk hJ hp hb (fun ev' e' t' h=>by rw [hn] at h;cases h) (fun e' h=>by rw [hn] at h;cases h;exact h2)
theorem eg {ls:List Ln}{p:Int × Int} (hs:Small ls) (h:Pl ls p):mu (p.1,p.2+1)+1=mu p:=by
 have:=hs.1
 unfold Pl at h
 exact P9 (k:=1) h.2.2.1 (by omega) (by omega)
theorem K8 {bj:Nat}{ls:List Ln}{n d:Int}{bk:Bool}{N:Int × Int→NodeR}{x y:AV}{op:List Int}{l:List EvV}{τ σ0:List Res}{key:(Int × Int) × Bool}{c:Int} (hN:gl κ bj ls n d bk N op.length) (hJ:JX x y op l τ σ0) (hs:Small ls) (hp:Pl ls key.1) (hb:l.length+8 * mu key.1+8≤1000000000)
  (h1:∀ ev e,ee ls n N key c=.ok (ev,e)→∀ x' y' τ',JX x' y' op (l++ev) τ' σ0→K (.ret (cS e)) (.obj bj (JC ls n bk d x' y')::τ'))
  (h2:∀ e,ee ls n N key c=.error e→∀ x' y' op' l' τ',JX x' y' op' l' τ' σ0→K (.pan (bI e)) (.obj bj (JC ls n bk d x' y')::τ')):ACallF κ Tryz.prog 204 [JP bj,tL key,I c] (.obj bj (JC ls n bk d x y)::τ) K:=by
 have hpw:=hp.w hs
 have hll:l.length≤1000000000:=by omega
 rw [ee] at h1 h2
 cases hm:ct ls n key.1 with
 | error e =>
  rw [hm] at h2
  refine ACallF.dropL (aa Tryz.func204 rfl ?_)
  simp only [Tryz.ntmps204]
  repeat' (first|simp only [WL,WM,Nat.reduceAdd,Nat.reduceSub,Nat.reduceEqDiff,true_and,ia,fR fa,cY]|(with_reducible first|refine aC (hb:=?_)|refine aA (hK:=?_)|refine aP (hK:=fun b=>?_)|refine aS (hK:=fun b=>?_)|refine cD (iF (p:=key.1) hm hs hpw ?_)))
  exact aN bE rfl (h2 _ rfl _ _ _ _ _ hJ)
 | ok p =>
  rw [hm] at h1 h2
  dsimp only at h1 h2
  obtain ⟨a1,a2,a3,a4⟩:=dE hs hm
  have a5:=eF hs hm hp.2.2.1
  have a6:=eg hs a2
  have p64:=a2.in64 hs
  have pw1:=a2.w1 hs
  cases hsg:lD ls p key
  ·rw [if_pos hsg] at h1 h2
   refine ACallF.dropL (aa Tryz.func204 rfl ?_)
   simp only [Tryz.ntmps204]
   repeat' (first|simp only [WL,WM,Nat.reduceAdd,Nat.reduceSub,Nat.reduceEqDiff,Bool.not_false,true_and,ia,fR fa,hO,cY,mD,Tryz.results204,hsg]|(with_reducible first|refine aC (hb:=?_)|refine aA (hK:=?_)|refine az (hK:=?_)|refine aP (hK:=fun b=>?_)|refine aS (hK:=fun b=>?_)|refine aG (hK:=?_)|refine cD (cj (p:=key.1) hm hs hpw ?_)|refine cD (rE (p:=p) (k:=key) hs p64 ?_)|refine cD (ic (v:=tr0) hJ hll (fun y' τ' hJ'=>?_)))|((with_reducible refine aU ?_);apply db (hf:=Tryz.results204);exact aZ))
   exact ak bE (aj rfl) (h1 _ _ rfl _ _ _ (by assumption))
  ·rw [if_neg (by rw [hsg];decide)] at h1 h2
   cases hm2:ct ls n (p.1,p.2+1) with
   | error e =>
    rw [hm2] at h2
    refine ACallF.dropL (aa Tryz.func204 rfl ?_)
    simp only [Tryz.ntmps204]
    repeat' (first|simp only [WL,WM,Nat.reduceAdd,Nat.reduceSub,Nat.reduceEqDiff,Bool.not_true,true_and,ia,fR fa,cT,cY,mD,hsg]|(with_reducible first|refine aC (hb:=?_)|refine aA (hK:=?_)|refine az (hK:=?_)|refine aP (hK:=fun b=>?_)|refine aS (hK:=fun b=>?_)|refine cD (iF (p:=(p.1,p.2+1)) hm2 hs pw1 ?_)|refine cD (cj (p:=key.1) hm hs hpw ?_)|refine cD (rE (p:=p) (k:=key) hs p64 ?_)|refine cD (cb ?_ ?_))|omega)
    exact aN bE rfl (h2 _ rfl _ _ _ _ _ hJ)
   | ok q =>
    rw [hm2] at h1 h2
    dsimp only at h1 h2
    obtain ⟨c1,c2,c3,c4⟩:=dE hs hm2
    have c5:=eF hs hm2 pw1.2.2.2
    have q64:=c2.in64 hs
    cases hi:(isF ls q 44 || isF ls q c)
    ·rw [if_neg (by rw [hi];decide)] at h1 h2
     have hi1:isF ls q 44=false:=by cases e:isF ls q 44<;>simp_all
     have hi2:isF ls q c=false:=by cases e:isF ls q c<;>simp_all
     cases hn:N q with
     | error e =>
      rw [hn] at h2
      refine ACallF.dropL (aa Tryz.func204 rfl ?_)
      simp only [Tryz.ntmps204]
      repeat' (first|simp only [WL,WM,Nat.reduceAdd,Nat.reduceSub,Nat.reduceEqDiff,Bool.not_true,true_and,reduceIte,Bool.false_eq_true,ia,fR fa,ie,cT,cY,dv,mD,hsg,hi1,hi2]|(with_reducible first|refine aC (hb:=?_)|refine aA (hK:=?_)|refine az (hK:=?_)|refine aP (hK:=fun b=>?_)|refine aS (hK:=fun b=>?_)|refine cD (cj (p:=(p.1,p.2+1)) hm2 hs pw1 ?_)|refine cD (cj (p:=key.1) hm hs hpw ?_)|refine cD (rE (p:=p) (k:=key) hs p64 ?_)|refine cD (nn (p:=q) hs q64 ?_)|refine cD (qG hN hn rfl hJ c2 (by omega) (fun x' y' op' l' τ' hJ'=>?_))|refine cD (cb ?_ ?_))|omega)
      exact aN bE rfl (h2 _ rfl _ _ _ _ _ (by assumption))
     | ok r =>
      obtain ⟨ev,e,tt⟩:=r
      rw [hn] at h1
      refine ACallF.dropL (aa Tryz.func204 rfl ?_)
      simp only [Tryz.ntmps204]
      repeat' (first|simp only [WL,WM,Nat.reduceAdd,Nat.reduceSub,Nat.reduceEqDiff,Bool.not_true,true_and,reduceIte,Bool.false_eq_true,ia,fR fa,fA fa yr xg,ie,cT,cY,dv,mD,Tryz.results204,hsg,hi1,hi2]|(with_reducible first|refine aC (hb:=?_)|refine aA (hK:=?_)|refine az (hK:=?_)|refine aP (hK:=fun b=>?_)|refine aS (hK:=fun b=>?_)|refine cD (cj (p:=(p.1,p.2+1)) hm2 hs pw1 ?_)|refine cD (cj (p:=key.1) hm hs hpw ?_)|refine cD (rE (p:=p) (k:=key) hs p64 ?_)|refine cD (nn (p:=q) hs q64 ?_)|refine cD (lQ hN hn rfl hJ c2 (by omega) (fun x' y' τ' hJ'=>?_))|refine cD (cb ?_ ?_))|((with_reducible refine aU ?_);apply db (hf:=Tryz.results204);exact aZ)|omega)
      exact ak bE (aj rfl) (h1 _ _ rfl _ _ _ (by assumption))
    ·rw [if_pos hi] at h1 h2
     rcases (Bool.or_eq_true _ _).mp hi with hi1|hi1
     ·skip
      refine ACallF.dropL (aa Tryz.func204 rfl ?_)
      simp only [Tryz.ntmps204]
      repeat' (first|simp only [WL,WM,Nat.reduceAdd,Nat.reduceSub,Nat.reduceEqDiff,Bool.not_true,true_and,reduceIte,ia,fR fa,cT,hO,cY,dv,mD,Tryz.results204,hsg,hi1]|(with_reducible first|refine aC (hb:=?_)|refine aA (hK:=?_)|refine az (hK:=?_)|refine aP (hK:=fun b=>?_)|refine aS (hK:=fun b=>?_)|refine aG (hK:=?_)|refine cD (cj (p:=(p.1,p.2+1)) hm2 hs pw1 ?_)|refine cD (cj (p:=key.1) hm hs hpw ?_)|refine cD (rE (p:=p) (k:=key) hs p64 ?_)|refine cD (nn (p:=q) hs q64 ?_)|refine cD (ic (v:=tr0) hJ hll (fun y' τ' hJ'=>?_))|refine cD (cb ?_ ?_))|((with_reducible refine aU ?_);apply db (hf:=Tryz.results204);exact aZ)|omega)
      exact ak bE (aj rfl) (h1 _ _ rfl _ _ _ (by assumption))
     ·skip
      refine ACallF.dropL (aa Tryz.func204 rfl ?_)
      simp only [Tryz.ntmps204]
      repeat' (first|simp only [WL,WM,Nat.reduceAdd,Nat.reduceSub,Nat.reduceEqDiff,Bool.not_true,Bool.not_false,true_and,reduceIte,Bool.false_eq_true,ia,fR fa,cT,hO,cY,dv,mD,Tryz.results204,hsg,hi1]|(with_reducible first|refine aC (hb:=?_)|refine aA (hK:=?_)|refine az (hK:=?_)|refine aP (hK:=fun b=>?_)|refine aS (hK:=fun b=>?_)|refine aG (hK:=?_)|refine cD (cj (p:=(p.1,p.2+1)) hm2 hs pw1 ?_)|refine cD (cj (p:=key.1) hm hs hpw ?_)|refine cD (rE (p:=p) (k:=key) hs p64 ?_)|refine cD (nn (p:=q) hs q64 ?_)|refine cD (ic (v:=tr0) hJ hll (fun y' τ' hJ'=>?_))|refine cD (cb ?_ ?_))|((with_reducible refine aU ?_);apply db (hf:=Tryz.results204);exact aZ)|((with_reducible first|refine ai (fun h=>?_) (fun h=>?_)|refine ab (fun h=>?_) (fun h=>?_))<;>(try simp only [h])<;>(try simp only [bg,bm] at h))|omega)
      all_goals exact ak bE (aj rfl) (h1 _ _ rfl _ _ _ (by assumption))
theorem mY {ls:List Ln}{n:Int}{N:Int × Int→NodeR}{key:(Int × Int) × Bool}{c:Int}{ev:List EvV}{e:Int × Int} (hs:Small ls) (hN:eO ls N) (hp:Pl ls key.1) (h:ee ls n N key c=.ok (ev,e)) :
  Le2 key.1 e∧Pl ls e∧ev.length+8 * mu e≤8 * mu key.1+1:=by
 unfold ee at h
 split at h
 ·cases h
 ·rename_i p hm
  obtain ⟨a1,a2,a3,a4⟩:=dE hs hm
  have a5:=eF hs hm hp.2.2.1
  split at h
  ·cases h
   exact ⟨Le2.rfl_,hp,by simp;omega⟩
  ·have a6:=eg hs a2
   have a7:=Pl.behind (n:=1) hs a3 (by omega)
   have a8:Le2 key.1 (p.1,p.2+1):=a1.trans (.inr ⟨rfl,by dsimp only;omega⟩)
   split at h
   ·cases h
   ·rename_i q hm2
    obtain ⟨c1,c2,c3,c4⟩:=dE hs hm2
    have c5:=eF hs hm2 a7.2.2.1
    split at h
    ·cases h
     exact ⟨a8,a7,by simp;omega⟩
    ·split at h
     ·cases h
     ·rename_i hn
      cases h
      obtain ⟨d1,d2,d3,d4⟩:=hN _ _ _ _ c2 hn
      exact ⟨(a8.trans c1).trans d1,d2,by omega⟩
theorem km {ls:List Ln}{n:Int}{N:Int × Int→NodeR}{p:Int × Int}{c:Int}{ev:List EvV}{e:Int × Int}{t:Bool} (hs:Small ls) (hN:eO ls N) (hp:Pl ls p) (h0:0 < (aF ls p).length) (h:eD ls n N p c=.ok (ev,e,t)) :
  Le2 p e∧Pl ls e∧ev.length+4+8 * mu e≤8 * mu p:=by
 have a6:=eg hs hp
 have a7:=Pl.behind (n:=1) hs h0 (by omega)
 have a8:Le2 p (p.1,p.2+1):=.inr ⟨rfl,by dsimp only;omega⟩
 unfold eD at h
 split at h
 ·cases h
 ·rename_i q hm2
  obtain ⟨c1,c2,c3,c4⟩:=dE hs hm2
  have c5:=eF hs hm2 a7.2.2.1
  split at h
  ·cases h
   exact ⟨a8,a7,by simp;omega⟩
  ·obtain ⟨d1,d2,d3,d4⟩:=hN _ _ _ _ c2 h
   exact ⟨(a8.trans c1).trans d1,d2,by omega⟩
theorem kq {ls:List Ln}{n:Int}{N:Int × Int→NodeR}{p:Int × Int}{c:Int}{r:NodeR}{ev:List EvV}{e:Int × Int} (hs:Small ls) (hN:eO ls N) (hr:∀ ev e t,r=.ok (ev,e,t)→Le2 p e∧Pl ls e∧ev.length+4+8 * mu e≤8 * mu p) (h:fh ls n N r c=.ok (ev,e)) :
  Le2 p e∧Pl ls e∧ev.length+3+8 * mu e≤8 * mu p:=by
 unfold fh at h
 split at h
 ·cases h
 ·obtain ⟨a1,a2,a3⟩:=hr _ _ _ rfl
  split at h
  ·cases h
  ·rename_i hv
   cases h
   obtain ⟨b1,b2,b3⟩:=mY hs hN a2 hv
   exact ⟨a1.trans b1,b2,by rw [List.length_append];omega⟩
theorem lG {ls:List Ln}{p:Int × Int}{c:Int} (h:ei ls p c=true):0 < (aF ls p).length:=by
 unfold ei bV at h
 simp only [Bool.and_eq_true,decide_eq_true_eq] at h
 exact h.1.1
def rO (ls:List Ln) (E:Int × Int→PartR):Prop:=∀ p ev e,Pl ls p→E p=.ok (ev,e)→Le2 p e∧Pl ls e∧ev.length+1+8 * mu e≤8 * mu p
theorem o7 {ls:List Ln}{N:Int × Int→NodeR}{p:Int × Int} (hN:eO ls N) (hp:Pl ls p):∀ ev e t,N p=.ok (ev,e,t)→Le2 p e∧Pl ls e∧ev.length+4+8 * mu e≤8 * mu p:=fun ev e t h=>by
 obtain ⟨a1,a2,a3,-⟩:=hN _ _ _ _ hp h
 exact ⟨a1,a2,a3⟩
theorem oK {ls:List Ln}{n:Int}{N:Int × Int→NodeR} (hs:Small ls) (hN:eO ls N):rO ls (gw ls n N):=by
 intro p ev e hp h
 unfold gw at h
 split at h
 ·rename_i h0
  obtain ⟨a1,a2,a3⟩:=kq (p:=p) hs hN (fun ev e t h=>km hs hN hp (lG h0) h) h
  exact ⟨a1,a2,by omega⟩
 ·obtain ⟨a1,a2,a3⟩:=kq (p:=p) hs hN (o7 hN hp) h
  exact ⟨a1,a2,by omega⟩
theorem oG {r:PartR}{ev:List EvV}{e:Int × Int} (h:pY r=.ok (ev,e)):∃ ev',r=.ok (ev',e)∧ev=fe 5 tr0::(ev'++[eo 6]):=by
 unfold pY at h
 split at h
 ·cases h
 ·cases h;exact ⟨_,rfl,rfl⟩
theorem oN {ls:List Ln}{n d:Int}{k:Nat}{N N1:Int × Int→NodeR} (hs:Small ls) (hN:eO ls N) (hN1:eO ls N1):rO ls (eu ls n d k N N1):=by
 intro p ev e hp h
 unfold eu at h
 split at h
 ·rename_i h0
  split at h
  ·cases h
  ·obtain ⟨ev',h1,rfl⟩:=oG h
   obtain ⟨a1,a2,a3⟩:=kq (p:=p) hs hN1 (fun ev e t h=>km hs hN1 hp (lG h0) h) h1
   exact ⟨a1,a2,by simp only [List.length_cons,List.length_append,List.length_nil];omega⟩
 ·split at h
  ·cases h
  ·rename_i ev1 key hn
   obtain ⟨b1,b2,b3⟩:=o7 hN hp _ _ _ hn
   split at h
   ·cases h
   ·split at h
    ·cases h
     exact ⟨b1,b2,by omega⟩
    ·split at h
     ·cases h
     ·obtain ⟨ev',h1,rfl⟩:=oG h
      obtain ⟨a1,a2,a3⟩:=kq (p:=p) hs hN1 (fun ev e t h=>by cases h;exact ⟨b1,b2,b3⟩) h1
      exact ⟨a1,a2,by simp only [List.length_cons,List.length_append,List.length_nil];omega⟩
theorem jV {ls:List Ln}{p:Int × Int}{c:Int} (h:isF ls p c=true):0 < (aF ls p).length:=by
 unfold isF bV at h
 simp only [Bool.and_eq_true,decide_eq_true_eq] at h
 exact h.1
theorem ot {ls:List Ln}{n:Int}{E:Int × Int→PartR}{c:Int}{M:Nat} (hs:Small ls) (hE:rO ls E):∀ {f:Nat}{q:Int × Int}{acc ev:List EvV}{e:Int × Int},Pl ls q→acc.length+8 * mu q≤M→cy ls n E c f q acc=.ok (ev,e) →
  Le2 q e∧Pl ls e∧ev.length+8 * mu e≤M∧0 < (aF ls e).length
 | 0,_,_,_,_,_,_,h=>by cases h
 | f+1,q,acc,ev,e,hp,hM,h=>by
  unfold cy at h
  split at h
  ·rename_i h0
   cases h
   exact ⟨Le2.rfl_,hp,hM,jV h0⟩
  ·split at h
   ·cases h
   ·rename_i ev1 e1 hn
    obtain ⟨b1,b2,b3⟩:=hE _ _ _ hp hn
    split at h
    ·cases h
    ·rename_i q2 hm
     obtain ⟨a1,a2,a3,a4⟩:=dE hs hm
     have a5:=eF hs hm b2.2.2.1
     split at h
     ·split at h
      ·rename_i h0
       cases h
       exact ⟨b1.trans a1,a2,by rw [List.length_append];omega,jV h0⟩
      ·cases h
     ·have a6:=eg hs a2
      have a7:=Pl.behind (n:=1) hs a3 (by omega)
      split at h
      ·cases h
      ·rename_i q3 hm3
       obtain ⟨c1,c2,c3,c4⟩:=dE hs hm3
       have c5:=eF hs hm3 a7.2.2.1
       obtain ⟨d1,d2,d3,d4⟩:=ot (M:=M) hs hE c2 (by rw [List.length_append];omega) h
       have a8:Le2 q2 (q2.1,q2.2+1):=.inr ⟨rfl,by dsimp only;omega⟩
       exact ⟨((b1.trans a1).trans a8).trans (c1.trans d1),d2,d3,d4⟩
theorem Gt {bj:Nat}{ls:List Ln}{n d:Int}{bk:Bool}{N:Int × Int→NodeR}{x y:AV}{op:List Int}{l:List EvV}{ρ τ σ0:List Res}{key:(Int × Int) × Bool}{c:Int} (hN:gl κ bj ls n d bk N op.length) [hS:Split σ bj ρ (JC ls n bk d x y) τ] (hJ:JX x y op l τ σ0) (hs:Small ls) (hp:Pl ls key.1) (hb:l.length+8 * mu key.1+8≤1000000000)
  (h1:∀ ev e,ee ls n N key c=.ok (ev,e)→∀ x' y' τ',JX x' y' op (l++ev) τ' σ0→K (.ret (cS e)) (ρ ++ .obj bj (JC ls n bk d x' y')::τ'))
  (h2:∀ e,ee ls n N key c=.error e→∀ x' y' op' l' τ',JX x' y' op' l' τ' σ0→K (.pan (bI e)) (ρ ++ .obj bj (JC ls n bk d x' y')::τ')):ACallF κ Tryz.prog 204 [JP bj,tL key,I c] σ K :=
 ACallF.at_ (b:=bj) (K8 hN hJ hs hp hb h1 h2)
theorem nT {bj:Nat}{ls:List Ln}{n d:Int}{bk:Bool}{N:Int × Int→NodeR}{x y:AV}{op:List Int}{l ev:List EvV}{ρ τ σ0:List Res}{key:(Int × Int) × Bool}{c:Int}{e:Int × Int} (hv:ee ls n N key c=.ok (ev,e)) (hN:gl κ bj ls n d bk N op.length) [hS:Split σ bj ρ (JC ls n bk d x y) τ] (hJ:JX x y op l τ σ0) (hs:Small ls) (hp:Pl ls key.1) (hb:l.length+8 * mu key.1+8≤1000000000)
  (h1:∀ x' y' τ',JX x' y' op (l++ev) τ' σ0→K (.ret (cS e)) (ρ ++ .obj bj (JC ls n bk d x' y')::τ')):ACallF κ Tryz.prog 204 [JP bj,tL key,I c] σ K :=
 Gt hN hJ hs hp hb (fun ev' e' h=>by rw [hv] at h;cases h;exact h1) (fun e' h=>by rw [hv] at h;cases h)
theorem nE {bj:Nat}{ls:List Ln}{n d e:Int}{bk:Bool}{N:Int × Int→NodeR}{x y:AV}{op:List Int}{l:List EvV}{ρ τ σ0:List Res}{key:(Int × Int) × Bool}{c:Int} (hv:ee ls n N key c=.error e) (hN:gl κ bj ls n d bk N op.length) [hS:Split σ bj ρ (JC ls n bk d x y) τ] (hJ:JX x y op l τ σ0) (hs:Small ls) (hp:Pl ls key.1) (hb:l.length+8 * mu key.1+8≤1000000000)
  (h2:∀ x' y' op' l' τ',JX x' y' op' l' τ' σ0→K (.pan (bI e)) (ρ ++ .obj bj (JC ls n bk d x' y')::τ')):ACallF κ Tryz.prog 204 [JP bj,tL key,I c] σ K :=
 Gt hN hJ hs hp hb (fun ev' e' h=>by rw [hv] at h;cases h) (fun e' h=>by rw [hv] at h;cases h;exact h2)
theorem BN {bj:Nat}{ls:List Ln}{n d:Int}{bk:Bool}{N:Int × Int→NodeR}{x y:AV}{op:List Int}{l:List EvV}{τ σ0:List Res}{p:Int × Int}{c:Int} (hN:gl κ bj ls n d bk N op.length) (hJ:JX x y op l τ σ0) (hs:Small ls) (hp:Pl ls p) (hb:l.length+8 * mu p≤1000000000)
  (h1:∀ ev e t,eD ls n N p c=.ok (ev,e,t)→∀ x' y' τ',JX x' y' op (l++ev) τ' σ0→K (.ret (tL (e,t))) (.obj bj (JC ls n bk d x' y')::τ'))
  (h2:∀ e,eD ls n N p c=.error e→∀ x' y' op' l' τ',JX x' y' op' l' τ' σ0→K (.pan (bI e)) (.obj bj (JC ls n bk d x' y')::τ')):ACallF κ Tryz.prog 205 [JP bj,cS p,I c] (.obj bj (JC ls n bk d x y)::τ) K:=by
 have hll:l.length≤1000000000:=by omega
 have p64:=hp.in64 hs
 have pw1:=hp.w1 hs
 have a6:=eg hs hp
 rw [eD] at h1 h2
 cases hm2:ct ls n (p.1,p.2+1) with
 | error e =>
  rw [hm2] at h2
  refine ACallF.dropL (aa Tryz.func205 rfl ?_)
  simp only [Tryz.ntmps205]
  repeat' (first|simp only [WL,WM,Nat.reduceAdd,Nat.reduceSub,true_and,cT,cY]|(with_reducible first|refine aC (hb:=?_)|refine aA (hK:=?_)|refine az (hK:=?_)|refine aP (hK:=fun b=>?_)|refine aS (hK:=fun b=>?_)|refine cD (iF (p:=(p.1,p.2+1)) hm2 hs pw1 ?_)|refine cD (cb ?_ ?_))|omega)
  exact aN bE rfl (h2 _ rfl _ _ _ _ _ hJ)
 | ok q =>
  rw [hm2] at h1 h2
  dsimp only at h1 h2
  obtain ⟨c1,c2,c3,c4⟩:=dE hs hm2
  have c5:=eF hs hm2 pw1.2.2.2
  have q64:=c2.in64 hs
  cases hi1:isF ls q 44<;>cases hi2:isF ls q c<;>cases hi3:ei ls q 58<;>rw [hi1,hi2,hi3] at h1 h2
  ·rw [if_neg (by decide)] at h1 h2
   cases hn:N q with
   | error e =>
    refine ACallF.dropL (aa Tryz.func205 rfl ?_)
    simp only [Tryz.ntmps205]
    repeat' (first|simp only [WL,WM,Nat.reduceAdd,Nat.reduceSub,true_and,reduceIte,Bool.false_eq_true,ie,cT,cY,dv,eY,hi1,hi2,hi3]|(with_reducible first|refine aC (hb:=?_)|refine aA (hK:=?_)|refine az (hK:=?_)|refine aP (hK:=fun b=>?_)|refine aS (hK:=fun b=>?_)|refine cD (cj (p:=(p.1,p.2+1)) hm2 hs pw1 ?_)|refine cD (eT (p:=q) hs q64 ?_)|refine cD (nn (p:=q) hs q64 ?_)|refine cD (qG hN hn rfl hJ c2 (by omega) (fun x' y' op' l' τ' hJ'=>?_))|refine cD (cb ?_ ?_))|omega)
    exact aN bE rfl (h2 _ hn _ _ _ _ _ (by assumption))
   | ok r =>
    obtain ⟨ev,e,tt⟩:=r
    refine ACallF.dropL (aa Tryz.func205 rfl ?_)
    simp only [Tryz.ntmps205]
    repeat' (first|simp only [WL,WM,Nat.reduceAdd,Nat.reduceSub,true_and,reduceIte,Bool.false_eq_true,ie,cT,cY,dv,eY,Tryz.results205,hi1,hi2,hi3]|(with_reducible first|refine aC (hb:=?_)|refine aA (hK:=?_)|refine az (hK:=?_)|refine aP (hK:=fun b=>?_)|refine aS (hK:=fun b=>?_)|refine cD (cj (p:=(p.1,p.2+1)) hm2 hs pw1 ?_)|refine cD (eT (p:=q) hs q64 ?_)|refine cD (nn (p:=q) hs q64 ?_)|refine cD (lQ hN hn rfl hJ c2 (by omega) (fun x' y' τ' hJ'=>?_))|refine cD (cb ?_ ?_))|((with_reducible refine aU ?_);apply db (hf:=Tryz.results205);exact aZ)|omega)
    exact ak bE (aj rfl) (h1 _ _ _ hn _ _ _ (by assumption))
  all_goals
   rw [if_pos (by rfl)] at h1 h2
   refine ACallF.dropL (aa Tryz.func205 rfl ?_)
   simp only [Tryz.ntmps205]
   repeat' (first|simp only [WL,WM,Nat.reduceAdd,Nat.reduceSub,true_and,reduceIte,Bool.false_eq_true,cT,hO,cY,dv,eY,Tryz.results205,hi1,hi2,hi3]|(with_reducible first|refine aC (hb:=?_)|refine aA (hK:=?_)|refine az (hK:=?_)|refine aP (hK:=fun b=>?_)|refine aS (hK:=fun b=>?_)|refine aG (hK:=?_)|refine cD (cj (p:=(p.1,p.2+1)) hm2 hs pw1 ?_)|refine cD (eT (p:=q) hs q64 ?_)|refine cD (nn (p:=q) hs q64 ?_)|refine cD (ic (v:=tr0) hJ hll (fun y' τ' hJ'=>?_))|refine cD (cb ?_ ?_))|((with_reducible refine aU ?_);apply db (hf:=Tryz.results205);exact aZ)|omega)
   exact ak bE (aj rfl) (h1 _ _ _ rfl _ _ _ (by assumption))
theorem nF {bj:Nat}{ls:List Ln}{n d:Int}{bk:Bool}{N:Int × Int→NodeR}{x y:AV}{op:List Int}{l ev:List EvV}{ρ τ σ0:List Res}{p e:Int × Int}{c:Int}{t:Bool} (hv:eD ls n N p c=.ok (ev,e,t)) (hN:gl κ bj ls n d bk N op.length) [hS:Split σ bj ρ (JC ls n bk d x y) τ] (hJ:JX x y op l τ σ0) (hs:Small ls) (hp:Pl ls p) (hb:l.length+8 * mu p≤1000000000)
  (h1:∀ x' y' τ',JX x' y' op (l++ev) τ' σ0→K (.ret (tL (e,t))) (ρ ++ .obj bj (JC ls n bk d x' y')::τ')):ACallF κ Tryz.prog 205 [JP bj,cS p,I c] σ K :=
 ACallF.at_ (b:=bj) (BN hN hJ hs hp hb (fun ev' e' t' h=>by rw [hv] at h;cases h;exact h1) (fun e' h=>by rw [hv] at h;cases h))
theorem wZ {bj:Nat}{ls:List Ln}{n d e:Int}{bk:Bool}{N:Int × Int→NodeR}{x y:AV}{op:List Int}{l:List EvV}{ρ τ σ0:List Res}{p:Int × Int}{c:Int} (hv:eD ls n N p c=.error e) (hN:gl κ bj ls n d bk N op.length) [hS:Split σ bj ρ (JC ls n bk d x y) τ] (hJ:JX x y op l τ σ0) (hs:Small ls) (hp:Pl ls p) (hb:l.length+8 * mu p≤1000000000)
  (h2:∀ x' y' op' l' τ',JX x' y' op' l' τ' σ0→K (.pan (bI e)) (ρ ++ .obj bj (JC ls n bk d x' y')::τ')):ACallF κ Tryz.prog 205 [JP bj,cS p,I c] σ K :=
 ACallF.at_ (b:=bj) (BN hN hJ hs hp hb (fun ev' e' t' h=>by rw [hv] at h;cases h) (fun e' h=>by rw [hv] at h;cases h;exact h2))
def nD (κ:Ctx) (bj:Nat) (ls:List Ln) (n d:Int) (bk:Bool) (E:Int × Int→PartR) (f:FuncId) (k:Nat):Prop :=
 ∀ {x y:AV} {op:List Int} {l:List EvV} {τ σ0:List Res} {p:Int × Int} {K:Ret→List Res→Prop},op.length=k→JX x y op l τ σ0→Pl ls p→l.length+8 * mu p+8≤1000000000 →
  (∀ ev e,E p=.ok (ev,e)→∀ x' y' τ',JX x' y' op (l++ev) τ' σ0→K (.ret (cS e)) (.obj bj (JC ls n bk d x' y')::τ')) →
  (∀ e,E p=.error e→∀ x' y' op' l' τ',JX x' y' op' l' τ' σ0→K (.pan (bI e)) (.obj bj (JC ls n bk d x' y')::τ')) →
  ACallF κ Tryz.prog f [JP bj,cS p] (.obj bj (JC ls n bk d x y)::τ) K
theorem jC {bj k:Nat}{ls:List Ln}{n d:Int}{bk:Bool}{E:Int × Int→PartR}{f:FuncId}{x y:AV}{op:List Int}{l ev:List EvV}{ρ τ σ0:List Res}{p e:Int × Int} (hE:nD κ bj ls n d bk E f k) (hn:E p=.ok (ev,e)) (hk:op.length=k) [hS:Split σ bj ρ (JC ls n bk d x y) τ] (hJ:JX x y op l τ σ0) (hp:Pl ls p) (hb:l.length+8 * mu p+8≤1000000000)
  (h1:∀ x' y' τ',JX x' y' op (l++ev) τ' σ0→K (.ret (cS e)) (ρ ++ .obj bj (JC ls n bk d x' y')::τ')):ACallF κ Tryz.prog f [JP bj,cS p] σ K :=
 ACallF.at_ (b:=bj) (hE hk hJ hp hb (fun ev' e' h=>by rw [hn] at h;cases h;exact h1) (fun e' h=>by rw [hn] at h;cases h))
theorem Ex {bj k:Nat}{ls:List Ln}{n d e:Int}{bk:Bool}{E:Int × Int→PartR}{f:FuncId}{x y:AV}{op:List Int}{l:List EvV}{ρ τ σ0:List Res}{p:Int × Int} (hE:nD κ bj ls n d bk E f k) (hn:E p=.error e) (hk:op.length=k) [hS:Split σ bj ρ (JC ls n bk d x y) τ] (hJ:JX x y op l τ σ0) (hp:Pl ls p) (hb:l.length+8 * mu p+8≤1000000000)
  (h2:∀ x' y' op' l' τ',JX x' y' op' l' τ' σ0→K (.pan (bI e)) (ρ ++ .obj bj (JC ls n bk d x' y')::τ')):ACallF κ Tryz.prog f [JP bj,cS p] σ K :=
 ACallF.at_ (b:=bj) (hE hk hJ hp hb (fun ev' e' h=>by rw [hn] at h;cases h) (fun e' h=>by rw [hn] at h;cases h;exact h2))
theorem SJ {bj k:Nat}{ls:List Ln}{n d:Int}{bk:Bool}{N:Int × Int→NodeR} (hs:Small ls) (hN:gl κ bj ls n d bk N k) (hG:eO ls N):nD κ bj ls n d bk (gw ls n N) 178 k:=by
 intro x y op l τ σ0 p K hk hJ hp hb h1 h2
 subst hk
 have p64:=hp.in64 hs
 unfold gw fh at h1 h2
 cases h0:ei ls p 63
 ·simp only [h0,Bool.false_eq_true,if_false] at h1 h2
  cases hn:N p with
  | error e =>
   rw [hn] at h2
   refine ACallF.dropL (aa Tryz.func178 rfl ?_)
   simp only [Tryz.ntmps178]
   repeat' (first|simp only [WL,WM,Nat.reduceAdd,Nat.reduceSub,true_and,ie,eY,h0]|(with_reducible first|refine aA (hK:=?_)|refine aP (hK:=fun b=>?_)|refine aS (hK:=fun b=>?_)|refine cD (eT (p:=p) hs p64 ?_)|refine cD (qG hN hn rfl hJ hp (by omega) (fun x' y' op' l' τ' hJ'=>?_))))
   exact aN bE rfl (h2 _ rfl _ _ _ _ _ (by assumption))
  | ok r =>
   obtain ⟨ev,e,tt⟩:=r
   rw [hn] at h1 h2
   dsimp only at h1 h2
   obtain ⟨a1,a2,a3⟩:=o7 hG hp _ _ _ hn
   have hl2:(l++ev).length+8 * mu (e,tt).1+8≤1000000000:=by rw [List.length_append];dsimp only;omega
   cases hv:ee ls n N (e,tt) 125 with
   | error e2 =>
    rw [hv] at h2
    refine ACallF.dropL (aa Tryz.func178 rfl ?_)
    simp only [Tryz.ntmps178]
    repeat' (first|simp only [WL,WM,Nat.reduceAdd,Nat.reduceSub,true_and,ie,eY,kP,h0]|(with_reducible first|refine aA (hK:=?_)|refine aP (hK:=fun b=>?_)|refine aS (hK:=fun b=>?_)|refine cD (eT (p:=p) hs p64 ?_)|refine cD (lQ hN hn rfl hJ hp (by omega) (fun x' y' τ' hJ'=>?_))|refine cD (nE (key:=(e,tt)) hv hN hJ' hs a2 hl2 (fun x'' y'' op' l' τ'' hJ''=>?_))))
    exact aN bE rfl (h2 _ rfl _ _ _ _ _ (by assumption))
   | ok r2 =>
    obtain ⟨ev2,e2⟩:=r2
    rw [hv] at h1
    refine ACallF.dropL (aa Tryz.func178 rfl ?_)
    simp only [Tryz.ntmps178]
    repeat' (first|simp only [WL,WM,Nat.reduceAdd,Nat.reduceSub,true_and,ie,eY,kP,Tryz.results178,h0]|(with_reducible first|refine aA (hK:=?_)|refine az (hK:=?_)|refine aP (hK:=fun b=>?_)|refine aS (hK:=fun b=>?_)|refine cD (eT (p:=p) hs p64 ?_)|refine cD (lQ hN hn rfl hJ hp (by omega) (fun x' y' τ' hJ'=>?_))|refine cD (nT (key:=(e,tt)) hv hN hJ' hs a2 hl2 (fun x'' y'' τ'' hJ''=>?_)))|((with_reducible refine aU ?_);apply db (hf:=Tryz.results178);exact aZ))
    rw [List.append_assoc] at hJ''
    exact ak bE (aj rfl) (h1 _ _ rfl _ _ _ hJ'')
 ·simp only [h0,if_true] at h1 h2
  cases hn:eD ls n N p 125 with
  | error e =>
   rw [hn] at h2
   refine ACallF.dropL (aa Tryz.func178 rfl ?_)
   simp only [Tryz.ntmps178]
   repeat' (first|simp only [WL,WM,Nat.reduceAdd,Nat.reduceSub,true_and,eY,pk,h0]|(with_reducible first|refine aA (hK:=?_)|refine aP (hK:=fun b=>?_)|refine aS (hK:=fun b=>?_)|refine cD (eT (p:=p) hs p64 ?_)|refine cD (wZ (p:=p) hn hN hJ hs hp (by omega) (fun x' y' op' l' τ' hJ'=>?_))))
   exact aN bE rfl (h2 _ rfl _ _ _ _ _ (by assumption))
  | ok r =>
   obtain ⟨ev,e,tt⟩:=r
   rw [hn] at h1 h2
   dsimp only at h1 h2
   obtain ⟨a1,a2,a3⟩:=km hs hG hp (lG h0) hn
   have hl2:(l++ev).length+8 * mu (e,tt).1+8≤1000000000:=by rw [List.length_append];dsimp only;omega
   cases hv:ee ls n N (e,tt) 125 with
   | error e2 =>
    rw [hv] at h2
    refine ACallF.dropL (aa Tryz.func178 rfl ?_)
    simp only [Tryz.ntmps178]
    repeat' (first|simp only [WL,WM,Nat.reduceAdd,Nat.reduceSub,true_and,eY,kP,pk,h0]|(with_reducible first|refine aA (hK:=?_)|refine aP (hK:=fun b=>?_)|refine aS (hK:=fun b=>?_)|refine cD (eT (p:=p) hs p64 ?_)|refine cD (nF (p:=p) hn hN hJ hs hp (by omega) (fun x' y' τ' hJ'=>?_))|refine cD (nE (key:=(e,tt)) hv hN hJ' hs a2 hl2 (fun x'' y'' op' l' τ'' hJ''=>?_))))
    exact aN bE rfl (h2 _ rfl _ _ _ _ _ (by assumption))
   | ok r2 =>
    obtain ⟨ev2,e2⟩:=r2
    rw [hv] at h1
    refine ACallF.dropL (aa Tryz.func178 rfl ?_)
    simp only [Tryz.ntmps178]
    repeat' (first|simp only [WL,WM,Nat.reduceAdd,Nat.reduceSub,true_and,eY,kP,pk,Tryz.results178,h0]|(with_reducible first|refine aA (hK:=?_)|refine az (hK:=?_)|refine aP (hK:=fun b=>?_)|refine aS (hK:=fun b=>?_)|refine cD (eT (p:=p) hs p64 ?_)|refine cD (nF (p:=p) hn hN hJ hs hp (by omega) (fun x' y' τ' hJ'=>?_))|refine cD (nT (key:=(e,tt)) hv hN hJ' hs a2 hl2 (fun x'' y'' τ'' hJ''=>?_)))|((with_reducible refine aU ?_);apply db (hf:=Tryz.results178);exact aZ))
    rw [List.append_assoc] at hJ''
    exact ak bE (aj rfl) (h1 _ _ rfl _ _ _ hJ'')
theorem rh {ls:List Ln}{n:Int}{E:Int × Int→PartR}{c:Int}{f:Nat}{q:Int × Int}{acc:List EvV}:cy ls n E c (f+1) q acc =
  if isF ls q c=true then .ok (acc,q)
  else match E q with
   | .error e=>.error e
   | .ok (ev,e)=>match ct ls n e with
    | .error e=>.error e
    | .ok q2 =>
     if isF ls q2 44=false then (if isF ls q2 c=true then .ok (acc++ev,q2) else .error 2)
     else match ct ls n (q2.1,q2.2+1) with
      | .error e=>.error e
      | .ok q3=>cy ls n E c f q3 (acc++ev):=rfl
theorem E4 {bj:Nat}{ls:List Ln}{n d c:Int}{bk:Bool}{N:Nat→Int × Int→NodeR}{x y:AV}{op:List Int}{l:List EvV}{τ σ0:List Res}{p:Int × Int}{v:TrV}{E:Int × Int→PartR}{F:FuncId}{sh kd:Int} (hs:Small ls) (hd:0≤d∧d≤1000000000)
  (hE:cN d op.length 0=true→nD κ bj ls n d bk E F (op.length+1)) (hG:rO ls E) (hc:(c=123∧F=178∧sh=125∧kd=5)∨(¬c=123∧F=177∧sh=93∧kd=3)) (hJ:JX x y op l τ σ0) (hlo:op.length≤1000000) (hp:Pl ls p) (h0:0 < (aF ls p).length) (hb:l.length+8 * mu p+8≤1000000000)
  (h1:∀ q ev e,cN d op.length 0=true→ct ls n (p.1,p.2+1)=.ok q→cy ls n E sh (mu p+1) q []=.ok (ev,e)→∀ x' y' τ',JX x' y' op (l++(fe kd v::(ev++[eo (kd+1)]))) τ' σ0→K (.ret (cS (e.1,e.2+1))) (.obj bj (JC ls n bk d x' y')::τ'))
  (h2:∀ e,((cN d op.length 0=false∧e=8)∨(cN d op.length 0=true∧ct ls n (p.1,p.2+1)=.error e)∨(cN d op.length 0=true∧∃ q,ct ls n (p.1,p.2+1)=.ok q∧cy ls n E sh (mu p+1) q []=.error e))→∀ x' y' op' l' τ',JX x' y' op' l' τ' σ0→K (.pan (bI e)) (.obj bj (JC ls n bk d x' y')::τ')) :
  ACallF κ Tryz.prog 144 [JP bj,cS p,I c,vx v] (.obj bj (JC ls n bk d x y)::τ) K:=by
 have hll:l.length≤1000000000:=by omega
 have p64:=hp.in64 hs
 have pw1:=hp.w1 hs
 have a6:=eg hs hp
 have a7:=Pl.behind (n:=1) hs h0 (by omega)
 have hq4:∀ q:Int × Int,isF ls q 44=true→0 < (aF ls q).length:=fun q h=>jV h
 cases hr:cN d op.length 0
 ·rcases hc with ⟨hc,rfl,rfl,rfl⟩|⟨hc,rfl,rfl,rfl⟩
  all_goals
   refine ACallF.dropL (aa Tryz.func144 rfl ?_)
   simp only [Tryz.ntmps144]
   repeat' (first|simp only [WL,aD,WM,reduceCtorEq,ba,Nat.reduceAdd,Nat.reduceSub,Nat.reduceEqDiff,beq_self_eq_true,true_and,T9,fR gN,fR gM,kR,hc]|(with_reducible first|refine aC (hb:=?_)|refine ax (hK:=?_)|refine aP (hK:=fun b=>?_)|refine aS (hK:=fun b=>?_)|refine aG (hK:=?_)|refine cD (iP (e:=fe 5 v) hJ (by omega) hll hd (fun h=>by rw [hr] at h;cases h) (fun h=>?_))|refine cD (iP (e:=fe 3 v) hJ (by omega) hll hd (fun h=>by rw [hr] at h;cases h) (fun h=>?_)))|((with_reducible first|refine ai (fun h=>?_) (fun h=>?_)|refine ab (fun h=>?_) (fun h=>?_))<;>(try simp only [h])<;>(try simp only [bg,bm] at h))|omega)
   exact aN bE rfl (h2 8 (.inl ⟨hr,rfl⟩) _ _ _ _ _ hJ)
 ·cases hm:ct ls n (p.1,p.2+1) with
  | error e =>
   rcases hc with ⟨hc,rfl,rfl,rfl⟩|⟨hc,rfl,rfl,rfl⟩
   all_goals
    refine ACallF.dropL (aa Tryz.func144 rfl ?_)
    simp only [Tryz.ntmps144]
    repeat' (first|simp only [WL,aD,WM,reduceCtorEq,ba,Nat.reduceAdd,Nat.reduceSub,Nat.reduceEqDiff,beq_self_eq_true,true_and,T9,fR gN,fR gM,cT,kR,cY,hc]|(with_reducible first|refine aC (hb:=?_)|refine ax (hK:=?_)|refine aA (hK:=?_)|refine aP (hK:=fun b=>?_)|refine aS (hK:=fun b=>?_)|refine aG (hK:=?_)|refine cD (iP (e:=fe 5 v) hJ (by omega) hll hd (fun h x' y' τ' hJ'=>?_) (fun h=>by rw [hr] at h;cases h))|refine cD (iP (e:=fe 3 v) hJ (by omega) hll hd (fun h x' y' τ' hJ'=>?_) (fun h=>by rw [hr] at h;cases h))|refine cD (iF (p:=(p.1,p.2+1)) hm hs pw1 ?_)|refine cD (cb ?_ ?_))|((with_reducible first|refine ai (fun h=>?_) (fun h=>?_)|refine ab (fun h=>?_) (fun h=>?_))<;>(try simp only [h])<;>(try simp only [bg,bm] at h))|omega)
    exact aN bE rfl (h2 _ (.inr (.inl ⟨hr,hm⟩)) _ _ _ _ _ (by assumption))
  | ok q0 =>
   obtain ⟨a1,a2,a3,a4⟩:=dE hs hm
   have a5:=eF hs hm pw1.2.2.2
   have hE:nD κ bj ls n d bk E F (op.length+1):=@fun _ _ _ _ _ _ _ _=>hE hr
   rcases hc with ⟨hc,rfl,rfl,rfl⟩|⟨hc,rfl,rfl,rfl⟩
   all_goals
    refine ACallF.dropL (aa Tryz.func144 rfl ?_)
    simp only [Tryz.ntmps144]
    repeat' (first|simp only [WL,aD,WM,reduceCtorEq,ba,Nat.reduceAdd,Nat.reduceSub,Nat.reduceEqDiff,beq_self_eq_true,true_and,T9,fR gN,fR gM,cT,kR,cY,hc]|(with_reducible first|refine aC (hb:=?_)|refine ax (hK:=?_)|refine aA (hK:=?_)|refine az (hK:=?_)|refine aP (hK:=fun b=>?_)|refine aS (hK:=fun b=>?_)|refine aG (hK:=?_)|refine cD (iP (e:=fe 5 v) hJ (by omega) hll hd (fun h x' y' τ' hJ'=>?_) (fun h=>by rw [hr] at h;cases h))|refine cD (iP (e:=fe 3 v) hJ (by omega) hll hd (fun h x' y' τ' hJ'=>?_) (fun h=>by rw [hr] at h;cases h))|refine cD (cj (p:=(p.1,p.2+1)) hm hs pw1 ?_)|refine cD (cb ?_ ?_))|((with_reducible first|refine ai (fun h=>?_) (fun h=>?_)|refine ab (fun h=>?_) (fun h=>?_))<;>(try simp only [h])<;>(try simp only [bg,bm] at h))|omega)
   ·
    rename_i b5 b7 b8
    refine bH (fun z:(Int × Int) × List EvV × AV × AV × List Res=>⟨(JP bj::cS p::I c::vx v::.any::JP b5::.any::JP b7::JP b8::I 5::I 125::.raw (.func (.func 178) #[.pointer (some ⟨bj,0,none⟩)] #[])::JP b::.any::.any::.any::.any::.any::.any::.any::.any::.any::.any::.any::.any::.any::.any::.any::.any::.any::.any::.any::.any::.any::.any::.any::.any::.any::.any::.any::.any::.any::.any::.any::.any::.any::.any::.any::.any::.any::.any::.any::.any::.any::.any::.any::.any::.any::.any::.any::[]),.obj b [I z.1.1,I z.1.2]::.obj b8 [I 0,I 0]::.obj b7 (uz v)::.obj b5 [I p.1,I p.2]::.obj bj (JC ls n bk d z.2.2.1 z.2.2.2.1)::z.2.2.2.2,true,[]⟩)
     (fun z=>JX z.2.2.1 z.2.2.2.1 (op++[5]) (l++[fe 5 v]++z.2.1) z.2.2.2.2 σ0∧Pl ls z.1∧z.2.1.length+8 * mu z.1+8≤8 * mu p∧∃ f,mu z.1 < f∧cy ls n E 125 (mu p+1) q0 []=cy ls n E 125 f z.1 z.2.1) (fun z=>mu z.1) (q0,[],x',y',τ') (ao bz id) ⟨by rw [List.append_nil];exact hJ',a2,by simp;omega,mu p+1,by dsimp only;omega,rfl⟩ ?_
    rintro ⟨q,acc,x1,y1,τ1⟩ ⟨g1,g2,g3,f,g4,g5⟩
    dsimp only at g1 g2 g3 g4 g5 ⊢
    cases f with
    | zero=>omega
    | succ f =>
    replace g5:=g5.trans rh
    have q64:=g2.in64 hs
    have hlk:(op++[(5:Int)]).length=op.length+1:=by simp
    have hl1:(l++[fe 5 v]++acc).length=l.length+1+acc.length:=by simp;omega
    have hll1:(l++[fe 5 v]++acc).length≤1000000000:=by omega
    cases hi:isF ls q 125
    ·rw [hi,if_neg Bool.false_ne_true] at g5
     cases he:E q with
     | error e =>
      rw [he] at g5
      repeat' (first|simp only [WL,WM,Bool.not_false,true_and,oS,dv,hi]|(with_reducible first|refine aA (hK:=?_)|refine cD (nn (p:=q) hs q64 ?_)|refine callD_mk (Ex hE he hlk g1 g2 (by omega) (fun x'' y'' op' l' τ'' hJ''=>?_))))
      exact aN bE rfl (h2 _ (.inr (.inr ⟨hr,_,hm,g5⟩)) _ _ _ _ _ (by assumption))
     | ok r =>
      obtain ⟨ev,e⟩:=r
      rw [he] at g5
      obtain ⟨c1,c2,c3⟩:=hG _ _ _ g2 he
      have ew:=c2.w hs
      cases hm2:ct ls n e with
      | error e2 =>
       simp only [hm2] at g5
       repeat' (first|simp only [WL,WM,Bool.not_false,true_and,oS,cY,dv,hi]|(with_reducible first|refine aA (hK:=?_)|refine cD (nn (p:=q) hs q64 ?_)|refine callD_mk (jC hE he hlk g1 g2 (by omega) (fun x'' y'' τ'' hJ''=>?_))|refine cD (iF (p:=e) hm2 hs ew ?_)))
       exact aN bE rfl (h2 _ (.inr (.inr ⟨hr,_,hm,g5⟩)) _ _ _ _ _ (by assumption))
      | ok q2 =>
       simp only [hm2] at g5
       obtain ⟨e1,e2,e3,e4⟩:=dE hs hm2
       have e5:=eF hs hm2 c2.2.2.1
       have e6:=eg hs e2
       have q264:=e2.in64 hs
       have q2w:=e2.w1 hs
       cases hi2:isF ls q2 44
       ·rw [hi2,if_pos rfl] at g5
        cases hi3:isF ls q2 125
        ·rw [hi3,if_neg Bool.false_ne_true] at g5
         repeat' (first|simp only [WL,WM,Nat.reduceAdd,Bool.not_false,true_and,dr,oS,cY,dv,hi,hi2,hi3]|(with_reducible first|refine aA (hK:=?_)|refine az (hK:=?_)|refine cD (nn (p:=q) hs q64 ?_)|refine cD (nn (p:=q2) hs q264 ?_)|refine callD_mk (jC hE he hlk g1 g2 (by omega) (fun x'' y'' τ'' hJ''=>?_))|refine cD (cj (p:=e) hm2 hs ew ?_)|refine cD (i9 ?_)))
         exact aN bE rfl (h2 _ (.inr (.inr ⟨hr,_,hm,g5⟩)) _ _ _ _ _ (by assumption))
        ·rw [hi3,if_pos rfl] at g5
         have e7:=Pl.behind (n:=1) hs e3 (by omega)
         unfold Pl at e7
         repeat' (first|simp only [WL,aD,WM,reduceCtorEq,ba,Nat.reduceAdd,Bool.not_false,true_and,reduceIte,cT,dr,oS,cY,dv,oJ,Tryz.results144,hi,hi2,hi3]|simp (disch:=first|omega|(simp only [aT];omega)) only [aq]|(with_reducible first|refine aC (hb:=?_)|refine aA (hK:=?_)|refine az (hK:=?_)|refine cD (nn (p:=q) hs q64 ?_)|refine cD (nn (p:=q2) hs q264 ?_)|refine callD_mk (jC hE he hlk g1 g2 (by omega) (fun x'' y'' τ'' hJ''=>?_))|refine cD (cj (p:=e) hm2 hs ew ?_)|refine cD (kz ?_)|refine cD (DX hJ'' (by omega) (by rw [List.length_append];omega) (fun x3 y3 τ3 hJ3=>?_))|refine cD (cb ?_ ?_))|((with_reducible refine aU ?_);apply db (hf:=Tryz.results144);exact aZ)|omega)
         simp only [List.append_assoc,List.cons_append,List.nil_append] at hJ3
         exact ak bE (aj rfl) (h1 _ _ _ hr hm g5 _ _ _ (by simpa using hJ3))
       ·rw [hi2,if_neg (by decide)] at g5
        cases hm3:ct ls n (q2.1,q2.2+1) with
        | error e2 =>
         simp only [hm3] at g5
         repeat' (first|simp only [WL,WM,Nat.reduceAdd,Bool.not_true,Bool.not_false,true_and,cT,oS,cY,dv,hi,hi2]|(with_reducible first|refine aC (hb:=?_)|refine aA (hK:=?_)|refine az (hK:=?_)|refine cD (nn (p:=q) hs q64 ?_)|refine cD (nn (p:=q2) hs q264 ?_)|refine callD_mk (jC hE he hlk g1 g2 (by omega) (fun x'' y'' τ'' hJ''=>?_))|refine cD (iF (p:=(q2.1,q2.2+1)) hm3 hs q2w ?_)|refine cD (cj (p:=e) hm2 hs ew ?_)|refine cD (cb ?_ ?_))|omega)
         exact aN bE rfl (h2 _ (.inr (.inr ⟨hr,_,hm,g5⟩)) _ _ _ _ _ (by assumption))
        | ok q3 =>
         simp only [hm3] at g5
         obtain ⟨k1,k2,k3,k4⟩:=dE hs hm3
         have k5:=eF hs hm3 q2w.2.2.2
         repeat' (first|simp only [WL,WM,Nat.reduceAdd,Bool.not_true,Bool.not_false,true_and,cT,oS,cY,dv,hi,hi2]|(with_reducible first|refine aC (hb:=?_)|refine aA (hK:=?_)|refine az (hK:=?_)|refine cD (nn (p:=q) hs q64 ?_)|refine cD (nn (p:=q2) hs q264 ?_)|refine callD_mk (jC hE he hlk g1 g2 (by omega) (fun x'' y'' τ'' hJ''=>?_))|refine cD (cj (p:=(q2.1,q2.2+1)) hm3 hs q2w ?_)|refine cD (cj (p:=e) hm2 hs ew ?_)|refine cD (cb ?_ ?_))|omega)
         exact ⟨(q3,acc++ev,x'',y'',τ''),ao bz id,⟨by rw [← List.append_assoc];exact hJ'',k2,by dsimp only;rw [List.length_append];omega,f,by dsimp only;omega,g5⟩,by dsimp only;omega⟩
    ·rw [hi,if_pos rfl] at g5
     have e7:=Pl.behind (n:=1) hs (jV hi) (by have:=jV hi;omega)
     unfold Pl at e7
     repeat' (first|simp only [WL,aD,WM,reduceCtorEq,ba,Nat.reduceAdd,Bool.not_true,true_and,cT,dv,oJ,Tryz.results144,hi]|simp (disch:=first|omega|(simp only [aT];omega)) only [aq]|(with_reducible first|refine aC (hb:=?_)|refine aA (hK:=?_)|refine az (hK:=?_)|refine cD (nn (p:=q) hs q64 ?_)|refine cD (DX g1 (by omega) (by omega) (fun x3 y3 τ3 hJ3=>?_))|refine cD (cb ?_ ?_))|((with_reducible refine aU ?_);apply db (hf:=Tryz.results144);exact aZ)|omega)
     exact ak bE (aj rfl) (h1 _ _ _ hr hm g5 _ _ _ (by simpa using hJ3))
   ·
    rename_i b5 b7 b8 hx
    refine bH (fun z:(Int × Int) × List EvV × AV × AV × List Res=>⟨(JP bj::cS p::I c::vx v::.any::JP b5::.any::JP b7::JP b8::I 3::I 93::.raw (.func (.func 177) #[.pointer (some ⟨bj,0,none⟩)] #[])::JP b::.any::.any::.any::.any::.any::.any::.any::.any::.any::.any::.any::.any::.any::.any::.any::.any::.any::.any::.any::.any::.any::.any::.any::.any::.any::.any::.any::.any::.any::.any::.any::.any::.any::.any::.any::.any::.any::.any::.any::.any::.any::.any::.any::.any::.any::.any::.any::[]),.obj b [I z.1.1,I z.1.2]::.obj b8 [I 0,I 0]::.obj b7 (uz v)::.obj b5 [I p.1,I p.2]::.obj bj (JC ls n bk d z.2.2.1 z.2.2.2.1)::z.2.2.2.2,true,[]⟩)
     (fun z=>JX z.2.2.1 z.2.2.2.1 (op++[3]) (l++[fe 3 v]++z.2.1) z.2.2.2.2 σ0∧Pl ls z.1∧z.2.1.length+8 * mu z.1+8≤8 * mu p∧∃ f,mu z.1 < f∧cy ls n E 93 (mu p+1) q0 []=cy ls n E 93 f z.1 z.2.1) (fun z=>mu z.1) (q0,[],x',y',τ') (ao bz id) ⟨by rw [List.append_nil];exact hJ',a2,by simp;omega,mu p+1,by dsimp only;omega,rfl⟩ ?_
    rintro ⟨q,acc,x1,y1,τ1⟩ ⟨g1,g2,g3,f,g4,g5⟩
    dsimp only at g1 g2 g3 g4 g5 ⊢
    cases f with
    | zero=>omega
    | succ f =>
    replace g5:=g5.trans rh
    have q64:=g2.in64 hs
    have hlk:(op++[(3:Int)]).length=op.length+1:=by simp
    have hl1:(l++[fe 3 v]++acc).length=l.length+1+acc.length:=by simp;omega
    have hll1:(l++[fe 3 v]++acc).length≤1000000000:=by omega
    cases hi:isF ls q 93
    ·rw [hi,if_neg Bool.false_ne_true] at g5
     cases he:E q with
     | error e =>
      rw [he] at g5
      repeat' (first|simp only [WL,WM,Bool.not_false,true_and,ph,dv,hi]|(with_reducible first|refine aA (hK:=?_)|refine cD (nn (p:=q) hs q64 ?_)|refine callD_mk (Ex hE he hlk g1 g2 (by omega) (fun x'' y'' op' l' τ'' hJ''=>?_))))
      exact aN bE rfl (h2 _ (.inr (.inr ⟨hr,_,hm,g5⟩)) _ _ _ _ _ (by assumption))
     | ok r =>
      obtain ⟨ev,e⟩:=r
      rw [he] at g5
      obtain ⟨c1,c2,c3⟩:=hG _ _ _ g2 he
      have ew:=c2.w hs
      cases hm2:ct ls n e with
      | error e2 =>
       simp only [hm2] at g5
       repeat' (first|simp only [WL,WM,Bool.not_false,true_and,ph,cY,dv,hi]|(with_reducible first|refine aA (hK:=?_)|refine cD (nn (p:=q) hs q64 ?_)|refine callD_mk (jC hE he hlk g1 g2 (by omega) (fun x'' y'' τ'' hJ''=>?_))|refine cD (iF (p:=e) hm2 hs ew ?_)))
       exact aN bE rfl (h2 _ (.inr (.inr ⟨hr,_,hm,g5⟩)) _ _ _ _ _ (by assumption))
      | ok q2 =>
       simp only [hm2] at g5
       obtain ⟨e1,e2,e3,e4⟩:=dE hs hm2
       have e5:=eF hs hm2 c2.2.2.1
       have e6:=eg hs e2
       have q264:=e2.in64 hs
       have q2w:=e2.w1 hs
       cases hi2:isF ls q2 44
       ·rw [hi2,if_pos rfl] at g5
        cases hi3:isF ls q2 93
        ·rw [hi3,if_neg Bool.false_ne_true] at g5
         repeat' (first|simp only [WL,WM,Nat.reduceAdd,Bool.not_false,true_and,dr,ph,cY,dv,hi,hi2,hi3]|(with_reducible first|refine aA (hK:=?_)|refine az (hK:=?_)|refine cD (nn (p:=q) hs q64 ?_)|refine cD (nn (p:=q2) hs q264 ?_)|refine callD_mk (jC hE he hlk g1 g2 (by omega) (fun x'' y'' τ'' hJ''=>?_))|refine cD (cj (p:=e) hm2 hs ew ?_)|refine cD (i9 ?_)))
         exact aN bE rfl (h2 _ (.inr (.inr ⟨hr,_,hm,g5⟩)) _ _ _ _ _ (by assumption))
        ·rw [hi3,if_pos rfl] at g5
         have e7:=Pl.behind (n:=1) hs e3 (by omega)
         unfold Pl at e7
         repeat' (first|simp only [WL,aD,WM,reduceCtorEq,ba,Nat.reduceAdd,Bool.not_false,true_and,reduceIte,cT,dr,ph,cY,dv,oJ,Tryz.results144,hi,hi2,hi3]|simp (disch:=first|omega|(simp only [aT];omega)) only [aq]|(with_reducible first|refine aC (hb:=?_)|refine aA (hK:=?_)|refine az (hK:=?_)|refine cD (nn (p:=q) hs q64 ?_)|refine cD (nn (p:=q2) hs q264 ?_)|refine callD_mk (jC hE he hlk g1 g2 (by omega) (fun x'' y'' τ'' hJ''=>?_))|refine cD (cj (p:=e) hm2 hs ew ?_)|refine cD (kz ?_)|refine cD (DX hJ'' (by omega) (by rw [List.length_append];omega) (fun x3 y3 τ3 hJ3=>?_))|refine cD (cb ?_ ?_))|((with_reducible refine aU ?_);apply db (hf:=Tryz.results144);exact aZ)|omega)
         simp only [List.append_assoc,List.cons_append,List.nil_append] at hJ3
         exact ak bE (aj rfl) (h1 _ _ _ hr hm g5 _ _ _ (by simpa using hJ3))
       ·rw [hi2,if_neg (by decide)] at g5
        cases hm3:ct ls n (q2.1,q2.2+1) with
        | error e2 =>
         simp only [hm3] at g5
         repeat' (first|simp only [WL,WM,Nat.reduceAdd,Bool.not_true,Bool.not_false,true_and,cT,ph,cY,dv,hi,hi2]|(with_reducible first|refine aC (hb:=?_)|refine aA (hK:=?_)|refine az (hK:=?_)|refine cD (nn (p:=q) hs q64 ?_)|refine cD (nn (p:=q2) hs q264 ?_)|refine callD_mk (jC hE he hlk g1 g2 (by omega) (fun x'' y'' τ'' hJ''=>?_))|refine cD (iF (p:=(q2.1,q2.2+1)) hm3 hs q2w ?_)|refine cD (cj (p:=e) hm2 hs ew ?_)|refine cD (cb ?_ ?_))|omega)
         exact aN bE rfl (h2 _ (.inr (.inr ⟨hr,_,hm,g5⟩)) _ _ _ _ _ (by assumption))
        | ok q3 =>
         simp only [hm3] at g5
         obtain ⟨k1,k2,k3,k4⟩:=dE hs hm3
         have k5:=eF hs hm3 q2w.2.2.2
         repeat' (first|simp only [WL,WM,Nat.reduceAdd,Bool.not_true,Bool.not_false,true_and,cT,ph,cY,dv,hi,hi2]|(with_reducible first|refine aC (hb:=?_)|refine aA (hK:=?_)|refine az (hK:=?_)|refine cD (nn (p:=q) hs q64 ?_)|refine cD (nn (p:=q2) hs q264 ?_)|refine callD_mk (jC hE he hlk g1 g2 (by omega) (fun x'' y'' τ'' hJ''=>?_))|refine cD (cj (p:=(q2.1,q2.2+1)) hm3 hs q2w ?_)|refine cD (cj (p:=e) hm2 hs ew ?_)|refine cD (cb ?_ ?_))|omega)
         exact ⟨(q3,acc++ev,x'',y'',τ''),ao bz id,⟨by rw [← List.append_assoc];exact hJ'',k2,by dsimp only;rw [List.length_append];omega,f,by dsimp only;omega,g5⟩,by dsimp only;omega⟩
    ·rw [hi,if_pos rfl] at g5
     have e7:=Pl.behind (n:=1) hs (jV hi) (by have:=jV hi;omega)
     unfold Pl at e7
     repeat' (first|simp only [WL,aD,WM,reduceCtorEq,ba,Nat.reduceAdd,Bool.not_true,true_and,cT,dv,oJ,Tryz.results144,hi]|simp (disch:=first|omega|(simp only [aT];omega)) only [aq]|(with_reducible first|refine aC (hb:=?_)|refine aA (hK:=?_)|refine az (hK:=?_)|refine cD (nn (p:=q) hs q64 ?_)|refine cD (DX g1 (by omega) (by omega) (fun x3 y3 τ3 hJ3=>?_))|refine cD (cb ?_ ?_))|((with_reducible refine aU ?_);apply db (hf:=Tryz.results144);exact aZ)|omega)
     exact ak bE (aj rfl) (h1 _ _ _ hr hm g5 _ _ _ (by simpa using hJ3))
end Go.Proofs.YthkabaiamcjdbaaGreat
