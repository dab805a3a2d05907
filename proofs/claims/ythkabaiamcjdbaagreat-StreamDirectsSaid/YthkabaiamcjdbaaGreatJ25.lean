/-
  Texts Ko, Kp, Kq, Kr, Ks, Kt, one behind the other.
-/
import Derived.Test.YthkabaiamcjdbaaGreatJ23
import Derived.Test.YthkabaiamcjdbaaGreatJ24
set_option linter.unusedVariables false
set_option linter.unusedSimpArgs false
set_option maxHeartbeats 16000000
namespace Go.Proofs.YthkabaiamcjdbaaGreat
open Go.Abs
variable {κ:Ctx} {σ:List Res} {K:Ret→List Res→Prop} {o o':Option (Option (Nat × Nat))}
theorem RE {pr br:Nat}{ls:List Ln}{x y:AV}{op:List Int}{l:List EvV}{τ σ0:List Res}{i c n:Int}{p:TP} (hJ:JX x y op l τ σ0) (hs:Small ls) (hop:op.length≤1000) (hll:l.length≤100000000000) (hi:0≤i∧i < ls.length) (h0:0 < (bz ls i c).1.length) (hc:-1000000000≤c∧c≤1000000000)
  (ht:(bz ls i c).1.getD 0 0=124∨(bz ls i c).1.getD 0 0=62)
  (h1:∀ ev i2,l6 ls i (bz ls i c).1 n p=.ok (ev,i2)→∀ y' τ',JX x y' op (l++ev) τ' σ0→K (.ret (I i2)) (.obj pr (RC ls br x y')::τ'))
  (h2:∀ e,l6 ls i (bz ls i c).1 n p=.error e→K (.pan (bI e)) (.obj pr (RC ls br x y)::τ)):ACallF κ Tryz.prog 70 [JP pr,I i,I c,I n,kH p] (.obj pr (RC ls br x y)::τ) K:=by
 have hrs:=(ez (c:=c) hs hi).1
 cases hw:l6 ls i (bz ls i c).1 n p with
 | error e =>
  refine ACallF.dropL (aa Tryz.func70 rfl ?_);simp only [Tryz.ntmps70]
  repeat' (first|simp only [WL,ay,WM,Int.reduceToNat,reduceCtorEq,bg,Nat.reduceAdd,Nat.reduceSub,Nat.reduceLT,Nat.reduceEqDiff,Bool.not_false,true_and,reduceIte,Bool.false_eq_true,T3,cb,DO,fR gq,kX,j5,BC]|simp (disch:=first|omega|(simp only [aU];omega)) only [bL,bL]|(with_reducible first|refine ax (hb:=?_)|refine aA (hK:=?_)|refine aQ (hK:=fun b=>?_)|refine cD (kN hs hi hc ?_)|refine callD_mk (OR hw hJ hll hs hi hrs ?_))|((with_reducible refine ik (id:=4) [0,1,2,3,4,5,6,7,8,9,10,11,12,13,14,15,16,17,18,19] (some 20) [([],some 21),([22],none)] (fun _=>True) trivial mixed ?_ ?_);kernel_rfl)|((with_reducible apply aW);intro σq hq)|(with_reducible exact b9)|((with_reducible apply bD);rfl;rfl)|(with_reducible refine bV trivial ?_)|((with_reducible first|refine ai (fun h=>?_) (fun h=>?_)|refine ab (fun h=>?_) (fun h=>?_))<;>(try simp only [h])<;>(try simp only [bf,ba] at h))|omega)
  all_goals first
   | exact aS bC rfl (h2 _ hw)
   | (exfalso;omega)
 | ok r =>
  obtain ⟨ev,i2⟩:=r;refine ACallF.dropL (aa Tryz.func70 rfl ?_);simp only [Tryz.ntmps70]
  repeat' (first|simp only [WL,ay,WM,Int.reduceToNat,reduceCtorEq,bg,Nat.reduceAdd,Nat.reduceSub,Nat.reduceLT,Nat.reduceEqDiff,Bool.not_false,true_and,reduceIte,Bool.false_eq_true,T3,cb,DO,fR gq,kX,j5,BC,Tryz.results70]|simp (disch:=first|omega|(simp only [aU];omega)) only [bL,bL]|(with_reducible first|refine ax (hb:=?_)|refine aA (hK:=?_)|refine aQ (hK:=fun b=>?_)|refine cD (kN hs hi hc ?_)|refine callD_mk (ND hw hJ hll hs hi hrs (fun y' τ' hJ'=>?_)))|((with_reducible refine ik (id:=4) [0,1,2,3,4,5,6,7,8,9,10,11,12,13,14,15,16,17,18,19] (some 20) [([],some 21),([22],none)] (fun _=>True) trivial mixed ?_ ?_);kernel_rfl)|((with_reducible apply aW);intro σq hq)|(with_reducible exact b9)|((with_reducible apply bD);rfl;rfl)|(with_reducible refine bV trivial ?_)|((with_reducible first|refine ai (fun h=>?_) (fun h=>?_)|refine ab (fun h=>?_) (fun h=>?_))<;>(try simp only [h])<;>(try simp only [bf,ba] at h))|omega)
  all_goals first
   | exact ak bC (aj rfl) (h1 _ _ hw _ _ (by assumption))
   | (exfalso;omega)
theorem R0 {pr br:Nat}{ls:List Ln}{x y:AV}{op:List Int}{ρx:List Res}{i c n e:Int}{p:TP}{iy:Nat} [hB:Hold σ br iy [SL none ls]] (hx:RowR 1 x (op.map I) ρx) (hs:Small ls) (hop:op.length≤1000) (hi:0≤i∧i < ls.length) (h0:0 < (bz ls i c).1.length) (hc:-1000000000≤c∧c≤1000000000) (hn:-1000000000≤n∧n≤1000000000)
  (hnt:¬(bz ls i c).1.getD 0 0=124∧¬(bz ls i c).1.getD 0 0=62) (hw:ct ls n op.length true (i,(bz ls i c).2)=.error e)
  (h2:K (.pan (bI e)) (.obj pr (RC ls br x y)::σ)):ACallF κ Tryz.prog 70 [JP pr,I i,I c,I n,kH p] (.obj pr (RC ls br x y)::σ) K:=by
 have hrs:=ez (c:=c) hs hi
 obtain ⟨hp1,hp2,hp3,hp4⟩:=hrs.2.2.2 h0;dsimp only at hp1 hp2 hp3 hp4;have hxl:(op.map I).length=op.length:=List.length_map _
 have hdd:0≤(op.length:Int)∧(op.length:Int)≤1000000000:=by omega
 have hl:=hs.1
 have h64:bW i∧bW (bz ls i c).2:=⟨by omega,by omega⟩
 have hn64:bW n:=by omega
 have he:=kO hw
 refine ACallF.dropL (aa Tryz.func70 rfl ?_);simp only [Tryz.ntmps70]
 repeat' (first|( with_reducible refine dU hx ?_)|simp only [WL,ay,WM,Int.reduceToNat,reduceCtorEq,bg,Nat.reduceAdd,Nat.reduceSub,Nat.reduceLT,Nat.reduceEqDiff,Bool.not_false,true_and,reduceIte,Bool.false_eq_true,T3,cb,DO,OO,fR gW,fR gq,fR lX,kX,j5,BC,Ly,hxl]|simp (disch:=first|omega|(simp only [aU];omega)) only [bL,bL]|(with_reducible first|refine ax (hb:=?_)|refine au (hK:=?_)|refine aA (hK:=?_)|refine aQ (hK:=fun b=>?_)|refine cD (kN hs hi hc ?_)|refine callD_mk (Lk hw hs hdd h64 hn64 ⟨hp1,hp2,hp3⟩ ?_)|refine callD_mk (Dy he ?_))|((with_reducible refine eE (id:=4) [0,1,2,3,4,5,6,7,8,9,10,11,12] (some 13) [([14,15,16,17,18,19],some 20),([],some 21),([22],none)] mixed ?_ ?_);kernel_rfl)|((with_reducible apply aW);intro σq hq;have hqi:=cy hq;clear hq)|(with_reducible exact b9)|((with_reducible apply bD);rfl;rfl)|(with_reducible refine bV (nZ (by first|(simp;done)|fail) (by first|(simp;done)|fail)) ?_)|((with_reducible first|refine ai (fun h=>?_) (fun h=>?_)|refine ab (fun h=>?_) (fun h=>?_))<;>(try simp only [h])<;>(try simp only [bf,ba] at h))|omega)
 all_goals first
  | exact aS bC rfl h2
  | (exfalso;omega)
theorem LU {pr br:Nat}{ls:List Ln}{x y:AV}{op:List Int}{l:List EvV}{τ σ0:List Res}{i c n:Int}{p:TP} (hJ:JX x y op l τ σ0) (hb:Res.obj br [SL none ls]∈σ0) (hs:Small ls) (hop:op.length≤1000) (hll:l.length≤100000000000) (hi:0≤i∧i < ls.length) (h0:0 < (bz ls i c).1.length) (hc:-1000000000≤c∧c≤1000000000) (hn:-1000000000≤n∧n≤1000000000)
  (h1:∀ ev i2,kr ls i c n op.length p=.ok (ev,i2)→∀ y' τ',JX x y' op (l++ev) τ' σ0→K (.ret (I i2)) (.obj pr (RC ls br x y')::τ'))
  (h2:∀ e,kr ls i c n op.length p=.error e→∀ y' l' τ',JX x y' op l' τ' σ0→K (.pan (bI e)) (.obj pr (RC ls br x y')::τ')):ACallF κ Tryz.prog 70 [JP pr,I i,I c,I n,kH p] (.obj pr (RC ls br x y)::τ) K:=by
 unfold kr at h1 h2;by_cases ht:(bz ls i c).1.getD 0 0=124∨(bz ls i c).1.getD 0 0=62
 ·have hh:bU (bz ls i c).1 124=true∨bU (bz ls i c).1 62=true:=by
   rcases ht with h|h
   ·exact .inl (km h0 h)
   ·exact .inr (km h0 h)
  rw [if_pos hh] at h1 h2;exact RE hJ hs hop hll hi h0 hc ht h1 (fun e h=>h2 e h _ _ _ hJ)
 ·have hnt:¬(bz ls i c).1.getD 0 0=124∧¬(bz ls i c).1.getD 0 0=62:=⟨fun h=>ht (.inl h),fun h=>ht (.inr h)⟩
  have hh:¬(bU (bz ls i c).1 124=true∨bU (bz ls i c).1 62=true):=by
   rw [kv hnt.1,kv hnt.2];rintro (h|h)<;>cases h
  rw [if_neg hh] at h1 h2;have hP:=(ez (c:=c) hs hi).2.2.2 h0
  cases hw:ct ls n op.length true (i,(bz ls i c).2) with
  | error e =>
   rw [hw] at h2;obtain ⟨ρx,hx⟩:=hJ.row;obtain ⟨ix,hB⟩:=hJ.hold hb;exact R0 hx hs hop hi h0 hc hn hnt hw (h2 _ rfl _ _ _ hJ)
  | ok r =>
   obtain ⟨ev,e,t⟩:=r;rw [hw] at h1 h2;dsimp only at h1 h2;have hg:=cM hs 200 0 (i,(bz ls i c).2) _ e t hP hw
   cases ev with
   | nil=>exact absurd hg.2.2.2 (by simp)
   | cons e0 evr =>
    obtain ⟨ρx,ρy,r1,r2,hp⟩:=hJ;have hpp:∀ ρ':List Res,(ρ'++(ρx++σ0)).Perm (ρx++(ρ'++σ0)):=fun ρ'=>by
     rw [← List.append_assoc,← List.append_assoc];exact List.perm_append_comm.append_right _
    have hm:Res.obj br [SL none ls]∈ρx++σ0:=List.mem_append_right _ hb
    obtain ⟨ix,hix⟩:=List.getElem?_of_mem hm
    haveI hB:Hold (ρx++σ0) br ix [SL none ls]:=⟨hix⟩
    have key:∀ {y:AV} {l:List EvV} {ρy:List Res},RowR 6 y (l.map EVA) ρy→∀ y' ρ',RowR 6 y' ((l++[]).map EVA) ρ'→True:=fun _ _ _ _=>trivial
    refine ACallF.perm (σ2:=.obj pr (RC ls br x y)::(ρy++(ρx++σ0))) (List.Perm.cons _ (hp.trans (hpp ρy).symm)) ?_;have g1:∀ ev',nX p (e0::evr)=some ev'→¬0 < (bz ls e.1 e.2).1.length→∀ y' ρ',RowR 6 y' ((l++ev').map EVA) ρ'→K (.ret (I (e.1+1))) (.obj pr (RC ls br x y')::(ρ'++(ρx++σ0))):=fun ev' hset hr y' ρ' hR=>by
     refine h1 ev' _ ?_ _ _ ⟨ρx,ρ',r1,hR,hpp ρ'⟩;rw [hset];dsimp only;unfold Gg;rw [if_neg hr]
    have g3:∀ ev',nX p (e0::evr)=some ev'→0 < (bz ls e.1 e.2).1.length→∀ y' ρ',RowR 6 y' ((l++ev').map EVA) ρ'→K (.pan (bI 2)) (.obj pr (RC ls br x y')::(ρ'++(ρx++σ0))):=fun ev' hset hr y' ρ' hR=>by
     refine h2 2 ?_ _ _ _ ⟨ρx,ρ',r1,hR,hpp ρ'⟩;rw [hset];dsimp only;unfold Gg;rw [if_pos hr]
    have g2:nX p (e0::evr)=none→K (.pan (bI 2)) (.obj pr (RC ls br x y)::(ρy++(ρx++σ0))):=fun hset=>by
     refine h2 2 ?_ _ _ _ ⟨ρx,ρy,r1,r2,hpp ρy⟩;rw [hset]
    generalize hmm:l.map EVA=m at r2;have hml:m.length=l.length:=by rw [← hmm,List.length_map]
    cases r2 with
    | nil =>
     have hl0:l=[]:=by
      cases l with
      | nil=>rfl
      | cons _ _=>simp at hml
     subst hl0;exact RV (σ:=ρx++σ0) r1 hs hop hi h0 hc hn hnt hw (fun ev' a b y' ρ' hR=>g1 ev' a b y' ρ' hR) g2 (fun ev' a b y' ρ' hR=>g3 ev' a b y' ρ' hR)
    | @row rb rc cs _ k0 kn kc kt =>
     rw [hml] at kn kt g2 ⊢;rw [← hmm] at kt;exact R9 (σ:=ρx++σ0) k0 kn kc kt r1 hs hop hll hi h0 hc hn hnt hw g1 g2 g3
theorem Oq {pr br:Nat}{ls:List Ln}{x y:AV}{op:List Int}{l ev:List EvV}{ρ τ σ0:List Res}{i c n i2:Int}{p:TP} [hS:Split σ pr ρ (RC ls br x y) τ] (hw:kr ls i c n op.length p=.ok (ev,i2)) (hJ:JX x y op l τ σ0) (hb:Res.obj br [SL none ls]∈σ0) (hs:Small ls) (hop:op.length≤1000) (hll:l.length≤100000000000) (hi:0≤i∧i < ls.length) (h0:0 < (bz ls i c).1.length) (hc:-1000000000≤c∧c≤1000000000) (hn:-1000000000≤n∧n≤1000000000)
  (h1:∀ y' τ',JX x y' op (l++ev) τ' σ0→K (.ret (I i2)) (ρ ++ .obj pr (RC ls br x y')::τ')):ACallF κ Tryz.prog 70 [JP pr,I i,I c,I n,kH p] σ K :=
 ACallF.at_ (b:=pr) (LU hJ hb hs hop hll hi h0 hc hn (fun ev' i' h=>by rw [hw] at h;cases h;exact h1) (fun e h=>by rw [hw] at h;cases h))
theorem NY {pr br:Nat}{ls:List Ln}{x y:AV}{op:List Int}{l:List EvV}{ρ τ σ0:List Res}{i c n e:Int}{p:TP} [hS:Split σ pr ρ (RC ls br x y) τ] (hw:kr ls i c n op.length p=.error e) (hJ:JX x y op l τ σ0) (hb:Res.obj br [SL none ls]∈σ0) (hs:Small ls) (hop:op.length≤1000) (hll:l.length≤100000000000) (hi:0≤i∧i < ls.length) (h0:0 < (bz ls i c).1.length) (hc:-1000000000≤c∧c≤1000000000) (hn:-1000000000≤n∧n≤1000000000)
  (h2:∀ y' l' τ',JX x y' op l' τ' σ0→K (.pan (bI e)) (ρ ++ .obj pr (RC ls br x y')::τ')):ACallF κ Tryz.prog 70 [JP pr,I i,I c,I n,kH p] σ K :=
 ACallF.at_ (b:=pr) (LU hJ hb hs hop hll hi h0 hc hn (fun ev' i' h=>by rw [hw] at h;cases h) (fun e' h=>by rw [hw] at h;cases h;exact h2))
abbrev oj (ls:List Ln) (f:Nat) (l:List EvV) (i:Int):Prop:=l.length+10000000 * ((ls.length:Int) - i).toNat+40002 * f≤100000000000
abbrev LX (t:TP):Prop:=t.1.size≤1000000∧t.2.size≤1000000
abbrev WA (n:Int) (lead pair:Bool):AV:=.agg [I n,B lead,B pair]
abbrev NdP:=Int→Int→Int→Bool→Bool→TP→PR
def NodeCP (κ:Ctx) (pr br:Nat) (ls:List Ln) (N:NdP) (f k:Nat):Prop :=
 ∀ {x y:AV} {op:List Int} {l:List EvV} {τ σ0:List Res} {i c n:Int} {pair lead:Bool} {t:TP} {K:Ret→List Res→Prop},op.length=k→JX x y op l τ σ0→Res.obj br [SL none ls]∈σ0→(0≤i∧i < ls.length)→(0≤c∧c≤5000)→(-1≤n∧n≤5000)→LX t→oj ls f l i →
  (∀ ev i2,N i c n pair lead t=.ok (ev,i2)→∀ x' y' τ',JX x' y' op (l++ev) τ' σ0→K (.ret (I i2)) (.obj pr (RC ls br x' y')::τ')) →
  (∀ e,N i c n pair lead t=.error e→∀ x' y' op' l' τ',JX x' y' op' l' τ' σ0→K (.pan (bI e)) (.obj pr (RC ls br x' y')::τ')) →
  ACallF κ Tryz.prog 50 [JP pr,I i,I c,WA n lead pair,kH t] (.obj pr (RC ls br x y)::τ) K
theorem ep {pr br f k:Nat}{ls:List Ln}{N:NdP}{x y:AV}{op:List Int}{l ev:List EvV}{ρ τ σ0:List Res}{i c n i2:Int}{pair lead:Bool}{t:TP} (hN:NodeCP κ pr br ls N f k) (hn:N i c n pair lead t=.ok (ev,i2)) (hk:op.length=k) [hS:Split σ pr ρ (RC ls br x y) τ] (hJ:JX x y op l τ σ0) (hb:Res.obj br [SL none ls]∈σ0) (hi:0≤i∧i < ls.length) (hc:0≤c∧c≤5000) (hnn:-1≤n∧n≤5000) (ht:LX t) (hr:oj ls f l i)
  (h1:∀ x' y' τ',JX x' y' op (l++ev) τ' σ0→K (.ret (I i2)) (ρ ++ .obj pr (RC ls br x' y')::τ')):ACallF κ Tryz.prog 50 [JP pr,I i,I c,WA n lead pair,kH t] σ K :=
 ACallF.at_ (b:=pr) (hN hk hJ hb hi hc hnn ht hr (fun ev' i' h=>by rw [hn] at h;cases h;exact h1) (fun e h=>by rw [hn] at h;cases h))
theorem ss {pr br f k:Nat}{ls:List Ln}{N:NdP}{x y:AV}{op:List Int}{l:List EvV}{ρ τ σ0:List Res}{i c n e:Int}{pair lead:Bool}{t:TP} (hN:NodeCP κ pr br ls N f k) (hn:N i c n pair lead t=.error e) (hk:op.length=k) [hS:Split σ pr ρ (RC ls br x y) τ] (hJ:JX x y op l τ σ0) (hb:Res.obj br [SL none ls]∈σ0) (hi:0≤i∧i < ls.length) (hc:0≤c∧c≤5000) (hnn:-1≤n∧n≤5000) (ht:LX t) (hr:oj ls f l i)
  (h2:∀ x' y' op' l' τ',JX x' y' op' l' τ' σ0→K (.pan (bI e)) (ρ ++ .obj pr (RC ls br x' y')::τ')):ACallF κ Tryz.prog 50 [JP pr,I i,I c,WA n lead pair,kH t] σ K :=
 ACallF.at_ (b:=pr) (hN hk hJ hb hi hc hnn ht hr (fun ev' i' h=>by rw [hn] at h;cases h) (fun e' h=>by rw [hn] at h;cases h;exact h2))
abbrev eG (N:NdP):Int→Int→Int→Bool→PR:=fun i c n pair=>N i c n pair (!pair) tp0
theorem fZ:LX tp0:=⟨by decide,by decide⟩
theorem O7 {ls:List Ln}{N:Int→Int→Int→Bool→PR}{c:Int}{pair:Bool}{f:Nat}{i:Int}{acc:List EvV}:iM ls N c pair (f+1) i acc=match N i (c+1) c false with
 | .error e=>.error e
 | .ok (ev,i2)=>match qd ls i2 c with
  | .error e=>.error e
  | .ok (k,ok) =>
   if ok=false then .ok (acc++ev,i2)
   else if fb ls k c 45=false then (if pair=true then .ok (acc++ev,i2) else .error 2)
   else iM ls N c pair f k (acc++ev):=rfl
theorem PQ {pr br f k:Nat}{ls:List Ln}{N:NdP}{x y:AV}{op:List Int}{l:List EvV}{τ σ0:List Res}{i c:Int}{pair:Bool}{t:TP} (hN:k < 200→NodeCP κ pr br ls N f (k+1)) (hG:lY ls 10000000 (eG N)) (hk:op.length=k) (hk2:k≤200) (hJ:JX x y op l τ σ0) (hb:Res.obj br [SL none ls]∈σ0) (hs:Small ls) (hi:0≤i∧i < ls.length) (hc:0≤c∧c≤4500) (hll:l.length≤100000000000) (hr:k < 200→oj ls (f+1) l i)
  (h1:∀ ev i2,k < 200→dZ ls (eG N) i c pair t=.ok (ev,i2)→∀ x' y' τ',JX x' y' op (l++ev) τ' σ0→K (.ret (I i2)) (.obj pr (RC ls br x' y')::τ'))
  (h2:∀ e,(200≤k∧e=8∨k < 200∧dZ ls (eG N) i c pair t=.error e)→∀ x' y' op' l' τ',JX x' y' op' l' τ' σ0→K (.pan (bI e)) (.obj pr (RC ls br x' y')::τ')) :
  ACallF κ Tryz.prog 63 [JP pr,I i,I c,B pair,kH t] (.obj pr (RC ls br x y)::τ) K:=by
 have hl:=hs.1
 have hop:op.length≤1000:=by omega
 refine ACallF.dropL (aa Tryz.func63 rfl ?_);simp only [Tryz.ntmps63]
 repeat' (first|simp only [WL,WM,Nat.reduceAdd,Nat.reduceSub,true_and,G9,j4,Qw]|(with_reducible first|refine aA (hK:=?_)|refine aQ (hK:=fun b=>?_)|refine Ab ?_|refine oW ?_|refine cD (L7 hJ hop hll (fun h x' y' τ' hJ'=>?_) (fun h=>?_))))
 ·have hk3:k < 200:=by omega
  have hN:NodeCP κ pr br ls N f (k+1):=hN hk3
  have hr:=hr hk3
  have h1:=fun ev i2=>h1 ev i2 hk3
  have h2:=fun e h=>h2 e (.inr ⟨hk3,h⟩)
  unfold dZ at h1 h2;refine bF (fun z:Int × List EvV × AV × AV × List Res=>⟨(JP pr::I z.1::I c::B pair::kH t::.any::.any::.any::.any::JP b::I 0::.any::.any::.any::.any::.any::.any::.any::.any::.any::.any::.any::.any::.any::.any::.any::.any::.any::.any::.any::.any::.any::.any::.any::.any::.any::.any::.any::.any::.any::.any::.any::.any::.any::.any::.any::[]),.obj b [.raw (.string t.1),.raw (.string t.2)]::.obj pr (RC ls br z.2.2.1 z.2.2.2.1)::z.2.2.2.2,true,[]⟩)
   (fun z=>JX z.2.2.1 z.2.2.2.1 (op++[3]) (l++[dM 3 t]++z.2.1) z.2.2.2.2 σ0∧(i≤z.1∧z.1 < ls.length)∧z.2.1.length≤10000000 * (z.1 - i).toNat∧∃ fu,((ls.length:Int) - z.1).toNat < fu∧iM ls (eG N) c pair (ls.length+1) i []=iM ls (eG N) c pair fu z.1 z.2.1) (fun z=>((ls.length:Int) - z.1).toNat) (i,[],x',y',τ') (aq bH id) ⟨by rw [List.append_nil];exact hJ',⟨Int.le_refl _,hi.2⟩,by simp,ls.length+1,by dsimp only;omega,rfl⟩ ?_
  rintro ⟨i1,acc,x1,y1,τ1⟩ ⟨g1,⟨g2,g3⟩,g4,fu,g5,g6⟩;dsimp only at g1 g2 g3 g4 g5 g6 ⊢;cases fu with
  | zero=>omega
  | succ fu =>
  replace g6:=g6.trans O7
  have hop3:(op++[(3:Int)]).length=k+1:=by simp [hk]
  have hlen:(l++[dM 3 t]++acc).length=l.length+1+acc.length:=by simp;omega
  have hr1:oj ls f (l++[dM 3 t]++acc) i1:=by unfold oj at *;rw [hlen];omega
  have hi1:0≤i1∧i1 < ls.length:=⟨by omega,g3⟩
  cases hn:eG N i1 (c+1) c false with
  | error e =>
   rw [hn] at g6;have hn:N i1 (c+1) c false true tp0=.error e:=hn
   repeat' (first|simp only [WL,ay,WM,reduceCtorEq,bg,Nat.reduceAdd,true_and,j4,gR]|simp (disch:=first|omega|(simp only [aU];omega)) only [an]|(with_reducible first|refine aI (hK:=?_)|refine callD_mk (ss hN hn hop3 g1 hb hi1 (by omega) (by omega) fZ hr1 (fun x'' y'' op' l' τ'' hJ''=>?_))))
   exact aS (ah ae) rfl (h2 e (by rw [g6]) _ _ _ _ _ (by assumption))
  | ok r =>
   obtain ⟨ev,i2⟩:=r;obtain ⟨a1,a2,a3⟩:=hG i1 (c+1) c false hi1 ev i2 hn;rw [hn] at g6;have hn:N i1 (c+1) c false true tp0=.ok (ev,i2):=hn
   dsimp only at g6;have hi2:0≤i2∧i2≤ls.length:=⟨by omega,a2⟩
   have hlen2:(l++[dM 3 t]++acc++ev).length=l.length+1+acc.length+ev.length:=by simp;omega
   have hle2:(l++[dM 3 t]++acc++ev).length≤100000000000:=by rw [hlen2];omega
   cases hf:qd ls i2 c with
   | error e =>
    rw [hf] at g6
    repeat' (first|simp only [WL,ay,WM,reduceCtorEq,bg,Nat.reduceAdd,true_and,j4,gR,mF]|simp (disch:=first|omega|(simp only [aU];omega)) only [an]|(with_reducible first|refine aI (hK:=?_)|refine callD_mk (ep hN hn hop3 g1 hb hi1 (by omega) (by omega) fZ hr1 (fun x'' y'' τ'' hJ''=>?_))|refine callD_mk (DJ hf hs hi2 ?_)))
    exact aS (ah ae) rfl (h2 e (by rw [g6]) _ _ _ _ _ (by assumption))
   | ok r =>
    obtain ⟨k',ok⟩:=r;obtain ⟨b1,b2,b3⟩:=ue a2 hf;rw [hf] at g6;dsimp only at g6;have hend:l++[dM 3 t]++acc++ev++[ga 4]=l++dM 3 t::(acc++ev++[ga 4]):=by simp
    cases ok
    ·rw [if_pos rfl] at g6
     repeat' (first|simp only [WL,ay,WM,reduceCtorEq,bg,Nat.reduceAdd,Nat.reduceLT,Bool.not_false,true_and,reduceIte,kP,gR,mF,Ep,Tryz.results63]|simp (disch:=first|omega|(simp only [aU];omega)) only [an]|(with_reducible first|refine aI (hK:=?_)|refine callD_mk (ep hN hn hop3 g1 hb hi1 (by omega) (by omega) fZ hr1 (fun x'' y'' τ'' hJ''=>?_))|refine callD_mk (nn hf hs hi2 ?_)|refine callD_mk (NZ hJ'' hop hle2 (fun x3 y3 τ3 hJ3=>?_))))
     exact ak (ah ae) (aj rfl) (h1 (dM 3 t::(acc++ev++[ga 4])) i2 (by rw [g6]) _ _ _ (by rw [← hend];assumption))
    ·obtain ⟨b3,b4⟩:=b3 rfl
     rw [if_neg (by decide)] at g6;have hik:0≤k'∧k' < ls.length:=⟨by omega,b3⟩
     cases hsg:fb ls k' c 45
     ·rw [hsg,if_pos rfl] at g6
      cases pair
      ·rw [if_neg (by decide)] at g6
       repeat' (first|simp only [WL,ay,WM,reduceCtorEq,bg,Nat.reduceAdd,Nat.reduceLT,Bool.not_true,Bool.not_false,true_and,j4,gR,ee,j7,mF,hsg]|simp (disch:=first|omega|(simp only [aU];omega)) only [an]|(with_reducible first|refine aI (hK:=?_)|refine callD_mk (ep hN hn hop3 g1 hb hi1 (by omega) (by omega) fZ hr1 (fun x'' y'' τ'' hJ''=>?_))|refine callD_mk (nn hf hs hi2 ?_)|refine cD (eg hs hik (by omega) ?_)|refine callD_mk (qM ?_)))
       exact aS (ah ae) rfl (h2 2 (by rw [g6]) _ _ _ _ _ (by assumption))
      ·rw [if_pos rfl] at g6
       repeat' (first|simp only [WL,ay,WM,reduceCtorEq,bg,Nat.reduceAdd,Nat.reduceLT,Bool.not_true,Bool.not_false,true_and,reduceIte,kP,gR,ee,j7,mF,Ep,Tryz.results63,hsg]|simp (disch:=first|omega|(simp only [aU];omega)) only [an]|(with_reducible first|refine aI (hK:=?_)|refine callD_mk (ep hN hn hop3 g1 hb hi1 (by omega) (by omega) fZ hr1 (fun x'' y'' τ'' hJ''=>?_))|refine callD_mk (nn hf hs hi2 ?_)|refine cD (eg hs hik (by omega) ?_)|refine callD_mk (my ?_)|refine callD_mk (NZ hJ'' hop hle2 (fun x3 y3 τ3 hJ3=>?_))))
       exact ak (ah ae) (aj rfl) (h1 (dM 3 t::(acc++ev++[ga 4])) i2 (by rw [g6]) _ _ _ (by rw [← hend];assumption))
     ·rw [hsg,if_neg (by decide)] at g6
      repeat' (first|simp only [WL,ay,WM,reduceCtorEq,bg,Nat.reduceAdd,Nat.reduceLT,Bool.not_true,true_and,gR,ee,mF,hsg]|simp (disch:=first|omega|(simp only [aU];omega)) only [an]|(with_reducible first|refine aI (hK:=?_)|refine callD_mk (ep hN hn hop3 g1 hb hi1 (by omega) (by omega) fZ hr1 (fun x'' y'' τ'' hJ''=>?_))|refine callD_mk (nn hf hs hi2 ?_)|refine cD (eg hs hik (by omega) ?_)))
      exact ⟨(k',acc++ev,x'',y'',τ''),aq bH id,⟨by dsimp only;rw [← List.append_assoc];assumption,⟨by dsimp only;omega,b3⟩,by dsimp only;rw [List.length_append];omega,fu,by dsimp only;omega,g6⟩,by dsimp only;omega⟩
 ·exact aS (ah ae) rfl (h2 8 (.inl ⟨by omega,rfl⟩) _ _ _ _ _ hJ)
theorem uS {br ix:Nat}{ls:List Ln}{i c d:Int}{ev:List EvV}{e:Int × Int}{t:Bool} [hR:Hold σ br ix [SL none ls]] (hw:ct (cd ls i) (-1) d true (0,c)=.ok (ev,e,t)) (hs:Small ls) (hd:0≤d∧d≤1000000000) (hc:0≤c∧c≤1000000000) (h0:0 < ev.length)
  (h1:∀ rb rc cs,ev.length≤rc→K (.ret (.tup [bT rb 0 ev.length rc,I 0])) (.obj rb (aD (ev.map EVA)++cs)::σ)):ACallF κ Tryz.prog 102 [JP br,I i,I c,I d] σ K:=by
 have hl:=hs.1
 have hsa:=ff (i:=i) hs
 generalize he:cd ls i=la at *;have hp:PlW ((0:Int),c):=PlW.of0 (by omega) hc.1
 refine ACallF.dropL (aa Tryz.func102 rfl ?_);simp only [Tryz.ntmps102]
 repeat' (first|simp only [WL,WM,Nat.reduceAdd,Nat.reduceSub,Nat.reduceLT,Nat.reduceEqDiff,true_and,T3,mf,gg,fR nh,fR yS,fR gi,tw,nc,Tryz.results102]|(with_reducible first|refine ax (hb:=?_)|refine au (hK:=?_)|refine aP (hK:=?_)|refine az (hK:=?_)|refine aV (hK:=fun b=>?_)|refine aI (hK:=?_)|refine cD (lR he (by omega) (fun bj=>?_))|refine callD_mk (Nl hw hsa hd hp (fun x' y' τ' hJ'=>?_))))
 obtain ⟨ρx,ρy,r1,r2,hpp⟩:=hJ';generalize hm:ev.map EVA=m at r2;have hml:m.length=ev.length:=by rw [← hm,List.length_map]
 cases r2 with
 | nil=>exfalso;rw [List.length_nil] at hml;omega
 | @row rb rc cs _ k0 kn kc kt =>
 rw [hml] at kn kt ⊢;have hcs:cs=aD m++cs.drop (ev.length * 6):=by rw [← kt,List.take_append_drop]
 have h2:=h1 rb rc (cs.drop (ev.length * 6)) kn
 rw [hm,← hcs] at h2;exact ak (ah (ah (pQ hpp.symm ⟨_,List.Perm.refl _,List.sublist_append_right _ _⟩))) (aj rfl) h2
theorem DU {br ix:Nat}{ls:List Ln}{i c d e:Int} [hR:Hold σ br ix [SL none ls]] (hw:ct (cd ls i) (-1) d true (0,c)=.error e) (hs:Small ls) (hd:0≤d∧d≤1000000000) (hc:0≤c∧c≤1000000000)
  (h1:∀ y,K (.ret (.tup [y,I e])) σ):ACallF κ Tryz.prog 102 [JP br,I i,I c,I d] σ K:=by
 have hl:=hs.1
 have hsa:=ff (i:=i) hs
 generalize he:cd ls i=la at *;have hp:PlW ((0:Int),c):=PlW.of0 (by omega) hc.1
 refine ACallF.dropL (aa Tryz.func102 rfl ?_);simp only [Tryz.ntmps102]
 repeat' (first|simp only [WL,WM,Nat.reduceAdd,Nat.reduceSub,Nat.reduceLT,Nat.reduceEqDiff,true_and,T3,mf,gg,fR nh,fR yS,fR gi,tw,nc,Tryz.results102]|(with_reducible first|refine ax (hb:=?_)|refine au (hK:=?_)|refine aP (hK:=?_)|refine az (hK:=?_)|refine aV (hK:=fun b=>?_)|refine aI (hK:=?_)|refine cD (lR he (by omega) (fun bj=>?_))|refine callD_mk (M6 hw hsa hd hp (fun x' y' op' l' τ' hJ'=>?_))))
 exact ak (ah (ah hJ'.sub)) (aj rfl) (h1 y')
theorem OH {pr br f k:Nat}{ls:List Ln}{N:NdP}{x y:AV}{op:List Int}{l:List EvV}{τ σ0:List Res}{i c:Int} (hN:NodeCP κ pr br ls N f k) (hG:lY ls 10000000 (eG N)) (hk:op.length=k) (hk2:k≤200) (hJ:JX x y op l τ σ0) (hb:Res.obj br [SL none ls]∈σ0) (hs:Small ls) (hi:0≤i∧i < ls.length) (hc:0≤c∧c≤4500) (hr:oj ls f l i)
  (h1:∀ ev i2,r5 ls (eG N) i c=.ok (ev,i2)→∀ x' y' τ',JX x' y' op (l++ev) τ' σ0→K (.ret (I i2)) (.obj pr (RC ls br x' y')::τ'))
  (h2:∀ e,r5 ls (eG N) i c=.error e→∀ x' y' op' l' τ',JX x' y' op' l' τ' σ0→K (.pan (bI e)) (.obj pr (RC ls br x' y')::τ')) :
  ACallF κ Tryz.prog 82 [JP pr,I i,I c] (.obj pr (RC ls br x y)::τ) K:=by
 have hl:=hs.1
 unfold r5 at h1 h2;cases hn:eG N i (c+1) c false with
 | error e =>
  rw [hn] at h2;have hn:N i (c+1) c false true tp0=.error e:=hn
  refine ACallF.dropL (aa Tryz.func82 rfl ?_);simp only [Tryz.ntmps82]
  repeat' (first|simp only [WL,ay,WM,reduceCtorEq,bg,Nat.reduceAdd,Nat.reduceSub,true_and,gR]|simp (disch:=first|omega|(simp only [aU];omega)) only [an]|(with_reducible first|refine aI (hK:=?_)|refine callD_mk (ss hN hn hk hJ hb hi (by omega) (by omega) fZ hr (fun x'' y'' op' l' τ'' hJ''=>?_))))
  exact aS ae rfl (h2 e rfl _ _ _ _ _ (by assumption))
 | ok r =>
  obtain ⟨ev,i2⟩:=r;obtain ⟨a1,a2,a3⟩:=hG i (c+1) c false hi ev i2 hn;rw [hn] at h1 h2;have hn:N i (c+1) c false true tp0=.ok (ev,i2):=hn
  dsimp only at h1 h2;have hi2:0≤i2∧i2≤ls.length:=⟨by omega,a2⟩
  have hlen2:(l++ev).length=l.length+ev.length:=by simp
  have hle2:(l++ev).length≤100000000000:=by rw [hlen2];omega
  cases hx:fX ls i2 with
  | error e =>
   rw [hx] at h2;refine ACallF.dropL (aa Tryz.func82 rfl ?_);simp only [Tryz.ntmps82]
   repeat' (first|simp only [WL,ay,WM,reduceCtorEq,bg,Nat.reduceAdd,Nat.reduceSub,true_and,gR,jf]|simp (disch:=first|omega|(simp only [aU];omega)) only [an]|(with_reducible first|refine aI (hK:=?_)|refine callD_mk (ep hN hn hk hJ hb hi (by omega) (by omega) fZ hr (fun x'' y'' τ'' hJ''=>?_))|refine callD_mk (sc hx hs hi2 ?_)))
   exact aS ae rfl (h2 e rfl _ _ _ _ _ (by assumption))
  | ok r =>
   obtain ⟨k',ok⟩:=r;obtain ⟨b1,b2,b3⟩:=jB a2 hx;rw [hx] at h1 h2;dsimp only at h1 h2;by_cases hcd:ok=true∧(aF ls k').1=c∧fb ls k' c 58=true
   ·rw [if_pos hcd] at h1 h2
    obtain ⟨rfl,hcc,hsg⟩:=hcd;have b3:=b3 rfl
    have hik:0≤k'∧k' < ls.length:=⟨by omega,b3⟩
    have hr2:oj ls f (l++ev) k':=by unfold oj at *;rw [hlen2];omega
    dsimp only [aF] at hcc;cases hn2:eG N k' (c+1) c false with
    | error e =>
     rw [hn2] at h2;have hn2:N k' (c+1) c false true tp0=.error e:=hn2
     refine ACallF.dropL (aa Tryz.func82 rfl ?_);simp only [Tryz.ntmps82]
     repeat' (first|simp only [WL,ay,WM,reduceCtorEq,bg,Nat.reduceAdd,Nat.reduceSub,Nat.reduceLT,Nat.reduceLeDiff,Nat.reduceEqDiff,beq_self_eq_true,true_and,reduceIte,T3,gg,jm,fC db,fR gL,gR,jf,ee,hcc,hsg]|simp (disch:=first|omega|(simp only [aU];omega)) only [an,dO]|(with_reducible first|refine ax (hb:=?_)|refine au (hK:=?_)|refine aI (hK:=?_)|refine callD_mk (ep hN hn hk hJ hb hi (by omega) (by omega) fZ hr (fun x'' y'' τ'' hJ''=>?_))|refine callD_mk (gK hx hs hi2 ?_)|refine cD (eg hs hik (by omega) ?_)|refine callD_mk (ss hN hn2 hk hJ'' hb hik (by omega) (by omega) fZ hr2 (fun x3 y3 op3 l3 τ3 hJ3=>?_))))
     all_goals first
      | exact aS ae rfl (h2 e rfl _ _ _ _ _ (by assumption))
    | ok r =>
     obtain ⟨ev2,i3⟩:=r;rw [hn2] at h1;have hn2:N k' (c+1) c false true tp0=.ok (ev2,i3):=hn2
     refine ACallF.dropL (aa Tryz.func82 rfl ?_);simp only [Tryz.ntmps82]
     repeat' (first|simp only [WL,ay,WM,reduceCtorEq,bg,Nat.reduceAdd,Nat.reduceSub,Nat.reduceLT,Nat.reduceLeDiff,Nat.reduceEqDiff,beq_self_eq_true,true_and,reduceIte,T3,gg,jm,fC db,fR gL,gR,jf,ee,Tryz.results82,hcc,hsg]|simp (disch:=first|omega|(simp only [aU];omega)) only [an,dO]|(with_reducible first|refine ax (hb:=?_)|refine au (hK:=?_)|refine aI (hK:=?_)|refine callD_mk (ep hN hn hk hJ hb hi (by omega) (by omega) fZ hr (fun x'' y'' τ'' hJ''=>?_))|refine callD_mk (gK hx hs hi2 ?_)|refine cD (eg hs hik (by omega) ?_)|refine callD_mk (ep hN hn2 hk hJ'' hb hik (by omega) (by omega) fZ hr2 (fun x3 y3 τ3 hJ3=>?_))))
     all_goals first
      | exact ak ae (aj rfl) (h1 _ _ rfl _ _ _ (by rw [← List.append_assoc];assumption))
   ·rw [if_neg hcd] at h1
    have hs2:ok=true→0≤k'∧k' < ls.length:=fun h=>⟨by omega,b3 h⟩
    cases ok
    ·skip
     refine ACallF.dropL (aa Tryz.func82 rfl ?_);simp only [Tryz.ntmps82]
     repeat' (first|simp only [WL,ay,WM,reduceCtorEq,bg,Nat.reduceAdd,Nat.reduceSub,Nat.reduceLT,true_and,reduceIte,Bool.false_eq_true,gR,jf,Bu,Tryz.results82]|simp (disch:=first|omega|(simp only [aU];omega)) only [an]|(with_reducible first|refine aI (hK:=?_)|refine callD_mk (ep hN hn hk hJ hb hi (by omega) (by omega) fZ hr (fun x'' y'' τ'' hJ''=>?_))|refine callD_mk (gK hx hs hi2 ?_)|refine callD_mk (ug (t:=tp0) hJ'' hle2 (fun y3 τ3 hJ3=>?_))))
     all_goals first
      | exact ak ae (aj rfl) (h1 _ _ rfl _ _ _ (by rw [← List.append_assoc];assumption))
    ·have hik:=hs2 rfl
     have hcd2:(ls.getD k'.toNat (0,[])).1=c→fb ls k' c 58=false:=fun h=>by
      cases hsg:fb ls k' c 58
      ·rfl
      ·exact absurd ⟨rfl,h,hsg⟩ hcd
     cases hsg:fb ls k' c 58
     ·skip
      refine ACallF.dropL (aa Tryz.func82 rfl ?_);simp only [Tryz.ntmps82]
      repeat' (first|simp only [WL,ay,WM,reduceCtorEq,bg,Nat.reduceAdd,Nat.reduceSub,Nat.reduceLT,Nat.reduceLeDiff,Nat.reduceEqDiff,Bool.not_true,true_and,reduceIte,Bool.false_eq_true,T3,gg,jm,fC db,fR gL,gR,jf,ee,Bu,Tryz.results82,hsg]|simp (disch:=first|omega|(simp only [aU];omega)) only [an,dO]|(with_reducible first|refine ax (hb:=?_)|refine au (hK:=?_)|refine aI (hK:=?_)|refine callD_mk (ep hN hn hk hJ hb hi (by omega) (by omega) fZ hr (fun x'' y'' τ'' hJ''=>?_))|refine callD_mk (gK hx hs hi2 ?_)|refine cD (eg hs hik (by omega) ?_)|refine callD_mk (ug (t:=tp0) hJ'' hle2 (fun y3 τ3 hJ3=>?_)))|((with_reducible first|refine ai (fun h=>?_) (fun h=>?_)|refine ab (fun h=>?_) (fun h=>?_))<;>(try simp only [h])<;>(try simp only [bf,ba] at h)))
      all_goals first
       | exact ak ae (aj rfl) (h1 _ _ rfl _ _ _ (by rw [← List.append_assoc];assumption))
     ·have hne:¬(ls.getD k'.toNat (0,[])).1=c:=fun h=>by rw [hcd2 h] at hsg;cases hsg
      refine ACallF.dropL (aa Tryz.func82 rfl ?_);simp only [Tryz.ntmps82]
      repeat' (first|simp only [WL,ay,WM,reduceCtorEq,bg,Nat.reduceAdd,Nat.reduceSub,Nat.reduceLT,Nat.reduceLeDiff,Nat.reduceEqDiff,Bool.not_true,true_and,reduceIte,Bool.false_eq_true,T3,gg,jm,fC db,fR gL,gR,jf,ee,Bu,Tryz.results82]|simp (disch:=first|omega|(simp only [aU];omega)) only [an,dO]|(with_reducible first|refine ax (hb:=?_)|refine au (hK:=?_)|refine aI (hK:=?_)|refine callD_mk (ep hN hn hk hJ hb hi (by omega) (by omega) fZ hr (fun x'' y'' τ'' hJ''=>?_))|refine callD_mk (gK hx hs hi2 ?_)|refine callD_mk (ug (t:=tp0) hJ'' hle2 (fun y3 τ3 hJ3=>?_))|refine cD (eg ?_ ?_ ?_ ?_))|((with_reducible first|refine ai (fun h=>?_) (fun h=>?_)|refine ab (fun h=>?_) (fun h=>?_))<;>(try simp only [h])<;>(try simp only [bf,ba] at h))|omega)
      all_goals first
       | exact ak ae (aj rfl) (h1 _ _ rfl _ _ _ (by rw [← List.append_assoc];assumption))
       | (exfalso;exact hne (by assumption))
theorem ACallF.less {P:Program}{f:FuncId}{args:List AV}{σ1 σ2 σ3:List Res} (hp:σ1.Perm σ2) (hs:σ3.Sublist σ2) (h:ACallF κ P f args σ3 K):ACallF κ P f args σ1 K :=
 ACallF.perm hp (ACallF.weak (ResW.sub hs) h)
theorem Uo {l ev:List EvV}{b' c':Nat}{cs':List AV} (h0:0 < ev.length) (q1:cs'.length=c' * 6) (q2:l.length+ev.length≤c') (q3:cs'.take ((l.length+ev.length) * 6)=aD (l.map EVA)++aD (ev.map EVA)):RowR 6 (bT b' 0 (l.length+ev.length) c') ((l++ev).map EVA) [.obj b' cs']:=by
 have hll:((l++ev).map EVA).length=l.length+ev.length:=by simp
 have:=RowR.row (sz:=6) (b:=b') (c:=c') (cs:=cs') (l:=(l++ev).map EVA) (by omega) (by rw [hll];exact q2) q1 (by rw [hll,q3,List.map_append];simp [aD])
 rwa [hll] at this
theorem SQ {pr br f k:Nat}{ls:List Ln}{N:NdP}{x y:AV}{op:List Int}{l:List EvV}{τ σ0:List Res}{i c:Int} (hk:op.length=k) (hk2:k≤200) (hJ:JX x y op l τ σ0) (hb:Res.obj br [SL none ls]∈σ0) (hs:Small ls) (hi:0≤i∧i < ls.length) (hc:0≤c∧c≤4500) (hkf:qa (cd ls i) c=none) 
  (h2:K (.pan (bI 2)) (.obj pr (RC ls br x y)::τ)):ACallF κ Tryz.prog 83 [JP pr,I i,I c] (.obj pr (RC ls br x y)::τ) K:=by
 have hl:=hs.1
 obtain ⟨ix,hB⟩:=hJ.hold hb;refine ACallF.dropL (aa Tryz.func83 rfl ?_);simp only [Tryz.ntmps83]
 repeat' (first|simp only [WL,WM,Nat.reduceAdd,Nat.reduceSub,Nat.reduceLT,Nat.reduceEqDiff,true_and,DO,fR gq,j7,A6,hkf,wX]|(with_reducible first|refine ax (hb:=?_)|refine au (hK:=?_)|refine callD_mk (JL (ls:=ls) hs (by omega) ?_)|refine callD_mk (qM ?_)))
 exact aS ae rfl h2
theorem Sx {pr br f k:Nat}{ls:List Ln}{N:NdP}{x y:AV}{op:List Int}{l:List EvV}{τ σ0:List Res}{i c kk e:Int} (hk:op.length=k) (hk2:k≤200) (hJ:JX x y op l τ σ0) (hb:Res.obj br [SL none ls]∈σ0) (hs:Small ls) (hi:0≤i∧i < ls.length) (hc:0≤c∧c≤4500) (hkf:qa (cd ls i) c=some kk) (hw:ct (cd ls i) (-1) k true (0,c)=.error e)
  (h2:K (.pan (bI e)) (.obj pr (RC ls br x y)::τ)):ACallF κ Tryz.prog 83 [JP pr,I i,I c] (.obj pr (RC ls br x y)::τ) K:=by
 have hl:=hs.1
 have he:=kO hw
 obtain ⟨ix,hB⟩:=hJ.hold hb;obtain ⟨ρx,hx⟩:=hJ.row;have hxl:(op.map I).length=k:=by rw [List.length_map];exact hk
 have hdd:0≤(k:Int)∧(k:Int)≤1000000000:=by omega
 refine ACallF.dropL (aa Tryz.func83 rfl ?_);simp only [Tryz.ntmps83]
 repeat' (first|( with_reducible refine dU hx ?_)|simp only [WL,WM,Nat.reduceAdd,Nat.reduceSub,Nat.reduceLT,Nat.reduceEqDiff,true_and,cb,DO,OO,fR gW,fR gq,fR lX,j7,j5,A6,C3,hkf,hxl,nD]|(with_reducible first|refine ax (hb:=?_)|refine au (hK:=?_)|refine callD_mk (JL (ls:=ls) hs (by omega) ?_)|refine callD_mk (my ?_)|refine callD_mk (DU hw hs hdd (by omega) (fun yy=>?_))|refine callD_mk (Dy he ?_))|((with_reducible refine dH (id:=3) [0,1,2,3,4,5,6,7,8,9,10,11] (some 12) [([13,14,15,16,17],none)] mixed ?_ ?_);kernel_rfl)|((with_reducible apply aW);intro σq hq;have hqi:=cy hq;clear hq)|(with_reducible exact b9)|((with_reducible apply bD);rfl;rfl)|(with_reducible refine bV (me (by first|(simp;done)|fail)) ?_))
 all_goals first
  | exact aS ae rfl h2
theorem NodeCP.go {pr br f k:Nat}{ls:List Ln}{N:NdP}{x y:AV}{op:List Int}{l:List EvV}{τ σ0:List Res}{i c n:Int}{pair lead:Bool}{t:TP} (hN:NodeCP κ pr br ls N f k) (hk:op.length=k) (hJ:JX x y op l τ σ0) (hb:Res.obj br [SL none ls]∈σ0) (hi:0≤i∧i < ls.length) (hc:0≤c∧c≤5000) (hnn:-1≤n∧n≤5000) (ht:LX t) (hr:oj ls f l i)
  (h1:∀ ev i2,N i c n pair lead t=.ok (ev,i2)→∀ x' y' τ',JX x' y' op (l++ev) τ' σ0→K (.ret (I i2)) (.obj pr (RC ls br x' y')::τ'))
  (h2:∀ e,N i c n pair lead t=.error e→∀ x' y' op' l' τ',JX x' y' op' l' τ' σ0→K (.pan (bI e)) (.obj pr (RC ls br x' y')::τ')):ACallF κ Tryz.prog 50 [JP pr,I i,I c,WA n lead pair,kH t] (.obj pr (RC ls br x y)::τ) K :=
 hN hk hJ hb hi hc hnn ht hr h1 h2
theorem goN {P:Program}{f:FuncId}{args:List AV}{r1 r2 r3:Res}{τ:List Res} (h:ACallF κ P f args (r3::r1::τ) K):ACallF κ P f args (r1::r2::r3::τ) K :=
 ACallF.less (σ2:=r3::r1::r2::τ) (List.perm_middle (l₁:=[r1,r2])) ((((List.Sublist.refl _).cons _).cons_cons _).cons_cons _) h
theorem goR {P:Program}{f:FuncId}{args:List AV}{r1:Res}{τ:List Res} (h:ACallF κ P f args τ K):ACallF κ P f args (r1::τ) K :=
 ACallF.less (List.Perm.refl _) ((List.Sublist.refl _).cons _) h
theorem SB {pr br f k ix:Nat}{ls:List Ln}{N:NdP}{x:AV}{op:List Int}{ev:List EvV}{σ0 ρx:List Res}{i c kk:Int}{e:Int × Int}{t:Bool} (hx:RowR 1 x (op.map I) ρx) (hN:NodeCP κ pr br ls N f k) (hk:op.length=k) (hk2:k≤200) (hb:Res.obj br [SL none ls]∈σ0) [hB:Hold (ρx++σ0) br ix [SL none ls]] (hs:Small ls) (hi:0≤i∧i < ls.length) (hc:0≤c∧c≤4500) (hkf:qa (cd ls i) c=some kk) (hkk:0≤kk∧kk≤4000) (hw:ct (cd ls i) (-1) k true (0,c)=.ok (ev,e,t)) (h0:0 < ev.length) (hle:ev.length≤40000) (hr:oj ls f ev i)
  (h1:∀ ev2 i2,N i (kk+1) c true false tp0=.ok (ev2,i2)→∀ x' y' τ',JX x' y' op (ev++ev2) τ' σ0→K (.ret (I i2)) (.obj pr (RC ls br x' y')::τ'))
  (h2:∀ e,N i (kk+1) c true false tp0=.error e→∀ x' y' op' l' τ',JX x' y' op' l' τ' σ0→K (.pan (bI e)) (.obj pr (RC ls br x' y')::τ')) :
  ACallF κ Tryz.prog 83 [JP pr,I i,I c] (.obj pr (RC ls br x nilS)::(ρx++σ0)) K:=by
 have hl:=hs.1
 have hxl:(op.map I).length=k:=by rw [List.length_map];exact hk
 have hdd:0≤(k:Int)∧(k:Int)≤1000000000:=by omega
 have hB1:(ev.map EVA).length * 72≤140737488355328:=by rw [List.length_map];omega
 have hB2:(ev.map EVA).length≤maxLen:=by rw [List.length_map];unfold maxLen;omega
 have hne:0 < (ev.map EVA).length:=by rw [List.length_map];exact h0
 have hLm:(ev.map EVA).length=ev.length:=List.length_map _
 have hmk:∀ {b' c':Nat} {cs':List AV},cs'.length=c' * 6→(ev.map EVA).length≤c'→cs'.take ((ev.map EVA).length * 6)=aD (ev.map EVA)→JX x (bT b' 0 ev.length c') op ev (.obj b' cs'::(ρx++σ0)) σ0:=fun {b' c' cs'} q1 q2 q3=>by
  refine ⟨ρx,[.obj b' cs'],hx, ?_,List.perm_middle.symm⟩;have:=RowR.row (sz:=6) (b:=b') (c:=c') (cs:=cs') (l:=ev.map EVA) (by omega) q2 q1 q3
  rwa [hLm] at this
 generalize hτ:ρx++σ0=τ0 at *;refine ACallF.dropL (aa Tryz.func83 rfl ?_);simp only [Tryz.ntmps83]
 repeat' (first|( with_reducible refine dU hx ?_)|simp only [WL,ay,WM,reduceCtorEq,bg,Nat.reduceAdd,Nat.reduceSub,Nat.reduceLT,Nat.reduceEqDiff,true_and,cb,mf,DO,OO,fR gW,fR gq,fR lX,fR o4,gR,j7,j5,A6,C3,Tryz.results83,hkf,hxl,hLm,nD]|simp (disch:=first|omega|(simp only [aU];omega)) only [an]|(with_reducible first|refine ax (hb:=?_)|refine au (hK:=?_)|refine aP (hK:=?_)|refine aI (hK:=?_)|refine callD_mk (JL (ls:=ls) hs (by omega) ?_)|refine callD_mk (my ?_)|refine callD_mk (uS hw hs hdd (by omega) h0 (fun rb rc cs hrc=>?_))|refine callD_mk (nb ?_))|( refine lg (ev.map EVA) (n:=ev.length) hLm (fh _) (iq rfl) (iB _) hne hB1 hB2 (fun b' c' cs' q1 q2 q3=>?_))|with_reducible refine callD_mk (goN (NodeCP.go hN hk (hmk q1 q2 q3) hb hi (by omega) (by omega) fZ hr (fun ev2 i2 hn x3 y3 τ3 hJ3=>?_) (fun e2 hn x3 y3 op3 l3 τ3 hJ3=>?_)))|((with_reducible refine dH (id:=3) [0,1,2,3,4,5,6,7,8,9,10,11] (some 12) [([13,14,15,16,17],none)] mixed ?_ ?_);kernel_rfl)|((with_reducible apply aW);intro σq hq;have hqi:=cy hq;clear hq)|(with_reducible exact b9)|((with_reducible apply bD);rfl;rfl)|(with_reducible refine bV (me (by first|(simp;done)|fail)) ?_))
 all_goals first
  | exact ak ae (aj rfl) (h1 _ _ hn _ _ _ hJ3)
  | exact aS ae rfl (h2 _ hn _ _ _ _ _ hJ3)
theorem SV {pr br f k ix:Nat}{ls:List Ln}{N:NdP}{x:AV}{op:List Int}{l ev:List EvV}{σ0 ρx:List Res}{rb2 rc2:Nat}{cs2:List AV}{i c kk:Int}{e:Int × Int}{t:Bool} (k0:0 < rc2) (kn:l.length≤rc2) (kc:cs2.length=rc2 * 6) (kt:cs2.take (l.length * 6)=aD (l.map EVA)) (hx:RowR 1 x (op.map I) ρx) (hN:NodeCP κ pr br ls N f k) (hk:op.length=k) (hk2:k≤200) (hb:Res.obj br [SL none ls]∈σ0) [hB:Hold (ρx++σ0) br ix [SL none ls]] (hs:Small ls) (hi:0≤i∧i < ls.length) (hc:0≤c∧c≤4500) (hkf:qa (cd ls i) c=some kk) (hkk:0≤kk∧kk≤4000) (hw:ct (cd ls i) (-1) k true (0,c)=.ok (ev,e,t)) (h0:0 < ev.length) (hle:ev.length≤40000) (hr:oj ls f (l++ev) i)
  (h1:∀ ev2 i2,N i (kk+1) c true false tp0=.ok (ev2,i2)→∀ x' y' τ',JX x' y' op (l++ev++ev2) τ' σ0→K (.ret (I i2)) (.obj pr (RC ls br x' y')::τ'))
  (h2:∀ e,N i (kk+1) c true false tp0=.error e→∀ x' y' op' l' τ',JX x' y' op' l' τ' σ0→K (.pan (bI e)) (.obj pr (RC ls br x' y')::τ')) :
  ACallF κ Tryz.prog 83 [JP pr,I i,I c] (.obj pr (RC ls br x (bT rb2 0 l.length rc2))::.obj rb2 cs2::(ρx++σ0)) K:=by
 have hl:=hs.1
 have hxl:(op.map I).length=k:=by rw [List.length_map];exact hk
 have hdd:0≤(k:Int)∧(k:Int)≤1000000000:=by omega
 have hlr:l.length≤100000000000:=by unfold oj at hr;rw [List.length_append] at hr;omega
 have hB1:(l.length+(ev.map EVA).length) * 72≤140737488355328:=by rw [List.length_map];omega
 have hB2:l.length+(ev.map EVA).length≤maxLen:=by rw [List.length_map];unfold maxLen;omega
 have hLm:(ev.map EVA).length=ev.length:=List.length_map _
 have hmk:∀ {b' c':Nat} {cs':List AV},cs'.length=c' * 6→l.length+(ev.map EVA).length≤c'→cs'.take ((l.length+(ev.map EVA).length) * 6)=cs2.take (l.length * 6)++aD (ev.map EVA)→JX x (bT b' 0 (l.length+ev.length) c') op (l++ev) (.obj b' cs'::(ρx++σ0)) σ0:=fun {b' c' cs'} q1 q2 q3=>by
  refine ⟨ρx,[.obj b' cs'],hx, ?_,List.perm_middle.symm⟩;rw [hLm] at q2 q3;exact Uo h0 q1 q2 (by rw [q3,kt])
 generalize hτ:ρx++σ0=τ0 at *;refine ACallF.dropL (aa Tryz.func83 rfl ?_);simp only [Tryz.ntmps83]
 repeat' (first|( with_reducible refine dU hx ?_)|simp only [WL,ay,WM,reduceCtorEq,bg,Nat.reduceAdd,Nat.reduceSub,Nat.reduceLT,Nat.reduceEqDiff,true_and,cb,mf,DO,OO,fR gW,fR gq,fR lX,fR o4,gR,j7,j5,A6,C3,Tryz.results83,hkf,hxl,hLm,nD]|simp (disch:=first|omega|(simp only [aU];omega)) only [an]|(with_reducible first|refine ax (hb:=?_)|refine au (hK:=?_)|refine aP (hK:=?_)|refine aI (hK:=?_)|refine callD_mk (JL (ls:=ls) hs (by omega) ?_)|refine callD_mk (my ?_)|refine callD_mk (uS hw hs hdd (by omega) h0 (fun rb rc cs hrc=>?_))|refine callD_mk (nb ?_))|( refine fe (ev.map EVA) (n:=ev.length) hLm (fh _) (iq rfl) (iB _) kc kn hB1 hB2 (fun b' c' cs' q1 q2 q3=>?_))|with_reducible refine callD_mk (goR (NodeCP.go hN hk (hmk q1 q2 q3) hb hi (by omega) (by omega) fZ hr (fun ev2 i2 hn x3 y3 τ3 hJ3=>?_) (fun e2 hn x3 y3 op3 l3 τ3 hJ3=>?_)))|((with_reducible refine dH (id:=3) [0,1,2,3,4,5,6,7,8,9,10,11] (some 12) [([13,14,15,16,17],none)] mixed ?_ ?_);kernel_rfl)|((with_reducible apply aW);intro σq hq;have hqi:=cy hq;clear hq)|(with_reducible exact b9)|((with_reducible apply bD);rfl;rfl)|(with_reducible refine bV (me (by first|(simp;done)|fail)) ?_))
 all_goals first
  | exact ak ae (aj rfl) (h1 _ _ hn _ _ _ hJ3)
  | exact aS ae rfl (h2 _ hn _ _ _ _ _ hJ3)
theorem Sn {pr br f k:Nat}{ls:List Ln}{N:NdP}{x y:AV}{op:List Int}{l:List EvV}{τ σ0:List Res}{i c:Int} (hN:NodeCP κ pr br ls N f k) (hk:op.length=k) (hk2:k≤200) (hJ:JX x y op l τ σ0) (hb:Res.obj br [SL none ls]∈σ0) (hs:Small ls) (hi:0≤i∧i < ls.length) (hc:0≤c∧c≤4500) (hr:l.length+40000+10000000 * ((ls.length:Int) - i).toNat+40002 * f≤100000000000)
  (h1:∀ ev i2,ka ls (eG N) k i c=.ok (ev,i2)→∀ x' y' τ',JX x' y' op (l++ev) τ' σ0→K (.ret (I i2)) (.obj pr (RC ls br x' y')::τ'))
  (h2:∀ e,ka ls (eG N) k i c=.error e→∀ x' y' op' l' τ',JX x' y' op' l' τ' σ0→K (.pan (bI e)) (.obj pr (RC ls br x' y')::τ')) :
  ACallF κ Tryz.prog 83 [JP pr,I i,I c] (.obj pr (RC ls br x y)::τ) K:=by
 have hl:=hs.1
 have hsa:=ff (i:=i) hs
 unfold ka at h1 h2;cases hkf:qa (cd ls i) c with
 | none =>
  rw [hkf] at h2;exact SQ (N:=N) (f:=f) hk hk2 hJ hb hs hi hc hkf (h2 2 rfl _ _ _ _ _ hJ)
 | some kk =>
  rw [hkf] at h1 h2;dsimp only at h1 h2;obtain ⟨hP,hk3,hk4⟩:=FQ hsa hkf;cases hw:ct (cd ls i) (-1) k true (0,c) with
  | error e =>
   rw [hw] at h2;exact Sx (N:=N) (f:=f) hk hk2 hJ hb hs hi hc hkf hw (h2 e rfl _ _ _ _ _ hJ)
  | ok r =>
   obtain ⟨ev,e,t⟩:=r;rw [hw] at h1 h2;dsimp only at h1 h2;obtain ⟨g1,g2,g3,g4⟩:=cM hsa 200 0 (0,c) ev e t hP hw;have hle:ev.length≤40000:=by
    have hal:(cd ls i).length≤1:=by unfold cd;split<;>simp
    unfold Pl at g2 hP;unfold Le2 at g1;unfold mu at g3;dsimp only at g1 g2 g3 hP;omega
   obtain ⟨ρx,ρy,r1,r2,hp⟩:=hJ;have hpp:∀ ρ':List Res,(ρ'++(ρx++σ0)).Perm (ρx++(ρ'++σ0)):=fun ρ'=>by
    rw [← List.append_assoc,← List.append_assoc];exact List.perm_append_comm.append_right _
   have hm:Res.obj br [SL none ls]∈ρx++σ0:=List.mem_append_right _ hb
   obtain ⟨ix,hix⟩:=List.getElem?_of_mem hm
   haveI hB:Hold (ρx++σ0) br ix [SL none ls]:=⟨hix⟩
   refine ACallF.perm (σ2:=.obj pr (RC ls br x y)::(ρy++(ρx++σ0))) (List.Perm.cons _ (hp.trans (hpp ρy).symm)) ?_;have g5:∀ ev2 i2,N i (kk+1) c true false tp0=.ok (ev2,i2)→∀ x' y' τ',JX x' y' op (l++ev++ev2) τ' σ0→K (.ret (I i2)) (.obj pr (RC ls br x' y')::τ'):=fun ev2 i2 hn x' y' τ' hJ=>by
    refine h1 (ev++ev2) i2 ?_ _ _ _ (by rw [← List.append_assoc];exact hJ);rw [show eG N i (kk+1) c true=.ok (ev2,i2) from hn]
   have g6:∀ e,N i (kk+1) c true false tp0=.error e→∀ x' y' op' l' τ',JX x' y' op' l' τ' σ0→K (.pan (bI e)) (.obj pr (RC ls br x' y')::τ'):=fun e hn x' y' op' l' τ' hJ=>by
    refine h2 e ?_ _ _ _ _ _ hJ;rw [show eG N i (kk+1) c true=.error e from hn]
   have hrl:oj ls f (l++ev) i:=by unfold oj;rw [List.length_append];omega
   generalize hmm:l.map EVA=m at r2;have hml:m.length=l.length:=by rw [← hmm,List.length_map]
   cases r2 with
   | nil =>
    have hl0:l=[]:=by
     cases l with
     | nil=>rfl
     | cons _ _=>simp at hml
    subst hl0;exact SB (σ0:=σ0) (ρx:=ρx) (ix:=ix) r1 hN hk hk2 hb hs hi hc hkf ⟨hk3,hk4⟩ hw g4 hle hrl g5 g6
   | @row rb rc cs _ k0 kn kc kt =>
    rw [hml] at kn kt ⊢;rw [← hmm] at kt;exact SV (σ0:=σ0) (ρx:=ρx) (ix:=ix) k0 kn kc kt r1 hN hk hk2 hb hs hi hc hkf ⟨hk3,hk4⟩ hw g4 hle hrl g5 g6
abbrev CL (ls:List Ln) (N:NdP) (d:Int) (i c:Int):PR:=if fb ls i c 63=true then r5 ls (eG N) i c else ka ls (eG N) d i c
abbrev OneC (κ:Ctx) (pr br:Nat) (ls:List Ln) (N:NdP) (f k:Nat) (F:FuncId) (A:Int→Int→PR):Prop :=
 ∀ {x y:AV} {op:List Int} {l:List EvV} {ρ τ σ0 σ:List Res} {i c:Int} {K:Ret→List Res→Prop} [_hS:Split σ pr ρ (RC ls br x y) τ],op.length=k→JX x y op l τ σ0→Res.obj br [SL none ls]∈σ0→(0≤i∧i < ls.length)→(0≤c∧c≤4500)→l.length+40000+10000000 * ((ls.length:Int) - i).toNat+40002 * f≤100000000000 →
  (∀ ev i2,A i c=.ok (ev,i2)→∀ x' y' τ',JX x' y' op (l++ev) τ' σ0→K (.ret (I i2)) (ρ ++ .obj pr (RC ls br x' y')::τ')) →
  (∀ e,A i c=.error e→∀ x' y' op' l' τ',JX x' y' op' l' τ' σ0→K (.pan (bI e)) (ρ ++ .obj pr (RC ls br x' y')::τ')) →
  ACallF κ Tryz.prog F [JP pr,I i,I c] σ K
theorem RI {pr br f k:Nat}{ls:List Ln}{N:NdP} (hN:NodeCP κ pr br ls N f k) (hG:lY ls 10000000 (eG N)) (hk2:k≤200) (hs:Small ls):OneC κ pr br ls N f k 82 (r5 ls (eG N)) :=
 fun hk hJ hb hi hc hr h1 h2=>ACallF.at_ (b:=pr) (OH hN hG hk hk2 hJ hb hs hi hc (by unfold oj;omega) h1 h2)
theorem U2 {pr br f k:Nat}{ls:List Ln}{N:NdP} (hN:NodeCP κ pr br ls N f k) (hk2:k≤200) (hs:Small ls):OneC κ pr br ls N f k 83 (ka ls (eG N) k) :=
 fun hk hJ hb hi hc hr h1 h2=>ACallF.at_ (b:=pr) (Sn hN hk hk2 hJ hb hs hi hc hr h1 h2)
theorem OneC.ok {pr br f k:Nat}{ls:List Ln}{N:NdP}{F:FuncId}{A:Int→Int→PR} (h:OneC κ pr br ls N f k F A) {x y:AV}{op:List Int}{l ev:List EvV}{ρ τ σ0:List Res}{i c i2:Int} (hn:A i c=.ok (ev,i2)) [hS:Split σ pr ρ (RC ls br x y) τ] (hk:op.length=k) (hJ:JX x y op l τ σ0) (hb:Res.obj br [SL none ls]∈σ0) (hi:0≤i∧i < ls.length) (hc:0≤c∧c≤4500) (hr:l.length+40000+10000000 * ((ls.length:Int) - i).toNat+40002 * f≤100000000000)
  (h1:∀ x' y' τ',JX x' y' op (l++ev) τ' σ0→K (.ret (I i2)) (ρ ++ .obj pr (RC ls br x' y')::τ')):ACallF κ Tryz.prog F [JP pr,I i,I c] σ K :=
 h hk hJ hb hi hc hr (fun ev' i' h=>by rw [hn] at h;cases h;exact h1) (fun e h=>by rw [hn] at h;cases h)
theorem OneC.er {pr br f k:Nat}{ls:List Ln}{N:NdP}{F:FuncId}{A:Int→Int→PR} (h:OneC κ pr br ls N f k F A) {x y:AV}{op:List Int}{l:List EvV}{ρ τ σ0:List Res}{i c e:Int} (hn:A i c=.error e) [hS:Split σ pr ρ (RC ls br x y) τ] (hk:op.length=k) (hJ:JX x y op l τ σ0) (hb:Res.obj br [SL none ls]∈σ0) (hi:0≤i∧i < ls.length) (hc:0≤c∧c≤4500) (hr:l.length+40000+10000000 * ((ls.length:Int) - i).toNat+40002 * f≤100000000000)
  (h2:∀ x' y' op' l' τ',JX x' y' op' l' τ' σ0→K (.pan (bI e)) (ρ ++ .obj pr (RC ls br x' y')::τ')):ACallF κ Tryz.prog F [JP pr,I i,I c] σ K :=
 h hk hJ hb hi hc hr (fun ev' i' h=>by rw [hn] at h;cases h) (fun e' h=>by rw [hn] at h;cases h;exact h2)
theorem H6 {ls:List Ln}{N:NdP}{d c:Int}{f:Nat}{i:Int}{acc:List EvV}:mz ls (eG N) d c (f+1) i acc=match CL ls N d i c with
 | .error e=>.error e
 | .ok (ev,i2)=>match qd ls i2 c with
  | .error e=>.error e
  | .ok (k,ok)=>if ok=false then .ok (acc++ev,i2) else mz ls (eG N) d c f k (acc++ev):=rfl
theorem Qx {pr br f k:Nat}{ls:List Ln}{N:NdP}{x y:AV}{op:List Int}{l:List EvV}{τ σ0:List Res}{i c:Int}{t:TP} (hN:k < 200→NodeCP κ pr br ls N f (k+1)) (hG:lY ls 9000000 (eG N)) (hk:op.length=k) (hk2:k≤200) (hJ:JX x y op l τ σ0) (hb:Res.obj br [SL none ls]∈σ0) (hs:Small ls) (hi:0≤i∧i < ls.length) (hc:0≤c∧c≤4500) (hll:l.length≤100000000000) (hr:k < 200→oj ls (f+1) l i)
  (h1:∀ ev i2,k < 200→BS ls (eG N) (k+1) i c t=.ok (ev,i2)→∀ x' y' τ',JX x' y' op (l++ev) τ' σ0→K (.ret (I i2)) (.obj pr (RC ls br x' y')::τ'))
  (h2:∀ e,(200≤k∧e=8∨k < 200∧BS ls (eG N) (k+1) i c t=.error e)→∀ x' y' op' l' τ',JX x' y' op' l' τ' σ0→K (.pan (bI e)) (.obj pr (RC ls br x' y')::τ')) :
  ACallF κ Tryz.prog 66 [JP pr,I i,I c,kH t] (.obj pr (RC ls br x y)::τ) K:=by
 have hl:=hs.1
 have hop:op.length≤1000:=by omega
 have hGo:∀ i:Int,0≤i∧i < ls.length→OkP ls 10000000 i (CL ls N (k+1) i c):=fun i hi=>by
  unfold CL;split
  ·exact (IR hG hi).mono (by decide)
  ·exact (Fw hs hG hi).mono (by decide)
 refine ACallF.dropL (aa Tryz.func66 rfl ?_);simp only [Tryz.ntmps66]
 repeat' (first|simp only [WL,WM,Nat.reduceAdd,Nat.reduceSub,true_and,Qw]|(with_reducible first|refine aA (hK:=?_)|refine aQ (hK:=fun b=>?_)|refine cD (L7 hJ hop hll (fun h x' y' τ' hJ'=>?_) (fun h=>?_))))
 ·have hk3:k < 200:=by omega
  have hN:NodeCP κ pr br ls N f (k+1):=hN hk3
  have hr:=hr hk3
  have h1:=fun ev i2=>h1 ev i2 hk3
  have h2:=fun e h=>h2 e (.inr ⟨hk3,h⟩)
  have hA:OneC κ pr br ls N f (k+1) 82 (r5 ls (eG N)):=RI hN (fun i c n b hi=>(hG i c n b hi).mono (by decide)) (by omega) hs
  have hP:OneC κ pr br ls N f (k+1) 83 (ka ls (eG N) ((k+1:Nat):Int)):=U2 hN (by omega) hs
  unfold BS at h1 h2;refine bF (fun z:Int × List EvV × AV × AV × List Res=>⟨(JP pr::I z.1::I c::kH t::.any::.any::.any::JP b::I 0::.any::.any::.any::.any::.any::.any::.any::.any::.any::.any::.any::.any::.any::.any::.any::.any::.any::.any::.any::.any::.any::.any::.any::.any::.any::.any::.any::.any::.any::.any::[]),.obj b [.raw (.string t.1),.raw (.string t.2)]::.obj pr (RC ls br z.2.2.1 z.2.2.2.1)::z.2.2.2.2,true,[]⟩)
   (fun z=>JX z.2.2.1 z.2.2.2.1 (op++[5]) (l++[dM 5 t]++z.2.1) z.2.2.2.2 σ0∧(i≤z.1∧z.1 < ls.length)∧z.2.1.length≤10000000 * (z.1 - i).toNat∧∃ fu,((ls.length:Int) - z.1).toNat < fu∧mz ls (eG N) (k+1) c (ls.length+1) i []=mz ls (eG N) (k+1) c fu z.1 z.2.1) (fun z=>((ls.length:Int) - z.1).toNat) (i,[],x',y',τ') (aq bH id) ⟨by rw [List.append_nil];exact hJ',⟨Int.le_refl _,hi.2⟩,by simp,ls.length+1,by dsimp only;omega,rfl⟩ ?_
  rintro ⟨i1,acc,x1,y1,τ1⟩ ⟨g1,⟨g2,g3⟩,g4,fu,g5,g6⟩;dsimp only at g1 g2 g3 g4 g5 g6 ⊢;cases fu with
  | zero=>omega
  | succ fu =>
  replace g6:=g6.trans H6
  have hop3:(op++[(5:Int)]).length=k+1:=by simp [hk]
  have hlen:(l++[dM 5 t]++acc).length=l.length+1+acc.length:=by simp;omega
  have hr1:(l++[dM 5 t]++acc).length+40000+10000000 * ((ls.length:Int) - i1).toNat+40002 * f≤100000000000:=by rw [hlen];omega
  have hi1:0≤i1∧i1 < ls.length:=⟨by omega,g3⟩
  have hGo:=hGo i1 hi1
  cases hsg:fb ls i1 c 63
  ·have hone:CL ls N (k+1) i1 c=ka ls (eG N) (k+1) i1 c:=by unfold CL;rw [hsg];rfl
   rw [hone] at g6 hGo;cases hn:ka ls (eG N) ((k+1:Nat):Int) i1 c with
   | error e =>
    rw [show ka ls (eG N) ((k:Int)+1) i1 c=_ from hn] at g6
    repeat' (first|simp only [WL,WM,true_and,ee,EK,hsg]|(with_reducible first|refine cD (eg hs hi1 (by omega) ?_)|refine callD_mk (hP.er hn hop3 g1 hb hi1 hc hr1 (fun x'' y'' op' l' τ'' hJ''=>?_))))
    exact aS (ah ae) rfl (h2 e (by rw [g6]) _ _ _ _ _ (by assumption))
   | ok r =>
    obtain ⟨ev,i2⟩:=r;obtain ⟨a1,a2,a3⟩:=hGo ev i2 hn;rw [show ka ls (eG N) ((k:Int)+1) i1 c=_ from hn] at g6;dsimp only at g6;have hi2:0≤i2∧i2≤ls.length:=⟨by omega,a2⟩
    have hlen2:(l++[dM 5 t]++acc++ev).length=l.length+1+acc.length+ev.length:=by simp;omega
    have hle2:(l++[dM 5 t]++acc++ev).length≤100000000000:=by rw [hlen2];omega
    cases hf:qd ls i2 c with
    | error e =>
     rw [hf] at g6
     repeat' (first|simp only [WL,WM,true_and,ee,mF,EK,hsg]|(with_reducible first|refine cD (eg hs hi1 (by omega) ?_)|refine callD_mk (hP.ok hn hop3 g1 hb hi1 hc hr1 (fun x'' y'' τ'' hJ''=>?_))|refine callD_mk (DJ hf hs hi2 ?_)))
     exact aS (ah ae) rfl (h2 e (by rw [g6]) _ _ _ _ _ (by assumption))
    | ok r =>
     obtain ⟨k',ok⟩:=r;obtain ⟨b1,b2,b3⟩:=ue a2 hf;rw [hf] at g6;dsimp only at g6;have hend:l++[dM 5 t]++acc++ev++[ga 6]=l++dM 5 t::(acc++ev++[ga 6]):=by simp
     cases ok
     ·rw [if_pos rfl] at g6
      repeat' (first|simp only [WL,WM,reduceCtorEq,Nat.reduceAdd,Nat.reduceLT,Bool.not_false,true_and,reduceIte,ee,mF,Ep,EK,Tryz.results66,hsg]|(with_reducible first|refine cD (eg hs hi1 (by omega) ?_)|refine callD_mk (hP.ok hn hop3 g1 hb hi1 hc hr1 (fun x'' y'' τ'' hJ''=>?_))|refine callD_mk (nn hf hs hi2 ?_)|refine callD_mk (NZ hJ'' hop hle2 (fun x3 y3 τ3 hJ3=>?_))))
      exact ak (ah ae) (aj rfl) (h1 (dM 5 t::(acc++ev++[ga 6])) i2 (by rw [g6]) _ _ _ (by rw [← hend];assumption))
     ·obtain ⟨b3,b4⟩:=b3 rfl
      rw [if_neg (by decide)] at g6
      repeat' (first|simp only [WL,WM,Nat.reduceAdd,Nat.reduceLT,Bool.not_true,true_and,ee,mF,EK,hsg]|(with_reducible first|refine cD (eg hs hi1 (by omega) ?_)|refine callD_mk (hP.ok hn hop3 g1 hb hi1 hc hr1 (fun x'' y'' τ'' hJ''=>?_))|refine callD_mk (nn hf hs hi2 ?_)))
      exact ⟨(k',acc++ev,x'',y'',τ''),aq bH id,⟨by dsimp only;rw [← List.append_assoc];assumption,⟨by dsimp only;omega,b3⟩,by dsimp only;rw [List.length_append];omega,fu,by dsimp only;omega,g6⟩,by dsimp only;omega⟩
  ·have hone:CL ls N (k+1) i1 c=r5 ls (eG N) i1 c:=by unfold CL;rw [hsg];rfl
   rw [hone] at g6 hGo;cases hn:r5 ls (eG N) i1 c with
   | error e =>
    rw [hn] at g6
    repeat' (first|simp only [WL,WM,true_and,ee,EW,hsg]|(with_reducible first|refine cD (eg hs hi1 (by omega) ?_)|refine callD_mk (hA.er hn hop3 g1 hb hi1 hc hr1 (fun x'' y'' op' l' τ'' hJ''=>?_))))
    exact aS (ah ae) rfl (h2 e (by rw [g6]) _ _ _ _ _ (by assumption))
   | ok r =>
    obtain ⟨ev,i2⟩:=r;obtain ⟨a1,a2,a3⟩:=hGo ev i2 hn;rw [hn] at g6;dsimp only at g6;have hi2:0≤i2∧i2≤ls.length:=⟨by omega,a2⟩
    have hlen2:(l++[dM 5 t]++acc++ev).length=l.length+1+acc.length+ev.length:=by simp;omega
    have hle2:(l++[dM 5 t]++acc++ev).length≤100000000000:=by rw [hlen2];omega
    cases hf:qd ls i2 c with
    | error e =>
     rw [hf] at g6
     repeat' (first|simp only [WL,WM,true_and,ee,mF,EW,hsg]|(with_reducible first|refine cD (eg hs hi1 (by omega) ?_)|refine callD_mk (hA.ok hn hop3 g1 hb hi1 hc hr1 (fun x'' y'' τ'' hJ''=>?_))|refine callD_mk (DJ hf hs hi2 ?_)))
     exact aS (ah ae) rfl (h2 e (by rw [g6]) _ _ _ _ _ (by assumption))
    | ok r =>
     obtain ⟨k',ok⟩:=r;obtain ⟨b1,b2,b3⟩:=ue a2 hf;rw [hf] at g6;dsimp only at g6;have hend:l++[dM 5 t]++acc++ev++[ga 6]=l++dM 5 t::(acc++ev++[ga 6]):=by simp
     cases ok
     ·rw [if_pos rfl] at g6
      repeat' (first|simp only [WL,WM,reduceCtorEq,Nat.reduceAdd,Nat.reduceLT,Bool.not_false,true_and,reduceIte,ee,mF,Ep,EW,Tryz.results66,hsg]|(with_reducible first|refine cD (eg hs hi1 (by omega) ?_)|refine callD_mk (hA.ok hn hop3 g1 hb hi1 hc hr1 (fun x'' y'' τ'' hJ''=>?_))|refine callD_mk (nn hf hs hi2 ?_)|refine callD_mk (NZ hJ'' hop hle2 (fun x3 y3 τ3 hJ3=>?_))))
      exact ak (ah ae) (aj rfl) (h1 (dM 5 t::(acc++ev++[ga 6])) i2 (by rw [g6]) _ _ _ (by rw [← hend];assumption))
     ·obtain ⟨b3,b4⟩:=b3 rfl
      rw [if_neg (by decide)] at g6
      repeat' (first|simp only [WL,WM,Nat.reduceAdd,Nat.reduceLT,Bool.not_true,true_and,ee,mF,EW,hsg]|(with_reducible first|refine cD (eg hs hi1 (by omega) ?_)|refine callD_mk (hA.ok hn hop3 g1 hb hi1 hc hr1 (fun x'' y'' τ'' hJ''=>?_))|refine callD_mk (nn hf hs hi2 ?_)))
      exact ⟨(k',acc++ev,x'',y'',τ''),aq bH id,⟨by dsimp only;rw [← List.append_assoc];assumption,⟨by dsimp only;omega,b3⟩,by dsimp only;rw [List.length_append];omega,fu,by dsimp only;omega,g6⟩,by dsimp only;omega⟩
 ·exact aS (ah ae) rfl (h2 8 (.inl ⟨by omega,rfl⟩) _ _ _ _ _ hJ)
theorem yj (l:List Int):(aK l).size≤4 * l.length:=by
 rw [← bJ,gA];exact mw l
theorem LW:ByteArray.empty.size=0:=rfl
theorem HN (l:List Int):(bR l).1.size≤4 * l.length:=by
 unfold bR;have:=yj (l.take (gD eK l))
 rw [List.length_take] at this;dsimp only;omega
theorem TA (l:List Int):(cK l).1.size≤4 * l.length:=by
 have h0:noneT.1.size≤4 * l.length:=by show ByteArray.empty.size≤_;rw [LW];omega
 unfold cK;split
 ·exact h0
 ·split
  ·unfold fS
   split
   ·exact h0
   ·refine Nat.le_trans (yj _) ?_
    rw [List.length_drop,List.length_take];omega
  ·unfold gl
   split
   ·exact h0
   ·refine Nat.le_trans (yj _) ?_
    rw [List.length_take];omega
theorem I4 {ls:List Ln}{p:Int × Int}{v v':TrV} (hs:Small ls) (h:dg ls p v=some (some v')) (hv:v.a.size≤8000∧v.t.size≤8000):v'.a.size≤8000∧v'.t.size≤8000:=by
 have hl:=cj (p:=p) hs
 unfold dg at h;split at h
 ·split at h
  ·cases h
   have:=HN ((aH ls p).drop 1)
   rw [List.length_drop] at this;exact ⟨by dsimp only;omega,hv.2⟩
  ·cases h
 ·split at h
  ·split at h
   ·cases h
    have:=TA (aH ls p)
    exact ⟨hv.1,by dsimp only;omega⟩
   ·cases h
  ·cases h
theorem oY {ls:List Ln}{n:Int} (hs:Small ls):∀ {f:Nat}{v v':TrV}{q q':Int × Int}{ok ok':Bool},cJ ls n f v q ok=.ok (v',q',ok')→(v.a.size≤8000∧v.t.size≤8000)→v'.a.size≤8000∧v'.t.size≤8000
 | f,v,v',q,q',false,ok',h,hv=>by
  have:(Except.ok (v,q,false):Except Int (TrV × (Int × Int) × Bool))=.ok (v',q',ok'):=by rw [← h];cases f<;>rfl
  cases this
  exact hv
 | 0,v,v',q,q',true,ok',h,hv=>by
  unfold cJ at h;split at h
  ·cases h
  ·cases h;exact hv
  ·cases h
 | f+1,v,v',q,q',true,ok',h,hv=>by
  unfold cJ at h;split at h
  ·cases h
  ·cases h;exact hv
  ·rename_i w hw
   have hw2:=I4 hs hw hv
   split at h
   ·cases h
   ·exact oY hs h hw2
   ·exact oY hs h hw2
theorem Oe {ls:List Ln}{i c c2:Int}{t:TP} (hs:Small ls) (hc:0≤c∧c≤1000000000) (h:gn ls i c=.ok (t,c2)):(t.1.size≤1000000∧t.2.size≤1000000)∧0≤c2∧(c2=c∨c2≤4000):=by
 have hsa:=ff (i:=i) hs
 unfold gn at h;split at h
 ·cases h
 ·rename_i v q ok ht
  cases h
  have h3:=(vd hsa (PlW.of0 (by omega) hc.1) ht).2.2
  have h4:v.a.size≤8000∧v.t.size≤8000:=by
   unfold bS at ht;split at ht
   ·cases ht
   ·cases ht;exact ⟨by decide,by decide⟩
   ·exact oY hsa ht ⟨by decide,by decide⟩
  refine ⟨⟨by dsimp only;omega,by dsimp only;omega⟩, ?_⟩;split
  ·rename_i ha
   obtain ⟨⟨a1,a2,a3,a4⟩,-⟩:=h3 ha;exact ⟨a3,.inr a4⟩
  ·exact ⟨hc.1,.inl rfl⟩
theorem xi {s:ByteArray} (h:cf s=true):s.size=0:=by
 unfold cf at h;rw [hU,decide_eq_true_eq] at h;rw [h];rfl
theorem UI {a b t:TP} (h:ob a b=some t) (ha:a.1.size≤1000000∧a.2.size≤1000000) (hb:b.1.size≤1000000∧b.2.size≤1000000):t.1.size≤1000000∧t.2.size≤1000000:=by
 unfold ob at h;split at h
 ·rename_i h0
  cases h
  simp only [Bool.and_eq_true,Bool.or_eq_true] at h0;obtain ⟨h1,h2⟩:=h0;refine ⟨?_, ?_⟩
  ·show (a.1++b.1).size≤_
   rw [ByteArray.size_append];rcases h1 with h|h<;>have:=xi h<;>omega
  ·show (a.2++b.2).size≤_
   rw [ByteArray.size_append];rcases h2 with h|h<;>have:=xi h<;>omega
 ·cases h
end Go.Proofs.YthkabaiamcjdbaaGreat
