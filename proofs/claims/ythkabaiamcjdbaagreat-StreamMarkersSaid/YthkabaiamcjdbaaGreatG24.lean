/-
  Texts Kn, one behind the other.
-/
import Derived.Test.YthkabaiamcjdbaaGreatG23
set_option linter.unusedVariables false
set_option linter.unusedSimpArgs false
set_option maxHeartbeats 16000000
/-
 Walks: chapter 14,what is no collection without brackets,behind others.
-/

namespace Go.Proofs.YthkabaiamcjdbaaGreat
open Go.Abs
variable {κ:Ctx} {σ:List Res} {K:Ret→List Res→Prop} {o o':Option (Option (Nat × Nat))}
theorem O1 {pr br ix:Nat}{ls:List Ln}{x:AV}{op:List Int}{l evr:List EvV}{e0:EvV}{ρx:List Res}{rb2 rc2:Nat}{cs2:List AV}{i c n:Int}{p:TP}{e:Int × Int}{t:Bool} (k0:0 < rc2) (kn:l.length≤rc2) (kc:cs2.length=rc2 * 6) (kt:cs2.take (l.length * 6)=aI (l.map EVA)) (hx:RowR 1 x (op.map I) ρx) [hB:Hold σ br ix [SL none ls]] (hs:Small ls) (hop:op.length≤1000) (hll:l.length≤100000000000) (hi:0≤i∧i < ls.length) (h0:0 < (restP ls i c).1.length) (hc:-1000000000≤c∧c≤1000000000) (hn:-1000000000≤n∧n≤1000000000)
  (hnt:¬(restP ls i c).1.getD 0 0=124∧¬(restP ls i c).1.getD 0 0=62) (hw:cf ls n op.length true (i,(restP ls i c).2)=.ok (e0::evr,e,t))
  (h1:∀ ev',mi p (e0::evr)=some ev'→¬0 < (restP ls e.1 e.2).1.length→∀ y' ρ',RowR 6 y' ((l++ev').map EVA) ρ'→K (.ret (I (e.1+1))) (.obj pr (RC ls br x y')::(ρ'++σ)))
  (h2:mi p (e0::evr)=none→K (.pan (bF 2)) (.obj pr (RC ls br x (bM rb2 0 l.length rc2))::.obj rb2 cs2::σ))
  (h3:∀ ev',mi p (e0::evr)=some ev'→0 < (restP ls e.1 e.2).1.length→∀ y' ρ',RowR 6 y' ((l++ev').map EVA) ρ'→K (.pan (bF 2)) (.obj pr (RC ls br x y')::(ρ'++σ))) :
  ACallF κ Tryz.prog 70 [JP pr,I i,I c,I n,jE p] (.obj pr (RC ls br x (bM rb2 0 l.length rc2))::.obj rb2 cs2::σ) K:=by
 have hrs:=dG (c:=c) hs hi
 have hP:=hrs.2.2.2 h0
 have hg:=cl hs 200 0 (i,(restP ls i c).2) _ e t hP hw
 have hbh:∀ {r:List Int},0 < r.length→¬r.getD 0 0=124→¬r.getD 0 0=62→True:=fun _ _ _=>trivial
 obtain ⟨he1,he2,he3,he4⟩:=hg.2.1
 obtain ⟨hp1,hp2,hp3,hp4⟩:=hP
 dsimp only at hp1 hp2 hp3 hp4
 have hxl:(op.map I).length=op.length:=List.length_map _
 have hevl:=hg.2.2.1
 have hmu:mu (i,(restP ls i c).2)≤10009999:=zd ⟨hp1,hp3⟩
 have hlen:(e0::evr).length≤100000000:=by omega
 simp only [List.length_cons] at hlen
 have hne:=Cg p
 have hpos:0 < (e0::evr).length:=by simp
 have hL:∀ z:EvV,((z::evr).map EVA).length=evr.length+1:=fun z=>by simp
 have hG:∀ z:EvV,0 < ((z::evr).map EVA).length:=fun z=>by simp
 have hB1:∀ z:EvV,(l.length+((z::evr).map EVA).length) * 72≤140737488355328:=fun z=>by rw [hL];omega
 have hB2:∀ z:EvV,l.length+((z::evr).map EVA).length≤maxLen:=fun z=>by rw [hL];unfold maxLen;omega
 have hdd:0≤(op.length:Int)∧(op.length:Int)≤1000000000:=by omega
 have hl:=hs.1
 have h64:bS i∧bS (restP ls i c).2:=⟨by omega,by omega⟩
 have hn64:bS n:=by omega
 rw [mi] at h1 h2 h3
 have hrow:∀ (z:EvV) {b' c':Nat} {cs':List AV},cs'.length=c' * 6→l.length+((z::evr).map EVA).length≤c'→cs'.take ((l.length+((z::evr).map EVA).length) * 6)=cs2.take (l.length * 6)++aI ((z::evr).map EVA)→RowR 6 (bM b' 0 (l.length+(evr.length+1)) c') ((l++z::evr).map EVA) [.obj b' cs']:=fun z b' c' cs' q1 q2 q3=>by
  have hll:((l++z::evr).map EVA).length=l.length+(evr.length+1):=by simp
  have:=RowR.row (sz:=6) (b:=b') (c:=c') (cs:=cs') (l:=(l++z::evr).map EVA) (by rw [hL] at q2;omega) (by rw [hll];rw [hL] at q2;exact q2) q1 (by rw [hll];rw [hL] at q3;rw [q3,kt,List.map_append];simp [aI])
  rwa [hll] at this
 by_cases h8:e0.k=8<;>cases hnp:rn p
 all_goals
  simp only [h8,hnp,if_true,if_false,Bool.false_eq_true] at h1 h2 h3 hne
  refine ACallF.dropL (aa Tryz.func70 rfl ?_)
  simp only [Tryz.ntmps70]
  repeat' (first|( with_reducible refine dR hx ?_)|( with_reducible refine vk ?_)|( with_reducible refine tT ?_)|( with_reducible refine iL (hK:=?_))|( ((with_reducible refine Im [_] CY (id:=9) [0,1,2,3,4,5,6,7] (some 8) [([9,10],some 11),([],none)] mixed ?_ ?_);kernel_rfl))|( with_reducible refine bR CY ?_)|simp only [WL,aD,WM,Int.reduceToNat,reduceCtorEq,ba,Nat.reduceAdd,Nat.reduceSub,Nat.reduceLT,Nat.reduceEqDiff,Bool.not_true,Bool.not_false,true_and,reduceIte,Bool.false_eq_true,T3,T9,bX,jU,zP,KT,fR oI,fR qQ,fR wO,fR gy,fR fJ,fR ks,fR mF,fR ni,fR mP,jM,js,jg,xB,FE,LQ,Tryz.results70,hne,hxl,Bb]|simp (disch:=first|omega|(simp only [aT];omega)) only [aV,aV]|(with_reducible first|refine aC (hb:=?_)|refine ax (hK:=?_)|refine aA (hK:=?_)|refine aO (hK:=?_)|refine aP (hK:=fun b=>?_)|refine aG (hK:=?_)|refine cD (jT hs hi hc ?_)|refine callD_mk (xH hw hs hdd h64 hn64 ⟨hp1,hp2,hp3⟩ hpos (fun rb rc cs hrc=>?_))|refine callD_mk (Cz (ls:=ls) (i:=e.1) (c:=e.2) hs ⟨he1,he2⟩ (by omega) (fun hr=>?_) (fun hr=>?_))|refine callD_mk (kA ?_)|refine callD_mk (lC ?_)|refine callD_mk (oL ?_))|( refine c6 ((e0::evr).map EVA) (n:=evr.length+1) (hL e0) (dp _) (eJ (l:=e0::evr) rfl) (eK _) kc kn (hB1 e0) (hB2 e0) (fun b' c' cs' q1 q2 q3=>?_))|( refine c6 (((⟨e0.k,e0.x,p.2,p.1,e0.s,e0.f⟩:EvV)::evr).map EVA) (n:=evr.length+1) (hL _) (dp _) (eJ (l:=(⟨e0.k,e0.x,p.2,p.1,e0.s,e0.f⟩:EvV)::evr) rfl) (eK _) kc kn (hB1 _) (hB2 _) (fun b' c' cs' q1 q2 q3=>?_))|((with_reducible refine eh (id:=4) [0,1,2,3,4,5,6,7,8,9,10,11,12] (some 13) [([14,15,16,17,18,19],some 20),([],some 21),([22],none)] mixed ?_ ?_);kernel_rfl)|((with_reducible apply aQ);intro σq hq;have hqi:=cm hq;clear hq)|(with_reducible exact bU)|((with_reducible apply bA);rfl;rfl)|(with_reducible refine bR (l8 (by first|(simp;done)|fail) (by first|(simp;done)|fail)) ?_)|((with_reducible first|refine ai (fun h=>?_) (fun h=>?_)|refine ab (fun h=>?_) (fun h=>?_))<;>(try simp only [h])<;>(try simp only [bg,bm] at h))|omega)
 all_goals first
  | exact aN bE rfl (h2 trivial)
  | exact ak bE (aj rfl) (h1 _ rfl hr _ _ (hrow _ q1 q2 q3))
  | exact aN bE rfl (h3 _ rfl hr _ _ (hrow _ q1 q2 q3))
end Go.Proofs.YthkabaiamcjdbaaGreat
