/-
  Texts Kn, one behind the other.
-/
import Derived.Test.YthkabaiamcjdbaaGreatJ23
set_option linter.unusedVariables false
set_option linter.unusedSimpArgs false
set_option maxHeartbeats 16000000
namespace Go.Proofs.YthkabaiamcjdbaaGreat
open Go.Abs
variable {κ:Ctx} {σ:List Res} {K:Ret→List Res→Prop} {o o':Option (Option (Nat × Nat))}
theorem R9 {pr br ix:Nat}{ls:List Ln}{x:AV}{op:List Int}{l evr:List EvV}{e0:EvV}{ρx:List Res}{rb2 rc2:Nat}{cs2:List AV}{i c n:Int}{p:TP}{e:Int × Int}{t:Bool} (k0:0 < rc2) (kn:l.length≤rc2) (kc:cs2.length=rc2 * 6) (kt:cs2.take (l.length * 6)=aD (l.map EVA)) (hx:RowR 1 x (op.map I) ρx) [hB:Hold σ br ix [SL none ls]] (hs:Small ls) (hop:op.length≤1000) (hll:l.length≤100000000000) (hi:0≤i∧i < ls.length) (h0:0 < (bz ls i c).1.length) (hc:-1000000000≤c∧c≤1000000000) (hn:-1000000000≤n∧n≤1000000000)
  (hnt:¬(bz ls i c).1.getD 0 0=124∧¬(bz ls i c).1.getD 0 0=62) (hw:ct ls n op.length true (i,(bz ls i c).2)=.ok (e0::evr,e,t))
  (h1:∀ ev',nX p (e0::evr)=some ev'→¬0 < (bz ls e.1 e.2).1.length→∀ y' ρ',RowR 6 y' ((l++ev').map EVA) ρ'→K (.ret (I (e.1+1))) (.obj pr (RC ls br x y')::(ρ'++σ)))
  (h2:nX p (e0::evr)=none→K (.pan (bI 2)) (.obj pr (RC ls br x (bT rb2 0 l.length rc2))::.obj rb2 cs2::σ))
  (h3:∀ ev',nX p (e0::evr)=some ev'→0 < (bz ls e.1 e.2).1.length→∀ y' ρ',RowR 6 y' ((l++ev').map EVA) ρ'→K (.pan (bI 2)) (.obj pr (RC ls br x y')::(ρ'++σ))) :
  ACallF κ Tryz.prog 70 [JP pr,I i,I c,I n,kH p] (.obj pr (RC ls br x (bT rb2 0 l.length rc2))::.obj rb2 cs2::σ) K:=by
 have hrs:=ez (c:=c) hs hi
 have hP:=hrs.2.2.2 h0
 have hg:=cM hs 200 0 (i,(bz ls i c).2) _ e t hP hw
 have hbh:∀ {r:List Int},0 < r.length→¬r.getD 0 0=124→¬r.getD 0 0=62→True:=fun _ _ _=>trivial
 obtain ⟨he1,he2,he3,he4⟩:=hg.2.1;obtain ⟨hp1,hp2,hp3,hp4⟩:=hP;dsimp only at hp1 hp2 hp3 hp4;have hxl:(op.map I).length=op.length:=List.length_map _
 have hevl:=hg.2.2.1
 have hmu:mu (i,(bz ls i c).2)≤10009999:=zQ ⟨hp1,hp3⟩
 have hlen:(e0::evr).length≤100000000:=by omega
 simp only [List.length_cons] at hlen;have hne:=EN p
 have hpos:0 < (e0::evr).length:=by simp
 have hL:∀ z:EvV,((z::evr).map EVA).length=evr.length+1:=fun z=>by simp
 have hG:∀ z:EvV,0 < ((z::evr).map EVA).length:=fun z=>by simp
 have hB1:∀ z:EvV,(l.length+((z::evr).map EVA).length) * 72≤140737488355328:=fun z=>by rw [hL];omega
 have hB2:∀ z:EvV,l.length+((z::evr).map EVA).length≤maxLen:=fun z=>by rw [hL];unfold maxLen;omega
 have hdd:0≤(op.length:Int)∧(op.length:Int)≤1000000000:=by omega
 have hl:=hs.1
 have h64:bW i∧bW (bz ls i c).2:=⟨by omega,by omega⟩
 have hn64:bW n:=by omega
 rw [nX] at h1 h2 h3;have hrow:∀ (z:EvV) {b' c':Nat} {cs':List AV},cs'.length=c' * 6→l.length+((z::evr).map EVA).length≤c'→cs'.take ((l.length+((z::evr).map EVA).length) * 6)=cs2.take (l.length * 6)++aD ((z::evr).map EVA)→RowR 6 (bT b' 0 (l.length+(evr.length+1)) c') ((l++z::evr).map EVA) [.obj b' cs']:=fun z b' c' cs' q1 q2 q3=>by
  have hll:((l++z::evr).map EVA).length=l.length+(evr.length+1):=by simp
  have:=RowR.row (sz:=6) (b:=b') (c:=c') (cs:=cs') (l:=(l++z::evr).map EVA) (by rw [hL] at q2;omega) (by rw [hll];rw [hL] at q2;exact q2) q1 (by rw [hll];rw [hL] at q3;rw [q3,kt,List.map_append];simp [aD])
  rwa [hll] at this
 by_cases h8:e0.k=8<;>cases hnp:rN p
 all_goals
  simp only [h8,hnp,if_true,if_false,Bool.false_eq_true] at h1 h2 h3 hne;refine ACallF.dropL (aa Tryz.func70 rfl ?_);simp only [Tryz.ntmps70]
  repeat' (first|( with_reducible refine dU hx ?_)|( with_reducible refine vO ?_)|( with_reducible refine xh ?_)|( with_reducible refine fI (hK:=?_))|( ((with_reducible refine J9 [_] Ex (id:=9) [0,1,2,3,4,5,6,7] (some 8) [([9,10],some 11),([],none)] mixed ?_ ?_);kernel_rfl))|( with_reducible refine bV Ex ?_)|simp only [WL,ay,WM,Int.reduceToNat,reduceCtorEq,bg,Nat.reduceAdd,Nat.reduceSub,Nat.reduceLT,Nat.reduceEqDiff,Bool.not_true,Bool.not_false,true_and,reduceIte,Bool.false_eq_true,T3,T9,cb,mf,DO,OO,fR q6,fR lH,fR xX,fR gW,fR gq,fR lX,fR o4,fR oN,fR oX,kX,j7,j5,BC,Ly,Qi,Tryz.results70,hne,hxl,nr]|simp (disch:=first|omega|(simp only [aU];omega)) only [bL,bL]|(with_reducible first|refine ax (hb:=?_)|refine au (hK:=?_)|refine aA (hK:=?_)|refine aP (hK:=?_)|refine aQ (hK:=fun b=>?_)|refine aI (hK:=?_)|refine cD (kN hs hi hc ?_)|refine callD_mk (AJ hw hs hdd h64 hn64 ⟨hp1,hp2,hp3⟩ hpos (fun rb rc cs hrc=>?_))|refine callD_mk (ET (ls:=ls) (i:=e.1) (c:=e.2) hs ⟨he1,he2⟩ (by omega) (fun hr=>?_) (fun hr=>?_))|refine callD_mk (nb ?_)|refine callD_mk (my ?_)|refine callD_mk (qM ?_))|( refine fe ((e0::evr).map EVA) (n:=evr.length+1) (hL e0) (fh _) (iq (l:=e0::evr) rfl) (iB _) kc kn (hB1 e0) (hB2 e0) (fun b' c' cs' q1 q2 q3=>?_))|( refine fe (((⟨e0.k,e0.x,p.2,p.1,e0.s,e0.f⟩:EvV)::evr).map EVA) (n:=evr.length+1) (hL _) (fh _) (iq (l:=(⟨e0.k,e0.x,p.2,p.1,e0.s,e0.f⟩:EvV)::evr) rfl) (iB _) kc kn (hB1 _) (hB2 _) (fun b' c' cs' q1 q2 q3=>?_))|((with_reducible refine eE (id:=4) [0,1,2,3,4,5,6,7,8,9,10,11,12] (some 13) [([14,15,16,17,18,19],some 20),([],some 21),([22],none)] mixed ?_ ?_);kernel_rfl)|((with_reducible apply aW);intro σq hq;have hqi:=cy hq;clear hq)|(with_reducible exact b9)|((with_reducible apply bD);rfl;rfl)|(with_reducible refine bV (nZ (by first|(simp;done)|fail) (by first|(simp;done)|fail)) ?_)|((with_reducible first|refine ai (fun h=>?_) (fun h=>?_)|refine ab (fun h=>?_) (fun h=>?_))<;>(try simp only [h])<;>(try simp only [bf,ba] at h))|omega)
 all_goals first
  | exact aS bC rfl (h2 trivial)
  | exact ak bC (aj rfl) (h1 _ rfl hr _ _ (hrow _ q1 q2 q3))
  | exact aS bC rfl (h3 _ rfl hr _ _ (hrow _ q1 q2 q3))
end Go.Proofs.YthkabaiamcjdbaaGreat
