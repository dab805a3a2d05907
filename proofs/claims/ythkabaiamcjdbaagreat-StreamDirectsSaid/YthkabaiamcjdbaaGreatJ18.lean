/-
  Texts HC, one behind the other.
-/
import Derived.Test.YthkabaiamcjdbaaGreatJ17
set_option linter.unusedVariables false
set_option linter.unusedSimpArgs false
set_option maxHeartbeats 16000000
namespace Go.Proofs.YthkabaiamcjdbaaGreat
open Go.Abs
variable {κ:Ctx} {σ:List Res} {K:Ret→List Res→Prop} {o o':Option (Option (Nat × Nat))}
theorem v7 (a b:List EvV):aD ((a++b).map EVA)=aD (a.map EVA)++aD (b.map EVA):=by simp [aD]
theorem Az (l:List EvV):(aD (l.map EVA)).length=l.length * 6:=by rw [da _ (oD l),List.length_map]
theorem LD {x2:AV}{op:List Int}{m ev:List EvV}{M:Nat}{ρx σ0:List Res}{b' c':Nat}{cs cs':List AV} (r1:RowR 1 x2 (op.map I) ρx) (hm:m.length=M) (h0:0 < M) (kt:cs.take (M * 6)=aD (m.map EVA)) (q1:cs'.length=c' * 6) (q2:M+(ev.map EVA).length≤c') (q3:cs'.take ((M+(ev.map EVA).length) * 6)=cs.take (M * 6)++aD (ev.map EVA)) :
  JX x2 (bT b' 0 (M+ev.length) c') op (m++ev) (.obj b' cs'::(ρx++σ0)) σ0:=by
 refine ⟨ρx,[.obj b' cs'],r1, ?_,List.perm_middle.symm⟩;rw [List.length_map] at q2 q3;have hl:((m++ev).map EVA).length=M+ev.length:=by rw [List.length_map,List.length_append,hm]
 have:=RowR.row (sz:=6) (b:=b') (c:=c') (cs:=cs') (l:=(m++ev).map EVA) (by omega) (by rw [hl];exact q2) q1 (by rw [hl,q3,kt,v7])
 rwa [hl] at this
theorem UH {bj:Nat}{ls:List Ln}{n d:Int}{bk:Bool}{N N1:Int × Int→NodeR}{x y:AV}{op:List Int}{l:List EvV}{τ σ0:List Res}{p:Int × Int} (hs:Small ls) (hd:0≤d∧d≤1000000000) (hN:gS κ bj ls n d bk N op.length) (hG:fU ls N) (hN1:cO d op.length 0=true→gS κ bj ls n d bk N1 (op.length+1)) (hG1:fU ls N1) (hlo:op.length≤1000000) (hJ:JX x y op l τ σ0) (hp:Pl ls p) (hb:l.length+8 * mu p+8≤1000000000) (h0:gH ls p 63=false)
  (h1:∀ ev e,jd ls n d op.length N N1 p=.ok (ev,e)→∀ x' y' τ',JX x' y' op (l++ev) τ' σ0→K (.ret (cU e)) (.obj bj (JC ls n bk d x' y')::τ'))
  (h2:∀ e,jd ls n d op.length N N1 p=.error e→∀ x' y' op' l' τ',JX x' y' op' l' τ' σ0→K (.pan (bN e)) (.obj bj (JC ls n bk d x' y')::τ')):ACallF κ Tryz.prog 177 [JP bj,cU p] (.obj bj (JC ls n bk d x y)::τ) K:=by
 have p64:=hp.in64 hs
 have hll:l.length≤1000000000:=by omega
 unfold jd at h1 h2;rw [h0,if_neg Bool.false_ne_true] at h1 h2;obtain ⟨ρx0,ρy0,ry1,ry2,ry3⟩:=hJ;have hJ:JX x y op l τ σ0:=⟨ρx0,ρy0,ry1,ry2,ry3⟩
 have hml:(l.map EVA).length=l.length:=List.length_map _
 cases hn:N p with
 | error e =>
  rw [hn] at h2;refine ACallF.dropL (aa Tryz.func177 rfl ?_);simp only [Tryz.ntmps177]
  repeat' (first|( with_reducible refine dU ry2 ?_)|simp only [WL,WM,Nat.reduceAdd,Nat.reduceSub,Nat.reduceEqDiff,true_and,mf,fR gi,jb,fi,h0,hml]|(with_reducible first|refine ax (hb:=?_)|refine au (hK:=?_)|refine aA (hK:=?_)|refine aQ (hK:=fun b=>?_)|refine aV (hK:=fun b=>?_)|refine cD (fD (p:=p) hs p64 ?_)|refine cD (sx hN hn rfl hJ hp (by omega) (fun x' y' op' l' τ' hJ'=>?_))))
  exact aS bC rfl (h2 _ rfl _ _ _ _ _ (by assumption))
 | ok r =>
  obtain ⟨ev,e,tt⟩:=r;rw [hn] at h1 h2;dsimp only at h1 h2;obtain ⟨a1,a2,a3,a4⟩:=hG _ _ _ _ hp hn;have ew:=a2.w hs
  cases hm:dh ls n e with
  | error e2 =>
   rw [hm] at h2;refine ACallF.dropL (aa Tryz.func177 rfl ?_);simp only [Tryz.ntmps177]
   repeat' (first|( with_reducible refine dU ry2 ?_)|simp only [WL,WM,Nat.reduceAdd,Nat.reduceSub,Nat.reduceEqDiff,true_and,mf,ja,fR gi,fR fE,jb,c8,fi,h0,hml]|(with_reducible first|refine ax (hb:=?_)|refine au (hK:=?_)|refine aA (hK:=?_)|refine az (hK:=?_)|refine aQ (hK:=fun b=>?_)|refine aV (hK:=fun b=>?_)|refine cD (fD (p:=p) hs p64 ?_)|refine cD (nt hN hn rfl hJ hp (by omega) (fun x' y' τ' hJ'=>?_))|refine cD (jq (p:=e) hm hs ew ?_)))
   exact aS bC rfl (h2 _ rfl _ _ _ _ _ (by assumption))
  | ok q =>
   rw [hm] at h1 h2;dsimp only at h1 h2;obtain ⟨c1,c2,c3,c4⟩:=fQ hs hm;have q64:=c2.in64 hs
   have hq9:q.2≤4000∧0≤q.2∧0≤p.2∧p.2≤4000:=⟨c2.2.2.2,c2.2.2.1,hp.2.2.1,hp.2.2.2⟩
   refine ACallF.dropL (aN Tryz.func177 rfl ?_);simp only [Tryz.ntmps177]
   repeat' (first|( with_reducible refine dU ry2 ?_)|(with_reducible first|refine jS (id:=9) ?_|refine al (al ?_)|refine aG ?_|refine aB ?_|refine aw ?_)|simp only [WL,WM,Nat.reduceAdd,Nat.reduceSub,Nat.reduceEqDiff,true_and,mf,ja,fR gi,fR fE,jb,c8,fi,h0,hml]|(with_reducible first|refine ax (hb:=?_)|refine au (hK:=?_)|refine aA (hK:=?_)|refine az (hK:=?_)|refine aQ (hK:=fun b=>?_)|refine aV (hK:=fun b=>?_)|refine cD (fD (p:=p) hs p64 ?_)|refine cD (nt hN hn rfl hJ hp (by omega) (fun x' y' τ' hJ'=>?_))|refine cD (cq (p:=e) hm hs ew ?_)))
   rename_i c3b c4b c7b;have hJ1:=hJ'
   obtain ⟨ρx,ρy,r1,r2,hp'⟩:=hJ';generalize hmm:(l++ev).map EVA=mm at r2;have hmlen:mm.length=l.length+ev.length:=by rw [← hmm,List.length_map,List.length_append]
   cases r2 with
   | nil=>exfalso;rw [List.length_nil] at hmlen;omega
   | @row rb rc cs _ k0 kn kc kt =>
   rw [hmlen] at hJ1 kn kt ⊢;refine nW (fun _:Unit=>⟨(JP bj::cU p::.any::JP c3b::JP c4b::.any::I l.length::JP c7b::JP b::.any::.any::.any::.any::.any::.any::.any::.any::.any::.any::.any::.any::.any::.any::.any::.any::.any::.any::.any::.any::.any::.any::.any::.any::.any::.any::.any::.any::.any::.any::.any::.any::.any::.any::.any::.any::.any::.any::.any::.any::.any::.any::.any::.any::.any::.any::.any::.any::.any::.any::.any::.any::.any::.any::.any::.any::.any::.any::.any::.any::.any::.any::.any::.any::.any::.any::.any::.any::.any::.any::.any::.any::.any::.any::.any::.any::.any::.any::.any::.any::.any::.any::.any::.any::.any::.any::.any::.any::.any::.any::.any::.any::.any::.any::.any::.any::[]),.obj b [I q.1,I q.2]::.obj c7b [I e.1,I e.2,B tt]::.obj c4b [I 0,I 0]::.obj c3b [I p.1,I p.2]::.obj bj (JC ls n bk d x' (bT rb 0 (l.length+ev.length) rc))::.obj rb cs::(ρx++σ0),true,[]⟩) (fun _=>Dr ls p q (e,tt)=true) ?_ ?_
   ·
    repeat' (first|(with_reducible first|refine aG ?_|refine aw ?_)|simp only [WL,ay,WM,reduceCtorEq,bg,Nat.reduceAdd,Nat.reduceEqDiff,Bool.not_false,true_and,reduceIte,Bool.false_eq_true,T3,ja,fR dR,fR fa,fR fE,oG,Tryz.results177]|simp (disch:=first|omega|(simp only [aU];omega)) only [an]|(with_reducible first|refine ax (hb:=?_)|refine au (hK:=?_)|refine aA (hK:=?_)|refine az (hK:=?_)|refine cD (ub (p:=q) (k:=(e,tt)) hs q64 ?_))|((with_reducible refine aY ?_);apply di (hf:=Tryz.results177);exact bn)|((with_reducible first|refine ai (fun h=>?_) (fun h=>?_)|refine ab (fun h=>?_) (fun h=>?_))<;>(try simp only [h])<;>(try simp only [bf,ba] at h)))
    all_goals first
     | exact ak bC (aj rfl) (h1 _ _ (if_pos (Un (by first|exact .inl (by assumption)|exact .inr (.inl (by assumption))|exact .inr (.inr (.inl (by first|assumption|omega)))|exact .inr (.inr (.inr (by assumption)))))) _ _ _ hJ1)
     | exact ⟨(),aM bH (ResW.perm (List.Perm.cons _ (List.Perm.cons _ (List.Perm.cons _ (List.Perm.cons _ (List.Perm.cons _ (hp'.trans List.perm_middle))))))) id,Uh (by assumption) (by assumption) (by omega) (by assumption)⟩
   ·intro _ hk
    have hk2:¬Dr ls p q (e,tt)=false:=by rw [hk];decide
    rw [if_neg hk2] at h1 h2;have hkt:cs.take ((l.length+ev.length) * 6)=aD (l.map EVA)++aD (ev.map EVA):=by rw [← v7,hmm];exact kt
    have hle:=Az l
    have hee:=Az ev
    have hcl:(cs.drop (0+l.length * 6)).take ((l.length+ev.length - l.length) * 6)=aD (ev.map EVA):=by
     rw [List.take_drop,show 0+l.length * 6+(l.length+ev.length - l.length) * 6=(l.length+ev.length) * 6 by omega,hkt,Nat.zero_add,← hle,List.drop_left]
    have hcut:cs.take (l.length * 6)=aD (l.map EVA):=by
     have:=congrArg (List.take (l.length * 6)) hkt
     rw [List.take_take,show min (l.length * 6) ((l.length+ev.length) * 6)=l.length * 6 by omega] at this;rw [this,← hle,List.take_left]
    have hJc:JX x' (bT rb 0 l.length rc) op l (.obj rb cs::(ρx++σ0)) σ0:=⟨ρx,[.obj rb cs],r1,by
     have:=RowR.row (sz:=6) (b:=rb) (c:=rc) (cs:=cs) (l:=l.map EVA) k0 (by rw [hml];omega) kc (by rw [hml];exact hcut)
     rwa [hml] at this,List.perm_middle.symm⟩
    have hdr:=Dw ev
    have hevl:ev.length≤1000000000:=by omega
    have hlo2:op.length≤1000000000:=by omega
    repeat' (first|(with_reducible first|refine i6 (id:=14) ?_|refine aG ?_)|simp only [WL,WM,Nat.reduceAdd,Nat.reduceEqDiff,true_and,mf,fR gi,Qe,I5,S3]|(with_reducible first|refine ax (hb:=?_)|refine au (hK:=?_)|refine aP (hK:=?_))|( refine Lv l.length rfl (by omega) kn k0 ?_)|( refine TW l.length rfl (by omega) kn ?_)|(with_reducible first|refine callD_mk (SA (l2:=ev) (oo:=0+l.length * 6) (n:=l.length+ev.length - l.length) (by omega) (by omega) hcl ?_)|refine cD (Uw (l:=ev) hevl ?_)|refine cD (Qk (w:=o1 ev) hJc hlo2 hd (by omega) (fun hrm=>?_) (fun hrm=>?_))))
    all_goals try exact aS bC rfl (h2 8 (if_pos hrm) _ _ _ _ _ hJc)
    have hr0:=Ru hdr.1 hrm
    rw [if_neg (by rw [hrm];decide)] at h1 h2;obtain ⟨M,hM⟩:∃ M,M=l.length+1:=⟨_,rfl⟩
    have hmM:(l++[ES]).length=M:=by simp [hM]
    refine nW (fun z:AV × Nat × Nat × List AV × List Res=>⟨(JP bj::cU p::.any::JP c3b::JP c4b::.any::.any::JP c7b::.any::.sl 6 none (ev.map EVA)::.any::.any::.any::.any::.any::.any::.any::.any::.any::.any::.any::.any::.any::.any::.any::.any::.any::.any::.any::.any::.any::.any::.any::.any::.any::.any::.any::.any::.any::.any::.any::.any::.any::.any::.any::.any::.any::.any::.any::.any::.any::.any::.any::.any::.any::.any::.any::.any::.any::.any::.any::.any::.any::.any::.any::.any::.any::.any::.any::.any::.any::.any::.any::.any::.any::.any::.any::.any::.any::.any::.any::.any::.any::.any::.any::.any::.any::.any::.any::.any::.any::.any::.any::.any::.any::.any::.any::.any::.any::.any::.any::.any::.any::.any::.any::[]),.obj b [I q.1,I q.2]::.obj c7b [I e.1,I e.2,B tt]::.obj c4b [I 0,I 0]::.obj c3b [I p.1,I p.2]::.obj bj (JC ls n bk d z.1 (bT z.2.1 0 M z.2.2.1))::.obj z.2.1 z.2.2.2.1::(z.2.2.2.2++σ0),true,[]⟩) (fun z=>RowR 1 z.1 ((op++[5]).map I) z.2.2.2.2∧M≤z.2.2.1∧z.2.2.2.1.length=z.2.2.1 * 6∧z.2.2.2.1.take (M * 6)=aD ((l++[ES]).map EVA)) ?_ ?_
    ·
     repeat' (first|with_reducible refine aB ?_|simp only [WL,WM,Nat.reduceAdd,true_and,na]|(with_reducible first|refine aI (hK:=?_)|refine cD (jH (e:=ES) hJc hlo2 hll hd (fun h x2 y2 τ2 hJ2=>?_) (fun h=>by rw [hr0] at h;cases h))))
     obtain ⟨ρx2,ρy2,s1,s2,s3⟩:=hJ2;generalize hm2:(l++[ES]).map EVA=m2 at s2;have hm2l:m2.length=M:=by rw [← hm2,List.length_map,hmM]
     cases s2 with
     | nil=>exfalso;rw [List.length_nil] at hm2l;omega
     | @row rb2 rc2 cs2 _ j0 jn jc jt =>
     rw [hm2l] at jn jt ⊢;exact ⟨(x2,rb2,rc2,cs2,ρx2),aM bH (ResW.perm (List.Perm.cons _ (List.Perm.cons _ (List.Perm.cons _ (List.Perm.cons _ (List.Perm.cons _ (s3.trans List.perm_middle))))))) id,s1,jn,jc,by dsimp only;rw [jt,← hm2]⟩
    ·rintro ⟨x2,rb2,rc2,cs2,ρx2⟩ ⟨s1,jn,jc,jt⟩
     dsimp only at s1 jn jc jt ⊢;have hN2:gS κ bj ls n d bk N1 (op++[(5:Int)]).length:=by
      rw [List.length_append];exact @fun _ _ _ _ _ _ _ _=>hN1 hr0
     have hevm:(ev.map EVA).length=ev.length:=List.length_map _
     have hl2:(l++[ES]++ev).length+8 * mu (e,tt).1+8≤1000000000:=by rw [List.length_append,hmM];dsimp only;omega
     unfold hZ at h1 h2;dsimp only at h1 h2;cases hv:fO ls n N1 (e,tt) 93 with
     | error e2 =>
      rw [hv] at h2
      repeat' (first|with_reducible refine aG ?_|simp only [WL,WM,Nat.reduceAdd,Nat.reduceEqDiff,true_and,mf,fR gi,mq,hevm]|(with_reducible first|refine ax (hb:=?_)|refine au (hK:=?_)|refine aA (hK:=?_)|refine aP (hK:=?_))|( refine eP (hgood:=pz ev) (hcs:=jc) (hn:=jn) (hlen:=by rw [List.length_map];omega) (hmax:=by rw [List.length_map];unfold maxLen;omega) (hK:=fun b' c' cs' q1 q2 q3=>?_))|with_reducible refine cD (ph (key:=(e,tt)) hv hN2 (LD s1 hmM (by omega) jt q1 q2 q3) hs a2 hl2 (fun x3 y3 op' l' τ3 hJ3=>?_)))
      exact aS bC rfl (h2 _ rfl _ _ _ _ _ (by assumption))
     | ok r2 =>
      obtain ⟨ev2,e2⟩:=r2;rw [hv] at h1;obtain ⟨b1,b2,b3⟩:=o5 (key:=(e,tt)) hs hG1 a2 hv;dsimp only at b3;have hl3:(l++[ES]++ev++ev2).length≤1000000000:=by rw [List.length_append,List.length_append,hmM];omega
      repeat' (first|(with_reducible first|refine aG ?_|refine aO ?_)|simp only [WL,WM,Nat.reduceAdd,Nat.reduceEqDiff,true_and,mf,fR gi,qB,mq,Tryz.results177,hevm]|(with_reducible first|refine ax (hb:=?_)|refine au (hK:=?_)|refine aA (hK:=?_)|refine aP (hK:=?_)|refine az (hK:=?_)|refine aV (hK:=fun b=>?_))|( refine eP (hgood:=pz ev) (hcs:=jc) (hn:=jn) (hlen:=by rw [List.length_map];omega) (hmax:=by rw [List.length_map];unfold maxLen;omega) (hK:=fun b' c' cs' q1 q2 q3=>?_))|(with_reducible first|refine cD (pU (key:=(e,tt)) hv hN2 (LD s1 hmM (by omega) jt q1 q2 q3) hs a2 hl2 (fun x3 y3 τ3 hJ3=>?_))|refine cD (Gv hJ3 hlo2 hl3 (fun x4 y4 τ4 hJ4=>?_)))|((with_reducible refine aY ?_);apply di (hf:=Tryz.results177);exact bn))
      exact ak bC (aj rfl) (h1 _ _ rfl _ _ _ (by simpa using hJ4))
theorem Ye {bj k:Nat}{ls:List Ln}{n d:Int}{bk:Bool}{N N1:Int × Int→NodeR} (hs:Small ls) (hd:0≤d∧d≤1000000000) (hk:k≤1000000) (hN:gS κ bj ls n d bk N k) (hG:fU ls N) (hN1:cO d k 0=true→gS κ bj ls n d bk N1 (k+1)) (hG1:fU ls N1):pV κ bj ls n d bk (jd ls n d k N N1) 177 k:=by
 intro x y op l τ σ0 p K hk2 hJ hp hb h1 h2;subst hk2;cases h0:gH ls p 63
 ·exact UH hs hd hN hG hN1 hG1 hk hJ hp hb h0 h1 h2
 ·refine Uu hs hd hN1 hG1 hk hJ hp hb h0 (fun ev e hr hv x' y' τ' hJ'=>h1 _ _ ?_ x' y' τ' hJ') (fun e he x' y' op' l' τ' hJ'=>h2 _ ?_ x' y' op' l' τ' hJ')
  ·unfold jd
   rw [h0,if_pos rfl,hr,if_neg (by decide),hv];rfl
  ·unfold jd
   rw [h0,if_pos rfl];rcases he with ⟨hr,rfl⟩|⟨hr,hv⟩
   ·rw [hr,if_pos rfl]
   ·rw [hr,if_neg (by decide),hv]
    rfl
end Go.Proofs.YthkabaiamcjdbaaGreat
