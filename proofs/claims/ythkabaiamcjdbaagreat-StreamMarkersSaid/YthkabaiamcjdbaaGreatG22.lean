/-
  Texts Bk, one behind the other.
-/
import Derived.Test.YthkabaiamcjdbaaGreatG21
set_option linter.unusedVariables false
set_option linter.unusedSimpArgs false
set_option maxHeartbeats 16000000
/-
 Walks: chapter 10,what stands behind a head.
-/







namespace Go.Proofs.YthkabaiamcjdbaaGreat
open Go.Abs
variable {κ:Ctx} {σ:List Res} {K:Ret→List Res→Prop} {o o':Option (Option (Nat × Nat))}
abbrev TU (h:HD):AV:=.agg [B h.1,I h.2.1,I h.2.2]
theorem Rs {l:List Int} (hl:l.length≤1000000000) (hK:K (.ret (.tup [TU (fp l).1,I (fp l).2.1,I (fp l).2.2])) σ):ACallF κ Tryz.prog 105 [SI o l] σ K:=by
 refine ACallF.dropL (aR Tryz.func105 rfl ?_)
 simp only [Tryz.ntmps105]
 repeat' (first|(with_reducible first|refine y5 ?_|refine B4 (id:=0) ?_|refine al (al ?_)|refine aJ ?_|refine aB ?_|refine aw ?_)|simp only [WL,aD,WM,Int.reduceToNat,reduceCtorEq,ba,Nat.reduceAdd,Nat.reduceSub,Bool.not_true,Bool.not_false,true_and,reduceIte,Bool.false_eq_true,jS,T3,bX,Tryz.results105]|simp (disch:=first|omega|(simp only [aT];omega)) only [aV]|(with_reducible first|refine aC (hb:=?_)|refine az (hK:=?_)|refine aS (hK:=fun b=>?_)|refine aG (hK:=?_))|((with_reducible refine aU ?_);apply oi (hf:=Tryz.results105);exact aZ)|((with_reducible first|refine ai (fun h=>?_) (fun h=>?_)|refine ab (fun h=>?_) (fun h=>?_))<;>(try simp only [h])<;>(try simp only [bg,bm] at h)))
 all_goals try exact ak (ae (ae ah)) (aj (by rw [sU (by omega)])) hK
 all_goals try exact ak (ae ah) (aj (by rw [sU (by omega)])) hK
 ·rename_i b0 _ _
  have h62:l.getD 0 0=124∨l.getD 0 0=62:=by omega
  have hpos:0 < l.length:=by omega
  refine nt (fun x:Nat × Int × Int=>⟨(SI o l::.any::.raw (.pointer (some ⟨b0,0,none⟩))::.any::.any::.raw (.pointer (some ⟨b,0,none⟩))::I x.1::.any::.any::.any::.any::.any::.any::.any::.any::.any::.any::.any::.any::.any::.any::.any::.any::.any::.any::.any::.any::.any::.any::.any::.any::.any::.any::.any::.any::.any::.any::.any::.any::.any::.any::.any::.any::.any::.any::.any::.any::.any::.any::.any::.any::.any::.any::.any::.any::.any::.any::.any::.any::.any::.any::.any::.any::.any::.any::.any::.any::.any::.any::.any::.any::.any::.any::.any::.any::.any::.any::.any::.any::.any::.any::.any::.any::.any::.any::.any::.any::.any::.any::.any::.any::.any::.any::.any::.any::.any::.any::.any::.any::.any::.any::.any::.any::.any::.any::.any::.any::[]),.obj b [B (l.getD 0 0 == 62),I x.2.1,I x.2.2]::.obj b0 [B false,I 0,I 0]::σ,true,[]⟩)
   (fun x=>1≤x.1∧x.1≤l.length∧b9 0 0 (l.drop 1)=(x.2.1,x.2.2,l.drop x.1)) ?_ ?_
  ·skip
   repeat' (first|(with_reducible first|refine ay ?_|refine bW ?_))
   refine dM (fun x:Nat × Int × Int=>⟨(SI o l::.any::.raw (.pointer (some ⟨b0,0,none⟩))::.any::.any::.raw (.pointer (some ⟨b,0,none⟩))::I x.1::.any::.any::.any::.any::.any::.any::.any::.any::.any::.any::.any::.any::.any::.any::.any::.any::.any::.any::.any::.any::.any::.any::.any::.any::.any::.any::.any::.any::.any::.any::.any::.any::.any::.any::.any::.any::.any::.any::.any::.any::.any::.any::.any::.any::.any::.any::.any::.any::.any::.any::.any::.any::.any::.any::.any::.any::.any::.any::.any::.any::.any::.any::.any::.any::.any::.any::.any::.any::.any::.any::.any::.any::.any::.any::.any::.any::.any::.any::.any::.any::.any::.any::.any::.any::.any::.any::.any::.any::.any::.any::.any::.any::.any::.any::.any::.any::.any::.any::.any::.any::[]),.obj b [B (l.getD 0 0 == 62),I x.2.1,I x.2.2]::.obj b0 [B false,I 0,I 0]::σ,true,[]⟩)
    (fun x=>1≤x.1∧x.1≤l.length∧b9 0 0 (l.drop 1)=b9 x.2.1 x.2.2 (l.drop x.1)) (fun x=>l.length - x.1) (1,0,0) (aL bz (ResW.refl _) id) ⟨Nat.le_refl _,hpos,rfl⟩ ?_
   rintro ⟨i,ch,ind⟩ hx
   dsimp only at hx ⊢
   have h1:=hx.1
   have h2:=hx.2.1
   have h3:=hx.2.2
   repeat' (first|(with_reducible first|refine al (ay ?_)|refine ay ?_|refine al (al ?_)|refine aJ ?_|refine aB ?_|refine aw ?_)|simp only [WL,aD,WM,reduceCtorEq,ba,Nat.reduceAdd,Nat.reduceEqDiff,Bool.not_true,true_and,reduceIte,Bool.false_eq_true,T3,bX,fR qA,fR vE]|simp (disch:=first|omega|(simp only [aT];omega)) only [aq,aV]|(with_reducible first|refine aC (hb:=?_)|refine ax (hK:=?_)|refine aO (hK:=?_))|((with_reducible first|refine ai (fun h=>?_) (fun h=>?_)|refine ab (fun h=>?_) (fun h=>?_))<;>(try simp only [h])<;>(try simp only [bg,bm] at h))|omega)
   all_goals first
    | exact ⟨(i+1,ch,l.getD i 0 - 48),aL bz (ResW.refl _) id,⟨by dsimp only;omega,by dsimp only;omega,h3.trans (tX (by omega) (by omega) (by omega) (by omega))⟩,by dsimp only;omega⟩
    | exact ⟨(i+1,1,ind),aL bz (ResW.refl _) id,⟨by dsimp only;omega,by dsimp only;omega,h3.trans (u0 (by omega) (by omega) (by omega))⟩,by dsimp only;omega⟩
    | exact ⟨(i+1,2,ind),aL bz (ResW.refl _) id,⟨by dsimp only;omega,by dsimp only;omega,h3.trans (rI (by omega) (by omega) (by omega))⟩,by dsimp only;omega⟩
    | exact ⟨(i,ch,ind),aL bz (ResW.refl _) id,by dsimp only;omega,by dsimp only;omega,h3.trans (tP (by omega))⟩
    | exact ⟨(i,ch,ind),aL bz (ResW.refl _) id,by dsimp only;omega,by dsimp only;omega,h3.trans (q6 (by omega) (by omega) (by omega) (by omega))⟩
  ·rintro ⟨i,ch,ind⟩ hx
   dsimp only at hx ⊢
   have h1:=hx.1
   have h2:=hx.2.1
   have h3:=hx.2.2
   repeat' (first|(with_reducible first|refine al (ay ?_)|refine bW ?_|refine aJ ?_)|simp only [WL,WM])
   refine dM (fun j:Nat=>⟨(SI o l::.any::.raw (.pointer (some ⟨b0,0,none⟩))::.any::.any::.raw (.pointer (some ⟨b,0,none⟩))::I j::.any::I i::.any::.any::.any::.any::.any::.any::.any::.any::.any::.any::.any::.any::.any::.any::.any::.any::.any::.any::.any::.any::.any::.any::.any::.any::.any::.any::.any::.any::.any::.any::.any::.any::.any::.any::.any::.any::.any::.any::.any::.any::.any::.any::.any::.any::.any::.any::.any::.any::.any::.any::.any::.any::.any::.any::.any::.any::.any::.any::.any::.any::.any::.any::.any::.any::.any::.any::.any::.any::.any::.any::.any::.any::.any::.any::.any::.any::.any::.any::.any::.any::.any::.any::.any::.any::.any::.any::.any::.any::.any::.any::.any::.any::.any::.any::.any::.any::.any::.any::[]),.obj b [B (l.getD 0 0 == 62),I ch,I ind]::.obj b0 [B false,I 0,I 0]::σ,true,[]⟩)
    (fun j=>i≤j∧j≤l.length∧(l.drop i).dropWhile blankI=(l.drop j).dropWhile blankI) (fun j=>l.length - j) i (aL bz (ResW.refl _) id) ⟨Nat.le_refl _,h2,rfl⟩ ?_
   rintro j hj
   have k1:=hj.1
   have k2:=hj.2.1
   have k3:=hj.2.2
   repeat' (first|(with_reducible first|refine ay ?_|refine al (al ?_)|refine aJ ?_|refine aB ?_|refine aw ?_|refine aY ?_)|simp only [WL,aD,WM,reduceCtorEq,ba,Nat.reduceAdd,Bool.not_true,Bool.not_false,true_and,reduceIte,Bool.false_eq_true,jS,T3,bX,fw,Tryz.results105]|simp (disch:=first|omega|(simp only [aT];omega)) only [aq,aV]|(with_reducible first|refine aC (hb:=?_)|refine aA (hK:=?_)|refine az (hK:=?_)|refine aG (hK:=?_)|refine cD (Blank ?_))|((with_reducible refine aU ?_);apply oi (hf:=Tryz.results105);exact aZ)|((with_reducible first|refine ai (fun h=>?_) (fun h=>?_)|refine ab (fun h=>?_) (fun h=>?_))<;>(try simp only [h])<;>(try simp only [bg,bm] at h))|omega)
   all_goals try exact ⟨j+1,aL bz (ResW.refl _) id,⟨by omega,by omega,k3.trans (w5 (by omega) (by assumption))⟩,by omega⟩
   all_goals
    have hd:(l.drop i).dropWhile blankI=l.drop j:=by
     first
      | exact k3.trans (rY (by omega) (by assumption))
      | (rw [k3,List.drop_eq_nil_of_le (show l.length≤j by omega)];rfl)
    have hh:=xA hpos h62 h3 h2 k1 k2 hd
    first
     | (rw [if_pos (by omega)] at hh;exact ak (ae (ae ah)) (aj (by rw [hh])) hK)
     | (rw [if_neg (by omega)] at hh;exact ak (ae (ae ah)) (aj (by rw [hh])) hK)
 ·rename_i b0 _
  have h62:l.getD 0 0=124∨l.getD 0 0=62:=by omega
  have hpos:0 < l.length:=by omega
  refine nt (fun x:Nat × Int × Int=>⟨(SI o l::.any::.raw (.pointer (some ⟨b0,0,none⟩))::.any::.any::.raw (.pointer (some ⟨b,0,none⟩))::I x.1::.any::.any::.any::.any::.any::.any::.any::.any::.any::.any::.any::.any::.any::.any::.any::.any::.any::.any::.any::.any::.any::.any::.any::.any::.any::.any::.any::.any::.any::.any::.any::.any::.any::.any::.any::.any::.any::.any::.any::.any::.any::.any::.any::.any::.any::.any::.any::.any::.any::.any::.any::.any::.any::.any::.any::.any::.any::.any::.any::.any::.any::.any::.any::.any::.any::.any::.any::.any::.any::.any::.any::.any::.any::.any::.any::.any::.any::.any::.any::.any::.any::.any::.any::.any::.any::.any::.any::.any::.any::.any::.any::.any::.any::.any::.any::.any::.any::.any::.any::.any::[]),.obj b [B (l.getD 0 0 == 62),I x.2.1,I x.2.2]::.obj b0 [B false,I 0,I 0]::σ,true,[]⟩)
   (fun x=>1≤x.1∧x.1≤l.length∧b9 0 0 (l.drop 1)=(x.2.1,x.2.2,l.drop x.1)) ?_ ?_
  ·skip
   repeat' (first|(with_reducible first|refine ay ?_|refine bW ?_))
   refine dM (fun x:Nat × Int × Int=>⟨(SI o l::.any::.raw (.pointer (some ⟨b0,0,none⟩))::.any::.any::.raw (.pointer (some ⟨b,0,none⟩))::I x.1::.any::.any::.any::.any::.any::.any::.any::.any::.any::.any::.any::.any::.any::.any::.any::.any::.any::.any::.any::.any::.any::.any::.any::.any::.any::.any::.any::.any::.any::.any::.any::.any::.any::.any::.any::.any::.any::.any::.any::.any::.any::.any::.any::.any::.any::.any::.any::.any::.any::.any::.any::.any::.any::.any::.any::.any::.any::.any::.any::.any::.any::.any::.any::.any::.any::.any::.any::.any::.any::.any::.any::.any::.any::.any::.any::.any::.any::.any::.any::.any::.any::.any::.any::.any::.any::.any::.any::.any::.any::.any::.any::.any::.any::.any::.any::.any::.any::.any::.any::.any::[]),.obj b [B (l.getD 0 0 == 62),I x.2.1,I x.2.2]::.obj b0 [B false,I 0,I 0]::σ,true,[]⟩)
    (fun x=>1≤x.1∧x.1≤l.length∧b9 0 0 (l.drop 1)=b9 x.2.1 x.2.2 (l.drop x.1)) (fun x=>l.length - x.1) (1,0,0) (aL bz (ResW.refl _) id) ⟨Nat.le_refl _,hpos,rfl⟩ ?_
   rintro ⟨i,ch,ind⟩ hx
   dsimp only at hx ⊢
   have h1:=hx.1
   have h2:=hx.2.1
   have h3:=hx.2.2
   repeat' (first|(with_reducible first|refine al (ay ?_)|refine ay ?_|refine al (al ?_)|refine aJ ?_|refine aB ?_|refine aw ?_)|simp only [WL,aD,WM,reduceCtorEq,ba,Nat.reduceAdd,Nat.reduceEqDiff,Bool.not_true,true_and,reduceIte,Bool.false_eq_true,T3,bX,fR qA,fR vE]|simp (disch:=first|omega|(simp only [aT];omega)) only [aq,aV]|(with_reducible first|refine aC (hb:=?_)|refine ax (hK:=?_)|refine aO (hK:=?_))|((with_reducible first|refine ai (fun h=>?_) (fun h=>?_)|refine ab (fun h=>?_) (fun h=>?_))<;>(try simp only [h])<;>(try simp only [bg,bm] at h))|omega)
   all_goals first
    | exact ⟨(i+1,ch,l.getD i 0 - 48),aL bz (ResW.refl _) id,⟨by dsimp only;omega,by dsimp only;omega,h3.trans (tX (by omega) (by omega) (by omega) (by omega))⟩,by dsimp only;omega⟩
    | exact ⟨(i+1,1,ind),aL bz (ResW.refl _) id,⟨by dsimp only;omega,by dsimp only;omega,h3.trans (u0 (by omega) (by omega) (by omega))⟩,by dsimp only;omega⟩
    | exact ⟨(i+1,2,ind),aL bz (ResW.refl _) id,⟨by dsimp only;omega,by dsimp only;omega,h3.trans (rI (by omega) (by omega) (by omega))⟩,by dsimp only;omega⟩
    | exact ⟨(i,ch,ind),aL bz (ResW.refl _) id,by dsimp only;omega,by dsimp only;omega,h3.trans (tP (by omega))⟩
    | exact ⟨(i,ch,ind),aL bz (ResW.refl _) id,by dsimp only;omega,by dsimp only;omega,h3.trans (q6 (by omega) (by omega) (by omega) (by omega))⟩
  ·rintro ⟨i,ch,ind⟩ hx
   dsimp only at hx ⊢
   have h1:=hx.1
   have h2:=hx.2.1
   have h3:=hx.2.2
   repeat' (first|(with_reducible first|refine al (ay ?_)|refine bW ?_|refine aJ ?_)|simp only [WL,WM])
   refine dM (fun j:Nat=>⟨(SI o l::.any::.raw (.pointer (some ⟨b0,0,none⟩))::.any::.any::.raw (.pointer (some ⟨b,0,none⟩))::I j::.any::I i::.any::.any::.any::.any::.any::.any::.any::.any::.any::.any::.any::.any::.any::.any::.any::.any::.any::.any::.any::.any::.any::.any::.any::.any::.any::.any::.any::.any::.any::.any::.any::.any::.any::.any::.any::.any::.any::.any::.any::.any::.any::.any::.any::.any::.any::.any::.any::.any::.any::.any::.any::.any::.any::.any::.any::.any::.any::.any::.any::.any::.any::.any::.any::.any::.any::.any::.any::.any::.any::.any::.any::.any::.any::.any::.any::.any::.any::.any::.any::.any::.any::.any::.any::.any::.any::.any::.any::.any::.any::.any::.any::.any::.any::.any::.any::.any::.any::.any::[]),.obj b [B (l.getD 0 0 == 62),I ch,I ind]::.obj b0 [B false,I 0,I 0]::σ,true,[]⟩)
    (fun j=>i≤j∧j≤l.length∧(l.drop i).dropWhile blankI=(l.drop j).dropWhile blankI) (fun j=>l.length - j) i (aL bz (ResW.refl _) id) ⟨Nat.le_refl _,h2,rfl⟩ ?_
   rintro j hj
   have k1:=hj.1
   have k2:=hj.2.1
   have k3:=hj.2.2
   repeat' (first|(with_reducible first|refine ay ?_|refine al (al ?_)|refine aJ ?_|refine aB ?_|refine aw ?_|refine aY ?_)|simp only [WL,aD,WM,reduceCtorEq,ba,Nat.reduceAdd,Bool.not_true,Bool.not_false,true_and,reduceIte,Bool.false_eq_true,jS,T3,bX,fw,Tryz.results105]|simp (disch:=first|omega|(simp only [aT];omega)) only [aq,aV]|(with_reducible first|refine aC (hb:=?_)|refine aA (hK:=?_)|refine az (hK:=?_)|refine aG (hK:=?_)|refine cD (Blank ?_))|((with_reducible refine aU ?_);apply oi (hf:=Tryz.results105);exact aZ)|((with_reducible first|refine ai (fun h=>?_) (fun h=>?_)|refine ab (fun h=>?_) (fun h=>?_))<;>(try simp only [h])<;>(try simp only [bg,bm] at h))|omega)
   all_goals try exact ⟨j+1,aL bz (ResW.refl _) id,⟨by omega,by omega,k3.trans (w5 (by omega) (by assumption))⟩,by omega⟩
   all_goals
    have hd:(l.drop i).dropWhile blankI=l.drop j:=by
     first
      | exact k3.trans (rY (by omega) (by assumption))
      | (rw [k3,List.drop_eq_nil_of_le (show l.length≤j by omega)];rfl)
    have hh:=xA hpos h62 h3 h2 k1 k2 hd
    first
     | (rw [if_pos (by omega)] at hh;exact ak (ae (ae ah)) (aj (by rw [hh])) hK)
     | (rw [if_neg (by omega)] at hh;exact ak (ae (ae ah)) (aj (by rw [hh])) hK)
end Go.Proofs.YthkabaiamcjdbaaGreat
