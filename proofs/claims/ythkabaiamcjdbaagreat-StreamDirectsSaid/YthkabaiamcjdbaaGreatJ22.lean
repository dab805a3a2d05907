/-
  Texts Bk, one behind the other.
-/
import Derived.Test.YthkabaiamcjdbaaGreatJ21
set_option linter.unusedVariables false
set_option linter.unusedSimpArgs false
set_option maxHeartbeats 16000000
namespace Go.Proofs.YthkabaiamcjdbaaGreat
open Go.Abs
variable {κ:Ctx} {σ:List Res} {K:Ret→List Res→Prop} {o o':Option (Option (Nat × Nat))}
abbrev ZU (h:HD):AV:=.agg [B h.1,I h.2.1,I h.2.2]
theorem V2 {l:List Int} (hl:l.length≤1000000000) (hK:K (.ret (.tup [ZU (gV l).1,I (gV l).2.1,I (gV l).2.2])) σ):ACallF κ Tryz.prog 105 [SI o l] σ K:=by
 refine ACallF.dropL (aN Tryz.func105 rfl ?_);simp only [Tryz.ntmps105]
 repeat' (first|(with_reducible first|refine Ab ?_|refine yq (id:=0) ?_|refine al (al ?_)|refine aG ?_|refine aB ?_|refine aw ?_)|simp only [WL,ay,WM,Int.reduceToNat,reduceCtorEq,bg,Nat.reduceAdd,Nat.reduceSub,Bool.not_true,Bool.not_false,true_and,reduceIte,Bool.false_eq_true,kP,T3,cb,Tryz.results105]|simp (disch:=first|omega|(simp only [aU];omega)) only [bL]|(with_reducible first|refine ax (hb:=?_)|refine az (hK:=?_)|refine aV (hK:=fun b=>?_)|refine aI (hK:=?_))|((with_reducible refine aY ?_);apply pb (hf:=Tryz.results105);exact bn)|((with_reducible first|refine ai (fun h=>?_) (fun h=>?_)|refine ab (fun h=>?_) (fun h=>?_))<;>(try simp only [h])<;>(try simp only [bf,ba] at h)))
 all_goals try exact ak (ah (ah ae)) (aj (by rw [tL (by omega)])) hK
 all_goals try exact ak (ah ae) (aj (by rw [tL (by omega)])) hK
 ·rename_i b0 _ _
  have h62:l.getD 0 0=124∨l.getD 0 0=62:=by omega
  have hpos:0 < l.length:=by omega
  refine nW (fun x:Nat × Int × Int=>⟨(SI o l::.any::.raw (.pointer (some ⟨b0,0,none⟩))::.any::.any::.raw (.pointer (some ⟨b,0,none⟩))::I x.1::.any::.any::.any::.any::.any::.any::.any::.any::.any::.any::.any::.any::.any::.any::.any::.any::.any::.any::.any::.any::.any::.any::.any::.any::.any::.any::.any::.any::.any::.any::.any::.any::.any::.any::.any::.any::.any::.any::.any::.any::.any::.any::.any::.any::.any::.any::.any::.any::.any::.any::.any::.any::.any::.any::.any::.any::.any::.any::.any::.any::.any::.any::.any::.any::.any::.any::.any::.any::.any::.any::.any::.any::.any::.any::.any::.any::.any::.any::.any::.any::.any::.any::.any::.any::.any::.any::.any::.any::.any::.any::.any::.any::.any::.any::.any::.any::.any::.any::.any::.any::[]),.obj b [B (l.getD 0 0 == 62),I x.2.1,I x.2.2]::.obj b0 [B false,I 0,I 0]::σ,true,[]⟩)
   (fun x=>1≤x.1∧x.1≤l.length∧ck 0 0 (l.drop 1)=(x.2.1,x.2.2,l.drop x.1)) ?_ ?_
  ·skip
   repeat' (first|(with_reducible first|refine aC ?_|refine bO ?_))
   refine dq (fun x:Nat × Int × Int=>⟨(SI o l::.any::.raw (.pointer (some ⟨b0,0,none⟩))::.any::.any::.raw (.pointer (some ⟨b,0,none⟩))::I x.1::.any::.any::.any::.any::.any::.any::.any::.any::.any::.any::.any::.any::.any::.any::.any::.any::.any::.any::.any::.any::.any::.any::.any::.any::.any::.any::.any::.any::.any::.any::.any::.any::.any::.any::.any::.any::.any::.any::.any::.any::.any::.any::.any::.any::.any::.any::.any::.any::.any::.any::.any::.any::.any::.any::.any::.any::.any::.any::.any::.any::.any::.any::.any::.any::.any::.any::.any::.any::.any::.any::.any::.any::.any::.any::.any::.any::.any::.any::.any::.any::.any::.any::.any::.any::.any::.any::.any::.any::.any::.any::.any::.any::.any::.any::.any::.any::.any::.any::.any::.any::[]),.obj b [B (l.getD 0 0 == 62),I x.2.1,I x.2.2]::.obj b0 [B false,I 0,I 0]::σ,true,[]⟩)
    (fun x=>1≤x.1∧x.1≤l.length∧ck 0 0 (l.drop 1)=ck x.2.1 x.2.2 (l.drop x.1)) (fun x=>l.length - x.1) (1,0,0) (aM bH (ResW.refl _) id) ⟨Nat.le_refl _,hpos,rfl⟩ ?_
   rintro ⟨i,ch,ind⟩ hx;dsimp only at hx ⊢;have h1:=hx.1
   have h2:=hx.2.1
   have h3:=hx.2.2
   repeat' (first|(with_reducible first|refine al (aC ?_)|refine aC ?_|refine al (al ?_)|refine aG ?_|refine aB ?_|refine aw ?_)|simp only [WL,ay,WM,reduceCtorEq,bg,Nat.reduceAdd,Nat.reduceEqDiff,Bool.not_true,true_and,reduceIte,Bool.false_eq_true,T3,cb,fR se,fR yT]|simp (disch:=first|omega|(simp only [aU];omega)) only [an,bL]|(with_reducible first|refine ax (hb:=?_)|refine au (hK:=?_)|refine aP (hK:=?_))|((with_reducible first|refine ai (fun h=>?_) (fun h=>?_)|refine ab (fun h=>?_) (fun h=>?_))<;>(try simp only [h])<;>(try simp only [bf,ba] at h))|omega)
   all_goals first
    | exact ⟨(i+1,ch,l.getD i 0 - 48),aM bH (ResW.refl _) id,⟨by dsimp only;omega,by dsimp only;omega,h3.trans (vW (by omega) (by omega) (by omega) (by omega))⟩,by dsimp only;omega⟩
    | exact ⟨(i+1,1,ind),aM bH (ResW.refl _) id,⟨by dsimp only;omega,by dsimp only;omega,h3.trans (vN (by omega) (by omega) (by omega))⟩,by dsimp only;omega⟩
    | exact ⟨(i+1,2,ind),aM bH (ResW.refl _) id,⟨by dsimp only;omega,by dsimp only;omega,h3.trans (ui (by omega) (by omega) (by omega))⟩,by dsimp only;omega⟩
    | exact ⟨(i,ch,ind),aM bH (ResW.refl _) id,by dsimp only;omega,by dsimp only;omega,h3.trans (vJ (by omega))⟩
    | exact ⟨(i,ch,ind),aM bH (ResW.refl _) id,by dsimp only;omega,by dsimp only;omega,h3.trans (tz (by omega) (by omega) (by omega) (by omega))⟩
  ·rintro ⟨i,ch,ind⟩ hx
   dsimp only at hx ⊢;have h1:=hx.1
   have h2:=hx.2.1
   have h3:=hx.2.2
   repeat' (first|(with_reducible first|refine al (aC ?_)|refine bO ?_|refine aG ?_)|simp only [WL,WM])
   refine dq (fun j:Nat=>⟨(SI o l::.any::.raw (.pointer (some ⟨b0,0,none⟩))::.any::.any::.raw (.pointer (some ⟨b,0,none⟩))::I j::.any::I i::.any::.any::.any::.any::.any::.any::.any::.any::.any::.any::.any::.any::.any::.any::.any::.any::.any::.any::.any::.any::.any::.any::.any::.any::.any::.any::.any::.any::.any::.any::.any::.any::.any::.any::.any::.any::.any::.any::.any::.any::.any::.any::.any::.any::.any::.any::.any::.any::.any::.any::.any::.any::.any::.any::.any::.any::.any::.any::.any::.any::.any::.any::.any::.any::.any::.any::.any::.any::.any::.any::.any::.any::.any::.any::.any::.any::.any::.any::.any::.any::.any::.any::.any::.any::.any::.any::.any::.any::.any::.any::.any::.any::.any::.any::.any::.any::.any::.any::[]),.obj b [B (l.getD 0 0 == 62),I ch,I ind]::.obj b0 [B false,I 0,I 0]::σ,true,[]⟩)
    (fun j=>i≤j∧j≤l.length∧(l.drop i).dropWhile blankI=(l.drop j).dropWhile blankI) (fun j=>l.length - j) i (aM bH (ResW.refl _) id) ⟨Nat.le_refl _,h2,rfl⟩ ?_
   rintro j hj;have k1:=hj.1
   have k2:=hj.2.1
   have k3:=hj.2.2
   repeat' (first|(with_reducible first|refine aC ?_|refine al (al ?_)|refine aG ?_|refine aB ?_|refine aw ?_|refine aO ?_)|simp only [WL,ay,WM,reduceCtorEq,bg,Nat.reduceAdd,Bool.not_true,Bool.not_false,true_and,reduceIte,Bool.false_eq_true,kP,T3,cb,fM,Tryz.results105]|simp (disch:=first|omega|(simp only [aU];omega)) only [an,bL]|(with_reducible first|refine ax (hb:=?_)|refine aA (hK:=?_)|refine az (hK:=?_)|refine aI (hK:=?_)|refine cD (Blank ?_))|((with_reducible refine aY ?_);apply pb (hf:=Tryz.results105);exact bn)|((with_reducible first|refine ai (fun h=>?_) (fun h=>?_)|refine ab (fun h=>?_) (fun h=>?_))<;>(try simp only [h])<;>(try simp only [bf,ba] at h))|omega)
   all_goals try exact ⟨j+1,aM bH (ResW.refl _) id,⟨by omega,by omega,k3.trans (BI (by omega) (by assumption))⟩,by omega⟩
   all_goals
    have hd:(l.drop i).dropWhile blankI=l.drop j:=by
     first
      | exact k3.trans (sT (by omega) (by assumption))
      | (rw [k3,List.drop_eq_nil_of_le (show l.length≤j by omega)];rfl)
    have hh:=Bi hpos h62 h3 h2 k1 k2 hd
    first
     | (rw [if_pos (by omega)] at hh;exact ak (ah (ah ae)) (aj (by rw [hh])) hK)
     | (rw [if_neg (by omega)] at hh;exact ak (ah (ah ae)) (aj (by rw [hh])) hK)
 ·rename_i b0 _
  have h62:l.getD 0 0=124∨l.getD 0 0=62:=by omega
  have hpos:0 < l.length:=by omega
  refine nW (fun x:Nat × Int × Int=>⟨(SI o l::.any::.raw (.pointer (some ⟨b0,0,none⟩))::.any::.any::.raw (.pointer (some ⟨b,0,none⟩))::I x.1::.any::.any::.any::.any::.any::.any::.any::.any::.any::.any::.any::.any::.any::.any::.any::.any::.any::.any::.any::.any::.any::.any::.any::.any::.any::.any::.any::.any::.any::.any::.any::.any::.any::.any::.any::.any::.any::.any::.any::.any::.any::.any::.any::.any::.any::.any::.any::.any::.any::.any::.any::.any::.any::.any::.any::.any::.any::.any::.any::.any::.any::.any::.any::.any::.any::.any::.any::.any::.any::.any::.any::.any::.any::.any::.any::.any::.any::.any::.any::.any::.any::.any::.any::.any::.any::.any::.any::.any::.any::.any::.any::.any::.any::.any::.any::.any::.any::.any::.any::.any::[]),.obj b [B (l.getD 0 0 == 62),I x.2.1,I x.2.2]::.obj b0 [B false,I 0,I 0]::σ,true,[]⟩)
   (fun x=>1≤x.1∧x.1≤l.length∧ck 0 0 (l.drop 1)=(x.2.1,x.2.2,l.drop x.1)) ?_ ?_
  ·skip
   repeat' (first|(with_reducible first|refine aC ?_|refine bO ?_))
   refine dq (fun x:Nat × Int × Int=>⟨(SI o l::.any::.raw (.pointer (some ⟨b0,0,none⟩))::.any::.any::.raw (.pointer (some ⟨b,0,none⟩))::I x.1::.any::.any::.any::.any::.any::.any::.any::.any::.any::.any::.any::.any::.any::.any::.any::.any::.any::.any::.any::.any::.any::.any::.any::.any::.any::.any::.any::.any::.any::.any::.any::.any::.any::.any::.any::.any::.any::.any::.any::.any::.any::.any::.any::.any::.any::.any::.any::.any::.any::.any::.any::.any::.any::.any::.any::.any::.any::.any::.any::.any::.any::.any::.any::.any::.any::.any::.any::.any::.any::.any::.any::.any::.any::.any::.any::.any::.any::.any::.any::.any::.any::.any::.any::.any::.any::.any::.any::.any::.any::.any::.any::.any::.any::.any::.any::.any::.any::.any::.any::.any::[]),.obj b [B (l.getD 0 0 == 62),I x.2.1,I x.2.2]::.obj b0 [B false,I 0,I 0]::σ,true,[]⟩)
    (fun x=>1≤x.1∧x.1≤l.length∧ck 0 0 (l.drop 1)=ck x.2.1 x.2.2 (l.drop x.1)) (fun x=>l.length - x.1) (1,0,0) (aM bH (ResW.refl _) id) ⟨Nat.le_refl _,hpos,rfl⟩ ?_
   rintro ⟨i,ch,ind⟩ hx;dsimp only at hx ⊢;have h1:=hx.1
   have h2:=hx.2.1
   have h3:=hx.2.2
   repeat' (first|(with_reducible first|refine al (aC ?_)|refine aC ?_|refine al (al ?_)|refine aG ?_|refine aB ?_|refine aw ?_)|simp only [WL,ay,WM,reduceCtorEq,bg,Nat.reduceAdd,Nat.reduceEqDiff,Bool.not_true,true_and,reduceIte,Bool.false_eq_true,T3,cb,fR se,fR yT]|simp (disch:=first|omega|(simp only [aU];omega)) only [an,bL]|(with_reducible first|refine ax (hb:=?_)|refine au (hK:=?_)|refine aP (hK:=?_))|((with_reducible first|refine ai (fun h=>?_) (fun h=>?_)|refine ab (fun h=>?_) (fun h=>?_))<;>(try simp only [h])<;>(try simp only [bf,ba] at h))|omega)
   all_goals first
    | exact ⟨(i+1,ch,l.getD i 0 - 48),aM bH (ResW.refl _) id,⟨by dsimp only;omega,by dsimp only;omega,h3.trans (vW (by omega) (by omega) (by omega) (by omega))⟩,by dsimp only;omega⟩
    | exact ⟨(i+1,1,ind),aM bH (ResW.refl _) id,⟨by dsimp only;omega,by dsimp only;omega,h3.trans (vN (by omega) (by omega) (by omega))⟩,by dsimp only;omega⟩
    | exact ⟨(i+1,2,ind),aM bH (ResW.refl _) id,⟨by dsimp only;omega,by dsimp only;omega,h3.trans (ui (by omega) (by omega) (by omega))⟩,by dsimp only;omega⟩
    | exact ⟨(i,ch,ind),aM bH (ResW.refl _) id,by dsimp only;omega,by dsimp only;omega,h3.trans (vJ (by omega))⟩
    | exact ⟨(i,ch,ind),aM bH (ResW.refl _) id,by dsimp only;omega,by dsimp only;omega,h3.trans (tz (by omega) (by omega) (by omega) (by omega))⟩
  ·rintro ⟨i,ch,ind⟩ hx
   dsimp only at hx ⊢;have h1:=hx.1
   have h2:=hx.2.1
   have h3:=hx.2.2
   repeat' (first|(with_reducible first|refine al (aC ?_)|refine bO ?_|refine aG ?_)|simp only [WL,WM])
   refine dq (fun j:Nat=>⟨(SI o l::.any::.raw (.pointer (some ⟨b0,0,none⟩))::.any::.any::.raw (.pointer (some ⟨b,0,none⟩))::I j::.any::I i::.any::.any::.any::.any::.any::.any::.any::.any::.any::.any::.any::.any::.any::.any::.any::.any::.any::.any::.any::.any::.any::.any::.any::.any::.any::.any::.any::.any::.any::.any::.any::.any::.any::.any::.any::.any::.any::.any::.any::.any::.any::.any::.any::.any::.any::.any::.any::.any::.any::.any::.any::.any::.any::.any::.any::.any::.any::.any::.any::.any::.any::.any::.any::.any::.any::.any::.any::.any::.any::.any::.any::.any::.any::.any::.any::.any::.any::.any::.any::.any::.any::.any::.any::.any::.any::.any::.any::.any::.any::.any::.any::.any::.any::.any::.any::.any::.any::.any::[]),.obj b [B (l.getD 0 0 == 62),I ch,I ind]::.obj b0 [B false,I 0,I 0]::σ,true,[]⟩)
    (fun j=>i≤j∧j≤l.length∧(l.drop i).dropWhile blankI=(l.drop j).dropWhile blankI) (fun j=>l.length - j) i (aM bH (ResW.refl _) id) ⟨Nat.le_refl _,h2,rfl⟩ ?_
   rintro j hj;have k1:=hj.1
   have k2:=hj.2.1
   have k3:=hj.2.2
   repeat' (first|(with_reducible first|refine aC ?_|refine al (al ?_)|refine aG ?_|refine aB ?_|refine aw ?_|refine aO ?_)|simp only [WL,ay,WM,reduceCtorEq,bg,Nat.reduceAdd,Bool.not_true,Bool.not_false,true_and,reduceIte,Bool.false_eq_true,kP,T3,cb,fM,Tryz.results105]|simp (disch:=first|omega|(simp only [aU];omega)) only [an,bL]|(with_reducible first|refine ax (hb:=?_)|refine aA (hK:=?_)|refine az (hK:=?_)|refine aI (hK:=?_)|refine cD (Blank ?_))|((with_reducible refine aY ?_);apply pb (hf:=Tryz.results105);exact bn)|((with_reducible first|refine ai (fun h=>?_) (fun h=>?_)|refine ab (fun h=>?_) (fun h=>?_))<;>(try simp only [h])<;>(try simp only [bf,ba] at h))|omega)
   all_goals try exact ⟨j+1,aM bH (ResW.refl _) id,⟨by omega,by omega,k3.trans (BI (by omega) (by assumption))⟩,by omega⟩
   all_goals
    have hd:(l.drop i).dropWhile blankI=l.drop j:=by
     first
      | exact k3.trans (sT (by omega) (by assumption))
      | (rw [k3,List.drop_eq_nil_of_le (show l.length≤j by omega)];rfl)
    have hh:=Bi hpos h62 h3 h2 k1 k2 hd
    first
     | (rw [if_pos (by omega)] at hh;exact ak (ah (ah ae)) (aj (by rw [hh])) hK)
     | (rw [if_neg (by omega)] at hh;exact ak (ah (ah ae)) (aj (by rw [hh])) hK)
end Go.Proofs.YthkabaiamcjdbaaGreat
