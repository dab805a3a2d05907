/-
  Texts Bk, one behind the other.
-/
import Derived.Test.YthkabaiamcjdbaaGreatG21
set_option linter.unusedVariables false
set_option linter.unusedSimpArgs false
set_option maxHeartbeats 16000000
/-
 Walks: chapter 10,what stands behind a head.
-/







namespace Go.Proofs.YthkabaiamcjdbaaGreat
open Go.Abs
variable {κ:Ctx} {σ:List Res} {K:Ret→List Res→Prop} {o o':Option (Option (Nat × Nat))}
abbrev HDA (h:HD):AV:=.agg [B h.1,I h.2.1,I h.2.2]
theorem bHead {l:List Int} (hl:l.length≤1000000000) (hK:K (.ret (.tup [HDA (headI l).1,I (headI l).2.1,I (headI l).2.2])) σ):ACallF κ Tryz.prog 105 [SI o l] σ K:=by
 refine ACallF.dropL (ACallF_introA Tryz.func105 rfl ?_)
 simp only [Tryz.ntmps105]
 repeat' (first|(with_reducible first|refine AW_scope ?_|refine cut_blk (id:=0) ?_|refine AW_seqA (AW_seqA ?_)|refine AW_seq ?_|refine AW_runReg ?_|refine AW_runCond ?_)|simp only [WL,intF,WM,Int.reduceToNat,reduceCtorEq,WLb,Nat.reduceAdd,Nat.reduceSub,Bool.not_true,Bool.not_false,true_and,reduceIte,Bool.false_eq_true,scope_ret,T3,T22,Tryz.results105]|simp (disch:=first|omega|(simp only [LN_];omega)) only [getI]|(with_reducible first|refine andA (hb:=?_)|refine y_storeA (hK:=?_)|refine y_new (hK:=fun b=>?_)|refine y_build (hK:=?_))|((with_reducible refine resL_id ?_);apply res_ctt (hf:=Tryz.results105);exact y_load2)|((with_reducible first|refine grd_cases (fun h=>?_) (fun h=>?_)|refine condC_split (fun h=>?_) (fun h=>?_))<;>(try simp only [h])<;>(try simp only [NR_,NRb] at h)))
 all_goals try exact leafL (sub_cons (sub_cons sub_rfl)) (leT_eq (by rw [headI_none (by omega)])) hK
 all_goals try exact leafL (sub_cons sub_rfl) (leT_eq (by rw [headI_none (by omega)])) hK
 ·rename_i b0 _ _
  have h62:l.getD 0 0=124∨l.getD 0 0=62:=by omega
  have hpos:0 < l.length:=by omega
  refine midA (fun x:Nat × Int × Int=>⟨(SI o l::.any::.raw (.pointer (some ⟨b0,0,none⟩))::.any::.any::.raw (.pointer (some ⟨b,0,none⟩))::I x.1::.any::.any::.any::.any::.any::.any::.any::.any::.any::.any::.any::.any::.any::.any::.any::.any::.any::.any::.any::.any::.any::.any::.any::.any::.any::.any::.any::.any::.any::.any::.any::.any::.any::.any::.any::.any::.any::.any::.any::.any::.any::.any::.any::.any::.any::.any::.any::.any::.any::.any::.any::.any::.any::.any::.any::.any::.any::.any::.any::.any::.any::.any::.any::.any::.any::.any::.any::.any::.any::.any::.any::.any::.any::.any::.any::.any::.any::.any::.any::.any::.any::.any::.any::.any::.any::.any::.any::.any::.any::.any::.any::.any::.any::.any::.any::.any::.any::.any::.any::.any::[]),.obj b [B (l.getD 0 0 == 62),I x.2.1,I x.2.2]::.obj b0 [B false,I 0,I 0]::σ,true,[]⟩)
   (fun x=>1≤x.1∧x.1≤l.length∧signsGo 0 0 (l.drop 1)=(x.2.1,x.2.2,l.drop x.1)) ?_ ?_
  ·skip
   repeat' (first|(with_reducible first|refine AW_block ?_|refine cut_loop ?_))
   refine loopA (fun x:Nat × Int × Int=>⟨(SI o l::.any::.raw (.pointer (some ⟨b0,0,none⟩))::.any::.any::.raw (.pointer (some ⟨b,0,none⟩))::I x.1::.any::.any::.any::.any::.any::.any::.any::.any::.any::.any::.any::.any::.any::.any::.any::.any::.any::.any::.any::.any::.any::.any::.any::.any::.any::.any::.any::.any::.any::.any::.any::.any::.any::.any::.any::.any::.any::.any::.any::.any::.any::.any::.any::.any::.any::.any::.any::.any::.any::.any::.any::.any::.any::.any::.any::.any::.any::.any::.any::.any::.any::.any::.any::.any::.any::.any::.any::.any::.any::.any::.any::.any::.any::.any::.any::.any::.any::.any::.any::.any::.any::.any::.any::.any::.any::.any::.any::.any::.any::.any::.any::.any::.any::.any::.any::.any::.any::.any::.any::.any::[]),.obj b [B (l.getD 0 0 == 62),I x.2.1,I x.2.2]::.obj b0 [B false,I 0,I 0]::σ,true,[]⟩)
    (fun x=>1≤x.1∧x.1≤l.length∧signsGo 0 0 (l.drop 1)=signsGo x.2.1 x.2.2 (l.drop x.1)) (fun x=>l.length - x.1) (1,0,0) (St_leW leA (ResW.refl _) id) ⟨Nat.le_refl _,hpos,rfl⟩ ?_
   rintro ⟨i,ch,ind⟩ hx
   dsimp only at hx ⊢
   have h1:=hx.1
   have h2:=hx.2.1
   have h3:=hx.2.2
   repeat' (first|(with_reducible first|refine AW_seqA (AW_block ?_)|refine AW_block ?_|refine AW_seqA (AW_seqA ?_)|refine AW_seq ?_|refine AW_runReg ?_|refine AW_runCond ?_)|simp only [WL,intF,WM,reduceCtorEq,WLb,Nat.reduceAdd,Nat.reduceEqDiff,Bool.not_true,true_and,reduceIte,Bool.false_eq_true,T3,T22,fR fl165_1,fR fl165_2]|simp (disch:=first|omega|(simp only [LN_];omega)) only [wrap_id,getI]|(with_reducible first|refine andA (hb:=?_)|refine y_load (hK:=?_)|refine y_store (hK:=?_))|((with_reducible first|refine grd_cases (fun h=>?_) (fun h=>?_)|refine condC_split (fun h=>?_) (fun h=>?_))<;>(try simp only [h])<;>(try simp only [NR_,NRb] at h))|omega)
   all_goals first
    | exact ⟨(i+1,ch,l.getD i 0 - 48),St_leW leA (ResW.refl _) id,⟨by dsimp only;omega,by dsimp only;omega,h3.trans (signs_num (by omega) (by omega) (by omega) (by omega))⟩,by dsimp only;omega⟩
    | exact ⟨(i+1,1,ind),St_leW leA (ResW.refl _) id,⟨by dsimp only;omega,by dsimp only;omega,h3.trans (signs_min (by omega) (by omega) (by omega))⟩,by dsimp only;omega⟩
    | exact ⟨(i+1,2,ind),St_leW leA (ResW.refl _) id,⟨by dsimp only;omega,by dsimp only;omega,h3.trans (signs_plus (by omega) (by omega) (by omega))⟩,by dsimp only;omega⟩
    | exact ⟨(i,ch,ind),St_leW leA (ResW.refl _) id,by dsimp only;omega,by dsimp only;omega,h3.trans (signs_end (by omega))⟩
    | exact ⟨(i,ch,ind),St_leW leA (ResW.refl _) id,by dsimp only;omega,by dsimp only;omega,h3.trans (signs_stop (by omega) (by omega) (by omega) (by omega))⟩
  ·rintro ⟨i,ch,ind⟩ hx
   dsimp only at hx ⊢
   have h1:=hx.1
   have h2:=hx.2.1
   have h3:=hx.2.2
   repeat' (first|(with_reducible first|refine AW_seqA (AW_block ?_)|refine cut_loop ?_|refine AW_seq ?_)|simp only [WL,WM])
   refine loopA (fun j:Nat=>⟨(SI o l::.any::.raw (.pointer (some ⟨b0,0,none⟩))::.any::.any::.raw (.pointer (some ⟨b,0,none⟩))::I j::.any::I i::.any::.any::.any::.any::.any::.any::.any::.any::.any::.any::.any::.any::.any::.any::.any::.any::.any::.any::.any::.any::.any::.any::.any::.any::.any::.any::.any::.any::.any::.any::.any::.any::.any::.any::.any::.any::.any::.any::.any::.any::.any::.any::.any::.any::.any::.any::.any::.any::.any::.any::.any::.any::.any::.any::.any::.any::.any::.any::.any::.any::.any::.any::.any::.any::.any::.any::.any::.any::.any::.any::.any::.any::.any::.any::.any::.any::.any::.any::.any::.any::.any::.any::.any::.any::.any::.any::.any::.any::.any::.any::.any::.any::.any::.any::.any::.any::.any::.any::[]),.obj b [B (l.getD 0 0 == 62),I ch,I ind]::.obj b0 [B false,I 0,I 0]::σ,true,[]⟩)
    (fun j=>i≤j∧j≤l.length∧(l.drop i).dropWhile blankI=(l.drop j).dropWhile blankI) (fun j=>l.length - j) i (St_leW leA (ResW.refl _) id) ⟨Nat.le_refl _,h2,rfl⟩ ?_
   rintro j hj
   have k1:=hj.1
   have k2:=hj.2.1
   have k3:=hj.2.2
   repeat' (first|(with_reducible first|refine AW_block ?_|refine AW_seqA (AW_seqA ?_)|refine AW_seq ?_|refine AW_runReg ?_|refine AW_runCond ?_|refine AW_runRet ?_)|simp only [WL,intF,WM,reduceCtorEq,WLb,Nat.reduceAdd,Bool.not_true,Bool.not_false,true_and,reduceIte,Bool.false_eq_true,scope_ret,T3,T22,cok72,Tryz.results105]|simp (disch:=first|omega|(simp only [LN_];omega)) only [wrap_id,getI]|(with_reducible first|refine andA (hb:=?_)|refine y_loadA (hK:=?_)|refine y_storeA (hK:=?_)|refine y_build (hK:=?_)|refine cD (Blank ?_))|((with_reducible refine resL_id ?_);apply res_ctt (hf:=Tryz.results105);exact y_load2)|((with_reducible first|refine grd_cases (fun h=>?_) (fun h=>?_)|refine condC_split (fun h=>?_) (fun h=>?_))<;>(try simp only [h])<;>(try simp only [NR_,NRb] at h))|omega)
   all_goals try exact ⟨j+1,St_leW leA (ResW.refl _) id,⟨by omega,by omega,k3.trans (blank_at (by omega) (by assumption))⟩,by omega⟩
   all_goals
    have hd:(l.drop i).dropWhile blankI=l.drop j:=by
     first
      | exact k3.trans (blank_stop (by omega) (by assumption))
      | (rw [k3,List.drop_eq_nil_of_le (show l.length≤j by omega)];rfl)
    have hh:=headI_at hpos h62 h3 h2 k1 k2 hd
    first
     | (rw [if_pos (by omega)] at hh;exact leafL (sub_cons (sub_cons sub_rfl)) (leT_eq (by rw [hh])) hK)
     | (rw [if_neg (by omega)] at hh;exact leafL (sub_cons (sub_cons sub_rfl)) (leT_eq (by rw [hh])) hK)
 ·rename_i b0 _
  have h62:l.getD 0 0=124∨l.getD 0 0=62:=by omega
  have hpos:0 < l.length:=by omega
  refine midA (fun x:Nat × Int × Int=>⟨(SI o l::.any::.raw (.pointer (some ⟨b0,0,none⟩))::.any::.any::.raw (.pointer (some ⟨b,0,none⟩))::I x.1::.any::.any::.any::.any::.any::.any::.any::.any::.any::.any::.any::.any::.any::.any::.any::.any::.any::.any::.any::.any::.any::.any::.any::.any::.any::.any::.any::.any::.any::.any::.any::.any::.any::.any::.any::.any::.any::.any::.any::.any::.any::.any::.any::.any::.any::.any::.any::.any::.any::.any::.any::.any::.any::.any::.any::.any::.any::.any::.any::.any::.any::.any::.any::.any::.any::.any::.any::.any::.any::.any::.any::.any::.any::.any::.any::.any::.any::.any::.any::.any::.any::.any::.any::.any::.any::.any::.any::.any::.any::.any::.any::.any::.any::.any::.any::.any::.any::.any::.any::.any::[]),.obj b [B (l.getD 0 0 == 62),I x.2.1,I x.2.2]::.obj b0 [B false,I 0,I 0]::σ,true,[]⟩)
   (fun x=>1≤x.1∧x.1≤l.length∧signsGo 0 0 (l.drop 1)=(x.2.1,x.2.2,l.drop x.1)) ?_ ?_
  ·skip
   repeat' (first|(with_reducible first|refine AW_block ?_|refine cut_loop ?_))
   refine loopA (fun x:Nat × Int × Int=>⟨(SI o l::.any::.raw (.pointer (some ⟨b0,0,none⟩))::.any::.any::.raw (.pointer (some ⟨b,0,none⟩))::I x.1::.any::.any::.any::.any::.any::.any::.any::.any::.any::.any::.any::.any::.any::.any::.any::.any::.any::.any::.any::.any::.any::.any::.any::.any::.any::.any::.any::.any::.any::.any::.any::.any::.any::.any::.any::.any::.any::.any::.any::.any::.any::.any::.any::.any::.any::.any::.any::.any::.any::.any::.any::.any::.any::.any::.any::.any::.any::.any::.any::.any::.any::.any::.any::.any::.any::.any::.any::.any::.any::.any::.any::.any::.any::.any::.any::.any::.any::.any::.any::.any::.any::.any::.any::.any::.any::.any::.any::.any::.any::.any::.any::.any::.any::.any::.any::.any::.any::.any::.any::.any::[]),.obj b [B (l.getD 0 0 == 62),I x.2.1,I x.2.2]::.obj b0 [B false,I 0,I 0]::σ,true,[]⟩)
    (fun x=>1≤x.1∧x.1≤l.length∧signsGo 0 0 (l.drop 1)=signsGo x.2.1 x.2.2 (l.drop x.1)) (fun x=>l.length - x.1) (1,0,0) (St_leW leA (ResW.refl _) id) ⟨Nat.le_refl _,hpos,rfl⟩ ?_
   rintro ⟨i,ch,ind⟩ hx
   dsimp only at hx ⊢
   have h1:=hx.1
   have h2:=hx.2.1
   have h3:=hx.2.2
   repeat' (first|(with_reducible first|refine AW_seqA (AW_block ?_)|refine AW_block ?_|refine AW_seqA (AW_seqA ?_)|refine AW_seq ?_|refine AW_runReg ?_|refine AW_runCond ?_)|simp only [WL,intF,WM,reduceCtorEq,WLb,Nat.reduceAdd,Nat.reduceEqDiff,Bool.not_true,true_and,reduceIte,Bool.false_eq_true,T3,T22,fR fl165_1,fR fl165_2]|simp (disch:=first|omega|(simp only [LN_];omega)) only [wrap_id,getI]|(with_reducible first|refine andA (hb:=?_)|refine y_load (hK:=?_)|refine y_store (hK:=?_))|((with_reducible first|refine grd_cases (fun h=>?_) (fun h=>?_)|refine condC_split (fun h=>?_) (fun h=>?_))<;>(try simp only [h])<;>(try simp only [NR_,NRb] at h))|omega)
   all_goals first
    | exact ⟨(i+1,ch,l.getD i 0 - 48),St_leW leA (ResW.refl _) id,⟨by dsimp only;omega,by dsimp only;omega,h3.trans (signs_num (by omega) (by omega) (by omega) (by omega))⟩,by dsimp only;omega⟩
    | exact ⟨(i+1,1,ind),St_leW leA (ResW.refl _) id,⟨by dsimp only;omega,by dsimp only;omega,h3.trans (signs_min (by omega) (by omega) (by omega))⟩,by dsimp only;omega⟩
    | exact ⟨(i+1,2,ind),St_leW leA (ResW.refl _) id,⟨by dsimp only;omega,by dsimp only;omega,h3.trans (signs_plus (by omega) (by omega) (by omega))⟩,by dsimp only;omega⟩
    | exact ⟨(i,ch,ind),St_leW leA (ResW.refl _) id,by dsimp only;omega,by dsimp only;omega,h3.trans (signs_end (by omega))⟩
    | exact ⟨(i,ch,ind),St_leW leA (ResW.refl _) id,by dsimp only;omega,by dsimp only;omega,h3.trans (signs_stop (by omega) (by omega) (by omega) (by omega))⟩
  ·rintro ⟨i,ch,ind⟩ hx
   dsimp only at hx ⊢
   have h1:=hx.1
   have h2:=hx.2.1
   have h3:=hx.2.2
   repeat' (first|(with_reducible first|refine AW_seqA (AW_block ?_)|refine cut_loop ?_|refine AW_seq ?_)|simp only [WL,WM])
   refine loopA (fun j:Nat=>⟨(SI o l::.any::.raw (.pointer (some ⟨b0,0,none⟩))::.any::.any::.raw (.pointer (some ⟨b,0,none⟩))::I j::.any::I i::.any::.any::.any::.any::.any::.any::.any::.any::.any::.any::.any::.any::.any::.any::.any::.any::.any::.any::.any::.any::.any::.any::.any::.any::.any::.any::.any::.any::.any::.any::.any::.any::.any::.any::.any::.any::.any::.any::.any::.any::.any::.any::.any::.any::.any::.any::.any::.any::.any::.any::.any::.any::.any::.any::.any::.any::.any::.any::.any::.any::.any::.any::.any::.any::.any::.any::.any::.any::.any::.any::.any::.any::.any::.any::.any::.any::.any::.any::.any::.any::.any::.any::.any::.any::.any::.any::.any::.any::.any::.any::.any::.any::.any::.any::.any::.any::.any::.any::[]),.obj b [B (l.getD 0 0 == 62),I ch,I ind]::.obj b0 [B false,I 0,I 0]::σ,true,[]⟩)
    (fun j=>i≤j∧j≤l.length∧(l.drop i).dropWhile blankI=(l.drop j).dropWhile blankI) (fun j=>l.length - j) i (St_leW leA (ResW.refl _) id) ⟨Nat.le_refl _,h2,rfl⟩ ?_
   rintro j hj
   have k1:=hj.1
   have k2:=hj.2.1
   have k3:=hj.2.2
   repeat' (first|(with_reducible first|refine AW_block ?_|refine AW_seqA (AW_seqA ?_)|refine AW_seq ?_|refine AW_runReg ?_|refine AW_runCond ?_|refine AW_runRet ?_)|simp only [WL,intF,WM,reduceCtorEq,WLb,Nat.reduceAdd,Bool.not_true,Bool.not_false,true_and,reduceIte,Bool.false_eq_true,scope_ret,T3,T22,cok72,Tryz.results105]|simp (disch:=first|omega|(simp only [LN_];omega)) only [wrap_id,getI]|(with_reducible first|refine andA (hb:=?_)|refine y_loadA (hK:=?_)|refine y_storeA (hK:=?_)|refine y_build (hK:=?_)|refine cD (Blank ?_))|((with_reducible refine resL_id ?_);apply res_ctt (hf:=Tryz.results105);exact y_load2)|((with_reducible first|refine grd_cases (fun h=>?_) (fun h=>?_)|refine condC_split (fun h=>?_) (fun h=>?_))<;>(try simp only [h])<;>(try simp only [NR_,NRb] at h))|omega)
   all_goals try exact ⟨j+1,St_leW leA (ResW.refl _) id,⟨by omega,by omega,k3.trans (blank_at (by omega) (by assumption))⟩,by omega⟩
   all_goals
    have hd:(l.drop i).dropWhile blankI=l.drop j:=by
     first
      | exact k3.trans (blank_stop (by omega) (by assumption))
      | (rw [k3,List.drop_eq_nil_of_le (show l.length≤j by omega)];rfl)
    have hh:=headI_at hpos h62 h3 h2 k1 k2 hd
    first
     | (rw [if_pos (by omega)] at hh;exact leafL (sub_cons (sub_cons sub_rfl)) (leT_eq (by rw [hh])) hK)
     | (rw [if_neg (by omega)] at hh;exact leafL (sub_cons (sub_cons sub_rfl)) (leT_eq (by rw [hh])) hK)
end Go.Proofs.YthkabaiamcjdbaaGreat
