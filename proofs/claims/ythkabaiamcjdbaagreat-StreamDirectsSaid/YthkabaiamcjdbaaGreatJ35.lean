/-
  Texts Vo, Ve, Vf, Vp, MQ, Vq, Nb, Nc, Nd, Iu, Iv, Iw, Kb, Kc, Ne, Nf, Ng, Se, Nj, Nk, Vg, Vh, Vr, Vs, one behind the other.
-/
import Derived.Test.YthkabaiamcjdbaaGreatJ33
set_option linter.unusedVariables false
set_option maxRecDepth 4000
set_option linter.unusedSimpArgs false
set_option maxHeartbeats 16000000
namespace Go.Proofs.YthkabaiamcjdbaaGreat
open Go.Abs
variable {κ:Ctx} {σ:List Res} {K:Ret→List Res→Prop} {o o':Option (Option (Nat × Nat))}
structure DiS where
 f:Nat
 j:Int
 m:MapL
 v:Int
 s:Bool
 ρ:List Res
theorem X5    {pr sb : Nat} {ls : List Ln} {i : Int} {y : AV} {ρ : List Res} (hs : Small ls) (hi : 0 ≤ i ∧ i < ls.length) (hR : ScR sb [] ρ)
    (h1:∀ m j ρ',iO ls i=.ok (m,j)→ScR sb m ρ'→K (.ret (I 0)) (.obj pr (SR ls j y)::(ρ'++σ))) (h2:∀ e,iO ls i=.error e→K (.ret (I e)) σ):ACallF κ Tryz.prog 58 [JP pr,JP sb] (.obj pr (SR ls i y)::(ρ++σ)) K:=by
  have hl:=hs.1
  refine ACallF.dropL (aN Tryz.func58 rfl ?_);simp only [Tryz.ntmps58]
  repeat' (first|(with_reducible first|refine al (aC ?_)|refine bO ?_|refine aG ?_)|simp only [WL,WM,Nat.reduceAdd,Nat.reduceSub]|(with_reducible first|refine aP (hK:=?_)|refine aV (hK:=fun b=>?_)))
  refine dq (fun x:DiS=>⟨(JP pr::JP sb::.any::.any::.any::JP b::B x.s::.any::.any::.any::.any::.any::.any::.any::.any::.any::.any::.any::.any::.any::.any::.any::.any::.any::.any::.any::.any::.any::.any::.any::.any::.any::.any::.any::.any::.any::.any::.any::.any::.any::.any::.any::.any::.any::.any::.any::.any::.any::.any::.any::.any::.any::.any::.any::.any::.any::.any::.any::.any::.any::.any::.any::.any::.any::[]),.obj pr (SR ls x.j y)::.obj b [I x.v]::(x.ρ++σ),true,[]⟩)
    (fun x=>iO ls i=kK ls x.f x.j x.m x.v x.s∧(0≤x.j∧x.j≤ls.length)∧(ls.length:Int) - x.j < x.f∧ScR sb x.m x.ρ∧(0≤x.v∧x.v+x.f≤ls.length+1)∧MOk x.m) (fun x=>x.f) ⟨ls.length+1,i,[],0,false,ρ⟩ (aM bH (ResW.perm (List.Perm.swap _ _ _)) id) ⟨rfl,⟨hi.1,by dsimp only;omega⟩,by dsimp only;omega,hR,⟨by dsimp only;omega,by dsimp only;omega⟩,MOk.nil⟩ ?_
  clear hR hi;rintro ⟨f,j,m,v,s,ρ⟩ ⟨hd,hj,hf,hR,hv,hm⟩;dsimp only at hd hj hf hR hv hm ⊢;obtain ⟨f,rfl⟩:∃ f',f=f'+1:=⟨f - 1,by omega⟩
  rw [kK] at hd;have hx:=fun h:j.toNat < ls.length=>hs.at_ h
  have hg1:=kU (ls:=ls) ls.length (j+1)
  have hBare:=fun (j:Int) (C:List Res) (hj:0≤j∧j≤ls.length) (K:Ret→List Res→Prop) (h:K (.ret (.tup [])) (.obj pr (SR ls (dy ls ls.length j) y)::C))=>Aq (κ:=κ) (σ:=C) (K:=K) hs hj h
  by_cases hlt:j < ls.length
  · have hx:=hx (by omega)
    have hg2:=kR (ls:=ls) ls.length (j+1) (by omega)
    cases hdr:CX (aF ls j)
    · rw [if_neg (by rw [hdr];rintro ⟨-,h⟩;cases h)] at hd
      have hdr2:CX ((ls.getD j.toNat (0,[])).1,(ls.getD j.toNat (0,[])).2)=false:=hdr
      cases s
      · rw [if_neg (by rintro ⟨h,-⟩;cases h)] at hd
        have h3:=h1 m j ρ hd hR
        repeat' (first|(with_reducible first|refine al (al ?_)|refine aG ?_|refine aw ?_|refine aO ?_)|simp only [WL,WM,Nat.reduceAdd,Nat.reduceEqDiff,Bool.not_true,true_and,reduceIte,Bool.false_eq_true,T3,gg,jm,fR dY,fR dX,fN,xq,Tryz.results58,hdr2]|simp (disch:=first|omega|(simp only [aU];omega)) only [dO]|(with_reducible first|refine ax (hb:=?_)|refine au (hK:=?_)|refine cQ (fK ?_ aT) ?_|refine cQ (lu ?_ aT) ?_)|((with_reducible refine aE (id:=2) 16 mixed ?_ ?_);kernel_rfl)|((with_reducible refine aE (id:=8) 19 mixed ?_ ?_);kernel_rfl)|(with_reducible refine bK ?_)|((with_reducible first|refine ai (fun h=>?_) (fun h=>?_)|refine ab (fun h=>?_) (fun h=>?_))<;>(try simp only [h])<;>(try simp only [bf,ba] at h))|omega)
        all_goals first
          | exact absurd trivial (by assumption)
          | (exfalso;omega)
          | exact ak (List.sublist_cons_of_sublist _ (List.Sublist.refl _)) (aj rfl) h3
          | exact ak ⟨_,List.Perm.refl _,List.Sublist.cons_cons _ (List.Sublist.cons _ (List.Sublist.refl _))⟩ (aj rfl) h3
      · by_cases hmk:aZ (aF ls j).1 (aF ls j).2=1
        · rw [if_neg (by rintro ⟨-,h⟩;rcases h with h|h;omega;exact h hmk)] at hd
          have h3:=h1 m j ρ hd hR
          have hmk2:aZ (ls.getD j.toNat (0,[])).1 (ls.getD j.toNat (0,[])).2=1:=hmk
          repeat' (first|(with_reducible first|refine al (al ?_)|refine aG ?_|refine aw ?_|refine aO ?_)|simp only [WL,ay,WM,reduceCtorEq,bg,Nat.reduceAdd,Nat.reduceEqDiff,Bool.not_true,Bool.not_false,true_and,reduceIte,Bool.false_eq_true,T3,gg,jm,fR dY,fR dX,fN,fY,xq,Tryz.results58,hdr2,hmk2]|simp (disch:=first|omega|(simp only [aU];omega)) only [dO]|(with_reducible first|refine ax (hb:=?_)|refine au (hK:=?_)|refine cQ (fK ?_ aT) ?_|refine cQ (cZ ?_ aT) ?_|refine cQ (lu ?_ aT) ?_)|((with_reducible refine aE (id:=2) 16 mixed ?_ ?_);kernel_rfl)|((with_reducible refine aE (id:=8) 19 mixed ?_ ?_);kernel_rfl)|(with_reducible refine bK ?_)|((with_reducible first|refine ai (fun h=>?_) (fun h=>?_)|refine ab (fun h=>?_) (fun h=>?_))<;>(try simp only [h])<;>(try simp only [bf,ba] at h))|omega)
          all_goals first
            | exact absurd trivial (by assumption)
            | (exfalso;omega)
            | exact ak ⟨_,List.Perm.refl _,List.Sublist.cons_cons _ (List.Sublist.cons _ (List.Sublist.refl _))⟩ (aj rfl) h3
        · rw [if_pos ⟨rfl,.inr hmk⟩] at hd
          have h3:=h2 2 hd
          have hmk2:decide (aZ (ls.getD j.toNat (0,[])).1 (ls.getD j.toNat (0,[])).2=1)=false:=decide_eq_false hmk
          have hmk3:¬aZ (ls.getD j.toNat (0,[])).1 (ls.getD j.toNat (0,[])).2=1:=hmk
          repeat' (first|(with_reducible first|refine al (al ?_)|refine aG ?_|refine aw ?_|refine aO ?_)|simp only [WL,ay,WM,reduceCtorEq,bg,Nat.reduceAdd,Nat.reduceEqDiff,Bool.not_true,Bool.not_false,true_and,reduceIte,Bool.false_eq_true,T3,gg,jm,fR dY,fR dX,fN,fY,xq,Tryz.results58,hdr2]|simp (disch:=first|omega|(simp only [aU];omega)) only [dO]|(with_reducible first|refine ax (hb:=?_)|refine au (hK:=?_)|refine cQ (fK ?_ aT) ?_|refine cQ (cZ ?_ aT) ?_|refine cQ (lu ?_ aT) ?_)|((with_reducible refine aE (id:=2) 16 mixed ?_ ?_);kernel_rfl)|((with_reducible refine aE (id:=8) 19 mixed ?_ ?_);kernel_rfl)|(with_reducible refine bK ?_)|((with_reducible first|refine ai (fun h=>?_) (fun h=>?_)|refine ab (fun h=>?_) (fun h=>?_))<;>(try simp only [h])<;>(try simp only [bf,ba] at h))|omega)
          all_goals first
            | exact absurd trivial (by assumption)
            | exact absurd (by assumption) hmk3
            | (exfalso;omega)
            | exact ak ⟨_,List.Perm.refl _,List.Sublist.cons _ (List.Sublist.cons _ (List.sublist_append_right _ _))⟩ (aj rfl) h3
    · rw [if_pos ⟨hlt,hdr⟩] at hd
      have hdr2:CX ((ls.getD j.toNat (0,[])).1,(ls.getD j.toNat (0,[])).2)=true:=hdr
      have hTake:=fun (C:Res) (K:Ret→List Res→Prop) (g1:∀ m' v' ρ',kM (aF ls j).2 m v=some (m',v')→ScR sb m' ρ'→K (.ret (B true)) (C::.obj b [I v']::(ρ'++σ))) (g2:∀ v' ρ',kM (aF ls j).2 m v=none→K (.ret (B false)) (C::.obj b [I v']::(ρ'++σ)))=>ACallF.under1 (κ:=κ) (K:=K) (r:=C) (W7 (κ:=κ) (σ:=σ) (sb:=sb) (vb:=b) (k:=(aF ls j).1) hR hx.1 (by omega) g1 g2)
      dsimp only [aF] at hTake
      repeat' (first|(with_reducible first|refine al (aC ?_)|refine al (al ?_)|refine aG ?_|refine aB ?_|refine aw ?_|refine aO ?_)|simp only [WL,ay,WM,reduceCtorEq,bg,Nat.reduceAdd,Nat.reduceEqDiff,Bool.not_true,Bool.not_false,true_and,reduceIte,Bool.false_eq_true,T3,gg,jm,fR dY,fR dX,fN,B0,fY,xq,Wc,Tryz.results58,hdr2]|simp (disch:=first|omega|(simp only [aU];omega)) only [an,dO]|(with_reducible first|refine ax (hb:=?_)|refine au (hK:=?_)|refine aP (hK:=?_)|refine callD_mk (hTake _ _ (fun m' v' ρ' e1 hr=>?_) (fun v' ρ' e1=>?_))|refine callD_mk (hBare _ _ (by omega) _ ?_)|refine cQ (fK ?_ aT) ?_|refine cQ (cZ ?_ aT) ?_|refine cQ (lu ?_ aT) ?_)|((with_reducible refine aE (id:=2) 16 mixed ?_ ?_);kernel_rfl)|((with_reducible refine dH (id:=4) [0,1,2,3,4,5,6,7,8,9,10] (some 11) [([12],none)] mixed ?_ ?_);kernel_rfl)|((with_reducible apply aW);intro σq hq;have hqi:=cy hq;clear hq)|(with_reducible exact b9)|((with_reducible apply bD);rfl;rfl)|(with_reducible refine bV (me (by first|(simp;done)|fail)) ?_)|((with_reducible refine aE (id:=8) 19 mixed ?_ ?_);kernel_rfl)|(with_reducible refine bK ?_)|((with_reducible first|refine ai (fun h=>?_) (fun h=>?_)|refine ab (fun h=>?_) (fun h=>?_))<;>(try simp only [h])<;>(try simp only [bf,ba] at h))|omega)
      all_goals first
        | exact absurd trivial (by assumption)
        | (exfalso;omega)
        | (have e2:kM (aF ls j).2 m v=none:=e1
           rw [e2] at hd;exact ak ⟨_,List.Perm.refl _,List.Sublist.cons _ (List.Sublist.cons _ (List.sublist_append_right _ _))⟩ (aj rfl) (h2 2 hd))
        | (have e2:kM (aF ls j).2 m v=some (m',v'):=e1
           have e3:=Fq e2 hx.1 hm
           rw [e2] at hd;exact ⟨⟨f,dy ls ls.length (j+1),m',v',true,ρ'⟩,aq bH id,⟨hd,⟨by dsimp only;omega,hg2⟩,by dsimp only;omega,hr,⟨by dsimp only;omega,by dsimp only;omega⟩,e3.1⟩,by dsimp only;omega⟩)
  · rw [if_neg (fun h=>hlt h.1)] at hd
    obtain rfl:j=ls.length:=by omega
    cases s
    · rw [if_neg (by rintro ⟨h,-⟩;cases h)] at hd
      have h3:=h1 m _ ρ hd hR
      repeat' (first|(with_reducible first|refine al (al ?_)|refine aG ?_|refine aw ?_|refine aO ?_)|simp only [WL,WM,Nat.reduceAdd,Nat.reduceEqDiff,Bool.not_true,true_and,reduceIte,Bool.false_eq_true,T3,gg,jm,fR dY,fR dX,fN,xq,Tryz.results58]|(with_reducible first|refine ax (hb:=?_)|refine au (hK:=?_)|refine cQ (fK ?_ aT) ?_)|((with_reducible refine aE (id:=2) 16 mixed ?_ ?_);kernel_rfl)|((with_reducible refine aE (id:=8) 19 mixed ?_ ?_);kernel_rfl)|(with_reducible refine bK ?_)|((with_reducible first|refine ai (fun h=>?_) (fun h=>?_)|refine ab (fun h=>?_) (fun h=>?_))<;>(try simp only [h])<;>(try simp only [bf,ba] at h))|omega)
      all_goals first
        | exact absurd trivial (by assumption)
        | (exfalso;omega)
        | exact ak ⟨_,List.Perm.refl _,List.Sublist.cons_cons _ (List.Sublist.cons _ (List.Sublist.refl _))⟩ (aj rfl) h3
    · rw [if_pos ⟨rfl,.inl rfl⟩] at hd
      have h3:=h2 2 hd
      repeat' (first|(with_reducible first|refine al (al ?_)|refine aw ?_)|simp only [WL,WM,Nat.reduceAdd,Nat.reduceEqDiff,Bool.not_true,Bool.not_false,true_and,reduceIte,Bool.false_eq_true,T3,gg,jm,fR dY,fR dX,fN,fY,xq,Tryz.results58]|(with_reducible first|refine ax (hb:=?_)|refine au (hK:=?_)|refine cQ (fK ?_ aT) ?_)|((with_reducible refine aE (id:=2) 16 mixed ?_ ?_);kernel_rfl)|((with_reducible refine aE (id:=8) 19 mixed ?_ ?_);kernel_rfl)|(with_reducible refine bK ?_)|((with_reducible first|refine ai (fun h=>?_) (fun h=>?_)|refine ab (fun h=>?_) (fun h=>?_))<;>(try simp only [h])<;>(try simp only [bf,ba] at h))|omega)
      all_goals first
        | exact absurd trivial (by assumption)
        | (exfalso;omega)
        | exact ak ⟨_,List.Perm.refl _,List.Sublist.cons _ (List.Sublist.cons _ (List.sublist_append_right _ _))⟩ (aj rfl) h3
inductive Docs (ls:List Ln):Int→List EvV→Nat→Prop where
 | nil {i:Int} {s:Bool} (h:gU ls i=(((ls.length:Nat):Int),s,true)):Docs ls i [] 0
 | cons {i j k:Int} {s m d:Bool} {ev rest:List EvV} {n:Nat} (h:gU ls i=(j,s,true)) (hj:0≤j∧j < ls.length) (hdr:CX (aF ls j)=false) (hm:decide (aZ (aF ls j).1 (aF ls j).2=1)=m) (hd:jz ls j (if m=true then 3 else 0)=.ok (ev,k)) (he:0 < ev.length) (hel:ev.length≤1000000) (ht:∀ q,q < ev.length→(ev.getD q ev0).t=.empty)
  (hdn:decide (k < ls.length∧aZ (aF ls k).1 (aF ls k).2=2)=d) (hcl:d=true→dW ((aF ls k).2.drop 3)=true) (hr:Docs ls (if d=true then k+1 else k) rest n):Docs ls i (gY m d ev++rest) (n+1)
structure StX where
 i:Int
 may:Bool
 l:List EvV
 y:AV
 ρ:List Res
 σ:List Res
 ev:List EvV
 n:Nat
theorem Gd {cs:List AV}{l ev:List EvV}{m d:Bool} (h:cs.take (((l++gY m d ev).map EVA).length * 6)=aD ((l++gY m d ev).map EVA)):cs[(((l++gY m d ev).map EVA).length - 1) * 6+5]? = some (B d):=by
 have e1:(l++gY m d ev).map EVA=(l++zi m::ev).map EVA++[EVA (zh d)]:=by simp [gY]
 have hl:(((l++gY m d ev).map EVA).length - 1) * 6=(aD ((l++zi m::ev).map EVA)).length:=by
  rw [da _ (oD _),e1,List.length_append,List.length_singleton,Nat.add_sub_cancel]
 have h2:=congrArg (fun x:List AV=>x[(((l++gY m d ev).map EVA).length - 1) * 6+5]?) h
 simp only [List.getElem?_take] at h2;have hpos:0 < ((l++gY m d ev).map EVA).length:=by simp [gY];omega
 rw [if_pos (by omega)] at h2;rw [h2,hl,e1];have e2:aD ((l++zi m::ev).map EVA++[EVA (zh d)])=aD ((l++zi m::ev).map EVA)++[I 2,.raw (.string .empty),.raw (.string .empty),.raw (.string .empty),I 0,B d]:=by simp [aD];rfl
 rw [e2,List.getElem?_append_right (by omega),Nat.add_sub_cancel_left];rfl
theorem Bb {y:AV}{L:List AV}{ρ:List Res} (h:RowR 6 y L ρ) (h0:0 < L.length):∃ b c cs,y=bT b 0 L.length c∧ρ=[.obj b cs]∧0 < c∧L.length≤c∧cs.length=c * 6∧cs.take (L.length * 6)=aD L:=by
 cases h with
 | nil=>simp at h0
 | @row b c cs _ h1 h2 h3 h4=>exact ⟨b,c,cs,rfl,rfl,h1,h2,h3,h4⟩
theorem RB {pr:Nat} (hK:∀ b,K (.ret (.raw (.func (.func 45) #[] #[.pointer (some ⟨b,0,none⟩)]))) (.obj b [JP pr]::σ)):ACallF κ Tryz.prog 30 [JP pr] σ K:=by
 refine ACallF.dropL (aa Tryz.func30 rfl ?_);simp only [Tryz.ntmps30]
 repeat' (first|simp only [WL,WM,Nat.reduceAdd,Nat.reduceSub,true_and,Tryz.results30]|with_reducible refine aQ (hK:=fun b=>?_))
 exact ak ae (aj rfl) (hK _)
theorem OU {ls:List Ln}{i k:Int}{may d:Bool}{ev:List EvV} (hs:Small ls) (hi:0≤i∧i < ls.length) (h:kW ls i may=.ok (ev,k,d)):0≤k∧k≤ls.length∧∃ a:Bool × List EvV,ev=zi a.1::(a.2++[zh d]):=by
 have hD:∀ j m,0≤j∧j < (ls.length:Int)→mK ls j m=.ok (ev,k,d)→0≤k∧k≤ls.length∧∃ a:Bool × List EvV,ev=zi a.1::(a.2++[zh d]):=fun j m hj h=>by
  unfold mK at h;split at h
  ·cases h
  ·rename_i ev0 k0 hd
   obtain ⟨a,b,-⟩:=LY hs hj hd;split at h
   ·cases h
   ·split at h
    ·rename_i hk
     split at h
     ·cases h
      exact ⟨by omega,by omega,(_,_),rfl⟩
     ·cases h
    ·cases h
     exact ⟨by omega,by omega,(_,_),rfl⟩
 unfold kW at h;split at h
 ·split at h
  ·cases h
  ·rename_i m j hd
   obtain ⟨-,a,b⟩:=AS hs hi hd;exact hD j m ⟨by omega,b⟩ h
 ·exact hD i [] hi h
theorem AM {ρ ρ' τ:List Res}{r:Res}:(r::(ρ'++(ρ++τ))).Perm (r::(ρ++(ρ'++τ))):=by
 refine List.Perm.cons r ?_;rw [← List.append_assoc,← List.append_assoc];exact List.perm_append_comm.append_right τ
theorem KV {Q:Int→Prop}{pr:Nat}{ls:List Ln}{i:Int}{y:AV}{l:List EvV}{ρ:List Res}{may:Bool} (hs:Small ls) (hDC:GM κ ls Q) (hR:RowR 6 y (l.map EVA) ρ) (hl:l.length≤100000000) (hi:0≤i∧i < ls.length) (hq:∀ m q,may=true→iO ls i=.ok (m,q)→Q q) (hq2:may=false→Q i)
  (h1:∀ ev k d y' ρ',kW ls i may=.ok (ev,k,d)→RowR 6 y' ((l++ev).map EVA) ρ'→K (.ret (I 0)) (.obj pr (SR ls k y')::(ρ'++σ))) (h2:∀ e,kW ls i may=.error e→K (.ret (I e)) σ):ACallF κ Tryz.prog 48 [JP pr,B may] (.obj pr (SR ls i y)::(ρ++σ)) K:=by
 have h0:decide ((0:Int)≠0)=false:=rfl
 unfold kW at h1 h2;cases may
 ·rw [if_neg (by decide)] at h1 h2
  have hD:=fun (sb:Nat) (K:Ret→List Res→Prop) (g1:∀ ev k d y' ρ',mK ls i []=.ok (ev,k,d)→RowR 6 y' ((l++ev).map EVA) ρ'→K (.ret (I 0)) (.obj pr (SR ls k y')::(ρ'++(.obj sb [.raw (.map none)]::σ)))) (g2:∀ e,mK ls i []=.error e→K (.ret (I e)) (.obj sb [.raw (.map none)]::σ))=>ACallF.perm (κ:=κ) (σ:=.obj sb [.raw (.map none)]::.obj pr (SR ls i y)::(ρ++σ)) ((List.Perm.swap _ _ _).trans (AM (ρ:=ρ) (ρ':=[_]))) (hDC (hq2 rfl) (Sc.of (σ:=σ) (ScR.nil (sb:=sb))) MOk.nil hR hl hi g1 g2)
  refine ACallF.dropL (aa Tryz.func48 rfl ?_);simp only [Tryz.ntmps48]
  repeat' (first|simp only [WL,WM,Nat.reduceAdd,Nat.reduceSub,true_and,K6,Tryz.results48]|(with_reducible first|refine aQ (hK:=fun b=>?_)|refine aI (hK:=?_)|refine callD_mk (hD _ _ (fun ev k d y' ρ' e1 hr=>?_) (fun e e1=>?_))))
  all_goals first
   | exact absurd trivial (by assumption)
   | (exfalso;omega)
   | exact ak ⟨_,List.Perm.refl _,List.Sublist.cons_cons _ (List.Sublist.append_left (List.Sublist.cons _ (List.Sublist.refl _)) _)⟩ (aj rfl) (h1 _ _ _ _ _ e1 hr)
   | exact ak ⟨_,List.Perm.refl _,List.Sublist.cons _ (List.Sublist.refl _)⟩ (aj rfl) (h2 _ e1)
 ·rw [if_pos rfl] at h1 h2
  have hX:=fun (sb:Nat) (K:Ret→List Res→Prop) (g1:∀ m j ρ',iO ls i=.ok (m,j)→ScR sb m ρ'→K (.ret (I 0)) (.obj pr (SR ls j y)::(ρ'++(ρ++σ)))) (g2:∀ e,iO ls i=.error e→K (.ret (I e)) (ρ++σ))=>ACallF.perm (κ:=κ) (σ:=.obj sb [.raw (.map none)]::.obj pr (SR ls i y)::(ρ++σ)) (List.Perm.swap _ _ _) (X5 (σ:=ρ++σ) (ρ:=[.obj sb [.raw (.map none)]]) (y:=y) hs hi (ScR.nil (sb:=sb)) g1 g2)
  cases hdd:iO ls i with
  | error e =>
   rw [hdd] at h1 h2 hX;have h3:=h2 e rfl
   have he0:¬e=0:=by
    intro he;subst he;exact absurd hdd (zS _)
   have hX3:=fun (sb:Nat) (K:Ret→List Res→Prop) (g:K (.ret (I e)) (ρ++σ))=>hX sb K (fun m j ρ' e1 hr=>by cases e1) (fun e' e1=>by cases e1;exact g)
   refine ACallF.dropL (aa Tryz.func48 rfl ?_);simp only [Tryz.ntmps48]
   repeat' (first|simp only [WL,ay,WM,reduceCtorEq,bg,Nat.reduceAdd,Nat.reduceSub,true_and,Qt,K6,Tryz.results48]|(with_reducible first|refine aQ (hK:=fun b=>?_)|refine aI (hK:=?_)|refine callD_mk (hX3 _ _ ?_))|((with_reducible first|refine ai (fun h=>?_) (fun h=>?_)|refine ab (fun h=>?_) (fun h=>?_))<;>(try simp only [h])<;>(try simp only [bf,ba] at h))|omega)
   all_goals first
    | exact absurd trivial (by assumption)
    | (exfalso;omega)
    | exact absurd (by assumption) he0
    | exact ak ⟨_,List.Perm.refl _,List.sublist_append_right _ _⟩ (aj rfl) h3
  | ok x =>
   obtain ⟨m,j⟩:=x;rw [hdd] at h1 h2;dsimp only at h1 h2;obtain ⟨hm,hj1,hj2⟩:=AS hs hi hdd;have hD:=fun (sb:Nat) (ρs:List Res) (hr:ScR sb m ρs) (K:Ret→List Res→Prop) (g1:∀ ev k d y' ρ',mK ls j m=.ok (ev,k,d)→RowR 6 y' ((l++ev).map EVA) ρ'→K (.ret (I 0)) (.obj pr (SR ls k y')::(ρ'++(ρs++σ)))) (g2:∀ e,mK ls j m=.error e→K (.ret (I e)) (ρs++σ))=>ACallF.perm (κ:=κ) (σ:=.obj pr (SR ls j y)::(ρs++(ρ++σ))) AM (hDC (hq m j rfl hdd) (Sc.of (σ:=σ) hr) hm hR hl ⟨by omega,hj2⟩ g1 g2)
   have hX2:=fun (sb:Nat) (K:Ret→List Res→Prop) (g1:∀ ρ',ScR sb m ρ'→K (.ret (I 0)) (.obj pr (SR ls j y)::(ρ'++(ρ++σ))))=>hX sb K (fun m2 j2 ρ' e1 hr=>by cases hdd.symm.trans e1;exact g1 ρ' hr) (fun e e1=>by cases hdd.symm.trans e1)
   refine ACallF.dropL (aa Tryz.func48 rfl ?_);simp only [Tryz.ntmps48]
   repeat' (first|simp only [WL,ay,WM,reduceCtorEq,bg,Nat.reduceAdd,Nat.reduceSub,true_and,Qt,K6,Tryz.results48]|(with_reducible first|refine aQ (hK:=fun b=>?_)|refine aI (hK:=?_)|refine callD_mk (hX2 _ _ (fun ρs hrs=>?_))|refine callD_mk (hD _ _ hrs _ (fun ev k d y' ρ' e1 hr=>?_) (fun e e1=>?_)))|((with_reducible first|refine ai (fun h=>?_) (fun h=>?_)|refine ab (fun h=>?_) (fun h=>?_))<;>(try simp only [h])<;>(try simp only [bf,ba] at h)))
   all_goals first
    | exact absurd trivial (by assumption)
    | (exfalso;omega)
    | exact ak ⟨_,List.Perm.refl _,List.Sublist.cons_cons _ (List.Sublist.append_left (List.sublist_append_right _ _) _)⟩ (aj rfl) (h1 _ _ _ _ _ e1 hr)
    | exact ak ⟨_,List.Perm.refl _,List.sublist_append_right _ _⟩ (aj rfl) (h2 _ e1)
end Go.Proofs.YthkabaiamcjdbaaGreat
namespace Go.Abs
section
variable {κ:Ctx} {P:Program}
def xf (κ:Ctx) (P:Program) (L:Nat) (K:Ret→List Res→Prop) (G:List Res→Prop):List (List AV)→Option (List AV)→List Res→Prop
 | [],none,σ=>∀ ρ,G ρ→K (.ret (.tup [])) (ρ++σ)
 | [],some x,σ=>ACallY κ P L x σ (YK (fun _=>False) K)
 | x::xs,e,σ=>ACallY κ P L x σ (YK (fun σ'=>xf κ P L K G xs e σ') K)
theorem EL {C C':List Res→Prop}{K:Ret→List Res→Prop} (hC:∀ σ,C σ→C' σ) {r:Ret}{σ:List Res} (h:YK C K r σ):YK C' K r σ:=by
 unfold YK at h ⊢;split at h
 ·exact hC _ h
 ·exact h
 ·exact h
 ·exact h.elim
theorem Bh {L:Nat}{K:Ret→List Res→Prop} (G:List Res→Prop) (Inv:List (List AV)→Option (List AV)→List Res→Prop) (hend:∀ σ,Inv [] none σ→∀ ρ,G ρ→K (.ret (.tup [])) (ρ++σ)) (hlast:∀ x σ,Inv [] (some x) σ→ACallY κ P L x σ (YK (fun _=>False) K)) (round:∀ x xs e σ,Inv (x::xs) e σ→ACallY κ P L x σ (YK (Inv xs e) K)):∀ xs e σ,Inv xs e σ→xf κ P L K G xs e σ
 | [],none,σ,h=>hend σ h
 | [],some x,σ,h=>hlast x σ h
 | x::xs,e,σ,h=>(round x xs e σ h).mono fun r σ' hr=>EL (fun σ2 h2=>Bh G Inv hend hlast round xs e σ2 h2) hr
theorem GL {Q:Exit→St→Prop}{t:List AV}{σ:List Res}{fr:Bool}{df:List Deferred}{f:Operand}{ps:Array Tmp}{assign body:Code} (gf:FuncId) (first cap:List Value) (xs:List (List AV)) (e:Option (List AV)) (ρ τ:List Res) (Inv:List (List AV)→Option (List AV)→List Res→Prop) (G:List Res→Prop)
  (hf:(⟨t,σ,fr,df⟩:St).ev f=.raw (.func (.func gf) first.toArray cap.toArray)) (hok:ao P gf=True) (hσ:ResW σ (ρ++τ))
  (hiter:∀ (L:Nat) (K:Ret→List Res→Prop) (σ':List Res),xf κ P L K G xs e σ'→ACallF κ P gf (first.map .raw++[.raw (.func (.yield L) #[] #[])]++cap.map .raw) (ρ++σ') K)
  (h0:Inv xs e τ)
  (hend:∀ τ ρ,Inv [] none τ→G ρ→Q .normal ⟨t,ρ++τ,false,df⟩)
  (hround:∀ d e,CZ κ P Q t false df ps assign body (fun xs τ=>Inv xs e τ) d)
  (hlast:∀ d x,CZ κ P Q t false df ps assign body (fun xs τ=>xs=[x]∧Inv [] (some x) τ) d) :
  HU κ none P (.rangeFunc f ps assign body) Q ⟨t,σ,fr,df⟩:=by
 refine wh hf (hok ▸ trivial) (fun l d hkn=>?_);have hp:ResW (Res.loop l .ready none t ps assign body d::σ) (ρ++(Res.loop l .ready none t ps assign body d::τ)):=((hσ.cons _).trans (ResW.perm List.perm_middle.symm))
 refine ACallF.weak hp ?_;have e1:(first.toArray.toList.map AV.raw++[.raw (.func (.yield l) #[] #[])]++cap.toArray.toList.map AV.raw)=(first.map .raw++[.raw (.func (.yield l) #[] #[])]++cap.map .raw):=by simp
 rw [e1];refine hiter l _ _ (Bh G (fun xs e σ'=>∃ τ',σ'=.loop l .ready none t ps assign body d::τ'∧Inv xs e τ') ?_ ?_ ?_ xs e _ ⟨τ,rfl,h0⟩)
 ·rintro _ ⟨τ',rfl,hi⟩ ρ' hG
  refine ⟨ρ'.length,.ready,none,by simp,by simp, ?_⟩;have e:(ρ'++Res.loop l .ready none t ps assign body d::τ').eraseIdx ρ'.length=ρ'++τ':=by
   rw [List.eraseIdx_append_of_length_le (Nat.le_refl _),Nat.sub_self];rfl
  show Q .normal ⟨t,(ρ'++Res.loop l .ready none t ps assign body d::τ').eraseIdx ρ'.length,false,df⟩
  rw [e];exact hend τ' ρ' hi hG
 ·rintro x _ ⟨τ',rfl,hi⟩
  obtain ⟨h1,h2⟩:=hlast d x l _ (.loop l .busy none t ps assign body d) ⟨_,_,_,_,_,_,rfl⟩ x [] τ' ⟨rfl,hi⟩;refine (oI (rd:=none) (s0:=⟨t,σ,fr,df⟩) (Inv:=fun xs τ=>xs=[x]∧Inv [] (some x) τ) (xs:=[]) hkn h1 h2).mono fun r σ' hr=>EL (fun σ2 h3=>?_) hr
  obtain ⟨τ2,-,h4,-⟩:=h3;cases h4
 ·rintro x xs e _ ⟨τ',rfl,hi⟩
  obtain ⟨h1,h2⟩:=hround d e l _ (.loop l .busy none t ps assign body d) ⟨_,_,_,_,_,_,rfl⟩ x xs τ' hi;exact oI (rd:=none) (s0:=⟨t,σ,fr,df⟩) (Inv:=fun xs τ=>Inv xs e τ) hkn h1 h2
end
end Go.Abs
namespace Go.Proofs.YthkabaiamcjdbaaGreat
open Go.Abs
variable {κ:Ctx} {σ:List Res} {K:Ret→List Res→Prop} {o o':Option (Option (Nat × Nat))}
inductive RunE (ls:List Ln) (Q:Int→Prop):Int→Bool→List EvV→Nat→Option Int→Prop where
 | nil {i:Int} {may s:Bool} (h:gU ls i=(((ls.length:Nat):Int),s,true)):RunE ls Q i may [] 0 none
 | bad {i j:Int} {may s:Bool} (h:gU ls i=(j,s,false)):RunE ls Q i may [] 0 (some 2)
 | err {i j e:Int} {may s:Bool} (h:gU ls i=(j,s,true)) (hj:0≤j∧j < ls.length) (hq:∀ m q,(may || s)=true→iO ls j=.ok (m,q)→Q q) (hq2:(may || s)=false→Q j) (he:kW ls j (may || s)=.error e) (h0:¬e=0):RunE ls Q i may [] 0 (some e)
 | cons {i j k:Int} {may s d:Bool} {ev rest:List EvV} {n:Nat} {x:Option Int} (h:gU ls i=(j,s,true)) (hj:0≤j∧j < ls.length) (hq:∀ m q,(may || s)=true→iO ls j=.ok (m,q)→Q q) (hq2:(may || s)=false→Q j) (hs:kW ls j (may || s)=.ok (ev,k,d)) (hr:RunE ls Q k d rest n x):RunE ls Q i may (ev++rest) (n+1) x
abbrev eA (x:Option Int):Option (List AV):=x.map fun e=>[I e]
abbrev GS (pr:Nat) (ls:List Ln) (T:List EvV) (ρ':List Res):Prop:=∃ y' i' ρ'',RowR 6 y' (T.map EVA) ρ''∧ρ'=.obj pr (SR ls i' y')::ρ''
theorem NK {Q:Int→Prop}{b1 L pr:Nat}{ls:List Ln}{i:Int}{y:AV}{l ev:List EvV}{ρ:List Res}{n:Nat}{x:Option Int} (hs:Small ls) (hDC:GM κ ls Q) (hD:RunE ls Q i true ev n x) (hi:0≤i∧i≤ls.length) (hl:(l++ev).length≤100000000) (hR:RowR 6 y (l.map EVA) ρ)
  (hI:xf κ Tryz.prog L K (GS pr ls (l++ev)) (List.replicate n [I 0]) (eA x) σ) :
  ACallF κ Tryz.prog 45 [.raw (.func (.yield L) #[] #[]),.raw (.pointer (some ⟨b1,0,none⟩))] (.obj b1 [JP pr]::.obj pr (SR ls i y)::(ρ++σ)) K:=by
 generalize hT:l++ev=T at *;refine ACallF.dropL (aN Tryz.func45 rfl ?_);simp only [Tryz.ntmps45]
 repeat' (first|(with_reducible first|refine aC ?_|refine bO ?_|refine aG ?_)|simp only [WL,WM,Nat.reduceAdd,Nat.reduceSub])
 refine dq (fun x:StX=>⟨(.raw (.func (.yield L) #[] #[])::.raw (.pointer (some ⟨b1,0,none⟩))::.any::B x.may::.any::.any::.any::.any::.any::.any::.any::.any::.any::.any::.any::.any::.any::.any::.any::.any::.any::.any::.any::.any::.any::.any::.any::.any::.any::.any::.any::.any::.any::.any::.any::.any::.any::.any::.any::.any::.any::[]),.obj b1 [JP pr]::.obj pr (SR ls x.i x.y)::(x.ρ++x.σ),true,[]⟩)
  (fun z=>RunE ls Q z.i z.may z.ev z.n x∧(0≤z.i∧z.i≤ls.length)∧z.l++z.ev=T∧RowR 6 z.y (z.l.map EVA) z.ρ∧xf κ Tryz.prog L K (GS pr ls T) (List.replicate z.n [I 0]) (eA x) z.σ) (fun x=>x.n) ⟨i,true,l,y,ρ,σ,ev,n⟩ (aq bH id) ⟨hD,hi,hT,hR,hI⟩ ?_
 clear hD hi hT hR hI;rintro ⟨i,may,l,y,ρ,σ,ev,n⟩ ⟨hD,hi,hT,hR,hI⟩;dsimp only at hD hi hT hR hI ⊢;have hDots:=fun (K:Ret→List Res→Prop) (h:K (.ret (.tup [B (gU ls i).2.1,B (gU ls i).2.2])) (.obj b1 [JP pr]::.obj pr (SR ls (gU ls i).1 y)::(ρ++σ)))=>ACallF.at_ (κ:=κ) (σ:=.obj b1 [JP pr]::.obj pr (SR ls i y)::(ρ++σ)) (b:=pr) (K:=K) (VW hs hi h)
 cases hD with
 | nil h =>
  have hI0:∀ ρ',GS pr ls T ρ'→K (.ret (.tup [])) (ρ'++σ):=hI
  rw [List.append_nil] at hT;subst hT;rw [h] at hDots;dsimp only at hDots;have hov:decide (((ls.length:Nat):Int)=((ls.length:Nat):Int))=true:=decide_eq_true rfl
  repeat' (first|(with_reducible first|refine aC ?_|refine al (al ?_)|refine aG ?_|refine aB ?_|refine aw ?_)|simp only [WL,WM,Nat.reduceAdd,Nat.reduceLT,Bool.not_true,Bool.not_false,true_and,reduceIte,Bool.false_eq_true,EH,fN,Ij,Tryz.results45]|(with_reducible first|refine au (hK:=?_)|refine callD_mk (hDots _ ?_)|refine cD (fK ?_ ?_))|((with_reducible first|refine ai (fun h=>?_) (fun h=>?_)|refine ab (fun h=>?_) (fun h=>?_))<;>(try simp only [h])<;>(try simp only [bf,ba] at h))|omega)
  all_goals first
   | exact absurd trivial (by assumption)
   | (exfalso;omega)
   | exact ak (ah ae) (aj rfl) (hI0 _ ⟨_,_,_,hR,rfl⟩)
   | (clear hDots;trace_state)
 | bad h =>
  have h3:ACallY κ Tryz.prog L [I 2] σ (YK (fun _=>False) K):=hI
  rw [h] at hDots;dsimp only at hDots;clear hI hR
  repeat' (first|(with_reducible first|refine aC ?_|refine al (al ?_)|refine aG ?_|refine aB ?_|refine aw ?_)|simp only [WL,WM,Nat.reduceAdd,Nat.reduceLT,Bool.not_false,true_and,EH]|(with_reducible first|refine au (hK:=?_)|refine callD_mk (hDots _ ?_)))
  all_goals first
   | exact absurd trivial (by assumption)
   | (exfalso;omega)
   | skip
  all_goals
   refine cR (y:=[I 2]) (.obj b1 [JP pr]::.obj pr _::ρ) ⟨le_rfl,trivial⟩ h3 (fun σ3 h9=>h9.elim) (fun σ3 h9=>?_) (fun c σ3 h9=>?_)
   ·skip
    repeat' (first|simp only [WL,WM,true_and,Tryz.results45])
    exact ak ⟨_,List.Perm.refl _,List.Sublist.cons _ (List.Sublist.cons _ (List.sublist_append_right _ _))⟩ (aj rfl) h9
   ·skip
    repeat' (first|simp only [WL,WM,true_and])
    exact aS ⟨_,List.Perm.refl _,List.Sublist.cons _ (List.Sublist.cons _ (List.sublist_append_right _ _))⟩ rfl h9
 | @err _ j e _ s h hj hq hq2 he h0 =>
  have h3:ACallY κ Tryz.prog L [I e] σ (YK (fun _=>False) K):=hI
  rw [h] at hDots;dsimp only at hDots;obtain ⟨mb,hmb⟩:∃ mb,(may || s)=mb:=⟨_,rfl⟩
  rw [hmb] at hq hq2 he;have hStep:=fun (K:Ret→List Res→Prop) (g:K (.ret (I e)) (.obj b1 [JP pr]::σ))=>ACallF.under1 (κ:=κ) (σ:=.obj pr (SR ls j y)::(ρ++σ)) (r:=.obj b1 [JP pr]) (K:=K) (KV (may:=mb) hs hDC hR (by have:=congrArg List.length hT;rw [List.length_append] at this;omega) hj hq hq2 (fun ev k d y' ρ' g1 _=>by rw [he] at g1;cases g1) (fun e' g1=>by rw [he] at g1;cases g1;exact g))
  have hov:decide (j=((ls.length:Nat):Int))=false:=decide_eq_false (by omega)
  clear hI;rcases (show (may=false∧s=false∧mb=false)∨(may=false∧s=true∧mb=true)∨(may=true∧s=false∧mb=true)∨(may=true∧s=true∧mb=true) by revert hmb;cases may<;>cases s<;>cases mb<;>simp) with ⟨rfl,rfl,rfl⟩|⟨rfl,rfl,rfl⟩|⟨rfl,rfl,rfl⟩|⟨rfl,rfl,rfl⟩
  all_goals
   repeat' (first|(with_reducible first|refine aC ?_|refine al (al ?_)|refine aG ?_|refine aB ?_|refine aw ?_)|simp only [WL,WM,Nat.reduceAdd,Nat.reduceLT,Bool.not_true,true_and,reduceIte,Bool.false_eq_true,EH,fN,Ij,hov]|(with_reducible first|refine au (hK:=?_)|refine callD_mk (hDots _ ?_)|refine callD_mk (hStep _ ?_)|refine cD (fK ?_ ?_))|omega)
   all_goals first
    | exact absurd trivial (by assumption)
    | (exfalso;omega)
    | skip
   all_goals
    refine cR (y:=[I e]) [.obj b1 [JP pr]] ⟨le_rfl,trivial⟩ h3 (fun σ3 h9=>h9.elim) (fun σ3 h9=>?_) (fun c σ3 h9=>?_)
    ·skip
     repeat' (first|with_reducible refine aw ?_|simp only [WL,WM,Bool.not_false,true_and,reduceIte,Bool.false_eq_true,Tryz.results45])
     exact ak bC (aj rfl) h9
    ·skip
     repeat' (first|simp only [WL,WM,true_and])
     exact aS bC rfl h9
 | @cons _ j k _ s d ev rest n _ h hj hq hq2 he hr =>
  rw [h] at hDots;dsimp only at hDots;obtain ⟨mb,hmb⟩:∃ mb,(may || s)=mb:=⟨_,rfl⟩
  rw [hmb] at hq hq2 he;obtain ⟨hk1,hk2,⟨ea,eb⟩,hev⟩:=OU hs hj he;dsimp only at hev;have hStep:=fun (K:Ret→List Res→Prop) (g:∀ y' ρ',RowR 6 y' ((l++ev).map EVA) ρ'→K (.ret (I 0)) (.obj b1 [JP pr]::.obj pr (SR ls k y')::(ρ'++σ)))=>ACallF.under1 (κ:=κ) (σ:=.obj pr (SR ls j y)::(ρ++σ)) (r:=.obj b1 [JP pr]) (K:=K) (KV (may:=mb) hs hDC hR (by have:=congrArg List.length hT;rw [List.length_append] at this;omega) hj hq hq2 (fun ev' k' d' y' ρ' g1 g2=>by rw [he] at g1;cases g1;exact g y' ρ' g2) (fun e' g1=>by rw [he] at g1;cases g1))
  have hov:decide (j=((ls.length:Nat):Int))=false:=decide_eq_false (by omega)
  have h3:ACallY κ Tryz.prog L [I 0] σ (YK (fun σ'=>xf κ Tryz.prog L K (GS pr ls T) (List.replicate n [I 0]) (eA x) σ') K):=hI
  have hle:0 < (l++ev).length∧(l++ev).length≤100000000:=by
   constructor
   ·rw [hev,List.length_append,List.length_cons];omega
   ·have:=congrArg List.length hT
    rw [← List.append_assoc,List.length_append] at this;have h8:T.length≤100000000:=hl
    omega
  clear hI hR;rcases (show (may=false∧s=false∧mb=false)∨(may=false∧s=true∧mb=true)∨(may=true∧s=false∧mb=true)∨(may=true∧s=true∧mb=true) by revert hmb;cases may<;>cases s<;>cases mb<;>simp) with ⟨rfl,rfl,rfl⟩|⟨rfl,rfl,rfl⟩|⟨rfl,rfl,rfl⟩|⟨rfl,rfl,rfl⟩
  all_goals
   repeat' (first|(with_reducible first|refine aC ?_|refine al (al ?_)|refine aG ?_|refine aB ?_|refine aw ?_)|simp only [WL,WM,Nat.reduceAdd,Nat.reduceLT,Bool.not_true,true_and,reduceIte,Bool.false_eq_true,EH,fN,Ij,hov]|(with_reducible first|refine au (hK:=?_)|refine callD_mk (hDots _ ?_)|refine callD_mk (hStep _ (fun y' ρ' hr'=>?_))|refine cD (fK ?_ ?_))|omega)
   all_goals first
    | exact absurd trivial (by assumption)
    | (exfalso;omega)
    | skip
   all_goals
    clear hDots hStep;obtain ⟨rb,rc,cs,rfl,rfl,hc0,hc1,hc2,hc3⟩:=Bb hr' (by rw [List.length_map];exact hle.1);have hr2:=hr'
    rw [List.length_map] at hr2;have hlf:cs[((l++ev).length - 1) * 6+5]? = some (B d):=by
     have hc4:=hc3
     rw [hev] at hc4;have:=Gd (l:=l) (ev:=eb) (m:=ea) (d:=d) hc4
     rw [List.length_map] at this;rw [hev];exact this
    refine cR (y:=[I 0]) [.obj b1 [JP pr],.obj pr (SR ls k (bT rb 0 ((l++ev).map EVA).length rc)),.obj rb cs] ⟨le_rfl,trivial⟩ h3 (fun σ3 h9=>?_) (fun σ3 h9=>?_) (fun c σ3 h9=>?_)
    ·have hz:(((l++ev).length:Nat):Int) - 1=(((l++ev).length - 1:Nat):Int):=by omega
     rw [List.length_map];clear h3
     repeat' (first|( with_reducible refine fI (hK:=?_))|( with_reducible refine au (x:=B d) (hc:=by rw [Nat.zero_add];exact hlf) (hK:=?_))|with_reducible refine aw ?_|simp only [WL,ay,WM,reduceCtorEq,bg,Nat.reduceAdd,Nat.reduceEqDiff,Bool.not_true,true_and,reduceIte,Bool.false_eq_true,T4,mf,fR xW,fR lG,hz]|simp (disch:=first|omega|(simp only [aU];omega)) only [an]|(with_reducible first|refine ax (hb:=?_)|refine au (hK:=?_))|((with_reducible refine eE (id:=5) [0,1,2,3,4,5,6,7,8,9] (some 10) [([11],some 12),([13],none)] mixed ?_ ?_);kernel_rfl)|((with_reducible apply aW);intro σq hq;have hqi:=cy hq;clear hq)|(with_reducible exact b9)|((with_reducible apply bD);rfl;rfl)|(with_reducible refine bV (nZ (by first|(simp;done)|fail) (by first|(simp;done)|fail)) ?_))
     all_goals first
      | exact ⟨⟨k,d,l++ev,bT rb 0 (l++ev).length rc,[.obj rb cs],σ3,rest,n⟩,aq bH id,⟨hr,⟨hk1,hk2⟩,by rw [← hT];simp,hr2,h9⟩,by dsimp only;omega⟩
      | exact absurd trivial (by assumption)
      | (exfalso;omega)
    ·skip
     repeat' (first|with_reducible refine aw ?_|simp only [WL,WM,Bool.not_false,true_and,reduceIte,Bool.false_eq_true,Tryz.results45])
     exact ak bC (aj rfl) h9
    ·skip
     repeat' (first|simp only [WL,WM,true_and])
     exact aS bC rfl h9
theorem DX {Q:Int→Prop}{ls:List Ln}{ev:List EvV}{n:Nat}{x:Option Int} (hs:Small ls) (hDC:GM κ ls Q) (hD:RunE ls Q 0 true ev n x) (hl:ev.length≤100000000) (hx:∀ e,x=some e→¬e=0) (h1:x=none→∀ y ρ,RowR 6 y (ev.map EVA) ρ→K (.ret (.tup [y,I 0])) (ρ++σ)) (h2:∀ e,x=some e→K (.ret (.tup [nilS,I e])) σ):ACallF κ Tryz.prog 20 [SL none ls] σ K:=by
 refine ACallF.dropL (ot Tryz.func20 rfl ?_);simp only [Tryz.ntmps20];refine mD ?_
 repeat' (first|simp only [WL,WM,Nat.reduceAdd,Nat.reduceSub]|with_reducible refine aV (hK:=fun b=>?_))
 refine mD ?_
 repeat' (first|simp only [WL,WM,Nat.reduceAdd]|(with_reducible first|refine aQ (hK:=fun b=>?_)|refine aI (hK:=?_)))
 refine yO (mD ?_)
 repeat' (first|simp only [WL,WM,true_and,V1]|with_reducible refine cD (RB (fun b=>?_)))
 refine wF ?_;rename_i b2 b3 br;refine GL 45 [] [.pointer (some ⟨b,0,none⟩)] (List.replicate n [I 0]) (eA x) [.obj b [JP br],.obj br (SR ls 0 nilS)] (.obj b3 [I 0]::.obj b2 [nilS]::σ)
  (fun xs e τ=>(∃ m,xs=List.replicate m [I 0])∧e=eA x∧τ=.obj b3 [I 0]::.obj b2 [nilS]::σ) (GS br ls ev)
  rfl Vx (ResW.refl _) (fun L K σ' h=>NK (l:=[]) (ρ:=[]) hs hDC hD ⟨by omega,by omega⟩ (by simpa using hl) RowR.nil h) ⟨⟨n,rfl⟩,rfl,rfl⟩ ?_ ?_ ?_
 ·rintro τ ρ' ⟨-,he,rfl⟩ ⟨y',i',ρ'',hr,rfl⟩
  have hxn:x=none:=by cases x;rfl;cases he
  simp only [gu,eY];refine B8 (oW ?_);have hK2:=h1 hxn _ _ hr
  have hcase:(ρ''=[]∧y'=nilS)∨∃ b c cs,ρ''=[.obj b cs]∧y'=bT b 0 (ev.map EVA).length c:=by
   generalize hL:ev.map EVA=L at hr;cases hr with
   | nil=>exact .inl ⟨rfl,rfl⟩
   | row=>exact .inr ⟨_,_,_,rfl,rfl⟩
  rcases hcase with ⟨rfl,rfl⟩|⟨rb,rc,cs,rfl,rfl⟩
  ·skip
   repeat' (first|simp only [WL,WM,Nat.reduceAdd,Nat.reduceEqDiff,true_and,mf,fR lG,Tryz.results20]|(with_reducible first|refine ax (hb:=?_)|refine au (hK:=?_)|refine aP (hK:=?_))|((with_reducible refine aY ?_);apply lN (hf:=Tryz.results20);exact dT;exact dT))
   exact ak bC (aj rfl) hK2
  ·rw [List.length_map] at hK2 ⊢
   repeat' (first|simp only [WL,WM,Nat.reduceAdd,Nat.reduceEqDiff,true_and,mf,fR lG,Tryz.results20]|(with_reducible first|refine ax (hb:=?_)|refine au (hK:=?_)|refine aP (hK:=?_))|((with_reducible refine aY ?_);apply lN (hf:=Tryz.results20);exact dT;exact dT))
   exact ak ⟨.obj rb cs::σ,List.Perm.refl _,List.Sublist.cons _ (List.Sublist.cons_cons _ (List.Sublist.cons _ (List.Sublist.cons _ (List.Sublist.refl _))))⟩ (aj rfl) hK2
 ·rintro dd e L Rr Rb hRr xx xs τ ⟨⟨m,hm⟩,rfl,rfl⟩
  obtain ⟨m,rfl⟩:∃ m',m=m'+1:=by
   cases m with
   | zero=>cases hm
   | succ m=>exact ⟨m,rfl⟩
  rw [List.replicate_succ] at hm;obtain ⟨rfl,rfl⟩:=List.cons.inj hm;refine ⟨rfl, ?_⟩
  repeat' (first|simp only [WL,WM,true_and])
  refine ⟨0,rfl, ?_⟩;simp only [List.set_cons_succ,List.set_cons_zero];have h0:decide ((0:Int)≠0)=false:=rfl
  repeat' (first|simp only [WL,ay,WM,reduceCtorEq,bg,Nat.reduceAdd,true_and,Tryz.results20,mT,tI]|with_reducible refine aP (hK:=?_)|((with_reducible first|refine ai (fun h=>?_) (fun h=>?_)|refine ab (fun h=>?_) (fun h=>?_))<;>(try simp only [h])<;>(try simp only [bf,ba] at h)))
  all_goals first
   | exact absurd trivial (by assumption)
   | skip
  all_goals
   refine ⟨_,Eb (ResW.refl _), ?_⟩;exact ⟨⟨m,rfl⟩,rfl⟩
 ·rintro dd x2 L Rr Rb hRr xx xs τ ⟨hm,-,hxe,rfl⟩
  obtain ⟨rfl,rfl⟩:=List.cons.inj hm;obtain ⟨e,rfl⟩:∃ e,x=some e:=by cases x;cases hxe;exact ⟨_,rfl⟩
  obtain rfl:xx=[I e]:=Option.some.inj hxe;have h3:=h2 e rfl
  have he0:¬e=0:=hx e rfl
  refine ⟨rfl, ?_⟩
  repeat' (first|simp only [WL,WM,reduceCtorEq,true_and])
  refine ⟨0,rfl, ?_⟩;simp only [List.set_cons_succ,List.set_cons_zero]
  repeat' (first|simp only [WL,ay,WM,reduceCtorEq,bg,Nat.reduceAdd,true_and,Tryz.results20,mT,tI]|with_reducible refine aP (hK:=?_)|((with_reducible first|refine ai (fun h=>?_) (fun h=>?_)|refine ab (fun h=>?_) (fun h=>?_))<;>(try simp only [h])<;>(try simp only [bf,ba] at h))|omega)
  all_goals first
   | exact absurd trivial (by assumption)
   | exact absurd (by assumption) he0
   | skip
  all_goals
   refine ⟨_,Eb (ResW.refl _), ?_⟩
   repeat' (first|((with_reducible refine aY ?_);apply lN (hf:=Tryz.results20);exact dT;exact dT))
   exact ak (ah (ah ae)) (aj rfl) h3
def QA (ls:List Ln) (j s:Int):Prop:=dW (aF ls j).2=false∧(aF ls j).1=s∧¬(aF ls j).2.getD 0 0=9
structure Ag (ls ls':List Ln) (d m s:Int):Prop where
 d0:0≤d
 m0:0≤m
 s0:0≤s
 at_:∀ i:Int,0≤i→i < m→ls.getD (i+d).toNat (0,[])=ls'.getD i.toNat (0,[])
 len:m+d≤ls.length
 len':m≤ls'.length
 over:bZ ls (m+d)=bZ ls' m
 stop:bZ ls' m=false→QA ls (m+d) s∧QA ls' m s
 ll:ls'.length≤ls.length
 hs:Small ls
 hs':Small ls'
def Z7 (m:Int) (p:Int × Int):Prop:=0≤p.1∧p.1 < m
def sh (d:Int) (p:Int × Int):Int × Int:=(p.1+d,p.2)
variable {ls ls':List Ln} {d m s:Int}
theorem qQ:∀ {l:List Int},l.dropWhile blankI=[]→l.all blankI=true
 | [],_=>rfl
 | c::l,h=>by
  rw [List.dropWhile_cons] at h;rw [List.all_cons];split at h
  ·rename_i hc
   rw [hc,qQ h];rfl
  ·cases h
def VR (d m:Int) (v w:TrV):Prop:=w.a=v.a∧w.t=v.t∧(jW v=true→w.q=sh d v.q∧Z7 m v.q)
theorem rE {n:Int}{t:List Int} (h:¬aZ n t=0):dW t=false∧t≠[]:=by
 unfold aZ at h;split at h
 ·rename_i h1
  obtain ⟨-,h2,-⟩:=h1;cases t with
  | nil=>simp at h2
  | cons c t =>
   have hc:c=45∨c=46:=by
    have e:(c::t).getD 0 0=c:=rfl
    rw [e] at h;split at h
    ·left;assumption
    ·split at h
     ·right;assumption
     ·exact absurd rfl h
   refine ⟨?_,by simp⟩;unfold dW;rcases hc with rfl|rfl
   ·rw [List.all_cons,List.dropWhile_cons]
    have:blankI 45=false:=by decide
    rw [this];simp
   ·rw [List.all_cons,List.dropWhile_cons]
    have:blankI 46=false:=by decide
    rw [this];simp
 ·exact absurd rfl h
theorem GG {ls:List Ln}{j:Int} (h:bZ ls j=true):¬(j < ls.length∧dW (aF ls j).2=true):=by
 rintro ⟨h1,h2⟩;unfold bZ at h;rw [decide_eq_false (by omega),Bool.false_or] at h;have h3:¬aZ (aF ls j).1 (aF ls j).2=0:=by simpa using h
 rw [(rE h3).1] at h2;cases h2
def Yf (n:Int) (l:List Ln):Prop:=∀ x,l.head? = some x→x.2≠[]∧(¬aZ x.1 x.2=0∨x.1≤n)
theorem BF {n w:Int}{b:List Ln} (h:Yf n b):(eh w b).1=w∧(eh w b).2.getD n≤n:=by
 cases b with
 | nil=>exact ⟨rfl,Int.le_refl _⟩
 | cons x b =>
  obtain ⟨h1,h2⟩:=h x rfl;unfold eh;rw [if_neg h1];refine ⟨rfl, ?_⟩;dsimp only;split
  ·show x.1≤n
   rcases h2 with h2|h2
   ·contradiction
   ·exact h2
  ·exact Int.le_refl _
/-! ### Places, by what stands there -/
def At (ls:List Ln) (p:Int × Int) (l:List Int):Prop:=0≤p.1∧p.1 < ls.length∧0≤p.2∧0≤(ls.getD p.1.toNat (0,[])).1∧(ls.getD p.1.toNat (0,[])).1≤p.2∧aH ls p=l
theorem I8 {ls:List Ln}{i k:Int}{t:List Int} (h0:0≤i) (h1:i < ls.length) (h:ls.getD i.toNat (0,[])=(k,t)) (hk:0≤k):At ls (i,k) t:=by
 refine ⟨h0,h1,hk,by dsimp only;rw [h];exact hk,by dsimp only;rw [h];exact Int.le_refl _, ?_⟩;rw [gP (by dsimp only;omega) (by dsimp only;omega) (by dsimp only;omega)];dsimp only;rw [h];dsimp only;rw [if_neg (by omega),show (min (k - max 0 k) (t.length:Int)).toNat=0 by omega,List.drop_zero]
theorem At.step {ls:List Ln}{p:Int × Int}{a l:List Int} (h:At ls p (a++l)):At ls (p.1,p.2+(a.length:Nat)) l:=by
 obtain ⟨h1,h2,h3,h4,h5,h6⟩:=h;refine ⟨h1,h2,by dsimp only;omega,h4,by dsimp only;omega, ?_⟩;rw [gP (by omega) (by omega) (by omega),if_neg (by omega)] at h6;rw [gP (by dsimp only;omega) (by dsimp only;omega) (by dsimp only;omega)];dsimp only at *;generalize ls.getD p.1.toNat (0,[])=x at *;rw [if_neg (by omega)];have hl:=congrArg List.length h6
 rw [List.length_drop,List.length_append] at hl;rw [show (min (p.2+(a.length:Nat) - max 0 x.1) (x.2.length:Int)).toNat=(min (p.2 - max 0 x.1) (x.2.length:Int)).toNat+a.length by omega,← List.drop_drop,h6,List.drop_left]
theorem Pv {b r:List Int} (hb:∀ c∈b,blankI c=true) (hr:r.length=0∨blankI (r.getD 0 0)=false):pg (b++r)=b.length:=by
 have h0:pg r=0:=by
  rcases hr with h|h
  ·rw [List.length_eq_zero_iff.1 h];rfl
  ·exact Wv h
 unfold pg at *;rw [List.takeWhile_append_of_pos hb,List.length_append,h0,Nat.add_zero]
theorem At.past {ls:List Ln}{p:Int × Int}{b r:List Int} (h:At ls p (b++r)) (hb:∀ c∈b,blankI c=true) (hr:r.length=0∨blankI (r.getD 0 0)=false):ca ls p=((p.1,p.2+(b.length:Nat)),r):=by
 have hc:fV ls p=p.2:=by
  obtain ⟨h1,h2,h3,h4,h5,h6⟩:=h;unfold fV;rw [if_pos ⟨h1,h2⟩];omega
 unfold ca;rw [hc,show ((p.1,p.2):Int × Int)=p from rfl,h.2.2.2.2.2,Pv hb hr,List.drop_left]
theorem q8 {ls:List Ln}{p:Int × Int}{b r:List Int} (h:At ls p (b++r)) (hb:∀ c∈b,blankI c=true) (h0:0 < r.length) (h1:blankI (r.getD 0 0)=false) (h2:¬r.getD 0 0=35):kZ ls p=((p.1,p.2+(b.length:Nat)),true):=by
 unfold kZ;rw [h.past hb (.inr h1)];dsimp only;have hc:J5 ls (p.1,p.2+(b.length:Nat)) r=false:=by
  unfold J5 bU;rw [beq_eq_false_iff_ne.2 h2,Bool.and_false,Bool.false_and]
 rw [decide_eq_true h0,hc];rfl
theorem xO {ls:List Ln}{n:Int}{p q:Int × Int} (h:kZ ls p=(q,true)) (hq:q.1=p.1):zj ls n p=some (some q):=by
 unfold zj;rw [rA,h];show PP _ _ _ ((q,true)::_)=_
 unfold PP;rw [if_pos rfl,if_neg (by omega)]
theorem GO {k:Nat}{l:List Int} (h:l.length=0∨¬l.getD 0 0=32):lineOf (List.replicate k 32++l)=((k:Int),l):=by
 have h1:(List.replicate k (32:Int)++l).takeWhile (· == 32)=List.replicate k 32++l.takeWhile (· == 32):=List.takeWhile_append_of_pos (fun c hc=>by rw [(List.mem_replicate.1 hc).2];rfl)
 have h2:(List.replicate k (32:Int)++l).dropWhile (· == 32)=l.dropWhile (· == 32):=List.dropWhile_append_of_pos (fun c hc=>by rw [(List.mem_replicate.1 hc).2];rfl)
 have h3:l.takeWhile (· == 32)=[]∧l.dropWhile (· == 32)=l:=by
  cases l with
  | nil=>exact ⟨rfl,rfl⟩
  | cons c l =>
   have hc:¬c=32:=by rcases h with h|h;simp at h;simpa using h
   have he:(c == 32)=false:=beq_eq_false_iff_ne.2 hc
   exact ⟨by rw [List.takeWhile_cons,if_neg (by rw [he];exact Bool.false_ne_true)],by rw [List.dropWhile_cons,if_neg (by rw [he];exact Bool.false_ne_true)]⟩
 unfold lineOf;rw [h1,h2,h3.1,h3.2,List.append_nil,List.length_replicate]
theorem FV {ls:List Ln}{i k:Int}{t:List Int} (h1:i < ls.length) (h:ls.getD i.toNat (0,[])=(k,t)) (hm:¬k=0∨t.length=0):bZ ls i=false:=by
 unfold bZ;rw [decide_eq_false (by omega),h];have:aZ k t=0:=by unfold aZ;rw [if_neg (by rintro ⟨h1,h2,-⟩;omega)]
 rw [this];rfl
def Beg (c:Int):Prop:=blankI c=false∧¬c=35∧¬c=10
def I2 (w:List Int):Prop:=∀ c∈w,97≤c∧c≤122
def OD (b:List Int):Prop:=∀ c∈b,blankI c=true
theorem KW {c:Int} (h:blankI c=true):c=32∨c=9:=by
 unfold blankI at h;simpa using h
theorem rR {fl:Bool}:∀ {x r:List Int}{i:Nat},(∀ c∈x,oq fl c=false)→jL fl i (x++r)=jL fl (i+x.length) r
 | [],r,i,_=>rfl
 | c::x,r,i,h=>by
  rw [List.cons_append,jL,h c (by simp),if_neg Bool.false_ne_true,rR (fun c hc=>h c (by simp [hc]))];congr 1
  simp;omega
theorem A4 {x r:List Int}{i:Nat}:(x++r).getD (x.length+i) 0=r.getD i 0:=by
 simp only [List.getD_eq_getElem?_getD];rw [List.getElem?_append_right (by omega)];congr 2;omega
theorem LO {x r:List Int}{i:Nat}{fl:Bool}:eW (x++r) (x.length+i) fl=eW r i fl:=by
 unfold eW;rw [A4,List.length_append];congr 1
 exact decide_eq_decide.2 (by omega)
def RM (fl:Bool) (b r:List Int):Prop:=r=[]∨∃ c r',r=c::r'∧(fl=true∧kf c=true∨c=58∧eW r 1 fl=false∨c=35∧0 < b.length)
theorem G6 {w b r:List Int}{fl:Bool} (hw:I2 w) (hb:OD b) (hr:RM fl b r):iR (w++(b++r)) fl=(w++b).length:=by
 have hx:∀ c∈w++b,oq fl c=false:=fun c hc=>by
  rcases List.mem_append.1 hc with h|h
  ·have:=hw c h
   refine sD (by omega) (by omega) (.inr ?_);unfold kf;simp;omega
  ·rcases KW (hb c h) with rfl|rfl
   ·exact sD (by decide) (by decide) (.inr (by decide))
   ·exact sD (by decide) (by decide) (.inr (by decide))
 unfold iR;rw [gj,List.drop_zero,← List.append_assoc,rR hx,Nat.zero_add];rcases hr with rfl|⟨c,r',rfl,h⟩
 ·rw [List.append_nil];rfl
 ·have hs:oq fl c=true:=Ek (by
   rcases h with ⟨h1,h2⟩|⟨h,-⟩|⟨h,-⟩
   ·exact .inr (.inr ⟨h1,h2⟩)
   ·exact .inl h
   ·exact .inr (.inl h))
  have h0:(w++b++c::r').getD (w++b).length 0=c:=by
   have:=A4 (x:=w++b) (r:=c::r') (i:=0)
   rw [Nat.add_zero,List.getD_cons_zero] at this;exact this
  rw [jL,if_pos hs,qb,if_neg];rw [JE]
  ·exact Bool.false_ne_true
  ·rcases h with ⟨-,h2⟩|⟨-,h⟩|⟨h,-⟩
   ·refine .inl (by rw [h0];intro e;rw [e] at h2;cases h2)
   ·exact .inr (by rw [LO];exact h)
   ·exact .inl (by rw [h0,h];decide)
  ·rcases h with ⟨-,h2⟩|⟨h,-⟩|⟨-,h⟩
   ·refine .inl (by rw [h0];intro e;rw [e] at h2;cases h2)
   ·exact .inl (by rw [h0,h];decide)
   ·refine .inr ⟨by rw [List.length_append];omega, ?_⟩
    have hi:(w++b).length - 1 < (w++b).length:=by rw [List.length_append];omega
    rw [List.getD_eq_getElem?_getD,List.getElem?_append_left hi];have hi2:(w++b).length - 1=w.length+(b.length - 1):=by rw [List.length_append];omega
    rw [hi2,List.getElem?_append_right (by omega),show w.length+(b.length - 1) - w.length=b.length - 1 by omega,List.getElem?_eq_getElem (by omega)];exact hb _ (List.getElem_mem _)
theorem GB {w b:List Int} (hw:I2 w) (hb:OD b):iI (w++b)=w:=by
 unfold iI;rw [List.reverse_append,List.dropWhile_append_of_pos (fun c hc=>hb c (List.mem_reverse.1 hc))];have:w.reverse.dropWhile blankI=w.reverse:=by
  cases hr:w.reverse with
  | nil=>rfl
  | cons c r =>
   have hc:=hw c (List.mem_reverse.1 (by rw [hr];simp))
   have:blankI c=false:=by unfold blankI;simp;omega
   rw [List.dropWhile_cons,if_neg (by rw [this];exact Bool.false_ne_true)]
 rw [this,List.reverse_reverse]
theorem MV {w b r:List Int}{fl:Bool} (hw:I2 w) (hb:OD b) (hr:RM fl b r):gG (w++(b++r)) fl=w.length:=by
 unfold gG;rw [G6 hw hb hr,← List.append_assoc,List.take_left,GB hw hb]
theorem GW:∀ k:Fin 26,∀ fl:Bool,rP (97+(k.val:Int)) fl=true∧Ax (97+(k.val:Int))=false:=by decide +kernel
theorem SW {c:Int} (h:97≤c∧c≤122) (fl:Bool):rP c fl=true∧Ax c=false:=by
 have:=GW ⟨(c - 97).toNat,by omega⟩ fl
 rw [show 97+(((⟨(c - 97).toNat,by omega⟩:Fin 26).val:Nat):Int)=c by dsimp only;omega] at this;exact this
theorem z1 {w r:List Int}{fl:Bool} (hw:I2 w) (h0:0 < w.length):fJ (w++r) fl=true:=by
 cases w with
 | nil=>simp at h0
 | cons c w =>
  have hc:=hw c (by simp)
  obtain ⟨h1,h2⟩:=SW hc fl;unfold fJ eW;simp only [List.cons_append,List.getD_cons_zero,List.length_cons];rw [h1,h2,if_neg (by omega)];simp
theorem OQ {c:Int} (h:97≤c∧c≤122):Beg c:=⟨by unfold blankI;simp;omega,by omega,by omega⟩
theorem G8 {ls:List Ln}{n d:Int}{bk:Bool}{N:Nat→Int × Int→NodeR}{k:Nat}{q:Int × Int}{w b r:List Int} (hA:At ls q (w++(b++r))) (hw:I2 w) (h0:0 < w.length) (hb:OD b) (hr:RM (!(bk && decide (k=0))) b r)
  (hf:(∃ c r',r=c::r'∧blankI c=false)∨(bX ls n (bk && decide (k=0)) q.1).2=false):ki ls n d bk N k q=.ok ([⟨7,aK w,.empty,.empty,1,false⟩],(q.1,q.2+(w.length:Nat)),false):=by
 have hq:=hA.2.2.2.2.2
 have hstep:=hA.step
 have hbegin:=z1 (r:=b++r) (fl:=!(bk && decide (k=0))) hw h0
 have hen:=MV hw hb hr
 have hhead:∀ x:Int,¬(97≤x∧x≤122)→bU (w++(b++r)) x=false:=fun x hx=>by
  cases w with
  | nil=>simp at h0
  | cons c w =>
   have hc:=hw c (by simp)
   unfold bU;simp only [List.cons_append,List.getD_cons_zero];rw [beq_eq_false_iff_ne.2 (by omega),Bool.and_false]
 have hon:zj ls n q=some (some q):=by
  cases w with
  | nil=>simp at h0
  | cons c w =>
   have hB:=OQ (hw c (by simp))
   have:=xO (n:=n) (q8 (b:=[]) (by exact hA) (fun c hc=>by simp at hc) (by simp) (by simp only [List.cons_append,List.getD_cons_zero];exact hB.1) (by simp only [List.cons_append,List.getD_cons_zero];exact hB.2.1)) rfl
   rw [this];simp
 have htr:bS ls n q=.ok (uX,q,true):=by
  unfold bS;rw [hon];dsimp only;exact j6 (nT (by rw [hq];exact hhead _ (by decide)) (by rw [hq];exact hhead _ (by decide)))
 have hpast:¬((ca ls (q.1,q.2+(w.length:Nat))).2.length=0∧(bX ls n (bk && decide (k=0)) q.1).2=true):=by
  rintro ⟨h1,h2⟩;rcases hf with ⟨c,r',rfl,hc⟩|hf
  ·rw [hstep.past hb (.inr (by rw [List.getD_cons_zero];exact hc))] at h1
   simp at h1
  ·rw [hf] at h2;cases h2
 have hpl:fP ls n (bk && decide (k=0)) q (w++(b++r))=.ok (w,(q.1,q.2+(w.length:Nat))):=by
  unfold fP;rw [kQ,hen,if_neg (by simp),if_neg hpast];dsimp only;rw [List.nil_append,List.take_left,w6]
 unfold ki;rw [htr];dsimp only;rw [if_pos rfl,hq];unfold rq;rw [hhead 42 (by decide),hhead 34 (by decide),hhead 39 (by decide),hhead 91 (by decide),hhead 123 (by decide)];rw [if_neg Bool.false_ne_true,if_neg (by simp),if_neg (by simp),if_pos ⟨by rw [List.length_append];omega,hbegin⟩,hpl]
abbrev WB (w:List Int):EvV:=⟨7,aK w,.empty,.empty,1,false⟩
/-! ### Long keys -/
abbrev xs (n:Nat):List Int:=List.replicate n 120
abbrev En:=Nat × Bool
abbrev wE:EvV:=WB [119]
inductive Blk:Nat→List En→List EvV→List En→Prop
 | last {D:Nat}:Blk D [(D,true)] [wE] []
 | back {D:Nat} {b:Bool} {r:List En} (hD:0 < D):Blk (D+1) ((D+1,true)::(D,b)::r) [wE] ((D,b)::r)
 | same {D:Nat} {b:Bool} {r rest:List En} {ev:List EvV} (h:Blk D ((D,b)::r) ev rest):Blk D ((D,true)::(D,b)::r) (wE::ev) rest
 | deep {D:Nat} {r:List En} {ev:List EvV} (h:Blk (D+1) r ev []):Blk D ((D,false)::r) (dM 3 tp0::(ev++[ga 4])) []
 | more {D:Nat} {b:Bool} {r r2 rest:List En} {ev ev2:List EvV} (h:Blk (D+1) r ev ((D,b)::r2)) (h2:Blk D ((D,b)::r2) ev2 rest):Blk D ((D,false)::r) ((dM 3 tp0::(ev++[ga 4]))++ev2) rest
theorem getD_pre {pre l:List Ln}{i:Int} (h:0≤i):(pre++l).getD (i+(pre.length:Nat)).toNat (0,[])=l.getD i.toNat (0,[]):=by
 rw [List.getD_eq_getElem?_getD,List.getD_eq_getElem?_getD,List.getElem?_append_right (by omega),show (i+(pre.length:Nat)).toNat - pre.length=i.toNat by omega]
abbrev xC (r:List Int):Prop:=∀ c∈r,c=9∨32≤c∧c≤126
theorem HS {rows:List (List Int)} (h:∀ r∈rows,xC r):∀ c∈rows.flatMap (· ++ [(10:Int)]),c=9∨c=10∨32≤c∧c≤126:=fun c hc=>by
 obtain ⟨r,hr,hcr⟩:=List.mem_flatMap.1 hc;rcases List.mem_append.1 hcr with h1|h1
 ·have:=h r hr c h1;omega
 ·simp at h1;omega
abbrev No (s:Int) (l:List Int):EvV:=⟨7,aK l,.empty,.empty,s,false⟩
end Go.Proofs.YthkabaiamcjdbaaGreat
namespace Go.Abs
end Go.Abs
namespace Go.Proofs.YthkabaiamcjdbaaGreat
open Go.Abs
theorem Uk {c x:Int}{t:List Int} (h:¬c=x):bU (c::t) x=false:=kv (by rw [List.getD_cons_zero];exact h)
theorem FK {ls:List Ln}{i:Int}{x:Ln} (hi:0≤i∧i < ls.length) (hl:aF ls i=x):cd ls i=[x]:=by
 unfold cd;rw [if_pos hi];exact congrArg (fun x=>[x]) hl
theorem lU {ls:List Ln}{i:Int} (hb:¬(i < ls.length∧dW (aF ls i).2=true)):∀ f,dy ls f i=i
 | 0=>rfl
 | f+1=>by rw [dy,if_neg hb]
theorem uA {ls:List Ln}{i:Int} (ho:bZ ls i=true):fX ls i=.ok (i,false):=by
 unfold fX;rw [lU (GG ho),if_pos ho]
theorem zY {ls:List Ln}:bZ ls (ls.length:Nat)=true:=by unfold bZ;rw [decide_eq_true (by omega)];rfl
theorem F7 {ls:List Ln}{i:Int}{x:Ln} (hl:aF ls i=x) (hx:¬aZ x.1 x.2=0):bZ ls i=true:=by
 have hl:ls.getD i.toNat (0,[])=x:=hl
 unfold bZ;rw [hl];simp [hx]
theorem wg {ls:List Ln}{i:Int} (hb:¬(i < ls.length∧dW (aF ls i).2=true)) (hm:¬(i < ls.length∧aZ (aF ls i).1 (aF ls i).2=2)):gU ls i=(i,false,true):=by
 unfold gU;rw [lU hb,B4,if_neg hm]
abbrev O6 (l:List Int):Prop:=∀ c∈l,33≤c∧c≤126
abbrev Wds (l:List Int):Prop:=∀ c∈l,cr c=true
theorem np {c:Int} (h:cr c=true):33≤c∧c≤126:=by
 unfold cr at h;have:=of_decide_eq_true h
 omega
theorem Wds.prn {l:List Int} (h:Wds l):O6 l:=fun c hc=>np (h c hc)
theorem IS {c:Int} (h:oE c=true):33≤c∧c≤126:=by
 unfold oE at h;have:=of_decide_eq_true h
 simp only [uriL,List.mem_cons,List.not_mem_nil,or_false] at this;omega
theorem Fi {c:Int} (h:0≤iN c):33≤c∧c≤126:=by
 unfold iN at h
 (repeat' split at h)<;>omega
theorem yQ:∀ (n:Nat) (l:List Int),l.length≤n→cG dQ l=l.length→O6 l
 | n,[],_,_=>by intro c hc;simp at hc
 | 0,c::r,h,_=>by simp at h
 | n+1,c::r,h,hu=>by
  rw [sf] at hu;split at hu
  ·simp at hu
  ·rename_i hn
   have hs:¬bM (c::r)=0:=fun e=>hn (.inl e)
   have ih:=yQ n ((c::r).drop (bM (c::r))) (by simp only [List.length_drop,List.length_cons] at *;omega) (by rw [List.length_drop];omega)
   intro x hx;rw [← List.take_append_drop (bM (c::r)) (c::r)] at hx;rcases List.mem_append.1 hx with hx|hx
   ·clear ih hu hn
    unfold bM at hs hx;simp only at hs hx;split at hs
    ·rename_i h37
     simp only [h37,if_true] at hx;split at hs
     ·rename_i hh
      simp only [hh,and_self,if_true] at hx
      match r,hh with
      | y::z::r,hh =>
       have hy:=Fi hh.2.1
       have hz:=Fi hh.2.2
       simp at hx hy hz;omega
      | [y],hh=>exact absurd hh.1 (by simp)
      | [],hh=>exact absurd hh.1 (by simp)
     ·exact absurd rfl hs
    ·rename_i h37
     simp only [h37,if_false] at hx;split at hs
     ·rename_i hw
      simp only [hw,if_true] at hx;simp at hx;subst hx;rcases Bool.or_eq_true_iff.1 hw with h|h
      ·exact np h
      ·exact IS h
     ·exact absurd rfl hs
   ·exact ih x hx
theorem F5 {c:Int} (h:33≤c∧c≤126):blankI c=false:=by unfold blankI;simp;omega
theorem gz {l:List Int} (h:O6 l):aJ (aK l)=l:=by rw [gA,lh (fun c hc=>by have:=h c hc;omega)]
def dN (w:Nat) (h:List Int):List Int:=if w=0 then 33::(h++[33]) else if w=1 then [33,33] else [33]
theorem si {w:Nat}{h:List Int} (hh:Wds h):O6 (dN w h):=by
 intro c hc;unfold dN at hc;split at hc
 ·simp only [List.mem_cons,List.mem_append,List.not_mem_nil,or_false] at hc
  rcases hc with rfl|hc|rfl
  ·omega
  ·exact np (hh c hc)
  ·omega
 ·split at hc
  ·simp at hc;omega
  ·simp at hc;omega
theorem sX {w:Nat}{h:List Int}:∃ r,dN w h=33::r:=by
 unfold dN;split
 ·exact ⟨_,rfl⟩
 ·split<;>exact ⟨_,rfl⟩
theorem px {w:Nat}{h:List Int}:1≤(dN w h).length∧(dN w h).length≤h.length+2:=by
 unfold dN;split
 ·simp
 ·split<;>simp
theorem SZ {w:Nat}{h X:List Int} (hh:Wds h):max 1 (bB (dN w h++32::X))=(dN w h).length:=by
 unfold dN;split
 ·unfold bB
  have e:(33::(h++[33])++32::X).drop 1=h++(33::32::X):=by simp
  have a:nH (33::(h++[33])++32::X) (1+h.length) 33=true:=by
   refine decide_eq_true ⟨by simp;try omega, ?_⟩;have:(33::(h++[33])++32::X)=(33::h)++(33::32::X):=by simp
   rw [this,Go.Abs.getD_pre (p:=33::h) (by simp;try omega)];rfl
  rw [e,lO hh,iT (by decide),Nat.add_zero,a,if_pos rfl];simp;omega
 ·split
  ·unfold bB
   have e:([33,33]++32::X).drop 1=33::32::X:=by simp
   rw [e,iT (by decide),show nH ([33,33]++32::X) (1+0) 33=true from decide_eq_true ⟨by simp,by simp⟩];rfl
  ·unfold bB
   have e:([33]++32::X).drop 1=32::X:=by simp
   rw [e,iT (by decide),show nH ([33]++32::X) (1+0) 33=false from decide_eq_false (fun h=>by have:=h.2;simp at this)];rfl
abbrev cW (H p t:List Int):List Int:=[37,84,65,71,32]++(H++([32]++(p++t)))
theorem N3 {w:Nat}{h p t:List Int} (hh:Wds h) (hp:0 < p.length) (hu:cG dQ p=p.length) (hs:bM t=0) (ht:uq t=true):kB (cW (dN w h) p t)=(litT,aK (dN w h),aK p,true):=by
 have hpr:=yQ _ p (Nat.le_refl _) hu
 have hN:=SZ (w:=w) (X:=p++t) hh
 obtain ⟨r,hr⟩:=sX (w:=w) (h:=h);generalize dN w h=H at *;have d1:gT (cW H p t)=4:=by
  unfold gT;have e:(cW H p t).drop 1=[84,65,71]++(32::(H++([32]++(p++t)))):=by simp [cW]
  rw [e,lO (by decide),iT (by decide)];rfl
 have d2:oL (cW H p t)=1:=by
  unfold oL;have e:(cW H p t).drop 4=[32]++(33::(r++([32]++(p++t)))):=by rw [hr];simp [cW]
  rw [d1,e,lO (by decide),iT (by decide)];rfl
 have d3:mX (cW H p t)=litT:=by
  unfold mX;rw [d1];have e:((cW H p t).take 4).drop 1=[84,65,71]:=by simp [cW]
  rw [e];decide +kernel
 have e5:(cW H p t).drop 5=H++32::(p++t):=by simp [cW]
 have h1:kG (cW H p t) 5=5+H.length:=by
  unfold kG;rw [e5,hN]
 have e6:(cW H p t).drop (5+H.length)=32::(p++t):=by
  rw [← List.drop_drop,e5,ua rfl]
 have h2:jl (cW H p t) 5=6+H.length:=by
  obtain ⟨c,q,rfl⟩:∃ c q,p=c::q:=by cases p with
   | nil=>simp at hp
   | cons c q=>exact ⟨c,q,rfl⟩
  unfold jl;rw [h1,e6];have:gD blankI (32::(c::q++t))=1:=by
   have e:(32::(c::q++t))=[32]++(c::(q++t)):=rfl
   rw [e,lO (by decide),iT (F5 (hpr c (by simp)))];rfl
  rw [this];omega
 have e7:(cW H p t).drop (6+H.length)=p++t:=by
  rw [show 6+H.length=(5+H.length)+1 by omega,← List.drop_drop,e6];rfl
 have h3:nU (cW H p t) 5=p.length:=by
  unfold nU;rw [h2,e7,EX _ p t (Nat.le_refl _) hu hs]
 have a5:nH (cW H p t) 5 33=true:=by
  refine decide_eq_true ⟨by rw [hr];simp [cW];try omega, ?_⟩;rw [hr];rfl
 have hP:sa (cW H p t) 5=(aK H,aK p,true):=by
  rw [IL a5,h1,h2,h3];have g1:((cW H p t).take (5+H.length)).drop 5=H:=by
   unfold cW;exact ow rfl rfl
  have g2:((cW H p t).take (6+H.length+p.length)).drop (6+H.length)=p:=by
   have e:cW H p t=([37,84,65,71,32]++(H++[32]))++(p++t):=by simp [cW]
   rw [e];exact ow (by simp;try omega) (by simp;try omega)
  have g3:(cW H p t).drop (6+H.length+p.length)=t:=by
   rw [← List.drop_drop,e7,ua rfl]
  rw [g1,g2,g3,ht,decide_eq_true (by omega),decide_eq_true hp];rfl
 have a0:nH (cW H p t) 0 37=true:=decide_eq_true ⟨by simp [cW],by rfl⟩
 unfold kB;rw [a0,if_neg (by decide),d3,d1,d2,if_neg (by decide +kernel),if_pos rfl,show 4+1=5 from rfl,hP,if_pos ⟨rfl,by decide⟩]
theorem AH {h u t:List Int} (hh:Wds h) (h0:0 < u.length) (hu:Wds u) (hh0:0 < h.length) (hs:bM t=0):cK (33::(h++[33])++u++t)=(aK (33::(h++[33])++u),(((33::(h++[33])++u).length:Nat):Int),true):=by
 obtain ⟨c,q,rfl⟩:∃ c q,h=c::q:=by cases h with
  | nil=>simp at hh0
  | cons c q=>exact ⟨c,q,rfl⟩
 have hc:=np (hh c (by simp))
 have hc2:¬c=60:=fun e=>by
  have:=hh c (by simp)
  rw [e] at this
  revert this;decide
 generalize hG:(c::q)=h at *;have a0:nH (33::(h++[33])++u++t) 0 33=true:=decide_eq_true ⟨by simp,by simp⟩
 have a1:nH (33::(h++[33])++u++t) 1 60=false:=decide_eq_false (fun e=>by
  have:=e.2
  rw [← hG] at this;exact hc2 (by simpa using this))
 have hN:bB (33::(h++[33])++u++t)=h.length+2:=by
  unfold bB;have e:(33::(h++[33])++u++t).drop 1=h++(33::(u++t)):=by simp
  have a:nH (33::(h++[33])++u++t) (1+h.length) 33=true:=by
   refine decide_eq_true ⟨by simp;omega, ?_⟩;have:(33::(h++[33])++u++t)=(33::h)++(33::(u++t)):=by simp
   rw [this,Go.Abs.getD_pre (p:=33::h) (by simp;try omega)];rfl
  rw [e,lO hh,iT (by decide),Nat.add_zero,a,if_pos rfl];omega
 have em:max (bB (33::(h++[33])++u++t)) 1=h.length+2:=by rw [hN];omega
 have ed:(33::(h++[33])++u++t).drop (h.length+2)=u++t:=by
  rw [List.append_assoc];exact ua (by simp)
 unfold cK gl;rw [a0,a1,if_neg (by decide),if_neg (by decide),em,ed,kI _ t hu (.inl hs),if_neg (by omega)];have:(33::(h++[33])++u++t).take (u.length+(h.length+2))=33::(h++[33])++u:=by rw [List.take_left' (by simp;omega)]
 rw [this];congr 2<;>(simp;try omega)
abbrev cz (w:Nat) (h u:List Int):List Int:=dN w h++u
theorem JI {w:Nat}{h u:List Int} (hh:Wds h) (hh0:0 < h.length) (h0:0 < u.length) (hu:Wds u):cK (cz w h u++[32,97])=(aK (cz w h u),(((cz w h u).length:Nat):Int),true)∧cK (cz w h u)=(aK (cz w h u),(((cz w h u).length:Nat):Int),true):=by
 unfold cz dN;split
 ·refine ⟨AH hh h0 hu hh0 (by decide), ?_⟩
  have:=AH (t:=[]) hh h0 hu hh0 (by decide)
  rwa [List.append_nil] at this
 ·split
  ·refine ⟨(EV h0 hu (by decide)).trans ?_, ?_⟩
   ·congr 2<;>(simp;try omega)
   ·have:=EV (t:=[]) h0 hu (by decide)
    rw [List.append_nil] at this;rw [this];congr 2<;>(simp;try omega)
  ·refine ⟨(Nw h0 hu (by decide) (by decide) (by decide)).trans ?_, ?_⟩
   ·congr 2<;>(simp;try omega)
   ·have:=K0 h0 hu
    show cK (33::u)=_
    rw [this];congr 2<;>(simp;try omega)
structure TagG (G:List Int):Prop where
 hd:∃ r,G=33::r
 prn:O6 G
 tag:cK (G++[32,97])=(aK G,((G.length:Nat):Int),true)
theorem TagG.pos {G:List Int} (h:TagG G):0 < G.length:=by
 obtain ⟨r,rfl⟩:=h.hd;simp
theorem TagG.ne {G:List Int} (h:TagG G):cf (aK G)=false:=by
 unfold cf;rw [hU,decide_eq_false_iff_not];intro e;have:=congrArg aJ e
 rw [gz h.prn,E3] at this;have h0:=h.pos
 rw [this] at h0;simp at h0
abbrev Y5 (G:List Int) (q:Int × Int):TrV:=⟨.empty,aK G,(q.1,q.2+(G.length:Nat))⟩
theorem sI {ls:List Ln}{q:Int × Int}{G:List Int} (hA:At ls q (G++[32,97])):At ls (q.1,q.2+(G.length:Nat)+1) [97]:=At.step (a:=[32]) (l:=[97]) (At.step (a:=G) hA)
theorem rT {ls:List Ln}{n:Int}{q:Int × Int}{G:List Int} (hG:TagG G) (hA:At ls q (G++[32,97])):bS ls n q=.ok (Y5 G q,(q.1,q.2+(G.length:Nat)+1),true):=by
 have hq:=hA.2.2.2.2.2
 have hA1:At ls (q.1,q.2+(G.length:Nat)) [32,97]:=At.step (a:=G) hA
 have hA2:=sI hA
 obtain ⟨r,hr⟩:=hG.hd;have hcons:G++[32,97]=33::(r++[32,97]):=by rw [hr];rfl
 have hon:zj ls n q=some (some q):=by
  rw [hcons] at hA;have:=xO (n:=n) (q8 (b:=[]) (by exact hA) (fun c hc=>by simp at hc) (by simp) (by rw [List.getD_cons_zero];decide) (by rw [List.getD_cons_zero];decide)) rfl
  rw [this];simp
 have hon2:zj ls n (q.1,q.2+(G.length:Nat))=some (some (q.1,q.2+(G.length:Nat)+1)):=by
  have:=xO (n:=n) (q8 (b:=[32]) (r:=[97]) hA1 (fun c hc=>by simp at hc;subst hc;decide) (by decide) (by decide) (by decide)) rfl
  exact this
 have ht:dg ls q uX=some (some (Y5 G q)):=by
  rw [oy (by rw [hq,hcons];exact Uk (by decide)) (by rw [hq,hcons];exact km (by simp) rfl),hq,hG.tag];dsimp only;rw [hA1.2.2.2.2.2,if_pos (by decide +kernel)]
 obtain ⟨f',-,e⟩:=lk (n:=n) ht (f:=2) (Du _);unfold bS;rw [hon];dsimp only;rw [e];dsimp only;rw [hon2];dsimp only;refine j6 (nT ?_ ?_)
 ·rw [hA2.2.2.2.2.2];decide
 ·rw [hA2.2.2.2.2.2];decide
theorem G0 {ls:List Ln}{n d:Int}{N:Nat→Int × Int→NodeR}{q:Int × Int}{G:List Int} (hG:TagG G) (hA:At ls q (G++[32,97])) (hf:(bX ls n true q.1).2=false):ki ls n d true N 0 q=.ok ([⟨7,aK [97],aK G,.empty,1,false⟩],(q.1,q.2+(G.length:Nat)+1+1),false):=by
 have hA2:=sI hA
 have hpl:fP ls n true (q.1,q.2+(G.length:Nat)+1) [97]=.ok ([97],(q.1,q.2+(G.length:Nat)+1+1)):=by
  unfold fP;have hen:gG [97] (!true)=1:=by decide +kernel
  rw [kQ,hen,if_neg (by simp),if_neg (by rintro ⟨-,h⟩;rw [hf] at h;cases h)];dsimp only;rw [List.nil_append,show List.take 1 [(97:Int)]=[97] from rfl,w6];rfl
 unfold ki;rw [rT hG hA];dsimp only;rw [if_pos rfl,hA2.2.2.2.2.2];unfold rq;rw [show bU [97] 42=false from by decide,show bU [97] 34=false from by decide,show bU [97] 39=false from by decide,show bU [97] 91=false from by decide,show bU [97] 123=false from by decide];rw [if_neg Bool.false_ne_true,if_neg (by simp),if_neg (by simp),show (true && decide ((0:Nat)=0))=true from rfl,show (!true)=false from rfl,if_pos ⟨by decide,by decide +kernel⟩,hpl]
abbrev xv (G:List Int):Ln:=(0,G++[32,97])
theorem xG {ls:List Ln}{n:Int}{i:Int}{b:Bool} (h:bZ ls (i+1)=true):(bX ls n b i).2=false:=by
 unfold bX;rw [wo (by rw [h];rintro ⟨h,-⟩;cases h),if_pos (.inl h)]
theorem Rc {ls:List Ln}{n d:Int}{N:Nat→Int × Int→NodeR}{q:Int × Int} (hA:At ls q [97]) (hf:(bX ls n true q.1).2=false):ki ls n d true N 0 q=.ok ([⟨7,aK [97],.empty,.empty,1,false⟩],(q.1,q.2+1),false) :=
 G8 (n:=n) (d:=d) (bk:=true) (k:=0) (w:=[97]) (b:=[]) (r:=[]) (by exact hA) (fun c hc=>by simp at hc;omega) (by decide) (fun c hc=>by simp at hc) (.inl rfl) (.inr hf)
theorem V7 {G:List Int} (hG:TagG G):qa [xv G] 0=none:=by
 have hA:At [xv G] (0,0) (G++[32,97]):=I8 (by decide) (by simp) rfl (by decide)
 have hw:ct [xv G] (-1) 0 true (0,0)=.ok ([⟨7,aK [97],aK G,.empty,1,false⟩],(0,0+(G.length:Nat)+1+1),false):=G0 (n:=-1) (d:=0) (N:=lb [xv G] (-1) 0 true 199) hG hA (xG (by unfold bZ;rfl))
 have hA3:At [xv G] (0,0+(G.length:Nat)+1+1) []:=At.step (a:=[97]) (l:=[]) (sI hA)
 unfold qa;split
 ·rfl
 ·rw [hw]
  dsimp only;have hp:=hA3.past (b:=[]) (r:=[]) (fun c hc=>by simp at hc) (.inl rfl)
  rw [hp,if_neg (by unfold lf bU;simp)]
theorem Ny {G:List Int} (hG:TagG G) {ls:List Ln}{i:Int} (hi:0≤i∧i < ls.length) (hl:aF ls i=xv G):gn ls i 0=.ok ((ByteArray.empty,aK G),((G.length:Nat):Int)):=by
 have hA:At [xv G] (0,0) (G++[32,97]):=I8 (by decide) (by simp) rfl (by decide)
 unfold gn;rw [FK hi hl,rT hG hA];dsimp only;have:jW (Y5 G (0,0))=true:=by
  unfold jW;dsimp only;rw [hG.ne];simp
 rw [if_pos this]
 try dsimp only
 rw [Int.zero_add]
theorem sk {ls:List Ln}{i c:Int}{k:Int}{a r:List Int} (hl:aF ls i=(0,a++r)) (hc:c=(a.length:Nat)) (hb:pg r=k.toNat) (hk:0≤k) (hh:bU (r.drop (pg r)) 35=false):bz ls i c=(r.drop (pg r),c+k):=by
 have hcut:jO ls i c=r:=by
  unfold jO;rw [hl];dsimp only;have:(min (max c 0 - 0) (((a++r).length:Nat):Int)).toNat=a.length:=by rw [List.length_append];omega
  rw [this];exact List.drop_left' rfl
 unfold bz;rw [hcut,hh,if_neg (by rintro ⟨h,-⟩;cases h),hl];dsimp only;rw [hb];congr 1
 omega
abbrev Gj (G:List Int):EvV:=⟨7,aK [97],aK G,.empty,1,false⟩
theorem Tm {G:List Int} (hG:TagG G) {ls:List Ln}{i:Int} (hi:0≤i∧i < ls.length) (hl:aF ls i=xv G) (ho:bZ ls (i+1)=true):kr ls i ((G.length:Nat):Int) (-1) 0 (ByteArray.empty,aK G)=.ok ([Gj G],i+1):=by
 have hA:At ls (i,0) (G++[32,97]):=I8 hi.1 hi.2 hl (by decide)
 have hA2:At ls (i,((G.length:Nat):Int)+1) [97]:=by
  have:=sI hA
  dsimp only at this
  rwa [Int.zero_add] at this
 have hr:bz ls i ((G.length:Nat):Int)=([97],((G.length:Nat):Int)+1):=sk (k:=1) hl rfl (by decide) (by decide) (by decide)
 have hr2:(bz ls i (((G.length:Nat):Int)+1+1)).1=[]:=by
  rw [sk (k:=0) (a:=G++[32,97]) (r:=[]) (by rw [hl,List.append_nil]) (by simp;omega) (by decide) (by decide) (by decide)];rfl
 unfold kr;rw [hr];dsimp only;rw [show bU [97] 124=false from by decide,show bU [97] 62=false from by decide,if_neg (by simp)];have hw:ct ls (-1) 0 true (i,((G.length:Nat):Int)+1)=.ok ([⟨7,aK [97],.empty,.empty,1,false⟩],(i,((G.length:Nat):Int)+1+1),false):=Rc (N:=lb ls (-1) 0 true 199) hA2 (xG ho)
 rw [hw];dsimp only;have hn:rN (ByteArray.empty,aK G)=false:=by
  unfold rN;dsimp only;rw [hG.ne,Bool.and_false]
 have hset:nX (ByteArray.empty,aK G) [⟨7,aK [97],.empty,.empty,1,false⟩]=some [Gj G]:=by
  unfold nX;dsimp only;rw [if_neg (by decide),hn];rfl
 rw [hset];dsimp only;unfold Gg;rw [hr2,if_neg (by simp)]
theorem Y6 {G:List Int} (hG:TagG G) {ls:List Ln}{i:Int}{S:Int→Int→Bool→TP→PR}{M:Int→Int→TP→PR}{R:Int→Int→Bool→TP→PR} (hi:0≤i∧i < ls.length) (hl:aF ls i=xv G) (ho:bZ ls (i+1)=true):F0 ls S M R 0 (-1) i 0 true tp0=.ok ([Gj G],i+1):=by
 obtain ⟨r,hr⟩:=hG.hd;have hs:∀ k,¬k=33→fb ls i 0 k=false:=fun k hk=>by
  unfold fb;rw [hl,hr];simp;intro h;omega
 unfold F0 Ao;rw [hs 45 (by decide),hs 63 (by decide),if_neg (by simp),FK hi hl,V7 hG,if_neg (by simp),Ny hG hi hl];dsimp only;have hj:ob tp0 (ByteArray.empty,aK G)=some (ByteArray.empty,aK G):=by
  unfold ob;dsimp only;rw [show cf ByteArray.empty=true by decide +kernel,ByteArray.empty_append,ByteArray.empty_append];rfl
 rw [hj];dsimp only;have hr:bz ls i ((G.length:Nat):Int)=([97],((G.length:Nat):Int)+1):=sk (k:=1) hl rfl (by decide) (by decide) (by decide)
 rw [hr,if_pos (by simp),Tm hG hi hl ho]
theorem qz {c:Int}{r:List Int} (h:blankI c=false) (h2:¬c=35):dW (c::r)=false:=by
 unfold dW;rw [List.all_cons,h,List.dropWhile_cons,h];simp [h2]
theorem pD {c:Int}{r:List Int} (h:¬c=45) (h2:¬c=46):aZ 0 (c::r)=0:=by
 unfold aZ;split
 ·rw [List.getD_cons_zero,if_neg h,if_neg h2]
 ·rfl
theorem QB {G:List Int} (hG:TagG G) {ls:List Ln}{j k:Int} (hj:0≤j∧j+1 < ls.length) (hB:aF ls j=(0,[45,45,45])) (hl:aF ls (j+1)=xv G) (ho:bZ ls (j+1+1)=true) (h0:bZ ls (j+1)=false) (hk:fX ls (j+1+1)=.ok (k,false)):jz ls j 3=.ok ([Gj G],k):=by
 obtain ⟨r,hr⟩:=hG.hd;have hre:(bz ls j 3).1=[]:=by
  rw [sk (c:=3) (k:=0) (a:=[45,45,45]) (r:=[]) (by rw [hB];rfl) rfl (by decide) (by decide) (by decide)];rfl
 have hb:dW (aF ls (j+1)).2=false:=by
  rw [hl,hr];exact qz (by decide) (by decide)
 have hn:fX ls (j+1)=.ok (j+1,true):=by
  unfold fX;rw [lU (by rw [hb];rintro ⟨-,h⟩;cases h),h0,if_neg (by simp),hl,hr,if_neg (by simp)]
 unfold jz o6;rw [eJ,hre,if_neg (by simp),hn];dsimp only;rw [hl,if_neg (by rintro (h|h|⟨h,-⟩)<;>first|(cases h;done)|(exact absurd h (by show ¬(0:Int) = -1;decide))|(exact absurd h (by show ¬(0:Int) < -1;decide))),if_neg (by show ¬(0:Int) = -1;decide)];rw [Y6 hG ⟨by omega,hj.2⟩ hl ho];dsimp only;rw [hk];rfl
end Go.Proofs.YthkabaiamcjdbaaGreat
