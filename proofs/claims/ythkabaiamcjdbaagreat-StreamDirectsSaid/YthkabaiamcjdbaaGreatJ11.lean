/-
  Texts Hr, Hs, one behind the other.
-/
import Derived.Test.YthkabaiamcjdbaaGreatJ10
set_option linter.unusedVariables false
set_option linter.unusedSimpArgs false
set_option maxHeartbeats 16000000
namespace Go.Proofs.YthkabaiamcjdbaaGreat
open Go.Abs
variable {κ:Ctx} {σ:List Res} {K:Ret→List Res→Prop} {o o':Option (Option (Nat × Nat))}
theorem tQ {ls:List Ln}{n:Int}{E:Int × Int→PartR}{c:Int}{f:Nat}{q:Int × Int}{acc:List EvV}:dF ls n E c (f+1) q acc =
  if l8 ls q c=true then .ok (acc,q)
  else match E q with
   | .error e=>.error e
   | .ok (ev,e)=>match dh ls n e with
    | .error e=>.error e
    | .ok q2 =>
     if l8 ls q2 44=false then (if l8 ls q2 c=true then .ok (acc++ev,q2) else .error 2)
     else match dh ls n (q2.1,q2.2+1) with
      | .error e=>.error e
      | .ok q3=>dF ls n E c f q3 (acc++ev):=rfl
theorem IB {bj:Nat}{ls:List Ln}{n d c:Int}{bk:Bool}{N:Nat→Int × Int→NodeR}{x y:AV}{op:List Int}{l:List EvV}{τ σ0:List Res}{p:Int × Int}{v:TrV}{E:Int × Int→PartR}{F:FuncId}{sh kd:Int} (hs:Small ls) (hd:0≤d∧d≤1000000000)
  (hE:cO d op.length 0=true→pV κ bj ls n d bk E F (op.length+1)) (hG:zT ls E) (hc:(c=123∧F=178∧sh=125∧kd=5)∨(¬c=123∧F=177∧sh=93∧kd=3)) (hJ:JX x y op l τ σ0) (hlo:op.length≤1000000) (hp:Pl ls p) (h0:0 < (aH ls p).length) (hb:l.length+8 * mu p+8≤1000000000)
  (h1:∀ q ev e,cO d op.length 0=true→dh ls n (p.1,p.2+1)=.ok q→dF ls n E sh (mu p+1) q []=.ok (ev,e)→∀ x' y' τ',JX x' y' op (l++(iP kd v::(ev++[ga (kd+1)]))) τ' σ0→K (.ret (cU (e.1,e.2+1))) (.obj bj (JC ls n bk d x' y')::τ'))
  (h2:∀ e,((cO d op.length 0=false∧e=8)∨(cO d op.length 0=true∧dh ls n (p.1,p.2+1)=.error e)∨(cO d op.length 0=true∧∃ q,dh ls n (p.1,p.2+1)=.ok q∧dF ls n E sh (mu p+1) q []=.error e))→∀ x' y' op' l' τ',JX x' y' op' l' τ' σ0→K (.pan (bN e)) (.obj bj (JC ls n bk d x' y')::τ')) :
  ACallF κ Tryz.prog 144 [JP bj,cU p,I c,xL v] (.obj bj (JC ls n bk d x y)::τ) K:=by
 have hll:l.length≤1000000000:=by omega
 have p64:=hp.in64 hs
 have pw1:=hp.w1 hs
 have a6:=en hs hp
 have a7:=Pl.behind (n:=1) hs h0 (by omega)
 have hq4:∀ q:Int × Int,l8 ls q 44=true→0 < (aH ls q).length:=fun q h=>lA h
 cases hr:cO d op.length 0
 ·rcases hc with ⟨hc,rfl,rfl,rfl⟩|⟨hc,rfl,rfl,rfl⟩
  all_goals
   refine ACallF.dropL (aa Tryz.func144 rfl ?_);simp only [Tryz.ntmps144]
   repeat' (first|simp only [WL,ay,WM,reduceCtorEq,bg,Nat.reduceAdd,Nat.reduceSub,Nat.reduceEqDiff,beq_self_eq_true,true_and,T9,fR iD,fR ir,na,hc]|(with_reducible first|refine ax (hb:=?_)|refine au (hK:=?_)|refine aQ (hK:=fun b=>?_)|refine aV (hK:=fun b=>?_)|refine aI (hK:=?_)|refine cD (jH (e:=iP 5 v) hJ (by omega) hll hd (fun h=>by rw [hr] at h;cases h) (fun h=>?_))|refine cD (jH (e:=iP 3 v) hJ (by omega) hll hd (fun h=>by rw [hr] at h;cases h) (fun h=>?_)))|((with_reducible first|refine ai (fun h=>?_) (fun h=>?_)|refine ab (fun h=>?_) (fun h=>?_))<;>(try simp only [h])<;>(try simp only [bf,ba] at h))|omega)
   exact aS bC rfl (h2 8 (.inl ⟨hr,rfl⟩) _ _ _ _ _ hJ)
 ·cases hm:dh ls n (p.1,p.2+1) with
  | error e =>
   rcases hc with ⟨hc,rfl,rfl,rfl⟩|⟨hc,rfl,rfl,rfl⟩
   all_goals
    refine ACallF.dropL (aa Tryz.func144 rfl ?_);simp only [Tryz.ntmps144]
    repeat' (first|simp only [WL,ay,WM,reduceCtorEq,bg,Nat.reduceAdd,Nat.reduceSub,Nat.reduceEqDiff,beq_self_eq_true,true_and,T9,fR iD,fR ir,cP,na,c8,hc]|(with_reducible first|refine ax (hb:=?_)|refine au (hK:=?_)|refine aA (hK:=?_)|refine aQ (hK:=fun b=>?_)|refine aV (hK:=fun b=>?_)|refine aI (hK:=?_)|refine cD (jH (e:=iP 5 v) hJ (by omega) hll hd (fun h x' y' τ' hJ'=>?_) (fun h=>by rw [hr] at h;cases h))|refine cD (jH (e:=iP 3 v) hJ (by omega) hll hd (fun h x' y' τ' hJ'=>?_) (fun h=>by rw [hr] at h;cases h))|refine cD (jq (p:=(p.1,p.2+1)) hm hs pw1 ?_)|refine cD (cm ?_ ?_))|((with_reducible first|refine ai (fun h=>?_) (fun h=>?_)|refine ab (fun h=>?_) (fun h=>?_))<;>(try simp only [h])<;>(try simp only [bf,ba] at h))|omega)
    exact aS bC rfl (h2 _ (.inr (.inl ⟨hr,hm⟩)) _ _ _ _ _ (by assumption))
  | ok q0 =>
   obtain ⟨a1,a2,a3,a4⟩:=fQ hs hm;have a5:=e8 hs hm pw1.2.2.2
   have hE:pV κ bj ls n d bk E F (op.length+1):=@fun _ _ _ _ _ _ _ _=>hE hr
   rcases hc with ⟨hc,rfl,rfl,rfl⟩|⟨hc,rfl,rfl,rfl⟩
   all_goals
    refine ACallF.dropL (aa Tryz.func144 rfl ?_);simp only [Tryz.ntmps144]
    repeat' (first|simp only [WL,ay,WM,reduceCtorEq,bg,Nat.reduceAdd,Nat.reduceSub,Nat.reduceEqDiff,beq_self_eq_true,true_and,T9,fR iD,fR ir,cP,na,c8,hc]|(with_reducible first|refine ax (hb:=?_)|refine au (hK:=?_)|refine aA (hK:=?_)|refine az (hK:=?_)|refine aQ (hK:=fun b=>?_)|refine aV (hK:=fun b=>?_)|refine aI (hK:=?_)|refine cD (jH (e:=iP 5 v) hJ (by omega) hll hd (fun h x' y' τ' hJ'=>?_) (fun h=>by rw [hr] at h;cases h))|refine cD (jH (e:=iP 3 v) hJ (by omega) hll hd (fun h x' y' τ' hJ'=>?_) (fun h=>by rw [hr] at h;cases h))|refine cD (cq (p:=(p.1,p.2+1)) hm hs pw1 ?_)|refine cD (cm ?_ ?_))|((with_reducible first|refine ai (fun h=>?_) (fun h=>?_)|refine ab (fun h=>?_) (fun h=>?_))<;>(try simp only [h])<;>(try simp only [bf,ba] at h))|omega)
   ·
    rename_i b5 b7 b8;refine bF (fun z:(Int × Int) × List EvV × AV × AV × List Res=>⟨(JP bj::cU p::I c::xL v::.any::JP b5::.any::JP b7::JP b8::I 5::I 125::.raw (.func (.func 178) #[.pointer (some ⟨bj,0,none⟩)] #[])::JP b::.any::.any::.any::.any::.any::.any::.any::.any::.any::.any::.any::.any::.any::.any::.any::.any::.any::.any::.any::.any::.any::.any::.any::.any::.any::.any::.any::.any::.any::.any::.any::.any::.any::.any::.any::.any::.any::.any::.any::.any::.any::.any::.any::.any::.any::.any::.any::[]),.obj b [I z.1.1,I z.1.2]::.obj b8 [I 0,I 0]::.obj b7 (xj v)::.obj b5 [I p.1,I p.2]::.obj bj (JC ls n bk d z.2.2.1 z.2.2.2.1)::z.2.2.2.2,true,[]⟩)
     (fun z=>JX z.2.2.1 z.2.2.2.1 (op++[5]) (l++[iP 5 v]++z.2.1) z.2.2.2.2 σ0∧Pl ls z.1∧z.2.1.length+8 * mu z.1+8≤8 * mu p∧∃ f,mu z.1 < f∧dF ls n E 125 (mu p+1) q0 []=dF ls n E 125 f z.1 z.2.1) (fun z=>mu z.1) (q0,[],x',y',τ') (aq bH id) ⟨by rw [List.append_nil];exact hJ',a2,by simp;omega,mu p+1,by dsimp only;omega,rfl⟩ ?_
    rintro ⟨q,acc,x1,y1,τ1⟩ ⟨g1,g2,g3,f,g4,g5⟩;dsimp only at g1 g2 g3 g4 g5 ⊢;cases f with
    | zero=>omega
    | succ f =>
    replace g5:=g5.trans tQ
    have q64:=g2.in64 hs
    have hlk:(op++[(5:Int)]).length=op.length+1:=by simp
    have hl1:(l++[iP 5 v]++acc).length=l.length+1+acc.length:=by simp;omega
    have hll1:(l++[iP 5 v]++acc).length≤1000000000:=by omega
    cases hi:l8 ls q 125
    ·rw [hi,if_neg Bool.false_ne_true] at g5
     cases he:E q with
     | error e =>
      rw [he] at g5
      repeat' (first|simp only [WL,WM,Bool.not_false,true_and,rf,dB,hi]|(with_reducible first|refine aA (hK:=?_)|refine cD (o7 (p:=q) hs q64 ?_)|refine callD_mk (KG hE he hlk g1 g2 (by omega) (fun x'' y'' op' l' τ'' hJ''=>?_))))
      exact aS bC rfl (h2 _ (.inr (.inr ⟨hr,_,hm,g5⟩)) _ _ _ _ _ (by assumption))
     | ok r =>
      obtain ⟨ev,e⟩:=r;rw [he] at g5;obtain ⟨c1,c2,c3⟩:=hG _ _ _ g2 he;have ew:=c2.w hs
      cases hm2:dh ls n e with
      | error e2 =>
       simp only [hm2] at g5
       repeat' (first|simp only [WL,WM,Bool.not_false,true_and,rf,c8,dB,hi]|(with_reducible first|refine aA (hK:=?_)|refine cD (o7 (p:=q) hs q64 ?_)|refine callD_mk (kz hE he hlk g1 g2 (by omega) (fun x'' y'' τ'' hJ''=>?_))|refine cD (jq (p:=e) hm2 hs ew ?_)))
       exact aS bC rfl (h2 _ (.inr (.inr ⟨hr,_,hm,g5⟩)) _ _ _ _ _ (by assumption))
      | ok q2 =>
       simp only [hm2] at g5;obtain ⟨e1,e2,e3,e4⟩:=fQ hs hm2;have e5:=e8 hs hm2 c2.2.2.1
       have e6:=en hs e2
       have q264:=e2.in64 hs
       have q2w:=e2.w1 hs
       cases hi2:l8 ls q2 44
       ·rw [hi2,if_pos rfl] at g5
        cases hi3:l8 ls q2 125
        ·rw [hi3,if_neg Bool.false_ne_true] at g5
         repeat' (first|simp only [WL,WM,Nat.reduceAdd,Bool.not_false,true_and,dz,rf,c8,dB,hi,hi2,hi3]|(with_reducible first|refine aA (hK:=?_)|refine az (hK:=?_)|refine cD (o7 (p:=q) hs q64 ?_)|refine cD (o7 (p:=q2) hs q264 ?_)|refine callD_mk (kz hE he hlk g1 g2 (by omega) (fun x'' y'' τ'' hJ''=>?_))|refine cD (cq (p:=e) hm2 hs ew ?_)|refine cD (jQ ?_)))
         exact aS bC rfl (h2 _ (.inr (.inr ⟨hr,_,hm,g5⟩)) _ _ _ _ _ (by assumption))
        ·rw [hi3,if_pos rfl] at g5
         have e7:=Pl.behind (n:=1) hs e3 (by omega)
         unfold Pl at e7
         repeat' (first|simp only [WL,ay,WM,reduceCtorEq,bg,Nat.reduceAdd,Bool.not_false,true_and,reduceIte,cP,dz,rf,c8,dB,qB,Tryz.results144,hi,hi2,hi3]|simp (disch:=first|omega|(simp only [aU];omega)) only [an]|(with_reducible first|refine ax (hb:=?_)|refine aA (hK:=?_)|refine az (hK:=?_)|refine cD (o7 (p:=q) hs q64 ?_)|refine cD (o7 (p:=q2) hs q264 ?_)|refine callD_mk (kz hE he hlk g1 g2 (by omega) (fun x'' y'' τ'' hJ''=>?_))|refine cD (cq (p:=e) hm2 hs ew ?_)|refine cD (mI ?_)|refine cD (Gv hJ'' (by omega) (by rw [List.length_append];omega) (fun x3 y3 τ3 hJ3=>?_))|refine cD (cm ?_ ?_))|((with_reducible refine aY ?_);apply di (hf:=Tryz.results144);exact bn)|omega)
         simp only [List.append_assoc,List.cons_append,List.nil_append] at hJ3;exact ak bC (aj rfl) (h1 _ _ _ hr hm g5 _ _ _ (by simpa using hJ3))
       ·rw [hi2,if_neg (by decide)] at g5
        cases hm3:dh ls n (q2.1,q2.2+1) with
        | error e2 =>
         simp only [hm3] at g5
         repeat' (first|simp only [WL,WM,Nat.reduceAdd,Bool.not_true,Bool.not_false,true_and,cP,rf,c8,dB,hi,hi2]|(with_reducible first|refine ax (hb:=?_)|refine aA (hK:=?_)|refine az (hK:=?_)|refine cD (o7 (p:=q) hs q64 ?_)|refine cD (o7 (p:=q2) hs q264 ?_)|refine callD_mk (kz hE he hlk g1 g2 (by omega) (fun x'' y'' τ'' hJ''=>?_))|refine cD (jq (p:=(q2.1,q2.2+1)) hm3 hs q2w ?_)|refine cD (cq (p:=e) hm2 hs ew ?_)|refine cD (cm ?_ ?_))|omega)
         exact aS bC rfl (h2 _ (.inr (.inr ⟨hr,_,hm,g5⟩)) _ _ _ _ _ (by assumption))
        | ok q3 =>
         simp only [hm3] at g5;obtain ⟨k1,k2,k3,k4⟩:=fQ hs hm3;have k5:=e8 hs hm3 q2w.2.2.2
         repeat' (first|simp only [WL,WM,Nat.reduceAdd,Bool.not_true,Bool.not_false,true_and,cP,rf,c8,dB,hi,hi2]|(with_reducible first|refine ax (hb:=?_)|refine aA (hK:=?_)|refine az (hK:=?_)|refine cD (o7 (p:=q) hs q64 ?_)|refine cD (o7 (p:=q2) hs q264 ?_)|refine callD_mk (kz hE he hlk g1 g2 (by omega) (fun x'' y'' τ'' hJ''=>?_))|refine cD (cq (p:=(q2.1,q2.2+1)) hm3 hs q2w ?_)|refine cD (cq (p:=e) hm2 hs ew ?_)|refine cD (cm ?_ ?_))|omega)
         exact ⟨(q3,acc++ev,x'',y'',τ''),aq bH id,⟨by rw [← List.append_assoc];exact hJ'',k2,by dsimp only;rw [List.length_append];omega,f,by dsimp only;omega,g5⟩,by dsimp only;omega⟩
    ·rw [hi,if_pos rfl] at g5
     have e7:=Pl.behind (n:=1) hs (lA hi) (by have:=lA hi;omega)
     unfold Pl at e7
     repeat' (first|simp only [WL,ay,WM,reduceCtorEq,bg,Nat.reduceAdd,Bool.not_true,true_and,cP,dB,qB,Tryz.results144,hi]|simp (disch:=first|omega|(simp only [aU];omega)) only [an]|(with_reducible first|refine ax (hb:=?_)|refine aA (hK:=?_)|refine az (hK:=?_)|refine cD (o7 (p:=q) hs q64 ?_)|refine cD (Gv g1 (by omega) (by omega) (fun x3 y3 τ3 hJ3=>?_))|refine cD (cm ?_ ?_))|((with_reducible refine aY ?_);apply di (hf:=Tryz.results144);exact bn)|omega)
     exact ak bC (aj rfl) (h1 _ _ _ hr hm g5 _ _ _ (by simpa using hJ3))
   ·
    rename_i b5 b7 b8 hx;refine bF (fun z:(Int × Int) × List EvV × AV × AV × List Res=>⟨(JP bj::cU p::I c::xL v::.any::JP b5::.any::JP b7::JP b8::I 3::I 93::.raw (.func (.func 177) #[.pointer (some ⟨bj,0,none⟩)] #[])::JP b::.any::.any::.any::.any::.any::.any::.any::.any::.any::.any::.any::.any::.any::.any::.any::.any::.any::.any::.any::.any::.any::.any::.any::.any::.any::.any::.any::.any::.any::.any::.any::.any::.any::.any::.any::.any::.any::.any::.any::.any::.any::.any::.any::.any::.any::.any::.any::[]),.obj b [I z.1.1,I z.1.2]::.obj b8 [I 0,I 0]::.obj b7 (xj v)::.obj b5 [I p.1,I p.2]::.obj bj (JC ls n bk d z.2.2.1 z.2.2.2.1)::z.2.2.2.2,true,[]⟩)
     (fun z=>JX z.2.2.1 z.2.2.2.1 (op++[3]) (l++[iP 3 v]++z.2.1) z.2.2.2.2 σ0∧Pl ls z.1∧z.2.1.length+8 * mu z.1+8≤8 * mu p∧∃ f,mu z.1 < f∧dF ls n E 93 (mu p+1) q0 []=dF ls n E 93 f z.1 z.2.1) (fun z=>mu z.1) (q0,[],x',y',τ') (aq bH id) ⟨by rw [List.append_nil];exact hJ',a2,by simp;omega,mu p+1,by dsimp only;omega,rfl⟩ ?_
    rintro ⟨q,acc,x1,y1,τ1⟩ ⟨g1,g2,g3,f,g4,g5⟩;dsimp only at g1 g2 g3 g4 g5 ⊢;cases f with
    | zero=>omega
    | succ f =>
    replace g5:=g5.trans tQ
    have q64:=g2.in64 hs
    have hlk:(op++[(3:Int)]).length=op.length+1:=by simp
    have hl1:(l++[iP 3 v]++acc).length=l.length+1+acc.length:=by simp;omega
    have hll1:(l++[iP 3 v]++acc).length≤1000000000:=by omega
    cases hi:l8 ls q 93
    ·rw [hi,if_neg Bool.false_ne_true] at g5
     cases he:E q with
     | error e =>
      rw [he] at g5
      repeat' (first|simp only [WL,WM,Bool.not_false,true_and,qP,dB,hi]|(with_reducible first|refine aA (hK:=?_)|refine cD (o7 (p:=q) hs q64 ?_)|refine callD_mk (KG hE he hlk g1 g2 (by omega) (fun x'' y'' op' l' τ'' hJ''=>?_))))
      exact aS bC rfl (h2 _ (.inr (.inr ⟨hr,_,hm,g5⟩)) _ _ _ _ _ (by assumption))
     | ok r =>
      obtain ⟨ev,e⟩:=r;rw [he] at g5;obtain ⟨c1,c2,c3⟩:=hG _ _ _ g2 he;have ew:=c2.w hs
      cases hm2:dh ls n e with
      | error e2 =>
       simp only [hm2] at g5
       repeat' (first|simp only [WL,WM,Bool.not_false,true_and,qP,c8,dB,hi]|(with_reducible first|refine aA (hK:=?_)|refine cD (o7 (p:=q) hs q64 ?_)|refine callD_mk (kz hE he hlk g1 g2 (by omega) (fun x'' y'' τ'' hJ''=>?_))|refine cD (jq (p:=e) hm2 hs ew ?_)))
       exact aS bC rfl (h2 _ (.inr (.inr ⟨hr,_,hm,g5⟩)) _ _ _ _ _ (by assumption))
      | ok q2 =>
       simp only [hm2] at g5;obtain ⟨e1,e2,e3,e4⟩:=fQ hs hm2;have e5:=e8 hs hm2 c2.2.2.1
       have e6:=en hs e2
       have q264:=e2.in64 hs
       have q2w:=e2.w1 hs
       cases hi2:l8 ls q2 44
       ·rw [hi2,if_pos rfl] at g5
        cases hi3:l8 ls q2 93
        ·rw [hi3,if_neg Bool.false_ne_true] at g5
         repeat' (first|simp only [WL,WM,Nat.reduceAdd,Bool.not_false,true_and,dz,qP,c8,dB,hi,hi2,hi3]|(with_reducible first|refine aA (hK:=?_)|refine az (hK:=?_)|refine cD (o7 (p:=q) hs q64 ?_)|refine cD (o7 (p:=q2) hs q264 ?_)|refine callD_mk (kz hE he hlk g1 g2 (by omega) (fun x'' y'' τ'' hJ''=>?_))|refine cD (cq (p:=e) hm2 hs ew ?_)|refine cD (jQ ?_)))
         exact aS bC rfl (h2 _ (.inr (.inr ⟨hr,_,hm,g5⟩)) _ _ _ _ _ (by assumption))
        ·rw [hi3,if_pos rfl] at g5
         have e7:=Pl.behind (n:=1) hs e3 (by omega)
         unfold Pl at e7
         repeat' (first|simp only [WL,ay,WM,reduceCtorEq,bg,Nat.reduceAdd,Bool.not_false,true_and,reduceIte,cP,dz,qP,c8,dB,qB,Tryz.results144,hi,hi2,hi3]|simp (disch:=first|omega|(simp only [aU];omega)) only [an]|(with_reducible first|refine ax (hb:=?_)|refine aA (hK:=?_)|refine az (hK:=?_)|refine cD (o7 (p:=q) hs q64 ?_)|refine cD (o7 (p:=q2) hs q264 ?_)|refine callD_mk (kz hE he hlk g1 g2 (by omega) (fun x'' y'' τ'' hJ''=>?_))|refine cD (cq (p:=e) hm2 hs ew ?_)|refine cD (mI ?_)|refine cD (Gv hJ'' (by omega) (by rw [List.length_append];omega) (fun x3 y3 τ3 hJ3=>?_))|refine cD (cm ?_ ?_))|((with_reducible refine aY ?_);apply di (hf:=Tryz.results144);exact bn)|omega)
         simp only [List.append_assoc,List.cons_append,List.nil_append] at hJ3;exact ak bC (aj rfl) (h1 _ _ _ hr hm g5 _ _ _ (by simpa using hJ3))
       ·rw [hi2,if_neg (by decide)] at g5
        cases hm3:dh ls n (q2.1,q2.2+1) with
        | error e2 =>
         simp only [hm3] at g5
         repeat' (first|simp only [WL,WM,Nat.reduceAdd,Bool.not_true,Bool.not_false,true_and,cP,qP,c8,dB,hi,hi2]|(with_reducible first|refine ax (hb:=?_)|refine aA (hK:=?_)|refine az (hK:=?_)|refine cD (o7 (p:=q) hs q64 ?_)|refine cD (o7 (p:=q2) hs q264 ?_)|refine callD_mk (kz hE he hlk g1 g2 (by omega) (fun x'' y'' τ'' hJ''=>?_))|refine cD (jq (p:=(q2.1,q2.2+1)) hm3 hs q2w ?_)|refine cD (cq (p:=e) hm2 hs ew ?_)|refine cD (cm ?_ ?_))|omega)
         exact aS bC rfl (h2 _ (.inr (.inr ⟨hr,_,hm,g5⟩)) _ _ _ _ _ (by assumption))
        | ok q3 =>
         simp only [hm3] at g5;obtain ⟨k1,k2,k3,k4⟩:=fQ hs hm3;have k5:=e8 hs hm3 q2w.2.2.2
         repeat' (first|simp only [WL,WM,Nat.reduceAdd,Bool.not_true,Bool.not_false,true_and,cP,qP,c8,dB,hi,hi2]|(with_reducible first|refine ax (hb:=?_)|refine aA (hK:=?_)|refine az (hK:=?_)|refine cD (o7 (p:=q) hs q64 ?_)|refine cD (o7 (p:=q2) hs q264 ?_)|refine callD_mk (kz hE he hlk g1 g2 (by omega) (fun x'' y'' τ'' hJ''=>?_))|refine cD (cq (p:=(q2.1,q2.2+1)) hm3 hs q2w ?_)|refine cD (cq (p:=e) hm2 hs ew ?_)|refine cD (cm ?_ ?_))|omega)
         exact ⟨(q3,acc++ev,x'',y'',τ''),aq bH id,⟨by rw [← List.append_assoc];exact hJ'',k2,by dsimp only;rw [List.length_append];omega,f,by dsimp only;omega,g5⟩,by dsimp only;omega⟩
    ·rw [hi,if_pos rfl] at g5
     have e7:=Pl.behind (n:=1) hs (lA hi) (by have:=lA hi;omega)
     unfold Pl at e7
     repeat' (first|simp only [WL,ay,WM,reduceCtorEq,bg,Nat.reduceAdd,Bool.not_true,true_and,cP,dB,qB,Tryz.results144,hi]|simp (disch:=first|omega|(simp only [aU];omega)) only [an]|(with_reducible first|refine ax (hb:=?_)|refine aA (hK:=?_)|refine az (hK:=?_)|refine cD (o7 (p:=q) hs q64 ?_)|refine cD (Gv g1 (by omega) (by omega) (fun x3 y3 τ3 hJ3=>?_))|refine cD (cm ?_ ?_))|((with_reducible refine aY ?_);apply di (hf:=Tryz.results144);exact bn)|omega)
     exact ak bC (aj rfl) (h1 _ _ _ hr hm g5 _ _ _ (by simpa using hJ3))
theorem Qa {bj:Nat}{ls:List Ln}{n d c:Int}{bk:Bool}{N:Nat→Int × Int→NodeR}{x y:AV}{op:List Int}{l:List EvV}{ρ τ σ0:List Res}{p:Int × Int}{v:TrV} [hS:Split σ bj ρ (JC ls n bk d x y) τ] (hs:Small ls) (hd:0≤d∧d≤1000000000)
  (hP:cO d op.length 0=true→pV κ bj ls n d bk (lZ ls n (N (op.length+1))) 178 (op.length+1)) (hI:cO d op.length 0=true→pV κ bj ls n d bk (jd ls n d (op.length+1) (N (op.length+1)) (N (op.length+2))) 177 (op.length+1)) (hG:∀ k,fU ls (N k)) (hJ:JX x y op l τ σ0) (hlo:op.length≤1000000) (hp:Pl ls p) (h0:0 < (aH ls p).length) (hb:l.length+8 * mu p+8≤1000000000)
  (h1:∀ ev e,l5 ls n d op.length N p c v=.ok (ev,e)→∀ x' y' τ',JX x' y' op (l++ev) τ' σ0→K (.ret (cU e)) (ρ ++ .obj bj (JC ls n bk d x' y')::τ'))
  (h2:∀ e,l5 ls n d op.length N p c v=.error e→∀ x' y' op' l' τ',JX x' y' op' l' τ' σ0→K (.pan (bN e)) (ρ ++ .obj bj (JC ls n bk d x' y')::τ')) :
  ACallF κ Tryz.prog 144 [JP bj,cU p,I c,xL v] σ K:=by
 refine ACallF.at_ (b:=bj) ?_;unfold l5 at h1 h2;by_cases hc:c=123
 ·subst hc
  simp only [if_pos trivial,if_true] at h1 h2;refine IB (N:=N) (c:=123) (kd:=5) (sh:=125) hs hd hP (wx hs (hG _)) (.inl ⟨rfl,rfl,rfl,rfl⟩) hJ hlo hp h0 hb (fun q ev e hr hm hE=>?_) (fun e he=>?_)
  ·refine h1 _ _ ?_
   rw [hr,hm,if_neg (by decide)];dsimp only;rw [hE];rfl
  ·refine h2 _ ?_
   rcases he with ⟨hr,rfl⟩|⟨hr,hm⟩|⟨hr,q,hm,hE⟩
   ·rw [hr,if_pos rfl]
   ·rw [hr,hm,if_neg (by decide)]
   ·rw [hr,hm,if_neg (by decide)]
    dsimp only;rw [hE]
 ·simp only [if_neg hc] at h1 h2
  refine IB (N:=N) (c:=c) (kd:=3) (sh:=93) hs hd hI (vR hs (hG _) (hG _)) (.inr ⟨hc,rfl,rfl,rfl⟩) hJ hlo hp h0 hb (fun q ev e hr hm hE=>?_) (fun e he=>?_)
  ·refine h1 _ _ ?_
   rw [hr,hm,if_neg (by decide)];dsimp only;rw [hE];rfl
  ·refine h2 _ ?_
   rcases he with ⟨hr,rfl⟩|⟨hr,hm⟩|⟨hr,q,hm,hE⟩
   ·rw [hr,if_pos rfl]
   ·rw [hr,hm,if_neg (by decide)]
   ·rw [hr,hm,if_neg (by decide)]
    dsimp only;rw [hE]
theorem qE {ls:List Ln}{n:Int} (hs:Small ls):∀ {f:Nat}{v v':TrV}{q q':Int × Int}{ok ok':Bool},cJ ls n f v q ok=.ok (v',q',ok') →
  (ok=true→Pl ls q∧0 < (aH ls q).length∧gh (aH ls q)=false)→(ok=false→q=(0,0)) →
  (ok'=true→Pl ls q'∧0 < (aH ls q').length∧gh (aH ls q')=false∧(ok=true→Le2 q q'))∧(ok'=false→q'=(0,0))∧(v'=v∨(ok=true∧Pl ls v'.q∧Le2 q v'.q∧mu v'.q+1≤mu q))
 | f,v,v',q,q',false,ok',h,h1,h2=>by
  have:(Except.ok (v,q,false):Except Int (TrV × (Int × Int) × Bool))=.ok (v',q',ok'):=by rw [← h];cases f<;>rfl
  cases this
  exact ⟨fun h=>(by cases h),fun _=>h2 rfl,.inl rfl⟩
 | 0,v,v',q,q',true,ok',h,h1,h2=>by
  unfold cJ at h;split at h
  ·cases h
  ·cases h
   obtain ⟨a1,a2,a3⟩:=h1 rfl;exact ⟨fun _=>⟨a1,a2,a3,fun _=>Le2.rfl_⟩,fun h=>(by cases h),.inl rfl⟩
  ·cases h
 | f+1,v,v',q,q',true,ok',h,h1,h2=>by
  obtain ⟨a1,a2,a3⟩:=h1 rfl;unfold cJ at h;split at h
  ·cases h
  ·cases h
   exact ⟨fun _=>⟨a1,a2,a3,fun _=>Le2.rfl_⟩,fun h=>(by cases h),.inl rfl⟩
  ·rename_i w hw
   obtain ⟨b1,b2,b3,b4⟩:=zG hs hw;have b5:Pl ls w.q:=by
    have:=Pl.behind (n:=w.q.2 - q.2) hs a2 (by omega)
    rw [show (q.1,q.2+(w.q.2 - q.2))=w.q by ext<;>dsimp only<;>omega] at this;exact this
   have b6:Le2 q w.q:=.inr ⟨b2.symm,by omega⟩
   have b7:mu w.q+1≤mu q:=by
    have c1:=en hs a1
    have c2:mu w.q≤mu (q.1,q.2+1):=iu (.inr ⟨b2.symm,by dsimp only;omega⟩) b5.2.2.1 (by have:=a1.2.2.1;dsimp only;omega)
    omega
   split at h
   ·cases h
   ·have h9:=h
    obtain ⟨c1,c2,c3⟩:=qE hs h (fun h=>(by cases h)) (fun _=>rfl);refine ⟨fun hok=>⟨(c1 hok).1,(c1 hok).2.1,(c1 hok).2.2.1,fun _=>?_⟩,c2, ?_⟩
    ·have:(Except.ok (w,((0,0):Int × Int),false):Except Int (TrV × (Int × Int) × Bool))=.ok (v',q',ok'):=by rw [← h9];cases f<;>rfl
     cases this
     cases hok
    ·rcases c3 with rfl|⟨c3,-⟩
     ·exact .inr ⟨rfl,b5,b6,b7⟩
     ·cases c3
   ·rename_i q2 hq2
    obtain ⟨d1,d2,d3⟩:=xA hs hq2;have d4:=Pl.of_rest hs d2
    obtain ⟨c1,c2,c3⟩:=qE hs h (fun _=>⟨d4,d2,d3⟩) (fun h=>by cases h);have d5:Le2 q q2:=b6.trans d1
    refine ⟨fun h=>⟨(c1 h).1,(c1 h).2.1,(c1 h).2.2.1,fun _=>d5.trans ((c1 h).2.2.2 rfl)⟩,c2, ?_⟩;rcases c3 with rfl|⟨-,c3,c4,c5⟩
    ·exact .inr ⟨rfl,b5,b6,b7⟩
    ·have:=iu d5 d4.2.2.1 a1.2.2.1
     exact .inr ⟨rfl,c3,d5.trans c4,by omega⟩
theorem DP:jW uX=false:=by
 have e:(ByteArray.empty).toList=({ data:=#[] }:ByteArray).toList:=rfl
 unfold jW cf;simp [e]
theorem vd {ls:List Ln}{n:Int}{p q:Int × Int}{v:TrV}{ok:Bool} (hs:Small ls) (hp:PlW p) (h:bS ls n p=.ok (v,q,ok)) :
  (ok=true→Le2 p q∧Pl ls q∧0 < (aH ls q).length∧gh (aH ls q)=false)∧(ok=false→q=(0,0))∧(jW v=true→Pl ls v.q∧Le2 p v.q∧mu v.q+1≤mu p):=by
 unfold bS at h;split at h
 ·cases h
 ·cases h
  exact ⟨fun h=>(by cases h),fun _=>rfl,fun h=>by rw [DP] at h;cases h⟩
 ·rename_i q2 hq2
  obtain ⟨d1,d2,d3⟩:=xA hs hq2;have d4:=Pl.of_rest hs d2
  obtain ⟨c1,c2,c3⟩:=qE hs h (fun _=>⟨d4,d2,d3⟩) (fun h=>by cases h);refine ⟨fun h=>⟨d1.trans ((c1 h).2.2.2 rfl),(c1 h).1,(c1 h).2.1,(c1 h).2.2.1⟩,c2,fun ha=>?_⟩;rcases c3 with rfl|⟨-,c3,c4,c5⟩
  ·rw [DP] at ha;cases ha
  ·have:=iu d1 d4.2.2.1 hp.2.2.2
   exact ⟨c3,d1.trans c4,by omega⟩
theorem dD {bj ix:Nat}{ls:List Ln}{n d:Int}{bk:Bool}{x y:AV} [hJ:Hold σ bj ix (JC ls n bk d x y)] {p q:Int × Int}{v:TrV}{ok:Bool} (ht:bS ls n p=.ok (v,q,ok)) (hs:Small ls) (hp:PlW p)
  (hK:K (.ret (.tup [xL v,cU q,B ok])) σ):ACallF κ Tryz.prog 87 [JP bj,cU p] σ K :=
 EB hs hp (fun v' q' ok' h=>by rw [ht] at h;cases h;exact hK) (fun e h=>by rw [ht] at h;cases h)
theorem vL {bj ix:Nat}{ls:List Ln}{n d e:Int}{bk:Bool}{x y:AV} [hJ:Hold σ bj ix (JC ls n bk d x y)] {p:Int × Int} (ht:bS ls n p=.error e) (hs:Small ls) (hp:PlW p)
  (hK:K (.pan (bN e)) σ):ACallF κ Tryz.prog 87 [JP bj,cU p] σ K :=
 EB hs hp (fun v' q' ok' h=>by rw [ht] at h;cases h) (fun e h=>by rw [ht] at h;cases h;exact hK)
end Go.Proofs.YthkabaiamcjdbaaGreat
