/-
  Texts Vn, one behind the other.
-/
import Derived.Test.YthkabaiamcjdbaaGreatJ33
set_option linter.unusedVariables false
set_option maxRecDepth 4000
set_option linter.unusedSimpArgs false
set_option maxHeartbeats 16000000
namespace Go.Proofs.YthkabaiamcjdbaaGreat
open Go.Abs
variable {κ:Ctx} {σ:List Res} {K:Ret→List Res→Prop} {o o':Option (Option (Nat × Nat))}
theorem nd {ls:List Ln} (hs:Small ls):GM κ ls (Q9 ls):=by
 intro pr sb i y l ρ m σ K ⟨ev,k,hd,he,hel,ht,hdn⟩ hS hm hR hl hi h1 h2;have hll:=hs.1
 have hx:=hs.at_ (i:=i.toNat) (by omega)
 obtain ⟨hk1,hk2,-⟩:=LY hs hi hd;have hxk:=fun h:k.toNat < ls.length=>hs.at_ h
 have hk3:=fun h=>oJ (k:=(aF ls k).1) (t:=(aF ls k).2) h
 have hm3:=fun h=>oJ (k:=(aF ls i).1) (t:=(aF ls i).2) h
 have hm0:=fun h=>M4 (k:=(aF ls i).1) (t:=(aF ls i).2) h
 unfold mK at h1 h2;unfold Dj Na at *;generalize hmk:decide (aZ (aF ls i).1 (aF ls i).2=1)=mk at *;rw [hd] at h1 h2;dsimp only at h1 h2;have hcc:(0:Int)≤(if mk=true then 3 else 0)∧(if mk=true then 3 else 0) - (aF ls i).1≤(aF ls i).2.length:=by
  cases mk
  ·refine ⟨by decide, ?_⟩
   show 0 - (ls.getD i.toNat (0,[])).1≤((ls.getD i.toNat (0,[])).2.length:Int)
   omega
  ·have g1:=of_decide_eq_true hmk
   have g2:=hm3 (by omega)
   have g4:=hm0 (by omega)
   refine ⟨by decide, ?_⟩;show 3 - (aF ls i).1≤((aF ls i).2.length:Int)
   omega
 have hNode:=fun (σ:List Res) (K:Ret→List Res→Prop) (h:∀ rb rc cs,ev.length≤rc→K (.ret (.tup [bT rb 0 ev.length rc,I k,I 0])) (.obj rb (aD (ev.map EVA)++cs)::σ))=>HY (κ:=κ) (σ:=σ) (K:=K) hd hs hi hcc h
 dsimp only [aF] at hmk hdn hm3 hm0 hk3;have hS2:∀ rb C C2,Sc (.obj rb C::.obj pr C2::(ρ++σ)) sb m:=fun rb C C2=>((hS.app ρ).cons _).cons _
 have h0:decide ((0:Int)≠0)=false:=rfl
 cases hw:fB m ev with
 | error e =>
  obtain rfl:e=11:=by
   unfold fB at hw;split at hw<;>cases hw
   rfl
  have h3:=h2 11 (by rw [hw])
  clear h1 h2 hR hdn hm0 hxk hk3;have h11:decide ((11:Int)≠0)=true:=rfl
  have hWh:=fun (rb rc C2 cs) (K:Ret→List Res→Prop) (h:K (.ret (.tup [nilS,I 11])) (.obj rb (aD (ev.map EVA)++cs)::.obj pr C2::(ρ++σ)))=>E5 (κ:=κ) (rb:=rb) (rc:=rc) (σ:=.obj rb (aD (ev.map EVA)++cs)::.obj pr C2::(ρ++σ)) (K:=K) (hS2 rb (aD (ev.map EVA)++cs) C2) hm he (by omega) ht (fun l' hl'=>by rw [hw] at hl';cases hl') (fun e' he'=>by rw [hw] at he';cases he';exact h)
  cases mk
  ·have g1:=of_decide_eq_false hmk
   simp only [Bool.false_eq_true,if_false] at hNode hd hcc;refine ACallF.dropL (aa Tryz.func59 rfl ?_);simp only [Tryz.ntmps59]
   repeat' (first|simp only [WL,ay,WM,reduceCtorEq,bg,Nat.reduceAdd,Nat.reduceSub,Nat.reduceLT,Nat.reduceEqDiff,Bool.not_true,true_and,reduceIte,Bool.false_eq_true,T3,mf,gg,jm,fR dY,fR dX,fR lG,xu,fN,fY,ou,we,Tryz.results59]|simp (disch:=first|omega|(simp only [aU];omega)) only [an,dO]|(with_reducible first|refine ax (hb:=?_)|refine au (hK:=?_)|refine aP (hK:=?_)|refine dp (hK:=?_)|refine aI (hK:=?_)|refine callD_mk (hNode _ _ (fun rb2 rc2 cs2 hrc=>?_))|refine callD_mk (hWh _ _ _ _ _ ?_)|refine cQ (fK ?_ aT) ?_|refine cQ (cZ ?_ aT) ?_|refine cQ (iv ?_ ?_ aT) ?_)|((with_reducible refine aE (id:=1) 13 mixed ?_ ?_);kernel_rfl)|((with_reducible refine dH (id:=5) [0,1,2,3,4,5,6,7,8] (some 9) [([10,11,12,13,14,15,16],none)] mixed ?_ ?_);kernel_rfl)|((with_reducible apply aW);intro σq hq;have hqi:=cy hq;clear hq)|(with_reducible exact b9)|((with_reducible apply bD);rfl;rfl)|(with_reducible refine bV (me (by first|(simp;done)|fail)) ?_)|((with_reducible refine aE (id:=13) 17 mixed ?_ ?_);kernel_rfl)|((with_reducible refine aE (id:=14) 12 mixed ?_ ?_);kernel_rfl)|(with_reducible refine bK ?_)|((with_reducible first|refine ai (fun h=>?_) (fun h=>?_)|refine ab (fun h=>?_) (fun h=>?_))<;>(try simp only [h])<;>(try simp only [bf,ba] at h))|omega)
   all_goals first
    | exact absurd trivial (by assumption)
    | (exfalso;omega)
    | exact ak (by repeat (first|exact ae|exact ⟨_,List.Perm.refl _,List.sublist_append_right _ _⟩|refine ah ?_)) (aj rfl) h3
    | (clear hx hNode hd hcc hm3;trace_state)
  ·have g1:=of_decide_eq_true hmk
   simp only [if_true] at hNode hd hcc;refine ACallF.dropL (aa Tryz.func59 rfl ?_);simp only [Tryz.ntmps59]
   repeat' (first|simp only [WL,ay,WM,reduceCtorEq,bg,Nat.reduceAdd,Nat.reduceSub,Nat.reduceLT,Nat.reduceEqDiff,Bool.not_true,beq_self_eq_true,true_and,reduceIte,Bool.false_eq_true,T3,mf,gg,jm,fR dY,fR dX,fR lG,xu,fN,fY,ou,we,Tryz.results59,g1]|simp (disch:=first|omega|(simp only [aU];omega)) only [an,dO]|(with_reducible first|refine ax (hb:=?_)|refine au (hK:=?_)|refine aP (hK:=?_)|refine dp (hK:=?_)|refine aI (hK:=?_)|refine callD_mk (hNode _ _ (fun rb2 rc2 cs2 hrc=>?_))|refine callD_mk (hWh _ _ _ _ _ ?_)|refine cQ (fK ?_ aT) ?_|refine cQ (cZ ?_ aT) ?_|refine cQ (iv ?_ ?_ aT) ?_)|((with_reducible refine aE (id:=1) 13 mixed ?_ ?_);kernel_rfl)|((with_reducible refine dH (id:=5) [0,1,2,3,4,5,6,7,8] (some 9) [([10,11,12,13,14,15,16],none)] mixed ?_ ?_);kernel_rfl)|((with_reducible apply aW);intro σq hq;have hqi:=cy hq;clear hq)|(with_reducible exact b9)|((with_reducible apply bD);rfl;rfl)|(with_reducible refine bV (me (by first|(simp;done)|fail)) ?_)|((with_reducible refine aE (id:=13) 17 mixed ?_ ?_);kernel_rfl)|((with_reducible refine aE (id:=14) 12 mixed ?_ ?_);kernel_rfl)|(with_reducible refine bK ?_)|((with_reducible first|refine ai (fun h=>?_) (fun h=>?_)|refine ab (fun h=>?_) (fun h=>?_))<;>(try simp only [h])<;>(try simp only [bf,ba] at h))|omega)
   all_goals first
    | exact absurd trivial (by assumption)
    | (exfalso;omega)
    | exact ak (by repeat (first|exact ae|exact ⟨_,List.Perm.refl _,List.sublist_append_right _ _⟩|refine ah ?_)) (aj rfl) h3
    | (clear hx hNode hd hcc hm3;trace_state)
 | ok ev' =>
  have hel':=CD hw
  rw [hw] at h1 h2;dsimp only at h1 h2;clear h2;have hdn':¬(k < ls.length∧aZ (aF ls k).1 (aF ls k).2=2):=hdn
  rw [if_neg hdn'] at h1;have hK:=fun y' ρ'=>h1 _ _ _ y' ρ' rfl
  have hWh:=fun (rb rc C2 cs) (K:Ret→List Res→Prop) (h:∀ b c cs',ev'.length≤c→(aD (ev'.map EVA)++cs').length=c * 6→K (.ret (.tup [bT b 0 ev'.length c,I 0])) (.obj b (aD (ev'.map EVA)++cs')::.obj rb (aD (ev.map EVA)++cs)::.obj pr C2::(ρ++σ)))=>E5 (κ:=κ) (rb:=rb) (rc:=rc) (σ:=.obj rb (aD (ev.map EVA)++cs)::.obj pr C2::(ρ++σ)) (K:=K) (hS2 rb (aD (ev.map EVA)++cs) C2) hm he (by omega) ht (fun l' hl'=>by rw [hw] at hl';cases hl';rw [← hel'];exact h) (fun e' he'=>by rw [hw] at he';cases he')
  clear h1 hdn' hw;have he':0 < ev'.length:=by omega
  have hme:(ev'.map EVA).length=ev'.length:=List.length_map _
  clear hm0;generalize hmL:l.map EVA=L at *;have hLl:L.length=l.length:=by rw [← hmL,List.length_map]
  have hmE:∀ m d,(l++gY m d ev').map EVA=L++(gY m d ev').map EVA:=fun m d=>by rw [List.map_append,hmL]
  cases hR with
  | nil =>
   obtain rfl:l=[]:=List.map_eq_nil_iff.1 hmL;clear hmE;rw [List.nil_append] at *;cases mk
   ·have g1:=of_decide_eq_false hmk
    simp only [Bool.false_eq_true,if_false] at hNode hd hcc;refine ACallF.dropL (aa Tryz.func59 rfl ?_);simp only [Tryz.ntmps59]
    repeat' (first|simp only [WL,ay,WM,reduceCtorEq,bg,Nat.reduceAdd,Nat.reduceSub,Nat.reduceLT,Nat.reduceEqDiff,Bool.not_true,true_and,reduceIte,Bool.false_eq_true,T3,mf,gg,jm,fR dY,fR dX,fR lG,xu,fN,fY,ou,we,Tryz.results59]|simp (disch:=first|omega|(simp only [aU];omega)) only [an,dO]|(with_reducible first|refine ax (hb:=?_)|refine au (hK:=?_)|refine aP (hK:=?_)|refine dp (hK:=?_)|refine aI (hK:=?_)|refine callD_mk (hNode _ _ (fun rb2 rc2 cs2 hrc=>?_))|refine callD_mk (hWh _ _ _ _ _ (fun b4 c4 cs4 hc4 hz4=>?_)))|( refine gC (hgood:=by rfl) (hne:=by simp) (hlen:=by simp) (hmax:=by simp [maxLen]) (hK:=fun b' c' cs' q1 q2 q3=>?_))|( refine eP (hgood:=by rfl) (hcs:=by assumption) (hn:=by first|assumption|omega|(simp;omega)) (hlen:=by first|(simp;omega)|fail) (hmax:=by first|(simp [maxLen];omega)|fail) (hK:=fun b' c' cs' q1 q2 q3=>?_))|( refine fe (ev'.map EVA) (n:=ev'.length) (by simp) (fh _) (iq rfl) (iB _) (by assumption) (by first|assumption|omega|(simp;omega)) (by simp;omega) (by simp [maxLen];omega) (fun b' c' cs' q1 q2 q3=>?_))|(with_reducible first|refine cQ (fK ?_ aT) ?_|refine cQ (cZ ?_ aT) ?_|refine cQ (iv ?_ ?_ aT) ?_)|((with_reducible refine aE (id:=1) 13 mixed ?_ ?_);kernel_rfl)|((with_reducible refine dH (id:=5) [0,1,2,3,4,5,6,7,8] (some 9) [([10,11,12,13,14,15,16],none)] mixed ?_ ?_);kernel_rfl)|((with_reducible apply aW);intro σq hq;have hqi:=cy hq;clear hq)|(with_reducible exact b9)|((with_reducible apply bD);rfl;rfl)|(with_reducible refine bV (me (by first|(simp;done)|fail)) ?_)|((with_reducible refine aE (id:=13) 17 mixed ?_ ?_);kernel_rfl)|((with_reducible refine aE (id:=14) 12 mixed ?_ ?_);kernel_rfl)|(with_reducible refine bK ?_)|((with_reducible first|refine ai (fun h=>?_) (fun h=>?_)|refine ab (fun h=>?_) (fun h=>?_))<;>(try simp only [h])<;>(try simp only [bf,ba] at h))|omega)
    all_goals first
     | exact absurd trivial (by assumption)
     | (exfalso;omega)
     | exact ak ⟨_,List.Perm.swap _ _ _,List.Sublist.cons_cons _ (List.Sublist.cons _ (List.Sublist.cons _ (List.Sublist.refl _)))⟩ (aj rfl) (hK _ _ (wq (by assumption) (by assumption) q3 q1 q2))
     | (clear hx hm3 hNode hd hcc hxk hk3;trace_state)
   ·have g1:=of_decide_eq_true hmk
    simp only [if_true] at hNode hd hcc;refine ACallF.dropL (aa Tryz.func59 rfl ?_);simp only [Tryz.ntmps59]
    repeat' (first|simp only [WL,ay,WM,reduceCtorEq,bg,Nat.reduceAdd,Nat.reduceSub,Nat.reduceLT,Nat.reduceEqDiff,Bool.not_true,beq_self_eq_true,true_and,reduceIte,Bool.false_eq_true,T3,mf,gg,jm,fR dY,fR dX,fR lG,xu,fN,fY,ou,we,Tryz.results59,g1]|simp (disch:=first|omega|(simp only [aU];omega)) only [an,dO]|(with_reducible first|refine ax (hb:=?_)|refine au (hK:=?_)|refine aP (hK:=?_)|refine dp (hK:=?_)|refine aI (hK:=?_)|refine callD_mk (hNode _ _ (fun rb2 rc2 cs2 hrc=>?_))|refine callD_mk (hWh _ _ _ _ _ (fun b4 c4 cs4 hc4 hz4=>?_)))|( refine gC (hgood:=by rfl) (hne:=by simp) (hlen:=by simp) (hmax:=by simp [maxLen]) (hK:=fun b' c' cs' q1 q2 q3=>?_))|( refine eP (hgood:=by rfl) (hcs:=by assumption) (hn:=by first|assumption|omega|(simp;omega)) (hlen:=by first|(simp;omega)|fail) (hmax:=by first|(simp [maxLen];omega)|fail) (hK:=fun b' c' cs' q1 q2 q3=>?_))|( refine fe (ev'.map EVA) (n:=ev'.length) (by simp) (fh _) (iq rfl) (iB _) (by assumption) (by first|assumption|omega|(simp;omega)) (by simp;omega) (by simp [maxLen];omega) (fun b' c' cs' q1 q2 q3=>?_))|(with_reducible first|refine cQ (fK ?_ aT) ?_|refine cQ (cZ ?_ aT) ?_|refine cQ (iv ?_ ?_ aT) ?_)|((with_reducible refine aE (id:=1) 13 mixed ?_ ?_);kernel_rfl)|((with_reducible refine dH (id:=5) [0,1,2,3,4,5,6,7,8] (some 9) [([10,11,12,13,14,15,16],none)] mixed ?_ ?_);kernel_rfl)|((with_reducible apply aW);intro σq hq;have hqi:=cy hq;clear hq)|(with_reducible exact b9)|((with_reducible apply bD);rfl;rfl)|(with_reducible refine bV (me (by first|(simp;done)|fail)) ?_)|((with_reducible refine aE (id:=13) 17 mixed ?_ ?_);kernel_rfl)|((with_reducible refine aE (id:=14) 12 mixed ?_ ?_);kernel_rfl)|(with_reducible refine bK ?_)|((with_reducible first|refine ai (fun h=>?_) (fun h=>?_)|refine ab (fun h=>?_) (fun h=>?_))<;>(try simp only [h])<;>(try simp only [bf,ba] at h))|omega)
    all_goals first
     | exact absurd trivial (by assumption)
     | (exfalso;omega)
     | exact ak ⟨_,List.Perm.swap _ _ _,List.Sublist.cons_cons _ (List.Sublist.cons _ (List.Sublist.cons _ (List.Sublist.refl _)))⟩ (aj rfl) (hK _ _ (wq (by assumption) (by assumption) q3 q1 q2))
     | (clear hx hm3 hNode hd hcc hxk hk3;trace_state)
  | @row rb rc cs _ h0r hn hc htk =>
   rw [List.cons_append,List.nil_append] at *;cases mk
   ·have g1:=of_decide_eq_false hmk
    simp only [Bool.false_eq_true,if_false] at hNode hd hcc;refine ACallF.dropL (aa Tryz.func59 rfl ?_);simp only [Tryz.ntmps59]
    repeat' (first|simp only [WL,ay,WM,reduceCtorEq,bg,Nat.reduceAdd,Nat.reduceSub,Nat.reduceLT,Nat.reduceEqDiff,Bool.not_true,true_and,reduceIte,Bool.false_eq_true,T3,mf,gg,jm,fR dY,fR dX,fR lG,xu,fN,fY,ou,we,Tryz.results59]|simp (disch:=first|omega|(simp only [aU];omega)) only [an,dO]|(with_reducible first|refine ax (hb:=?_)|refine au (hK:=?_)|refine aP (hK:=?_)|refine dp (hK:=?_)|refine aI (hK:=?_)|refine callD_mk (hNode _ _ (fun rb2 rc2 cs2 hrc=>?_))|refine callD_mk (hWh _ _ _ _ _ (fun b4 c4 cs4 hc4 hz4=>?_)))|( refine eP (hgood:=by rfl) (hcs:=by assumption) (hn:=by first|assumption|omega|(simp;omega)) (hlen:=by first|(simp;omega)|fail) (hmax:=by first|(simp [maxLen];omega)|fail) (hK:=fun b' c' cs' q1 q2 q3=>?_))|( refine fe (ev'.map EVA) (n:=ev'.length) (by simp) (fh _) (iq rfl) (iB _) (by assumption) (by first|assumption|omega|(simp;omega)) (by simp;omega) (by simp [maxLen];omega) (fun b' c' cs' q1 q2 q3=>?_))|(with_reducible first|refine cQ (fK ?_ aT) ?_|refine cQ (cZ ?_ aT) ?_|refine cQ (iv ?_ ?_ aT) ?_)|((with_reducible refine aE (id:=1) 13 mixed ?_ ?_);kernel_rfl)|((with_reducible refine dH (id:=5) [0,1,2,3,4,5,6,7,8] (some 9) [([10,11,12,13,14,15,16],none)] mixed ?_ ?_);kernel_rfl)|((with_reducible apply aW);intro σq hq;have hqi:=cy hq;clear hq)|(with_reducible exact b9)|((with_reducible apply bD);rfl;rfl)|(with_reducible refine bV (me (by first|(simp;done)|fail)) ?_)|((with_reducible refine aE (id:=13) 17 mixed ?_ ?_);kernel_rfl)|((with_reducible refine aE (id:=14) 12 mixed ?_ ?_);kernel_rfl)|(with_reducible refine bK ?_)|((with_reducible first|refine ai (fun h=>?_) (fun h=>?_)|refine ab (fun h=>?_) (fun h=>?_))<;>(try simp only [h])<;>(try simp only [bf,ba] at h))|omega)
    all_goals first
     | exact absurd trivial (by assumption)
     | (exfalso;omega)
     | exact ak bC (aj rfl) (hK _ _ (wA hmL htk (by assumption) (by assumption) q3 q1 q2))
     | (clear hx hm3 hNode hd hcc hxk hk3;trace_state)
   ·have g1:=of_decide_eq_true hmk
    simp only [if_true] at hNode hd hcc;refine ACallF.dropL (aa Tryz.func59 rfl ?_);simp only [Tryz.ntmps59]
    repeat' (first|simp only [WL,ay,WM,reduceCtorEq,bg,Nat.reduceAdd,Nat.reduceSub,Nat.reduceLT,Nat.reduceEqDiff,Bool.not_true,beq_self_eq_true,true_and,reduceIte,Bool.false_eq_true,T3,mf,gg,jm,fR dY,fR dX,fR lG,xu,fN,fY,ou,we,Tryz.results59,g1]|simp (disch:=first|omega|(simp only [aU];omega)) only [an,dO]|(with_reducible first|refine ax (hb:=?_)|refine au (hK:=?_)|refine aP (hK:=?_)|refine dp (hK:=?_)|refine aI (hK:=?_)|refine callD_mk (hNode _ _ (fun rb2 rc2 cs2 hrc=>?_))|refine callD_mk (hWh _ _ _ _ _ (fun b4 c4 cs4 hc4 hz4=>?_)))|( refine eP (hgood:=by rfl) (hcs:=by assumption) (hn:=by first|assumption|omega|(simp;omega)) (hlen:=by first|(simp;omega)|fail) (hmax:=by first|(simp [maxLen];omega)|fail) (hK:=fun b' c' cs' q1 q2 q3=>?_))|( refine fe (ev'.map EVA) (n:=ev'.length) (by simp) (fh _) (iq rfl) (iB _) (by assumption) (by first|assumption|omega|(simp;omega)) (by simp;omega) (by simp [maxLen];omega) (fun b' c' cs' q1 q2 q3=>?_))|(with_reducible first|refine cQ (fK ?_ aT) ?_|refine cQ (cZ ?_ aT) ?_|refine cQ (iv ?_ ?_ aT) ?_)|((with_reducible refine aE (id:=1) 13 mixed ?_ ?_);kernel_rfl)|((with_reducible refine dH (id:=5) [0,1,2,3,4,5,6,7,8] (some 9) [([10,11,12,13,14,15,16],none)] mixed ?_ ?_);kernel_rfl)|((with_reducible apply aW);intro σq hq;have hqi:=cy hq;clear hq)|(with_reducible exact b9)|((with_reducible apply bD);rfl;rfl)|(with_reducible refine bV (me (by first|(simp;done)|fail)) ?_)|((with_reducible refine aE (id:=13) 17 mixed ?_ ?_);kernel_rfl)|((with_reducible refine aE (id:=14) 12 mixed ?_ ?_);kernel_rfl)|(with_reducible refine bK ?_)|((with_reducible first|refine ai (fun h=>?_) (fun h=>?_)|refine ab (fun h=>?_) (fun h=>?_))<;>(try simp only [h])<;>(try simp only [bf,ba] at h))|omega)
    all_goals first
     | exact absurd trivial (by assumption)
     | (exfalso;omega)
     | exact ak bC (aj rfl) (hK _ _ (wA hmL htk (by assumption) (by assumption) q3 q1 q2))
     | (clear hx hm3 hNode hd hcc hxk hk3;trace_state)
end Go.Proofs.YthkabaiamcjdbaaGreat
