/-
  Texts Ku, one behind the other.
-/
import Derived.Test.YthkabaiamcjdbaaGreatG25
set_option linter.unusedVariables false
set_option linter.unusedSimpArgs false
set_option maxHeartbeats 16000000
/-
 Walks: chapter 14,nodes.
-/


namespace Go.Proofs.YthkabaiamcjdbaaGreat
open Go.Abs
variable {κ:Ctx} {σ:List Res} {K:Ret→List Res→Prop} {o o':Option (Option (Nat × Nat))}
abbrev SeqC (κ:Ctx) (pr br:Nat) (ls:List Ln) (S:Int→Int→Bool→TP→PR) (f k:Nat):Prop :=
 ∀ {x y:AV} {op:List Int} {l:List EvV} {τ σ0:List Res} {i c:Int} {pair:Bool} {t:TP} {K:Ret→List Res→Prop},op.length=k→JX x y op l τ σ0→Res.obj br [SL none ls]∈σ0→(0≤i∧i < ls.length)→(0≤c∧c≤4500)→RmP ls f l i →
  (∀ ev i2,S i c pair t=.ok (ev,i2)→∀ x' y' τ',JX x' y' op (l++ev) τ' σ0→K (.ret (I i2)) (.obj pr (RC ls br x' y')::τ')) →
  (∀ e,S i c pair t=.error e→∀ x' y' op' l' τ',JX x' y' op' l' τ' σ0→K (.pan (wrongP e)) (.obj pr (RC ls br x' y')::τ')) →
  ACallF κ Tryz.prog 63 [JP pr,I i,I c,B pair,TPA t] (.obj pr (RC ls br x y)::τ) K
abbrev MapC (κ:Ctx) (pr br:Nat) (ls:List Ln) (M:Int→Int→TP→PR) (f k:Nat):Prop :=
 ∀ {x y:AV} {op:List Int} {l:List EvV} {τ σ0:List Res} {i c:Int} {t:TP} {K:Ret→List Res→Prop},op.length=k→JX x y op l τ σ0→Res.obj br [SL none ls]∈σ0→(0≤i∧i < ls.length)→(0≤c∧c≤4500)→RmP ls f l i →
  (∀ ev i2,M i c t=.ok (ev,i2)→∀ x' y' τ',JX x' y' op (l++ev) τ' σ0→K (.ret (I i2)) (.obj pr (RC ls br x' y')::τ')) →
  (∀ e,M i c t=.error e→∀ x' y' op' l' τ',JX x' y' op' l' τ' σ0→K (.pan (wrongP e)) (.obj pr (RC ls br x' y')::τ')) →
  ACallF κ Tryz.prog 66 [JP pr,I i,I c,TPA t] (.obj pr (RC ls br x y)::τ) K
set_option maxRecDepth 4000 in
theorem zSeqB {pr br f k:Nat}{ls:List Ln}{S:Int→Int→Bool→TP→PR} (hS:SeqC κ pr br ls S f k) {x y:AV}{op:List Int}{l:List EvV}{ρ τ σ0:List Res}{i c:Int}{pair:Bool}{t:TP} [hSp:Split σ pr ρ (RC ls br x y) τ] (hk:op.length=k) (hJ:JX x y op l τ σ0) (hb:Res.obj br [SL none ls]∈σ0) (hi:0≤i∧i < ls.length) (hc:0≤c∧c≤4500) (hr:RmP ls f l i)
  (h1:∀ ev i2,S i c pair t=.ok (ev,i2)→∀ x' y' τ',JX x' y' op (l++ev) τ' σ0→K (.ret (I i2)) (ρ ++ .obj pr (RC ls br x' y')::τ'))
  (h2:∀ e,S i c pair t=.error e→∀ x' y' op' l' τ',JX x' y' op' l' τ' σ0→K (.pan (wrongP e)) (ρ ++ .obj pr (RC ls br x' y')::τ')):ACallF κ Tryz.prog 63 [JP pr,I i,I c,B pair,TPA t] σ K :=
 ACallF.at_ (b:=pr) (hS hk hJ hb hi hc hr h1 h2)
set_option maxRecDepth 4000 in
theorem zMapB {pr br f k:Nat}{ls:List Ln}{M:Int→Int→TP→PR} (hM:MapC κ pr br ls M f k) {x y:AV}{op:List Int}{l:List EvV}{ρ τ σ0:List Res}{i c:Int}{t:TP} [hSp:Split σ pr ρ (RC ls br x y) τ] (hk:op.length=k) (hJ:JX x y op l τ σ0) (hb:Res.obj br [SL none ls]∈σ0) (hi:0≤i∧i < ls.length) (hc:0≤c∧c≤4500) (hr:RmP ls f l i)
  (h1:∀ ev i2,M i c t=.ok (ev,i2)→∀ x' y' τ',JX x' y' op (l++ev) τ' σ0→K (.ret (I i2)) (ρ ++ .obj pr (RC ls br x' y')::τ'))
  (h2:∀ e,M i c t=.error e→∀ x' y' op' l' τ',JX x' y' op' l' τ' σ0→K (.pan (wrongP e)) (ρ ++ .obj pr (RC ls br x' y')::τ')):ACallF κ Tryz.prog 66 [JP pr,I i,I c,TPA t] σ K :=
 ACallF.at_ (b:=pr) (hM hk hJ hb hi hc hr h1 h2)
set_option maxRecDepth 4000 in
theorem jTrOk {br ix:Nat}{ls:List Ln}{i c c2:Int}{t:TP} [hR:Hold σ br ix [SL none ls]] (hp:propsP ls i c=.ok (t,c2)) (hs:Small ls) (hc:0≤c∧c≤1000000000) (hK:K (.ret (.tup [TPA t,I c2,I 0])) σ):ACallF κ Tryz.prog 67 [JP br,I i,I c] σ K :=
 jTraitsR hs (by omega) hc.1 (fun t' c' h=>by rw [hp] at h;cases h;exact hK) (fun e h=>by rw [hp] at h;cases h)
set_option maxRecDepth 4000 in
theorem jTrEr {br ix:Nat}{ls:List Ln}{i c e:Int} [hR:Hold σ br ix [SL none ls]] (hp:propsP ls i c=.error e) (hs:Small ls) (hc:0≤c∧c≤1000000000) (hK:K (.ret (.tup [TPA tp0,I c,I e])) σ):ACallF κ Tryz.prog 67 [JP br,I i,I c] σ K :=
 jTraitsR hs (by omega) hc.1 (fun t' c' h=>by rw [hp] at h;cases h) (fun e h=>by rw [hp] at h;cases h;exact hK)
set_option maxRecDepth 4000 in
theorem zJoinOk {a b t:TP} (hj:joinP a b=some t) (ha:TPs a) (hb:TPs b) (hK:K (.ret (TPA t)) σ):ACallF κ Tryz.prog 69 [TPA a,TPA b] σ K :=
 zJoined ⟨ha.1,ha.2,hb.1,hb.2⟩ (fun t' h=>by rw [hj] at h;cases h;exact hK) (fun h=>by rw [hj] at h;cases h)
set_option maxRecDepth 4000 in
theorem zJoinEr {a b:TP} (hj:joinP a b=none) (ha:TPs a) (hb:TPs b) (hK:K (.pan (wrongP 2)) σ):ACallF κ Tryz.prog 69 [TPA a,TPA b] σ K :=
 zJoined ⟨ha.1,ha.2,hb.1,hb.2⟩ (fun t' h=>by rw [hj] at h;cases h) (fun _=>hK)
abbrev muN (ls:List Ln) (i c:Int):Nat:=2 * ((ls.length:Int) - i).toNat+(if 0 < (restP ls i c).1.length then 1 else 0)
set_option maxRecDepth 4000 in
theorem nodeP_eq {ls:List Ln}{S:Int→Int→Bool→TP→PR}{M:Int→Int→TP→PR}{d n:Int}{pair:Bool}{f:Nat}{i c:Int}{lead:Bool}{t:TP}:nodeP ls S M d n pair (f+1) i c lead t =
  if 0 < (restP ls i c).1.length then atP ls S M (nodeP ls S M d n pair f) d n i (restP ls i c).2 lead t
  else match nextP ls (i+1) with
   | .error e=>.error e
   | .ok (k,ok) =>
    if ok=false∨(lineP ls k).1 < n∨(lineP ls k).1=n∧(pair && signP ls k n 45)=false then .ok ([emptyP t],i+1)
    else if (lineP ls k).1=n then S k n true t
    else atP ls S M (nodeP ls S M d n pair f) d n k (lineP ls k).1 true t:=rfl
set_option maxRecDepth 4000 in
theorem zNode0 {pr br f k:Nat}{ls:List Ln}{S:Int→Int→Bool→TP→PR}{M:Int→Int→TP→PR}{x y:AV}{op:List Int}{l:List EvV}{τ σ0:List Res}{i c n:Int}{pair lead:Bool}{t:TP} (hS:SeqC κ pr br ls S f k) (hM:MapC κ pr br ls M f k) (hk:op.length=k) (hk2:k≤200) (hJ:JX x y op l τ σ0) (hb:Res.obj br [SL none ls]∈σ0) (hs:Small ls) (hi:0≤i∧i < ls.length) (hc:0≤c∧c≤5000) (hn:-1≤n∧n≤5000) (ht:TPs t) (hr:RmP ls f l i)
  (h1:∀ ev i2,nodeP ls S M k n pair (2 * ls.length+2) i c lead t=.ok (ev,i2)→∀ x' y' τ',JX x' y' op (l++ev) τ' σ0→K (.ret (I i2)) (.obj pr (RC ls br x' y')::τ'))
  (h2:∀ e,nodeP ls S M k n pair (2 * ls.length+2) i c lead t=.error e→∀ x' y' op' l' τ',JX x' y' op' l' τ' σ0→K (.pan (wrongP e)) (.obj pr (RC ls br x' y')::τ')) :
  ACallF κ Tryz.prog 50 [JP pr,I i,I c,WA n lead pair,TPA t] (.obj pr (RC ls br x y)::τ) K:=by
 have hl:=hs.1
 have hll:l.length≤100000000000:=by unfold RmP at hr;omega
 obtain ⟨ix,hB⟩:=hJ.hold hb
 refine ACallF.dropL (ACallF_introA Tryz.func50 rfl ?_)
 simp only [Tryz.ntmps50]
 repeat' (first|(with_reducible first|refine AW_block ?_|refine cut_loop ?_|refine AW_seq ?_)|simp only [WL,WM,Nat.reduceAdd,Nat.reduceSub]|with_reducible refine y_box (hK:=fun b=>?_))
 rename_i bw
 refine loopA (fun z:Int × Int × Bool × TP=>⟨(JP pr::I z.1::I z.2.1::WA n lead pair::TPA t::.any::.any::.any::JP bw::JP b::I 0::.any::.any::.any::.any::.any::.any::.any::.any::.any::.any::.any::.any::.any::.any::.any::.any::.any::.any::.any::.any::.any::.any::.any::.any::.any::.any::.any::.any::.any::.any::.any::.any::.any::.any::.any::.any::.any::.any::.any::.any::.any::.any::.any::.any::.any::.any::.any::.any::.any::.any::.any::.any::.any::.any::.any::.any::.any::.any::.any::.any::.any::.any::.any::.any::.any::.any::.any::.any::.any::.any::.any::.any::.any::.any::.any::.any::.any::.any::.any::.any::.any::.any::.any::.any::.any::.any::.any::.any::.any::.any::.any::.any::.any::.any::.any::.any::.any::.any::.any::.any::.any::.any::.any::.any::.any::.any::.any::.any::.any::.any::.any::.any::.any::.any::.any::.any::.any::.any::.any::.any::.any::.any::.any::.any::.any::.any::.any::.any::.any::.any::.any::.any::.any::.any::.any::.any::.any::.any::.any::.any::.any::.any::.any::.any::.any::.any::.any::.any::.any::.any::.any::.any::.any::.any::.any::.any::.any::.any::[]),.obj b [.raw (.string z.2.2.2.1),.raw (.string z.2.2.2.2)]::.obj bw [I n,B z.2.2.1,B pair]::.obj pr (RC ls br x y)::τ,true,[]⟩)
  (fun z=>(i≤z.1∧z.1 < ls.length)∧(0≤z.2.1∧z.2.1≤5000)∧TPs z.2.2.2∧∃ fu,muN ls z.1 z.2.1 < fu∧nodeP ls S M k n pair (2 * ls.length+2) i c lead t=nodeP ls S M k n pair fu z.1 z.2.1 z.2.2.1 z.2.2.2) (fun z=>muN ls z.1 z.2.1) (i,c,lead,t) (St_le_same leA id) ⟨⟨Int.le_refl _,hi.2⟩,hc,ht,2 * ls.length+2,by unfold muN;dsimp only;split<;>omega,rfl⟩ ?_
 rintro ⟨i1,c1,l1,t1⟩ ⟨⟨g1,g2⟩,g3,g4,fu,g5,g6⟩
 dsimp only at g1 g2 g3 g4 g5 g6 ⊢
 cases fu with
 | zero=>omega
 | succ fu =>
 replace g6:=g6.trans nodeP_eq
 have hi1:0≤i1∧i1 < ls.length:=⟨by omega,g2⟩
 repeat' (first|(with_reducible first|refine cut_unit (id:=1) ?_|refine AW_block ?_))
 refine midA (fun z:Int × Int × Bool=>⟨(JP pr::I z.1::I z.2.1::WA n lead pair::TPA t::.any::.any::.any::JP bw::JP b::I 0::.any::.any::.any::.any::.any::.any::.any::.any::.any::.any::.any::.any::.any::.any::.any::.any::.any::.any::.any::.any::.any::.any::.any::.any::.any::.any::.any::.any::.any::.any::.any::.any::.any::.any::.any::.any::.any::.any::.any::.any::.any::.any::.any::.any::.any::.any::.any::.any::.any::.any::.any::.any::.any::.any::.any::.any::.any::.any::.any::.any::.any::.any::.any::.any::.any::.any::.any::.any::.any::.any::.any::.any::.any::.any::.any::.any::.any::.any::.any::.any::.any::.any::.any::.any::.any::.any::.any::.any::.any::.any::.any::.any::.any::.any::.any::.any::.any::.any::.any::.any::.any::.any::.any::.any::.any::.any::.any::.any::.any::.any::.any::.any::.any::.any::.any::.any::.any::.any::.any::.any::.any::.any::.any::.any::.any::.any::.any::.any::.any::.any::.any::.any::.any::.any::.any::.any::.any::.any::.any::.any::.any::.any::.any::.any::.any::.any::.any::.any::.any::.any::.any::.any::.any::.any::.any::.any::.any::.any::[]),.obj b [.raw (.string t1.1),.raw (.string t1.2)]::.obj bw [I n,B z.2.2,B pair]::.obj pr (RC ls br x y)::τ,true,[]⟩)
  (fun z=>(i1≤z.1∧z.1 < ls.length)∧(0≤z.2.1∧z.2.1≤4000)∧2 * ((ls.length:Int) - z.1).toNat < muN ls i1 c1∧nodeP ls S M k n pair (2 * ls.length+2) i c lead t=atP ls S M (nodeP ls S M k n pair fu) k n z.1 z.2.1 z.2.2 t1) ?_ ?_
 ·have hrs:=restP_some (c:=c1) hs hi1
  by_cases hr0:0 < (restP ls i1 c1).1.length
  ·rw [if_pos hr0] at g6
   have hP:=hrs.2.2.2 hr0
   obtain ⟨p1,p2,p3,p4⟩:=hP
   dsimp only at p1 p2 p3 p4
   repeat' (first|(with_reducible first|refine AW_seq ?_|refine AW_runCond ?_)|simp only [WL,intF,WM,reduceCtorEq,WLb,Nat.reduceAdd,Nat.reduceLT,true_and,T22,cok51,cok60]|simp (disch:=first|omega|(simp only [LN_];omega)) only [wrap_id]|with_reducible refine cD (zRest hs hi1 (by omega) ?_)|((with_reducible first|refine grd_cases (fun h=>?_) (fun h=>?_)|refine condC_split (fun h=>?_) (fun h=>?_))<;>(try simp only [h])<;>(try simp only [NR_,NRb] at h))|omega)
   all_goals first
    | exact ⟨(i1,(restP ls i1 c1).2,l1),St_le_same leA id,⟨Int.le_refl _,g2⟩,⟨p3,p4⟩,by unfold muN;rw [if_pos hr0];dsimp only;omega,g6⟩
    | (exfalso;omega)
  ·rw [if_neg hr0] at g6
   have hi2:0≤i1+1∧i1+1≤ls.length:=by omega
   cases hx:nextP ls (i1+1) with
   | error e =>
    rw [hx] at g6
    repeat' (first|(with_reducible first|refine AW_seq ?_|refine AW_runCond ?_)|simp only [WL,intF,WM,reduceCtorEq,WLb,Nat.reduceAdd,Nat.reduceLT,true_and,T22,cok51,cok60]|simp (disch:=first|omega|(simp only [LN_];omega)) only [wrap_id]|(with_reducible first|refine cD (zRest hs hi1 (by omega) ?_)|refine callD_mk (zNextEr hx hs hi2 ?_))|((with_reducible first|refine grd_cases (fun h=>?_) (fun h=>?_)|refine condC_split (fun h=>?_) (fun h=>?_))<;>(try simp only [h])<;>(try simp only [NR_,NRb] at h))|omega)
    all_goals first
     | exact leafP (sub_cons (sub_cons sub_rfl)) rfl (h2 e (by rw [g6]) _ _ _ _ _ hJ)
     | (exfalso;omega)
   | ok r =>
    obtain ⟨k',ok⟩:=r
    obtain ⟨b1,b2,b3⟩:=next_ok hi2.2 hx
    rw [hx] at g6
    dsimp only at g6
    cases ok
    ·rw [if_pos (.inl rfl)] at g6
     repeat' (first|(with_reducible first|refine AW_seq ?_|refine AW_runCond ?_)|simp only [WL,intF,WM,reduceCtorEq,WLb,Nat.reduceAdd,Nat.reduceLT,Bool.not_false,true_and,reduceIte,T22,cok51,cok60,cok62,Tryz.results50]|simp (disch:=first|omega|(simp only [LN_];omega)) only [wrap_id]|(with_reducible first|refine y_loadA (hK:=?_)|refine cD (zRest hs hi1 (by omega) ?_)|refine callD_mk (zNextOk hx hs hi2 ?_)|refine callD_mk (zEmpty (t:=t1) hJ hll (fun y3 τ3 hJ3=>?_)))|((with_reducible refine AW_drawM (id:=6) 40 mixed ?_ ?_);kernel_rfl)|(with_reducible refine dmQ_mk ?_)|((with_reducible first|refine grd_cases (fun h=>?_) (fun h=>?_)|refine condC_split (fun h=>?_) (fun h=>?_))<;>(try simp only [h])<;>(try simp only [NR_,NRb] at h))|omega)
     all_goals first
      | exact leafL (sub_cons (sub_cons sub_rfl)) (leT_eq rfl) (h1 _ _ g6 _ _ _ hJ3)
      | (exfalso;omega)
    ·have b3:=b3 rfl
     have hik:0≤k'∧k' < ls.length:=⟨by omega,b3⟩
     have hrk:RmP ls f l k':=by unfold RmP at *;omega
     have ha:=hs.at_ (i:=k'.toNat) (by omega)
     have hmu:2 * ((ls.length:Int) - k').toNat < muN ls i1 c1:=by unfold muN;rw [if_neg hr0];omega
     dsimp only [lineP] at g6
     have e1:(ls.getD k'.toNat (0,[])).1 < n→nodeP ls S M k n pair (2 * ls.length+2) i c lead t=.ok ([emptyP t1],i1+1):=fun h=>by rw [g6,if_pos (.inr (.inl h))]
     have e2:(ls.getD k'.toNat (0,[])).1=n→pair=false→nodeP ls S M k n pair (2 * ls.length+2) i c lead t=.ok ([emptyP t1],i1+1):=fun h h'=>by rw [g6,if_pos (.inr (.inr ⟨h,by rw [h'];rfl⟩))]
     have e3:(ls.getD k'.toNat (0,[])).1=n→signP ls k' n 45=false→nodeP ls S M k n pair (2 * ls.length+2) i c lead t=.ok ([emptyP t1],i1+1):=fun h h'=>by rw [g6,if_pos (.inr (.inr ⟨h,by rw [h',Bool.and_false]⟩))]
     have e4:(ls.getD k'.toNat (0,[])).1=n→pair=true→signP ls k' n 45=true→nodeP ls S M k n pair (2 * ls.length+2) i c lead t=S k' n true t1:=fun h h' h''=>by
      rw [g6,if_neg (by rintro (h3|h3|⟨-,h3⟩);cases h3;omega;rw [h',h''] at h3;cases h3),if_pos h]
     have e5:n≤(ls.getD k'.toNat (0,[])).1→¬(ls.getD k'.toNat (0,[])).1=n→nodeP ls S M k n pair (2 * ls.length+2) i c lead t=atP ls S M (nodeP ls S M k n pair fu) k n k' (ls.getD k'.toNat (0,[])).1 true t1:=fun h h'=>by
      rw [g6,if_neg (by rintro (h3|h3|⟨h3,-⟩);cases h3;omega;exact h' h3),if_neg h']
     clear g6
     repeat' (first|(with_reducible first|refine AW_seq ?_|refine AW_runCond ?_)|simp only [WL,intF,WM,reduceCtorEq,WLb,Nat.reduceAdd,Nat.reduceLT,Nat.reduceLeDiff,Nat.reduceEqDiff,Bool.not_true,Bool.not_false,true_and,reduceIte,Bool.false_eq_true,T3,T4,T22,T31,T51,fC fl51_0,fR fl58_0,fR fl97_0,fR fl97_1,fR fl97_2,cok51,cok60,cok61,cok62,cok63,Tryz.results50]|simp (disch:=first|omega|(simp only [LN_];omega)) only [wrap_id,getL]|(with_reducible first|refine andA (hb:=?_)|refine y_load (hK:=?_)|refine y_loadA (hK:=?_)|refine y_store (hK:=?_)|refine cD (zRest hs hi1 (by omega) ?_)|refine callD_mk (zNextOk hx hs hi2 ?_)|refine callD_mk (zEmpty (t:=t1) hJ hll (fun y3 τ3 hJ3=>?_))|refine callD_q (zSign hs hik (by omega) isR_mk) ?_|refine callD_mk (zSeqB hS (t:=t1) hk hJ hb hik (by omega) hrk (fun ev i3 hse x3 y3 τ3 hJ3=>?_) (fun e hse x3 y3 op3 l3 τ3 hJ3=>?_)))|((with_reducible refine AW_drawM (id:=6) 40 mixed ?_ ?_);kernel_rfl)|((with_reducible refine AW_drawM (id:=9) 11 mixed ?_ ?_);kernel_rfl)|((with_reducible refine AW_drawM (id:=11) 12 mixed ?_ ?_);kernel_rfl)|(with_reducible refine dmQ_mk ?_)|((with_reducible first|refine grd_cases (fun h=>?_) (fun h=>?_)|refine condC_split (fun h=>?_) (fun h=>?_))<;>(try simp only [h])<;>(try simp only [NR_,NRb] at h))|omega)
     all_goals first
      | exact leafL (sub_cons (sub_cons sub_rfl)) (leT_eq rfl) (h1 _ _ (e1 (by assumption)) _ _ _ hJ3)
      | exact leafL (sub_cons (sub_cons sub_rfl)) (leT_eq rfl) (h1 _ _ (e2 (by assumption) (by assumption)) _ _ _ hJ3)
      | exact leafL (sub_cons (sub_cons sub_rfl)) (leT_eq rfl) (h1 _ _ (e3 (by assumption) (by assumption)) _ _ _ hJ3)
      | exact leafL (sub_cons (sub_cons sub_rfl)) (leT_eq rfl) (h1 _ _ ((e4 (by assumption) (by assumption) (by assumption)).trans hse) _ _ _ hJ3)
      | exact leafP (sub_cons (sub_cons sub_rfl)) rfl (h2 _ ((e4 (by assumption) (by assumption) (by assumption)).trans hse) _ _ _ _ _ hJ3)
      | exact ⟨(k',(ls.getD k'.toNat (0,[])).1,true),St_le_same leA id,⟨by dsimp only;omega,b3⟩,⟨by dsimp only;omega,by dsimp only;omega⟩,hmu,e5 (by assumption) (by assumption)⟩
      | (exfalso;omega)
 ·rintro ⟨i2,c2,l2⟩ ⟨⟨m1,m2⟩,⟨m3,m4⟩,m5,m6⟩
  dsimp only at m1 m2 m3 m4 m5 m6 ⊢
  have hi2:0≤i2∧i2 < ls.length:=⟨by omega,m2⟩
  have hr2:RmP ls f l i2:=by unfold RmP at *;omega
  have hc2:-1000000000≤c2∧c2≤1000000000:=by omega
  have hc22:0≤c2∧c2≤4500:=by omega
  unfold atP at m6
  cases hsg:signP ls i2 c2 45
  ·rw [hsg,if_neg Bool.false_ne_true] at m6
   cases hak:asksP ls i2 c2
   ·rw [hak,if_neg Bool.false_ne_true] at m6
    cases hp:propsP ls i2 c2 with
    | error e =>
     rw [hp] at m6
     have he:=props_err hp
     repeat' (first|(with_reducible first|refine AW_seqA (AW_seqA ?_)|refine AW_seq ?_|refine AW_runReg ?_|refine AW_runCond ?_)|simp only [WL,WM,Nat.reduceAdd,Nat.reduceLT,Nat.reduceEqDiff,true_and,T53,fR fl58_1,cok61,cok65,cok67,cok68,hsg,hak]|(with_reducible first|refine andA (hb:=?_)|refine y_load (hK:=?_)|refine y_storeA (hK:=?_)|refine y_new (hK:=fun b=>?_)|refine cD (zSign hs hi2 (by omega) ?_)|refine callD_mk (zAsks (ls:=ls) hs hi2 (by omega) ?_)|refine callD_mk (jTrEr hp hs (by omega) ?_)|refine callD_mk (zMustE he ?_)))
     exact leafP subA rfl (h2 e m6 _ _ _ _ _ hJ)
    | ok r =>
     obtain ⟨more,c3⟩:=r
     obtain ⟨p1,p2,p3⟩:=props_s hs (by omega) hp
     have hc3:-1000000000≤c3∧c3≤1000000000:=by omega
     rw [hp] at m6
     dsimp only at m6
     cases hj:joinP t1 more with
     | none =>
      rw [hj] at m6
      repeat' (first|(with_reducible first|refine AW_seqA (AW_seqA ?_)|refine AW_seq ?_|refine AW_runReg ?_|refine AW_runCond ?_)|simp only [WL,WM,Nat.reduceAdd,Nat.reduceLT,Nat.reduceEqDiff,true_and,T53,fR fl58_1,cok61,cok65,cok67,cok68,cok69,hsg,hak]|(with_reducible first|refine andA (hb:=?_)|refine y_load (hK:=?_)|refine y_loadA (hK:=?_)|refine y_storeA (hK:=?_)|refine y_new (hK:=fun b=>?_)|refine cD (zSign hs hi2 (by omega) ?_)|refine callD_mk (zAsks (ls:=ls) hs hi2 (by omega) ?_)|refine callD_mk (jTrOk hp hs (by omega) ?_)|refine callD_mk (zMust0 ?_)|refine callD_mk (zJoinEr hj g4 p1 ?_)))
      exact leafP subA rfl (h2 2 m6 _ _ _ _ _ hJ)
     | some t2 =>
      have ht2:=join_s hj g4 p1
      rw [hj] at m6
      dsimp only at m6
      by_cases hr3:0 < (restP ls i2 c3).1.length
      ·rw [if_pos hr3] at m6
       have hkk:(op.length:Int)=k:=by omega
       cases hlf:leafD ls i2 c3 n k t2 with
       | error e =>
        rw [hlf] at m6
        rw [← hkk] at hlf
        repeat' (first|(with_reducible first|refine AW_seqA (AW_seqA ?_)|refine AW_seq ?_|refine AW_runReg ?_|refine AW_runCond ?_)|simp only [WL,intF,WM,reduceCtorEq,WLb,Nat.reduceAdd,Nat.reduceLT,Nat.reduceEqDiff,true_and,T3,T22,T53,fR fl58_1,fR fl97_0,cok60,cok61,cok65,cok67,cok68,cok69,cok70,hsg,hak]|(with_reducible first|refine andA (hb:=?_)|refine y_load (hK:=?_)|refine y_loadA (hK:=?_)|refine y_storeA (hK:=?_)|refine y_new (hK:=fun b=>?_)|refine cD (zSign hs hi2 (by omega) ?_)|refine callD_mk (zAsks (ls:=ls) hs hi2 (by omega) ?_)|refine callD_mk (jTrOk hp hs (by omega) ?_)|refine callD_mk (zMust0 ?_)|refine callD_mk (zJoinOk hj g4 p1 ?_)|refine callD_mk (zRest hs hi2 hc3 ?_)|refine callD_mk (zLeafEr hlf hJ hb hs (by omega) hll hi2 hr3 hc3 (by omega) (fun y3 l3 τ3 hJ3=>?_)))|((with_reducible first|refine grd_cases (fun h=>?_) (fun h=>?_)|refine condC_split (fun h=>?_) (fun h=>?_))<;>(try simp only [h])<;>(try simp only [NR_,NRb] at h))|omega)
        all_goals first
         | exact leafP subA rfl (h2 e m6 _ _ _ _ _ hJ3)
         | (exfalso;omega)
       | ok r =>
        obtain ⟨ev,i3⟩:=r
        rw [hlf] at m6
        rw [← hkk] at hlf
        repeat' (first|(with_reducible first|refine AW_seqA (AW_seqA ?_)|refine AW_seq ?_|refine AW_runReg ?_|refine AW_runCond ?_)|simp only [WL,intF,WM,reduceCtorEq,WLb,Nat.reduceAdd,Nat.reduceLT,Nat.reduceEqDiff,true_and,T3,T22,T53,fR fl58_1,fR fl97_0,cok60,cok61,cok65,cok67,cok68,cok69,cok70,Tryz.results50,hsg,hak]|(with_reducible first|refine andA (hb:=?_)|refine y_load (hK:=?_)|refine y_loadA (hK:=?_)|refine y_storeA (hK:=?_)|refine y_new (hK:=fun b=>?_)|refine cD (zSign hs hi2 (by omega) ?_)|refine callD_mk (zAsks (ls:=ls) hs hi2 (by omega) ?_)|refine callD_mk (jTrOk hp hs (by omega) ?_)|refine callD_mk (zMust0 ?_)|refine callD_mk (zJoinOk hj g4 p1 ?_)|refine callD_mk (zRest hs hi2 hc3 ?_)|refine callD_mk (zLeafOk hlf hJ hb hs (by omega) hll hi2 hr3 hc3 (by omega) (fun y3 τ3 hJ3=>?_)))|((with_reducible first|refine grd_cases (fun h=>?_) (fun h=>?_)|refine condC_split (fun h=>?_) (fun h=>?_))<;>(try simp only [h])<;>(try simp only [NR_,NRb] at h))|omega)
        all_goals first
         | exact leafL subA (leT_eq rfl) (h1 _ _ m6 _ _ _ hJ3)
         | (exfalso;omega)
      ·rw [if_neg hr3] at m6
       have hmu3:muN ls i2 c3 < muN ls i1 c1:=by
        show 2 * ((ls.length:Int) - i2).toNat+(if 0 < (restP ls i2 c3).1.length then 1 else 0) < _
        rw [if_neg hr3];omega
       repeat' (first|(with_reducible first|refine AW_seqA (AW_seqA ?_)|refine AW_seq ?_|refine AW_runReg ?_|refine AW_runCond ?_)|simp only [WL,intF,WM,reduceCtorEq,WLb,Nat.reduceAdd,Nat.reduceLT,Nat.reduceEqDiff,true_and,T3,T22,T53,fR fl58_1,fR fl97_0,cok60,cok61,cok65,cok67,cok68,cok69,cok70,hsg,hak]|(with_reducible first|refine andA (hb:=?_)|refine y_load (hK:=?_)|refine y_loadA (hK:=?_)|refine y_storeA (hK:=?_)|refine y_new (hK:=fun b=>?_)|refine cD (zSign hs hi2 (by omega) ?_)|refine callD_mk (zAsks (ls:=ls) hs hi2 (by omega) ?_)|refine callD_mk (jTrOk hp hs (by omega) ?_)|refine callD_mk (zMust0 ?_)|refine callD_mk (zJoinOk hj g4 p1 ?_)|refine callD_mk (zRest hs hi2 hc3 ?_))|((with_reducible first|refine grd_cases (fun h=>?_) (fun h=>?_)|refine condC_split (fun h=>?_) (fun h=>?_))<;>(try simp only [h])<;>(try simp only [NR_,NRb] at h))|omega)
       all_goals first
        | exact ⟨(i2,c3,l2,t2),St_leW leA (ResW.sub (List.sublist_cons_self _ _)) id,⟨⟨by dsimp only;omega,m2⟩,⟨p2,by dsimp only;omega⟩,ht2,fu,by dsimp only;omega,m6⟩,hmu3⟩
        | (exfalso;omega)
   ·rw [hak,if_pos rfl] at m6
    cases l2
    ·rw [if_neg Bool.false_ne_true] at m6
     repeat' (first|(with_reducible first|refine AW_seqA (AW_seqA ?_)|refine AW_runReg ?_|refine AW_runCond ?_)|simp only [WL,WM,Nat.reduceAdd,Nat.reduceEqDiff,true_and,T4,fR fl97_1,cok61,cok64,cok65,hsg,hak]|(with_reducible first|refine andA (hb:=?_)|refine y_load (hK:=?_)|refine cD (zSign hs hi2 (by omega) ?_)|refine callD_mk (zAsks (ls:=ls) hs hi2 (by omega) ?_)|refine callD_mk (zNeedF ?_)))
     exact leafP subA rfl (h2 2 m6 _ _ _ _ _ hJ)
    ·rw [if_pos rfl] at m6
     repeat' (first|(with_reducible first|refine AW_seqA (AW_seqA ?_)|refine AW_runReg ?_|refine AW_runCond ?_)|simp only [WL,WM,Nat.reduceAdd,Nat.reduceEqDiff,true_and,T4,fR fl97_1,cok61,cok64,cok65,cok66,Tryz.results50,hsg,hak]|(with_reducible first|refine andA (hb:=?_)|refine y_load (hK:=?_)|refine y_loadA (hK:=?_)|refine cD (zSign hs hi2 (by omega) ?_)|refine callD_mk (zAsks (ls:=ls) hs hi2 (by omega) ?_)|refine callD_mk (zNeedT ?_)|refine callD_mk (zMapB hM (t:=t1) hk hJ hb hi2 hc22 hr2 (fun ev i3 hse x3 y3 τ3 hJ3=>?_) (fun e hse x3 y3 op3 l3 τ3 hJ3=>?_))))
     all_goals first
      | exact leafL subA (leT_eq rfl) (h1 _ _ (m6.trans hse) _ _ _ hJ3)
      | exact leafP subA rfl (h2 _ (m6.trans hse) _ _ _ _ _ hJ3)
  ·rw [hsg,if_pos rfl] at m6
   cases l2
   ·rw [if_neg Bool.false_ne_true] at m6
    repeat' (first|(with_reducible first|refine AW_seqA (AW_seqA ?_)|refine AW_runReg ?_|refine AW_runCond ?_)|simp only [WL,WM,Nat.reduceAdd,Nat.reduceEqDiff,true_and,T4,fR fl97_1,cok61,cok64,hsg]|(with_reducible first|refine andA (hb:=?_)|refine y_load (hK:=?_)|refine cD (zSign hs hi2 (by omega) ?_)|refine callD_mk (zNeedF ?_)))
    exact leafP subA rfl (h2 2 m6 _ _ _ _ _ hJ)
   ·rw [if_pos rfl] at m6
    repeat' (first|(with_reducible first|refine AW_seqA (AW_seqA ?_)|refine AW_runReg ?_|refine AW_runCond ?_)|simp only [WL,WM,Nat.reduceAdd,Nat.reduceEqDiff,true_and,T4,fR fl97_1,cok61,cok63,cok64,Tryz.results50,hsg]|(with_reducible first|refine andA (hb:=?_)|refine y_load (hK:=?_)|refine y_loadA (hK:=?_)|refine cD (zSign hs hi2 (by omega) ?_)|refine callD_mk (zNeedT ?_)|refine callD_mk (zSeqB hS (t:=t1) hk hJ hb hi2 hc22 hr2 (fun ev i3 hse x3 y3 τ3 hJ3=>?_) (fun e hse x3 y3 op3 l3 τ3 hJ3=>?_))))
    all_goals first
     | exact leafL subA (leT_eq rfl) (h1 _ _ (m6.trans hse) _ _ _ hJ3)
     | exact leafP subA rfl (h2 _ (m6.trans hse) _ _ _ _ _ hJ3)
end Go.Proofs.YthkabaiamcjdbaaGreat
