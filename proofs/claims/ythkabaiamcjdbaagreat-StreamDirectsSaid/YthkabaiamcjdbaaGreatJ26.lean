/-
  Texts Ku, one behind the other.
-/
import Derived.Test.YthkabaiamcjdbaaGreatJ25
set_option linter.unusedVariables false
set_option maxRecDepth 4000
set_option linter.unusedSimpArgs false
set_option maxHeartbeats 16000000
namespace Go.Proofs.YthkabaiamcjdbaaGreat
open Go.Abs
variable {κ:Ctx} {σ:List Res} {K:Ret→List Res→Prop} {o o':Option (Option (Nat × Nat))}
abbrev VI (κ:Ctx) (pr br:Nat) (ls:List Ln) (S:Int→Int→Bool→TP→PR) (f k:Nat):Prop :=
 ∀ {x y:AV} {op:List Int} {l:List EvV} {τ σ0:List Res} {i c:Int} {pair:Bool} {t:TP} {K:Ret→List Res→Prop},op.length=k→JX x y op l τ σ0→Res.obj br [SL none ls]∈σ0→(0≤i∧i < ls.length)→(0≤c∧c≤4500)→oj ls f l i →
  (∀ ev i2,S i c pair t=.ok (ev,i2)→∀ x' y' τ',JX x' y' op (l++ev) τ' σ0→K (.ret (I i2)) (.obj pr (RC ls br x' y')::τ')) →
  (∀ e,S i c pair t=.error e→∀ x' y' op' l' τ',JX x' y' op' l' τ' σ0→K (.pan (bI e)) (.obj pr (RC ls br x' y')::τ')) →
  ACallF κ Tryz.prog 63 [JP pr,I i,I c,B pair,kH t] (.obj pr (RC ls br x y)::τ) K
abbrev WZ (κ:Ctx) (pr br:Nat) (ls:List Ln) (M:Int→Int→TP→PR) (f k:Nat):Prop :=
 ∀ {x y:AV} {op:List Int} {l:List EvV} {τ σ0:List Res} {i c:Int} {t:TP} {K:Ret→List Res→Prop},op.length=k→JX x y op l τ σ0→Res.obj br [SL none ls]∈σ0→(0≤i∧i < ls.length)→(0≤c∧c≤4500)→oj ls f l i →
  (∀ ev i2,M i c t=.ok (ev,i2)→∀ x' y' τ',JX x' y' op (l++ev) τ' σ0→K (.ret (I i2)) (.obj pr (RC ls br x' y')::τ')) →
  (∀ e,M i c t=.error e→∀ x' y' op' l' τ',JX x' y' op' l' τ' σ0→K (.pan (bI e)) (.obj pr (RC ls br x' y')::τ')) →
  ACallF κ Tryz.prog 66 [JP pr,I i,I c,kH t] (.obj pr (RC ls br x y)::τ) K
theorem Qr {pr br f k:Nat}{ls:List Ln}{S:Int→Int→Bool→TP→PR} (hS:VI κ pr br ls S f k) {x y:AV}{op:List Int}{l:List EvV}{ρ τ σ0:List Res}{i c:Int}{pair:Bool}{t:TP} [hSp:Split σ pr ρ (RC ls br x y) τ] (hk:op.length=k) (hJ:JX x y op l τ σ0) (hb:Res.obj br [SL none ls]∈σ0) (hi:0≤i∧i < ls.length) (hc:0≤c∧c≤4500) (hr:oj ls f l i)
  (h1:∀ ev i2,S i c pair t=.ok (ev,i2)→∀ x' y' τ',JX x' y' op (l++ev) τ' σ0→K (.ret (I i2)) (ρ ++ .obj pr (RC ls br x' y')::τ'))
  (h2:∀ e,S i c pair t=.error e→∀ x' y' op' l' τ',JX x' y' op' l' τ' σ0→K (.pan (bI e)) (ρ ++ .obj pr (RC ls br x' y')::τ')):ACallF κ Tryz.prog 63 [JP pr,I i,I c,B pair,kH t] σ K :=
 ACallF.at_ (b:=pr) (hS hk hJ hb hi hc hr h1 h2)
theorem VY {pr br f k:Nat}{ls:List Ln}{M:Int→Int→TP→PR} (hM:WZ κ pr br ls M f k) {x y:AV}{op:List Int}{l:List EvV}{ρ τ σ0:List Res}{i c:Int}{t:TP} [hSp:Split σ pr ρ (RC ls br x y) τ] (hk:op.length=k) (hJ:JX x y op l τ σ0) (hb:Res.obj br [SL none ls]∈σ0) (hi:0≤i∧i < ls.length) (hc:0≤c∧c≤4500) (hr:oj ls f l i)
  (h1:∀ ev i2,M i c t=.ok (ev,i2)→∀ x' y' τ',JX x' y' op (l++ev) τ' σ0→K (.ret (I i2)) (ρ ++ .obj pr (RC ls br x' y')::τ'))
  (h2:∀ e,M i c t=.error e→∀ x' y' op' l' τ',JX x' y' op' l' τ' σ0→K (.pan (bI e)) (ρ ++ .obj pr (RC ls br x' y')::τ')):ACallF κ Tryz.prog 66 [JP pr,I i,I c,kH t] σ K :=
 ACallF.at_ (b:=pr) (hM hk hJ hb hi hc hr h1 h2)
theorem EA {br ix:Nat}{ls:List Ln}{i c c2:Int}{t:TP} [hR:Hold σ br ix [SL none ls]] (hp:gn ls i c=.ok (t,c2)) (hs:Small ls) (hc:0≤c∧c≤1000000000) (hK:K (.ret (.tup [kH t,I c2,I 0])) σ):ACallF κ Tryz.prog 67 [JP br,I i,I c] σ K :=
 Al hs (by omega) hc.1 (fun t' c' h=>by rw [hp] at h;cases h;exact hK) (fun e h=>by rw [hp] at h;cases h)
theorem XS {br ix:Nat}{ls:List Ln}{i c e:Int} [hR:Hold σ br ix [SL none ls]] (hp:gn ls i c=.error e) (hs:Small ls) (hc:0≤c∧c≤1000000000) (hK:K (.ret (.tup [kH tp0,I c,I e])) σ):ACallF κ Tryz.prog 67 [JP br,I i,I c] σ K :=
 Al hs (by omega) hc.1 (fun t' c' h=>by rw [hp] at h;cases h) (fun e h=>by rw [hp] at h;cases h;exact hK)
theorem yb {a b t:TP} (hj:ob a b=some t) (ha:LX a) (hb:LX b) (hK:K (.ret (kH t)) σ):ACallF κ Tryz.prog 69 [kH a,kH b] σ K :=
 FC ⟨ha.1,ha.2,hb.1,hb.2⟩ (fun t' h=>by rw [hj] at h;cases h;exact hK) (fun h=>by rw [hj] at h;cases h)
theorem OB {a b:TP} (hj:ob a b=none) (ha:LX a) (hb:LX b) (hK:K (.pan (bI 2)) σ):ACallF κ Tryz.prog 69 [kH a,kH b] σ K :=
 FC ⟨ha.1,ha.2,hb.1,hb.2⟩ (fun t' h=>by rw [hj] at h;cases h) (fun _=>hK)
abbrev Pp (ls:List Ln) (i c:Int):Nat:=2 * ((ls.length:Int) - i).toNat+(if 0 < (bz ls i c).1.length then 1 else 0)
theorem KL {ls:List Ln}{S:Int→Int→Bool→TP→PR}{M:Int→Int→TP→PR}{d n:Int}{pair:Bool}{f:Nat}{i c:Int}{lead:Bool}{t:TP}:eJ ls S M d n pair (f+1) i c lead t =
  if 0 < (bz ls i c).1.length then F0 ls S M (eJ ls S M d n pair f) d n i (bz ls i c).2 lead t
  else match fX ls (i+1) with
   | .error e=>.error e
   | .ok (k,ok) =>
    if ok=false∨(aF ls k).1 < n∨(aF ls k).1=n∧(pair && fb ls k n 45)=false then .ok ([mR t],i+1)
    else if (aF ls k).1=n then S k n true t
    else F0 ls S M (eJ ls S M d n pair f) d n k (aF ls k).1 true t:=rfl
theorem Im {pr br f k:Nat}{ls:List Ln}{S:Int→Int→Bool→TP→PR}{M:Int→Int→TP→PR}{x y:AV}{op:List Int}{l:List EvV}{τ σ0:List Res}{i c n:Int}{pair lead:Bool}{t:TP} (hS:VI κ pr br ls S f k) (hM:WZ κ pr br ls M f k) (hk:op.length=k) (hk2:k≤200) (hJ:JX x y op l τ σ0) (hb:Res.obj br [SL none ls]∈σ0) (hs:Small ls) (hi:0≤i∧i < ls.length) (hc:0≤c∧c≤5000) (hn:-1≤n∧n≤5000) (ht:LX t) (hr:oj ls f l i)
  (h1:∀ ev i2,eJ ls S M k n pair (2 * ls.length+2) i c lead t=.ok (ev,i2)→∀ x' y' τ',JX x' y' op (l++ev) τ' σ0→K (.ret (I i2)) (.obj pr (RC ls br x' y')::τ'))
  (h2:∀ e,eJ ls S M k n pair (2 * ls.length+2) i c lead t=.error e→∀ x' y' op' l' τ',JX x' y' op' l' τ' σ0→K (.pan (bI e)) (.obj pr (RC ls br x' y')::τ')) :
  ACallF κ Tryz.prog 50 [JP pr,I i,I c,WA n lead pair,kH t] (.obj pr (RC ls br x y)::τ) K:=by
 have hl:=hs.1
 have hll:l.length≤100000000000:=by unfold oj at hr;omega
 obtain ⟨ix,hB⟩:=hJ.hold hb;refine ACallF.dropL (aN Tryz.func50 rfl ?_);simp only [Tryz.ntmps50]
 repeat' (first|(with_reducible first|refine aC ?_|refine bO ?_|refine aG ?_)|simp only [WL,WM,Nat.reduceAdd,Nat.reduceSub]|with_reducible refine aQ (hK:=fun b=>?_))
 rename_i bw;refine dq (fun z:Int × Int × Bool × TP=>⟨(JP pr::I z.1::I z.2.1::WA n lead pair::kH t::.any::.any::.any::JP bw::JP b::I 0::.any::.any::.any::.any::.any::.any::.any::.any::.any::.any::.any::.any::.any::.any::.any::.any::.any::.any::.any::.any::.any::.any::.any::.any::.any::.any::.any::.any::.any::.any::.any::.any::.any::.any::.any::.any::.any::.any::.any::.any::.any::.any::.any::.any::.any::.any::.any::.any::.any::.any::.any::.any::.any::.any::.any::.any::.any::.any::.any::.any::.any::.any::.any::.any::.any::.any::.any::.any::.any::.any::.any::.any::.any::.any::.any::.any::.any::.any::.any::.any::.any::.any::.any::.any::.any::.any::.any::.any::.any::.any::.any::.any::.any::.any::.any::.any::.any::.any::.any::.any::.any::.any::.any::.any::.any::.any::.any::.any::.any::.any::.any::.any::.any::.any::.any::.any::.any::.any::.any::.any::.any::.any::.any::.any::.any::.any::.any::.any::.any::.any::.any::.any::.any::.any::.any::.any::.any::.any::.any::.any::.any::.any::.any::.any::.any::.any::.any::.any::.any::.any::.any::.any::.any::.any::.any::.any::.any::.any::[]),.obj b [.raw (.string z.2.2.2.1),.raw (.string z.2.2.2.2)]::.obj bw [I n,B z.2.2.1,B pair]::.obj pr (RC ls br x y)::τ,true,[]⟩)
  (fun z=>(i≤z.1∧z.1 < ls.length)∧(0≤z.2.1∧z.2.1≤5000)∧LX z.2.2.2∧∃ fu,Pp ls z.1 z.2.1 < fu∧eJ ls S M k n pair (2 * ls.length+2) i c lead t=eJ ls S M k n pair fu z.1 z.2.1 z.2.2.1 z.2.2.2) (fun z=>Pp ls z.1 z.2.1) (i,c,lead,t) (aq bH id) ⟨⟨Int.le_refl _,hi.2⟩,hc,ht,2 * ls.length+2,by unfold Pp;dsimp only;split<;>omega,rfl⟩ ?_
 rintro ⟨i1,c1,l1,t1⟩ ⟨⟨g1,g2⟩,g3,g4,fu,g5,g6⟩;dsimp only at g1 g2 g3 g4 g5 g6 ⊢;cases fu with
 | zero=>omega
 | succ fu =>
 replace g6:=g6.trans KL
 have hi1:0≤i1∧i1 < ls.length:=⟨by omega,g2⟩
 repeat' (first|(with_reducible first|refine jS (id:=1) ?_|refine aC ?_))
 refine nW (fun z:Int × Int × Bool=>⟨(JP pr::I z.1::I z.2.1::WA n lead pair::kH t::.any::.any::.any::JP bw::JP b::I 0::.any::.any::.any::.any::.any::.any::.any::.any::.any::.any::.any::.any::.any::.any::.any::.any::.any::.any::.any::.any::.any::.any::.any::.any::.any::.any::.any::.any::.any::.any::.any::.any::.any::.any::.any::.any::.any::.any::.any::.any::.any::.any::.any::.any::.any::.any::.any::.any::.any::.any::.any::.any::.any::.any::.any::.any::.any::.any::.any::.any::.any::.any::.any::.any::.any::.any::.any::.any::.any::.any::.any::.any::.any::.any::.any::.any::.any::.any::.any::.any::.any::.any::.any::.any::.any::.any::.any::.any::.any::.any::.any::.any::.any::.any::.any::.any::.any::.any::.any::.any::.any::.any::.any::.any::.any::.any::.any::.any::.any::.any::.any::.any::.any::.any::.any::.any::.any::.any::.any::.any::.any::.any::.any::.any::.any::.any::.any::.any::.any::.any::.any::.any::.any::.any::.any::.any::.any::.any::.any::.any::.any::.any::.any::.any::.any::.any::.any::.any::.any::.any::.any::.any::.any::.any::.any::.any::.any::.any::[]),.obj b [.raw (.string t1.1),.raw (.string t1.2)]::.obj bw [I n,B z.2.2,B pair]::.obj pr (RC ls br x y)::τ,true,[]⟩)
  (fun z=>(i1≤z.1∧z.1 < ls.length)∧(0≤z.2.1∧z.2.1≤4000)∧2 * ((ls.length:Int) - z.1).toNat < Pp ls i1 c1∧eJ ls S M k n pair (2 * ls.length+2) i c lead t=F0 ls S M (eJ ls S M k n pair fu) k n z.1 z.2.1 z.2.2 t1) ?_ ?_
 ·have hrs:=ez (c:=c1) hs hi1
  by_cases hr0:0 < (bz ls i1 c1).1.length
  ·rw [if_pos hr0] at g6
   have hP:=hrs.2.2.2 hr0
   obtain ⟨p1,p2,p3,p4⟩:=hP;dsimp only at p1 p2 p3 p4
   repeat' (first|(with_reducible first|refine aG ?_|refine aw ?_)|simp only [WL,ay,WM,reduceCtorEq,bg,Nat.reduceAdd,Nat.reduceLT,true_and,cb,jf,kX]|simp (disch:=first|omega|(simp only [aU];omega)) only [an]|with_reducible refine cD (kN hs hi1 (by omega) ?_)|((with_reducible first|refine ai (fun h=>?_) (fun h=>?_)|refine ab (fun h=>?_) (fun h=>?_))<;>(try simp only [h])<;>(try simp only [bf,ba] at h))|omega)
   all_goals first
    | exact ⟨(i1,(bz ls i1 c1).2,l1),aq bH id,⟨Int.le_refl _,g2⟩,⟨p3,p4⟩,by unfold Pp;rw [if_pos hr0];dsimp only;omega,g6⟩
    | (exfalso;omega)
  ·rw [if_neg hr0] at g6
   have hi2:0≤i1+1∧i1+1≤ls.length:=by omega
   cases hx:fX ls (i1+1) with
   | error e =>
    rw [hx] at g6
    repeat' (first|(with_reducible first|refine aG ?_|refine aw ?_)|simp only [WL,ay,WM,reduceCtorEq,bg,Nat.reduceAdd,Nat.reduceLT,true_and,cb,jf,kX]|simp (disch:=first|omega|(simp only [aU];omega)) only [an]|(with_reducible first|refine cD (kN hs hi1 (by omega) ?_)|refine callD_mk (sc hx hs hi2 ?_))|((with_reducible first|refine ai (fun h=>?_) (fun h=>?_)|refine ab (fun h=>?_) (fun h=>?_))<;>(try simp only [h])<;>(try simp only [bf,ba] at h))|omega)
    all_goals first
     | exact aS (ah (ah ae)) rfl (h2 e (by rw [g6]) _ _ _ _ _ hJ)
     | (exfalso;omega)
   | ok r =>
    obtain ⟨k',ok⟩:=r;obtain ⟨b1,b2,b3⟩:=jB hi2.2 hx;rw [hx] at g6;dsimp only at g6;cases ok
    ·rw [if_pos (.inl rfl)] at g6
     repeat' (first|(with_reducible first|refine aG ?_|refine aw ?_)|simp only [WL,ay,WM,reduceCtorEq,bg,Nat.reduceAdd,Nat.reduceLT,Bool.not_false,true_and,reduceIte,cb,jf,kX,Bu,Tryz.results50]|simp (disch:=first|omega|(simp only [aU];omega)) only [an]|(with_reducible first|refine aA (hK:=?_)|refine cD (kN hs hi1 (by omega) ?_)|refine callD_mk (gK hx hs hi2 ?_)|refine callD_mk (ug (t:=t1) hJ hll (fun y3 τ3 hJ3=>?_)))|((with_reducible refine aE (id:=6) 40 mixed ?_ ?_);kernel_rfl)|(with_reducible refine bK ?_)|((with_reducible first|refine ai (fun h=>?_) (fun h=>?_)|refine ab (fun h=>?_) (fun h=>?_))<;>(try simp only [h])<;>(try simp only [bf,ba] at h))|omega)
     all_goals first
      | exact ak (ah (ah ae)) (aj rfl) (h1 _ _ g6 _ _ _ hJ3)
      | (exfalso;omega)
    ·have b3:=b3 rfl
     have hik:0≤k'∧k' < ls.length:=⟨by omega,b3⟩
     have hrk:oj ls f l k':=by unfold oj at *;omega
     have ha:=hs.at_ (i:=k'.toNat) (by omega)
     have hmu:2 * ((ls.length:Int) - k').toNat < Pp ls i1 c1:=by unfold Pp;rw [if_neg hr0];omega
     dsimp only [aF] at g6;have e1:(ls.getD k'.toNat (0,[])).1 < n→eJ ls S M k n pair (2 * ls.length+2) i c lead t=.ok ([mR t1],i1+1):=fun h=>by rw [g6,if_pos (.inr (.inl h))]
     have e2:(ls.getD k'.toNat (0,[])).1=n→pair=false→eJ ls S M k n pair (2 * ls.length+2) i c lead t=.ok ([mR t1],i1+1):=fun h h'=>by rw [g6,if_pos (.inr (.inr ⟨h,by rw [h'];rfl⟩))]
     have e3:(ls.getD k'.toNat (0,[])).1=n→fb ls k' n 45=false→eJ ls S M k n pair (2 * ls.length+2) i c lead t=.ok ([mR t1],i1+1):=fun h h'=>by rw [g6,if_pos (.inr (.inr ⟨h,by rw [h',Bool.and_false]⟩))]
     have e4:(ls.getD k'.toNat (0,[])).1=n→pair=true→fb ls k' n 45=true→eJ ls S M k n pair (2 * ls.length+2) i c lead t=S k' n true t1:=fun h h' h''=>by
      rw [g6,if_neg (by rintro (h3|h3|⟨-,h3⟩);cases h3;omega;rw [h',h''] at h3;cases h3),if_pos h]
     have e5:n≤(ls.getD k'.toNat (0,[])).1→¬(ls.getD k'.toNat (0,[])).1=n→eJ ls S M k n pair (2 * ls.length+2) i c lead t=F0 ls S M (eJ ls S M k n pair fu) k n k' (ls.getD k'.toNat (0,[])).1 true t1:=fun h h'=>by
      rw [g6,if_neg (by rintro (h3|h3|⟨h3,-⟩);cases h3;omega;exact h' h3),if_neg h']
     clear g6
     repeat' (first|(with_reducible first|refine aG ?_|refine aw ?_)|simp only [WL,ay,WM,reduceCtorEq,bg,Nat.reduceAdd,Nat.reduceLT,Nat.reduceLeDiff,Nat.reduceEqDiff,Bool.not_true,Bool.not_false,true_and,reduceIte,Bool.false_eq_true,T3,T4,cb,gg,jm,fC db,fR gL,fR ya,fR tR,fR UQ,jf,kX,ee,Bu,Ql,Tryz.results50]|simp (disch:=first|omega|(simp only [aU];omega)) only [an,dO]|(with_reducible first|refine ax (hb:=?_)|refine au (hK:=?_)|refine aA (hK:=?_)|refine aP (hK:=?_)|refine cD (kN hs hi1 (by omega) ?_)|refine callD_mk (gK hx hs hi2 ?_)|refine callD_mk (ug (t:=t1) hJ hll (fun y3 τ3 hJ3=>?_))|refine callD_q (eg hs hik (by omega) aT) ?_|refine callD_mk (Qr hS (t:=t1) hk hJ hb hik (by omega) hrk (fun ev i3 hse x3 y3 τ3 hJ3=>?_) (fun e hse x3 y3 op3 l3 τ3 hJ3=>?_)))|((with_reducible refine aE (id:=6) 40 mixed ?_ ?_);kernel_rfl)|((with_reducible refine aE (id:=9) 11 mixed ?_ ?_);kernel_rfl)|((with_reducible refine aE (id:=11) 12 mixed ?_ ?_);kernel_rfl)|(with_reducible refine bK ?_)|((with_reducible first|refine ai (fun h=>?_) (fun h=>?_)|refine ab (fun h=>?_) (fun h=>?_))<;>(try simp only [h])<;>(try simp only [bf,ba] at h))|omega)
     all_goals first
      | exact ak (ah (ah ae)) (aj rfl) (h1 _ _ (e1 (by assumption)) _ _ _ hJ3)
      | exact ak (ah (ah ae)) (aj rfl) (h1 _ _ (e2 (by assumption) (by assumption)) _ _ _ hJ3)
      | exact ak (ah (ah ae)) (aj rfl) (h1 _ _ (e3 (by assumption) (by assumption)) _ _ _ hJ3)
      | exact ak (ah (ah ae)) (aj rfl) (h1 _ _ ((e4 (by assumption) (by assumption) (by assumption)).trans hse) _ _ _ hJ3)
      | exact aS (ah (ah ae)) rfl (h2 _ ((e4 (by assumption) (by assumption) (by assumption)).trans hse) _ _ _ _ _ hJ3)
      | exact ⟨(k',(ls.getD k'.toNat (0,[])).1,true),aq bH id,⟨by dsimp only;omega,b3⟩,⟨by dsimp only;omega,by dsimp only;omega⟩,hmu,e5 (by assumption) (by assumption)⟩
      | (exfalso;omega)
 ·rintro ⟨i2,c2,l2⟩ ⟨⟨m1,m2⟩,⟨m3,m4⟩,m5,m6⟩
  dsimp only at m1 m2 m3 m4 m5 m6 ⊢;have hi2:0≤i2∧i2 < ls.length:=⟨by omega,m2⟩
  have hr2:oj ls f l i2:=by unfold oj at *;omega
  have hc2:-1000000000≤c2∧c2≤1000000000:=by omega
  have hc22:0≤c2∧c2≤4500:=by omega
  unfold F0 at m6;cases hsg:fb ls i2 c2 45
  ·rw [hsg,if_neg Bool.false_ne_true] at m6
   cases hak:Ao ls i2 c2
   ·rw [hak,if_neg Bool.false_ne_true] at m6
    cases hp:gn ls i2 c2 with
    | error e =>
     rw [hp] at m6;have he:=GU hp
     repeat' (first|(with_reducible first|refine al (al ?_)|refine aG ?_|refine aB ?_|refine aw ?_)|simp only [WL,WM,Nat.reduceAdd,Nat.reduceLT,Nat.reduceEqDiff,true_and,DO,fR gq,ee,uE,zP,j5,hsg,hak]|(with_reducible first|refine ax (hb:=?_)|refine au (hK:=?_)|refine az (hK:=?_)|refine aV (hK:=fun b=>?_)|refine cD (eg hs hi2 (by omega) ?_)|refine callD_mk (tc (ls:=ls) hs hi2 (by omega) ?_)|refine callD_mk (XS hp hs (by omega) ?_)|refine callD_mk (Dy he ?_)))
     exact aS bC rfl (h2 e m6 _ _ _ _ _ hJ)
    | ok r =>
     obtain ⟨more,c3⟩:=r;obtain ⟨p1,p2,p3⟩:=Oe hs (by omega) hp;have hc3:-1000000000≤c3∧c3≤1000000000:=by omega
     rw [hp] at m6;dsimp only at m6;cases hj:ob t1 more with
     | none =>
      rw [hj] at m6
      repeat' (first|(with_reducible first|refine al (al ?_)|refine aG ?_|refine aB ?_|refine aw ?_)|simp only [WL,WM,Nat.reduceAdd,Nat.reduceLT,Nat.reduceEqDiff,true_and,DO,fR gq,ee,uE,zP,j5,EI,hsg,hak]|(with_reducible first|refine ax (hb:=?_)|refine au (hK:=?_)|refine aA (hK:=?_)|refine az (hK:=?_)|refine aV (hK:=fun b=>?_)|refine cD (eg hs hi2 (by omega) ?_)|refine callD_mk (tc (ls:=ls) hs hi2 (by omega) ?_)|refine callD_mk (EA hp hs (by omega) ?_)|refine callD_mk (nb ?_)|refine callD_mk (OB hj g4 p1 ?_)))
      exact aS bC rfl (h2 2 m6 _ _ _ _ _ hJ)
     | some t2 =>
      have ht2:=UI hj g4 p1
      rw [hj] at m6;dsimp only at m6;by_cases hr3:0 < (bz ls i2 c3).1.length
      ·rw [if_pos hr3] at m6
       have hkk:(op.length:Int)=k:=by omega
       cases hlf:kr ls i2 c3 n k t2 with
       | error e =>
        rw [hlf] at m6;rw [← hkk] at hlf
        repeat' (first|(with_reducible first|refine al (al ?_)|refine aG ?_|refine aB ?_|refine aw ?_)|simp only [WL,ay,WM,reduceCtorEq,bg,Nat.reduceAdd,Nat.reduceLT,Nat.reduceEqDiff,true_and,T3,cb,DO,fR gq,fR ya,kX,ee,uE,zP,j5,EI,KX,hsg,hak]|(with_reducible first|refine ax (hb:=?_)|refine au (hK:=?_)|refine aA (hK:=?_)|refine az (hK:=?_)|refine aV (hK:=fun b=>?_)|refine cD (eg hs hi2 (by omega) ?_)|refine callD_mk (tc (ls:=ls) hs hi2 (by omega) ?_)|refine callD_mk (EA hp hs (by omega) ?_)|refine callD_mk (nb ?_)|refine callD_mk (yb hj g4 p1 ?_)|refine callD_mk (kN hs hi2 hc3 ?_)|refine callD_mk (NY hlf hJ hb hs (by omega) hll hi2 hr3 hc3 (by omega) (fun y3 l3 τ3 hJ3=>?_)))|((with_reducible first|refine ai (fun h=>?_) (fun h=>?_)|refine ab (fun h=>?_) (fun h=>?_))<;>(try simp only [h])<;>(try simp only [bf,ba] at h))|omega)
        all_goals first
         | exact aS bC rfl (h2 e m6 _ _ _ _ _ hJ3)
         | (exfalso;omega)
       | ok r =>
        obtain ⟨ev,i3⟩:=r;rw [hlf] at m6;rw [← hkk] at hlf
        repeat' (first|(with_reducible first|refine al (al ?_)|refine aG ?_|refine aB ?_|refine aw ?_)|simp only [WL,ay,WM,reduceCtorEq,bg,Nat.reduceAdd,Nat.reduceLT,Nat.reduceEqDiff,true_and,T3,cb,DO,fR gq,fR ya,kX,ee,uE,zP,j5,EI,KX,Tryz.results50,hsg,hak]|(with_reducible first|refine ax (hb:=?_)|refine au (hK:=?_)|refine aA (hK:=?_)|refine az (hK:=?_)|refine aV (hK:=fun b=>?_)|refine cD (eg hs hi2 (by omega) ?_)|refine callD_mk (tc (ls:=ls) hs hi2 (by omega) ?_)|refine callD_mk (EA hp hs (by omega) ?_)|refine callD_mk (nb ?_)|refine callD_mk (yb hj g4 p1 ?_)|refine callD_mk (kN hs hi2 hc3 ?_)|refine callD_mk (Oq hlf hJ hb hs (by omega) hll hi2 hr3 hc3 (by omega) (fun y3 τ3 hJ3=>?_)))|((with_reducible first|refine ai (fun h=>?_) (fun h=>?_)|refine ab (fun h=>?_) (fun h=>?_))<;>(try simp only [h])<;>(try simp only [bf,ba] at h))|omega)
        all_goals first
         | exact ak bC (aj rfl) (h1 _ _ m6 _ _ _ hJ3)
         | (exfalso;omega)
      ·rw [if_neg hr3] at m6
       have hmu3:Pp ls i2 c3 < Pp ls i1 c1:=by
        show 2 * ((ls.length:Int) - i2).toNat+(if 0 < (bz ls i2 c3).1.length then 1 else 0) < _
        rw [if_neg hr3];omega
       repeat' (first|(with_reducible first|refine al (al ?_)|refine aG ?_|refine aB ?_|refine aw ?_)|simp only [WL,ay,WM,reduceCtorEq,bg,Nat.reduceAdd,Nat.reduceLT,Nat.reduceEqDiff,true_and,T3,cb,DO,fR gq,fR ya,kX,ee,uE,zP,j5,EI,KX,hsg,hak]|(with_reducible first|refine ax (hb:=?_)|refine au (hK:=?_)|refine aA (hK:=?_)|refine az (hK:=?_)|refine aV (hK:=fun b=>?_)|refine cD (eg hs hi2 (by omega) ?_)|refine callD_mk (tc (ls:=ls) hs hi2 (by omega) ?_)|refine callD_mk (EA hp hs (by omega) ?_)|refine callD_mk (nb ?_)|refine callD_mk (yb hj g4 p1 ?_)|refine callD_mk (kN hs hi2 hc3 ?_))|((with_reducible first|refine ai (fun h=>?_) (fun h=>?_)|refine ab (fun h=>?_) (fun h=>?_))<;>(try simp only [h])<;>(try simp only [bf,ba] at h))|omega)
       all_goals first
        | exact ⟨(i2,c3,l2,t2),aM bH (ResW.sub (List.sublist_cons_self _ _)) id,⟨⟨by dsimp only;omega,m2⟩,⟨p2,by dsimp only;omega⟩,ht2,fu,by dsimp only;omega,m6⟩,hmu3⟩
        | (exfalso;omega)
   ·rw [hak,if_pos rfl] at m6
    cases l2
    ·rw [if_neg Bool.false_ne_true] at m6
     repeat' (first|(with_reducible first|refine al (al ?_)|refine aB ?_|refine aw ?_)|simp only [WL,WM,Nat.reduceAdd,Nat.reduceEqDiff,true_and,T4,fR tR,ee,j7,uE,hsg,hak]|(with_reducible first|refine ax (hb:=?_)|refine au (hK:=?_)|refine cD (eg hs hi2 (by omega) ?_)|refine callD_mk (tc (ls:=ls) hs hi2 (by omega) ?_)|refine callD_mk (qM ?_)))
     exact aS bC rfl (h2 2 m6 _ _ _ _ _ hJ)
    ·rw [if_pos rfl] at m6
     repeat' (first|(with_reducible first|refine al (al ?_)|refine aB ?_|refine aw ?_)|simp only [WL,WM,Nat.reduceAdd,Nat.reduceEqDiff,true_and,T4,fR tR,ee,j7,uE,XZ,Tryz.results50,hsg,hak]|(with_reducible first|refine ax (hb:=?_)|refine au (hK:=?_)|refine aA (hK:=?_)|refine cD (eg hs hi2 (by omega) ?_)|refine callD_mk (tc (ls:=ls) hs hi2 (by omega) ?_)|refine callD_mk (my ?_)|refine callD_mk (VY hM (t:=t1) hk hJ hb hi2 hc22 hr2 (fun ev i3 hse x3 y3 τ3 hJ3=>?_) (fun e hse x3 y3 op3 l3 τ3 hJ3=>?_))))
     all_goals first
      | exact ak bC (aj rfl) (h1 _ _ (m6.trans hse) _ _ _ hJ3)
      | exact aS bC rfl (h2 _ (m6.trans hse) _ _ _ _ _ hJ3)
  ·rw [hsg,if_pos rfl] at m6
   cases l2
   ·rw [if_neg Bool.false_ne_true] at m6
    repeat' (first|(with_reducible first|refine al (al ?_)|refine aB ?_|refine aw ?_)|simp only [WL,WM,Nat.reduceAdd,Nat.reduceEqDiff,true_and,T4,fR tR,ee,j7,hsg]|(with_reducible first|refine ax (hb:=?_)|refine au (hK:=?_)|refine cD (eg hs hi2 (by omega) ?_)|refine callD_mk (qM ?_)))
    exact aS bC rfl (h2 2 m6 _ _ _ _ _ hJ)
   ·rw [if_pos rfl] at m6
    repeat' (first|(with_reducible first|refine al (al ?_)|refine aB ?_|refine aw ?_)|simp only [WL,WM,Nat.reduceAdd,Nat.reduceEqDiff,true_and,T4,fR tR,ee,Ql,j7,Tryz.results50,hsg]|(with_reducible first|refine ax (hb:=?_)|refine au (hK:=?_)|refine aA (hK:=?_)|refine cD (eg hs hi2 (by omega) ?_)|refine callD_mk (my ?_)|refine callD_mk (Qr hS (t:=t1) hk hJ hb hi2 hc22 hr2 (fun ev i3 hse x3 y3 τ3 hJ3=>?_) (fun e hse x3 y3 op3 l3 τ3 hJ3=>?_))))
    all_goals first
     | exact ak bC (aj rfl) (h1 _ _ (m6.trans hse) _ _ _ hJ3)
     | exact aS bC rfl (h2 _ (m6.trans hse) _ _ _ _ _ hJ3)
end Go.Proofs.YthkabaiamcjdbaaGreat
