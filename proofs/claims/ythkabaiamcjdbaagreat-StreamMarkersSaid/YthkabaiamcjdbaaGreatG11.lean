/-
  Texts Hs, one behind the other.
-/
import Derived.Test.YthkabaiamcjdbaaGreatG10
set_option linter.unusedVariables false
set_option linter.unusedSimpArgs false
set_option maxHeartbeats 16000000
/-
 Walks: chapter 13,nodes.
-/

namespace Go.Proofs.YthkabaiamcjdbaaGreat
open Go.Abs
variable {κ:Ctx} {σ:List Res} {K:Ret→List Res→Prop} {o o':Option (Option (Nat × Nat))}
theorem MQ {bj:Nat}{ls:List Ln}{n d c:Int}{bk:Bool}{N:Nat→Int × Int→NodeR}{x y:AV}{op:List Int}{l:List EvV}{ρ τ σ0:List Res}{p:Int × Int}{v:TrV} [hS:Split σ bj ρ (JC ls n bk d x y) τ] (hs:Small ls) (hd:0≤d∧d≤1000000000)
  (hP:cN d op.length 0=true→nD κ bj ls n d bk (gw ls n (N (op.length+1))) 178 (op.length+1)) (hI:cN d op.length 0=true→nD κ bj ls n d bk (eu ls n d (op.length+1) (N (op.length+1)) (N (op.length+2))) 177 (op.length+1)) (hG:∀ k,eO ls (N k)) (hJ:JX x y op l τ σ0) (hlo:op.length≤1000000) (hp:Pl ls p) (h0:0 < (aF ls p).length) (hb:l.length+8 * mu p+8≤1000000000)
  (h1:∀ ev e,gZ ls n d op.length N p c v=.ok (ev,e)→∀ x' y' τ',JX x' y' op (l++ev) τ' σ0→K (.ret (cS e)) (ρ ++ .obj bj (JC ls n bk d x' y')::τ'))
  (h2:∀ e,gZ ls n d op.length N p c v=.error e→∀ x' y' op' l' τ',JX x' y' op' l' τ' σ0→K (.pan (bI e)) (ρ ++ .obj bj (JC ls n bk d x' y')::τ')) :
  ACallF κ Tryz.prog 144 [JP bj,cS p,I c,vx v] σ K:=by
 refine ACallF.at_ (b:=bj) ?_
 unfold gZ at h1 h2
 by_cases hc:c=123
 ·subst hc
  simp only [if_pos trivial,if_true] at h1 h2
  refine E4 (N:=N) (c:=123) (kd:=5) (sh:=125) hs hd hP (oK hs (hG _)) (.inl ⟨rfl,rfl,rfl,rfl⟩) hJ hlo hp h0 hb (fun q ev e hr hm hE=>?_) (fun e he=>?_)
  ·refine h1 _ _ ?_
   rw [hr,hm,if_neg (by decide)]
   dsimp only
   rw [hE]
   rfl
  ·refine h2 _ ?_
   rcases he with ⟨hr,rfl⟩|⟨hr,hm⟩|⟨hr,q,hm,hE⟩
   ·rw [hr,if_pos rfl]
   ·rw [hr,hm,if_neg (by decide)]
   ·rw [hr,hm,if_neg (by decide)]
    dsimp only
    rw [hE]
 ·simp only [if_neg hc] at h1 h2
  refine E4 (N:=N) (c:=c) (kd:=3) (sh:=93) hs hd hI (oN hs (hG _) (hG _)) (.inr ⟨hc,rfl,rfl,rfl⟩) hJ hlo hp h0 hb (fun q ev e hr hm hE=>?_) (fun e he=>?_)
  ·refine h1 _ _ ?_
   rw [hr,hm,if_neg (by decide)]
   dsimp only
   rw [hE]
   rfl
  ·refine h2 _ ?_
   rcases he with ⟨hr,rfl⟩|⟨hr,hm⟩|⟨hr,q,hm,hE⟩
   ·rw [hr,if_pos rfl]
   ·rw [hr,hm,if_neg (by decide)]
   ·rw [hr,hm,if_neg (by decide)]
    dsimp only
    rw [hE]
theorem oV {ls:List Ln}{n:Int} (hs:Small ls):∀ {f:Nat}{v v':TrV}{q q':Int × Int}{ok ok':Bool},traitsG ls n f v q ok=.ok (v',q',ok') →
  (ok=true→Pl ls q∧0 < (aF ls q).length∧fB (aF ls q)=false)→(ok=false→q=(0,0)) →
  (ok'=true→Pl ls q'∧0 < (aF ls q').length∧fB (aF ls q')=false∧(ok=true→Le2 q q'))∧(ok'=false→q'=(0,0))∧(v'=v∨(ok=true∧Pl ls v'.q∧Le2 q v'.q∧mu v'.q+1≤mu q))
 | f,v,v',q,q',false,ok',h,h1,h2=>by
  have:(Except.ok (v,q,false):Except Int (TrV × (Int × Int) × Bool))=.ok (v',q',ok'):=by rw [← h];cases f<;>rfl
  cases this
  exact ⟨fun h=>(by cases h),fun _=>h2 rfl,.inl rfl⟩
 | 0,v,v',q,q',true,ok',h,h1,h2=>by
  unfold traitsG at h
  split at h
  ·cases h
  ·cases h
   obtain ⟨a1,a2,a3⟩:=h1 rfl
   exact ⟨fun _=>⟨a1,a2,a3,fun _=>Le2.rfl_⟩,fun h=>(by cases h),.inl rfl⟩
  ·cases h
 | f+1,v,v',q,q',true,ok',h,h1,h2=>by
  obtain ⟨a1,a2,a3⟩:=h1 rfl
  unfold traitsG at h
  split at h
  ·cases h
  ·cases h
   exact ⟨fun _=>⟨a1,a2,a3,fun _=>Le2.rfl_⟩,fun h=>(by cases h),.inl rfl⟩
  ·rename_i w hw
   obtain ⟨b1,b2,b3,b4⟩:=xE hs hw
   have b5:Pl ls w.q:=by
    have:=Pl.behind (n:=w.q.2 - q.2) hs a2 (by omega)
    rw [show (q.1,q.2+(w.q.2 - q.2))=w.q by ext<;>dsimp only<;>omega] at this
    exact this
   have b6:Le2 q w.q:=.inr ⟨b2.symm,by omega⟩
   have b7:mu w.q+1≤mu q:=by
    have c1:=eg hs a1
    have c2:mu w.q≤mu (q.1,q.2+1):=gP (.inr ⟨b2.symm,by dsimp only;omega⟩) b5.2.2.1 (by have:=a1.2.2.1;dsimp only;omega)
    omega
   split at h
   ·cases h
   ·have h9:=h
    obtain ⟨c1,c2,c3⟩:=oV hs h (fun h=>(by cases h)) (fun _=>rfl)
    refine ⟨fun hok=>⟨(c1 hok).1,(c1 hok).2.1,(c1 hok).2.2.1,fun _=>?_⟩,c2, ?_⟩
    ·have:(Except.ok (w,((0,0):Int × Int),false):Except Int (TrV × (Int × Int) × Bool))=.ok (v',q',ok'):=by rw [← h9];cases f<;>rfl
     cases this
     cases hok
    ·rcases c3 with rfl|⟨c3,-⟩
     ·exact .inr ⟨rfl,b5,b6,b7⟩
     ·cases c3
   ·rename_i q2 hq2
    obtain ⟨d1,d2,d3⟩:=uG hs hq2
    have d4:=Pl.of_rest hs d2
    obtain ⟨c1,c2,c3⟩:=oV hs h (fun _=>⟨d4,d2,d3⟩) (fun h=>by cases h)
    have d5:Le2 q q2:=b6.trans d1
    refine ⟨fun h=>⟨(c1 h).1,(c1 h).2.1,(c1 h).2.2.1,fun _=>d5.trans ((c1 h).2.2.2 rfl)⟩,c2, ?_⟩
    rcases c3 with rfl|⟨-,c3,c4,c5⟩
    ·exact .inr ⟨rfl,b5,b6,b7⟩
    ·have:=gP d5 d4.2.2.1 a1.2.2.1
     exact .inr ⟨rfl,c3,d5.trans c4,by omega⟩
theorem vz:iD tr0=false:=by
 have e:(ByteArray.empty).toList=({ data:=#[] }:ByteArray).toList:=rfl
 unfold iD ca
 simp [e]
theorem ou {ls:List Ln}{n:Int}{p q:Int × Int}{v:TrV}{ok:Bool} (hs:Small ls) (hp:PlW p) (h:bG ls n p=.ok (v,q,ok)) :
  (ok=true→Le2 p q∧Pl ls q∧0 < (aF ls q).length∧fB (aF ls q)=false)∧(ok=false→q=(0,0))∧(iD v=true→Pl ls v.q∧Le2 p v.q∧mu v.q+1≤mu p):=by
 unfold bG at h
 split at h
 ·cases h
 ·cases h
  exact ⟨fun h=>(by cases h),fun _=>rfl,fun h=>by rw [vz] at h;cases h⟩
 ·rename_i q2 hq2
  obtain ⟨d1,d2,d3⟩:=uG hs hq2
  have d4:=Pl.of_rest hs d2
  obtain ⟨c1,c2,c3⟩:=oV hs h (fun _=>⟨d4,d2,d3⟩) (fun h=>by cases h)
  refine ⟨fun h=>⟨d1.trans ((c1 h).2.2.2 rfl),(c1 h).1,(c1 h).2.1,(c1 h).2.2.1⟩,c2,fun ha=>?_⟩
  rcases c3 with rfl|⟨-,c3,c4,c5⟩
  ·rw [vz] at ha;cases ha
  ·have:=gP d1 d4.2.2.1 hp.2.2.2
   exact ⟨c3,d1.trans c4,by omega⟩
theorem dw {bj ix:Nat}{ls:List Ln}{n d:Int}{bk:Bool}{x y:AV} [hJ:Hold σ bj ix (JC ls n bk d x y)] {p q:Int × Int}{v:TrV}{ok:Bool} (ht:bG ls n p=.ok (v,q,ok)) (hs:Small ls) (hp:PlW p)
  (hK:K (.ret (.tup [vx v,cS q,B ok])) σ):ACallF κ Tryz.prog 87 [JP bj,cS p] σ K :=
 CB hs hp (fun v' q' ok' h=>by rw [ht] at h;cases h;exact hK) (fun e h=>by rw [ht] at h;cases h)
theorem uq {bj ix:Nat}{ls:List Ln}{n d e:Int}{bk:Bool}{x y:AV} [hJ:Hold σ bj ix (JC ls n bk d x y)] {p:Int × Int} (ht:bG ls n p=.error e) (hs:Small ls) (hp:PlW p)
  (hK:K (.pan (bI e)) σ):ACallF κ Tryz.prog 87 [JP bj,cS p] σ K :=
 CB hs hp (fun v' q' ok' h=>by rw [ht] at h;cases h) (fun e h=>by rw [ht] at h;cases h;exact hK)
end Go.Proofs.YthkabaiamcjdbaaGreat
