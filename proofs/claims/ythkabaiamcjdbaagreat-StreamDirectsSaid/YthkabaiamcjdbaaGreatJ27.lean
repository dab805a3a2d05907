/-
  Texts Kv, Kw, Rd, Li, Lb, Ic, one behind the other.
-/
import Derived.Test.YthkabaiamcjdbaaGreatJ25
import Derived.Test.YthkabaiamcjdbaaGreatJ26
set_option linter.unusedVariables false
set_option linter.unusedSimpArgs false
set_option maxHeartbeats 16000000
namespace Go.Proofs.YthkabaiamcjdbaaGreat
open Go.Abs
variable {κ:Ctx} {σ:List Res} {K:Ret→List Res→Prop} {o o':Option (Option (Nat × Nat))}
abbrev r8 (ls:List Ln) (f k:Nat):NdP:=fun i c n pair lead t=>o6 ls f k n pair i c lead t
theorem xe {ls:List Ln} (hs:Small ls) {f k:Nat} (hf:f < 200):lY ls 9000000 (eG (r8 ls f k)):=fun i c n b hi=>(sQ hs f k n b i c (!b) tp0 hi).mono (by unfold BP;omega)
theorem U7 {pr br:Nat}{ls:List Ln} (hs:Small ls):∀ f k:Nat,k+f=200→NodeCP κ pr br ls (r8 ls f k) f k
 | 0,k,hkf=>by
  obtain rfl:k=200:=by omega
  rename_i x y op l τ σ0 i c n pair lead t K;intro hk hJ hb hi hc hn ht hr h1 h2;refine Im (S:=fun _ _ _ _=>.error 8) (M:=fun _ _ _=>.error 8) (f:=0) (k:=200) ?_ ?_ hk (by omega) hJ hb hs hi hc hn ht hr h1 h2
  ·intro x y op l τ σ0 i c pair t K hk hJ hb hi hc hr h1 h2
   refine PQ (f:=0) (k:=200) (N:=r8 ls 0 0) (fun h=>absurd h (by omega)) ((fun i c n b hi=>(sQ hs 0 _ n b i c (!b) tp0 hi).mono (by decide))) hk (by omega) hJ hb hs hi hc (by unfold oj at hr;omega) (fun h=>absurd h (by omega)) (fun ev i2 h=>absurd h (by omega)) (fun e h x' y' op' l' τ' hJ'=>?_);rcases h with ⟨-,rfl⟩|⟨h,-⟩
   ·exact h2 8 rfl _ _ _ _ _ hJ'
   ·omega
  ·intro x y op l τ σ0 i c t K hk hJ hb hi hc hr h1 h2
   refine Qx (f:=0) (k:=200) (N:=r8 ls 0 0) (fun h=>absurd h (by omega)) (xe hs (by omega)) hk (by omega) hJ hb hs hi hc (by unfold oj at hr;omega) (fun h=>absurd h (by omega)) (fun ev i2 h=>absurd h (by omega)) (fun e h x' y' op' l' τ' hJ'=>?_);rcases h with ⟨-,rfl⟩|⟨h,-⟩
   ·exact h2 8 rfl _ _ _ _ _ hJ'
   ·omega
 | f+1,k,hkf=>by
  have ih:NodeCP κ pr br ls (r8 ls f (k+1)) f (k+1):=U7 (pr:=pr) (br:=br) hs f (k+1) (by omega)
  have hG:=xe hs (f:=f) (k:=k+1) (by omega)
  have e1:(((k+1:Nat)):Int)=(k:Int)+1:=by omega
  rename_i x y op l τ σ0 i c n pair lead t K;intro hk hJ hb hi hc hn ht hr h1 h2;have e2:r8 ls (f+1) k i c n pair lead t=eJ ls (dZ ls (eG (r8 ls f (k+1)))) (BS ls (eG (r8 ls f (k+1))) ((k:Int)+1)) k n pair (2 * ls.length+2) i c lead t:=by
   show o6 ls (f+1) k n pair i c lead t=_
   rw [o6];unfold eG r8;rw [e1]
  rw [e2] at h1 h2;refine Im (f:=f+1) (k:=k) ?_ ?_ hk (by omega) hJ hb hs hi hc hn ht hr h1 h2
  ·intro x y op l τ σ0 i c pair t K hk hJ hb hi hc hr h1 h2
   refine PQ (f:=f) (k:=k) (fun _=>ih) (fun i c n b hi=>(hG i c n b hi).mono (by decide)) hk (by omega) hJ hb hs hi hc (by unfold oj at hr;omega) (fun _=>hr) (fun ev i2 _=>h1 ev i2) (fun e h x' y' op' l' τ' hJ'=>?_);rcases h with ⟨h,-⟩|⟨-,h⟩
   ·omega
   ·exact h2 e h _ _ _ _ _ hJ'
  ·intro x y op l τ σ0 i c t K hk hJ hb hi hc hr h1 h2
   refine Qx (f:=f) (k:=k) (fun _=>ih) hG hk (by omega) hJ hb hs hi hc (by unfold oj at hr;omega) (fun _=>hr) (fun ev i2 _=>h1 ev i2) (fun e h x' y' op' l' τ' hJ'=>?_);rcases h with ⟨h,-⟩|⟨-,h⟩
   ·omega
   ·exact h2 e h _ _ _ _ _ hJ'
theorem PU {pr br:Nat}{ls:List Ln}{i c:Int}{τ:List Res} (hb:Res.obj br [SL none ls]∈τ) (hs:Small ls) (hi:0≤i∧i < ls.length) (hc:0≤c∧c≤5000)
  (h1:∀ ev k,jz ls i c=.ok (ev,k)→∀ x' y' τ',JX x' y' [] ev τ' τ→K (.ret (I k)) (.obj pr (RC ls br x' y')::τ'))
  (h2:∀ e,jz ls i c=.error e→∀ x' y' op' l' τ',JX x' y' op' l' τ' τ→K (.pan (bI e)) (.obj pr (RC ls br x' y')::τ')):ACallF κ Tryz.prog 35 [JP pr,I i,I c] (.obj pr (RC ls br nilS nilS)::τ) K:=by
 have hl:=hs.1
 have hJ:JX nilS nilS [] [] τ τ:=⟨[],[],RowR.nil,RowR.nil,List.Perm.refl _⟩
 have hN:NodeCP κ pr br ls (r8 ls 200 0) 200 0:=U7 hs 200 0 rfl
 have hr:oj ls 200 [] i:=by show 0+10000000 * ((ls.length:Int) - i).toNat+40002 * 200≤100000000000;omega
 unfold jz at h1 h2;have hc0:(c == 0)=decide (c=0):=rfl
 cases hn:o6 ls 200 0 (-1) false i c (decide (c=0)) tp0 with
 | error e =>
  rw [hn] at h2;have hn:r8 ls 200 0 i c (-1) false (decide (c=0)) tp0=.error e:=hn
  refine ACallF.dropL (aa Tryz.func35 rfl ?_);simp only [Tryz.ntmps35]
  repeat' (first|simp only [WL,ay,WM,reduceCtorEq,bg,Nat.reduceAdd,Nat.reduceSub,true_and,gR,hc0]|(with_reducible first|refine aI (hK:=?_)|refine callD_mk (ss hN hn rfl hJ hb hi hc (by omega) fZ hr (fun x' y' op' l' τ' hJ'=>?_))))
  exact aS ae rfl (h2 e rfl _ _ _ _ _ hJ')
 | ok r =>
  obtain ⟨ev,i2⟩:=r;obtain ⟨a1,a2,a3⟩:=sQ hs _ _ _ _ _ _ _ _ hi _ _ hn;have hi2:0≤i2∧i2≤ls.length:=⟨by omega,a2⟩
  rw [hn] at h1 h2;dsimp only at h1 h2;have hn:r8 ls 200 0 i c (-1) false (decide (c=0)) tp0=.ok (ev,i2):=hn
  cases hx:fX ls i2 with
  | error e =>
   rw [hx] at h2;refine ACallF.dropL (aa Tryz.func35 rfl ?_);simp only [Tryz.ntmps35]
   repeat' (first|simp only [WL,ay,WM,reduceCtorEq,bg,Nat.reduceAdd,Nat.reduceSub,true_and,gR,jf,hc0]|(with_reducible first|refine aI (hK:=?_)|refine callD_mk (ep hN hn rfl hJ hb hi hc (by omega) fZ hr (fun x' y' τ' hJ'=>?_))|refine callD_mk (sc hx hs hi2 ?_)))
   exact aS ae rfl (h2 e rfl _ _ _ _ _ hJ')
  | ok r =>
   obtain ⟨k',ok⟩:=r;obtain ⟨b1,b2,b3⟩:=jB hi2.2 hx;rw [hx] at h1 h2;dsimp only at h1 h2;cases ok
   ·rw [if_pos rfl] at h1
    refine ACallF.dropL (aa Tryz.func35 rfl ?_);simp only [Tryz.ntmps35]
    repeat' (first|simp only [WL,ay,WM,reduceCtorEq,bg,Nat.reduceAdd,Nat.reduceSub,Nat.reduceLT,Bool.not_false,true_and,gR,jf,Tryz.results35,hc0]|(with_reducible first|refine aI (hK:=?_)|refine callD_mk (ep hN hn rfl hJ hb hi hc (by omega) fZ hr (fun x' y' τ' hJ'=>?_))|refine callD_mk (gK hx hs hi2 ?_)))
    exact ak ae (aj rfl) (h1 _ _ rfl _ _ _ hJ')
   ·have b3:=b3 rfl
    rw [if_neg (by decide)] at h2;have ha:=hs.at_ (i:=k'.toNat) (by omega)
    dsimp only [aF] at h2;refine ACallF.dropL (aa Tryz.func35 rfl ?_);simp only [Tryz.ntmps35]
    repeat' (first|simp only [WL,ay,WM,reduceCtorEq,bg,Nat.reduceAdd,Nat.reduceSub,Nat.reduceLT,Nat.reduceLeDiff,Nat.reduceEqDiff,Bool.not_true,true_and,T3,gg,jm,fC db,fR gL,gR,jf,pj,hc0]|simp (disch:=first|omega|(simp only [aU];omega)) only [dO]|(with_reducible first|refine ax (hb:=?_)|refine au (hK:=?_)|refine aI (hK:=?_)|refine callD_mk (ep hN hn rfl hJ hb hi hc (by omega) fZ hr (fun x' y' τ' hJ'=>?_))|refine callD_mk (gK hx hs hi2 ?_)|refine callD_mk (qg ?_))|((with_reducible first|refine ai (fun h=>?_) (fun h=>?_)|refine ab (fun h=>?_) (fun h=>?_))<;>(try simp only [h])<;>(try simp only [bf,ba] at h)))
    all_goals first
     | exact aS ae rfl (h2 7 (by rw [if_pos (by assumption)]) _ _ _ _ _ hJ')
     | exact aS ae rfl (h2 2 (by rw [if_neg (by omega)]) _ _ _ _ _ hJ')
theorem QZ {pr br:Nat}{ls:List Ln}{i c k:Int}{ev:List EvV}{ρ τ:List Res} [hS:Split σ pr ρ (RC ls br nilS nilS) τ] (hw:jz ls i c=.ok (ev,k)) (hb:Res.obj br [SL none ls]∈τ) (hs:Small ls) (hi:0≤i∧i < ls.length) (hc:0≤c∧c≤5000)
  (h1:∀ x' y' τ',JX x' y' [] ev τ' τ→K (.ret (I k)) (ρ ++ .obj pr (RC ls br x' y')::τ')):ACallF κ Tryz.prog 35 [JP pr,I i,I c] σ K :=
 ACallF.at_ (b:=pr) (PU hb hs hi hc (fun ev' k' h=>by rw [hw] at h;cases h;exact h1) (fun e h=>by rw [hw] at h;cases h))
theorem T1 {pr br:Nat}{ls:List Ln}{i c e:Int}{ρ τ:List Res} [hS:Split σ pr ρ (RC ls br nilS nilS) τ] (hw:jz ls i c=.error e) (hb:Res.obj br [SL none ls]∈τ) (hs:Small ls) (hi:0≤i∧i < ls.length) (hc:0≤c∧c≤5000)
  (h2:∀ x' y' op' l' τ',JX x' y' op' l' τ' τ→K (.pan (bI e)) (ρ ++ .obj pr (RC ls br x' y')::τ')):ACallF κ Tryz.prog 35 [JP pr,I i,I c] σ K :=
 ACallF.at_ (b:=pr) (PU hb hs hi hc (fun ev' k' h=>by rw [hw] at h;cases h) (fun e' h=>by rw [hw] at h;cases h;exact h2))
theorem VO {b4 b5:Nat}{KD:FrameMode→List Res→Prop} (hK:KD .returning σ):i5 κ Tryz.prog 34 [.raw (PT b4),.raw (PT b5)] σ .returning KD:=by
 refine fG Tryz.func34 rfl ?_ (by simp [Tryz.ntmps34]);simp only [Tryz.ntmps34]
 repeat' (first|with_reducible refine i6 (id:=1) ?_|simp only [WL,WM,Nat.reduceAdd,Nat.reduceSub])
 refine al (jE (l:=[_]) false Tryz.underlying20 ?_)
 repeat' (first|simp only [WL,WM,and_true,Bool.false_eq_true,qJ])
 refine ⟨⟨.nilIface,rfl,.inl rfl⟩, ?_⟩
 repeat' (first|with_reducible refine aw ?_|simp only [WL,WM])
 exact ⟨rfl,rfl,rfl,hK⟩
abbrev QY (e:Int):FrameMode:=.panicking (bI e)
theorem XT {b4 b5:Nat}{e:Int}{KD:FrameMode→List Res→Prop} (hK:∀ b,KD (ux (QY e)) (.obj b [I e]::.obj b5 [I e]::.obj b4 [I 0]::σ)):i5 κ Tryz.prog 34 [.raw (PT b4),.raw (PT b5)] (.obj b5 [I 0]::.obj b4 [I 0]::σ) (QY e) KD:=by
 refine fG Tryz.func34 rfl ?_ (by simp [Tryz.ntmps34]);simp only [Tryz.ntmps34,show qA (QY e)=.iface 79 (.agg #[.int .i64 e]) from rfl]
 repeat' (first|with_reducible refine i6 (id:=1) ?_|simp only [WL,WM,Nat.reduceAdd,Nat.reduceSub])
 refine al (jE (l:=[_]) true Tryz.underlying20 ?_)
 repeat' (first|simp only [WL,WM,reduceCtorEq,and_true,qJ]|with_reducible refine ax (hb:=?_))
 repeat' (first|( with_reducible refine qO ?_)|with_reducible refine aw ?_|simp only [WL,WM,Nat.reduceAdd,Nat.reduceLT,Nat.reduceEqDiff,Bool.not_true,true_and,Yv,fR S5]|(with_reducible first|refine ax (hb:=?_)|refine au (hK:=?_)|refine aP (hK:=?_)|refine az (hK:=?_)|refine aV (hK:=fun b=>?_))|((with_reducible refine dH (id:=5) [0,1] (some 2) [([],some 3),([],none)] mixed ?_ ?_);kernel_rfl)|((with_reducible apply aW);intro σq hq;have hqi:=cy hq;clear hq)|(with_reducible exact b9)|((with_reducible apply bD);rfl;rfl)|(with_reducible refine bV (me (by first|(simp;done)|fail)) ?_))
 exact ⟨rfl,rfl,rfl,hK _⟩
theorem Xg {pr br:Nat}{ls:List Ln}{i c:Int}{τ:List Res} (hb:Res.obj br [SL none ls]∈τ) (hs:Small ls) (hi:0≤i∧i < ls.length) (hc:0≤c∧c≤5000)
  (h1:∀ ev k,jz ls i c=.ok (ev,k)→∀ x' y' τ',JX x' y' [] ev τ' τ→K (.ret (.tup [I k,I 0])) (.obj pr (RC ls br x' y')::τ'))
  (h2:∀ e,jz ls i c=.error e→K (.ret (.tup [I 0,I e])) τ):ACallF κ Tryz.prog 25 [JP pr,I i,I c] (.obj pr (RC ls br nilS nilS)::τ) K:=by
 refine ACallF.dropL (kE (cap:=fun _=>True) (fd:=34) Tryz.func25 rfl XK ?_);simp only [Tryz.ntmps25]
 repeat' (first|(with_reducible first|refine i6 (id:=1) ?_|refine aG ?_)|simp only [WL,WM,Nat.reduceAdd,Nat.reduceSub]|with_reducible refine aV (hK:=fun b=>?_))
 rename_i b4;refine nW (fun _:Unit=>⟨(JP pr::I i::I c::.any::.any::.any::JP b4::JP b::.any::.any::.any::.any::.any::[]),.obj b [I 0]::.obj b4 [I 0]::.obj pr (RC ls br nilS nilS)::τ,true,[HV 34 [.pointer (some ⟨b4,0,none⟩),.pointer (some ⟨b,0,none⟩)]]⟩) (fun _=>True) ?_ ?_
 ·refine uj (l:=[_]) 34 [.pointer (some ⟨b4,0,none⟩),.pointer (some ⟨b,0,none⟩)] ?_
  repeat' (first|simp only [WL,WM,true_and,and_true,tj])
  exact ⟨(),aq bH id⟩
 ·intro _ _
  cases hw:jz ls i c with
  | error e =>
   repeat' (first|with_reducible refine aG ?_|simp only [WL,WM,true_and,P9]|with_reducible refine callD_mk (T1 hw hb hs hi hc (fun x' y' op' l' τ' hJ'=>?_)))
   refine ⟨[.pointer (some ⟨b4,0,none⟩),.pointer (some ⟨b,0,none⟩)],rfl,rfl,XT (fun bx=>⟨rfl, ?_⟩)⟩;rw [ko]
   repeat' (first|simp only [WM,Tryz.results25]|((with_reducible refine aY ?_);apply lN (hf:=Tryz.results25);exact dT;exact dT))
   exact ak (ah (ah (ah (ah hJ'.sub)))) (aj rfl) (h2 _ hw)
  | ok r =>
   obtain ⟨ev,k⟩:=r
   repeat' (first|(with_reducible first|refine aG ?_|refine aO ?_)|simp only [WL,WM,Nat.reduceAdd,true_and,P9]|(with_reducible first|refine aP (hK:=?_)|refine callD_mk (QZ hw hb hs hi hc (fun x' y' τ' hJ'=>?_))))
   refine ⟨[.pointer (some ⟨b4,0,none⟩),.pointer (some ⟨b,0,none⟩)],rfl,rfl,VO ⟨rfl, ?_⟩⟩;rw [ko]
   repeat' (first|simp only [WM,Tryz.results25]|((with_reducible refine aY ?_);apply lN (hf:=Tryz.results25);exact dT;exact dT))
   exact ak bC (aj rfl) (h1 _ _ hw _ _ _ hJ')
theorem S8 {r:Res}{σ:List Res}:r∈r::σ:=by simp
abbrev xN (r:PR):Prop:=∀ ev i2,r=.ok (ev,i2)→0 < ev.length
theorem IZ {ls:List Ln}{i c n d:Int}{t:TP} (hs:Small ls) (hi:0≤i∧i < ls.length) (h0:0 < (bz ls i c).1.length):xN (kr ls i c n d t):=by
 intro ev i2 h;have hP:=(ez (c:=c) hs hi).2.2.2 h0
 unfold kr at h;split at h
 ·unfold l6 at h
  split at h
  ·cases h
  ·split at h
   ·cases h
   ·cases h;simp
 ·split at h
  ·cases h
  ·rename_i ev1 e1 t1 hw
   have hg:=(cM hs 200 0 (i,(bz ls i c).2) ev1 e1 t1 hP hw).2.2.2
   split at h
   ·cases h
   ·rename_i ev2 hset
    have hl:=zq hset
    unfold Gg at h;split at h
    ·cases h
    ·cases h;omega
theorem JQ {ls:List Ln}{S:Int→Int→Bool→TP→PR}{M:Int→Int→TP→PR}{R:Int→Int→Bool→TP→PR}{d n i c:Int}{lead:Bool}{t:TP} (hs:Small ls) (hS:∀ i c b t,xN (S i c b t)) (hM:∀ i c t,xN (M i c t)) (hR:∀ (i c:Int) (b:Bool) (t:TP),0≤i∧i < ls.length→xN (R i c b t)) (hi:0≤i∧i < ls.length):xN (F0 ls S M R d n i c lead t):=by
 intro ev i2 h;unfold F0 at h;split at h
 ·split at h
  ·exact hS _ _ _ _ ev i2 h
  ·cases h
 ·split at h
  ·split at h
   ·exact hM _ _ _ ev i2 h
   ·cases h
  ·split at h
   ·cases h
   ·split at h
    ·cases h
    ·split at h
     ·rename_i h0;exact IZ hs hi h0 ev i2 h
     ·exact hR _ _ _ _ hi ev i2 h
theorem uD {ls:List Ln}{S:Int→Int→Bool→TP→PR}{M:Int→Int→TP→PR}{d n:Int}{pair:Bool} (hs:Small ls) (hS:∀ i c b t,xN (S i c b t)) (hM:∀ i c t,xN (M i c t)):∀ (f:Nat) (i c:Int) (lead:Bool) (t:TP),0≤i∧i < ls.length→xN (eJ ls S M d n pair f i c lead t)
 | 0,i,c,lead,t,hi=>fun ev i2 h=>by cases h
 | f+1,i,c,lead,t,hi=>fun ev i2 h=>by
  have ih:=fun i c b t hi=>uD (d:=d) (n:=n) (pair:=pair) hs hS hM f i c b t hi
  rw [eJ] at h;split at h
  ·exact JQ hs hS hM ih hi ev i2 h
  ·split at h
   ·cases h
   ·rename_i k ok hn
    obtain ⟨h1,h2,h3⟩:=jB (by omega) hn;split at h
    ·cases h;simp
    ·rename_i hc
     have hok:ok=true:=by simpa using fun h=>hc (.inl h)
     split at h
     ·exact hS _ _ _ _ ev i2 h
     ·exact JQ hs hS hM ih ⟨by omega,h3 hok⟩ ev i2 h
theorem Oh {ls:List Ln} (hs:Small ls):∀ (f:Nat) (d n:Int) (pair:Bool) (i c:Int) (lead:Bool) (t:TP),0≤i∧i < ls.length→xN (o6 ls f d n pair i c lead t)
 | 0,d,n,pair,i,c,lead,t,hi=>by
  rw [o6];exact uD hs (fun _ _ _ _ ev i2 h=>by cases h) (fun _ _ _ ev i2 h=>by cases h) _ _ _ _ _ hi
 | f+1,d,n,pair,i,c,lead,t,hi=>by
  rw [o6];refine uD hs (fun i c b t ev i2 h=>?_) (fun i c t ev i2 h=>?_) _ _ _ _ _ hi
  ·unfold dZ at h
   split at h
   ·cases h
   ·cases h;simp
  ·unfold BS at h
   split at h
   ·cases h
   ·cases h;simp
theorem Nu {ls:List Ln}{i c:Int}{ev:List EvV}{k:Int} (hs:Small ls) (hi:0≤i∧i < ls.length) (h:jz ls i c=.ok (ev,k)):0 < ev.length:=by
 unfold jz at h;split at h
 ·cases h
 ·rename_i ev1 k1 hl
  have:=Oh hs _ _ _ _ _ _ _ _ hi _ _ hl
  split at h
  ·cases h
  ·split at h
   ·cases h;exact this
   ·split at h<;>cases h
theorem HY {ls:List Ln}{i c k:Int}{ev:List EvV} (hw:jz ls i c=.ok (ev,k)) (hs:Small ls) (hi:0≤i∧i < ls.length) (hc:0≤c∧c - (aF ls i).1≤(aF ls i).2.length)
  (h1:∀ rb rc cs,ev.length≤rc→K (.ret (.tup [bT rb 0 ev.length rc,I k,I 0])) (.obj rb (aD (ev.map EVA)++cs)::σ)):ACallF κ Tryz.prog 12 [SL none ls,I i,I c] σ K:=by
 have hl:=hs.1
 have h0:∀ x∈ls,0≤x.1:=fun x hx=>(hs.2 x hx).2.1
 have hx:=hs.at_ (i:=i.toNat) (by omega)
 have hpos:=Nu hs hi hw
 dsimp only [aF] at hc;have hc5:0≤c∧c≤5000:=by omega
 refine ACallF.dropL (aa Tryz.func12 rfl ?_);simp only [Tryz.ntmps12]
 repeat' (first|simp only [WL,ay,WM,reduceCtorEq,bg,Nat.reduceAdd,Nat.reduceSub,Nat.reduceLT,Nat.reduceLeDiff,Nat.reduceEqDiff,Bool.not_false,true_and,reduceIte,Bool.false_eq_true,T3,cb,mf,gg,jm,fC db,fC c9,fR o4,P2,Vv,WJ,Tryz.results12]|simp (disch:=first|omega|(simp only [aU];omega)) only [an,dO]|(with_reducible first|refine ax (hb:=?_)|refine au (hK:=?_)|refine aQ (hK:=fun b=>?_)|refine aI (hK:=?_)|refine callD_mk (BM (ls:=ls) (by omega) h0 ?_)|refine callD_mk (Y7 (ls:=ls) (by omega) h0 (fun br=>?_))|refine callD_mk (Xg S8 hs hi hc5 (fun ev' k' hd x' y' τ' hJ'=>?_) (fun e h=>by rw [hw] at h;cases h)))|((with_reducible refine aE (id:=2) 28 mixed ?_ ?_);kernel_rfl)|(with_reducible refine bK ?_)|((with_reducible first|refine ai (fun h=>?_) (fun h=>?_)|refine ab (fun h=>?_) (fun h=>?_))<;>(try simp only [h])<;>(try simp only [bf,ba] at h))|omega)
 all_goals first
  | (exfalso;omega)
  | exact absurd trivial (by assumption)
  | skip
 all_goals
  rw [hw] at hd;cases hd
  obtain ⟨ρx,ρy,r1,r2,hpp⟩:=hJ';generalize hm:ev.map EVA=m at r2;have hml:m.length=ev.length:=by rw [← hm,List.length_map]
  cases r2 with
  | nil=>exfalso;rw [List.length_nil] at hml;omega
  | @row rb rc cs _ k0 kn kc kt =>
  rw [hml] at kn kt ⊢;have hcs:cs=aD m++cs.drop (ev.length * 6):=by rw [← kt,List.take_append_drop]
  have h2:=h1 rb rc (cs.drop (ev.length * 6)) kn
  rw [hm,← hcs] at h2;exact ak (ah (pQ hpp.symm ⟨.obj rb cs::σ,List.Perm.refl _,((List.sublist_cons_self _ _).cons_cons _).trans (List.sublist_append_right _ _)⟩)) (aj rfl) h2
theorem WG {l:List Int} (hl:l.length≤1000000000) (hK:K (.ret (LN (lineOf l))) σ):ACallF κ Tryz.prog 42 [SI o l] σ K:=by
 refine ACallF.dropL (aa Tryz.func42 rfl ?_);simp only [Tryz.ntmps42]
 repeat' (first|simp only [WL,WM,Nat.reduceAdd,Nat.reduceSub]|with_reducible refine aV (hK:=fun b=>?_))
 refine bF (fun k:Nat=>⟨(SI o l::.any::.raw (.pointer (some ⟨b,0,none⟩))::I k::.any::.any::.any::.any::.any::.any::.any::.any::.any::.any::.any::.any::.any::.any::.any::.any::.any::.any::.any::[]),.obj b [I 0,nilS]::σ,true,[]⟩) (fun k=>k≤(l.takeWhile (· == 32)).length) (fun k=>l.length - k) 0 (aq bH id) (Nat.zero_le _) (fun k hk=>?_);have hk2:=(List.takeWhile_prefix (· == 32) (l:=l)).length_le
 repeat' (first|simp only [WL,ay,WM,reduceCtorEq,bg,Nat.reduceAdd,Bool.not_true,true_and,reduceIte,Bool.false_eq_true,T3,cb,Tryz.results42]|simp (disch:=first|omega|(simp only [aU];omega)) only [an,bL]|(with_reducible first|refine ax (hb:=?_)|refine az (hK:=?_)|refine UO ?_|refine cX (hlen:=?_) (hmax:=?_) (hK:=fun tk=>?_)|refine aI (hK:=?_))|((with_reducible refine aY ?_);apply di (hf:=Tryz.results42);exact bn)|((with_reducible first|refine ai (fun h=>?_) (fun h=>?_)|refine ab (fun h=>?_) (fun h=>?_))<;>(try simp only [h])<;>(try simp only [bf,ba] at h))|(simp only [aU];omega)|(refine bq ?_;(first|omega|(simp only [aU];omega))))
 ·exact ⟨k+1,aq bH id,yf hk (by omega) (by simpa using h),by omega⟩
 all_goals
  obtain rfl:k=(l.takeWhile (· == 32)).length:=by first|exact y9 hk (by omega) (by simpa using h)|exact TH hk (by omega)
  exact ak (ah (ah ae)) (O5 (fF le_rfl (by rw [Qm];exact le_ro))) hK
theorem NX {l:List Int} (hl:l.length≤1000000000) (hK:∀ tk,K (.ret (.tup [SL (some tk) (jh l).1,I (jh l).2])) (.tip tk::σ)):ACallF κ Tryz.prog 27 [SI o l] σ K:=by
 refine ACallF.weak ResW.void ?_;refine ACallF.dropL (aa Tryz.func27 rfl ?_);simp only [Tryz.ntmps27]
 repeat' (first|simp only [WL,WM,Nat.reduceAdd,Nat.reduceSub])
 refine bF (fun k:Nat=>⟨(SI o l::.any::.any::.any::nilS::I 0::I k::.any::.any::.any::.any::.any::.any::.any::.any::.any::.any::.any::.any::.any::.any::.any::.any::.any::.any::.any::.any::.any::.any::.any::.any::.any::.any::.any::.any::.any::.any::.any::.any::.any::.any::.any::.any::.any::.any::.any::.any::.any::.any::.any::.any::.any::.any::.any::.any::.any::.any::.any::.any::.any::.any::.any::.any::.any::.any::.any::.any::.any::.any::.any::.any::.any::.any::.any::.any::.any::.any::.any::.any::.any::.any::.any::.any::.any::.any::.any::.any::.any::.any::[]),.tip none::σ,true,[]⟩) (fun k=>k≤l.length∧∀ j,j < k→py (l.getD j 0)=true) (fun k=>l.length - k) 0 (aq bH id) ⟨Nat.zero_le _,fun j h=>by omega⟩ ?_;rintro k ⟨hk,hb⟩
 repeat' (first|simp only [WL,ay,WM,reduceCtorEq,bg,Nat.reduceAdd,Bool.not_false,true_and,reduceIte,Bool.false_eq_true,T3,cb,WU,Tryz.results27]|simp (disch:=first|omega|(simp only [aU];omega)) only [an,bL]|(with_reducible first|refine ax (hb:=?_)|refine cD (Q3 ?_))|((with_reducible first|refine ai (fun h=>?_) (fun h=>?_)|refine ab (fun h=>?_) (fun h=>?_))<;>(try simp only [h])<;>(try simp only [bf,ba] at h)))
 ·have hK0:=hK none
  rw [xr (k:=k) (by omega) (BE (by first|exact .inl (by assumption)|exact .inr (by assumption)))] at hK0;exact ak ae (iA (fF (.inr (.inr (.inr ⟨2,_,rfl,by decide,rfl⟩))) le_rfl)) hK0
 ·refine ⟨k+1,aq bH id,⟨by omega,fun j h=>?_⟩,by omega⟩
  rcases Nat.lt_succ_iff_lt_or_eq.1 h with h|rfl
  ·exact hb j h
  ·exact wL (by assumption) (by assumption)
 ·have hK0:=hK none
  rw [xr (k:=k) (by omega) (BE (by first|exact .inl (by assumption)|exact .inr (by assumption)))] at hK0;exact ak ae (iA (fF (.inr (.inr (.inr ⟨2,_,rfl,by decide,rfl⟩))) le_rfl)) hK0
 ·have hR:=I7 (fun j h=>hb j (by omega))
  clear hb hk h;refine bF (fun x:Nat × Nat × List (List Int) × Option (Nat × Nat)=>⟨(SI o l::.any::.any::.any::SL (some x.2.2.2) (x.2.2.1.map lineOf)::I x.1::.any::I x.2.1::.any::.any::.any::.any::.any::.any::.any::.any::.any::.any::.any::.any::.any::.any::.any::.any::.any::.any::.any::.any::.any::.any::.any::.any::.any::.any::.any::.any::.any::.any::.any::.any::.any::.any::.any::.any::.any::.any::.any::.any::.any::.any::.any::.any::.any::.any::.any::.any::.any::.any::.any::.any::.any::.any::.any::.any::.any::.any::.any::.any::.any::.any::.any::.any::.any::.any::.any::.any::.any::.any::.any::.any::.any::.any::.any::.any::.any::.any::.any::.any::.any::[]),.tip x.2.2.2::σ,true,[]⟩)
   (fun x=>x.1≤x.2.1∧x.2.1≤l.length∧x.2.2.1.length≤x.1∧tx [] l=x.2.2.1++tx ((l.take x.2.1).drop x.1) (l.drop x.2.1)) (fun x=>l.length - x.2.1) (0,0,[],none) (aM bH (ResW.refl _) id) ⟨Nat.le_refl _,Nat.zero_le _,Nat.le_refl _,by simp⟩ ?_
  rintro ⟨fr,k,dn,tk⟩ ⟨h1,h2,h4,h3⟩;dsimp only at h1 h2 h3 h4 ⊢
  repeat' (first|simp only [WL,ay,WM,reduceCtorEq,bg,Nat.reduceAdd,Bool.not_true,true_and,reduceIte,Bool.false_eq_true,T3,cb,WK,Tryz.results27]|simp (disch:=first|omega|(simp only [aU];omega)) only [an,bL]|(with_reducible first|refine ax (hb:=?_)|refine cX (hlen:=?_) (hmax:=?_) (hK:=fun tk=>?_)|refine dp (hK:=?_)|refine cD (WG ?_ ?_))|((with_reducible first|refine ai (fun h=>?_) (fun h=>?_)|refine ab (fun h=>?_) (fun h=>?_))<;>(try simp only [h])<;>(try simp only [bf,ba] at h))|omega|(simp only [aU];omega)|(refine bq ?_;(first|omega|(simp only [aU];omega))))
  ·exact ⟨(fr,k+1,dn,tk),aq bH id,⟨by dsimp only;omega,by dsimp only;omega,h4,by rw [h3,CF (by omega) (by omega) (Rw (by assumption) (by assumption))]⟩,by dsimp only;omega⟩
  ·rw [PM] at h
   exact ⟨(k+2,k+2,dn++[(l.take k).drop fr],tk),aM (by simp only [List.map_append,List.map_cons,List.map_nil];exact bH) (ResW.refl _) id,⟨Nat.le_refl _,by dsimp only;omega,by simp;omega,by rw [h3,Dh (by omega) (by assumption) h];simp [gQ]⟩,by dsimp only;omega⟩
  ·rw [PM] at h
   exact ⟨(k+1,k+1,dn++[(l.take k).drop fr],tk),aM (by simp only [List.map_append,List.map_cons,List.map_nil];exact bH) (ResW.refl _) id,⟨Nat.le_refl _,by dsimp only;omega,by simp;omega,by rw [h3,qG (by omega) (yP (by first|exact .inl (by assumption)|exact .inr (by assumption))) (fun hh=>by omega)];simp [gQ]⟩,by dsimp only;omega⟩
  ·exact ⟨(k+1,k+1,dn++[(l.take k).drop fr],tk),aM (by simp only [List.map_append,List.map_cons,List.map_nil];exact bH) (ResW.refl _) id,⟨Nat.le_refl _,by dsimp only;omega,by simp;omega,by rw [h3,qG (by omega) (yP (by first|exact .inl (by assumption)|exact .inr (by assumption))) (fun hh=>by omega)];simp [gQ]⟩,by dsimp only;omega⟩
  ·exact ⟨(k+1,k+1,dn++[(l.take k).drop fr],tk),aM (by simp only [List.map_append,List.map_cons,List.map_nil];exact bH) (ResW.refl _) id,⟨Nat.le_refl _,by dsimp only;omega,by simp;omega,by rw [h3,qG (by omega) (yP (by first|exact .inl (by assumption)|exact .inr (by assumption))) (fun hh=>by omega)];simp [gQ]⟩,by dsimp only;omega⟩
  ·rw [vM (by omega),if_pos (by omega)] at h3
   exact ak ae (iA (fF (by rw [hR];dsimp only;rw [nC,h3];simp only [SL,List.map_append,List.map_cons,List.map_nil];exact le_rfl) (by rw [hR];exact le_rfl))) (hK _)
  ·rw [vM (by omega),if_neg (by omega)] at h3
   exact ak ae (iA (fF (by rw [hR];dsimp only;rw [nC,h3];simp only [List.append_nil];exact le_rfl) (by rw [hR];exact le_rfl))) (hK _)
theorem RQ {l:List Int} (hl:l.length≤1000000000) (hK:K (.ret (.tup [SL none (jh l).1,I (jh l).2])) σ):ACallF κ Tryz.prog 27 [SI o l] σ K :=
 ACallF.dropL (NX hl (fun _=>ak (ah ae) (iA (fF le_ro le_rfl)) hK))
def Asc (b:List Int):Prop:=b.length≤100000∧∀ c∈b,1≤c∧c≤127
theorem Asc.at_ {b:List Int} (h:Asc b) {k:Nat} (hk:k < b.length):1≤b.getD k 0∧b.getD k 0≤127 :=
 h.2 _ (by rw [List.getD_eq_getElem?_getD,List.getElem?_eq_getElem hk];exact List.getElem_mem hk)
theorem Asc.drop {b:List Int} (h:Asc b) (k:Nat):Asc (b.drop k):=⟨by have:=h.1;rw [List.length_drop];omega,fun c hc=>h.2 c (List.mem_of_mem_drop hc)⟩
theorem jM {b l:List Int} (hb:Asc b) (hl:0 < l.length) (h0:l.getD 0 0=0∨127 < l.getD 0 0∧l.getD 0 0≤255) (hK:K (.ret (B false)) σ):ACallF κ Tryz.prog 53 [SU o b,SU o' l] σ K:=by
 have hbl:=hb.1
 have hb0:=fun h=>hb.at_ (k:=0) h
 by_cases hs:b.length < l.length
 ·skip
  refine ACallF.dropL (aa Tryz.func53 rfl ?_);simp only [Tryz.ntmps53]
  repeat' (first|simp only [WL,ay,WM,reduceCtorEq,bg,Nat.reduceAdd,Nat.reduceSub,true_and,sn,Tryz.results53]|((with_reducible first|refine ai (fun h=>?_) (fun h=>?_)|refine ab (fun h=>?_) (fun h=>?_))<;>(try simp only [h])<;>(try simp only [bf,ba] at h))|omega)
  all_goals first
   | exact ak ae (aj rfl) hK
 ·skip
  refine ACallF.dropL (aa Tryz.func53 rfl ?_);simp only [Tryz.ntmps53]
  repeat' (first|simp only [WL,ay,WM,reduceCtorEq,bg,Nat.reduceAdd,Nat.reduceSub,true_and,sn,Tryz.results53]|((with_reducible first|refine ai (fun h=>?_) (fun h=>?_)|refine ab (fun h=>?_) (fun h=>?_))<;>(try simp only [h])<;>(try simp only [bf,ba] at h))|omega)
  refine bF (fun _:Unit=>⟨(SU o b::SU o' l::.any::.any::.any::I 0::.any::.any::.any::.any::.any::.any::.any::.any::.any::.any::.any::.any::.any::.any::.any::.any::.any::.any::.any::.any::[]),σ,true,[]⟩) (fun _=>True) (fun _=>0) () (aq bH id) trivial ?_;intro _ _;have hb0:=hb0 (by omega)
  have hl8:0≤l.getD 0 0∧l.getD 0 0≤255:=by omega
  have hne:(b.getD 0 0 == l.getD 0 0)=false:=beq_eq_false_iff_ne.2 (by omega)
  have hne2:(b.getD 0 0 != l.getD 0 0)=true:=by unfold bne;rw [hne];rfl
  repeat' (first|simp only [WL,ay,WM,Int.reduceToNat,reduceCtorEq,bg,Nat.reduceAdd,Nat.reduceLT,true_and,T5,sn,Tryz.results53,hne2]|simp (disch:=first|omega|(simp only [aU];omega)) only [za]|with_reducible refine ax (hb:=?_)|((with_reducible refine aE (id:=6) 9 mixed ?_ ?_);kernel_rfl)|(with_reducible refine bK ?_)|((with_reducible first|refine ai (fun h=>?_) (fun h=>?_)|refine ab (fun h=>?_) (fun h=>?_))<;>(try simp only [h])<;>(try simp only [bf,ba] at h))|omega)
  all_goals first
   | exact ak ae (aj rfl) hK
   | (exfalso;omega)
theorem LM {b:List Int} (hb:Asc b) (h0:0 < b.length) (hK:K (.ret (.tup [I (b.getD 0 0),I 1])) σ):ACallF κ Tryz.prog 54 [SU o b] σ K:=by
 have hbl:=hb.1
 have a0:=hb.at_ h0
 have hlt:b.getD 0 0 < 128:=by omega
 refine ACallF.dropL (aa Tryz.func54 rfl ?_);simp only [Tryz.ntmps54]
 repeat' (first|simp only [WL,ay,WM,Int.reduceToNat,reduceCtorEq,bg,Nat.reduceAdd,Nat.reduceSub,true_and,T5,sn,cI z7,Tryz.results54,decide_eq_true hlt]|simp (disch:=first|omega|(simp only [aU];omega)) only [an,za]|with_reducible refine ax (hb:=?_))
 all_goals first
  | exact ak ae (aj rfl) hK
  | (exfalso;omega)
theorem UL {b:List Int} (hb:Asc b) (hK:K (.ret (.tup [SI none b,B true])) σ):ACallF κ Tryz.prog 37 [SU o b] σ K:=by
 have hbl:=hb.1
 refine ACallF.dropL (aa Tryz.func37 rfl ?_);simp only [Tryz.ntmps37]
 repeat' (first|simp only [WL,WM,Nat.reduceAdd,Nat.reduceSub])
 refine bF (fun z:Nat × Option (Nat × Nat)=>⟨(SU o b::.any::.any::.any::SI (some z.2) (b.take z.1)::I z.1::.any::.any::.any::.any::.any::.any::.any::.any::.any::.any::.any::.any::.any::.any::.any::.any::.any::.any::.any::.any::.any::.any::.any::[]),.tip z.2::σ,true,[]⟩) (fun z=>z.1≤b.length) (fun z=>b.length - z.1) (0,none) (aM bH ResW.void id) (Nat.zero_le _) ?_;rintro ⟨k,tk⟩ hk;dsimp only at hk ⊢;rcases Nat.lt_or_ge k b.length with hi|hi
 ·have hd:(b.drop k).getD 0 0=b.getD k 0:=by rw [lx,Nat.add_zero]
  have hdl:0 < (b.drop k).length:=by rw [List.length_drop];omega
  have hnx:List.map I (b.take k)++[I (b.getD k 0)]=List.map I (b.take (k+1)):=by
   rw [List.take_succ_eq_append_getElem hi,List.map_append,List.getD_eq_getElem?_getD,List.getElem?_eq_getElem hi];rfl
  repeat' (first|simp only [WL,ay,WM,reduceCtorEq,bg,Nat.reduceAdd,Nat.reduceLT,true_and,T5,sn,Ew,Tryz.results37,hd,hnx]|simp (disch:=first|omega|(simp only [aU];omega)) only [an]|(with_reducible first|refine ax (hb:=?_)|refine cX (hlen:=?_) (hmax:=?_) (hK:=fun tk=>?_)|refine dp (hK:=?_)|refine cD (LM (b:=b.drop k) (hb.drop k) hdl ?_))|((with_reducible first|refine ai (fun h=>?_) (fun h=>?_)|refine ab (fun h=>?_) (fun h=>?_))<;>(try simp only [h])<;>(try simp only [bf,ba] at h))|omega|(simp only [aU];omega)|(refine bq ?_;(first|omega|(simp only [aU];omega))))
  exact ⟨(k+1,tk),aM bH (ResW.refl _) id,by dsimp only;omega,by dsimp only;omega⟩
 ·skip
  repeat' (first|simp only [WL,ay,WM,reduceCtorEq,bg,Nat.reduceAdd,Nat.reduceLT,true_and,T5,sn,Ew,Tryz.results37]|simp (disch:=first|omega|(simp only [aU];omega)) only [an]|(with_reducible first|refine ax (hb:=?_)|refine cX (hlen:=?_) (hmax:=?_) (hK:=fun tk=>?_)|refine dp (hK:=?_)|refine cD (LM ?_ ?_ ?_))|((with_reducible first|refine ai (fun h=>?_) (fun h=>?_)|refine ab (fun h=>?_) (fun h=>?_))<;>(try simp only [h])<;>(try simp only [bf,ba] at h))|omega)
  exact ak (ah ae) (iA (fF (by rw [List.take_of_length_le hi];exact le_ro) le_rfl)) hK
end Go.Proofs.YthkabaiamcjdbaaGreat
