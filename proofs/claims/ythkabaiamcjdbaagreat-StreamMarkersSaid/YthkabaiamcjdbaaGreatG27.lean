/-
  Texts Kv, Kw, Rd, Li, Lb, Ic, one behind the other.
-/
import Derived.Test.YthkabaiamcjdbaaGreatG25
import Derived.Test.YthkabaiamcjdbaaGreatG26
set_option linter.unusedVariables false
set_option linter.unusedSimpArgs false
set_option maxHeartbeats 16000000
/-
 Walks: chapter 14,nodes in each other,and a document's node.
-/

namespace Go.Proofs.YthkabaiamcjdbaaGreat
open Go.Abs
variable {κ:Ctx} {σ:List Res} {K:Ret→List Res→Prop} {o o':Option (Option (Nat × Nat))}
abbrev qj (ls:List Ln) (f k:Nat):NdP:=fun i c n pair lead t=>kM ls f k n pair i c lead t
theorem ug {ls:List Ln} (hs:Small ls) {f k:Nat} (hf:f < 200):kx ls 9000000 (ej (qj ls f k)):=fun i c n b hi=>(ry hs f k n b i c (!b) tp0 hi).mono (by unfold BP;omega)
theorem Tr {pr br:Nat}{ls:List Ln} (hs:Small ls):∀ f k:Nat,k+f=200→NodeCP κ pr br ls (qj ls f k) f k
 | 0,k,hkf=>by
  obtain rfl:k=200:=by omega
  rename_i x y op l τ σ0 i c n pair lead t K
  intro hk hJ hb hi hc hn ht hr h1 h2
  refine Il (S:=fun _ _ _ _=>.error 8) (M:=fun _ _ _=>.error 8) (f:=0) (k:=200) ?_ ?_ hk (by omega) hJ hb hs hi hc hn ht hr h1 h2
  ·intro x y op l τ σ0 i c pair t K hk hJ hb hi hc hr h1 h2
   refine MC (f:=0) (k:=200) (N:=qj ls 0 0) (fun h=>absurd h (by omega)) ((fun i c n b hi=>(ry hs 0 _ n b i c (!b) tp0 hi).mono (by decide))) hk (by omega) hJ hb hs hi hc (by unfold mj at hr;omega) (fun h=>absurd h (by omega)) (fun ev i2 h=>absurd h (by omega)) (fun e h x' y' op' l' τ' hJ'=>?_)
   rcases h with ⟨-,rfl⟩|⟨h,-⟩
   ·exact h2 8 rfl _ _ _ _ _ hJ'
   ·omega
  ·intro x y op l τ σ0 i c t K hk hJ hb hi hc hr h1 h2
   refine Lj (f:=0) (k:=200) (N:=qj ls 0 0) (fun h=>absurd h (by omega)) (ug hs (by omega)) hk (by omega) hJ hb hs hi hc (by unfold mj at hr;omega) (fun h=>absurd h (by omega)) (fun ev i2 h=>absurd h (by omega)) (fun e h x' y' op' l' τ' hJ'=>?_)
   rcases h with ⟨-,rfl⟩|⟨h,-⟩
   ·exact h2 8 rfl _ _ _ _ _ hJ'
   ·omega
 | f+1,k,hkf=>by
  have ih:NodeCP κ pr br ls (qj ls f (k+1)) f (k+1):=Tr (pr:=pr) (br:=br) hs f (k+1) (by omega)
  have hG:=ug hs (f:=f) (k:=k+1) (by omega)
  have e1:(((k+1:Nat)):Int)=(k:Int)+1:=by omega
  rename_i x y op l τ σ0 i c n pair lead t K
  intro hk hJ hb hi hc hn ht hr h1 h2
  have e2:qj ls (f+1) k i c n pair lead t=dO ls (dD ls (ej (qj ls f (k+1)))) (rQ ls (ej (qj ls f (k+1))) ((k:Int)+1)) k n pair (2 * ls.length+2) i c lead t:=by
   show kM ls (f+1) k n pair i c lead t=_
   rw [kM]
   unfold ej qj
   rw [e1]
  rw [e2] at h1 h2
  refine Il (f:=f+1) (k:=k) ?_ ?_ hk (by omega) hJ hb hs hi hc hn ht hr h1 h2
  ·intro x y op l τ σ0 i c pair t K hk hJ hb hi hc hr h1 h2
   refine MC (f:=f) (k:=k) (fun _=>ih) (fun i c n b hi=>(hG i c n b hi).mono (by decide)) hk (by omega) hJ hb hs hi hc (by unfold mj at hr;omega) (fun _=>hr) (fun ev i2 _=>h1 ev i2) (fun e h x' y' op' l' τ' hJ'=>?_)
   rcases h with ⟨h,-⟩|⟨-,h⟩
   ·omega
   ·exact h2 e h _ _ _ _ _ hJ'
  ·intro x y op l τ σ0 i c t K hk hJ hb hi hc hr h1 h2
   refine Lj (f:=f) (k:=k) (fun _=>ih) hG hk (by omega) hJ hb hs hi hc (by unfold mj at hr;omega) (fun _=>hr) (fun ev i2 _=>h1 ev i2) (fun e h x' y' op' l' τ' hJ'=>?_)
   rcases h with ⟨h,-⟩|⟨-,h⟩
   ·omega
   ·exact h2 e h _ _ _ _ _ hJ'
theorem LG {pr br:Nat}{ls:List Ln}{i c:Int}{τ:List Res} (hb:Res.obj br [SL none ls]∈τ) (hs:Small ls) (hi:0≤i∧i < ls.length) (hc:0≤c∧c≤5000)
  (h1:∀ ev k,iA ls i c=.ok (ev,k)→∀ x' y' τ',JX x' y' [] ev τ' τ→K (.ret (I k)) (.obj pr (RC ls br x' y')::τ'))
  (h2:∀ e,iA ls i c=.error e→∀ x' y' op' l' τ',JX x' y' op' l' τ' τ→K (.pan (bF e)) (.obj pr (RC ls br x' y')::τ')):ACallF κ Tryz.prog 35 [JP pr,I i,I c] (.obj pr (RC ls br nilS nilS)::τ) K:=by
 have hl:=hs.1
 have hJ:JX nilS nilS [] [] τ τ:=⟨[],[],RowR.nil,RowR.nil,List.Perm.refl _⟩
 have hN:NodeCP κ pr br ls (qj ls 200 0) 200 0:=Tr hs 200 0 rfl
 have hr:mj ls 200 [] i:=by show 0+10000000 * ((ls.length:Int) - i).toNat+40002 * 200≤100000000000;omega
 unfold iA at h1 h2
 have hc0:(c == 0)=decide (c=0):=rfl
 cases hn:kM ls 200 0 (-1) false i c (decide (c=0)) tp0 with
 | error e =>
  rw [hn] at h2
  have hn:qj ls 200 0 i c (-1) false (decide (c=0)) tp0=.error e:=hn
  refine ACallF.dropL (aa Tryz.func35 rfl ?_)
  simp only [Tryz.ntmps35]
  repeat' (first|simp only [WL,aD,WM,reduceCtorEq,ba,Nat.reduceAdd,Nat.reduceSub,true_and,gn,hc0]|(with_reducible first|refine aG (hK:=?_)|refine callD_mk (qJ hN hn rfl hJ hb hi hc (by omega) fj hr (fun x' y' op' l' τ' hJ'=>?_))))
  exact aN ah rfl (h2 e rfl _ _ _ _ _ hJ')
 | ok r =>
  obtain ⟨ev,i2⟩:=r
  obtain ⟨a1,a2,a3⟩:=ry hs _ _ _ _ _ _ _ _ hi _ _ hn
  have hi2:0≤i2∧i2≤ls.length:=⟨by omega,a2⟩
  rw [hn] at h1 h2
  dsimp only at h1 h2
  have hn:qj ls 200 0 i c (-1) false (decide (c=0)) tp0=.ok (ev,i2):=hn
  cases hx:nextP ls i2 with
  | error e =>
   rw [hx] at h2
   refine ACallF.dropL (aa Tryz.func35 rfl ?_)
   simp only [Tryz.ntmps35]
   repeat' (first|simp only [WL,aD,WM,reduceCtorEq,ba,Nat.reduceAdd,Nat.reduceSub,true_and,gn,ij,hc0]|(with_reducible first|refine aG (hK:=?_)|refine callD_mk (ed hN hn rfl hJ hb hi hc (by omega) fj hr (fun x' y' τ' hJ'=>?_))|refine callD_mk (qv hx hs hi2 ?_)))
   exact aN ah rfl (h2 e rfl _ _ _ _ _ hJ')
  | ok r =>
   obtain ⟨k',ok⟩:=r
   obtain ⟨b1,b2,b3⟩:=iE hi2.2 hx
   rw [hx] at h1 h2
   dsimp only at h1 h2
   cases ok
   ·rw [if_pos rfl] at h1
    refine ACallF.dropL (aa Tryz.func35 rfl ?_)
    simp only [Tryz.ntmps35]
    repeat' (first|simp only [WL,aD,WM,reduceCtorEq,ba,Nat.reduceAdd,Nat.reduceSub,Nat.reduceLT,Bool.not_false,true_and,gn,ij,Tryz.results35,hc0]|(with_reducible first|refine aG (hK:=?_)|refine callD_mk (ed hN hn rfl hJ hb hi hc (by omega) fj hr (fun x' y' τ' hJ'=>?_))|refine callD_mk (gk hx hs hi2 ?_)))
    exact ak ah (aj rfl) (h1 _ _ rfl _ _ _ hJ')
   ·have b3:=b3 rfl
    rw [if_neg (by decide)] at h2
    have ha:=hs.at_ (i:=k'.toNat) (by omega)
    dsimp only [aE] at h2
    refine ACallF.dropL (aa Tryz.func35 rfl ?_)
    simp only [Tryz.ntmps35]
    repeat' (first|simp only [WL,aD,WM,reduceCtorEq,ba,Nat.reduceAdd,Nat.reduceSub,Nat.reduceLT,Nat.reduceLeDiff,Nat.reduceEqDiff,Bool.not_true,true_and,T3,fT,jb,fC cX,fR fW,gn,ij,nB,hc0]|simp (disch:=first|omega|(simp only [aT];omega)) only [dN]|(with_reducible first|refine aC (hb:=?_)|refine ax (hK:=?_)|refine aG (hK:=?_)|refine callD_mk (ed hN hn rfl hJ hb hi hc (by omega) fj hr (fun x' y' τ' hJ'=>?_))|refine callD_mk (gk hx hs hi2 ?_)|refine callD_mk (ny ?_))|((with_reducible first|refine ai (fun h=>?_) (fun h=>?_)|refine ab (fun h=>?_) (fun h=>?_))<;>(try simp only [h])<;>(try simp only [bg,bm] at h)))
    all_goals first
     | exact aN ah rfl (h2 7 (by rw [if_pos (by assumption)]) _ _ _ _ _ hJ')
     | exact aN ah rfl (h2 2 (by rw [if_neg (by omega)]) _ _ _ _ _ hJ')
theorem Nh {pr br:Nat}{ls:List Ln}{i c k:Int}{ev:List EvV}{ρ τ:List Res} [hS:Split σ pr ρ (RC ls br nilS nilS) τ] (hw:iA ls i c=.ok (ev,k)) (hb:Res.obj br [SL none ls]∈τ) (hs:Small ls) (hi:0≤i∧i < ls.length) (hc:0≤c∧c≤5000)
  (h1:∀ x' y' τ',JX x' y' [] ev τ' τ→K (.ret (I k)) (ρ ++ .obj pr (RC ls br x' y')::τ')):ACallF κ Tryz.prog 35 [JP pr,I i,I c] σ K :=
 ACallF.at_ (b:=pr) (LG hb hs hi hc (fun ev' k' h=>by rw [hw] at h;cases h;exact h1) (fun e h=>by rw [hw] at h;cases h))
theorem P2 {pr br:Nat}{ls:List Ln}{i c e:Int}{ρ τ:List Res} [hS:Split σ pr ρ (RC ls br nilS nilS) τ] (hw:iA ls i c=.error e) (hb:Res.obj br [SL none ls]∈τ) (hs:Small ls) (hi:0≤i∧i < ls.length) (hc:0≤c∧c≤5000)
  (h2:∀ x' y' op' l' τ',JX x' y' op' l' τ' τ→K (.pan (bF e)) (ρ ++ .obj pr (RC ls br x' y')::τ')):ACallF κ Tryz.prog 35 [JP pr,I i,I c] σ K :=
 ACallF.at_ (b:=pr) (LG hb hs hi hc (fun ev' k' h=>by rw [hw] at h;cases h) (fun e' h=>by rw [hw] at h;cases h;exact h2))
theorem QN {b4 b5:Nat}{KD:FrameMode→List Res→Prop} (hK:KD .returning σ):g8 κ Tryz.prog 34 [.raw (PT b4),.raw (PT b5)] σ .returning KD:=by
 refine fc Tryz.func34 rfl ?_ (by simp [Tryz.ntmps34])
 simp only [Tryz.ntmps34]
 repeat' (first|with_reducible refine ko (id:=1) ?_|simp only [WL,WM,Nat.reduceAdd,Nat.reduceSub])
 refine al (iK (l:=[_]) false Tryz.underlying20 ?_)
 repeat' (first|simp only [WL,WM,and_true,Bool.false_eq_true,oD])
 refine ⟨⟨.nilIface,rfl,.inl rfl⟩, ?_⟩
 repeat' (first|with_reducible refine aw ?_|simp only [WL,WM])
 exact ⟨rfl,rfl,rfl,hK⟩
abbrev Ps (e:Int):FrameMode:=.panicking (bF e)
theorem Tq {b4 b5:Nat}{e:Int}{KD:FrameMode→List Res→Prop} (hK:∀ b,KD (qS (Ps e)) (.obj b [I e]::.obj b5 [I e]::.obj b4 [I 0]::σ)):g8 κ Tryz.prog 34 [.raw (PT b4),.raw (PT b5)] (.obj b5 [I 0]::.obj b4 [I 0]::σ) (Ps e) KD:=by
 refine fc Tryz.func34 rfl ?_ (by simp [Tryz.ntmps34])
 simp only [Tryz.ntmps34,show oX (Ps e)=.iface 79 (.agg #[.int .i64 e]) from rfl]
 repeat' (first|with_reducible refine ko (id:=1) ?_|simp only [WL,WM,Nat.reduceAdd,Nat.reduceSub])
 refine al (iK (l:=[_]) true Tryz.underlying20 ?_)
 repeat' (first|simp only [WL,WM,reduceCtorEq,and_true,oD]|with_reducible refine aC (hb:=?_))
 repeat' (first|( with_reducible refine pb ?_)|with_reducible refine aw ?_|simp only [WL,WM,Nat.reduceAdd,Nat.reduceLT,Nat.reduceEqDiff,Bool.not_true,true_and,UB,fR Pe]|(with_reducible first|refine aC (hb:=?_)|refine ax (hK:=?_)|refine aO (hK:=?_)|refine az (hK:=?_)|refine aS (hK:=fun b=>?_))|((with_reducible refine dq (id:=5) [0,1] (some 2) [([],some 3),([],none)] mixed ?_ ?_);kernel_rfl)|((with_reducible apply aQ);intro σq hq;have hqi:=cm hq;clear hq)|(with_reducible exact bU)|((with_reducible apply bA);rfl;rfl)|(with_reducible refine bR (jY (by first|(simp;done)|fail)) ?_))
 exact ⟨rfl,rfl,rfl,hK _⟩
theorem Q7 {pr br:Nat}{ls:List Ln}{i c:Int}{τ:List Res} (hb:Res.obj br [SL none ls]∈τ) (hs:Small ls) (hi:0≤i∧i < ls.length) (hc:0≤c∧c≤5000)
  (h1:∀ ev k,iA ls i c=.ok (ev,k)→∀ x' y' τ',JX x' y' [] ev τ' τ→K (.ret (.tup [I k,I 0])) (.obj pr (RC ls br x' y')::τ'))
  (h2:∀ e,iA ls i c=.error e→K (.ret (.tup [I 0,I e])) τ):ACallF κ Tryz.prog 25 [JP pr,I i,I c] (.obj pr (RC ls br nilS nilS)::τ) K:=by
 refine ACallF.dropL (jD (cap:=fun _=>True) (fd:=34) Tryz.func25 rfl Sa ?_)
 simp only [Tryz.ntmps25]
 repeat' (first|(with_reducible first|refine ko (id:=1) ?_|refine aJ ?_)|simp only [WL,WM,Nat.reduceAdd,Nat.reduceSub]|with_reducible refine aS (hK:=fun b=>?_))
 rename_i b4
 refine nt (fun _:Unit=>⟨(JP pr::I i::I c::.any::.any::.any::JP b4::JP b::.any::.any::.any::.any::.any::[]),.obj b [I 0]::.obj b4 [I 0]::.obj pr (RC ls br nilS nilS)::τ,true,[Eu 34 [.pointer (some ⟨b4,0,none⟩),.pointer (some ⟨b,0,none⟩)]]⟩) (fun _=>True) ?_ ?_
 ·refine rv (l:=[_]) 34 [.pointer (some ⟨b4,0,none⟩),.pointer (some ⟨b,0,none⟩)] ?_
  repeat' (first|simp only [WL,WM,true_and,and_true,rq])
  exact ⟨(),ao bz id⟩
 ·intro _ _
  cases hw:iA ls i c with
  | error e =>
   repeat' (first|with_reducible refine aJ ?_|simp only [WL,WM,true_and,MR]|with_reducible refine callD_mk (P2 hw hb hs hi hc (fun x' y' op' l' τ' hJ'=>?_)))
   refine ⟨[.pointer (some ⟨b4,0,none⟩),.pointer (some ⟨b,0,none⟩)],rfl,rfl,Tq (fun bx=>⟨rfl, ?_⟩)⟩
   rw [jf]
   repeat' (first|simp only [WM,Tryz.results25]|((with_reducible refine aU ?_);apply kS (hf:=Tryz.results25);exact eG;exact eG))
   exact ak (ae (ae (ae (ae hJ'.sub)))) (aj rfl) (h2 _ hw)
  | ok r =>
   obtain ⟨ev,k⟩:=r
   repeat' (first|(with_reducible first|refine aJ ?_|refine aY ?_)|simp only [WL,WM,Nat.reduceAdd,true_and,MR]|(with_reducible first|refine aO (hK:=?_)|refine callD_mk (Nh hw hb hs hi hc (fun x' y' τ' hJ'=>?_))))
   refine ⟨[.pointer (some ⟨b4,0,none⟩),.pointer (some ⟨b,0,none⟩)],rfl,rfl,QN ⟨rfl, ?_⟩⟩
   rw [jf]
   repeat' (first|simp only [WM,Tryz.results25]|((with_reducible refine aU ?_);apply kS (hf:=Tryz.results25);exact eG;exact eG))
   exact ak bE (aj rfl) (h1 _ _ hw _ _ _ hJ')
theorem NH {r:Res}{σ:List Res}:r∈r::σ:=by simp
abbrev v5 (r:PR):Prop:=∀ ev i2,r=.ok (ev,i2)→0 < ev.length
theorem HI {ls:List Ln}{i c n d:Int}{t:TP} (hs:Small ls) (hi:0≤i∧i < ls.length) (h0:0 < (restP ls i c).1.length):v5 (gv ls i c n d t):=by
 intro ev i2 h
 have hP:=(dG (c:=c) hs hi).2.2.2 h0
 unfold gv at h
 split at h
 ·unfold ja at h
  split at h
  ·cases h
  ·split at h
   ·cases h
   ·cases h;simp
 ·split at h
  ·cases h
  ·rename_i ev1 e1 t1 hw
   have hg:=(cl hs 200 0 (i,(restP ls i c).2) ev1 e1 t1 hP hw).2.2.2
   split at h
   ·cases h
   ·rename_i ev2 hset
    have hl:=xk hset
    unfold vH at h
    split at h
    ·cases h
    ·cases h;omega
theorem E3 {ls:List Ln}{S:Int→Int→Bool→TP→PR}{M:Int→Int→TP→PR}{R:Int→Int→Bool→TP→PR}{d n i c:Int}{lead:Bool}{t:TP} (hs:Small ls) (hS:∀ i c b t,v5 (S i c b t)) (hM:∀ i c t,v5 (M i c t)) (hR:∀ (i c:Int) (b:Bool) (t:TP),0≤i∧i < ls.length→v5 (R i c b t)) (hi:0≤i∧i < ls.length):v5 (zx ls S M R d n i c lead t):=by
 intro ev i2 h
 unfold zx at h
 split at h
 ·split at h
  ·exact hS _ _ _ _ ev i2 h
  ·cases h
 ·split at h
  ·split at h
   ·exact hM _ _ _ ev i2 h
   ·cases h
  ·split at h
   ·cases h
   ·split at h
    ·cases h
    ·split at h
     ·rename_i h0;exact HI hs hi h0 ev i2 h
     ·exact hR _ _ _ _ hi ev i2 h
theorem rD {ls:List Ln}{S:Int→Int→Bool→TP→PR}{M:Int→Int→TP→PR}{d n:Int}{pair:Bool} (hs:Small ls) (hS:∀ i c b t,v5 (S i c b t)) (hM:∀ i c t,v5 (M i c t)):∀ (f:Nat) (i c:Int) (lead:Bool) (t:TP),0≤i∧i < ls.length→v5 (dO ls S M d n pair f i c lead t)
 | 0,i,c,lead,t,hi=>fun ev i2 h=>by cases h
 | f+1,i,c,lead,t,hi=>fun ev i2 h=>by
  have ih:=fun i c b t hi=>rD (d:=d) (n:=n) (pair:=pair) hs hS hM f i c b t hi
  rw [dO] at h
  split at h
  ·exact E3 hs hS hM ih hi ev i2 h
  ·split at h
   ·cases h
   ·rename_i k ok hn
    obtain ⟨h1,h2,h3⟩:=iE (by omega) hn
    split at h
    ·cases h;simp
    ·rename_i hc
     have hok:ok=true:=by simpa using fun h=>hc (.inl h)
     split at h
     ·exact hS _ _ _ _ ev i2 h
     ·exact E3 hs hS hM ih ⟨by omega,h3 hok⟩ ev i2 h
theorem Jh {ls:List Ln} (hs:Small ls):∀ (f:Nat) (d n:Int) (pair:Bool) (i c:Int) (lead:Bool) (t:TP),0≤i∧i < ls.length→v5 (kM ls f d n pair i c lead t)
 | 0,d,n,pair,i,c,lead,t,hi=>by
  rw [kM]
  exact rD hs (fun _ _ _ _ ev i2 h=>by cases h) (fun _ _ _ ev i2 h=>by cases h) _ _ _ _ _ hi
 | f+1,d,n,pair,i,c,lead,t,hi=>by
  rw [kM]
  refine rD hs (fun i c b t ev i2 h=>?_) (fun i c t ev i2 h=>?_) _ _ _ _ _ hi
  ·unfold dD at h
   split at h
   ·cases h
   ·cases h;simp
  ·unfold rQ at h
   split at h
   ·cases h
   ·cases h;simp
theorem JY {ls:List Ln}{i c:Int}{ev:List EvV}{k:Int} (hs:Small ls) (hi:0≤i∧i < ls.length) (h:iA ls i c=.ok (ev,k)):0 < ev.length:=by
 unfold iA at h
 split at h
 ·cases h
 ·rename_i ev1 k1 hl
  have:=Jh hs _ _ _ _ _ _ _ _ hi _ _ hl
  split at h
  ·cases h
  ·split at h
   ·cases h;exact this
   ·split at h<;>cases h
theorem H8 {ls:List Ln}{i c k:Int}{ev:List EvV} (hw:iA ls i c=.ok (ev,k)) (hs:Small ls) (hi:0≤i∧i < ls.length) (hc:0≤c∧c - (aE ls i).1≤(aE ls i).2.length)
  (h1:∀ rb rc cs,ev.length≤rc→K (.ret (.tup [bM rb 0 ev.length rc,I k,I 0])) (.obj rb (aI (ev.map EVA)++cs)::σ)):ACallF κ Tryz.prog 12 [SL none ls,I i,I c] σ K:=by
 have hl:=hs.1
 have h0:∀ x∈ls,0≤x.1:=fun x hx=>(hs.2 x hx).2.1
 have hx:=hs.at_ (i:=i.toNat) (by omega)
 have hpos:=JY hs hi hw
 dsimp only [aE] at hc
 have hc5:0≤c∧c≤5000:=by omega
 refine ACallF.dropL (aa Tryz.func12 rfl ?_)
 simp only [Tryz.ntmps12]
 repeat' (first|simp only [WL,aD,WM,reduceCtorEq,ba,Nat.reduceAdd,Nat.reduceSub,Nat.reduceLT,Nat.reduceLeDiff,Nat.reduceEqDiff,Bool.not_false,true_and,reduceIte,Bool.false_eq_true,T3,bX,jU,fT,jb,fC cX,fC dP,fR mF,L7,Rm,RX,Tryz.results12]|simp (disch:=first|omega|(simp only [aT];omega)) only [aq,dN]|(with_reducible first|refine aC (hb:=?_)|refine ax (hK:=?_)|refine aP (hK:=fun b=>?_)|refine aG (hK:=?_)|refine callD_mk (yi (ls:=ls) (by omega) h0 ?_)|refine callD_mk (Ux (ls:=ls) (by omega) h0 (fun br=>?_))|refine callD_mk (Q7 NH hs hi hc5 (fun ev' k' hd x' y' τ' hJ'=>?_) (fun e h=>by rw [hw] at h;cases h)))|((with_reducible refine aH (id:=2) 28 mixed ?_ ?_);kernel_rfl)|(with_reducible refine bP ?_)|((with_reducible first|refine ai (fun h=>?_) (fun h=>?_)|refine ab (fun h=>?_) (fun h=>?_))<;>(try simp only [h])<;>(try simp only [bg,bm] at h))|omega)
 all_goals first
  | (exfalso;omega)
  | exact absurd trivial (by assumption)
  | skip
 all_goals
  rw [hw] at hd
  cases hd
  obtain ⟨ρx,ρy,r1,r2,hpp⟩:=hJ'
  generalize hm:ev.map EVA=m at r2
  have hml:m.length=ev.length:=by rw [← hm,List.length_map]
  cases r2 with
  | nil=>exfalso;rw [List.length_nil] at hml;omega
  | @row rb rc cs _ k0 kn kc kt =>
  rw [hml] at kn kt ⊢
  have hcs:cs=aI m++cs.drop (ev.length * 6):=by rw [← kt,List.take_append_drop]
  have h2:=h1 rb rc (cs.drop (ev.length * 6)) kn
  rw [hm,← hcs] at h2
  exact ak (ae (og hpp.symm ⟨.obj rb cs::σ,List.Perm.refl _,((List.sublist_cons_self _ _).cons_cons _).trans (List.sublist_append_right _ _)⟩)) (aj rfl) h2


theorem S8 {l:List Int} (hl:l.length≤1000000000) (hK:K (.ret (LN (lineOf l))) σ):ACallF κ Tryz.prog 42 [SI o l] σ K:=by
 refine ACallF.dropL (aa Tryz.func42 rfl ?_)
 simp only [Tryz.ntmps42]
 repeat' (first|simp only [WL,WM,Nat.reduceAdd,Nat.reduceSub]|with_reducible refine aS (hK:=fun b=>?_))
 refine bH (fun k:Nat=>⟨(SI o l::.any::.raw (.pointer (some ⟨b,0,none⟩))::I k::.any::.any::.any::.any::.any::.any::.any::.any::.any::.any::.any::.any::.any::.any::.any::.any::.any::.any::.any::[]),.obj b [I 0,nilS]::σ,true,[]⟩) (fun k=>k≤(l.takeWhile (· == 32)).length) (fun k=>l.length - k) 0 (ao bz id) (Nat.zero_le _) (fun k hk=>?_)
 have hk2:=(List.takeWhile_prefix (· == 32) (l:=l)).length_le
 repeat' (first|simp only [WL,aD,WM,reduceCtorEq,ba,Nat.reduceAdd,Bool.not_true,true_and,reduceIte,Bool.false_eq_true,T3,bX,Tryz.results42]|simp (disch:=first|omega|(simp only [aT];omega)) only [aq,aV]|(with_reducible first|refine aC (hb:=?_)|refine az (hK:=?_)|refine OA ?_|refine cq (hlen:=?_) (hmax:=?_) (hK:=fun tk=>?_)|refine aG (hK:=?_))|((with_reducible refine aU ?_);apply db (hf:=Tryz.results42);exact aZ)|((with_reducible first|refine ai (fun h=>?_) (fun h=>?_)|refine ab (fun h=>?_) (fun h=>?_))<;>(try simp only [h])<;>(try simp only [bg,bm] at h))|(simp only [aT];omega)|(refine bq ?_;(first|omega|(simp only [aT];omega))))
 ·exact ⟨k+1,ao bz id,wN hk (by omega) (by simpa using h),by omega⟩
 all_goals
  obtain rfl:k=(l.takeWhile (· == 32)).length:=by first|exact wy hk (by omega) (by simpa using h)|exact PY hk (by omega)
  exact ak (ae (ae ah)) (JU (fU le_rfl (by rw [LD];exact le_ro))) hK
theorem KO {l:List Int} (hl:l.length≤1000000000) (hK:∀ tk,K (.ret (.tup [SL (some tk) (gx l).1,I (gx l).2])) (.tip tk::σ)):ACallF κ Tryz.prog 27 [SI o l] σ K:=by
 refine ACallF.weak ResW.void ?_
 refine ACallF.dropL (aa Tryz.func27 rfl ?_)
 simp only [Tryz.ntmps27]
 repeat' (first|simp only [WL,WM,Nat.reduceAdd,Nat.reduceSub])
 refine bH (fun k:Nat=>⟨(SI o l::.any::.any::.any::nilS::I 0::I k::.any::.any::.any::.any::.any::.any::.any::.any::.any::.any::.any::.any::.any::.any::.any::.any::.any::.any::.any::.any::.any::.any::.any::.any::.any::.any::.any::.any::.any::.any::.any::.any::.any::.any::.any::.any::.any::.any::.any::.any::.any::.any::.any::.any::.any::.any::.any::.any::.any::.any::.any::.any::.any::.any::.any::.any::.any::.any::.any::.any::.any::.any::.any::.any::.any::.any::.any::.any::.any::.any::.any::.any::.any::.any::.any::.any::.any::.any::.any::.any::.any::.any::[]),.tip none::σ,true,[]⟩) (fun k=>k≤l.length∧∀ j,j < k→oz (l.getD j 0)=true) (fun k=>l.length - k) 0 (ao bz id) ⟨Nat.zero_le _,fun j h=>by omega⟩ ?_
 rintro k ⟨hk,hb⟩
 repeat' (first|simp only [WL,aD,WM,reduceCtorEq,ba,Nat.reduceAdd,Bool.not_false,true_and,reduceIte,Bool.false_eq_true,T3,bX,RF,Tryz.results27]|simp (disch:=first|omega|(simp only [aT];omega)) only [aq,aV]|(with_reducible first|refine aC (hb:=?_)|refine cD (Ns ?_))|((with_reducible first|refine ai (fun h=>?_) (fun h=>?_)|refine ab (fun h=>?_) (fun h=>?_))<;>(try simp only [h])<;>(try simp only [bg,bm] at h)))
 ·have hK0:=hK none
  rw [uZ (k:=k) (by omega) (zc (by first|exact .inl (by assumption)|exact .inr (by assumption)))] at hK0
  exact ak ah (jo (fU (.inr (.inr (.inr ⟨2,_,rfl,by decide,rfl⟩))) le_rfl)) hK0
 ·refine ⟨k+1,ao bz id,⟨by omega,fun j h=>?_⟩,by omega⟩
  rcases Nat.lt_succ_iff_lt_or_eq.1 h with h|rfl
  ·exact hb j h
  ·exact uX (by assumption) (by assumption)
 ·have hK0:=hK none
  rw [uZ (k:=k) (by omega) (zc (by first|exact .inl (by assumption)|exact .inr (by assumption)))] at hK0
  exact ak ah (jo (fU (.inr (.inr (.inr ⟨2,_,rfl,by decide,rfl⟩))) le_rfl)) hK0
 ·have hR:=Gm (fun j h=>hb j (by omega))
  clear hb hk h
  refine bH (fun x:Nat × Nat × List (List Int) × Option (Nat × Nat)=>⟨(SI o l::.any::.any::.any::SL (some x.2.2.2) (x.2.2.1.map lineOf)::I x.1::.any::I x.2.1::.any::.any::.any::.any::.any::.any::.any::.any::.any::.any::.any::.any::.any::.any::.any::.any::.any::.any::.any::.any::.any::.any::.any::.any::.any::.any::.any::.any::.any::.any::.any::.any::.any::.any::.any::.any::.any::.any::.any::.any::.any::.any::.any::.any::.any::.any::.any::.any::.any::.any::.any::.any::.any::.any::.any::.any::.any::.any::.any::.any::.any::.any::.any::.any::.any::.any::.any::.any::.any::.any::.any::.any::.any::.any::.any::.any::.any::.any::.any::.any::.any::[]),.tip x.2.2.2::σ,true,[]⟩)
   (fun x=>x.1≤x.2.1∧x.2.1≤l.length∧x.2.2.1.length≤x.1∧tx [] l=x.2.2.1++tx ((l.take x.2.1).drop x.1) (l.drop x.2.1)) (fun x=>l.length - x.2.1) (0,0,[],none) (aL bz (ResW.refl _) id) ⟨Nat.le_refl _,Nat.zero_le _,Nat.le_refl _,by simp⟩ ?_
  rintro ⟨fr,k,dn,tk⟩ ⟨h1,h2,h4,h3⟩
  dsimp only at h1 h2 h3 h4 ⊢
  repeat' (first|simp only [WL,aD,WM,reduceCtorEq,ba,Nat.reduceAdd,Bool.not_true,true_and,reduceIte,Bool.false_eq_true,T3,bX,RU,Tryz.results27]|simp (disch:=first|omega|(simp only [aT];omega)) only [aq,aV]|(with_reducible first|refine aC (hb:=?_)|refine cq (hlen:=?_) (hmax:=?_) (hK:=fun tk=>?_)|refine cF (hK:=?_)|refine cD (S8 ?_ ?_))|((with_reducible first|refine ai (fun h=>?_) (fun h=>?_)|refine ab (fun h=>?_) (fun h=>?_))<;>(try simp only [h])<;>(try simp only [bg,bm] at h))|omega|(simp only [aT];omega)|(refine bq ?_;(first|omega|(simp only [aT];omega))))
  ·exact ⟨(fr,k+1,dn,tk),ao bz id,⟨by dsimp only;omega,by dsimp only;omega,h4,by rw [h3,AJ (by omega) (by omega) (OW (by assumption) (by assumption))]⟩,by dsimp only;omega⟩
  ·rw [Oh] at h
   exact ⟨(k+2,k+2,dn++[(l.take k).drop fr],tk),aL (by simp only [List.map_append,List.map_cons,List.map_nil];exact bz) (ResW.refl _) id,⟨Nat.le_refl _,by dsimp only;omega,by simp;omega,by rw [h3,zG (by omega) (by assumption) h];simp [f8]⟩,by dsimp only;omega⟩
  ·rw [Oh] at h
   exact ⟨(k+1,k+1,dn++[(l.take k).drop fr],tk),aL (by simp only [List.map_append,List.map_cons,List.map_nil];exact bz) (ResW.refl _) id,⟨Nat.le_refl _,by dsimp only;omega,by simp;omega,by rw [h3,pd (by omega) (vM (by first|exact .inl (by assumption)|exact .inr (by assumption))) (fun hh=>by omega)];simp [f8]⟩,by dsimp only;omega⟩
  ·exact ⟨(k+1,k+1,dn++[(l.take k).drop fr],tk),aL (by simp only [List.map_append,List.map_cons,List.map_nil];exact bz) (ResW.refl _) id,⟨Nat.le_refl _,by dsimp only;omega,by simp;omega,by rw [h3,pd (by omega) (vM (by first|exact .inl (by assumption)|exact .inr (by assumption))) (fun hh=>by omega)];simp [f8]⟩,by dsimp only;omega⟩
  ·exact ⟨(k+1,k+1,dn++[(l.take k).drop fr],tk),aL (by simp only [List.map_append,List.map_cons,List.map_nil];exact bz) (ResW.refl _) id,⟨Nat.le_refl _,by dsimp only;omega,by simp;omega,by rw [h3,pd (by omega) (vM (by first|exact .inl (by assumption)|exact .inr (by assumption))) (fun hh=>by omega)];simp [f8]⟩,by dsimp only;omega⟩
  ·rw [uO (by omega),if_pos (by omega)] at h3
   exact ak ah (jo (fU (by rw [hR];dsimp only;rw [lR,h3];simp only [SL,List.map_append,List.map_cons,List.map_nil];exact le_rfl) (by rw [hR];exact le_rfl))) (hK _)
  ·rw [uO (by omega),if_neg (by omega)] at h3
   exact ak ah (jo (fU (by rw [hR];dsimp only;rw [lR,h3];simp only [List.append_nil];exact le_rfl) (by rw [hR];exact le_rfl))) (hK _)
theorem NS {l:List Int} (hl:l.length≤1000000000) (hK:K (.ret (.tup [SL none (gx l).1,I (gx l).2])) σ):ACallF κ Tryz.prog 27 [SI o l] σ K :=
 ACallF.dropL (KO hl (fun _=>ak (ae ah) (jo (fU le_ro le_rfl)) hK))
def Asc (b:List Int):Prop:=b.length≤100000∧∀ c∈b,1≤c∧c≤127
theorem Asc.at_ {b:List Int} (h:Asc b) {k:Nat} (hk:k < b.length):1≤b.getD k 0∧b.getD k 0≤127 :=
 h.2 _ (by rw [List.getD_eq_getElem?_getD,List.getElem?_eq_getElem hk];exact List.getElem_mem hk)
theorem Asc.drop {b:List Int} (h:Asc b) (k:Nat):Asc (b.drop k):=⟨by have:=h.1;rw [List.length_drop];omega,fun c hc=>h.2 c (List.mem_of_mem_drop hc)⟩
theorem iQ {b l:List Int} (hb:Asc b) (hl:0 < l.length) (h0:l.getD 0 0=0∨127 < l.getD 0 0∧l.getD 0 0≤255) (hK:K (.ret (B false)) σ):ACallF κ Tryz.prog 53 [SU o b,SU o' l] σ K:=by
 have hbl:=hb.1
 have hb0:=fun h=>hb.at_ (k:=0) h
 by_cases hs:b.length < l.length
 ·skip
  refine ACallF.dropL (aa Tryz.func53 rfl ?_)
  simp only [Tryz.ntmps53]
  repeat' (first|simp only [WL,aD,WM,reduceCtorEq,ba,Nat.reduceAdd,Nat.reduceSub,true_and,BC,Tryz.results53]|((with_reducible first|refine ai (fun h=>?_) (fun h=>?_)|refine ab (fun h=>?_) (fun h=>?_))<;>(try simp only [h])<;>(try simp only [bg,bm] at h))|omega)
  all_goals first
   | exact ak ah (aj rfl) hK
 ·skip
  refine ACallF.dropL (aa Tryz.func53 rfl ?_)
  simp only [Tryz.ntmps53]
  repeat' (first|simp only [WL,aD,WM,reduceCtorEq,ba,Nat.reduceAdd,Nat.reduceSub,true_and,BC,Tryz.results53]|((with_reducible first|refine ai (fun h=>?_) (fun h=>?_)|refine ab (fun h=>?_) (fun h=>?_))<;>(try simp only [h])<;>(try simp only [bg,bm] at h))|omega)
  refine bH (fun _:Unit=>⟨(SU o b::SU o' l::.any::.any::.any::I 0::.any::.any::.any::.any::.any::.any::.any::.any::.any::.any::.any::.any::.any::.any::.any::.any::.any::.any::.any::.any::[]),σ,true,[]⟩) (fun _=>True) (fun _=>0) () (ao bz id) trivial ?_
  intro _ _
  have hb0:=hb0 (by omega)
  have hl8:0≤l.getD 0 0∧l.getD 0 0≤255:=by omega
  have hne:(b.getD 0 0 == l.getD 0 0)=false:=beq_eq_false_iff_ne.2 (by omega)
  have hne2:(b.getD 0 0 != l.getD 0 0)=true:=by unfold bne;rw [hne];rfl
  repeat' (first|simp only [WL,aD,WM,Int.reduceToNat,reduceCtorEq,ba,Nat.reduceAdd,Nat.reduceLT,true_and,T5,BC,Tryz.results53,hne2]|simp (disch:=first|omega|(simp only [aT];omega)) only [D3]|with_reducible refine aC (hb:=?_)|((with_reducible refine aH (id:=6) 9 mixed ?_ ?_);kernel_rfl)|(with_reducible refine bP ?_)|((with_reducible first|refine ai (fun h=>?_) (fun h=>?_)|refine ab (fun h=>?_) (fun h=>?_))<;>(try simp only [h])<;>(try simp only [bg,bm] at h))|omega)
  all_goals first
   | exact ak ah (aj rfl) hK
   | (exfalso;omega)
theorem ET {b:List Int} (hb:Asc b) (h0:0 < b.length) (hK:K (.ret (.tup [I (b.getD 0 0),I 1])) σ):ACallF κ Tryz.prog 54 [SU o b] σ K:=by
 have hbl:=hb.1
 have a0:=hb.at_ h0
 have hlt:b.getD 0 0 < 128:=by omega
 refine ACallF.dropL (aa Tryz.func54 rfl ?_)
 simp only [Tryz.ntmps54]
 repeat' (first|simp only [WL,aD,WM,Int.reduceToNat,reduceCtorEq,ba,Nat.reduceAdd,Nat.reduceSub,true_and,T5,BC,cI K6,Tryz.results54,decide_eq_true hlt]|simp (disch:=first|omega|(simp only [aT];omega)) only [aq,D3]|with_reducible refine aC (hb:=?_))
 all_goals first
  | exact ak ah (aj rfl) hK
  | (exfalso;omega)
theorem M8 {b:List Int} (hb:Asc b) (hK:K (.ret (.tup [SI none b,B true])) σ):ACallF κ Tryz.prog 37 [SU o b] σ K:=by
 have hbl:=hb.1
 refine ACallF.dropL (aa Tryz.func37 rfl ?_)
 simp only [Tryz.ntmps37]
 repeat' (first|simp only [WL,WM,Nat.reduceAdd,Nat.reduceSub])
 refine bH (fun z:Nat × Option (Nat × Nat)=>⟨(SU o b::.any::.any::.any::SI (some z.2) (b.take z.1)::I z.1::.any::.any::.any::.any::.any::.any::.any::.any::.any::.any::.any::.any::.any::.any::.any::.any::.any::.any::.any::.any::.any::.any::.any::[]),.tip z.2::σ,true,[]⟩) (fun z=>z.1≤b.length) (fun z=>b.length - z.1) (0,none) (aL bz ResW.void id) (Nat.zero_le _) ?_
 rintro ⟨k,tk⟩ hk
 dsimp only at hk ⊢
 rcases Nat.lt_or_ge k b.length with hi|hi
 ·have hd:(b.drop k).getD 0 0=b.getD k 0:=by rw [kg,Nat.add_zero]
  have hdl:0 < (b.drop k).length:=by rw [List.length_drop];omega
  have hnx:List.map I (b.take k)++[I (b.getD k 0)]=List.map I (b.take (k+1)):=by
   rw [List.take_succ_eq_append_getElem hi,List.map_append,List.getD_eq_getElem?_getD,List.getElem?_eq_getElem hi]
   rfl
  repeat' (first|simp only [WL,aD,WM,reduceCtorEq,ba,Nat.reduceAdd,Nat.reduceLT,true_and,T5,BC,MY,Tryz.results37,hd,hnx]|simp (disch:=first|omega|(simp only [aT];omega)) only [aq]|(with_reducible first|refine aC (hb:=?_)|refine cq (hlen:=?_) (hmax:=?_) (hK:=fun tk=>?_)|refine cF (hK:=?_)|refine cD (ET (b:=b.drop k) (hb.drop k) hdl ?_))|((with_reducible first|refine ai (fun h=>?_) (fun h=>?_)|refine ab (fun h=>?_) (fun h=>?_))<;>(try simp only [h])<;>(try simp only [bg,bm] at h))|omega|(simp only [aT];omega)|(refine bq ?_;(first|omega|(simp only [aT];omega))))
  exact ⟨(k+1,tk),aL bz (ResW.refl _) id,by dsimp only;omega,by dsimp only;omega⟩
 ·skip
  repeat' (first|simp only [WL,aD,WM,reduceCtorEq,ba,Nat.reduceAdd,Nat.reduceLT,true_and,T5,BC,MY,Tryz.results37]|simp (disch:=first|omega|(simp only [aT];omega)) only [aq]|(with_reducible first|refine aC (hb:=?_)|refine cq (hlen:=?_) (hmax:=?_) (hK:=fun tk=>?_)|refine cF (hK:=?_)|refine cD (ET ?_ ?_ ?_))|((with_reducible first|refine ai (fun h=>?_) (fun h=>?_)|refine ab (fun h=>?_) (fun h=>?_))<;>(try simp only [h])<;>(try simp only [bg,bm] at h))|omega)
  exact ak (ae ah) (jo (fU (by rw [List.take_of_length_le hi];exact le_ro) le_rfl)) hK
end Go.Proofs.YthkabaiamcjdbaaGreat
