/-
  Texts Kv, Kw, Rd, Li, Lb, Ic, one behind the other.
-/
import Derived.Test.YthkabaiamcjdbaaGreatG25
import Derived.Test.YthkabaiamcjdbaaGreatG26
set_option linter.unusedVariables false
set_option linter.unusedSimpArgs false
set_option maxHeartbeats 16000000
/-
 Walks: chapter 14,nodes in each other,and a document's node.
-/

namespace Go.Proofs.YthkabaiamcjdbaaGreat
open Go.Abs
variable {κ:Ctx} {σ:List Res} {K:Ret→List Res→Prop} {o o':Option (Option (Nat × Nat))}
abbrev levW (ls:List Ln) (f k:Nat):NdP:=fun i c n pair lead t=>levP ls f k n pair i c lead t
theorem levW_good {ls:List Ln} (hs:Small ls) {f k:Nat} (hf:f < 200):GoodL ls 9000000 (sub1 (levW ls f k)):=fun i c n b hi=>(lev_ok hs f k n b i c (!b) tp0 hi).mono (by unfold BP;omega)
theorem zLev {pr br:Nat}{ls:List Ln} (hs:Small ls):∀ f k:Nat,k+f=200→NodeCP κ pr br ls (levW ls f k) f k
 | 0,k,hkf=>by
  obtain rfl:k=200:=by omega
  rename_i x y op l τ σ0 i c n pair lead t K
  intro hk hJ hb hi hc hn ht hr h1 h2
  refine zNode0 (S:=fun _ _ _ _=>.error 8) (M:=fun _ _ _=>.error 8) (f:=0) (k:=200) ?_ ?_ hk (by omega) hJ hb hs hi hc hn ht hr h1 h2
  ·intro x y op l τ σ0 i c pair t K hk hJ hb hi hc hr h1 h2
   refine zSeq0 (f:=0) (k:=200) (N:=levW ls 0 0) (fun h=>absurd h (by omega)) ((fun i c n b hi=>(lev_ok hs 0 _ n b i c (!b) tp0 hi).mono (by decide))) hk (by omega) hJ hb hs hi hc (by unfold RmP at hr;omega) (fun h=>absurd h (by omega)) (fun ev i2 h=>absurd h (by omega)) (fun e h x' y' op' l' τ' hJ'=>?_)
   rcases h with ⟨-,rfl⟩|⟨h,-⟩
   ·exact h2 8 rfl _ _ _ _ _ hJ'
   ·omega
  ·intro x y op l τ σ0 i c t K hk hJ hb hi hc hr h1 h2
   refine zMap0 (f:=0) (k:=200) (N:=levW ls 0 0) (fun h=>absurd h (by omega)) (levW_good hs (by omega)) hk (by omega) hJ hb hs hi hc (by unfold RmP at hr;omega) (fun h=>absurd h (by omega)) (fun ev i2 h=>absurd h (by omega)) (fun e h x' y' op' l' τ' hJ'=>?_)
   rcases h with ⟨-,rfl⟩|⟨h,-⟩
   ·exact h2 8 rfl _ _ _ _ _ hJ'
   ·omega
 | f+1,k,hkf=>by
  have ih:NodeCP κ pr br ls (levW ls f (k+1)) f (k+1):=zLev (pr:=pr) (br:=br) hs f (k+1) (by omega)
  have hG:=levW_good hs (f:=f) (k:=k+1) (by omega)
  have e1:(((k+1:Nat)):Int)=(k:Int)+1:=by omega
  rename_i x y op l τ σ0 i c n pair lead t K
  intro hk hJ hb hi hc hn ht hr h1 h2
  have e2:levW ls (f+1) k i c n pair lead t=nodeP ls (seqP ls (sub1 (levW ls f (k+1)))) (mapP ls (sub1 (levW ls f (k+1))) ((k:Int)+1)) k n pair (2 * ls.length+2) i c lead t:=by
   show levP ls (f+1) k n pair i c lead t=_
   rw [levP]
   unfold sub1 levW
   rw [e1]
  rw [e2] at h1 h2
  refine zNode0 (f:=f+1) (k:=k) ?_ ?_ hk (by omega) hJ hb hs hi hc hn ht hr h1 h2
  ·intro x y op l τ σ0 i c pair t K hk hJ hb hi hc hr h1 h2
   refine zSeq0 (f:=f) (k:=k) (fun _=>ih) (fun i c n b hi=>(hG i c n b hi).mono (by decide)) hk (by omega) hJ hb hs hi hc (by unfold RmP at hr;omega) (fun _=>hr) (fun ev i2 _=>h1 ev i2) (fun e h x' y' op' l' τ' hJ'=>?_)
   rcases h with ⟨h,-⟩|⟨-,h⟩
   ·omega
   ·exact h2 e h _ _ _ _ _ hJ'
  ·intro x y op l τ σ0 i c t K hk hJ hb hi hc hr h1 h2
   refine zMap0 (f:=f) (k:=k) (fun _=>ih) hG hk (by omega) hJ hb hs hi hc (by unfold RmP at hr;omega) (fun _=>hr) (fun ev i2 _=>h1 ev i2) (fun e h x' y' op' l' τ' hJ'=>?_)
   rcases h with ⟨h,-⟩|⟨-,h⟩
   ·omega
   ·exact h2 e h _ _ _ _ _ hJ'
theorem zDoc0 {pr br:Nat}{ls:List Ln}{i c:Int}{τ:List Res} (hb:Res.obj br [SL none ls]∈τ) (hs:Small ls) (hi:0≤i∧i < ls.length) (hc:0≤c∧c≤5000)
  (h1:∀ ev k,docP ls i c=.ok (ev,k)→∀ x' y' τ',JX x' y' [] ev τ' τ→K (.ret (I k)) (.obj pr (RC ls br x' y')::τ'))
  (h2:∀ e,docP ls i c=.error e→∀ x' y' op' l' τ',JX x' y' op' l' τ' τ→K (.pan (wrongP e)) (.obj pr (RC ls br x' y')::τ')):ACallF κ Tryz.prog 35 [JP pr,I i,I c] (.obj pr (RC ls br nilS nilS)::τ) K:=by
 have hl:=hs.1
 have hJ:JX nilS nilS [] [] τ τ:=⟨[],[],RowR.nil,RowR.nil,List.Perm.refl _⟩
 have hN:NodeCP κ pr br ls (levW ls 200 0) 200 0:=zLev hs 200 0 rfl
 have hr:RmP ls 200 [] i:=by show 0+10000000 * ((ls.length:Int) - i).toNat+40002 * 200≤100000000000;omega
 unfold docP at h1 h2
 have hc0:(c == 0)=decide (c=0):=rfl
 cases hn:levP ls 200 0 (-1) false i c (decide (c=0)) tp0 with
 | error e =>
  rw [hn] at h2
  have hn:levW ls 200 0 i c (-1) false (decide (c=0)) tp0=.error e:=hn
  refine ACallF.dropL (ACallF_intro Tryz.func35 rfl ?_)
  simp only [Tryz.ntmps35]
  repeat' (first|simp only [WL,intF,WM,reduceCtorEq,WLb,Nat.reduceAdd,Nat.reduceSub,true_and,cok50,hc0]|(with_reducible first|refine y_build (hK:=?_)|refine callD_mk (zNodeEr hN hn rfl hJ hb hi hc (by omega) tp0_s hr (fun x' y' op' l' τ' hJ'=>?_))))
  exact leafP sub_rfl rfl (h2 e rfl _ _ _ _ _ hJ')
 | ok r =>
  obtain ⟨ev,i2⟩:=r
  obtain ⟨a1,a2,a3⟩:=lev_ok hs _ _ _ _ _ _ _ _ hi _ _ hn
  have hi2:0≤i2∧i2≤ls.length:=⟨by omega,a2⟩
  rw [hn] at h1 h2
  dsimp only at h1 h2
  have hn:levW ls 200 0 i c (-1) false (decide (c=0)) tp0=.ok (ev,i2):=hn
  cases hx:nextP ls i2 with
  | error e =>
   rw [hx] at h2
   refine ACallF.dropL (ACallF_intro Tryz.func35 rfl ?_)
   simp only [Tryz.ntmps35]
   repeat' (first|simp only [WL,intF,WM,reduceCtorEq,WLb,Nat.reduceAdd,Nat.reduceSub,true_and,cok50,cok51,hc0]|(with_reducible first|refine y_build (hK:=?_)|refine callD_mk (zNodeOk hN hn rfl hJ hb hi hc (by omega) tp0_s hr (fun x' y' τ' hJ'=>?_))|refine callD_mk (zNextEr hx hs hi2 ?_)))
   exact leafP sub_rfl rfl (h2 e rfl _ _ _ _ _ hJ')
  | ok r =>
   obtain ⟨k',ok⟩:=r
   obtain ⟨b1,b2,b3⟩:=next_ok hi2.2 hx
   rw [hx] at h1 h2
   dsimp only at h1 h2
   cases ok
   ·rw [if_pos rfl] at h1
    refine ACallF.dropL (ACallF_intro Tryz.func35 rfl ?_)
    simp only [Tryz.ntmps35]
    repeat' (first|simp only [WL,intF,WM,reduceCtorEq,WLb,Nat.reduceAdd,Nat.reduceSub,Nat.reduceLT,Bool.not_false,true_and,cok50,cok51,Tryz.results35,hc0]|(with_reducible first|refine y_build (hK:=?_)|refine callD_mk (zNodeOk hN hn rfl hJ hb hi hc (by omega) tp0_s hr (fun x' y' τ' hJ'=>?_))|refine callD_mk (zNextOk hx hs hi2 ?_)))
    exact leafL sub_rfl (leT_eq rfl) (h1 _ _ rfl _ _ _ hJ')
   ·have b3:=b3 rfl
    rw [if_neg (by decide)] at h2
    have ha:=hs.at_ (i:=k'.toNat) (by omega)
    dsimp only [lineP] at h2
    refine ACallF.dropL (ACallF_intro Tryz.func35 rfl ?_)
    simp only [Tryz.ntmps35]
    repeat' (first|simp only [WL,intF,WM,reduceCtorEq,WLb,Nat.reduceAdd,Nat.reduceSub,Nat.reduceLT,Nat.reduceLeDiff,Nat.reduceEqDiff,Bool.not_true,true_and,T3,T31,T51,fC fl51_0,fR fl58_0,cok50,cok51,cok52,hc0]|simp (disch:=first|omega|(simp only [LN_];omega)) only [getL]|(with_reducible first|refine andA (hb:=?_)|refine y_load (hK:=?_)|refine y_build (hK:=?_)|refine callD_mk (zNodeOk hN hn rfl hJ hb hi hc (by omega) tp0_s hr (fun x' y' τ' hJ'=>?_))|refine callD_mk (zNextOk hx hs hi2 ?_)|refine callD_mk (zFail ?_))|((with_reducible first|refine grd_cases (fun h=>?_) (fun h=>?_)|refine condC_split (fun h=>?_) (fun h=>?_))<;>(try simp only [h])<;>(try simp only [NR_,NRb] at h)))
    all_goals first
     | exact leafP sub_rfl rfl (h2 7 (by rw [if_pos (by assumption)]) _ _ _ _ _ hJ')
     | exact leafP sub_rfl rfl (h2 2 (by rw [if_neg (by omega)]) _ _ _ _ _ hJ')
theorem zDocOk {pr br:Nat}{ls:List Ln}{i c k:Int}{ev:List EvV}{ρ τ:List Res} [hS:Split σ pr ρ (RC ls br nilS nilS) τ] (hw:docP ls i c=.ok (ev,k)) (hb:Res.obj br [SL none ls]∈τ) (hs:Small ls) (hi:0≤i∧i < ls.length) (hc:0≤c∧c≤5000)
  (h1:∀ x' y' τ',JX x' y' [] ev τ' τ→K (.ret (I k)) (ρ ++ .obj pr (RC ls br x' y')::τ')):ACallF κ Tryz.prog 35 [JP pr,I i,I c] σ K :=
 ACallF.at_ (b:=pr) (zDoc0 hb hs hi hc (fun ev' k' h=>by rw [hw] at h;cases h;exact h1) (fun e h=>by rw [hw] at h;cases h))
theorem zDocEr {pr br:Nat}{ls:List Ln}{i c e:Int}{ρ τ:List Res} [hS:Split σ pr ρ (RC ls br nilS nilS) τ] (hw:docP ls i c=.error e) (hb:Res.obj br [SL none ls]∈τ) (hs:Small ls) (hi:0≤i∧i < ls.length) (hc:0≤c∧c≤5000)
  (h2:∀ x' y' op' l' τ',JX x' y' op' l' τ' τ→K (.pan (wrongP e)) (ρ ++ .obj pr (RC ls br x' y')::τ')):ACallF κ Tryz.prog 35 [JP pr,I i,I c] σ K :=
 ACallF.at_ (b:=pr) (zDoc0 hb hs hi hc (fun ev' k' h=>by rw [hw] at h;cases h) (fun e' h=>by rw [hw] at h;cases h;exact h2))
theorem zRec0 {b4 b5:Nat}{KD:FrameMode→List Res→Prop} (hK:KD .returning σ):ACallD κ Tryz.prog 34 [.raw (PT b4),.raw (PT b5)] σ .returning KD:=by
 refine ACallD_intro Tryz.func34 rfl ?_ (by simp [Tryz.ntmps34])
 simp only [Tryz.ntmps34]
 repeat' (first|with_reducible refine cut_at (id:=1) ?_|simp only [WL,WM,Nat.reduceAdd,Nat.reduceSub])
 refine AW_seqA (AW_nilcmp (l:=[_]) false Tryz.underlying20 ?_)
 repeat' (first|simp only [WL,WM,and_true,Bool.false_eq_true,nilQ_n])
 refine ⟨⟨.nilIface,rfl,.inl rfl⟩, ?_⟩
 repeat' (first|with_reducible refine AW_runCond ?_|simp only [WL,WM])
 exact ⟨rfl,rfl,rfl,hK⟩
abbrev panP (e:Int):FrameMode:=.panicking (wrongP e)
theorem zRec1 {b4 b5:Nat}{e:Int}{KD:FrameMode→List Res→Prop} (hK:∀ b,KD (recM (panP e)) (.obj b [I e]::.obj b5 [I e]::.obj b4 [I 0]::σ)):ACallD κ Tryz.prog 34 [.raw (PT b4),.raw (PT b5)] (.obj b5 [I 0]::.obj b4 [I 0]::σ) (panP e) KD:=by
 refine ACallD_intro Tryz.func34 rfl ?_ (by simp [Tryz.ntmps34])
 simp only [Tryz.ntmps34,show recV (panP e)=.iface 79 (.agg #[.int .i64 e]) from rfl]
 repeat' (first|with_reducible refine cut_at (id:=1) ?_|simp only [WL,WM,Nat.reduceAdd,Nat.reduceSub])
 refine AW_seqA (AW_nilcmp (l:=[_]) true Tryz.underlying20 ?_)
 repeat' (first|simp only [WL,WM,reduceCtorEq,and_true,nilQ_n]|with_reducible refine andA (hb:=?_))
 repeat' (first|( with_reducible refine y_assert1 ?_)|with_reducible refine AW_runCond ?_|simp only [WL,WM,Nat.reduceAdd,Nat.reduceLT,Nat.reduceEqDiff,Bool.not_true,true_and,T28,fR fl79_0]|(with_reducible first|refine andA (hb:=?_)|refine y_load (hK:=?_)|refine y_store (hK:=?_)|refine y_storeA (hK:=?_)|refine y_new (hK:=fun b=>?_))|((with_reducible refine AW_phS1 (id:=5) [0,1] (some 2) [([],some 3),([],none)] mixed ?_ ?_);kernel_rfl)|((with_reducible apply phE_intro);intro σq hq;have hqi:=has_of hq;clear hq)|(with_reducible exact isT_mk)|((with_reducible apply phC_ops);rfl;rfl)|(with_reducible refine phQ_mk (has1 (by first|(simp;done)|fail)) ?_))
 exact ⟨rfl,rfl,rfl,hK _⟩
theorem zRun0 {pr br:Nat}{ls:List Ln}{i c:Int}{τ:List Res} (hb:Res.obj br [SL none ls]∈τ) (hs:Small ls) (hi:0≤i∧i < ls.length) (hc:0≤c∧c≤5000)
  (h1:∀ ev k,docP ls i c=.ok (ev,k)→∀ x' y' τ',JX x' y' [] ev τ' τ→K (.ret (.tup [I k,I 0])) (.obj pr (RC ls br x' y')::τ'))
  (h2:∀ e,docP ls i c=.error e→K (.ret (.tup [I 0,I e])) τ):ACallF κ Tryz.prog 25 [JP pr,I i,I c] (.obj pr (RC ls br nilS nilS)::τ) K:=by
 refine ACallF.dropL (ACallF_introD (cap:=fun _=>True) (fd:=34) Tryz.func25 rfl cok34 ?_)
 simp only [Tryz.ntmps25]
 repeat' (first|(with_reducible first|refine cut_at (id:=1) ?_|refine AW_seq ?_)|simp only [WL,WM,Nat.reduceAdd,Nat.reduceSub]|with_reducible refine y_new (hK:=fun b=>?_))
 rename_i b4
 refine midA (fun _:Unit=>⟨(JP pr::I i::I c::.any::.any::.any::JP b4::JP b::.any::.any::.any::.any::.any::[]),.obj b [I 0]::.obj b4 [I 0]::.obj pr (RC ls br nilS nilS)::τ,true,[dcl 34 [.pointer (some ⟨b4,0,none⟩),.pointer (some ⟨b,0,none⟩)]]⟩) (fun _=>True) ?_ ?_
 ·refine AW_defer (l:=[_]) 34 [.pointer (some ⟨b4,0,none⟩),.pointer (some ⟨b,0,none⟩)] ?_
  repeat' (first|simp only [WL,WM,true_and,and_true,deferQ_n])
  exact ⟨(),St_le_same leA id⟩
 ·intro _ _
  cases hw:docP ls i c with
  | error e =>
   repeat' (first|with_reducible refine AW_seq ?_|simp only [WL,WM,true_and,cok35]|with_reducible refine callD_mk (zDocEr hw hb hs hi hc (fun x' y' op' l' τ' hJ'=>?_)))
   refine ⟨[.pointer (some ⟨b4,0,none⟩),.pointer (some ⟨b,0,none⟩)],rfl,rfl,zRec1 (fun bx=>⟨rfl, ?_⟩)⟩
   rw [resK_eq]
   repeat' (first|simp only [WM,Tryz.results25]|((with_reducible refine resL_id ?_);apply res_cc (hf:=Tryz.results25);exact y_load1;exact y_load1))
   exact leafL (sub_cons (sub_cons (sub_cons (sub_cons hJ'.sub)))) (leT_eq rfl) (h2 _ hw)
  | ok r =>
   obtain ⟨ev,k⟩:=r
   repeat' (first|(with_reducible first|refine AW_seq ?_|refine AW_runRet ?_)|simp only [WL,WM,Nat.reduceAdd,true_and,cok35]|(with_reducible first|refine y_store (hK:=?_)|refine callD_mk (zDocOk hw hb hs hi hc (fun x' y' τ' hJ'=>?_))))
   refine ⟨[.pointer (some ⟨b4,0,none⟩),.pointer (some ⟨b,0,none⟩)],rfl,rfl,zRec0 ⟨rfl, ?_⟩⟩
   rw [resK_eq]
   repeat' (first|simp only [WM,Tryz.results25]|((with_reducible refine resL_id ?_);apply res_cc (hf:=Tryz.results25);exact y_load1;exact y_load1))
   exact leafL subA (leT_eq rfl) (h1 _ _ hw _ _ _ hJ')
theorem hd_mem {r:Res}{σ:List Res}:r∈r::σ:=by simp
abbrev PosP (r:PR):Prop:=∀ ev i2,r=.ok (ev,i2)→0 < ev.length
theorem leaf_pos {ls:List Ln}{i c n d:Int}{t:TP} (hs:Small ls) (hi:0≤i∧i < ls.length) (h0:0 < (restP ls i c).1.length):PosP (leafD ls i c n d t):=by
 intro ev i2 h
 have hP:=(restP_some (c:=c) hs hi).2.2.2 h0
 unfold leafD at h
 split at h
 ·unfold textP at h
  split at h
  ·cases h
  ·split at h
   ·cases h
   ·cases h;simp
 ·split at h
  ·cases h
  ·rename_i ev1 e1 t1 hw
   have hg:=(nodeF_good hs 200 0 (i,(restP ls i c).2) ev1 e1 t1 hP hw).2.2.2
   split at h
   ·cases h
   ·rename_i ev2 hset
    have hl:=setP_len hset
    unfold behP at h
    split at h
    ·cases h
    ·cases h;omega
theorem at_pos {ls:List Ln}{S:Int→Int→Bool→TP→PR}{M:Int→Int→TP→PR}{R:Int→Int→Bool→TP→PR}{d n i c:Int}{lead:Bool}{t:TP} (hs:Small ls) (hS:∀ i c b t,PosP (S i c b t)) (hM:∀ i c t,PosP (M i c t)) (hR:∀ (i c:Int) (b:Bool) (t:TP),0≤i∧i < ls.length→PosP (R i c b t)) (hi:0≤i∧i < ls.length):PosP (atP ls S M R d n i c lead t):=by
 intro ev i2 h
 unfold atP at h
 split at h
 ·split at h
  ·exact hS _ _ _ _ ev i2 h
  ·cases h
 ·split at h
  ·split at h
   ·exact hM _ _ _ ev i2 h
   ·cases h
  ·split at h
   ·cases h
   ·split at h
    ·cases h
    ·split at h
     ·rename_i h0;exact leaf_pos hs hi h0 ev i2 h
     ·exact hR _ _ _ _ hi ev i2 h
theorem node_pos {ls:List Ln}{S:Int→Int→Bool→TP→PR}{M:Int→Int→TP→PR}{d n:Int}{pair:Bool} (hs:Small ls) (hS:∀ i c b t,PosP (S i c b t)) (hM:∀ i c t,PosP (M i c t)):∀ (f:Nat) (i c:Int) (lead:Bool) (t:TP),0≤i∧i < ls.length→PosP (nodeP ls S M d n pair f i c lead t)
 | 0,i,c,lead,t,hi=>fun ev i2 h=>by cases h
 | f+1,i,c,lead,t,hi=>fun ev i2 h=>by
  have ih:=fun i c b t hi=>node_pos (d:=d) (n:=n) (pair:=pair) hs hS hM f i c b t hi
  rw [nodeP] at h
  split at h
  ·exact at_pos hs hS hM ih hi ev i2 h
  ·split at h
   ·cases h
   ·rename_i k ok hn
    obtain ⟨h1,h2,h3⟩:=next_ok (by omega) hn
    split at h
    ·cases h;simp
    ·rename_i hc
     have hok:ok=true:=by simpa using fun h=>hc (.inl h)
     split at h
     ·exact hS _ _ _ _ ev i2 h
     ·exact at_pos hs hS hM ih ⟨by omega,h3 hok⟩ ev i2 h
theorem lev_pos {ls:List Ln} (hs:Small ls):∀ (f:Nat) (d n:Int) (pair:Bool) (i c:Int) (lead:Bool) (t:TP),0≤i∧i < ls.length→PosP (levP ls f d n pair i c lead t)
 | 0,d,n,pair,i,c,lead,t,hi=>by
  rw [levP]
  exact node_pos hs (fun _ _ _ _ ev i2 h=>by cases h) (fun _ _ _ ev i2 h=>by cases h) _ _ _ _ _ hi
 | f+1,d,n,pair,i,c,lead,t,hi=>by
  rw [levP]
  refine node_pos hs (fun i c b t ev i2 h=>?_) (fun i c t ev i2 h=>?_) _ _ _ _ _ hi
  ·unfold seqP at h
   split at h
   ·cases h
   ·cases h;simp
  ·unfold mapP at h
   split at h
   ·cases h
   ·cases h;simp
theorem doc_pos {ls:List Ln}{i c:Int}{ev:List EvV}{k:Int} (hs:Small ls) (hi:0≤i∧i < ls.length) (h:docP ls i c=.ok (ev,k)):0 < ev.length:=by
 unfold docP at h
 split at h
 ·cases h
 ·rename_i ev1 k1 hl
  have:=lev_pos hs _ _ _ _ _ _ _ _ hi _ _ hl
  split at h
  ·cases h
  ·split at h
   ·cases h;exact this
   ·split at h<;>cases h
theorem zNodeOk0 {ls:List Ln}{i c k:Int}{ev:List EvV} (hw:docP ls i c=.ok (ev,k)) (hs:Small ls) (hi:0≤i∧i < ls.length) (hc:0≤c∧c - (lineP ls i).1≤(lineP ls i).2.length)
  (h1:∀ rb rc cs,ev.length≤rc→K (.ret (.tup [rowV rb 0 ev.length rc,I k,I 0])) (.obj rb (cellsL (ev.map EVA)++cs)::σ)):ACallF κ Tryz.prog 12 [SL none ls,I i,I c] σ K:=by
 have hl:=hs.1
 have h0:∀ x∈ls,0≤x.1:=fun x hx=>(hs.2 x hx).2.1
 have hx:=hs.at_ (i:=i.toNat) (by omega)
 have hpos:=doc_pos hs hi hw
 dsimp only [lineP] at hc
 have hc5:0≤c∧c≤5000:=by omega
 refine ACallF.dropL (ACallF_intro Tryz.func12 rfl ?_)
 simp only [Tryz.ntmps12]
 repeat' (first|simp only [WL,intF,WM,reduceCtorEq,WLb,Nat.reduceAdd,Nat.reduceSub,Nat.reduceLT,Nat.reduceLeDiff,Nat.reduceEqDiff,Bool.not_false,true_and,reduceIte,Bool.false_eq_true,T3,T22,T24,T31,T51,fC fl51_0,fC fl51_1,fR fl58_3,cok23,cok24,cok25,Tryz.results12]|simp (disch:=first|omega|(simp only [LN_];omega)) only [wrap_id,getL]|(with_reducible first|refine andA (hb:=?_)|refine y_load (hK:=?_)|refine y_box (hK:=fun b=>?_)|refine y_build (hK:=?_)|refine callD_mk (jShifted (ls:=ls) (by omega) h0 ?_)|refine callD_mk (jNew (ls:=ls) (by omega) h0 (fun br=>?_))|refine callD_mk (zRun0 hd_mem hs hi hc5 (fun ev' k' hd x' y' τ' hJ'=>?_) (fun e h=>by rw [hw] at h;cases h)))|((with_reducible refine AW_drawM (id:=2) 28 mixed ?_ ?_);kernel_rfl)|(with_reducible refine dmQ_mk ?_)|((with_reducible first|refine grd_cases (fun h=>?_) (fun h=>?_)|refine condC_split (fun h=>?_) (fun h=>?_))<;>(try simp only [h])<;>(try simp only [NR_,NRb] at h))|omega)
 all_goals first
  | (exfalso;omega)
  | exact absurd trivial (by assumption)
  | skip
 all_goals
  rw [hw] at hd
  cases hd
  obtain ⟨ρx,ρy,r1,r2,hpp⟩:=hJ'
  generalize hm:ev.map EVA=m at r2
  have hml:m.length=ev.length:=by rw [← hm,List.length_map]
  cases r2 with
  | nil=>exfalso;rw [List.length_nil] at hml;omega
  | @row rb rc cs _ k0 kn kc kt =>
  rw [hml] at kn kt ⊢
  have hcs:cs=cellsL m++cs.drop (ev.length * 6):=by rw [← kt,List.take_append_drop]
  have h2:=h1 rb rc (cs.drop (ev.length * 6)) kn
  rw [hm,← hcs] at h2
  exact leafL (sub_cons (sub_perm hpp.symm ⟨.obj rb cs::σ,List.Perm.refl _,((List.sublist_cons_self _ _).cons_cons _).trans (List.sublist_append_right _ _)⟩)) (leT_eq rfl) h2


theorem rline {l:List Int} (hl:l.length≤1000000000) (hK:K (.ret (LN (lineOf l))) σ):ACallF κ Tryz.prog 42 [SI o l] σ K:=by
 refine ACallF.dropL (ACallF_intro Tryz.func42 rfl ?_)
 simp only [Tryz.ntmps42]
 repeat' (first|simp only [WL,WM,Nat.reduceAdd,Nat.reduceSub]|with_reducible refine y_new (hK:=fun b=>?_))
 refine loop_by (fun k:Nat=>⟨(SI o l::.any::.raw (.pointer (some ⟨b,0,none⟩))::I k::.any::.any::.any::.any::.any::.any::.any::.any::.any::.any::.any::.any::.any::.any::.any::.any::.any::.any::.any::[]),.obj b [I 0,nilS]::σ,true,[]⟩) (fun k=>k≤(l.takeWhile (· == 32)).length) (fun k=>l.length - k) 0 (St_le_same leA id) (Nat.zero_le _) (fun k hk=>?_)
 have hk2:=(List.takeWhile_prefix (· == 32) (l:=l)).length_le
 repeat' (first|simp only [WL,intF,WM,reduceCtorEq,WLb,Nat.reduceAdd,Bool.not_true,true_and,reduceIte,Bool.false_eq_true,T3,T22,Tryz.results42]|simp (disch:=first|omega|(simp only [LN_];omega)) only [wrap_id,getI]|(with_reducible first|refine andA (hb:=?_)|refine y_storeA (hK:=?_)|refine y_appN ?_|refine y_app (hlen:=?_) (hmax:=?_) (hK:=fun tk=>?_)|refine y_build (hK:=?_))|((with_reducible refine resL_id ?_);apply res_c (hf:=Tryz.results42);exact y_load2)|((with_reducible first|refine grd_cases (fun h=>?_) (fun h=>?_)|refine condC_split (fun h=>?_) (fun h=>?_))<;>(try simp only [h])<;>(try simp only [NR_,NRb] at h))|(simp only [LN_];omega)|(refine maxLen_ok ?_;(first|omega|(simp only [LN_];omega))))
 ·exact ⟨k+1,St_le_same leA id,tw_step hk (by omega) (by simpa using h),by omega⟩
 all_goals
  obtain rfl:k=(l.takeWhile (· == 32)).length:=by first|exact tw_stop hk (by omega) (by simpa using h)|exact tw_end hk (by omega)
  exact leafL (sub_cons (sub_cons sub_rfl)) (leT_agg (leL_two le_rfl (by rw [tw_dw];exact le_ro))) hK
theorem rLinesO {l:List Int} (hl:l.length≤1000000000) (hK:∀ tk,K (.ret (.tup [SL (some tk) (readR l).1,I (readR l).2])) (.tip tk::σ)):ACallF κ Tryz.prog 27 [SI o l] σ K:=by
 refine ACallF.weak ResW.void ?_
 refine ACallF.dropL (ACallF_intro Tryz.func27 rfl ?_)
 simp only [Tryz.ntmps27]
 repeat' (first|simp only [WL,WM,Nat.reduceAdd,Nat.reduceSub])
 refine loop_by (fun k:Nat=>⟨(SI o l::.any::.any::.any::nilS::I 0::I k::.any::.any::.any::.any::.any::.any::.any::.any::.any::.any::.any::.any::.any::.any::.any::.any::.any::.any::.any::.any::.any::.any::.any::.any::.any::.any::.any::.any::.any::.any::.any::.any::.any::.any::.any::.any::.any::.any::.any::.any::.any::.any::.any::.any::.any::.any::.any::.any::.any::.any::.any::.any::.any::.any::.any::.any::.any::.any::.any::.any::.any::.any::.any::.any::.any::.any::.any::.any::.any::.any::.any::.any::.any::.any::.any::.any::.any::.any::.any::.any::.any::.any::[]),.tip none::σ,true,[]⟩) (fun k=>k≤l.length∧∀ j,j < k→goodC (l.getD j 0)=true) (fun k=>l.length - k) 0 (St_le_same leA id) ⟨Nat.zero_le _,fun j h=>by omega⟩ ?_
 rintro k ⟨hk,hb⟩
 repeat' (first|simp only [WL,intF,WM,reduceCtorEq,WLb,Nat.reduceAdd,Bool.not_false,true_and,reduceIte,Bool.false_eq_true,T3,T22,cok41,Tryz.results27]|simp (disch:=first|omega|(simp only [LN_];omega)) only [wrap_id,getI]|(with_reducible first|refine andA (hb:=?_)|refine cD (rPrint ?_))|((with_reducible first|refine grd_cases (fun h=>?_) (fun h=>?_)|refine condC_split (fun h=>?_) (fun h=>?_))<;>(try simp only [h])<;>(try simp only [NR_,NRb] at h)))
 ·have hK0:=hK none
  rw [readR_bad (k:=k) (by omega) (goodC_no (by first|exact .inl (by assumption)|exact .inr (by assumption)))] at hK0
  exact leafL sub_rfl (leT_tup (leL_two (.inr (.inr (.inr ⟨2,_,rfl,by decide,rfl⟩))) le_rfl)) hK0
 ·refine ⟨k+1,St_le_same leA id,⟨by omega,fun j h=>?_⟩,by omega⟩
  rcases Nat.lt_succ_iff_lt_or_eq.1 h with h|rfl
  ·exact hb j h
  ·exact goodC_yes (by assumption) (by assumption)
 ·have hK0:=hK none
  rw [readR_bad (k:=k) (by omega) (goodC_no (by first|exact .inl (by assumption)|exact .inr (by assumption)))] at hK0
  exact leafL sub_rfl (leT_tup (leL_two (.inr (.inr (.inr ⟨2,_,rfl,by decide,rfl⟩))) le_rfl)) hK0
 ·have hR:=readR_ok (fun j h=>hb j (by omega))
  clear hb hk h
  refine loop_by (fun x:Nat × Nat × List (List Int) × Option (Nat × Nat)=>⟨(SI o l::.any::.any::.any::SL (some x.2.2.2) (x.2.2.1.map lineOf)::I x.1::.any::I x.2.1::.any::.any::.any::.any::.any::.any::.any::.any::.any::.any::.any::.any::.any::.any::.any::.any::.any::.any::.any::.any::.any::.any::.any::.any::.any::.any::.any::.any::.any::.any::.any::.any::.any::.any::.any::.any::.any::.any::.any::.any::.any::.any::.any::.any::.any::.any::.any::.any::.any::.any::.any::.any::.any::.any::.any::.any::.any::.any::.any::.any::.any::.any::.any::.any::.any::.any::.any::.any::.any::.any::.any::.any::.any::.any::.any::.any::.any::.any::.any::.any::.any::[]),.tip x.2.2.2::σ,true,[]⟩)
   (fun x=>x.1≤x.2.1∧x.2.1≤l.length∧x.2.2.1.length≤x.1∧tx [] l=x.2.2.1++tx ((l.take x.2.1).drop x.1) (l.drop x.2.1)) (fun x=>l.length - x.2.1) (0,0,[],none) (St_leW leA (ResW.refl _) id) ⟨Nat.le_refl _,Nat.zero_le _,Nat.le_refl _,by simp⟩ ?_
  rintro ⟨fr,k,dn,tk⟩ ⟨h1,h2,h4,h3⟩
  dsimp only at h1 h2 h3 h4 ⊢
  repeat' (first|simp only [WL,intF,WM,reduceCtorEq,WLb,Nat.reduceAdd,Bool.not_true,true_and,reduceIte,Bool.false_eq_true,T3,T22,cok42,Tryz.results27]|simp (disch:=first|omega|(simp only [LN_];omega)) only [wrap_id,getI]|(with_reducible first|refine andA (hb:=?_)|refine y_app (hlen:=?_) (hmax:=?_) (hK:=fun tk=>?_)|refine y_bs (hK:=?_)|refine cD (rline ?_ ?_))|((with_reducible first|refine grd_cases (fun h=>?_) (fun h=>?_)|refine condC_split (fun h=>?_) (fun h=>?_))<;>(try simp only [h])<;>(try simp only [NR_,NRb] at h))|omega|(simp only [LN_];omega)|(refine maxLen_ok ?_;(first|omega|(simp only [LN_];omega))))
  ·exact ⟨(fr,k+1,dn,tk),St_le_same leA id,⟨by dsimp only;omega,by dsimp only;omega,h4,by rw [h3,tx_at_push (by omega) (by omega) (brk_no (by assumption) (by assumption))]⟩,by dsimp only;omega⟩
  ·rw [tn1] at h
   exact ⟨(k+2,k+2,dn++[(l.take k).drop fr],tk),St_leW (by simp only [List.map_append,List.map_cons,List.map_nil];exact leA) (ResW.refl _) id,⟨Nat.le_refl _,by dsimp only;omega,by simp;omega,by rw [h3,tx_at_crlf (by omega) (by assumption) h];simp [take_drop_self]⟩,by dsimp only;omega⟩
  ·rw [tn1] at h
   exact ⟨(k+1,k+1,dn++[(l.take k).drop fr],tk),St_leW (by simp only [List.map_append,List.map_cons,List.map_nil];exact leA) (ResW.refl _) id,⟨Nat.le_refl _,by dsimp only;omega,by simp;omega,by rw [h3,tx_at_brk (by omega) (brk_yes (by first|exact .inl (by assumption)|exact .inr (by assumption))) (fun hh=>by omega)];simp [take_drop_self]⟩,by dsimp only;omega⟩
  ·exact ⟨(k+1,k+1,dn++[(l.take k).drop fr],tk),St_leW (by simp only [List.map_append,List.map_cons,List.map_nil];exact leA) (ResW.refl _) id,⟨Nat.le_refl _,by dsimp only;omega,by simp;omega,by rw [h3,tx_at_brk (by omega) (brk_yes (by first|exact .inl (by assumption)|exact .inr (by assumption))) (fun hh=>by omega)];simp [take_drop_self]⟩,by dsimp only;omega⟩
  ·exact ⟨(k+1,k+1,dn++[(l.take k).drop fr],tk),St_leW (by simp only [List.map_append,List.map_cons,List.map_nil];exact leA) (ResW.refl _) id,⟨Nat.le_refl _,by dsimp only;omega,by simp;omega,by rw [h3,tx_at_brk (by omega) (brk_yes (by first|exact .inl (by assumption)|exact .inr (by assumption))) (fun hh=>by omega)];simp [take_drop_self]⟩,by dsimp only;omega⟩
  ·rw [tx_at_end (by omega),if_pos (by omega)] at h3
   exact leafL sub_rfl (leT_tup (leL_two (by rw [hR];dsimp only;rw [linesOf,h3];simp only [SL,List.map_append,List.map_cons,List.map_nil];exact le_rfl) (by rw [hR];exact le_rfl))) (hK _)
  ·rw [tx_at_end (by omega),if_neg (by omega)] at h3
   exact leafL sub_rfl (leT_tup (leL_two (by rw [hR];dsimp only;rw [linesOf,h3];simp only [List.append_nil];exact le_rfl) (by rw [hR];exact le_rfl))) (hK _)
theorem rLines {l:List Int} (hl:l.length≤1000000000) (hK:K (.ret (.tup [SL none (readR l).1,I (readR l).2])) σ):ACallF κ Tryz.prog 27 [SI o l] σ K :=
 ACallF.dropL (rLinesO hl (fun _=>leafL (sub_cons sub_rfl) (leT_tup (leL_two le_ro le_rfl)) hK))
def Asc (b:List Int):Prop:=b.length≤100000∧∀ c∈b,1≤c∧c≤127
theorem Asc.at_ {b:List Int} (h:Asc b) {k:Nat} (hk:k < b.length):1≤b.getD k 0∧b.getD k 0≤127 :=
 h.2 _ (by rw [List.getD_eq_getElem?_getD,List.getElem?_eq_getElem hk];exact List.getElem_mem hk)
theorem Asc.drop {b:List Int} (h:Asc b) (k:Nat):Asc (b.drop k):=⟨by have:=h.1;rw [List.length_drop];omega,fun c hc=>h.2 c (List.mem_of_mem_drop hc)⟩
theorem rIsNo {b l:List Int} (hb:Asc b) (hl:0 < l.length) (h0:l.getD 0 0=0∨127 < l.getD 0 0∧l.getD 0 0≤255) (hK:K (.ret (B false)) σ):ACallF κ Tryz.prog 53 [SU o b,SU o' l] σ K:=by
 have hbl:=hb.1
 have hb0:=fun h=>hb.at_ (k:=0) h
 by_cases hs:b.length < l.length
 ·skip
  refine ACallF.dropL (ACallF_intro Tryz.func53 rfl ?_)
  simp only [Tryz.ntmps53]
  repeat' (first|simp only [WL,intF,WM,reduceCtorEq,WLb,Nat.reduceAdd,Nat.reduceSub,true_and,T63,Tryz.results53]|((with_reducible first|refine grd_cases (fun h=>?_) (fun h=>?_)|refine condC_split (fun h=>?_) (fun h=>?_))<;>(try simp only [h])<;>(try simp only [NR_,NRb] at h))|omega)
  all_goals first
   | exact leafL sub_rfl (leT_eq rfl) hK
 ·skip
  refine ACallF.dropL (ACallF_intro Tryz.func53 rfl ?_)
  simp only [Tryz.ntmps53]
  repeat' (first|simp only [WL,intF,WM,reduceCtorEq,WLb,Nat.reduceAdd,Nat.reduceSub,true_and,T63,Tryz.results53]|((with_reducible first|refine grd_cases (fun h=>?_) (fun h=>?_)|refine condC_split (fun h=>?_) (fun h=>?_))<;>(try simp only [h])<;>(try simp only [NR_,NRb] at h))|omega)
  refine loop_by (fun _:Unit=>⟨(SU o b::SU o' l::.any::.any::.any::I 0::.any::.any::.any::.any::.any::.any::.any::.any::.any::.any::.any::.any::.any::.any::.any::.any::.any::.any::.any::.any::[]),σ,true,[]⟩) (fun _=>True) (fun _=>0) () (St_le_same leA id) trivial ?_
  intro _ _
  have hb0:=hb0 (by omega)
  have hl8:0≤l.getD 0 0∧l.getD 0 0≤255:=by omega
  have hne:(b.getD 0 0 == l.getD 0 0)=false:=beq_eq_false_iff_ne.2 (by omega)
  have hne2:(b.getD 0 0 != l.getD 0 0)=true:=by unfold bne;rw [hne];rfl
  repeat' (first|simp only [WL,intF,WM,Int.reduceToNat,reduceCtorEq,WLb,Nat.reduceAdd,Nat.reduceLT,true_and,T5,T63,Tryz.results53,hne2]|simp (disch:=first|omega|(simp only [LN_];omega)) only [getU]|with_reducible refine andA (hb:=?_)|((with_reducible refine AW_drawM (id:=6) 9 mixed ?_ ?_);kernel_rfl)|(with_reducible refine dmQ_mk ?_)|((with_reducible first|refine grd_cases (fun h=>?_) (fun h=>?_)|refine condC_split (fun h=>?_) (fun h=>?_))<;>(try simp only [h])<;>(try simp only [NR_,NRb] at h))|omega)
  all_goals first
   | exact leafL sub_rfl (leT_eq rfl) hK
   | (exfalso;omega)
theorem rPoint {b:List Int} (hb:Asc b) (h0:0 < b.length) (hK:K (.ret (.tup [I (b.getD 0 0),I 1])) σ):ACallF κ Tryz.prog 54 [SU o b] σ K:=by
 have hbl:=hb.1
 have a0:=hb.at_ h0
 have hlt:b.getD 0 0 < 128:=by omega
 refine ACallF.dropL (ACallF_intro Tryz.func54 rfl ?_)
 simp only [Tryz.ntmps54]
 repeat' (first|simp only [WL,intF,WM,Int.reduceToNat,reduceCtorEq,WLb,Nat.reduceAdd,Nat.reduceSub,true_and,T5,T63,cI in3,Tryz.results54,decide_eq_true hlt]|simp (disch:=first|omega|(simp only [LN_];omega)) only [wrap_id,getU]|with_reducible refine andA (hb:=?_))
 all_goals first
  | exact leafL sub_rfl (leT_eq rfl) hK
  | (exfalso;omega)
theorem rSmall {b:List Int} (hb:Asc b) (hK:K (.ret (.tup [SI none b,B true])) σ):ACallF κ Tryz.prog 37 [SU o b] σ K:=by
 have hbl:=hb.1
 refine ACallF.dropL (ACallF_intro Tryz.func37 rfl ?_)
 simp only [Tryz.ntmps37]
 repeat' (first|simp only [WL,WM,Nat.reduceAdd,Nat.reduceSub])
 refine loop_by (fun z:Nat × Option (Nat × Nat)=>⟨(SU o b::.any::.any::.any::SI (some z.2) (b.take z.1)::I z.1::.any::.any::.any::.any::.any::.any::.any::.any::.any::.any::.any::.any::.any::.any::.any::.any::.any::.any::.any::.any::.any::.any::.any::[]),.tip z.2::σ,true,[]⟩) (fun z=>z.1≤b.length) (fun z=>b.length - z.1) (0,none) (St_leW leA ResW.void id) (Nat.zero_le _) ?_
 rintro ⟨k,tk⟩ hk
 dsimp only at hk ⊢
 rcases Nat.lt_or_ge k b.length with hi|hi
 ·have hd:(b.drop k).getD 0 0=b.getD k 0:=by rw [getD_drop_,Nat.add_zero]
  have hdl:0 < (b.drop k).length:=by rw [List.length_drop];omega
  have hnx:List.map I (b.take k)++[I (b.getD k 0)]=List.map I (b.take (k+1)):=by
   rw [List.take_succ_eq_append_getElem hi,List.map_append,List.getD_eq_getElem?_getD,List.getElem?_eq_getElem hi]
   rfl
  repeat' (first|simp only [WL,intF,WM,reduceCtorEq,WLb,Nat.reduceAdd,Nat.reduceLT,true_and,T5,T63,cok54,Tryz.results37,hd,hnx]|simp (disch:=first|omega|(simp only [LN_];omega)) only [wrap_id]|(with_reducible first|refine andA (hb:=?_)|refine y_app (hlen:=?_) (hmax:=?_) (hK:=fun tk=>?_)|refine y_bs (hK:=?_)|refine cD (rPoint (b:=b.drop k) (hb.drop k) hdl ?_))|((with_reducible first|refine grd_cases (fun h=>?_) (fun h=>?_)|refine condC_split (fun h=>?_) (fun h=>?_))<;>(try simp only [h])<;>(try simp only [NR_,NRb] at h))|omega|(simp only [LN_];omega)|(refine maxLen_ok ?_;(first|omega|(simp only [LN_];omega))))
  exact ⟨(k+1,tk),St_leW leA (ResW.refl _) id,by dsimp only;omega,by dsimp only;omega⟩
 ·skip
  repeat' (first|simp only [WL,intF,WM,reduceCtorEq,WLb,Nat.reduceAdd,Nat.reduceLT,true_and,T5,T63,cok54,Tryz.results37]|simp (disch:=first|omega|(simp only [LN_];omega)) only [wrap_id]|(with_reducible first|refine andA (hb:=?_)|refine y_app (hlen:=?_) (hmax:=?_) (hK:=fun tk=>?_)|refine y_bs (hK:=?_)|refine cD (rPoint ?_ ?_ ?_))|((with_reducible first|refine grd_cases (fun h=>?_) (fun h=>?_)|refine condC_split (fun h=>?_) (fun h=>?_))<;>(try simp only [h])<;>(try simp only [NR_,NRb] at h))|omega)
  exact leafL (sub_cons sub_rfl) (leT_tup (leL_two (by rw [List.take_of_length_le hi];exact le_ro) le_rfl)) hK
end Go.Proofs.YthkabaiamcjdbaaGreat
