/-
  Texts HD, MA, MK, HE, HF, Ia, Ib, It, Ka, Kf, Kh, one behind the other.
-/
import Derived.Test.YthkabaiamcjdbaaGreatG17
import Derived.Test.YthkabaiamcjdbaaGreatG18
import Derived.RecoverIn
set_option linter.unusedVariables false
set_option linter.unusedSimpArgs false
set_option maxHeartbeats 16000000
/-
 Walks: chapter 13,all nodes.
-/







namespace Go.Proofs.YthkabaiamcjdbaaGreat
open Go.Abs
variable {κ:Ctx} {σ:List Res} {K:Ret→List Res→Prop} {o o':Option (Option (Nat × Nat))}
theorem IK {bj:Nat}{ls:List Ln}{n d:Int}{bk:Bool}{N:Nat→Int × Int→NodeR}{x y:AV}{op:List Int}{l:List EvV}{τ σ0:List Res}{p:Int × Int} (hs:Small ls) (hd:0≤d∧d≤1000000000)
  (hP:cN d op.length 0=true→nD κ bj ls n d bk (gw ls n (N (op.length+1))) 178 (op.length+1)) (hI:cN d op.length 0=true→nD κ bj ls n d bk (eu ls n d (op.length+1) (N (op.length+1)) (N (op.length+2))) 177 (op.length+1)) (hG:∀ k,eO ls (N k)) (hJ:JX x y op l τ σ0) (hlo:op.length≤1000000) (hp:PlW p) (hb:l.length+8 * mu p+8≤1000000000)
  (h1:∀ ev e t,nodeS ls n d bk N op.length p=.ok (ev,e,t)→∀ x' y' τ',JX x' y' op (l++ev) τ' σ0→K (.ret (tL (e,t))) (.obj bj (JC ls n bk d x' y')::τ'))
  (h2:∀ e,nodeS ls n d bk N op.length p=.error e→∀ x' y' op' l' τ',JX x' y' op' l' τ' σ0→K (.pan (bI e)) (.obj bj (JC ls n bk d x' y')::τ')) :
  ACallF κ Tryz.prog 119 [JP bj,cS p] (.obj bj (JC ls n bk d x y)::τ) K:=by
 have hll:l.length≤1000000000:=by omega
 have hlo2:op.length≤1000000000:=by omega
 unfold nodeS at h1 h2
 cases ht:bG ls n p with
 | error e =>
  rw [ht] at h2
  exact FM hs hp ht (h2 _ rfl _ _ _ _ _ hJ)
 | ok r =>
  obtain ⟨v,q,ok⟩:=r
  rw [ht] at h1 h2
  dsimp only at h1 h2
  obtain ⟨b1,b2,b3⟩:=ou hs hp ht
  cases ok
  ·obtain rfl:=b2 rfl
   simp only [Bool.false_eq_true,if_false] at h1 h2
   have hh:∀ c,bV [] c=false:=fun c=>rfl
   unfold lE at h1 h2
   simp only [hh,Bool.false_eq_true,if_false,false_or,List.length_nil,Nat.lt_irrefl,false_and] at h1 h2
   cases ha:iD v
   ·rw [ha,if_neg Bool.false_ne_true] at h2
    exact zO hs hJ hll hp ht ha (h2 _ rfl _ _ _ _ _ hJ)
   ·rw [ha,if_pos rfl] at h1
    exact z1 hs hJ hll hp ht ha (fun y' τ' hJ'=>h1 _ _ _ rfl _ _ _ hJ')
  ·simp only [if_true] at h1 h2
   obtain ⟨c1,c2,c3,c4⟩:=b1 rfl
   have hmu:=gP c1 c2.2.2.1 hp.2.2.2
   have hh:∀ c,bV (aF ls q) c=((aF ls q).getD 0 0 == c):=fun c=>by unfold bV;rw [decide_eq_true c3,Bool.true_and]
   unfold lE at h1 h2
   simp only [hh] at h1 h2
   generalize hX:aF ls q=X at *
   cases e1:(X.getD 0 0 == 42)
   ·simp only [e1,Bool.false_eq_true,if_false] at h1 h2
    cases e2:(X.getD 0 0 == 34)
    ·cases e3:(X.getD 0 0 == 39)
     ·simp only [e2,e3,Bool.false_eq_true,or_self,if_false] at h1 h2
      cases e4:(X.getD 0 0 == 91)
      ·cases e5:(X.getD 0 0 == 123)
       ·simp only [e4,e5,Bool.false_eq_true,or_self,if_false] at h1 h2
        cases e6:fb X (!(bk && decide (op.length=0)))
        ·simp only [e6,Bool.false_eq_true,and_false,if_false] at h1 h2
         cases ha:iD v
         ·simp only [ha,Bool.false_eq_true,if_false] at h2
          exact Ax hs hJ hll hlo2 hp ht c2 c3 hX e1 e2 e3 e4 e5 e6 ha (h2 _ rfl _ _ _ _ _ hJ)
         ·simp only [ha,if_true] at h1
          exact An hs hJ hll hlo2 hp ht c2 c3 hX e1 e2 e3 e4 e5 e6 ha (fun y' τ' hJ'=>h1 _ _ _ rfl _ _ _ hJ')
        ·simp only [e6,c3,and_self,if_true] at h1 h2
         exact AP hs hJ hll hlo2 hp ht c2 c3 hX e1 e2 e3 e4 e5 e6 (fun t e hq y' τ' hJ'=>h1 _ _ _ (by rw [hq]) _ _ _ hJ') (fun e hq=>h2 _ (by rw [hq]) _ _ _ _ _ hJ)
       ·simp only [e4,e5,Bool.false_eq_true,false_or,if_true] at h1 h2
        exact zz hd hP hI hG hlo (by omega) hs hJ hll hlo2 hp ht c2 c3 hX e1 e2 e3 e4 e5 (fun ev e hq x' y' τ' hJ'=>h1 _ _ _ (by rw [hq]) _ _ _ hJ') (fun e hq x' y' op' l' τ' hJ'=>h2 _ (by rw [hq]) _ _ _ _ _ hJ')
      ·simp only [e4,true_or,if_true] at h1 h2
       exact A2 hd hP hI hG hlo (by omega) hs hJ hll hlo2 hp ht c2 c3 hX e1 e2 e3 e4 (fun ev e hq x' y' τ' hJ'=>h1 _ _ _ (by rw [hq]) _ _ _ hJ') (fun e hq x' y' op' l' τ' hJ'=>h2 _ (by rw [hq]) _ _ _ _ _ hJ')
     ·simp only [e2,e3,Bool.false_eq_true,false_or,if_true] at h1 h2
      exact wt hs hJ hll hlo2 hp ht c2 c3 hX e1 e2 e3 (fun t s e hq y' τ' hJ'=>h1 _ _ _ (by rw [hq]) _ _ _ hJ') (fun e hq=>h2 _ (by rw [hq]) _ _ _ _ _ hJ)
    ·simp only [e2,true_or,if_true] at h1 h2
     exact vI hs hJ hll hlo2 hp ht c2 c3 hX e1 e2 (fun t s e hq y' τ' hJ'=>h1 _ _ _ (by rw [hq]) _ _ _ hJ') (fun e hq=>h2 _ (by rw [hq]) _ _ _ _ _ hJ)
   ·simp only [e1,if_true] at h1 h2
    cases ha:iD v
    ·simp only [ha,Bool.false_eq_true,if_false] at h1 h2
     exact Av hs hJ hll hlo2 hp ht c2 c3 hX e1 ha (fun hal y' τ' hJ'=>h1 _ _ _ (if_pos hal) _ _ _ hJ') (fun hal=>h2 _ (if_neg (by rw [hal];decide)) _ _ _ _ _ hJ)
    ·simp only [ha,if_true] at h2
     exact tA hs hJ hll hlo2 hp ht c2 c3 hX e1 ha (h2 _ rfl _ _ _ _ _ hJ)
theorem cl {ls:List Ln}{n d:Int}{bk:Bool} (hs:Small ls):∀ f k,eO ls (nodeF ls n d bk f k)
 | 0,k=>t6 hs (fun k p ev e t hp h=>by cases h)
 | f+1,k=>t6 hs (fun k=>cl hs f k)
theorem qz {d:Int}{k:Nat} (hd:0≤d) (h:cN d k 0=true):k < 200:=by
 unfold cN at h
 simp only [Bool.and_eq_true,decide_eq_true_eq] at h
 omega
theorem sx {bj:Nat}{ls:List Ln}{n d:Int}{bk:Bool} (hs:Small ls) (hd:0≤d∧d≤1000000000):∀ (f k:Nat),200≤k+f→k≤1000 →
  ∀ {x y:AV} {op:List Int} {l:List EvV} {τ σ0:List Res} {p:Int × Int} {K:Ret→List Res→Prop},op.length=k→JX x y op l τ σ0→PlW p→l.length+8 * mu p+8≤1000000000 →
  (∀ ev e t,nodeF ls n d bk f k p=.ok (ev,e,t)→∀ x' y' τ',JX x' y' op (l++ev) τ' σ0→K (.ret (tL (e,t))) (.obj bj (JC ls n bk d x' y')::τ')) →
  (∀ e,nodeF ls n d bk f k p=.error e→∀ x' y' op' l' τ',JX x' y' op' l' τ' σ0→K (.pan (bI e)) (.obj bj (JC ls n bk d x' y')::τ')) →
  ACallF κ Tryz.prog 119 [JP bj,cS p] (.obj bj (JC ls n bk d x y)::τ) K
 | 0,k,hf,hk,x,y,op,l,τ,σ0,p,K,ho,hJ,hp,hb,h1,h2=>by
  subst ho
  exact IK hs hd (fun h=>by have:=qz hd.1 h;omega) (fun h=>by have:=qz hd.1 h;omega) (fun k p ev e t hp h=>by cases h) hJ (by omega) hp hb h1 h2
 | f+1,k,hf,hk,x,y,op,l,τ,σ0,p,K,ho,hJ,hp,hb,h1,h2=>by
  subst ho
  have ih:∀ k',200≤k'+f→k'≤1000→gl κ bj ls n d bk (nodeF ls n d bk f k') k':=fun k' a b x y op l τ σ0 p K ho hJ hp hb h1 h2=>sx hs hd f k' a b ho hJ (hp.w hs) hb h1 h2
  refine IK hs hd (fun h=>?_) (fun h=>?_) (fun k=>cl hs f k) hJ (by omega) hp hb h1 h2
  ·have:=qz hd.1 h
   exact @fun _ _ _ _ _ _ _ _=>SJ hs (ih (op.length+1) (by omega) (by omega)) (cl hs f _)
  ·have:=qz hd.1 h
   exact @fun _ _ _ _ _ _ _ _=>Re (k:=op.length+1) hs hd (by omega) (ih (op.length+1) (by omega) (by omega)) (cl hs f _) (fun _=>ih (op.length+2) (by omega) (by omega)) (cl hs f _)
end Go.Proofs.YthkabaiamcjdbaaGreat
/-
 Own layer,part A: a deferred call that recovers;panics of a struct;what an interface value holds.
-/


namespace Go.Abs
open Go.RowKit
/-! ### A list of operations in two parts -/
def QY (N:Act→World→Prop) (Q:Exit→Act→World→Prop):Exit→Act→World→Prop
 | .normal,a,w=>N a w
 | e,a,w=>Q e a w
theorem Oper.wpIn_appQ {F:Fence}{n:Nat}{P:Program}{o:Oper}{a:Act}{w:World}{N:Act→World→Prop}{K K':Act→World→Prop}{Q:Exit→Act→World→Prop} (hk:∀ a w,K a w→K' a w)
  (hh:o.wpIn F n P a w K (QY N Q)):o.wpIn F n P a w K' Q:=by
 unfold Oper.wpIn at *
 refine ⟨hh.1, ?_⟩
 have hh:=hh.2
 generalize (o.semAt F.round a.eval).run P w=r at *
 cases r with
 | ok x w' =>
  cases x<;>simp only [Oper.uponIn] at hh ⊢ <;>
   first
    | exact hk _ _ hh
    | exact ⟨hh.1,CallsIn.mono hh.2 (fun e w'' he=>by cases e<;>first|exact hk _ _ he|exact he)⟩
    | exact ⟨hh.1,RowsIn.mono hh.2 (fun _ _ he=>hk _ _ he)⟩
    | exact ⟨hh.1,RoundIn.mono hh.2 (fun e w'' he=>by cases e<;>first|exact hk _ _ he|exact he)⟩
 | halt x w'=>cases x<;>simp only [Oper.uponIn] at hh ⊢<;>exact hh
theorem iB {F:Fence}{n:Nat}{P:Program}{ops:Array Oper}{Q:Exit→Act→World→Prop}{m:List Oper}:∀ (l:List Oper) (a:Act) (w:World),wpListIn F n P ops (QY (wpListIn F n P ops Q m) Q) l a w→wpListIn F n P ops Q (l++m) a w
 | [],a,w,h=>h
 | o::l,a,w,h=>by
  simp only [List.cons_append,wpListIn] at h ⊢
  split
  ·rename_i hw
   rw [if_pos hw] at h
   exact Oper.wpIn_appQ (iB l) h
  ·rename_i hw
   rw [if_neg hw] at h
   exact ⟨h.1,iB l _ _ h.2⟩
theorem Oper.wpIn_imp {F:Fence}{n:Nat}{P:Program}{o:Oper}{a:Act}{w:World}{K K':Act→World→Prop}{Q Q':Exit→Act→World→Prop} (hk:∀ a w,K a w→K' a w) (hq:∀ e a w,Q e a w→Q' e a w)
  (hh:o.wpIn F n P a w K Q):o.wpIn F n P a w K' Q':=by
 unfold Oper.wpIn at *
 refine ⟨hh.1, ?_⟩
 have hh:=hh.2
 have hl:LetsOut Q→LetsOut Q':=fun ⟨a,w,h⟩=>⟨a,w,hq _ _ _ h⟩
 generalize (o.semAt F.round a.eval).run P w=r at *
 cases r with
 | ok x w' =>
  cases x<;>simp only [Oper.uponIn] at hh ⊢ <;>
   first
    | exact hk _ _ hh
    | exact ⟨hh.1,CallsIn.mono hh.2 (fun e w'' he=>by cases e<;>first|exact hk _ _ he|exact hq _ _ _ he|exact hl he)⟩
    | exact ⟨hh.1,RowsIn.mono hh.2 (fun _ _ he=>hk _ _ he)⟩
    | exact ⟨hh.1,RoundIn.mono hh.2 (fun e w'' he=>by cases e<;>first|exact hk _ _ he|exact hq _ _ _ he|exact hl he)⟩
 | halt x w'=>cases x<;>simp only [Oper.uponIn] at hh ⊢<;>exact hq _ _ _ hh
theorem iz {F:Fence}{n:Nat}{P:Program}{ops:Array Oper}{Q Q':Exit→Act→World→Prop} (hq:∀ e a w,Q e a w→Q' e a w):∀ (l:List Oper) (a:Act) (w:World),wpListIn F n P ops Q l a w→wpListIn F n P ops Q' l a w
 | [],a,w,h=>hq _ _ _ h
 | o::l,a,w,h=>by
  simp only [wpListIn] at h ⊢
  split
  ·rename_i hw
   rw [if_pos hw] at h
   exact Oper.wpIn_imp (iz hq l) hq h
  ·rename_i hw
   rw [if_neg hw] at h
   exact ⟨h.1,iz hq l _ _ h.2⟩
/-! ### The statement 'defer' -/
def Eu (f:FuncId) (cap:List Value):Deferred:={ target:=.fn (.func f) cap.toArray,args:=#[] }
section
variable {κ:Ctx} {P:Program}
def IH (x:Operand) (f:FuncId) (cap:List Value) (Q:Exit→St→Prop):Exit→St→Prop
 | .normal,s=>s.fr=true∧s.ev x=.raw (.func (.func f) #[] cap.toArray)∧Q .normal { s with df:=Eu f cap::s.df }
 | e,s=>Q e s
abbrev TX (x:Operand) (ty:TypeId) (pos:String) (af:Array Edge) (ts:Array TypeId):Oper:=⟨none,.defer ⟨.value x,#[],ts⟩,ty,pos,af,none⟩
theorem rv {id:Nat}{l:List Oper}{x:Operand}{ty:TypeId}{pos:String}{af:Array Edge}{ts:Array TypeId} (f:FuncId) (cap:List Value) {Q:Exit→St→Prop}{s:St}
  (h:bn κ false P (l++[TX x ty pos af ts]) (IH x f cap Q) l s):AW κ none P (.region id (l++[TX x ty pos af ts]).toArray false) Q s:=by
 intro φ g a w hs
 refine wpIn_region_list ?_
 simp only [List.toList_toArray]
 refine iB l a w ?_
 have h1:=iO (rd:=none) (φ:=φ) l s g a w h hs (GE.refl g w)
 refine iz ?_ l a w h1
 rintro e a' w' ⟨g',s',hs',hge,hq⟩
 cases e with
 | normal =>
  obtain ⟨hfr,hev,hq⟩:=hq
  obtain ⟨ds,hd,hfr',hR,ht⟩:=hs'
  have hds:=hfr' hfr
  subst hds
  have hx:=dj (s:=s') ⟨ht.size,ht.get⟩ x
  rw [hev] at hx
  have hx':=hx.raw_eq
  show wpListIn _ _ _ _ _ _ _ _
  simp only [wpListIn,Region.wanted,if_true]
  refine ⟨?_, ?_⟩
  ·intro f' hf';exact p7 none f'
  ·rw [show (FD none).round=none from rfl,Oper.semAt_none]
   have hres:(execOp a'.eval (TX x ty pos af ts)).run P w'=.ok (.defer (Eu f cap)) w':=by
    simp [execOp,resolve,hx',Deferred.ofValue,Eu]
   rw [hres]
   refine ⟨g',_, ?_,hge,hq⟩
   exact ⟨[],by simp only [List.map_nil,List.nil_append] at hd ⊢;show Eu f cap::a'.defers=_;rw [hd],fun _=>rfl,hR,ht⟩
 | exit id=>exact ⟨g',s',hs',hge,hq⟩
 | goto id=>exact ⟨g',s',hs',hge,hq⟩
 | ret=>exact ⟨g',s',hs',hge,hq⟩
 | panic c=>exact ⟨g',s',hs',hge,hq⟩
 | outgrown=>exact ⟨g',s',hs',hge,hq⟩
/-! ### Leaving -/
def g8 (κ:Ctx) (P:Program) (f:FuncId) (args:List AV) (σ:List Res) (u:FrameMode) (K:FrameMode→List Res→Prop):Prop :=
 ∀ (φ:List Res) (g:Nat→Nat) (w:World) (vs:Array Value),Rel κ g (φ++σ) w→TR g w args vs →
  CallsDIn Fence.wide 0 P f vs u w fun e u' w'=>∃ v g' σ',e=.returned v∧Rel κ g' (φ++σ') w'∧GE g w g' w'∧K u' σ'
def M1 (κ:Ctx) (P:Program) (fn:Func) (f:FuncId) (cap:List Value) (K:Ret→List Res→Prop):Exit→St→Prop
 | .normal,s=>s.fr=true∧s.df=[Eu f cap]∧g8 κ P f (cap.map .raw) s.σ .returning fun u σ'=>u=.returning∧pn κ P fn { s with σ:=σ' } K
 | .ret,s=>s.fr=true∧s.df=[Eu f cap]∧g8 κ P f (cap.map .raw) s.σ .returning fun u σ'=>u=.returning∧pn κ P fn { s with σ:=σ' } K
 | .panic c,s=>s.fr=true∧s.df=[Eu f cap]∧g8 κ P f (cap.map .raw) s.σ (.panicking c) fun u σ'=>settle u=.returning∧pn κ P fn { s with σ:=σ' } K
 | _,_=>False
theorem um {fn:Func}{s:St}{K:Ret→List Res→Prop}{f:FuncId}{cap:List Value}{φ:List Res}{g0:Nat→Nat}{w0:World}{u:FrameMode}{g:Nat→Nat}{w:World}{tmps:Array Value} (hu:u≠.run) (hok:au P f=True)
  (h:g8 κ P f (cap.map .raw) s.σ u fun u' σ'=>settle u'=.returning∧pn κ P fn { s with σ:=σ' } K)
  (hR:Rel κ g (φ++s.σ) w) (ht:TR g w s.t tmps) (hge:GE g0 w0 g w):LeavesInM Fence.wide 0 P fn tmps (eE κ φ g0 w0 K) [Eu f cap] u w:=by
 obtain ⟨fn',hf,h1,h2⟩:au P f:=hok ▸ trivial
 refine ⟨hu,.inr ⟨(fun e=>by cases e),.func f,cap.toArray,f,cap.toArray,rfl, ?_,fun _ _=>trivial, ?_⟩⟩
 ·show (invoke (.fn (.func f) cap.toArray) #[]).run P w=_
  simp only [invoke]
  rw [show (#[]++cap.toArray:Array Value)=cap.toArray by simp]
  exact iu hf h1 h2 _ _
 ·obtain ⟨hc1,hc2⟩:=h φ g w cap.toArray hR (by simpa using TR.raws cap.toArray)
  refine ⟨hc1,fun c cs hcu hroom=>?_⟩
  obtain ⟨e,u',w',fr,⟨v,g',σ',rfl,hR',hge',hs,hk⟩,h3⟩:=hc2 c cs hcu hroom
  refine ⟨_,u',w',fr, ?_,h3⟩
  show LeavesInM Fence.wide 0 P fn tmps (eE κ φ g0 w0 K) [] (settle u') w'
  rw [hs]
  obtain ⟨v2,x,a1,a2,a3⟩:=mX hk φ g' w' tmps hR' (ht.mono hge')
  exact ⟨v2,a1,g',σ',.ret x,hR',hge.trans hge',a2,a3⟩
theorem jD {f fd:FuncId}{fn:Func}{c:Code}{args:List AV}{σ:List Res}{cap:List Value→Prop}{K:Ret→List Res→Prop} (hf:P.funcs[f]? = some fn) (hb:fn.body=some c) (hok:au P fd=True)
  (h:AW κ none P c (fun e s=>∃ cap,M1 κ P fn fd cap K e s) { t:=args++List.replicate (fn.ntmps - args.length) .any,σ:=σ }):ACallF κ P f args σ K:=by
 intro φ g w vs hR hv
 refine callsIn_of_wp_marks hf hb trivial ?_
 have hs:SR κ φ g { t:=args++List.replicate (fn.ntmps - args.length) .any,σ:=σ } { tmps:=vs++Array.replicate (fn.ntmps - vs.size) undef,defers:=[] } w:=by
  refine ⟨[],rfl,fun _=>rfl,hR,hv.append ⟨by simp [hv.size],fun k x hk=>?_⟩⟩
  rw [List.getElem?_replicate] at hk
  split at hk
  ·cases hk;exact .any _
  ·cases hk
 refine wpIn_mono (h φ g _ w hs) ?_
 rintro e a' w' ⟨g',s',hs',hge,cap,hq⟩
 obtain ⟨ds,hd,hfr,hR',ht'⟩:=hs'
 have ret:s'.fr=true∧s'.df=[Eu fd cap]∧(g8 κ P fd (cap.map .raw) s'.σ .returning fun u σ'=>u=.returning∧pn κ P fn { s' with σ:=σ' } K)→LeavesInM Fence.wide 0 P fn a'.tmps (eE κ φ g w K) a'.defers .returning w':=by
  rintro ⟨q1,q2,q3⟩
  have hds:=hfr q1
  subst hds
  rw [hd,q2]
  refine um (s:=s') (by simp) hok (fun φ g w vs a b=>?_) hR' ht' hge
  obtain ⟨b1,b2⟩:=q3 φ g w vs a b
  refine ⟨b1,fun c cs hcu hroom=>?_⟩
  obtain ⟨e,u',w2,fr,⟨v,g2,σ2,e1,e2,e3,e4,e5⟩,h3⟩:=b2 c cs hcu hroom
  exact ⟨e,u',w2,fr,⟨v,g2,σ2,e1,e2,e3,by rw [e4];rfl,e5⟩,h3⟩
 cases e with
 | normal=>exact ret hq
 | ret=>exact ret hq
 | panic ch =>
  obtain ⟨q1,q2,q3⟩:=hq
  have hds:=hfr q1
  subst hds
  show LeavesInM Fence.wide 0 P fn a'.tmps (eE κ φ g w K) a'.defers (.panicking ch) w'
  rw [hd,q2]
  exact um (s:=s') (by simp) hok q3 hR' ht' hge
 | exit id=>exact hq.elim
 | goto id=>exact hq.elim
 | outgrown=>exact hq.elim
/-! ### A deferred function that recovers -/
def qS:FrameMode→FrameMode
 | .panicking ({ v,recovered:=false,goexit:=false }::older)=>.panicking ({ v,recovered:=true }::older)
 | u=>u
def oX:FrameMode→Value
 | .panicking ({ v,recovered:=false,goexit:=false }::_)=>v
 | _=>.nilIface
theorem tD (c:Frame) (cs:List Frame):match recoverD (c::cs) with
  | some (v,cs')=>v=oX c.mode∧cs'={ c with mode:=qS c.mode }::cs
  | none=>oX c.mode=.nilIface∧qS c.mode=c.mode:=by
 simp only [recoverD,oX,qS]
 split<;>rename_i h
 ·split at h
  ·rename_i hm
   simp only [Option.some.injEq,Prod.mk.injEq] at h
   obtain ⟨rfl,rfl⟩:=h
   rw [hm]
   exact ⟨rfl,rfl⟩
  ·cases h
 ·split at h
  ·cases h
  ·rename_i hm
   split
   ·rename_i v older e
    exact absurd e (hm v older)
   ·exact ⟨rfl,rfl⟩
def NP (κ:Ctx) (P:Program) (fn:Func) (K:List Res→Prop):Exit→St→Prop
 | .normal,s=>s.fr=true∧s.df=[]∧fn.results.toList=[]∧K s.σ
 | .ret,s=>s.fr=true∧s.df=[]∧fn.results.toList=[]∧K s.σ
 | _,_=>False
theorem fc {f:FuncId}{fn:Func}{x:Tmp}{t1:Tmp}{ty1 ty2:TypeId}{p1 p2:String}{af1 af2:Array Edge}{id:Nat}{rest:Code}{ts:Array TypeId}{args:List AV}{σ:List Res}{u:FrameMode}{K:FrameMode→List Res→Prop}
  (hf:P.funcs[f]? = some fn) (hb:fn.body=some (.seq (.region id #[⟨some t1,.call ⟨.builtin .recover,#[],ts⟩,ty1,p1,af1,none⟩,⟨some x,.assign (.tmp t1),ty2,p2,af2,none⟩] false) rest))
  (h:AW κ none P rest (NP κ P fn (K (qS u))) { t:=bJ (bJ (args++List.replicate (fn.ntmps - args.length) .any) (some t1) (.raw (oX u))) (some x) (.raw (oX u)),σ:=σ }) (ht1:t1 < args.length+(fn.ntmps - args.length)):g8 κ P f args σ u K:=by
 intro φ g w vs hR hv
 refine callsDIn_of_wpSIn hf hb trivial (fun c₀ cs hcu=>?_)
 refine wpSIn_seq (wpSIn_region ?_)
 have hs0:TR g w (args++List.replicate (fn.ntmps - args.length) .any) (vs++Array.replicate (fn.ntmps - vs.size) undef):=by
  refine hv.append ⟨by simp [hv.size],fun k x hk=>?_⟩
  rw [List.getElem?_replicate] at hk
  split at hk
  ·cases hk;exact .any _
  ·cases hk
 have hrest:∀ v,v=oX u→Code.wpSIn Fence.wide 0 P rest (bodyPostS P fn c₀ cs fun e u' w'=>∃ v g' σ',e=.returned v∧Rel κ g' (φ++σ') w'∧GE g w g' w'∧K u' σ')
   ((Act.put ⟨vs++Array.replicate (fn.ntmps - vs.size) undef,[]⟩ (some t1) v).put (some x) v) ({ c₀ with mode:=qS u }::cs) w:=by
  rintro v rfl
  refine wpSIn_of_wpIn rfl ?_
  have hs:SR κ φ g { t:=bJ (bJ (args++List.replicate (fn.ntmps - args.length) .any) (some t1) (.raw (oX u))) (some x) (.raw (oX u)),σ:=σ } ((Act.put ⟨vs++Array.replicate (fn.ntmps - vs.size) undef,[]⟩ (some t1) (oX u)).put (some x) (oX u)) w :=
   ⟨[],rfl,fun _=>rfl,hR,TR.put (TR.put hs0 (some t1) (.raw _) []) (some x) (.raw _) []⟩
  refine wpIn_mono (h φ g _ w hs) ?_
  rintro e a' w' ⟨g',s',hs',hge,hq⟩
  obtain ⟨ds,hd,hfr,hR',ht'⟩:=hs'
  have fin:s'.fr=true∧s'.df=[]∧fn.results.toList=[]∧K (qS u) s'.σ→a'.defers=[]∧∃ u',({ c₀ with mode:=qS u }::cs)={ c₀ with mode:=u' }::cs∧∃ v,(results fn a'.tmps).run P w'=.ok v w'∧∃ v2 g' σ',Ending.returned v=.returned v2∧Rel κ g' (φ++σ') w'∧GE g w g' w'∧K u' σ':=by
   rintro ⟨q1,q2,q3,q4⟩
   have hds:=hfr q1
   subst hds
   have hres:fn.results = #[]:=by
    have:fn.results=fn.results.toList.toArray:=by simp
    rw [this,q3]
   exact ⟨by rw [hd,q2];rfl,qS u,rfl,.tuple #[],by simp [results,hres],_,g',s'.σ,rfl,hR',hge,q4⟩
  cases e with
  | normal=>exact fin hq
  | ret=>exact fin hq
  | panic ch=>exact hq.elim
  | exit id=>exact hq.elim
  | goto id=>exact hq.elim
  | outgrown=>exact hq.elim
 have hrc:=tD c₀ cs
 rw [hcu] at hrc
 have hev:∀ v,(Act.put ⟨vs++Array.replicate (fn.ntmps - vs.size) undef,[]⟩ (some t1) v).eval (.tmp t1)=v:=by
  intro v
  show ((vs++Array.replicate (fn.ntmps - vs.size) undef).setIfInBounds t1 v).getD t1 undef=v
  have hsz:t1 < (vs++Array.replicate (fn.ntmps - vs.size) undef).size:=by
   simp only [Array.size_append,Array.size_replicate]
   rw [hv.size];exact ht1
  rw [Array.getD_eq_getD_getElem?,Array.getElem?_setIfInBounds]
  simp only [if_true]
  rw [if_pos hsz];rfl
 show wpOpsSIn Fence.wide 0 P _ _ [0,1] _ _ _
 have hw1:∀ tm,Region.wanted ⟨some t1,.call ⟨.builtin .recover,#[],ts⟩,ty1,p1,af1,none⟩ tm=true:=fun _=>rfl
 have hw2:∀ tm,Region.wanted ⟨some x,.assign (.tmp t1),ty2,p2,af2,none⟩ tm=true:=fun _=>rfl
 have hx1:∀ (ρ:Operand→Value) (w:World),(execOp ρ ⟨some t1,.call ⟨.builtin .recover,#[],ts⟩,ty1,p1,af1,none⟩).run P w=.ok .recover w:=fun ρ w=>by
  simp [execOp,resolve,invoke,builtin]
 have hx2:∀ (ρ:Operand→Value) (w:World),(execOp ρ ⟨some x,.assign (.tmp t1),ty2,p2,af2,none⟩).run P w=.ok (.value (ρ (.tmp t1))) w:=fun ρ w=>by
  simp [execOp]
 simp only [wpOpsSIn,List.getElem?_toArray,List.getElem?_cons_zero,List.getElem?_cons_succ,hw1,hw2,hx1,hx2,if_true]
 refine ⟨fun f' _=>trivial, ?_⟩
 cases hr:recoverD (c₀::cs) with
 | none =>
  rw [hr] at hrc
  simp only
  refine ⟨fun f' _=>trivial, ?_⟩
  have h1:=hrest .nilIface hrc.1.symm
  rw [hrc.2] at h1
  rw [hev]
  subst hcu
  exact h1
 | some vc =>
  obtain ⟨v,cs'⟩:=vc
  rw [hr] at hrc
  simp only
  refine ⟨fun f' _=>trivial, ?_⟩
  have h1:=hrest v hrc.1
  rw [hev]
  rw [hrc.2]
  exact h1
end
end Go.Abs
/-
 The abstract layer,part K: what is recovered.
-/


namespace Go.Abs
section
variable {κ:Ctx} {P:Program}
abbrev Uy (d:Tmp) (it it2:TypeId) (x:Operand) (ty:TypeId) (pos:String) (af:Array Edge):Oper:=⟨some d,.binOp .neq it x (.const .nilIface) it2,ty,pos,af,none⟩
def RZ (x:Operand) (d:Tmp) (b:Bool) (Q:Exit→St→Prop):Exit→St→Prop
 | .normal,s=>(∃ v:Value,s.ev x=.raw v∧((v=.nilIface∧b=false)∨(∃ t u,v=.iface t u∧b=true)))∧Q .normal { s with t:=bJ s.t (some d) (B b) }
 | e,s=>Q e s
theorem oD {x:Operand}{d:Tmp}{b:Bool}{Q:Exit→St→Prop}{s:St}:RZ x d b Q .normal s=((∃ v:Value,s.ev x=.raw v∧((v=.nilIface∧b=false)∨(∃ t u,v=.iface t u∧b=true)))∧Q .normal { s with t:=bJ s.t (some d) (B b) }):=rfl
theorem iK {id:Nat}{l:List Oper}{x:Operand}{d:Tmp}{it it2 ty:TypeId}{pos:String}{af:Array Edge}{Q:Exit→St→Prop}{s:St}{ms:Array (String × TypeId)} (b:Bool) (hu:P.underlying it=some (.interface ms))
  (h:bn κ false P (l++[Uy d it it2 x ty pos af]) (RZ x d b Q) l s):AW κ none P (.region id (l++[Uy d it it2 x ty pos af]).toArray false) Q s:=by
 intro φ g a w hs
 refine wpIn_region_list ?_
 simp only [List.toList_toArray]
 refine iB l a w ?_
 have h1:=iO (rd:=none) (φ:=φ) l s g a w h hs (GE.refl g w)
 refine iz ?_ l a w h1
 rintro e a' w' ⟨g',s',hs',hge,hq⟩
 cases e with
 | normal =>
  obtain ⟨⟨v,hev,hv⟩,hq⟩:=hq
  have hx:=dj hs'.tr x
  rw [hev] at hx
  have hx':=hx.raw_eq
  show wpListIn _ _ _ _ _ _ _ _
  simp only [wpListIn,Region.wanted,if_true]
  have he:execOp a'.eval (Uy d it it2 x ty pos af)=(do pure (.value (← (do eqGuard .neq it x (.const .nilIface) (a'.eval x) (a'.eval (.const .nilIface));binOp .neq it (a'.eval x) (a'.eval (.const .nilIface)))))):=rfl
  refine aX (K:=fun y σ'=>y=B b∧σ'=s'.σ) (by simp) he hs' (fun φ hR=>?_) ?_
  ·refine ⟨.bool b,w',g',B b,s'.σ, ?_,hR,GE.refl _ _,.raw _,rfl,rfl⟩
   rw [hx']
   have hc:a'.eval (.const .nilIface)=.nilIface:=rfl
   rw [hc]
   rcases hv with ⟨rfl,rfl⟩|⟨t,u,rfl,rfl⟩
   ·have e1:(Op.equalIn (9999+1) it .nilIface .nilIface).run P w'=.ok true w':=by
     rw [Op.equalIn];simp [bu hu]
    simp [eqGuard,binOp,Op.equal,show Op.maxDepth=9999+1 from rfl,e1]
   ·have e1:(Op.equalIn (9999+1) it (.iface t u) .nilIface).run P w'=.ok false w':=by
     rw [Op.equalIn];simp [bu hu]
    simp [eqGuard,binOp,Op.equal,show Op.maxDepth=9999+1 from rfl,e1]
  ·rintro g2 a2 w2 y σ2 hs2 hge2 ⟨rfl,rfl⟩
   exact ⟨g2,_,hs2,hge.trans hge2,hq⟩
 | exit id=>exact ⟨g',s',hs',hge,hq⟩
 | goto id=>exact ⟨g',s',hs',hge,hq⟩
 | ret=>exact ⟨g',s',hs',hge,hq⟩
 | panic c=>exact ⟨g',s',hs',hge,hq⟩
 | outgrown=>exact ⟨g',s',hs',hge,hq⟩
end
section
variable {κ:Ctx} {P:Program} {all rest:List Oper} {Q:Exit→St→Prop} {d:Option Tmp} {t:List AV} {σ:List Res} {fr:Bool} {df:List Deferred}
theorem pb {xt at_:TypeId}{v:Value} [h:TStruct P at_] (hK:dJ κ false P all Q d rest ⟨t,σ,fr,df⟩ (.tup [.agg [.raw v],B true]) σ):cC κ false P all Q d rest ⟨t,σ,fr,df⟩ (.typeAssert xt at_ true) [.raw (.iface at_ (.agg #[v]))]:=by
 refine cP ?_
 intro φ g w vs hR hvs
 obtain ⟨u,rfl,hu⟩:=kO hvs
 cases hu.raw_eq
 refine ⟨.tuple #[.agg #[v],.bool true],w,g,_,σ, ?_,hR,GE.refl _ _, ?_,hK⟩
 ·show (Instr.typeAssert (.iface at_ (.agg #[v])) xt at_ true).run P w=_
  simp [Instr.typeAssert,bu h.st.choose_spec]
 ·have h4:=TR.two (g:=g) (w:=w) (x:=.agg [.raw v]) (y:=B true) (v:=.agg #[v]) (u:=.bool true) (.agg _ rfl (fun k y hy=>by
   cases k with
   | zero=>cases hy;exact .raw _
   | succ k=>simp at hy)) (.raw _)
  exact .tup _ h4.size h4.get
end
end Go.Abs
/-
 Walks: chapter 13,a run: what is panicked with is recovered.
-/


namespace Go.Proofs.YthkabaiamcjdbaaGreat
open Go.Abs
variable {κ:Ctx} {σ:List Res} {K:Ret→List Res→Prop} {o o':Option (Option (Nat × Nat))}
theorem Tf {b4 b5:Nat}{KD:FrameMode→List Res→Prop} (hK:KD .returning σ):g8 κ Tryz.prog 118 [.raw (.pointer (some ⟨b4,0,none⟩)),.raw (.pointer (some ⟨b5,0,none⟩))] σ .returning KD:=by
 refine fc Tryz.func118 rfl ?_ (by simp [Tryz.ntmps118])
 simp only [Tryz.ntmps118]
 repeat' (first|with_reducible refine ko (id:=1) ?_|simp only [WL,WM,Nat.reduceAdd,Nat.reduceSub])
 refine al (iK (l:=[_]) false Tryz.underlying20 ?_)
 repeat' (first|simp only [WL,WM,and_true,Bool.false_eq_true,oD])
 refine ⟨⟨.nilIface,rfl,.inl rfl⟩, ?_⟩
 repeat' (first|with_reducible refine aw ?_|simp only [WL,WM])
 exact ⟨rfl,rfl,rfl,hK⟩
abbrev Eo (e:Int):FrameMode:=.panicking (bI e)
theorem SO {b4 b5:Nat}{e:Int}{KD:FrameMode→List Res→Prop} (hK:∀ b,KD (qS (Eo e)) (.obj b [I e]::.obj b5 [I e]::.obj b4 [I 0,I 0]::σ)):g8 κ Tryz.prog 118 [.raw (.pointer (some ⟨b4,0,none⟩)),.raw (.pointer (some ⟨b5,0,none⟩))] (.obj b5 [I 0]::.obj b4 [I 0,I 0]::σ) (Eo e) KD:=by
 refine fc Tryz.func118 rfl ?_ (by simp [Tryz.ntmps118])
 simp only [Tryz.ntmps118,show oX (Eo e)=.iface 135 (.agg #[.int .i64 e]) from rfl]
 repeat' (first|with_reducible refine ko (id:=1) ?_|simp only [WL,WM,Nat.reduceAdd,Nat.reduceSub])
 refine al (iK (l:=[_]) true Tryz.underlying20 ?_)
 repeat' (first|simp only [WL,WM,reduceCtorEq,and_true,oD]|with_reducible refine aC (hb:=?_))
 repeat' (first|( with_reducible refine pb ?_)|with_reducible refine aw ?_|simp only [WL,WM,Nat.reduceAdd,Nat.reduceLT,Nat.reduceEqDiff,Bool.not_true,true_and,UB,fR Cq]|(with_reducible first|refine aC (hb:=?_)|refine ax (hK:=?_)|refine aO (hK:=?_)|refine az (hK:=?_)|refine aS (hK:=fun b=>?_)|refine aG (hK:=?_))|((with_reducible refine dq (id:=5) [0,1,2] (some 3) [([],some 4),([],none)] mixed ?_ ?_);kernel_rfl)|((with_reducible apply aQ);intro σq hq;have hqi:=cm hq;clear hq)|(with_reducible exact bU)|((with_reducible apply bA);rfl;rfl)|(with_reducible refine bR (jY (by first|(simp;done)|fail)) ?_))
 exact ⟨rfl,rfl,rfl,hK _⟩
def cf (ls:List Ln) (n d:Int) (bk:Bool) (p:Int × Int):NodeR:=nodeF ls n d bk 200 0 p
theorem rq {x:Operand}{f:FuncId}{cap:List Value}{Q:Exit→St→Prop}{s:St}:IH x f cap Q .normal s=(s.fr=true∧s.ev x=.raw (.func (.func f) #[] cap.toArray)∧Q .normal { s with df:=Eu f cap::s.df }):=rfl
theorem Gx {bj:Nat}{ls:List Ln}{n d:Int}{bk:Bool}{p e:Int × Int}{ev:List EvV}{t:Bool}{ρ τ:List Res} [hS:Split σ bj ρ (JC ls n bk d nilS nilS) τ] (hw:cf ls n d bk p=.ok (ev,e,t)) (hs:Small ls) (hd:0≤d∧d≤1000000000) (hp:PlW p)
  (h1:∀ x' y' τ',JX x' y' [] ev τ' τ→K (.ret (tL (e,t))) (ρ ++ .obj bj (JC ls n bk d x' y')::τ')):ACallF κ Tryz.prog 119 [JP bj,cS p] σ K:=by
 have hJ:JX nilS nilS [] [] τ τ:=⟨[],[],RowR.nil,RowR.nil,List.Perm.refl _⟩
 have hmu:=zd (p:=p) ⟨hp.1,hp.2.2.2⟩
 refine ACallF.at_ (b:=bj) (sx hs hd 200 0 (by decide) (by decide) rfl hJ hp (by rw [List.length_nil];omega) (fun ev' e' t' h x' y' τ' hJ'=>?_) (fun e' h=>?_))
 ·rw [show nodeF ls n d bk 200 0 p=.ok (ev,e,t) from hw] at h
  cases h
  exact h1 _ _ _ hJ'
 ·rw [show nodeF ls n d bk 200 0 p=.ok (ev,e,t) from hw] at h
  cases h
theorem GN {bj:Nat}{ls:List Ln}{n d e:Int}{bk:Bool}{p:Int × Int}{ρ τ:List Res} [hS:Split σ bj ρ (JC ls n bk d nilS nilS) τ] (hw:cf ls n d bk p=.error e) (hs:Small ls) (hd:0≤d∧d≤1000000000) (hp:PlW p)
  (h2:∀ x' y' op' l' τ',JX x' y' op' l' τ' τ→K (.pan (bI e)) (ρ ++ .obj bj (JC ls n bk d x' y')::τ')):ACallF κ Tryz.prog 119 [JP bj,cS p] σ K:=by
 have hJ:JX nilS nilS [] [] τ τ:=⟨[],[],RowR.nil,RowR.nil,List.Perm.refl _⟩
 have hmu:=zd (p:=p) ⟨hp.1,hp.2.2.2⟩
 refine ACallF.at_ (b:=bj) (sx hs hd 200 0 (by decide) (by decide) rfl hJ hp (by rw [List.length_nil];omega) (fun ev' e' t' h x' y' τ' hJ'=>?_) (fun e' h x' y' op' l' τ' hJ'=>?_))
 ·rw [show nodeF ls n d bk 200 0 p=.error e from hw] at h
  cases h
 ·rw [show nodeF ls n d bk 200 0 p=.error e from hw] at h
  cases h
  exact h2 _ _ _ _ _ hJ'
theorem BE {bj:Nat}{ls:List Ln}{n d:Int}{bk:Bool}{p:Int × Int}{τ:List Res} (hs:Small ls) (hd:0≤d∧d≤1000000000) (hp:PlW p)
  (h1:∀ ev e t,cf ls n d bk p=.ok (ev,e,t)→∀ x' y' τ',JX x' y' [] ev τ' τ→K (.ret (.tup [cS e,I 0])) (.obj bj (JC ls n bk d x' y')::τ'))
  (h2:∀ e,cf ls n d bk p=.error e→∀ x' y' op' l' τ',JX x' y' op' l' τ' τ→K (.ret (.tup [cS (0,0),I e])) (.obj bj (JC ls n bk d x' y')::τ')):ACallF κ Tryz.prog 100 [JP bj,cS p] (.obj bj (JC ls n bk d nilS nilS)::τ) K:=by
 have hJ:JX nilS nilS [] [] τ τ:=⟨[],[],RowR.nil,RowR.nil,List.Perm.refl _⟩
 have hmu:=zd (p:=p) ⟨hp.1,hp.2.2.2⟩
 refine ACallF.dropL (jD (cap:=fun _=>True) (fd:=118) Tryz.func100 rfl OL ?_)
 simp only [Tryz.ntmps100]
 repeat' (first|(with_reducible first|refine ko (id:=1) ?_|refine aJ ?_)|simp only [WL,WM,Nat.reduceAdd,Nat.reduceSub]|(with_reducible first|refine aP (hK:=fun b=>?_)|refine aS (hK:=fun b=>?_)))
 rename_i b3 b4
 refine nt (fun _:Unit=>⟨(JP bj::cS p::.any::JP b3::JP b4::JP b::.any::.any::.any::.any::.any::[]),.obj b [I 0]::.obj b4 [I 0,I 0]::.obj b3 [I p.1,I p.2]::.obj bj (JC ls n bk d nilS nilS)::τ,true,[Eu 118 [.pointer (some ⟨b4,0,none⟩),.pointer (some ⟨b,0,none⟩)]]⟩) (fun _=>True) ?_ ?_
 ·refine rv (l:=[_]) 118 [.pointer (some ⟨b4,0,none⟩),.pointer (some ⟨b,0,none⟩)] ?_
  repeat' (first|simp only [WL,WM,true_and,and_true,rq])
  exact ⟨(),ao bz id⟩
 ·intro _ _
  cases hw:cf ls n d bk p with
  | error e =>
   repeat' (first|with_reducible refine aJ ?_|simp only [WL,WM,true_and,ie]|(with_reducible first|refine aA (hK:=?_)|refine cD (GN hw hs hd hp (fun x' y' op' l' τ' hJ'=>?_))))
   refine ⟨[.pointer (some ⟨b4,0,none⟩),.pointer (some ⟨b,0,none⟩)],rfl,rfl,SO (fun bx=>⟨rfl, ?_⟩)⟩
   rw [jf]
   repeat' (first|simp only [WM,Tryz.results100]|((with_reducible refine aU ?_);apply kS (hf:=Tryz.results100);exact aZ;exact eG))
   exact ak bE (aj rfl) (h2 _ hw _ _ _ _ _ hJ')
  | ok r =>
   obtain ⟨ev,e,t⟩:=r
   repeat' (first|(with_reducible first|refine aJ ?_|refine aY ?_)|simp only [WL,WM,Nat.reduceAdd,true_and,fA fa yr xg,ie]|(with_reducible first|refine aA (hK:=?_)|refine aO (hK:=?_)|refine az (hK:=?_)|refine cD (Gx hw hs hd hp (fun x' y' τ' hJ'=>?_))))
   refine ⟨[.pointer (some ⟨b4,0,none⟩),.pointer (some ⟨b,0,none⟩)],rfl,rfl,Tf ⟨rfl, ?_⟩⟩
   rw [jf]
   repeat' (first|simp only [WM,Tryz.results100]|((with_reducible refine aU ?_);apply kS (hf:=Tryz.results100);exact aZ;exact eG))
   exact ak bE (aj rfl) (h1 _ _ _ hw _ _ _ hJ')
def tK (N:Int × Int→NodeR):Prop:=∀ p e,N p=.error e→¬e=0
theorem i7 {ls:List Ln}{n e:Int}{p:Int × Int} (h:ct ls n p=.error e):¬e=0:=by
 unfold ct at h
 split at h<;>first|(cases h;done)|(cases h;decide)
theorem DP {ls:List Ln}{n e:Int}{N:Int × Int→NodeR}{key:(Int × Int) × Bool}{c:Int} (hN:tK N) (h:ee ls n N key c=.error e):¬e=0:=by
 unfold ee at h
 split at h
 ·rename_i hm;cases h;exact i7 hm
 ·split at h
  ·cases h
  ·split at h
   ·rename_i hm;cases h;exact i7 hm
   ·split at h
    ·cases h
    ·split at h
     ·rename_i hn;cases h;exact hN _ _ hn
     ·cases h
theorem t7 {ls:List Ln}{n e:Int}{N:Int × Int→NodeR}{p:Int × Int}{c:Int} (hN:tK N) (h:eD ls n N p c=.error e):¬e=0:=by
 unfold eD at h
 split at h
 ·rename_i hm;cases h;exact i7 hm
 ·split at h
  ·cases h
  ·exact hN _ _ h
theorem lZ {ls:List Ln}{n e c:Int}{N:Int × Int→NodeR}{r:NodeR} (hN:tK N) (hr:∀ e,r=.error e→¬e=0) (h:fh ls n N r c=.error e):¬e=0:=by
 unfold fh at h
 split at h
 ·cases h;exact hr _ rfl
 ·split at h
  ·rename_i hv;cases h;exact DP hN hv
  ·cases h
theorem GP {ls:List Ln}{n e:Int}{N:Int × Int→NodeR}{p:Int × Int} (hN:tK N) (h:gw ls n N p=.error e):¬e=0:=by
 unfold gw at h
 split at h
 ·exact lZ hN (fun e h=>t7 hN h) h
 ·exact lZ hN (fun e h=>hN _ _ h) h
theorem xi {r:PartR}{e:Int} (h:pY r=.error e):r=.error e:=by
 unfold pY at h
 split at h
 ·cases h;rfl
 ·cases h
theorem Gj {ls:List Ln}{n d e:Int}{k:Nat}{N N1:Int × Int→NodeR}{p:Int × Int} (hN:tK N) (hN1:tK N1) (h:eu ls n d k N N1 p=.error e):¬e=0:=by
 unfold eu at h
 split at h
 ·split at h
  ·cases h;decide
  ·exact lZ hN1 (fun e h=>t7 hN1 h) (xi h)
 ·split at h
  ·rename_i hn;cases h;exact hN _ _ hn
  ·split at h
   ·rename_i hm;cases h;exact i7 hm
   ·split at h
    ·cases h
    ·split at h
     ·cases h;decide
     ·exact lZ hN1 (fun e h=>by cases h) (xi h)
theorem qe {ls:List Ln}{n c:Int}{E:Int × Int→PartR} (hE:∀ p e,E p=.error e→¬e=0):∀ {f:Nat}{q:Int × Int}{acc:List EvV}{e:Int},cy ls n E c f q acc=.error e→¬e=0
 | 0,_,_,_,h=>by cases h;decide
 | f+1,q,acc,e,h=>by
  unfold cy at h
  split at h
  ·cases h
  ·split at h
   ·rename_i he;cases h;exact hE _ _ he
   ·split at h
    ·rename_i hm;cases h;exact i7 hm
    ·split at h
     ·split at h
      ·cases h
      ·cases h;decide
     ·split at h
      ·rename_i hm;cases h;exact i7 hm
      ·exact qe hE h
theorem GS {ls:List Ln}{n d c e:Int}{k:Nat}{N:Nat→Int × Int→NodeR}{v:TrV}{p:Int × Int} (hN:∀ k,tK (N k)) (h:gZ ls n d k N p c v=.error e):¬e=0:=by
 unfold gZ at h
 split at h
 ·cases h;decide
 ·split at h
  ·rename_i hm;cases h;exact i7 hm
  ·split at h
   ·rename_i he
    cases h
    refine qe (fun p e h=>?_) he
    split at h
    ·exact GP (hN _) h
    ·exact Gj (hN _) (hN _) h
   ·cases h
theorem jd {ls:List Ln}{n:Int}:∀ {f:Nat}{v:TrV}{q:Int × Int}{ok:Bool}{e:Int},traitsG ls n f v q ok=.error e→¬e=0
 | 0,v,q,false,e,h=>by cases h
 | f+1,v,q,false,e,h=>by cases h
 | 0,v,q,true,e,h=>by
  unfold traitsG at h
  split at h<;>first|(cases h;done)|(cases h;decide)
 | f+1,v,q,true,e,h=>by
  unfold traitsG at h
  split at h
  ·cases h;decide
  ·cases h
  ·split at h
   ·cases h;decide
   ·exact jd h
   ·exact jd h
theorem pK {ls:List Ln}{n c:Int}:∀ {f:Nat}{p:Int × Int}{l:List Int}{all:List (List Int)}{e:Int},quotedN ls n c f p l all=.error e→¬e=0
 | f,p,l,all,e,h=>by
  rw [j1] at h
  split at h
  ·cases h
  ·split at h
   ·cases h;decide
   ·split at h
    ·cases h;decide
    ·cases f with
     | zero=>cases h;decide
     | succ f=>exact pK h
theorem Ac {ls:List Ln}{n c e:Int}{q:Int × Int} (h:cH ls n c q=.error e):¬e=0:=by
 unfold cH at h
 split at h
 ·rename_i hq;cases h;exact pK hq
 ·split at h
  ·split at h
   ·cases h
   ·rename_i hr;cases h;exact hr
  ·cases h
theorem r8 {ls:List Ln}{n:Int}{ib:Bool}:∀ {f:Nat}{p:Int × Int}{l:List Int}{all:List (List Int)}{e:Int},plainN ls n ib f p l all=.error e→¬e=0
 | f,p,l,all,e,h=>by
  rw [jJ] at h
  split at h
  ·cases h;decide
  ·split at h
   ·cases f with
    | zero=>cases h;decide
    | succ f=>exact r8 h
   ·cases h
theorem xQ {ls:List Ln}{n d:Int}{bk:Bool}{k:Nat}{N:Nat→Int × Int→NodeR} (hN:∀ k,tK (N k)):tK (nodeS ls n d bk N k):=by
 intro p e h
 unfold nodeS at h
 split at h
 ·rename_i ht
  cases h
  unfold bG at ht
  split at ht
  ·cases ht;decide
  ·cases ht
  ·exact jd ht
 ·rename_i v q ok ht
  generalize (if ok=true then aF ls q else [])=X at h
  unfold lE at h
  split at h
  ·split at h
   ·cases h;decide
   ·split at h
    ·cases h
    ·cases h;decide
  ·split at h
   ·split at h
    ·rename_i hq;cases h;exact Ac hq
    ·cases h
   ·split at h
    ·split at h
     ·rename_i hq;cases h;exact GS hN hq
     ·cases h
    ·split at h
     ·split at h
      ·rename_i hq
       cases h
       unfold eZ at hq
       split at hq
       ·rename_i hp;cases hq;exact r8 hp
       ·cases hq
      ·cases h
     ·split at h
      ·cases h
      ·cases h;decide
theorem uV {ls:List Ln}{n d:Int}{bk:Bool}:∀ f k,tK (nodeF ls n d bk f k)
 | 0,k=>xQ (fun k p e h=>by cases h;decide)
 | f+1,k=>xQ (fun k=>uV f k)
theorem jP {ls:List Ln}{n d e:Int}{bk:Bool}{p:Int × Int} (h:cf ls n d bk p=.error e):¬e=0:=uV 200 0 p e h
theorem O3 {bj:Nat}{ls:List Ln}{n d:Int}{bk:Bool}{p:Int × Int}{τ:List Res} (hs:Small ls) (hd:0≤d∧d≤1000000000) (hp64:bS p.1∧bS p.2)
  (h0:(p.1 < 0∨(ls.length:Int)≤p.1∨p.2 < 0)→K (.ret (.tup [nilS,I 0,I 0,I 2])) (.obj bj (JC ls n bk d nilS nilS)::τ))
  (h1:∀ ev e t,PlW p→cf ls n d bk p=.ok (ev,e,t)→∀ x' y' τ',JX x' y' [] ev τ' τ→K (.ret (.tup [y',I e.1,I e.2,I 0])) (.obj bj (JC ls n bk d x' y')::τ'))
  (h2:∀ e,PlW p→cf ls n d bk p=.error e→∀ x' y' op' l' τ',JX x' y' op' l' τ' τ→K (.ret (.tup [nilS,I 0,I 0,I e])) (.obj bj (JC ls n bk d x' y')::τ')):ACallF κ Tryz.prog 107 [JP bj,cS p] (.obj bj (JC ls n bk d nilS nilS)::τ) K:=by
 have hl:=hs.1
 by_cases hc:p.1 < 0∨(ls.length:Int)≤p.1∨p.2 < 0
 ·skip
  refine ACallF.dropL (aa Tryz.func107 rfl ?_)
  simp only [Tryz.ntmps107]
  repeat' (first|simp only [WL,aD,WM,reduceCtorEq,ba,Nat.reduceAdd,Nat.reduceSub,Nat.reduceEqDiff,Bool.not_false,true_and,reduceIte,Bool.false_eq_true,T3,fT,fR dK,fR eH,fR gg,lr,Tryz.results107]|(with_reducible first|refine aC (hb:=?_)|refine ax (hK:=?_)|refine aA (hK:=?_)|refine aP (hK:=fun b=>?_))|((with_reducible refine aH (id:=1) 18 mixed ?_ ?_);kernel_rfl)|(with_reducible refine bP ?_)|((with_reducible first|refine ai (fun h=>?_) (fun h=>?_)|refine ab (fun h=>?_) (fun h=>?_))<;>(try simp only [h])<;>(try simp only [bg,bm] at h))|omega)
  all_goals first
   | exact ak bE (aj rfl) (h0 hc)
   | (exfalso;omega)
 ·have hp:PlW p:=⟨by omega,by omega,hp64.2,by omega⟩
  cases hw:cf ls n d bk p with
  | error e =>
   have he:=jP hw
   refine ACallF.dropL (aa Tryz.func107 rfl ?_)
   simp only [Tryz.ntmps107]
   repeat' (first|simp only [WL,aD,WM,reduceCtorEq,ba,Nat.reduceAdd,Nat.reduceSub,Nat.reduceLT,Nat.reduceEqDiff,Bool.not_false,true_and,reduceIte,Bool.false_eq_true,T3,jU,fT,fR dK,fR eH,fR gg,fR fy,lr,Tryz.results107]|(with_reducible first|refine aC (hb:=?_)|refine ax (hK:=?_)|refine aA (hK:=?_)|refine az (hK:=?_)|refine aP (hK:=fun b=>?_)|refine aS (hK:=fun b=>?_)|refine callD_mk (ACallF.at_ (b:=bj) (BE (bk:=bk) hs hd hp (fun ev e' t h=>by rw [hw] at h;cases h) (fun e' he' x' y' op' l' τ' hJ'=>?_))))|((with_reducible refine aH (id:=1) 18 mixed ?_ ?_);kernel_rfl)|((with_reducible refine aH (id:=6) 12 mixed ?_ ?_);kernel_rfl)|(with_reducible refine bP ?_)|((with_reducible first|refine ai (fun h=>?_) (fun h=>?_)|refine ab (fun h=>?_) (fun h=>?_))<;>(try simp only [h])<;>(try simp only [bg,bm] at h))|omega)
   all_goals first
    | exact ak bE (aj rfl) (h2 _ hp he' _ _ _ _ _ hJ')
    | exact absurd (by assumption) (jP he')
  | ok r =>
   obtain ⟨ev,e,t⟩:=r
   refine ACallF.dropL (aa Tryz.func107 rfl ?_)
   simp only [Tryz.ntmps107]
   repeat' (first|simp only [WL,aD,WM,reduceCtorEq,ba,Nat.reduceAdd,Nat.reduceSub,Nat.reduceLT,Nat.reduceEqDiff,Bool.not_false,true_and,reduceIte,Bool.false_eq_true,T3,jU,fT,fR dK,fR eH,fR gg,fR fy,lr,Tryz.results107]|(with_reducible first|refine aC (hb:=?_)|refine ax (hK:=?_)|refine aA (hK:=?_)|refine az (hK:=?_)|refine aP (hK:=fun b=>?_)|refine aS (hK:=fun b=>?_)|refine callD_mk (ACallF.at_ (b:=bj) (BE (bk:=bk) hs hd hp (fun ev' e' t' hw' x' y' τ' hJ'=>?_) (fun e' h=>by rw [hw] at h;cases h))))|((with_reducible refine aH (id:=1) 18 mixed ?_ ?_);kernel_rfl)|((with_reducible refine aH (id:=6) 12 mixed ?_ ?_);kernel_rfl)|(with_reducible refine bP ?_)|((with_reducible first|refine ai (fun h=>?_) (fun h=>?_)|refine ab (fun h=>?_) (fun h=>?_))<;>(try simp only [h])<;>(try simp only [bg,bm] at h))|omega)
   all_goals first
    | exact ak bE (aj rfl) (h1 _ _ _ hp hw' _ _ _ hJ')
    | exact absurd trivial (by assumption)
theorem J9 {x:Ln} (hK:K (.ret (B (decide (x.1 < 0)))) σ):ACallF κ Tryz.prog 32 [LN x] σ K:=by
 refine ACallF.dropL (aa Tryz.func32 rfl ?_)
 simp only [Tryz.ntmps32]
 repeat' (first|simp only [WL,aD,WM,reduceCtorEq,ba,Nat.reduceAdd,Nat.reduceSub,Nat.reduceEqDiff,true_and,T3,fR cX,Tryz.results32]|(with_reducible first|refine aC (hb:=?_)|refine ax (hK:=?_)|refine aP (hK:=fun b=>?_)))
 exact ak (ae ah) (aj rfl) hK
theorem JF {ls:List Ln} (hl:ls.length≤1000000000) (h0:∀ x∈ls,0≤x.1) (hK:K (.ret (I (-1))) σ):ACallF κ Tryz.prog 49 [SL o ls,.raw (.func (.func 32) #[] #[])] σ K:=by
 have hll:(ls.map LN).length=ls.length:=List.length_map _
 refine ACallF.dropL (aa Tryz.func49 rfl ?_)
 simp only [Tryz.ntmps49]
 repeat' (first|simp only [WL,WM,Nat.reduceAdd,Nat.reduceSub,true_and,fT])
 refine bH (fun k:Nat=>⟨(SL o ls::.raw (.func (.func 32) #[] #[])::.any::.any::.any::.any::SL o ls::I ls.length::I k::.any::.any::.any::.any::.any::.any::.any::.any::.any::.any::[]),σ,true,[]⟩) (fun k=>k≤ls.length) (fun k=>ls.length - k) 0 (ao bz id) (Nat.zero_le _) ?_
 intro k hk
 rcases Nat.lt_or_ge k ls.length with hi|hi
 ·have hx:¬(ls.getD k (0,[])).1 < 0:=by
   have:=h0 (ls.getD k (0,[])) (by rw [List.getD_eq_getElem?_getD,List.getElem?_eq_getElem hi];exact List.getElem_mem hi)
   omega
  repeat' (first|simp only [WL,aD,WM,reduceCtorEq,ba,Nat.reduceAdd,true_and,fT,jb,Tryz.results49,decide_eq_false hx,Te]|simp (disch:=first|omega|(simp only [aT];omega)) only [aq,dN]|(with_reducible first|refine aC (hb:=?_)|refine callD_mk (J9 (x:=ls.getD k (0,[])) ?_))|((with_reducible first|refine ai (fun h=>?_) (fun h=>?_)|refine ab (fun h=>?_) (fun h=>?_))<;>(try simp only [h])<;>(try simp only [bg,bm] at h))|omega)
  exact ⟨k+1,ao bz id,by omega,by omega⟩
 ·skip
  repeat' (first|simp only [WL,aD,WM,ne_eq,reduceCtorEq,not_false_eq_true,true_and,fT,jb,Tryz.results49]|with_reducible refine aC (hb:=?_)|((with_reducible first|refine ai (fun h=>?_) (fun h=>?_)|refine ab (fun h=>?_) (fun h=>?_))<;>(try simp only [h])<;>(try simp only [bg,bm] at h))|omega)
  exact ak ah (aj rfl) hK
theorem AD {ls:List Ln} (hl:ls.length≤1000000000) (h0:∀ x∈ls,0≤x.1) (hK:K (.ret (B false)) σ):ACallF κ Tryz.prog 31 [SL o ls,.raw (.func (.func 32) #[] #[])] σ K:=by
 refine ACallF.dropL (aa Tryz.func31 rfl ?_)
 simp only [Tryz.ntmps31]
 repeat' (first|simp only [WL,aD,WM,reduceCtorEq,ba,Nat.reduceAdd,Nat.reduceSub,true_and,Rw,Tryz.results31]|with_reducible refine callD_mk (JF hl h0 ?_))
 exact ak ah (aj rfl) hK
theorem yi {ls:List Ln} (hl:ls.length≤1000000000) (h0:∀ x∈ls,0≤x.1) (hK:K (.ret (SL o ls)) σ):ACallF κ Tryz.prog 23 [SL o ls] σ K:=by
 refine ACallF.dropL (aa Tryz.func23 rfl ?_)
 simp only [Tryz.ntmps23]
 repeat' (first|simp only [WL,WM,Nat.reduceAdd,Nat.reduceSub,Bool.not_false,true_and,S9,Tryz.results23]|with_reducible refine callD_mk (AD hl h0 ?_))
 exact ak ah (aj rfl) hK
theorem Ux {ls:List Ln} (hl:ls.length≤1000000000) (h0:∀ x∈ls,0≤x.1) (hK:∀ b,K (.ret (JP b)) (.obj b [SL none ls]::σ)):ACallF κ Tryz.prog 24 [SL none ls] σ K:=by
 refine ACallF.dropL (aa Tryz.func24 rfl ?_)
 simp only [Tryz.ntmps24]
 repeat' (first|simp only [WL,WM,Nat.reduceAdd,Nat.reduceSub,true_and,L7,Tryz.results24]|(with_reducible first|refine aP (hK:=fun b=>?_)|refine aG (hK:=?_)|refine callD_mk (yi hl h0 ?_)))
 exact ak ah (aj rfl) (hK _)
def bN (ls:List Ln) (i:Int):List Ln:=if 0≤i∧i < ls.length then [ls.getD i.toNat (0,[])] else []
theorem dz {ls:List Ln}{i:Int} (hs:Small ls):Small (bN ls i):=by
 unfold bN
 split
 ·have:=hs.at_ (i:=i.toNat) (by omega)
  exact ⟨by simp,fun x hx=>by simp at hx;subst hx;exact this⟩
 ·exact ⟨by simp,fun x hx=>by simp at hx⟩
theorem wI {ls:List Ln}{i:Int} (hi:0≤i∧i < ls.length):(ls.take (i+1).toNat).drop i.toNat=bN ls i:=by
 unfold bN
 rw [if_pos hi,show (i+1).toNat=i.toNat+1 by omega,List.drop_take,show i.toNat+1 - i.toNat=1 by omega,List.drop_eq_getElem_cons (by omega),List.take_succ_cons,List.take_zero]
 simp [List.getD_eq_getElem?_getD,show i.toNat < ls.length by omega]
theorem zY {ls:List Ln}{i:Int} (hi:¬(0≤i∧i < ls.length)):bN ls i=[]:=if_neg hi
theorem Pf {ls:List Ln}{i:Int} (hl:ls.length≤1000000000) (hK:∀ b,K (.ret (JP b)) (.obj b (JC (bN ls i) (-1) true 0 nilS nilS)::σ)):ACallF κ Tryz.prog 84 [SL none ls,I i] σ K:=by
 have hc':=fun h=>wI (ls:=ls) (i:=i) h
 refine ACallF.dropW ?_
 refine ACallF.dropL (aa Tryz.func84 rfl ?_)
 simp only [Tryz.ntmps84]
 repeat' (first|simp only [WL,aD,WM,reduceCtorEq,ba,Nat.reduceAdd,Nat.reduceSub,Nat.reduceEqDiff,Bool.not_true,true_and,reduceIte,Bool.false_eq_true,fT,jb,fR gg,Tryz.results84]|simp (disch:=first|omega|(simp only [aT];omega)) only [aq]|(with_reducible first|refine aC (hb:=?_)|refine aO (hK:=?_)|refine aP (hK:=fun b=>?_)|refine aG (hK:=?_))|((with_reducible first|refine ai (fun h=>?_) (fun h=>?_)|refine ab (fun h=>?_) (fun h=>?_))<;>(try simp only [h])<;>(try simp only [bg,bm] at h)))
 all_goals first
  | exact ak ah (aj rfl) ⟨.obj _ (JC (bN ls i) (-1) true 0 nilS nilS)::σ,ResW.obj ⟨le_eq (congrArg (SL none) (hc' ⟨by assumption,by assumption⟩).symm),le_rfl,le_rfl,le_rfl,le_rfl,le_rfl,trivial⟩,hK _⟩
  | exact ak ah (aj rfl) ⟨.obj _ (JC (bN ls i) (-1) true 0 nilS nilS)::σ,ResW.obj ⟨by rw [zY (by omega)];exact fq (by decide),le_rfl,le_rfl,le_rfl,le_rfl,le_rfl,trivial⟩,hK _⟩
def kC (k:Int) (p:Int × Int) (l:List Int):Bool:=bV l 58 && (decide (l.length≤1) || blankI (l.getD 1 0)) && decide (p.2 - k≤1024)
def kL (ls:List Ln) (k:Int):Option Int :=
 if (aF ls (0,k)).length=0∨blankI ((aF ls (0,k)).getD 0 0)=true then none
 else match cf ls (-1) 0 true (0,k) with
  | .error _=>none
  | .ok (_,e,_)=>if kC k (bO ls e).1 (bO ls e).2=true then some (bO ls e).1.2 else none
def NJ:Option Int→AV
 | none=>.tup [I 0,B false]
 | some k=>.tup [I k,B true]
theorem jW {ls la:List Ln}{i:Int} (he:bN ls i=la) (hl:ls.length≤1000000000) (hK:∀ b,K (.ret (JP b)) (.obj b (JC la (-1) true 0 nilS nilS)::σ)):ACallF κ Tryz.prog 84 [SL none ls,I i] σ K:=by
 subst he
 exact Pf hl hK
theorem vp:NJ none=.tup [I 0,B false]:=rfl
theorem lY {k:Int}:NJ (some k)=.tup [I k,B true]:=rfl
theorem PlW.of0 {k:Int} (h:bS k) (h0:0≤k):PlW ((0:Int),k):=⟨Int.le_refl 0,(by decide:(0:Int)≤1000000000),h,h0⟩
theorem JX.sub {x y:AV}{op:List Int}{l:List EvV}{τ σ0:List Res} (h:JX x y op l τ σ0):Sub σ0 τ:=by
 obtain ⟨ρx,ρy,r1,r2,hp⟩:=h
 refine og hp.symm ⟨σ0,List.Perm.refl _, ?_⟩
 rw [← List.append_assoc]
 exact List.sublist_append_right _ _
theorem K1 {k:Int}{p:Int × Int}{l:List Int} (h0:0 < l.length) (h1:l.getD 0 0=58) (h2:l.length≤1∨blankI (l.getD 1 0)=true) (h3:p.2 - k≤1024):kC k p l=true:=by
 unfold kC bV
 rw [decide_eq_true h0,h1,decide_eq_true h3]
 rcases h2 with h2|h2
 ·rw [decide_eq_true h2];rfl
 ·rw [h2];simp
theorem J4 {k:Int}{p:Int × Int}{l:List Int} (h:l.length=0∨¬l.getD 0 0=58∨(1 < l.length∧blankI (l.getD 1 0)=false)∨1024 < p.2 - k):kC k p l=false:=by
 unfold kC bV
 rcases h with h|h|⟨h,h'⟩|h
 ·rw [decide_eq_false (by omega)];rfl
 ·rw [beq_eq_false_iff_ne.2 h];simp
 ·rw [decide_eq_false (by omega:¬l.length≤1),h'];simp
 ·rw [decide_eq_false (by omega:¬p.2 - k≤1024)];simp
theorem FV {bj:Nat}{ls:List Ln}{n d:Int}{bk:Bool}{p e:Int × Int}{ev:List EvV}{t:Bool}{ρ τ:List Res} [hS:Split σ bj ρ (JC ls n bk d nilS nilS) τ] (hw:cf ls n d bk p=.ok (ev,e,t)) (hs:Small ls) (hd:0≤d∧d≤1000000000) (hp:PlW p)
  (h1:∀ x' y' τ',JX x' y' [] ev τ' τ→K (.ret (.tup [cS e,I 0])) (ρ ++ .obj bj (JC ls n bk d x' y')::τ')):ACallF κ Tryz.prog 100 [JP bj,cS p] σ K :=
 ACallF.at_ (b:=bj) (BE hs hd hp (fun ev' e' t' h=>by rw [hw] at h;cases h;exact h1) (fun e' h=>by rw [hw] at h;cases h))
theorem GI {bj:Nat}{ls:List Ln}{n d e:Int}{bk:Bool}{p:Int × Int}{ρ τ:List Res} [hS:Split σ bj ρ (JC ls n bk d nilS nilS) τ] (hw:cf ls n d bk p=.error e) (hs:Small ls) (hd:0≤d∧d≤1000000000) (hp:PlW p)
  (h2:∀ x' y' op' l' τ',JX x' y' op' l' τ' τ→K (.ret (.tup [cS (0,0),I e])) (ρ ++ .obj bj (JC ls n bk d x' y')::τ')):ACallF κ Tryz.prog 100 [JP bj,cS p] σ K :=
 ACallF.at_ (b:=bj) (BE hs hd hp (fun ev' e' t' h=>by rw [hw] at h;cases h) (fun e' h=>by rw [hw] at h;cases h;exact h2))
theorem HV {br ix:Nat}{ls:List Ln}{i k:Int} [hR:Hold σ br ix [SL none ls]] (hs:Small ls) (hk:bS k) (hK:K (.ret (NJ (kL (bN ls i) k))) σ):ACallF κ Tryz.prog 81 [JP br,I i,I k] σ K:=by
 have hl:=hs.1
 have hsa:=dz (i:=i) hs
 have hal:(bN ls i).length≤1:=by unfold bN;split<;>simp
 generalize he:bN ls i=la at *
 have hr:=bZ (p:=(0,k)) hsa
 have hr1:=fun h=>cv (p:=(0,k)) hsa h
 unfold kL at hK
 by_cases hc:(aF la (0,k)).length=0∨blankI ((aF la (0,k)).getD 0 0)=true
 ·rw [if_pos hc] at hK
  refine ACallF.dropL (aa Tryz.func81 rfl ?_)
  simp only [Tryz.ntmps81]
  repeat' (first|simp only [WL,aD,WM,Int.reduceToNat,reduceCtorEq,ba,Nat.reduceAdd,Nat.reduceSub,Nat.reduceEqDiff,Bool.not_false,true_and,reduceIte,Bool.false_eq_true,T3,bX,fT,fR lj,fw,te,e8,lr,Tryz.results81]|simp (disch:=first|omega|(simp only [aT];omega)) only [aV]|(with_reducible first|refine aC (hb:=?_)|refine ax (hK:=?_)|refine aA (hK:=?_)|refine az (hK:=?_)|refine aS (hK:=fun b=>?_)|refine aG (hK:=?_)|refine cD (jW he (by omega) (fun bj=>?_))|refine cD (eU (ls:=la) (p:=(0,k)) hsa ⟨(by decide:bS 0),hk⟩ ?_)|refine cD (Blank ?_))|((with_reducible first|refine ai (fun h=>?_) (fun h=>?_)|refine ab (fun h=>?_) (fun h=>?_))<;>(try simp only [h])<;>(try simp only [bg,bm] at h)))
  all_goals first
   | exact ak (ae (ae ah)) (aj rfl) hK
   | (exfalso;simp_all;done)
 ·rw [if_neg hc] at hK
  have hc1:0 < (aF la (0,k)).length:=by omega
  have hc2:blankI ((aF la (0,k)).getD 0 0)=false:=by simpa using fun h=>hc (.inr h)
  have hp:PlW (0,k):=PlW.of0 hk (hr1 hc1).2.2.1
  have hkb:=hr1 hc1
  have hPl:=Pl.of_rest hsa hc1
  dsimp only at hkb
  cases hw:cf la (-1) 0 true (0,k) with
  | error e =>
   have hen:=jP hw
   rw [hw] at hK
   refine ACallF.dropL (aa Tryz.func81 rfl ?_)
   simp only [Tryz.ntmps81]
   repeat' (first|simp only [WL,aD,WM,Int.reduceToNat,reduceCtorEq,ba,Nat.reduceAdd,Nat.reduceSub,Nat.reduceLT,Nat.reduceEqDiff,Bool.not_false,true_and,reduceIte,Bool.false_eq_true,T3,bX,fT,fR lj,fw,te,e8,lr,rN,Tryz.results81,hc2]|simp (disch:=first|omega|(simp only [aT];omega)) only [aV]|(with_reducible first|refine aC (hb:=?_)|refine ax (hK:=?_)|refine aA (hK:=?_)|refine az (hK:=?_)|refine aS (hK:=fun b=>?_)|refine aG (hK:=?_)|refine cD (jW he (by omega) (fun bj=>?_))|refine cD (eU (ls:=la) (p:=(0,k)) hsa ⟨(by decide:bS 0),hk⟩ ?_)|refine callD_mk (GI (bj:=bj) hw hsa (by decide) hp (fun x' y' op' l' τ' hJ'=>?_))|refine cD (Blank ?_))|((with_reducible first|refine ai (fun h=>?_) (fun h=>?_)|refine ab (fun h=>?_) (fun h=>?_))<;>(try simp only [h])<;>(try simp only [bg,bm] at h))|omega)
   all_goals first
    | contradiction
    | exact ak (ae (ae (ae hJ'.sub))) (aj rfl) hK
  | ok r =>
   obtain ⟨ev,e,t⟩:=r
   have hg:=cl hsa 200 0 (0,k) ev e t hPl hw
   have hpe:bS e.1∧bS e.2:=Pl.in64 hsa hg.2.1
   have hql:=rJ (p:=e) hsa
   have hqb:0 < (bO la e).2.length→0≤(bO la e).1.2∧(bO la e).1.2≤4000:=fun h=>by
    have h2:=lV hsa h
    have h3:=cv (p:=(bO la e).1) hsa (by rw [h2];exact h)
    exact ⟨h3.2.2.1,by omega⟩
   rw [hw] at hK
   dsimp only at hK
   have hkT:∀ h:kC k (bO la e).1 (bO la e).2=true,K (.ret (.tup [I (bO la e).1.2,B true])) σ:=fun h=>by rw [if_pos h] at hK;exact hK
   have hkF:∀ h:kC k (bO la e).1 (bO la e).2=false,K (.ret (.tup [I 0,B false])) σ:=fun h=>by rw [if_neg (by rw [h];exact Bool.false_ne_true)] at hK;exact hK
   clear hK
   refine ACallF.dropL (aa Tryz.func81 rfl ?_)
   simp only [Tryz.ntmps81]
   repeat' (first|simp only [WL,aD,WM,Int.reduceToNat,reduceCtorEq,ba,Nat.reduceAdd,Nat.reduceSub,Nat.reduceLT,Nat.reduceEqDiff,Bool.not_true,Bool.not_false,true_and,reduceIte,Bool.false_eq_true,T3,bX,fT,fR lj,fR eH,fw,te,e8,lr,rN,Tryz.results81,hc2]|simp (disch:=first|omega|(simp only [aT];omega)) only [aq,aV]|(with_reducible first|refine aC (hb:=?_)|refine ax (hK:=?_)|refine aA (hK:=?_)|refine az (hK:=?_)|refine aS (hK:=fun b=>?_)|refine aG (hK:=?_)|refine cD (jW he (by omega) (fun bj=>?_))|refine cD (eU (ls:=la) (p:=(0,k)) hsa ⟨(by decide:bS 0),hk⟩ ?_)|refine callD_mk (FV (bj:=bj) hw hsa (by decide) hp (fun x' y' τ' hJ'=>?_))|refine cD (CF (ls:=la) (p:=e) hsa hpe ?_)|refine cD (Blank ?_))|((with_reducible first|refine ai (fun h=>?_) (fun h=>?_)|refine ab (fun h=>?_) (fun h=>?_))<;>(try simp only [h])<;>(try simp only [bg,bm] at h))|omega)
   all_goals first
    | exact ak (ae (ae (ae (ae hJ'.sub)))) (aj rfl) (hkT (K1 (by omega) (by assumption) (by first|exact .inr (by assumption)|exact .inl (by omega)) (by omega)))
    | exact ak (ae (ae (ae (ae hJ'.sub)))) (aj rfl) (hkF (J4 (by first|(exact .inl (by omega))|(exact .inr (.inl (by assumption)))|(exact .inr (.inr (.inl ⟨by omega,by assumption⟩)))|(exact .inr (.inr (.inr (by omega)))))))
    | (exfalso;omega)
    | exact absurd trivial (by assumption)
end Go.Proofs.YthkabaiamcjdbaaGreat
/-
 Chapter 14: the program's reader of documents,as plain functions;nothing of the program is walked here.
-/


namespace Go.Proofs.YthkabaiamcjdbaaGreat
open Go.Abs
abbrev TP:=ByteArray × ByteArray
abbrev PR:=Except Int (List EvV × Int)
abbrev tp0:TP:=(.empty,.empty)
abbrev fY (t:TP):EvV:=⟨7,.empty,t.2,t.1,1,false⟩
abbrev dI (k:Int) (t:TP):EvV:=⟨k,.empty,t.2,t.1,0,false⟩
abbrev aE (ls:List Ln) (i:Int):Ln:=ls.getD i.toNat (0,[])
def lh (ls:List Ln) (i c:Int):Bool:=decide (c < (aE ls i).1) || blankI ((aE ls i).2.getD (c - (aE ls i).1).toNat 0)
def iM (ls:List Ln) (i c:Int):List Int:=(aE ls i).2.drop (min (max c (aE ls i).1 - (aE ls i).1) ((aE ls i).2.length:Int)).toNat
def restP (ls:List Ln) (i c:Int):List Int × Int :=
 if bV ((iM ls i c).drop (nj (iM ls i c))) 35=true∧(0 < nj (iM ls i c)∨max c (aE ls i).1+(nj (iM ls i c):Nat)=0∨lh ls i (max c (aE ls i).1+(nj (iM ls i c):Nat) - 1)=true) then ([],max c (aE ls i).1+(nj (iM ls i c):Nat))
 else ((iM ls i c).drop (nj (iM ls i c)),max c (aE ls i).1+(nj (iM ls i c):Nat))
def signP (ls:List Ln) (i c x:Int):Bool :=
 decide (0≤c - (aE ls i).1) && (decide (c - (aE ls i).1 < (aE ls i).2.length) && ((aE ls i).2.getD (c - (aE ls i).1).toNat 0 == x && (decide (c - (aE ls i).1+1=(aE ls i).2.length) || blankI ((aE ls i).2.getD (c - (aE ls i).1+1).toNat 0))))
def nextB (ls:List Ln):Nat→Int→Int
 | 0,i=>i
 | f+1,i=>if i < ls.length∧cU (aE ls i).2=true then nextB ls f (i+1) else i
def nextP (ls:List Ln) (i:Int):Except Int (Int × Bool) :=
 if bC ls (nextB ls ls.length i)=true then .ok (nextB ls ls.length i,false)
 else if (aE ls (nextB ls ls.length i)).2.getD 0 0=9 then .error 5
 else .ok (nextB ls ls.length i,true)
def furP (ls:List Ln) (i c:Int):Except Int (Int × Bool) :=
 match nextP ls i with
 | .error e=>.error e
 | .ok (k,ok)=>if ok=false∨(aE ls k).1 < c then .ok (i,false) else if c < (aE ls k).1 then .error 7 else .ok (k,true)
def qb (ls:List Ln) (i c:Int):Bool:=signP ls i c 63 || (kL (bN ls i) c).isSome
def du (ls:List Ln) (i c:Int):Except Int (TP × Int) :=
 match bG (bN ls i) (-1) (0,c) with
 | .error e=>.error e
 | .ok (v,_,_)=>.ok ((v.a,v.t),if iD v=true then v.q.2 else c)
def nP (a b:TP):Option TP:=if (ca a.1 || ca b.1) && (ca a.2 || ca b.2) then some (a.1++b.1,a.2++b.2) else none
def rn (t:TP):Bool:=ca t.1 && ca t.2
def mi (t:TP):List EvV→Option (List EvV)
 | []=>none
 | e::r=>if e.k=8 then (if rn t=true then some (e::r) else none) else some ((if rn t=true then e else { e with a:=t.1,t:=t.2 })::r)
def ja (ls:List Ln) (i:Int) (l:List Int) (n:Int) (t:TP):PR :=
 if ¬(fp l).2.2=0 then .error (fp l).2.2
 else if ¬(cE (ls.drop (i+1).toNat) (fp l).1 n).2.2=0 then .error (cE (ls.drop (i+1).toNat) (fp l).1 n).2.2
 else .ok ([⟨7,(cE (ls.drop (i+1).toNat) (fp l).1 n).1,t.2,t.1,if (fp l).1.1=true then 5 else 4,false⟩],i+1+(cE (ls.drop (i+1).toNat) (fp l).1 n).2.1)
def vH (ls:List Ln) (i c:Int) (ev:List EvV):PR:=if 0 < (restP ls i c).1.length then .error 2 else .ok (ev,i+1)
def gv (ls:List Ln) (i c n d:Int) (t:TP):PR :=
 if bV (restP ls i c).1 124=true∨bV (restP ls i c).1 62=true then ja ls i (restP ls i c).1 n t
 else match cf ls n d true (i,(restP ls i c).2) with
  | .error e=>.error e
  | .ok (ev,e,_)=>match mi t ev with
   | none=>.error 2
   | some ev=>vH ls e.1 e.2 ev
def zx (ls:List Ln) (Sq:Int→Int→Bool→TP→PR) (Mp:Int→Int→TP→PR) (R:Int→Int→Bool→TP→PR) (d n:Int) (i c:Int) (lead:Bool) (t:TP):PR :=
 if signP ls i c 45=true then (if lead=true then Sq i c false t else .error 2)
 else if qb ls i c=true then (if lead=true then Mp i c t else .error 2)
 else match du ls i c with
  | .error e=>.error e
  | .ok (more,c2)=>match nP t more with
   | none=>.error 2
   | some t2=>if 0 < (restP ls i c2).1.length then gv ls i c2 n d t2 else R i c2 lead t2
def dO (ls:List Ln) (Sq:Int→Int→Bool→TP→PR) (Mp:Int→Int→TP→PR) (d n:Int) (pair:Bool):Nat→Int→Int→Bool→TP→PR
 | 0,_,_,_,_=>.error 2
 | f+1,i,c,lead,t =>
  if 0 < (restP ls i c).1.length then zx ls Sq Mp (dO ls Sq Mp d n pair f) d n i (restP ls i c).2 lead t
  else match nextP ls (i+1) with
   | .error e=>.error e
   | .ok (k,ok) =>
    if ok=false∨(aE ls k).1 < n∨(aE ls k).1=n∧(pair && signP ls k n 45)=false then .ok ([fY t],i+1)
    else if (aE ls k).1=n then Sq k n true t
    else zx ls Sq Mp (dO ls Sq Mp d n pair f) d n k (aE ls k).1 true t
def e9 (ls:List Ln) (N:Int→Int→Int→Bool→PR) (c:Int) (pair:Bool):Nat→Int→List EvV→PR
 | 0,_,_=>.error 2
 | f+1,i,acc=>match N i (c+1) c false with
  | .error e=>.error e
  | .ok (ev,i2)=>match furP ls i2 c with
   | .error e=>.error e
   | .ok (k,ok) =>
    if ok=false then .ok (acc++ev,i2)
    else if signP ls k c 45=false then (if pair=true then .ok (acc++ev,i2) else .error 2)
    else e9 ls N c pair f k (acc++ev)
def dD (ls:List Ln) (N:Int→Int→Int→Bool→PR) (i c:Int) (pair:Bool) (t:TP):PR :=
 match e9 ls N c pair (ls.length+1) i [] with
 | .error e=>.error e
 | .ok (ev,k)=>.ok (dI 3 t::(ev++[eo 4]),k)
def lq (ls:List Ln) (N:Int→Int→Int→Bool→PR) (i c:Int):PR :=
 match N i (c+1) c false with
 | .error e=>.error e
 | .ok (ev,i2)=>match nextP ls i2 with
  | .error e=>.error e
  | .ok (k,ok) =>
   if ok=true∧(aE ls k).1=c∧signP ls k c 58=true then (match N k (c+1) c false with
    | .error e=>.error e
    | .ok (ev2,i3)=>.ok (ev++ev2,i3))
   else .ok (ev++[fY tp0],i2)
def pairP (ls:List Ln) (N:Int→Int→Int→Bool→PR) (d i c:Int):PR :=
 match kL (bN ls i) c with
 | none=>.error 2
 | some k=>match cf (bN ls i) (-1) d true (0,c) with
  | .error e=>.error e
  | .ok (ev,_,_)=>match N i (k+1) c true with
   | .error e=>.error e
   | .ok (ev2,i2)=>.ok (ev++ev2,i2)
def iT (ls:List Ln) (N:Int→Int→Int→Bool→PR) (d c:Int):Nat→Int→List EvV→PR
 | 0,_,_=>.error 2
 | f+1,i,acc=>match (if signP ls i c 63=true then lq ls N i c else pairP ls N d i c) with
  | .error e=>.error e
  | .ok (ev,i2)=>match furP ls i2 c with
   | .error e=>.error e
   | .ok (k,ok)=>if ok=false then .ok (acc++ev,i2) else iT ls N d c f k (acc++ev)
def rQ (ls:List Ln) (N:Int→Int→Int→Bool→PR) (d i c:Int) (t:TP):PR :=
 match iT ls N d c (ls.length+1) i [] with
 | .error e=>.error e
 | .ok (ev,k)=>.ok (dI 5 t::(ev++[eo 6]),k)
def kM (ls:List Ln):Nat→Int→Int→Bool→Int→Int→Bool→TP→PR
 | 0,d,n,pair,i,c,lead,t=>dO ls (fun _ _ _ _=>.error 8) (fun _ _ _=>.error 8) d n pair (2 * ls.length+2) i c lead t
 | f+1,d,n,pair,i,c,lead,t=>dO ls (dD ls (fun i c n pair=>kM ls f (d+1) n pair i c (!pair) tp0)) (rQ ls (fun i c n pair=>kM ls f (d+1) n pair i c (!pair) tp0) (d+1)) d n pair (2 * ls.length+2) i c lead t
def iA (ls:List Ln) (i c:Int):PR :=
 match kM ls 200 0 (-1) false i c (decide (c=0)) tp0 with
 | .error e=>.error e
 | .ok (ev,k)=>match nextP ls k with
  | .error e=>.error e
  | .ok (k2,ok)=>if ok=false then .ok (ev,k2) else if 0 < (aE ls k2).1 then .error 7 else .error 2
end Go.Proofs.YthkabaiamcjdbaaGreat
/-
 Walks: chapter 14,places on lines.
-/


namespace Go.Proofs.YthkabaiamcjdbaaGreat
open Go.Abs
variable {κ:Ctx} {σ:List Res} {K:Ret→List Res→Prop} {o o':Option (Option (Nat × Nat))}
abbrev RC (ls:List Ln) (br:Nat) (x y:AV):List AV:=[SL none ls,JP br,x,y]
instance:TStruct Tryz.prog 79:=⟨⟨_,Tryz.underlying79⟩⟩
def bF (e:Int):List PanicEntry:=[{ v:=.iface 79 (.agg #[.int .i64 e]),recovered:=false }]
theorem px {ls:List Ln}{i:Int} (hs:Small ls) (hi:0≤i∧i < ls.length):(aE ls i).2.length≤2000∧0≤(aE ls i).1∧(aE ls i).1≤2000:=hs.at_ (by omega)
theorem ny {e:Int} (hK:K (.pan (bF e)) σ):ACallF κ Tryz.prog 52 [I e] σ K:=by
 refine ACallF.dropL (aa Tryz.func52 rfl ?_)
 simp only [Tryz.ntmps52]
 repeat' (first|simp only [WL,WM,Nat.reduceAdd,Nat.reduceSub,true_and]|with_reducible refine aG (hK:=?_)|( refine yT ?_))
 exact aN ah rfl hK
theorem CW {ok:Bool} (h1:ok=true→K (.ret (.tup [])) σ) (h2:ok=false→K (.pan (bF 2)) σ):ACallF κ Tryz.prog 64 [B ok] σ K:=by
 refine ACallF.dropL (aa Tryz.func64 rfl ?_)
 simp only [Tryz.ntmps64]
 repeat' (first|simp only [WL,WM,Nat.reduceAdd,Nat.reduceSub,true_and,nB,Tryz.results64]|with_reducible refine cD (ny ?_)|((with_reducible first|refine ai (fun h=>?_) (fun h=>?_)|refine ab (fun h=>?_) (fun h=>?_))<;>(try simp only [h])<;>(try simp only [bg,bm] at h)))
 ·exact aN ah rfl (h2 (by assumption))
 ·exact ak ah (aj rfl) (h1 (by assumption))
theorem lC (h1:K (.ret (.tup [])) σ):ACallF κ Tryz.prog 64 [B true] σ K:=CW (fun _=>h1) (fun h=>by cases h)
theorem oL (h2:K (.pan (bF 2)) σ):ACallF κ Tryz.prog 64 [B false] σ K:=CW (fun h=>by cases h) (fun _=>h2)
theorem HH {e:Int} (h1:e=0→K (.ret (.tup [])) σ) (h2:e≠0→K (.pan (bF e)) σ):ACallF κ Tryz.prog 68 [I e] σ K:=by
 refine ACallF.dropL (aa Tryz.func68 rfl ?_)
 simp only [Tryz.ntmps68]
 repeat' (first|simp only [WL,aD,WM,reduceCtorEq,ba,Nat.reduceAdd,Nat.reduceSub,true_and,nB,Tryz.results68]|with_reducible refine cD (ny ?_)|((with_reducible first|refine ai (fun h=>?_) (fun h=>?_)|refine ab (fun h=>?_) (fun h=>?_))<;>(try simp only [h])<;>(try simp only [bg,bm] at h)))
 ·exact aN ah rfl (h2 (by assumption))
 ·exact ak ah (aj rfl) (h1 (by assumption))
theorem kA (h1:K (.ret (.tup [])) σ):ACallF κ Tryz.prog 68 [I 0] σ K:=HH (fun _=>h1) (fun h=>absurd rfl h)
theorem AY {e:Int} (he:¬e=0) (h2:K (.pan (bF e)) σ):ACallF κ Tryz.prog 68 [I e] σ K:=HH (fun h=>absurd h he) (fun _=>h2)
theorem Qi {pr br ix:Nat}{ls:List Ln}{x y:AV} [hJ:Hold σ pr ix (RC ls br x y)] {i c:Int} (hs:Small ls) (hi:0≤i∧i < ls.length) (hc:0≤c∧c - (aE ls i).1 < (aE ls i).2.length) (hK:K (.ret (B (lh ls i c))) σ):ACallF κ Tryz.prog 76 [JP pr,I i,I c] σ K:=by
 have ha:=px hs hi
 unfold lh at hK
 dsimp only [aE] at *
 refine ACallF.dropL (aa Tryz.func76 rfl ?_)
 simp only [Tryz.ntmps76]
 repeat' (first|simp only [WL,aD,WM,reduceCtorEq,ba,Nat.reduceAdd,Nat.reduceSub,Nat.reduceEqDiff,Bool.not_false,true_and,reduceIte,Bool.false_eq_true,T3,bX,fT,jb,fR cX,fR dP,fR fW,fw,Tryz.results76]|simp (disch:=first|omega|(simp only [aT];omega)) only [aq,aV,dN,aV]|(with_reducible first|refine aC (hb:=?_)|refine ax (hK:=?_)|refine az (hK:=?_)|refine aS (hK:=fun b=>?_)|refine cD (Blank ?_))|((with_reducible first|refine ai (fun h=>?_) (fun h=>?_)|refine ab (fun h=>?_) (fun h=>?_))<;>(try simp only [h])<;>(try simp only [bg,bm] at h)))
 all_goals first
  | exact ak (ae ah) (aj (congrArg B (by rw [decide_eq_true (by omega)];rfl))) hK
  | exact ak (ae ah) (aj (congrArg B (by rw [decide_eq_false (by omega)];rfl))) hK
theorem dU {pr br ix:Nat}{ls:List Ln}{x y:AV} [hJ:Hold σ pr ix (RC ls br x y)] {i c s:Int} (hs:Small ls) (hi:0≤i∧i < ls.length) (hc:-1000000000≤c∧c≤1000000000) (hK:K (.ret (B (signP ls i c s))) σ):ACallF κ Tryz.prog 61 [JP pr,I i,I c,I s] σ K:=by
 have ha:=px hs hi
 unfold signP at hK
 dsimp only [aE] at *
 refine ACallF.dropL (aa Tryz.func61 rfl ?_)
 simp only [Tryz.ntmps61]
 repeat' (first|simp only [WL,aD,WM,reduceCtorEq,ba,Nat.reduceAdd,Nat.reduceSub,Nat.reduceEqDiff,Bool.not_true,Bool.not_false,true_and,reduceIte,Bool.false_eq_true,T3,bX,fT,jb,fR cX,fR dP,fR fW,fw,Tryz.results61]|simp (disch:=first|omega|(simp only [aT];omega)) only [aq,aV,dN,aV]|(with_reducible first|refine aC (hb:=?_)|refine ax (hK:=?_)|refine az (hK:=?_)|refine aS (hK:=fun b=>?_)|refine cD (Blank ?_))|((with_reducible first|refine ai (fun h=>?_) (fun h=>?_)|refine ab (fun h=>?_) (fun h=>?_))<;>(try simp only [h])<;>(try simp only [bg,bm] at h)))
 all_goals first
  | exact ak (ae ah) (aj (congrArg B (by simp_all;try omega))) hK
end Go.Proofs.YthkabaiamcjdbaaGreat
/-
 Chapter 14: where documents' nodes end,how many events they have,and that errors are no noughts: plain facts.
-/

namespace Go.Proofs.YthkabaiamcjdbaaGreat
open Go.Abs
abbrev OkP (ls:List Ln) (B:Nat) (i:Int) (r:PR):Prop:=∀ ev i2,r=.ok (ev,i2)→i < i2∧i2≤ls.length∧ev.length≤B * (i2 - i).toNat
theorem OkP.mono {ls:List Ln}{B B':Nat}{i:Int}{r:PR} (h:OkP ls B i r) (hb:B≤B'):OkP ls B' i r:=fun ev i2 hr=>by
 obtain ⟨h1,h2,h3⟩:=h ev i2 hr
 exact ⟨h1,h2,Nat.le_trans h3 (Nat.mul_le_mul_right _ hb)⟩
theorem wP {B a b:Nat}{i j k:Int} (h1:i≤j) (h2:j≤k) (ha:a≤B * (j - i).toNat) (hb:b≤B * (k - j).toNat):a+b≤B * (k - i).toNat:=by
 rw [show (k - i).toNat=(j - i).toNat+(k - j).toNat by omega,Nat.mul_add]
 omega
theorem vU {B a:Nat}{i j:Int} (h1:i < j) (ha:a≤B):a≤B * (j - i).toNat :=
 Nat.le_trans ha (Nat.le_mul_of_pos_right _ (by omega))
theorem qL {B C a b:Nat}{i j:Int} (h1:i < j) (ha:a≤B * (j - i).toNat) (hb:b≤C):a+b≤(B+C) * (j - i).toNat:=by
 have:=vU h1 hb
 rw [Nat.add_mul];omega
theorem dG {ls:List Ln}{i c:Int} (hs:Small ls) (hi:0≤i∧i < ls.length):(restP ls i c).1.length≤2000∧max c (aE ls i).1≤(restP ls i c).2∧(restP ls i c).2≤max c (aE ls i).1+2000∧(0 < (restP ls i c).1.length→Pl ls (i,(restP ls i c).2)):=by
 have ha:(aE ls i).2.length≤2000∧0≤(aE ls i).1∧(aE ls i).1≤2000:=hs.at_ (by omega)
 have hc:(iM ls i c).length=(aE ls i).2.length - (min (max c (aE ls i).1 - (aE ls i).1) ((aE ls i).2.length:Int)).toNat:=by
  unfold iM;rw [List.length_drop]
 have hb:=G9 (iM ls i c)
 unfold restP Pl
 split
 ·refine ⟨by simp,by dsimp only;omega,by dsimp only;omega,fun h=>by simp at h⟩
 ·refine ⟨by dsimp only;rw [List.length_drop];omega,by dsimp only;omega,by dsimp only;omega,fun h=>?_⟩
  dsimp only at h ⊢
  rw [List.length_drop] at h
  omega
theorem jO {ls:List Ln}:∀ (f:Nat) (i:Int),i≤nextB ls f i
 | 0,i=>Int.le_refl _
 | f+1,i=>by
  rw [nextB]
  split
  ·have:=jO (ls:=ls) f (i+1);omega
  ·exact Int.le_refl _
theorem nW {ls:List Ln}:∀ (f:Nat) (i:Int),i≤ls.length→nextB ls f i≤ls.length
 | 0,i,h=>h
 | f+1,i,h=>by
  rw [nextB]
  split
  ·exact nW f (i+1) (by omega)
  ·exact h
theorem iE {ls:List Ln}{i k:Int}{ok:Bool} (hi:i≤ls.length) (h:nextP ls i=.ok (k,ok)):i≤k∧k≤ls.length∧(ok=true→k < ls.length):=by
 have h1:=jO (ls:=ls) ls.length i
 have h2:=nW (ls:=ls) ls.length i hi
 unfold nextP at h
 split at h
 ·cases h;exact ⟨h1,h2,fun h=>by cases h⟩
 ·rename_i ho
  split at h
  ·cases h
  ·cases h
   exact ⟨h1,h2,fun _=>by
    have:bC ls (nextB ls ls.length i)=false:=by simpa using ho
    unfold bC at this
    simp only [Bool.or_eq_false_iff,decide_eq_false_iff_not] at this
    omega⟩
theorem sK {ls:List Ln}{i c k:Int}{ok:Bool} (hi:i≤ls.length) (h:furP ls i c=.ok (k,ok)):i≤k∧k≤ls.length∧(ok=true→k < ls.length∧(aE ls k).1=c):=by
 unfold furP at h
 split at h
 ·cases h
 ·rename_i k' ok' hn
  obtain ⟨h1,h2,h3⟩:=iE hi hn
  split at h
  ·cases h;exact ⟨Int.le_refl _,hi,fun h=>by cases h⟩
  ·rename_i hc
   split at h
   ·cases h
   ·cases h
    refine ⟨h1,h2,fun _=>?_⟩
    have:ok'=true:=by simpa using fun h=>hc (.inl h)
    exact ⟨h3 this,by omega⟩
theorem yx (d:Int) (l:List Ln):(dC d l).length≤l.length:=by
 unfold dC
 rw [List.length_map]
 exact (List.takeWhile_sublist _).length_le
theorem Ju {ls:List Ln}{i n:Int}{l:List Int}{t:TP}{B:Nat} (hi:0≤i∧i < ls.length) (hB:1≤B):OkP ls B i (ja ls i l n t):=by
 intro ev i2 h
 unfold ja at h
 split at h
 ·cases h
 ·split at h
  ·cases h
  ·rename_i hb
   cases h
   have hd:(ls.drop (i+1).toNat).length=ls.length - (i+1).toNat:=List.length_drop
   have ht:0≤(cE (ls.drop (i+1).toNat) (fp l).1 n).2.1∧(cE (ls.drop (i+1).toNat) (fp l).1 n).2.1≤(ls.drop (i+1).toNat).length:=by
    unfold cE
    split
    ·simp
    ·have:=yx (iG (ls.drop (i+1).toNat) (fp l).1.2.2 (min (max (-1) n) 1099511627776)).1 (ls.drop (i+1).toNat)
     dsimp only;omega
   exact ⟨by omega,by omega,vU (by omega) hB⟩
theorem xk {t:TP}{l l':List EvV} (h:mi t l=some l'):l'.length=l.length:=by
 cases l with
 | nil=>cases h
 | cons e r =>
  rw [mi] at h
  by_cases h8:e.k=8
  ·rw [if_pos h8] at h
   split at h<;>cases h
   rfl
  ·rw [if_neg h8] at h
   cases h;rfl
theorem KX {ls:List Ln}{i c n d:Int}{t:TP}{B:Nat} (hs:Small ls) (hi:0≤i∧i < ls.length) (h0:0 < (restP ls i c).1.length) (hB:40000≤B):OkP ls B i (gv ls i c n d t):=by
 intro ev i2 h
 have hP:=(dG (c:=c) hs hi).2.2.2 h0
 unfold gv at h
 split at h
 ·exact Ju hi (by omega) ev i2 h
 ·split at h
  ·cases h
  ·rename_i ev1 e1 t1 hw
   obtain ⟨g1,g2,g3,g4⟩:=cl hs 200 0 (i,(restP ls i c).2) ev1 e1 t1 hP hw
   split at h
   ·cases h
   ·rename_i ev2 hset
    have hl:=xk hset
    unfold vH at h
    split at h
    ·cases h
    ·cases h
     unfold Pl at g2
     unfold Le2 at g1
     unfold Pl at hP
     dsimp only at g1 g2 hP
     refine ⟨by omega,by omega, ?_⟩
     rw [hl]
     refine Nat.le_trans ?_ (Nat.mul_le_mul_right _ hB)
     unfold mu at g3
     dsimp only at g3
     omega
theorem DQ {ls:List Ln}{i c e:Int} (h:du ls i c=.error e):¬e=0:=by
 unfold du at h
 split at h
 ·rename_i ht
  cases h
  unfold bG at ht
  split at ht
  ·cases ht;decide
  ·cases ht
  ·exact jd ht
 ·cases h
abbrev MX (ls:List Ln) (B:Nat) (S:Int→Int→Bool→TP→PR) (M:Int→Int→TP→PR):Prop:=(∀ (i c:Int) (b:Bool) (t:TP),0≤i∧i < ls.length→OkP ls B i (S i c b t))∧∀ (i c:Int) (t:TP),0≤i∧i < ls.length→OkP ls B i (M i c t)
theorem L5 {ls:List Ln}{S:Int→Int→Bool→TP→PR}{M:Int→Int→TP→PR}{R:Int→Int→Bool→TP→PR}{d n i c:Int}{lead:Bool}{t:TP}{B:Nat} (hs:Small ls) (hB:40000≤B) (hG:MX ls B S M) (hR:∀ (i c:Int) (b:Bool) (t:TP),0≤i∧i < ls.length→OkP ls B i (R i c b t)) (hi:0≤i∧i < ls.length):OkP ls B i (zx ls S M R d n i c lead t):=by
 intro ev i2 h
 unfold zx at h
 split at h
 ·split at h
  ·exact hG.1 _ _ _ _ hi ev i2 h
  ·cases h
 ·split at h
  ·split at h
   ·exact hG.2 _ _ _ hi ev i2 h
   ·cases h
  ·split at h
   ·cases h
   ·split at h
    ·cases h
    ·split at h
     ·rename_i h0;exact KX hs hi h0 hB ev i2 h
     ·exact hR _ _ _ _ hi ev i2 h
theorem rF {ls:List Ln}{S:Int→Int→Bool→TP→PR}{M:Int→Int→TP→PR}{d n:Int}{pair:Bool}{B:Nat} (hs:Small ls) (hB:40000≤B) (hG:MX ls B S M):∀ (f:Nat) (i c:Int) (lead:Bool) (t:TP),0≤i∧i < ls.length→OkP ls B i (dO ls S M d n pair f i c lead t)
 | 0,i,c,lead,t,hi=>fun ev i2 h=>by cases h
 | f+1,i,c,lead,t,hi=>fun ev i2 h=>by
  have ih:=fun i c b t hi=>rF (d:=d) (n:=n) (pair:=pair) hs hB hG f i c b t hi
  rw [dO] at h
  split at h
  ·exact L5 hs hB hG ih hi ev i2 h
  ·split at h
   ·cases h
   ·rename_i k ok hn
    obtain ⟨h1,h2,h3⟩:=iE (by omega) hn
    split at h
    ·cases h;exact ⟨by omega,by omega,vU (by omega) (by simp;omega)⟩
    ·rename_i hc
     have hok:ok=true:=by simpa using fun h=>hc (.inl h)
     have hk:=h3 hok
     have up:∀ r:PR,OkP ls B k r→r=.ok (ev,i2)→i < i2∧i2≤ls.length∧ev.length≤B * (i2 - i).toNat:=fun r hr he=>by
      obtain ⟨a1,a2,a3⟩:=hr ev i2 he
      exact ⟨by omega,a2,Nat.le_trans a3 (Nat.mul_le_mul_left _ (by omega))⟩
     split at h
     ·exact up _ (hG.1 _ _ _ _ ⟨by omega,hk⟩) h
     ·exact up _ (L5 hs hB hG ih ⟨by omega,hk⟩) h
abbrev kx (ls:List Ln) (B:Nat) (N:Int→Int→Int→Bool→PR):Prop:=∀ (i c n:Int) (b:Bool),0≤i∧i < ls.length→OkP ls B i (N i c n b)
theorem BK {ls:List Ln}{N:Int→Int→Int→Bool→PR}{c:Int}{pair:Bool}{B:Nat} (hG:kx ls B N):∀ (f:Nat) (i:Int) (acc ev:List EvV) (k:Int),0≤i∧i < ls.length→e9 ls N c pair f i acc=.ok (ev,k)→i < k∧k≤ls.length∧ev.length≤acc.length+B * (k - i).toNat
 | 0,i,acc,ev,k,hi,h=>by cases h
 | f+1,i,acc,ev,k,hi,h=>by
  rw [e9] at h
  split at h
  ·cases h
  ·rename_i ev1 i2 hn
   obtain ⟨a1,a2,a3⟩:=hG _ _ _ _ hi _ _ hn
   split at h
   ·cases h
   ·rename_i k' ok hf
    obtain ⟨b1,b2,b3⟩:=sK a2 hf
    have hend:acc++ev1=ev→i2=k→i < k∧k≤ls.length∧ev.length≤acc.length+B * (k - i).toNat:=fun h1 h2=>by
     subst h1;subst h2
     rw [List.length_append]
     exact ⟨a1,a2,by omega⟩
    split at h
    ·cases h;exact hend rfl rfl
    ·rename_i hok
     split at h
     ·split at h
      ·cases h;exact hend rfl rfl
      ·cases h
     ·have hk:=b3 (by simpa using hok)
      obtain ⟨c1,c2,c3⟩:=BK hG f k' (acc++ev1) ev k ⟨by omega,hk.1⟩ h
      refine ⟨by omega,c2, ?_⟩
      rw [List.length_append] at c3
      have:=wP (B:=B) (i:=i) (j:=k') (k:=k) (by omega) (by omega) (Nat.le_trans a3 (Nat.mul_le_mul_left _ (by omega))) (Nat.le_refl _)
      omega
theorem NT {ls:List Ln}{N:Int→Int→Int→Bool→PR}{i c:Int}{pair:Bool}{t:TP}{B:Nat} (hG:kx ls B N) (hi:0≤i∧i < ls.length):OkP ls (B+2) i (dD ls N i c pair t):=by
 intro ev i2 h
 unfold dD at h
 split at h
 ·cases h
 ·rename_i ev1 k hE
  cases h
  obtain ⟨a1,a2,a3⟩:=BK hG _ _ _ _ _ hi hE
  refine ⟨a1,a2, ?_⟩
  have:=qL (B:=B) (C:=2) (a:=ev1.length) (b:=2) a1 (by simpa using a3) (Nat.le_refl _)
  simpa using this
theorem GH {ls:List Ln}{N:Int→Int→Int→Bool→PR}{i c:Int}{B:Nat} (hG:kx ls B N) (hi:0≤i∧i < ls.length):OkP ls (B+1) i (lq ls N i c):=by
 intro ev i2 h
 unfold lq at h
 split at h
 ·cases h
 ·rename_i ev1 j hn
  obtain ⟨a1,a2,a3⟩:=hG _ _ _ _ hi _ _ hn
  split at h
  ·cases h
  ·rename_i k ok hx
   obtain ⟨b1,b2,b3⟩:=iE a2 hx
   split at h
   ·rename_i hc
    split at h
    ·cases h
    ·rename_i ev2 j3 hn2
     cases h
     obtain ⟨c1,c2,c3⟩:=hG _ _ _ _ ⟨by omega,b3 hc.1⟩ _ _ hn2
     refine ⟨by omega,c2, ?_⟩
     rw [List.length_append]
     have:=wP (B:=B) (i:=i) (j:=k) (k:=i2) (by omega) (by omega) (Nat.le_trans a3 (Nat.mul_le_mul_left _ (by omega))) c3
     rw [Nat.add_mul]
     omega
   ·cases h
    refine ⟨a1,a2, ?_⟩
    rw [List.length_append]
    exact qL a1 a3 (Nat.le_refl _)
theorem vK {ls:List Ln}{c k:Int} (hs:Small ls) (h:kL ls c=some k):Pl ls (0,c)∧0≤k∧k≤4000:=by
 unfold kL at h
 split at h
 ·cases h
 ·rename_i h0
  have hp:0 < (aF ls (0,c)).length:=by omega
  refine ⟨Pl.of_rest hs hp, ?_⟩
  split at h
  ·cases h
  ·rename_i e _ hw
   split at h
   ·rename_i hc
    cases h
    unfold kC bV at hc
    simp only [Bool.and_eq_true,decide_eq_true_eq] at hc
    have h1:=lV hs hc.1.1.1
    have h2:=cv (p:=(bO ls e).1) hs (by rw [h1];exact hc.1.1.1)
    omega
   ·cases h
theorem BA {ls:List Ln}{N:Int→Int→Int→Bool→PR}{d i c:Int}{B:Nat} (hs:Small ls) (hG:kx ls B N) (hi:0≤i∧i < ls.length):OkP ls (B+40000) i (pairP ls N d i c):=by
 intro ev i2 h
 unfold pairP at h
 split at h
 ·cases h
 ·rename_i k hk
  have hsa:=dz (i:=i) hs
  have hal:(bN ls i).length≤1:=by unfold bN;split<;>simp
  obtain ⟨hP,-⟩:=vK hsa hk
  split at h
  ·cases h
  ·rename_i ev1 e t hw
   obtain ⟨g1,g2,g3,g4⟩:=cl hsa 200 0 (0,c) ev1 e t hP hw
   have hl:ev1.length≤40000:=by
    unfold Pl at g2 hP
    unfold Le2 at g1
    unfold mu at g3
    dsimp only at g1 g2 g3 hP
    omega
   split at h
   ·cases h
   ·rename_i ev2 j hn
    cases h
    obtain ⟨a1,a2,a3⟩:=hG _ _ _ _ hi _ _ hn
    refine ⟨a1,a2, ?_⟩
    rw [List.length_append,Nat.add_comm]
    exact qL a1 a3 hl
theorem yn {ls:List Ln}{N:Int→Int→Int→Bool→PR}{d c:Int}{B:Nat} (hs:Small ls) (hG:kx ls B N):∀ (f:Nat) (i:Int) (acc ev:List EvV) (k:Int),0≤i∧i < ls.length→iT ls N d c f i acc=.ok (ev,k)→i < k∧k≤ls.length∧ev.length≤acc.length+(B+40000) * (k - i).toNat
 | 0,i,acc,ev,k,hi,h=>by cases h
 | f+1,i,acc,ev,k,hi,h=>by
  have hone:OkP ls (B+40000) i (if signP ls i c 63=true then lq ls N i c else pairP ls N d i c):=by
   split
   ·exact (GH hG hi).mono (by omega)
   ·exact BA hs hG hi
  rw [iT] at h
  split at h
  ·cases h
  ·rename_i ev1 i2 hn
   obtain ⟨a1,a2,a3⟩:=hone _ _ hn
   split at h
   ·cases h
   ·rename_i k' ok hf
    obtain ⟨b1,b2,b3⟩:=sK a2 hf
    split at h
    ·cases h
     rw [List.length_append]
     exact ⟨a1,a2,by omega⟩
    ·rename_i hok
     have hk:=b3 (by simpa using hok)
     obtain ⟨c1,c2,c3⟩:=yn hs hG f k' (acc++ev1) ev k ⟨by omega,hk.1⟩ h
     refine ⟨by omega,c2, ?_⟩
     rw [List.length_append] at c3
     have:=wP (B:=B+40000) (i:=i) (j:=k') (k:=k) (by omega) (by omega) (Nat.le_trans a3 (Nat.mul_le_mul_left _ (by omega))) (Nat.le_refl _)
     omega
theorem Qm {ls:List Ln}{N:Int→Int→Int→Bool→PR}{d i c:Int}{t:TP}{B:Nat} (hs:Small ls) (hG:kx ls B N) (hi:0≤i∧i < ls.length):OkP ls (B+40002) i (rQ ls N d i c t):=by
 intro ev i2 h
 unfold rQ at h
 split at h
 ·cases h
 ·rename_i ev1 k hE
  cases h
  obtain ⟨a1,a2,a3⟩:=yn hs hG _ _ _ _ _ hi hE
  refine ⟨a1,a2, ?_⟩
  have:=qL (B:=B+40000) (C:=2) (a:=ev1.length) (b:=2) a1 (by simpa using a3) (Nat.le_refl _)
  simpa using this
abbrev BP (f:Nat):Nat:=40002 * (f+1)
theorem ry {ls:List Ln} (hs:Small ls):∀ (f:Nat) (d n:Int) (pair:Bool) (i c:Int) (lead:Bool) (t:TP),0≤i∧i < ls.length→OkP ls (BP f) i (kM ls f d n pair i c lead t)
 | 0,d,n,pair,i,c,lead,t,hi=>by
  rw [kM]
  exact rF hs (by decide) ⟨fun _ _ _ _ _ ev i2 h=>(by cases h),fun _ _ _ _ ev i2 h=>(by cases h)⟩ _ _ _ _ _ hi
 | f+1,d,n,pair,i,c,lead,t,hi=>by
  have ih:kx ls (BP f) (fun i c n pair=>kM ls f (d+1) n pair i c (!pair) tp0):=fun i c n b hi=>ry hs f _ _ _ _ _ _ _ hi
  rw [kM]
  refine rF hs (by unfold BP;omega) ⟨fun i c b t hi=>(NT ih hi).mono (by unfold BP;omega),fun i c t hi=>(Qm hs ih hi).mono (by unfold BP;omega)⟩ _ _ _ _ _ hi
theorem F2 {ls:List Ln}{i c:Int}{ev:List EvV}{k:Int} (hs:Small ls) (hi:0≤i∧i < ls.length) (h:iA ls i c=.ok (ev,k)):i < k∧k≤ls.length∧ev.length≤20000000000:=by
 unfold iA at h
 split at h
 ·cases h
 ·rename_i ev1 k1 hl
  obtain ⟨a1,a2,a3⟩:=ry hs _ _ _ _ _ _ _ _ hi _ _ hl
  have hls:=hs.1
  split at h
  ·cases h
  ·rename_i k2 ok hn
   obtain ⟨b1,b2,b3⟩:=iE a2 hn
   split at h
   ·cases h
    refine ⟨by omega,b2,Nat.le_trans a3 ?_⟩
    have:=Nat.mul_le_mul (Nat.le_refl (BP 200)) (show (k1 - i).toNat≤2000 by omega)
    unfold BP at *
    omega
   ·split at h<;>cases h
end Go.Proofs.YthkabaiamcjdbaaGreat
