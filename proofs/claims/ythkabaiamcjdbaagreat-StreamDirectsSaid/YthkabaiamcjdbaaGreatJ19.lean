/-
  Texts HD, MA, MK, HE, HF, Ia, Ib, It, Ka, Kf, Kh, one behind the other.
-/
import Derived.Test.YthkabaiamcjdbaaGreatJ17
import Derived.Test.YthkabaiamcjdbaaGreatJ18
import Derived.RecoverIn
set_option linter.unusedVariables false
set_option linter.unusedSimpArgs false
set_option maxHeartbeats 16000000
namespace Go.Proofs.YthkabaiamcjdbaaGreat
open Go.Abs
variable {κ:Ctx} {σ:List Res} {K:Ret→List Res→Prop} {o o':Option (Option (Nat × Nat))}
theorem IT {bj:Nat}{ls:List Ln}{n d:Int}{bk:Bool}{N:Nat→Int × Int→NodeR}{x y:AV}{op:List Int}{l:List EvV}{τ σ0:List Res}{p:Int × Int} (hs:Small ls) (hd:0≤d∧d≤1000000000)
  (hP:cO d op.length 0=true→pV κ bj ls n d bk (lZ ls n (N (op.length+1))) 178 (op.length+1)) (hI:cO d op.length 0=true→pV κ bj ls n d bk (jd ls n d (op.length+1) (N (op.length+1)) (N (op.length+2))) 177 (op.length+1)) (hG:∀ k,fU ls (N k)) (hJ:JX x y op l τ σ0) (hlo:op.length≤1000000) (hp:PlW p) (hb:l.length+8 * mu p+8≤1000000000)
  (h1:∀ ev e t,ki ls n d bk N op.length p=.ok (ev,e,t)→∀ x' y' τ',JX x' y' op (l++ev) τ' σ0→K (.ret (vh (e,t))) (.obj bj (JC ls n bk d x' y')::τ'))
  (h2:∀ e,ki ls n d bk N op.length p=.error e→∀ x' y' op' l' τ',JX x' y' op' l' τ' σ0→K (.pan (bN e)) (.obj bj (JC ls n bk d x' y')::τ')) :
  ACallF κ Tryz.prog 119 [JP bj,cU p] (.obj bj (JC ls n bk d x y)::τ) K:=by
 have hll:l.length≤1000000000:=by omega
 have hlo2:op.length≤1000000000:=by omega
 unfold ki at h1 h2;cases ht:bS ls n p with
 | error e =>
  rw [ht] at h2;exact Jd hs hp ht (h2 _ rfl _ _ _ _ _ hJ)
 | ok r =>
  obtain ⟨v,q,ok⟩:=r;rw [ht] at h1 h2;dsimp only at h1 h2;obtain ⟨b1,b2,b3⟩:=vd hs hp ht;cases ok
  ·obtain rfl:=b2 rfl
   simp only [Bool.false_eq_true,if_false] at h1 h2;have hh:∀ c,bU [] c=false:=fun c=>rfl
   unfold rq at h1 h2;simp only [hh,Bool.false_eq_true,if_false,false_or,List.length_nil,Nat.lt_irrefl,false_and] at h1 h2;cases ha:jW v
   ·rw [ha,if_neg Bool.false_ne_true] at h2
    exact Cu hs hJ hll hp ht ha (h2 _ rfl _ _ _ _ _ hJ)
   ·rw [ha,if_pos rfl] at h1
    exact Ca hs hJ hll hp ht ha (fun y' τ' hJ'=>h1 _ _ _ rfl _ _ _ hJ')
  ·simp only [if_true] at h1 h2
   obtain ⟨c1,c2,c3,c4⟩:=b1 rfl;have hmu:=iu c1 c2.2.2.1 hp.2.2.2
   have hh:∀ c,bU (aH ls q) c=((aH ls q).getD 0 0 == c):=fun c=>by unfold bU;rw [decide_eq_true c3,Bool.true_and]
   unfold rq at h1 h2;simp only [hh] at h1 h2;generalize hX:aH ls q=X at *;cases e1:(X.getD 0 0 == 42)
   ·simp only [e1,Bool.false_eq_true,if_false] at h1 h2
    cases e2:(X.getD 0 0 == 34)
    ·cases e3:(X.getD 0 0 == 39)
     ·simp only [e2,e3,Bool.false_eq_true,or_self,if_false] at h1 h2
      cases e4:(X.getD 0 0 == 91)
      ·cases e5:(X.getD 0 0 == 123)
       ·simp only [e4,e5,Bool.false_eq_true,or_self,if_false] at h1 h2
        cases e6:fJ X (!(bk && decide (op.length=0)))
        ·simp only [e6,Bool.false_eq_true,and_false,if_false] at h1 h2
         cases ha:jW v
         ·simp only [ha,Bool.false_eq_true,if_false] at h2
          exact Cl hs hJ hll hlo2 hp ht c2 c3 hX e1 e2 e3 e4 e5 e6 ha (h2 _ rfl _ _ _ _ _ hJ)
         ·simp only [ha,if_true] at h1
          exact Cc hs hJ hll hlo2 hp ht c2 c3 hX e1 e2 e3 e4 e5 e6 ha (fun y' τ' hJ'=>h1 _ _ _ rfl _ _ _ hJ')
        ·simp only [e6,c3,and_self,if_true] at h1 h2
         exact DC hs hJ hll hlo2 hp ht c2 c3 hX e1 e2 e3 e4 e5 e6 (fun t e hq y' τ' hJ'=>h1 _ _ _ (by rw [hq]) _ _ _ hJ') (fun e hq=>h2 _ (by rw [hq]) _ _ _ _ _ hJ)
       ·simp only [e4,e5,Bool.false_eq_true,false_or,if_true] at h1 h2
        exact CS hd hP hI hG hlo (by omega) hs hJ hll hlo2 hp ht c2 c3 hX e1 e2 e3 e4 e5 (fun ev e hq x' y' τ' hJ'=>h1 _ _ _ (by rw [hq]) _ _ _ hJ') (fun e hq x' y' op' l' τ' hJ'=>h2 _ (by rw [hq]) _ _ _ _ _ hJ')
      ·simp only [e4,true_or,if_true] at h1 h2
       exact CB hd hP hI hG hlo (by omega) hs hJ hll hlo2 hp ht c2 c3 hX e1 e2 e3 e4 (fun ev e hq x' y' τ' hJ'=>h1 _ _ _ (by rw [hq]) _ _ _ hJ') (fun e hq x' y' op' l' τ' hJ'=>h2 _ (by rw [hq]) _ _ _ _ _ hJ')
     ·simp only [e2,e3,Bool.false_eq_true,false_or,if_true] at h1 h2
      exact yK hs hJ hll hlo2 hp ht c2 c3 hX e1 e2 e3 (fun t s e hq y' τ' hJ'=>h1 _ _ _ (by rw [hq]) _ _ _ hJ') (fun e hq=>h2 _ (by rw [hq]) _ _ _ _ _ hJ)
    ·simp only [e2,true_or,if_true] at h1 h2
     exact yV hs hJ hll hlo2 hp ht c2 c3 hX e1 e2 (fun t s e hq y' τ' hJ'=>h1 _ _ _ (by rw [hq]) _ _ _ hJ') (fun e hq=>h2 _ (by rw [hq]) _ _ _ _ _ hJ)
   ·simp only [e1,if_true] at h1 h2
    cases ha:jW v
    ·simp only [ha,Bool.false_eq_true,if_false] at h1 h2
     exact C7 hs hJ hll hlo2 hp ht c2 c3 hX e1 ha (fun hal y' τ' hJ'=>h1 _ _ _ (if_pos hal) _ _ _ hJ') (fun hal=>h2 _ (if_neg (by rw [hal];decide)) _ _ _ _ _ hJ)
    ·simp only [ha,if_true] at h2
     exact vu hs hJ hll hlo2 hp ht c2 c3 hX e1 ha (h2 _ rfl _ _ _ _ _ hJ)
theorem cM {ls:List Ln}{n d:Int}{bk:Bool} (hs:Small ls):∀ f k,fU ls (lb ls n d bk f k)
 | 0,k=>wV hs (fun k p ev e t hp h=>by cases h)
 | f+1,k=>wV hs (fun k=>cM hs f k)
theorem sq {d:Int}{k:Nat} (hd:0≤d) (h:cO d k 0=true):k < 200:=by
 unfold cO at h;simp only [Bool.and_eq_true,decide_eq_true_eq] at h;omega
theorem uZ {bj:Nat}{ls:List Ln}{n d:Int}{bk:Bool} (hs:Small ls) (hd:0≤d∧d≤1000000000):∀ (f k:Nat),200≤k+f→k≤1000 →
  ∀ {x y:AV} {op:List Int} {l:List EvV} {τ σ0:List Res} {p:Int × Int} {K:Ret→List Res→Prop},op.length=k→JX x y op l τ σ0→PlW p→l.length+8 * mu p+8≤1000000000 →
  (∀ ev e t,lb ls n d bk f k p=.ok (ev,e,t)→∀ x' y' τ',JX x' y' op (l++ev) τ' σ0→K (.ret (vh (e,t))) (.obj bj (JC ls n bk d x' y')::τ')) →
  (∀ e,lb ls n d bk f k p=.error e→∀ x' y' op' l' τ',JX x' y' op' l' τ' σ0→K (.pan (bN e)) (.obj bj (JC ls n bk d x' y')::τ')) →
  ACallF κ Tryz.prog 119 [JP bj,cU p] (.obj bj (JC ls n bk d x y)::τ) K
 | 0,k,hf,hk,x,y,op,l,τ,σ0,p,K,ho,hJ,hp,hb,h1,h2=>by
  subst ho;exact IT hs hd (fun h=>by have:=sq hd.1 h;omega) (fun h=>by have:=sq hd.1 h;omega) (fun k p ev e t hp h=>by cases h) hJ (by omega) hp hb h1 h2
 | f+1,k,hf,hk,x,y,op,l,τ,σ0,p,K,ho,hJ,hp,hb,h1,h2=>by
  subst ho;have ih:∀ k',200≤k'+f→k'≤1000→gS κ bj ls n d bk (lb ls n d bk f k') k':=fun k' a b x y op l τ σ0 p K ho hJ hp hb h1 h2=>uZ hs hd f k' a b ho hJ (hp.w hs) hb h1 h2
  refine IT hs hd (fun h=>?_) (fun h=>?_) (fun k=>cM hs f k) hJ (by omega) hp hb h1 h2
  ·have:=sq hd.1 h
   exact @fun _ _ _ _ _ _ _ _=>Wp hs (ih (op.length+1) (by omega) (by omega)) (cM hs f _)
  ·have:=sq hd.1 h
   exact @fun _ _ _ _ _ _ _ _=>Ye (k:=op.length+1) hs hd (by omega) (ih (op.length+1) (by omega) (by omega)) (cM hs f _) (fun _=>ih (op.length+2) (by omega) (by omega)) (cM hs f _)
end Go.Proofs.YthkabaiamcjdbaaGreat
namespace Go.Abs
open Go.RowKit
/-! ### A list of operations in two parts -/
def Wt (N:Act→World→Prop) (Q:Exit→Act→World→Prop):Exit→Act→World→Prop
 | .normal,a,w=>N a w
 | e,a,w=>Q e a w
theorem Oper.wpIn_appQ {F:Fence}{n:Nat}{P:Program}{o:Oper}{a:Act}{w:World}{N:Act→World→Prop}{K K':Act→World→Prop}{Q:Exit→Act→World→Prop} (hk:∀ a w,K a w→K' a w)
  (hh:o.wpIn F n P a w K (Wt N Q)):o.wpIn F n P a w K' Q:=by
 unfold Oper.wpIn at *;refine ⟨hh.1, ?_⟩;have hh:=hh.2
 generalize (o.semAt F.round a.eval).run P w=r at *;cases r with
 | ok x w' =>
  cases x<;>simp only [Oper.uponIn] at hh ⊢ <;>
   first
    | exact hk _ _ hh
    | exact ⟨hh.1,CallsIn.mono hh.2 (fun e w'' he=>by cases e<;>first|exact hk _ _ he|exact he)⟩
    | exact ⟨hh.1,RowsIn.mono hh.2 (fun _ _ he=>hk _ _ he)⟩
    | exact ⟨hh.1,RoundIn.mono hh.2 (fun e w'' he=>by cases e<;>first|exact hk _ _ he|exact he)⟩
 | halt x w'=>cases x<;>simp only [Oper.uponIn] at hh ⊢<;>exact hh
theorem jj {F:Fence}{n:Nat}{P:Program}{ops:Array Oper}{Q:Exit→Act→World→Prop}{m:List Oper}:∀ (l:List Oper) (a:Act) (w:World),wpListIn F n P ops (Wt (wpListIn F n P ops Q m) Q) l a w→wpListIn F n P ops Q (l++m) a w
 | [],a,w,h=>h
 | o::l,a,w,h=>by
  simp only [List.cons_append,wpListIn] at h ⊢;split
  ·rename_i hw
   rw [if_pos hw] at h;exact Oper.wpIn_appQ (jj l) h
  ·rename_i hw
   rw [if_neg hw] at h;exact ⟨h.1,jj l _ _ h.2⟩
theorem Oper.wpIn_imp {F:Fence}{n:Nat}{P:Program}{o:Oper}{a:Act}{w:World}{K K':Act→World→Prop}{Q Q':Exit→Act→World→Prop} (hk:∀ a w,K a w→K' a w) (hq:∀ e a w,Q e a w→Q' e a w)
  (hh:o.wpIn F n P a w K Q):o.wpIn F n P a w K' Q':=by
 unfold Oper.wpIn at *;refine ⟨hh.1, ?_⟩;have hh:=hh.2
 have hl:LetsOut Q→LetsOut Q':=fun ⟨a,w,h⟩=>⟨a,w,hq _ _ _ h⟩
 generalize (o.semAt F.round a.eval).run P w=r at *;cases r with
 | ok x w' =>
  cases x<;>simp only [Oper.uponIn] at hh ⊢ <;>
   first
    | exact hk _ _ hh
    | exact ⟨hh.1,CallsIn.mono hh.2 (fun e w'' he=>by cases e<;>first|exact hk _ _ he|exact hq _ _ _ he|exact hl he)⟩
    | exact ⟨hh.1,RowsIn.mono hh.2 (fun _ _ he=>hk _ _ he)⟩
    | exact ⟨hh.1,RoundIn.mono hh.2 (fun e w'' he=>by cases e<;>first|exact hk _ _ he|exact hq _ _ _ he|exact hl he)⟩
 | halt x w'=>cases x<;>simp only [Oper.uponIn] at hh ⊢<;>exact hq _ _ _ hh
theorem jv {F:Fence}{n:Nat}{P:Program}{ops:Array Oper}{Q Q':Exit→Act→World→Prop} (hq:∀ e a w,Q e a w→Q' e a w):∀ (l:List Oper) (a:Act) (w:World),wpListIn F n P ops Q l a w→wpListIn F n P ops Q' l a w
 | [],a,w,h=>hq _ _ _ h
 | o::l,a,w,h=>by
  simp only [wpListIn] at h ⊢;split
  ·rename_i hw
   rw [if_pos hw] at h;exact Oper.wpIn_imp (jv hq l) hq h
  ·rename_i hw
   rw [if_neg hw] at h;exact ⟨h.1,jv hq l _ _ h.2⟩
/-! ### The statement 'defer' -/
def HV (f:FuncId) (cap:List Value):Deferred:={ target:=.fn (.func f) cap.toArray,args:=#[] }
section
variable {κ:Ctx} {P:Program}
def K5 (x:Operand) (f:FuncId) (cap:List Value) (Q:Exit→St→Prop):Exit→St→Prop
 | .normal,s=>s.fr=true∧s.ev x=.raw (.func (.func f) #[] cap.toArray)∧Q .normal { s with df:=HV f cap::s.df }
 | e,s=>Q e s
abbrev Y9 (x:Operand) (ty:TypeId) (pos:String) (af:Array Edge) (ts:Array TypeId):Oper:=⟨none,.defer ⟨.value x,#[],ts⟩,ty,pos,af,none⟩
theorem uj {id:Nat}{l:List Oper}{x:Operand}{ty:TypeId}{pos:String}{af:Array Edge}{ts:Array TypeId} (f:FuncId) (cap:List Value) {Q:Exit→St→Prop}{s:St}
  (h:bA κ false P (l++[Y9 x ty pos af ts]) (K5 x f cap Q) l s):AW κ none P (.region id (l++[Y9 x ty pos af ts]).toArray false) Q s:=by
 intro φ g a w hs;refine wpIn_region_list ?_;simp only [List.toList_toArray];refine jj l a w ?_;have h1:=jG (rd:=none) (φ:=φ) l s g a w h hs (GE.refl g w)
 refine jv ?_ l a w h1;rintro e a' w' ⟨g',s',hs',hge,hq⟩;cases e with
 | normal =>
  obtain ⟨hfr,hev,hq⟩:=hq;obtain ⟨ds,hd,hfr',hR,ht⟩:=hs';have hds:=hfr' hfr
  subst hds;have hx:=du (s:=s') ⟨ht.size,ht.get⟩ x
  rw [hev] at hx;have hx':=hx.raw_eq
  show wpListIn _ _ _ _ _ _ _ _
  simp only [wpListIn,Region.wanted,if_true];refine ⟨?_, ?_⟩
  ·intro f' hf';exact rQ none f'
  ·rw [show (FD none).round=none from rfl,Oper.semAt_none]
   have hres:(execOp a'.eval (Y9 x ty pos af ts)).run P w'=.ok (.defer (HV f cap)) w':=by
    simp [execOp,resolve,hx',Deferred.ofValue,HV]
   rw [hres];refine ⟨g',_, ?_,hge,hq⟩;exact ⟨[],by simp only [List.map_nil,List.nil_append] at hd ⊢;show HV f cap::a'.defers=_;rw [hd],fun _=>rfl,hR,ht⟩
 | exit id=>exact ⟨g',s',hs',hge,hq⟩
 | goto id=>exact ⟨g',s',hs',hge,hq⟩
 | ret=>exact ⟨g',s',hs',hge,hq⟩
 | panic c=>exact ⟨g',s',hs',hge,hq⟩
 | outgrown=>exact ⟨g',s',hs',hge,hq⟩
/-! ### Leaving -/
def i5 (κ:Ctx) (P:Program) (f:FuncId) (args:List AV) (σ:List Res) (u:FrameMode) (K:FrameMode→List Res→Prop):Prop :=
 ∀ (φ:List Res) (g:Nat→Nat) (w:World) (vs:Array Value),Rel κ g (φ++σ) w→TR g w args vs →
  CallsDIn Fence.wide 0 P f vs u w fun e u' w'=>∃ v g' σ',e=.returned v∧Rel κ g' (φ++σ') w'∧GE g w g' w'∧K u' σ'
def Rm (κ:Ctx) (P:Program) (fn:Func) (f:FuncId) (cap:List Value) (K:Ret→List Res→Prop):Exit→St→Prop
 | .normal,s=>s.fr=true∧s.df=[HV f cap]∧i5 κ P f (cap.map .raw) s.σ .returning fun u σ'=>u=.returning∧qL κ P fn { s with σ:=σ' } K
 | .ret,s=>s.fr=true∧s.df=[HV f cap]∧i5 κ P f (cap.map .raw) s.σ .returning fun u σ'=>u=.returning∧qL κ P fn { s with σ:=σ' } K
 | .panic c,s=>s.fr=true∧s.df=[HV f cap]∧i5 κ P f (cap.map .raw) s.σ (.panicking c) fun u σ'=>settle u=.returning∧qL κ P fn { s with σ:=σ' } K
 | _,_=>False
theorem wW {fn:Func}{s:St}{K:Ret→List Res→Prop}{f:FuncId}{cap:List Value}{φ:List Res}{g0:Nat→Nat}{w0:World}{u:FrameMode}{g:Nat→Nat}{w:World}{tmps:Array Value} (hu:u≠.run) (hok:ao P f=True)
  (h:i5 κ P f (cap.map .raw) s.σ u fun u' σ'=>settle u'=.returning∧qL κ P fn { s with σ:=σ' } K)
  (hR:Rel κ g (φ++s.σ) w) (ht:TR g w s.t tmps) (hge:GE g0 w0 g w):LeavesInM Fence.wide 0 P fn tmps (fL κ φ g0 w0 K) [HV f cap] u w:=by
 obtain ⟨fn',hf,h1,h2⟩:ao P f:=hok ▸ trivial;refine ⟨hu,.inr ⟨(fun e=>by cases e),.func f,cap.toArray,f,cap.toArray,rfl, ?_,fun _ _=>trivial, ?_⟩⟩
 ·show (invoke (.fn (.func f) cap.toArray) #[]).run P w=_
  simp only [invoke];rw [show (#[]++cap.toArray:Array Value)=cap.toArray by simp];exact jA hf h1 h2 _ _
 ·obtain ⟨hc1,hc2⟩:=h φ g w cap.toArray hR (by simpa using TR.raws cap.toArray)
  refine ⟨hc1,fun c cs hcu hroom=>?_⟩;obtain ⟨e,u',w',fr,⟨v,g',σ',rfl,hR',hge',hs,hk⟩,h3⟩:=hc2 c cs hcu hroom;refine ⟨_,u',w',fr, ?_,h3⟩;show LeavesInM Fence.wide 0 P fn tmps (fL κ φ g0 w0 K) [] (settle u') w'
  rw [hs];obtain ⟨v2,x,a1,a2,a3⟩:=oz hk φ g' w' tmps hR' (ht.mono hge');exact ⟨v2,a1,g',σ',.ret x,hR',hge.trans hge',a2,a3⟩
theorem kE {f fd:FuncId}{fn:Func}{c:Code}{args:List AV}{σ:List Res}{cap:List Value→Prop}{K:Ret→List Res→Prop} (hf:P.funcs[f]? = some fn) (hb:fn.body=some c) (hok:ao P fd=True)
  (h:AW κ none P c (fun e s=>∃ cap,Rm κ P fn fd cap K e s) { t:=args++List.replicate (fn.ntmps - args.length) .any,σ:=σ }):ACallF κ P f args σ K:=by
 intro φ g w vs hR hv;refine callsIn_of_wp_marks hf hb trivial ?_;have hs:SR κ φ g { t:=args++List.replicate (fn.ntmps - args.length) .any,σ:=σ } { tmps:=vs++Array.replicate (fn.ntmps - vs.size) undef,defers:=[] } w:=by
  refine ⟨[],rfl,fun _=>rfl,hR,hv.append ⟨by simp [hv.size],fun k x hk=>?_⟩⟩;rw [List.getElem?_replicate] at hk;split at hk
  ·cases hk;exact .any _
  ·cases hk
 refine wpIn_mono (h φ g _ w hs) ?_;rintro e a' w' ⟨g',s',hs',hge,cap,hq⟩;obtain ⟨ds,hd,hfr,hR',ht'⟩:=hs';have ret:s'.fr=true∧s'.df=[HV fd cap]∧(i5 κ P fd (cap.map .raw) s'.σ .returning fun u σ'=>u=.returning∧qL κ P fn { s' with σ:=σ' } K)→LeavesInM Fence.wide 0 P fn a'.tmps (fL κ φ g w K) a'.defers .returning w':=by
  rintro ⟨q1,q2,q3⟩;have hds:=hfr q1
  subst hds;rw [hd,q2];refine wW (s:=s') (by simp) hok (fun φ g w vs a b=>?_) hR' ht' hge;obtain ⟨b1,b2⟩:=q3 φ g w vs a b;refine ⟨b1,fun c cs hcu hroom=>?_⟩;obtain ⟨e,u',w2,fr,⟨v,g2,σ2,e1,e2,e3,e4,e5⟩,h3⟩:=b2 c cs hcu hroom;exact ⟨e,u',w2,fr,⟨v,g2,σ2,e1,e2,e3,by rw [e4];rfl,e5⟩,h3⟩
 cases e with
 | normal=>exact ret hq
 | ret=>exact ret hq
 | panic ch =>
  obtain ⟨q1,q2,q3⟩:=hq;have hds:=hfr q1
  subst hds;show LeavesInM Fence.wide 0 P fn a'.tmps (fL κ φ g w K) a'.defers (.panicking ch) w'
  rw [hd,q2];exact wW (s:=s') (by simp) hok q3 hR' ht' hge
 | exit id=>exact hq.elim
 | goto id=>exact hq.elim
 | outgrown=>exact hq.elim
/-! ### A deferred function that recovers -/
def ux:FrameMode→FrameMode
 | .panicking ({ v,recovered:=false,goexit:=false }::older)=>.panicking ({ v,recovered:=true }::older)
 | u=>u
def qA:FrameMode→Value
 | .panicking ({ v,recovered:=false,goexit:=false }::_)=>v
 | _=>.nilIface
theorem vq (c:Frame) (cs:List Frame):match recoverD (c::cs) with
  | some (v,cs')=>v=qA c.mode∧cs'={ c with mode:=ux c.mode }::cs
  | none=>qA c.mode=.nilIface∧ux c.mode=c.mode:=by
 simp only [recoverD,qA,ux];split<;>rename_i h
 ·split at h
  ·rename_i hm
   simp only [Option.some.injEq,Prod.mk.injEq] at h;obtain ⟨rfl,rfl⟩:=h;rw [hm];exact ⟨rfl,rfl⟩
  ·cases h
 ·split at h
  ·cases h
  ·rename_i hm
   split
   ·rename_i v older e
    exact absurd e (hm v older)
   ·exact ⟨rfl,rfl⟩
def QW (κ:Ctx) (P:Program) (fn:Func) (K:List Res→Prop):Exit→St→Prop
 | .normal,s=>s.fr=true∧s.df=[]∧fn.results.toList=[]∧K s.σ
 | .ret,s=>s.fr=true∧s.df=[]∧fn.results.toList=[]∧K s.σ
 | _,_=>False
theorem fG {f:FuncId}{fn:Func}{x:Tmp}{t1:Tmp}{ty1 ty2:TypeId}{p1 p2:String}{af1 af2:Array Edge}{id:Nat}{rest:Code}{ts:Array TypeId}{args:List AV}{σ:List Res}{u:FrameMode}{K:FrameMode→List Res→Prop}
  (hf:P.funcs[f]? = some fn) (hb:fn.body=some (.seq (.region id #[⟨some t1,.call ⟨.builtin .recover,#[],ts⟩,ty1,p1,af1,none⟩,⟨some x,.assign (.tmp t1),ty2,p2,af2,none⟩] false) rest))
  (h:AW κ none P rest (QW κ P fn (K (ux u))) { t:=bP (bP (args++List.replicate (fn.ntmps - args.length) .any) (some t1) (.raw (qA u))) (some x) (.raw (qA u)),σ:=σ }) (ht1:t1 < args.length+(fn.ntmps - args.length)):i5 κ P f args σ u K:=by
 intro φ g w vs hR hv;refine callsDIn_of_wpSIn hf hb trivial (fun c₀ cs hcu=>?_);refine wpSIn_seq (wpSIn_region ?_);have hs0:TR g w (args++List.replicate (fn.ntmps - args.length) .any) (vs++Array.replicate (fn.ntmps - vs.size) undef):=by
  refine hv.append ⟨by simp [hv.size],fun k x hk=>?_⟩;rw [List.getElem?_replicate] at hk;split at hk
  ·cases hk;exact .any _
  ·cases hk
 have hrest:∀ v,v=qA u→Code.wpSIn Fence.wide 0 P rest (bodyPostS P fn c₀ cs fun e u' w'=>∃ v g' σ',e=.returned v∧Rel κ g' (φ++σ') w'∧GE g w g' w'∧K u' σ')
   ((Act.put ⟨vs++Array.replicate (fn.ntmps - vs.size) undef,[]⟩ (some t1) v).put (some x) v) ({ c₀ with mode:=ux u }::cs) w:=by
  rintro v rfl;refine wpSIn_of_wpIn rfl ?_;have hs:SR κ φ g { t:=bP (bP (args++List.replicate (fn.ntmps - args.length) .any) (some t1) (.raw (qA u))) (some x) (.raw (qA u)),σ:=σ } ((Act.put ⟨vs++Array.replicate (fn.ntmps - vs.size) undef,[]⟩ (some t1) (qA u)).put (some x) (qA u)) w :=
   ⟨[],rfl,fun _=>rfl,hR,TR.put (TR.put hs0 (some t1) (.raw _) []) (some x) (.raw _) []⟩
  refine wpIn_mono (h φ g _ w hs) ?_;rintro e a' w' ⟨g',s',hs',hge,hq⟩;obtain ⟨ds,hd,hfr,hR',ht'⟩:=hs';have fin:s'.fr=true∧s'.df=[]∧fn.results.toList=[]∧K (ux u) s'.σ→a'.defers=[]∧∃ u',({ c₀ with mode:=ux u }::cs)={ c₀ with mode:=u' }::cs∧∃ v,(results fn a'.tmps).run P w'=.ok v w'∧∃ v2 g' σ',Ending.returned v=.returned v2∧Rel κ g' (φ++σ') w'∧GE g w g' w'∧K u' σ':=by
   rintro ⟨q1,q2,q3,q4⟩;have hds:=hfr q1
   subst hds;have hres:fn.results = #[]:=by
    have:fn.results=fn.results.toList.toArray:=by simp
    rw [this,q3]
   exact ⟨by rw [hd,q2];rfl,ux u,rfl,.tuple #[],by simp [results,hres],_,g',s'.σ,rfl,hR',hge,q4⟩
  cases e with
  | normal=>exact fin hq
  | ret=>exact fin hq
  | panic ch=>exact hq.elim
  | exit id=>exact hq.elim
  | goto id=>exact hq.elim
  | outgrown=>exact hq.elim
 have hrc:=vq c₀ cs
 rw [hcu] at hrc;have hev:∀ v,(Act.put ⟨vs++Array.replicate (fn.ntmps - vs.size) undef,[]⟩ (some t1) v).eval (.tmp t1)=v:=by
  intro v;show ((vs++Array.replicate (fn.ntmps - vs.size) undef).setIfInBounds t1 v).getD t1 undef=v
  have hsz:t1 < (vs++Array.replicate (fn.ntmps - vs.size) undef).size:=by
   simp only [Array.size_append,Array.size_replicate];rw [hv.size];exact ht1
  rw [Array.getD_eq_getD_getElem?,Array.getElem?_setIfInBounds];simp only [if_true];rw [if_pos hsz];rfl
 show wpOpsSIn Fence.wide 0 P _ _ [0,1] _ _ _
 have hw1:∀ tm,Region.wanted ⟨some t1,.call ⟨.builtin .recover,#[],ts⟩,ty1,p1,af1,none⟩ tm=true:=fun _=>rfl
 have hw2:∀ tm,Region.wanted ⟨some x,.assign (.tmp t1),ty2,p2,af2,none⟩ tm=true:=fun _=>rfl
 have hx1:∀ (ρ:Operand→Value) (w:World),(execOp ρ ⟨some t1,.call ⟨.builtin .recover,#[],ts⟩,ty1,p1,af1,none⟩).run P w=.ok .recover w:=fun ρ w=>by
  simp [execOp,resolve,invoke,builtin]
 have hx2:∀ (ρ:Operand→Value) (w:World),(execOp ρ ⟨some x,.assign (.tmp t1),ty2,p2,af2,none⟩).run P w=.ok (.value (ρ (.tmp t1))) w:=fun ρ w=>by
  simp [execOp]
 simp only [wpOpsSIn,List.getElem?_toArray,List.getElem?_cons_zero,List.getElem?_cons_succ,hw1,hw2,hx1,hx2,if_true];refine ⟨fun f' _=>trivial, ?_⟩;cases hr:recoverD (c₀::cs) with
 | none =>
  rw [hr] at hrc;simp only;refine ⟨fun f' _=>trivial, ?_⟩;have h1:=hrest .nilIface hrc.1.symm
  rw [hrc.2] at h1;rw [hev];subst hcu;exact h1
 | some vc =>
  obtain ⟨v,cs'⟩:=vc;rw [hr] at hrc;simp only;refine ⟨fun f' _=>trivial, ?_⟩;have h1:=hrest v hrc.1
  rw [hev];rw [hrc.2];exact h1
end
section
variable {κ:Ctx} {P:Program}
abbrev YX (d:Tmp) (it it2:TypeId) (x:Operand) (ty:TypeId) (pos:String) (af:Array Edge):Oper:=⟨some d,.binOp .neq it x (.const .nilIface) it2,ty,pos,af,none⟩
def Yc (x:Operand) (d:Tmp) (b:Bool) (Q:Exit→St→Prop):Exit→St→Prop
 | .normal,s=>(∃ v:Value,s.ev x=.raw v∧((v=.nilIface∧b=false)∨(∃ t u,v=.iface t u∧b=true)))∧Q .normal { s with t:=bP s.t (some d) (B b) }
 | e,s=>Q e s
theorem qJ {x:Operand}{d:Tmp}{b:Bool}{Q:Exit→St→Prop}{s:St}:Yc x d b Q .normal s=((∃ v:Value,s.ev x=.raw v∧((v=.nilIface∧b=false)∨(∃ t u,v=.iface t u∧b=true)))∧Q .normal { s with t:=bP s.t (some d) (B b) }):=rfl
theorem jE {id:Nat}{l:List Oper}{x:Operand}{d:Tmp}{it it2 ty:TypeId}{pos:String}{af:Array Edge}{Q:Exit→St→Prop}{s:St}{ms:Array (String × TypeId)} (b:Bool) (hu:P.underlying it=some (.interface ms))
  (h:bA κ false P (l++[YX d it it2 x ty pos af]) (Yc x d b Q) l s):AW κ none P (.region id (l++[YX d it it2 x ty pos af]).toArray false) Q s:=by
 intro φ g a w hs;refine wpIn_region_list ?_;simp only [List.toList_toArray];refine jj l a w ?_;have h1:=jG (rd:=none) (φ:=φ) l s g a w h hs (GE.refl g w)
 refine jv ?_ l a w h1;rintro e a' w' ⟨g',s',hs',hge,hq⟩;cases e with
 | normal =>
  obtain ⟨⟨v,hev,hv⟩,hq⟩:=hq;have hx:=du hs'.tr x
  rw [hev] at hx;have hx':=hx.raw_eq
  show wpListIn _ _ _ _ _ _ _ _
  simp only [wpListIn,Region.wanted,if_true];have he:execOp a'.eval (YX d it it2 x ty pos af)=(do pure (.value (← (do eqGuard .neq it x (.const .nilIface) (a'.eval x) (a'.eval (.const .nilIface));binOp .neq it (a'.eval x) (a'.eval (.const .nilIface)))))):=rfl
  refine bm (K:=fun y σ'=>y=B b∧σ'=s'.σ) (by simp) he hs' (fun φ hR=>?_) ?_
  ·refine ⟨.bool b,w',g',B b,s'.σ, ?_,hR,GE.refl _ _,.raw _,rfl,rfl⟩
   rw [hx'];have hc:a'.eval (.const .nilIface)=.nilIface:=rfl
   rw [hc];rcases hv with ⟨rfl,rfl⟩|⟨t,u,rfl,rfl⟩
   ·have e1:(Op.equalIn (9999+1) it .nilIface .nilIface).run P w'=.ok true w':=by
     rw [Op.equalIn];simp [bE hu]
    simp [eqGuard,binOp,Op.equal,show Op.maxDepth=9999+1 from rfl,e1]
   ·have e1:(Op.equalIn (9999+1) it (.iface t u) .nilIface).run P w'=.ok false w':=by
     rw [Op.equalIn];simp [bE hu]
    simp [eqGuard,binOp,Op.equal,show Op.maxDepth=9999+1 from rfl,e1]
  ·rintro g2 a2 w2 y σ2 hs2 hge2 ⟨rfl,rfl⟩
   exact ⟨g2,_,hs2,hge.trans hge2,hq⟩
 | exit id=>exact ⟨g',s',hs',hge,hq⟩
 | goto id=>exact ⟨g',s',hs',hge,hq⟩
 | ret=>exact ⟨g',s',hs',hge,hq⟩
 | panic c=>exact ⟨g',s',hs',hge,hq⟩
 | outgrown=>exact ⟨g',s',hs',hge,hq⟩
end
section
variable {κ:Ctx} {P:Program} {all rest:List Oper} {Q:Exit→St→Prop} {d:Option Tmp} {t:List AV} {σ:List Res} {fr:Bool} {df:List Deferred}
theorem qO {xt at_:TypeId}{v:Value} [h:TStruct P at_] (hK:dw κ false P all Q d rest ⟨t,σ,fr,df⟩ (.tup [.agg [.raw v],B true]) σ):cu κ false P all Q d rest ⟨t,σ,fr,df⟩ (.typeAssert xt at_ true) [.raw (.iface at_ (.agg #[v]))]:=by
 refine cl ?_;intro φ g w vs hR hvs;obtain ⟨u,rfl,hu⟩:=jU hvs;cases hu.raw_eq
 refine ⟨.tuple #[.agg #[v],.bool true],w,g,_,σ, ?_,hR,GE.refl _ _, ?_,hK⟩
 ·show (Instr.typeAssert (.iface at_ (.agg #[v])) xt at_ true).run P w=_
  simp [Instr.typeAssert,bE h.st.choose_spec]
 ·have h4:=TR.two (g:=g) (w:=w) (x:=.agg [.raw v]) (y:=B true) (v:=.agg #[v]) (u:=.bool true) (.agg _ rfl (fun k y hy=>by
   cases k with
   | zero=>cases hy;exact .raw _
   | succ k=>simp at hy)) (.raw _)
  exact .tup _ h4.size h4.get
end
end Go.Abs
namespace Go.Proofs.YthkabaiamcjdbaaGreat
open Go.Abs
variable {κ:Ctx} {σ:List Res} {K:Ret→List Res→Prop} {o o':Option (Option (Nat × Nat))}
theorem VB {b4 b5:Nat}{KD:FrameMode→List Res→Prop} (hK:KD .returning σ):i5 κ Tryz.prog 118 [.raw (.pointer (some ⟨b4,0,none⟩)),.raw (.pointer (some ⟨b5,0,none⟩))] σ .returning KD:=by
 refine fG Tryz.func118 rfl ?_ (by simp [Tryz.ntmps118]);simp only [Tryz.ntmps118]
 repeat' (first|with_reducible refine i6 (id:=1) ?_|simp only [WL,WM,Nat.reduceAdd,Nat.reduceSub])
 refine al (jE (l:=[_]) false Tryz.underlying20 ?_)
 repeat' (first|simp only [WL,WM,and_true,Bool.false_eq_true,qJ])
 refine ⟨⟨.nilIface,rfl,.inl rfl⟩, ?_⟩
 repeat' (first|with_reducible refine aw ?_|simp only [WL,WM])
 exact ⟨rfl,rfl,rfl,hK⟩
abbrev Gz (e:Int):FrameMode:=.panicking (bN e)
theorem Xc {b4 b5:Nat}{e:Int}{KD:FrameMode→List Res→Prop} (hK:∀ b,KD (ux (Gz e)) (.obj b [I e]::.obj b5 [I e]::.obj b4 [I 0,I 0]::σ)):i5 κ Tryz.prog 118 [.raw (.pointer (some ⟨b4,0,none⟩)),.raw (.pointer (some ⟨b5,0,none⟩))] (.obj b5 [I 0]::.obj b4 [I 0,I 0]::σ) (Gz e) KD:=by
 refine fG Tryz.func118 rfl ?_ (by simp [Tryz.ntmps118]);simp only [Tryz.ntmps118,show qA (Gz e)=.iface 135 (.agg #[.int .i64 e]) from rfl]
 repeat' (first|with_reducible refine i6 (id:=1) ?_|simp only [WL,WM,Nat.reduceAdd,Nat.reduceSub])
 refine al (jE (l:=[_]) true Tryz.underlying20 ?_)
 repeat' (first|simp only [WL,WM,reduceCtorEq,and_true,qJ]|with_reducible refine ax (hb:=?_))
 repeat' (first|( with_reducible refine qO ?_)|with_reducible refine aw ?_|simp only [WL,WM,Nat.reduceAdd,Nat.reduceLT,Nat.reduceEqDiff,Bool.not_true,true_and,Yv,fR FE]|(with_reducible first|refine ax (hb:=?_)|refine au (hK:=?_)|refine aP (hK:=?_)|refine az (hK:=?_)|refine aV (hK:=fun b=>?_)|refine aI (hK:=?_))|((with_reducible refine dH (id:=5) [0,1,2] (some 3) [([],some 4),([],none)] mixed ?_ ?_);kernel_rfl)|((with_reducible apply aW);intro σq hq;have hqi:=cy hq;clear hq)|(with_reducible exact b9)|((with_reducible apply bD);rfl;rfl)|(with_reducible refine bV (me (by first|(simp;done)|fail)) ?_))
 exact ⟨rfl,rfl,rfl,hK _⟩
def ct (ls:List Ln) (n d:Int) (bk:Bool) (p:Int × Int):NodeR:=lb ls n d bk 200 0 p
theorem tj {x:Operand}{f:FuncId}{cap:List Value}{Q:Exit→St→Prop}{s:St}:K5 x f cap Q .normal s=(s.fr=true∧s.ev x=.raw (.func (.func f) #[] cap.toArray)∧Q .normal { s with df:=HV f cap::s.df }):=rfl
theorem Ju {bj:Nat}{ls:List Ln}{n d:Int}{bk:Bool}{p e:Int × Int}{ev:List EvV}{t:Bool}{ρ τ:List Res} [hS:Split σ bj ρ (JC ls n bk d nilS nilS) τ] (hw:ct ls n d bk p=.ok (ev,e,t)) (hs:Small ls) (hd:0≤d∧d≤1000000000) (hp:PlW p)
  (h1:∀ x' y' τ',JX x' y' [] ev τ' τ→K (.ret (vh (e,t))) (ρ ++ .obj bj (JC ls n bk d x' y')::τ')):ACallF κ Tryz.prog 119 [JP bj,cU p] σ K:=by
 have hJ:JX nilS nilS [] [] τ τ:=⟨[],[],RowR.nil,RowR.nil,List.Perm.refl _⟩
 have hmu:=zQ (p:=p) ⟨hp.1,hp.2.2.2⟩
 refine ACallF.at_ (b:=bj) (uZ hs hd 200 0 (by decide) (by decide) rfl hJ hp (by rw [List.length_nil];omega) (fun ev' e' t' h x' y' τ' hJ'=>?_) (fun e' h=>?_))
 ·rw [show lb ls n d bk 200 0 p=.ok (ev,e,t) from hw] at h
  cases h
  exact h1 _ _ _ hJ'
 ·rw [show lb ls n d bk 200 0 p=.ok (ev,e,t) from hw] at h
  cases h
theorem Ke {bj:Nat}{ls:List Ln}{n d e:Int}{bk:Bool}{p:Int × Int}{ρ τ:List Res} [hS:Split σ bj ρ (JC ls n bk d nilS nilS) τ] (hw:ct ls n d bk p=.error e) (hs:Small ls) (hd:0≤d∧d≤1000000000) (hp:PlW p)
  (h2:∀ x' y' op' l' τ',JX x' y' op' l' τ' τ→K (.pan (bN e)) (ρ ++ .obj bj (JC ls n bk d x' y')::τ')):ACallF κ Tryz.prog 119 [JP bj,cU p] σ K:=by
 have hJ:JX nilS nilS [] [] τ τ:=⟨[],[],RowR.nil,RowR.nil,List.Perm.refl _⟩
 have hmu:=zQ (p:=p) ⟨hp.1,hp.2.2.2⟩
 refine ACallF.at_ (b:=bj) (uZ hs hd 200 0 (by decide) (by decide) rfl hJ hp (by rw [List.length_nil];omega) (fun ev' e' t' h x' y' τ' hJ'=>?_) (fun e' h x' y' op' l' τ' hJ'=>?_))
 ·rw [show lb ls n d bk 200 0 p=.error e from hw] at h
  cases h
 ·rw [show lb ls n d bk 200 0 p=.error e from hw] at h
  cases h
  exact h2 _ _ _ _ _ hJ'
theorem EO {bj:Nat}{ls:List Ln}{n d:Int}{bk:Bool}{p:Int × Int}{τ:List Res} (hs:Small ls) (hd:0≤d∧d≤1000000000) (hp:PlW p)
  (h1:∀ ev e t,ct ls n d bk p=.ok (ev,e,t)→∀ x' y' τ',JX x' y' [] ev τ' τ→K (.ret (.tup [cU e,I 0])) (.obj bj (JC ls n bk d x' y')::τ'))
  (h2:∀ e,ct ls n d bk p=.error e→∀ x' y' op' l' τ',JX x' y' op' l' τ' τ→K (.ret (.tup [cU (0,0),I e])) (.obj bj (JC ls n bk d x' y')::τ')):ACallF κ Tryz.prog 100 [JP bj,cU p] (.obj bj (JC ls n bk d nilS nilS)::τ) K:=by
 have hJ:JX nilS nilS [] [] τ τ:=⟨[],[],RowR.nil,RowR.nil,List.Perm.refl _⟩
 have hmu:=zQ (p:=p) ⟨hp.1,hp.2.2.2⟩
 refine ACallF.dropL (kE (cap:=fun _=>True) (fd:=118) Tryz.func100 rfl Tk ?_);simp only [Tryz.ntmps100]
 repeat' (first|(with_reducible first|refine i6 (id:=1) ?_|refine aG ?_)|simp only [WL,WM,Nat.reduceAdd,Nat.reduceSub]|(with_reducible first|refine aQ (hK:=fun b=>?_)|refine aV (hK:=fun b=>?_)))
 rename_i b3 b4;refine nW (fun _:Unit=>⟨(JP bj::cU p::.any::JP b3::JP b4::JP b::.any::.any::.any::.any::.any::[]),.obj b [I 0]::.obj b4 [I 0,I 0]::.obj b3 [I p.1,I p.2]::.obj bj (JC ls n bk d nilS nilS)::τ,true,[HV 118 [.pointer (some ⟨b4,0,none⟩),.pointer (some ⟨b,0,none⟩)]]⟩) (fun _=>True) ?_ ?_
 ·refine uj (l:=[_]) 118 [.pointer (some ⟨b4,0,none⟩),.pointer (some ⟨b,0,none⟩)] ?_
  repeat' (first|simp only [WL,WM,true_and,and_true,tj])
  exact ⟨(),aq bH id⟩
 ·intro _ _
  cases hw:ct ls n d bk p with
  | error e =>
   repeat' (first|with_reducible refine aG ?_|simp only [WL,WM,true_and,jb]|(with_reducible first|refine aA (hK:=?_)|refine cD (Ke hw hs hd hp (fun x' y' op' l' τ' hJ'=>?_))))
   refine ⟨[.pointer (some ⟨b4,0,none⟩),.pointer (some ⟨b,0,none⟩)],rfl,rfl,Xc (fun bx=>⟨rfl, ?_⟩)⟩;rw [ko]
   repeat' (first|simp only [WM,Tryz.results100]|((with_reducible refine aY ?_);apply lN (hf:=Tryz.results100);exact bn;exact dT))
   exact ak bC (aj rfl) (h2 _ hw _ _ _ _ _ hJ')
  | ok r =>
   obtain ⟨ev,e,t⟩:=r
   repeat' (first|(with_reducible first|refine aG ?_|refine aO ?_)|simp only [WL,WM,Nat.reduceAdd,true_and,fA fE BY zA,jb]|(with_reducible first|refine aA (hK:=?_)|refine aP (hK:=?_)|refine az (hK:=?_)|refine cD (Ju hw hs hd hp (fun x' y' τ' hJ'=>?_))))
   refine ⟨[.pointer (some ⟨b4,0,none⟩),.pointer (some ⟨b,0,none⟩)],rfl,rfl,VB ⟨rfl, ?_⟩⟩;rw [ko]
   repeat' (first|simp only [WM,Tryz.results100]|((with_reducible refine aY ?_);apply lN (hf:=Tryz.results100);exact bn;exact dT))
   exact ak bC (aj rfl) (h1 _ _ _ hw _ _ _ hJ')
def vC (N:Int × Int→NodeR):Prop:=∀ p e,N p=.error e→¬e=0
theorem jR {ls:List Ln}{n e:Int}{p:Int × Int} (h:dh ls n p=.error e):¬e=0:=by
 unfold dh at h;split at h<;>first|(cases h;done)|(cases h;decide)
theorem HT {ls:List Ln}{n e:Int}{N:Int × Int→NodeR}{key:(Int × Int) × Bool}{c:Int} (hN:vC N) (h:fO ls n N key c=.error e):¬e=0:=by
 unfold fO at h;split at h
 ·rename_i hm;cases h;exact jR hm
 ·split at h
  ·cases h
  ·split at h
   ·rename_i hm;cases h;exact jR hm
   ·split at h
    ·cases h
    ·split at h
     ·rename_i hn;cases h;exact hN _ _ hn
     ·cases h
theorem xc {ls:List Ln}{n e:Int}{N:Int × Int→NodeR}{p:Int × Int}{c:Int} (hN:vC N) (h:gr ls n N p c=.error e):¬e=0:=by
 unfold gr at h;split at h
 ·rename_i hm;cases h;exact jR hm
 ·split at h
  ·cases h
  ·exact hN _ _ h
theorem nQ {ls:List Ln}{n e c:Int}{N:Int × Int→NodeR}{r:NodeR} (hN:vC N) (hr:∀ e,r=.error e→¬e=0) (h:hZ ls n N r c=.error e):¬e=0:=by
 unfold hZ at h;split at h
 ·cases h;exact hr _ rfl
 ·split at h
  ·rename_i hv;cases h;exact HT hN hv
  ·cases h
theorem LG {ls:List Ln}{n e:Int}{N:Int × Int→NodeR}{p:Int × Int} (hN:vC N) (h:lZ ls n N p=.error e):¬e=0:=by
 unfold lZ at h;split at h
 ·exact nQ hN (fun e h=>xc hN h) h
 ·exact nQ hN (fun e h=>hN _ _ h) h
theorem BO {r:PartR}{e:Int} (h:w9 r=.error e):r=.error e:=by
 unfold w9 at h;split at h
 ·cases h;rfl
 ·cases h
theorem JG {ls:List Ln}{n d e:Int}{k:Nat}{N N1:Int × Int→NodeR}{p:Int × Int} (hN:vC N) (hN1:vC N1) (h:jd ls n d k N N1 p=.error e):¬e=0:=by
 unfold jd at h;split at h
 ·split at h
  ·cases h;decide
  ·exact nQ hN1 (fun e h=>xc hN1 h) (BO h)
 ·split at h
  ·rename_i hn;cases h;exact hN _ _ hn
  ·split at h
   ·rename_i hm;cases h;exact jR hm
   ·split at h
    ·cases h
    ·split at h
     ·cases h;decide
     ·exact nQ hN1 (fun e h=>by cases h) (BO h)
theorem rm {ls:List Ln}{n c:Int}{E:Int × Int→PartR} (hE:∀ p e,E p=.error e→¬e=0):∀ {f:Nat}{q:Int × Int}{acc:List EvV}{e:Int},dF ls n E c f q acc=.error e→¬e=0
 | 0,_,_,_,h=>by cases h;decide
 | f+1,q,acc,e,h=>by
  unfold dF at h;split at h
  ·cases h
  ·split at h
   ·rename_i he;cases h;exact hE _ _ he
   ·split at h
    ·rename_i hm;cases h;exact jR hm
    ·split at h
     ·split at h
      ·cases h
      ·cases h;decide
     ·split at h
      ·rename_i hm;cases h;exact jR hm
      ·exact rm hE h
theorem LS {ls:List Ln}{n d c e:Int}{k:Nat}{N:Nat→Int × Int→NodeR}{v:TrV}{p:Int × Int} (hN:∀ k,vC (N k)) (h:l5 ls n d k N p c v=.error e):¬e=0:=by
 unfold l5 at h;split at h
 ·cases h;decide
 ·split at h
  ·rename_i hm;cases h;exact jR hm
  ·split at h
   ·rename_i he
    cases h
    refine rm (fun p e h=>?_) he;split at h
    ·exact LG (hN _) h
    ·exact JG (hN _) (hN _) h
   ·cases h
theorem kp {ls:List Ln}{n:Int}:∀ {f:Nat}{v:TrV}{q:Int × Int}{ok:Bool}{e:Int},cJ ls n f v q ok=.error e→¬e=0
 | 0,v,q,false,e,h=>by cases h
 | f+1,v,q,false,e,h=>by cases h
 | 0,v,q,true,e,h=>by
  unfold cJ at h;split at h<;>first|(cases h;done)|(cases h;decide)
 | f+1,v,q,true,e,h=>by
  unfold cJ at h;split at h
  ·cases h;decide
  ·cases h
  ·split at h
   ·cases h;decide
   ·exact kp h
   ·exact kp h
theorem rB {ls:List Ln}{n c:Int}:∀ {f:Nat}{p:Int × Int}{l:List Int}{all:List (List Int)}{e:Int},jw ls n c f p l all=.error e→¬e=0
 | f,p,l,all,e,h=>by
  rw [o3] at h;split at h
  ·cases h
  ·split at h
   ·cases h;decide
   ·split at h
    ·cases h;decide
    ·cases f with
     | zero=>cases h;decide
     | succ f=>exact rB h
theorem DN {ls:List Ln}{n c e:Int}{q:Int × Int} (h:dk ls n c q=.error e):¬e=0:=by
 unfold dk at h;split at h
 ·rename_i hq;cases h;exact rB hq
 ·split at h
  ·split at h
   ·cases h
   ·rename_i hr;cases h;exact hr
  ·cases h
theorem tG {ls:List Ln}{n:Int}{ib:Bool}:∀ {f:Nat}{p:Int × Int}{l:List Int}{all:List (List Int)}{e:Int},mr ls n ib f p l all=.error e→¬e=0
 | f,p,l,all,e,h=>by
  rw [kQ] at h;split at h
  ·cases h;decide
  ·split at h
   ·cases f with
    | zero=>cases h;decide
    | succ f=>exact tG h
   ·cases h
theorem zH {ls:List Ln}{n d:Int}{bk:Bool}{k:Nat}{N:Nat→Int × Int→NodeR} (hN:∀ k,vC (N k)):vC (ki ls n d bk N k):=by
 intro p e h;unfold ki at h;split at h
 ·rename_i ht
  cases h
  unfold bS at ht;split at ht
  ·cases ht;decide
  ·cases ht
  ·exact kp ht
 ·rename_i v q ok ht
  generalize (if ok=true then aH ls q else [])=X at h;unfold rq at h;split at h
  ·split at h
   ·cases h;decide
   ·split at h
    ·cases h
    ·cases h;decide
  ·split at h
   ·split at h
    ·rename_i hq;cases h;exact DN hq
    ·cases h
   ·split at h
    ·split at h
     ·rename_i hq;cases h;exact LS hN hq
     ·cases h
    ·split at h
     ·split at h
      ·rename_i hq
       cases h
       unfold fP at hq;split at hq
       ·rename_i hp;cases hq;exact tG hp
       ·cases hq
      ·cases h
     ·split at h
      ·cases h
      ·cases h;decide
theorem xm {ls:List Ln}{n d:Int}{bk:Bool}:∀ f k,vC (lb ls n d bk f k)
 | 0,k=>zH (fun k p e h=>by cases h;decide)
 | f+1,k=>zH (fun k=>xm f k)
theorem kO {ls:List Ln}{n d e:Int}{bk:Bool}{p:Int × Int} (h:ct ls n d bk p=.error e):¬e=0:=xm 200 0 p e h
theorem SJ {bj:Nat}{ls:List Ln}{n d:Int}{bk:Bool}{p:Int × Int}{τ:List Res} (hs:Small ls) (hd:0≤d∧d≤1000000000) (hp64:bW p.1∧bW p.2)
  (h0:(p.1 < 0∨(ls.length:Int)≤p.1∨p.2 < 0)→K (.ret (.tup [nilS,I 0,I 0,I 2])) (.obj bj (JC ls n bk d nilS nilS)::τ))
  (h1:∀ ev e t,PlW p→ct ls n d bk p=.ok (ev,e,t)→∀ x' y' τ',JX x' y' [] ev τ' τ→K (.ret (.tup [y',I e.1,I e.2,I 0])) (.obj bj (JC ls n bk d x' y')::τ'))
  (h2:∀ e,PlW p→ct ls n d bk p=.error e→∀ x' y' op' l' τ',JX x' y' op' l' τ' τ→K (.ret (.tup [nilS,I 0,I 0,I e])) (.obj bj (JC ls n bk d x' y')::τ')):ACallF κ Tryz.prog 107 [JP bj,cU p] (.obj bj (JC ls n bk d nilS nilS)::τ) K:=by
 have hl:=hs.1
 by_cases hc:p.1 < 0∨(ls.length:Int)≤p.1∨p.2 < 0
 ·skip
  refine ACallF.dropL (aa Tryz.func107 rfl ?_);simp only [Tryz.ntmps107]
  repeat' (first|simp only [WL,ay,WM,reduceCtorEq,bg,Nat.reduceAdd,Nat.reduceSub,Nat.reduceEqDiff,Bool.not_false,true_and,reduceIte,Bool.false_eq_true,T3,gg,fR dR,fR fa,fR gO,nc,Tryz.results107]|(with_reducible first|refine ax (hb:=?_)|refine au (hK:=?_)|refine aA (hK:=?_)|refine aQ (hK:=fun b=>?_))|((with_reducible refine aE (id:=1) 18 mixed ?_ ?_);kernel_rfl)|(with_reducible refine bK ?_)|((with_reducible first|refine ai (fun h=>?_) (fun h=>?_)|refine ab (fun h=>?_) (fun h=>?_))<;>(try simp only [h])<;>(try simp only [bf,ba] at h))|omega)
  all_goals first
   | exact ak bC (aj rfl) (h0 hc)
   | (exfalso;omega)
 ·have hp:PlW p:=⟨by omega,by omega,hp64.2,by omega⟩
  cases hw:ct ls n d bk p with
  | error e =>
   have he:=kO hw
   refine ACallF.dropL (aa Tryz.func107 rfl ?_);simp only [Tryz.ntmps107]
   repeat' (first|simp only [WL,ay,WM,reduceCtorEq,bg,Nat.reduceAdd,Nat.reduceSub,Nat.reduceLT,Nat.reduceEqDiff,Bool.not_false,true_and,reduceIte,Bool.false_eq_true,T3,mf,gg,fR dR,fR fa,fR gO,fR gi,nc,Tryz.results107]|(with_reducible first|refine ax (hb:=?_)|refine au (hK:=?_)|refine aA (hK:=?_)|refine az (hK:=?_)|refine aQ (hK:=fun b=>?_)|refine aV (hK:=fun b=>?_)|refine callD_mk (ACallF.at_ (b:=bj) (EO (bk:=bk) hs hd hp (fun ev e' t h=>by rw [hw] at h;cases h) (fun e' he' x' y' op' l' τ' hJ'=>?_))))|((with_reducible refine aE (id:=1) 18 mixed ?_ ?_);kernel_rfl)|((with_reducible refine aE (id:=6) 12 mixed ?_ ?_);kernel_rfl)|(with_reducible refine bK ?_)|((with_reducible first|refine ai (fun h=>?_) (fun h=>?_)|refine ab (fun h=>?_) (fun h=>?_))<;>(try simp only [h])<;>(try simp only [bf,ba] at h))|omega)
   all_goals first
    | exact ak bC (aj rfl) (h2 _ hp he' _ _ _ _ _ hJ')
    | exact absurd (by assumption) (kO he')
  | ok r =>
   obtain ⟨ev,e,t⟩:=r;refine ACallF.dropL (aa Tryz.func107 rfl ?_);simp only [Tryz.ntmps107]
   repeat' (first|simp only [WL,ay,WM,reduceCtorEq,bg,Nat.reduceAdd,Nat.reduceSub,Nat.reduceLT,Nat.reduceEqDiff,Bool.not_false,true_and,reduceIte,Bool.false_eq_true,T3,mf,gg,fR dR,fR fa,fR gO,fR gi,nc,Tryz.results107]|(with_reducible first|refine ax (hb:=?_)|refine au (hK:=?_)|refine aA (hK:=?_)|refine az (hK:=?_)|refine aQ (hK:=fun b=>?_)|refine aV (hK:=fun b=>?_)|refine callD_mk (ACallF.at_ (b:=bj) (EO (bk:=bk) hs hd hp (fun ev' e' t' hw' x' y' τ' hJ'=>?_) (fun e' h=>by rw [hw] at h;cases h))))|((with_reducible refine aE (id:=1) 18 mixed ?_ ?_);kernel_rfl)|((with_reducible refine aE (id:=6) 12 mixed ?_ ?_);kernel_rfl)|(with_reducible refine bK ?_)|((with_reducible first|refine ai (fun h=>?_) (fun h=>?_)|refine ab (fun h=>?_) (fun h=>?_))<;>(try simp only [h])<;>(try simp only [bf,ba] at h))|omega)
   all_goals first
    | exact ak bC (aj rfl) (h1 _ _ _ hp hw' _ _ _ hJ')
    | exact absurd trivial (by assumption)
theorem O0 {x:Ln} (hK:K (.ret (B (decide (x.1 < 0)))) σ):ACallF κ Tryz.prog 32 [LN x] σ K:=by
 refine ACallF.dropL (aa Tryz.func32 rfl ?_);simp only [Tryz.ntmps32]
 repeat' (first|simp only [WL,ay,WM,reduceCtorEq,bg,Nat.reduceAdd,Nat.reduceSub,Nat.reduceEqDiff,true_and,T3,fR db,Tryz.results32]|(with_reducible first|refine ax (hb:=?_)|refine au (hK:=?_)|refine aQ (hK:=fun b=>?_)))
 exact ak (ah ae) (aj rfl) hK
theorem Ou {ls:List Ln} (hl:ls.length≤1000000000) (h0:∀ x∈ls,0≤x.1) (hK:K (.ret (I (-1))) σ):ACallF κ Tryz.prog 49 [SL o ls,.raw (.func (.func 32) #[] #[])] σ K:=by
 have hll:(ls.map LN).length=ls.length:=List.length_map _
 refine ACallF.dropL (aa Tryz.func49 rfl ?_);simp only [Tryz.ntmps49]
 repeat' (first|simp only [WL,WM,Nat.reduceAdd,Nat.reduceSub,true_and,gg])
 refine bF (fun k:Nat=>⟨(SL o ls::.raw (.func (.func 32) #[] #[])::.any::.any::.any::.any::SL o ls::I ls.length::I k::.any::.any::.any::.any::.any::.any::.any::.any::.any::.any::[]),σ,true,[]⟩) (fun k=>k≤ls.length) (fun k=>ls.length - k) 0 (aq bH id) (Nat.zero_le _) ?_;intro k hk;rcases Nat.lt_or_ge k ls.length with hi|hi
 ·have hx:¬(ls.getD k (0,[])).1 < 0:=by
   have:=h0 (ls.getD k (0,[])) (by rw [List.getD_eq_getElem?_getD,List.getElem?_eq_getElem hi];exact List.getElem_mem hi)
   omega
  repeat' (first|simp only [WL,ay,WM,reduceCtorEq,bg,Nat.reduceAdd,true_and,gg,jm,Tryz.results49,decide_eq_false hx,WC]|simp (disch:=first|omega|(simp only [aU];omega)) only [an,dO]|(with_reducible first|refine ax (hb:=?_)|refine callD_mk (O0 (x:=ls.getD k (0,[])) ?_))|((with_reducible first|refine ai (fun h=>?_) (fun h=>?_)|refine ab (fun h=>?_) (fun h=>?_))<;>(try simp only [h])<;>(try simp only [bf,ba] at h))|omega)
  exact ⟨k+1,aq bH id,by omega,by omega⟩
 ·skip
  repeat' (first|simp only [WL,ay,WM,ne_eq,reduceCtorEq,not_false_eq_true,true_and,gg,jm,Tryz.results49]|with_reducible refine ax (hb:=?_)|((with_reducible first|refine ai (fun h=>?_) (fun h=>?_)|refine ab (fun h=>?_) (fun h=>?_))<;>(try simp only [h])<;>(try simp only [bf,ba] at h))|omega)
  exact ak ae (aj rfl) hK
theorem CI {ls:List Ln} (hl:ls.length≤1000000000) (h0:∀ x∈ls,0≤x.1) (hK:K (.ret (B false)) σ):ACallF κ Tryz.prog 31 [SL o ls,.raw (.func (.func 32) #[] #[])] σ K:=by
 refine ACallF.dropL (aa Tryz.func31 rfl ?_);simp only [Tryz.ntmps31]
 repeat' (first|simp only [WL,ay,WM,reduceCtorEq,bg,Nat.reduceAdd,Nat.reduceSub,true_and,VD,Tryz.results31]|with_reducible refine callD_mk (Ou hl h0 ?_))
 exact ak ae (aj rfl) hK
theorem BM {ls:List Ln} (hl:ls.length≤1000000000) (h0:∀ x∈ls,0≤x.1) (hK:K (.ret (SL o ls)) σ):ACallF κ Tryz.prog 23 [SL o ls] σ K:=by
 refine ACallF.dropL (aa Tryz.func23 rfl ?_);simp only [Tryz.ntmps23]
 repeat' (first|simp only [WL,WM,Nat.reduceAdd,Nat.reduceSub,Bool.not_false,true_and,WT,Tryz.results23]|with_reducible refine callD_mk (CI hl h0 ?_))
 exact ak ae (aj rfl) hK
theorem Y7 {ls:List Ln} (hl:ls.length≤1000000000) (h0:∀ x∈ls,0≤x.1) (hK:∀ b,K (.ret (JP b)) (.obj b [SL none ls]::σ)):ACallF κ Tryz.prog 24 [SL none ls] σ K:=by
 refine ACallF.dropL (aa Tryz.func24 rfl ?_);simp only [Tryz.ntmps24]
 repeat' (first|simp only [WL,WM,Nat.reduceAdd,Nat.reduceSub,true_and,P2,Tryz.results24]|(with_reducible first|refine aQ (hK:=fun b=>?_)|refine aI (hK:=?_)|refine callD_mk (BM hl h0 ?_)))
 exact ak ae (aj rfl) (hK _)
def cd (ls:List Ln) (i:Int):List Ln:=if 0≤i∧i < ls.length then [ls.getD i.toNat (0,[])] else []
theorem ff {ls:List Ln}{i:Int} (hs:Small ls):Small (cd ls i):=by
 unfold cd;split
 ·have:=hs.at_ (i:=i.toNat) (by omega)
  exact ⟨by simp,fun x hx=>by simp at hx;subst hx;exact this⟩
 ·exact ⟨by simp,fun x hx=>by simp at hx⟩
theorem xP {ls:List Ln}{i:Int} (hi:0≤i∧i < ls.length):(ls.take (i+1).toNat).drop i.toNat=cd ls i:=by
 unfold cd;rw [if_pos hi,show (i+1).toNat=i.toNat+1 by omega,List.drop_take,show i.toNat+1 - i.toNat=1 by omega,List.drop_eq_getElem_cons (by omega),List.take_succ_cons,List.take_zero];simp [List.getD_eq_getElem?_getD,show i.toNat < ls.length by omega]
theorem DL {ls:List Ln}{i:Int} (hi:¬(0≤i∧i < ls.length)):cd ls i=[]:=if_neg hi
theorem Q7 {ls:List Ln}{i:Int} (hl:ls.length≤1000000000) (hK:∀ b,K (.ret (JP b)) (.obj b (JC (cd ls i) (-1) true 0 nilS nilS)::σ)):ACallF κ Tryz.prog 84 [SL none ls,I i] σ K:=by
 have hc':=fun h=>xP (ls:=ls) (i:=i) h
 refine ACallF.dropW ?_;refine ACallF.dropL (aa Tryz.func84 rfl ?_);simp only [Tryz.ntmps84]
 repeat' (first|simp only [WL,ay,WM,reduceCtorEq,bg,Nat.reduceAdd,Nat.reduceSub,Nat.reduceEqDiff,Bool.not_true,true_and,reduceIte,Bool.false_eq_true,gg,jm,fR gO,Tryz.results84]|simp (disch:=first|omega|(simp only [aU];omega)) only [an]|(with_reducible first|refine ax (hb:=?_)|refine aP (hK:=?_)|refine aQ (hK:=fun b=>?_)|refine aI (hK:=?_))|((with_reducible first|refine ai (fun h=>?_) (fun h=>?_)|refine ab (fun h=>?_) (fun h=>?_))<;>(try simp only [h])<;>(try simp only [bf,ba] at h)))
 all_goals first
  | exact ak ae (aj rfl) ⟨.obj _ (JC (cd ls i) (-1) true 0 nilS nilS)::σ,ResW.obj ⟨le_eq (congrArg (SL none) (hc' ⟨by assumption,by assumption⟩).symm),le_rfl,le_rfl,le_rfl,le_rfl,le_rfl,trivial⟩,hK _⟩
  | exact ak ae (aj rfl) ⟨.obj _ (JC (cd ls i) (-1) true 0 nilS nilS)::σ,ResW.obj ⟨by rw [DL (by omega)];exact fg (by decide),le_rfl,le_rfl,le_rfl,le_rfl,le_rfl,trivial⟩,hK _⟩
def lf (k:Int) (p:Int × Int) (l:List Int):Bool:=bU l 58 && (decide (l.length≤1) || blankI (l.getD 1 0)) && decide (p.2 - k≤1024)
def qa (ls:List Ln) (k:Int):Option Int :=
 if (aH ls (0,k)).length=0∨blankI ((aH ls (0,k)).getD 0 0)=true then none
 else match ct ls (-1) 0 true (0,k) with
  | .error _=>none
  | .ok (_,e,_)=>if lf k (ca ls e).1 (ca ls e).2=true then some (ca ls e).1.2 else none
def Ra:Option Int→AV
 | none=>.tup [I 0,B false]
 | some k=>.tup [I k,B true]
theorem lR {ls la:List Ln}{i:Int} (he:cd ls i=la) (hl:ls.length≤1000000000) (hK:∀ b,K (.ret (JP b)) (.obj b (JC la (-1) true 0 nilS nilS)::σ)):ACallF κ Tryz.prog 84 [SL none ls,I i] σ K:=by
 subst he;exact Q7 hl hK
theorem wX:Ra none=.tup [I 0,B false]:=rfl
theorem nD {k:Int}:Ra (some k)=.tup [I k,B true]:=rfl
theorem PlW.of0 {k:Int} (h:bW k) (h0:0≤k):PlW ((0:Int),k):=⟨Int.le_refl 0,(by decide:(0:Int)≤1000000000),h,h0⟩
theorem JX.sub {x y:AV}{op:List Int}{l:List EvV}{τ σ0:List Res} (h:JX x y op l τ σ0):Sub σ0 τ:=by
 obtain ⟨ρx,ρy,r1,r2,hp⟩:=h;refine pQ hp.symm ⟨σ0,List.Perm.refl _, ?_⟩;rw [← List.append_assoc];exact List.sublist_append_right _ _
theorem O1 {k:Int}{p:Int × Int}{l:List Int} (h0:0 < l.length) (h1:l.getD 0 0=58) (h2:l.length≤1∨blankI (l.getD 1 0)=true) (h3:p.2 - k≤1024):lf k p l=true:=by
 unfold lf bU;rw [decide_eq_true h0,h1,decide_eq_true h3];rcases h2 with h2|h2
 ·rw [decide_eq_true h2];rfl
 ·rw [h2];simp
theorem OW {k:Int}{p:Int × Int}{l:List Int} (h:l.length=0∨¬l.getD 0 0=58∨(1 < l.length∧blankI (l.getD 1 0)=false)∨1024 < p.2 - k):lf k p l=false:=by
 unfold lf bU;rcases h with h|h|⟨h,h'⟩|h
 ·rw [decide_eq_false (by omega)];rfl
 ·rw [beq_eq_false_iff_ne.2 h];simp
 ·rw [decide_eq_false (by omega:¬l.length≤1),h'];simp
 ·rw [decide_eq_false (by omega:¬p.2 - k≤1024)];simp
theorem Nl {bj:Nat}{ls:List Ln}{n d:Int}{bk:Bool}{p e:Int × Int}{ev:List EvV}{t:Bool}{ρ τ:List Res} [hS:Split σ bj ρ (JC ls n bk d nilS nilS) τ] (hw:ct ls n d bk p=.ok (ev,e,t)) (hs:Small ls) (hd:0≤d∧d≤1000000000) (hp:PlW p)
  (h1:∀ x' y' τ',JX x' y' [] ev τ' τ→K (.ret (.tup [cU e,I 0])) (ρ ++ .obj bj (JC ls n bk d x' y')::τ')):ACallF κ Tryz.prog 100 [JP bj,cU p] σ K :=
 ACallF.at_ (b:=bj) (EO hs hd hp (fun ev' e' t' h=>by rw [hw] at h;cases h;exact h1) (fun e' h=>by rw [hw] at h;cases h))
theorem M6 {bj:Nat}{ls:List Ln}{n d e:Int}{bk:Bool}{p:Int × Int}{ρ τ:List Res} [hS:Split σ bj ρ (JC ls n bk d nilS nilS) τ] (hw:ct ls n d bk p=.error e) (hs:Small ls) (hd:0≤d∧d≤1000000000) (hp:PlW p)
  (h2:∀ x' y' op' l' τ',JX x' y' op' l' τ' τ→K (.ret (.tup [cU (0,0),I e])) (ρ ++ .obj bj (JC ls n bk d x' y')::τ')):ACallF κ Tryz.prog 100 [JP bj,cU p] σ K :=
 ACallF.at_ (b:=bj) (EO hs hd hp (fun ev' e' t' h=>by rw [hw] at h;cases h) (fun e' h=>by rw [hw] at h;cases h;exact h2))
theorem JL {br ix:Nat}{ls:List Ln}{i k:Int} [hR:Hold σ br ix [SL none ls]] (hs:Small ls) (hk:bW k) (hK:K (.ret (Ra (qa (cd ls i) k))) σ):ACallF κ Tryz.prog 81 [JP br,I i,I k] σ K:=by
 have hl:=hs.1
 have hsa:=ff (i:=i) hs
 have hal:(cd ls i).length≤1:=by unfold cd;split<;>simp
 generalize he:cd ls i=la at *;have hr:=cj (p:=(0,k)) hsa
 have hr1:=fun h=>cA (p:=(0,k)) hsa h
 unfold qa at hK;by_cases hc:(aH la (0,k)).length=0∨blankI ((aH la (0,k)).getD 0 0)=true
 ·rw [if_pos hc] at hK
  refine ACallF.dropL (aa Tryz.func81 rfl ?_);simp only [Tryz.ntmps81]
  repeat' (first|simp only [WL,ay,WM,Int.reduceToNat,reduceCtorEq,bg,Nat.reduceAdd,Nat.reduceSub,Nat.reduceEqDiff,Bool.not_false,true_and,reduceIte,Bool.false_eq_true,T3,cb,gg,fR nh,fM,tw,fk,nc,Tryz.results81]|simp (disch:=first|omega|(simp only [aU];omega)) only [bL]|(with_reducible first|refine ax (hb:=?_)|refine au (hK:=?_)|refine aA (hK:=?_)|refine az (hK:=?_)|refine aV (hK:=fun b=>?_)|refine aI (hK:=?_)|refine cD (lR he (by omega) (fun bj=>?_))|refine cD (fm (ls:=la) (p:=(0,k)) hsa ⟨(by decide:bW 0),hk⟩ ?_)|refine cD (Blank ?_))|((with_reducible first|refine ai (fun h=>?_) (fun h=>?_)|refine ab (fun h=>?_) (fun h=>?_))<;>(try simp only [h])<;>(try simp only [bf,ba] at h)))
  all_goals first
   | exact ak (ah (ah ae)) (aj rfl) hK
   | (exfalso;simp_all;done)
 ·rw [if_neg hc] at hK
  have hc1:0 < (aH la (0,k)).length:=by omega
  have hc2:blankI ((aH la (0,k)).getD 0 0)=false:=by simpa using fun h=>hc (.inr h)
  have hp:PlW (0,k):=PlW.of0 hk (hr1 hc1).2.2.1
  have hkb:=hr1 hc1
  have hPl:=Pl.of_rest hsa hc1
  dsimp only at hkb;cases hw:ct la (-1) 0 true (0,k) with
  | error e =>
   have hen:=kO hw
   rw [hw] at hK;refine ACallF.dropL (aa Tryz.func81 rfl ?_);simp only [Tryz.ntmps81]
   repeat' (first|simp only [WL,ay,WM,Int.reduceToNat,reduceCtorEq,bg,Nat.reduceAdd,Nat.reduceSub,Nat.reduceLT,Nat.reduceEqDiff,Bool.not_false,true_and,reduceIte,Bool.false_eq_true,T3,cb,gg,fR nh,fM,tw,fk,nc,sW,Tryz.results81,hc2]|simp (disch:=first|omega|(simp only [aU];omega)) only [bL]|(with_reducible first|refine ax (hb:=?_)|refine au (hK:=?_)|refine aA (hK:=?_)|refine az (hK:=?_)|refine aV (hK:=fun b=>?_)|refine aI (hK:=?_)|refine cD (lR he (by omega) (fun bj=>?_))|refine cD (fm (ls:=la) (p:=(0,k)) hsa ⟨(by decide:bW 0),hk⟩ ?_)|refine callD_mk (M6 (bj:=bj) hw hsa (by decide) hp (fun x' y' op' l' τ' hJ'=>?_))|refine cD (Blank ?_))|((with_reducible first|refine ai (fun h=>?_) (fun h=>?_)|refine ab (fun h=>?_) (fun h=>?_))<;>(try simp only [h])<;>(try simp only [bf,ba] at h))|omega)
   all_goals first
    | contradiction
    | exact ak (ah (ah (ah hJ'.sub))) (aj rfl) hK
  | ok r =>
   obtain ⟨ev,e,t⟩:=r;have hg:=cM hsa 200 0 (0,k) ev e t hPl hw
   have hpe:bW e.1∧bW e.2:=Pl.in64 hsa hg.2.1
   have hql:=s6 (p:=e) hsa
   have hqb:0 < (ca la e).2.length→0≤(ca la e).1.2∧(ca la e).1.2≤4000:=fun h=>by
    have h2:=nS hsa h
    have h3:=cA (p:=(ca la e).1) hsa (by rw [h2];exact h)
    exact ⟨h3.2.2.1,by omega⟩
   rw [hw] at hK;dsimp only at hK;have hkT:∀ h:lf k (ca la e).1 (ca la e).2=true,K (.ret (.tup [I (ca la e).1.2,B true])) σ:=fun h=>by rw [if_pos h] at hK;exact hK
   have hkF:∀ h:lf k (ca la e).1 (ca la e).2=false,K (.ret (.tup [I 0,B false])) σ:=fun h=>by rw [if_neg (by rw [h];exact Bool.false_ne_true)] at hK;exact hK
   clear hK;refine ACallF.dropL (aa Tryz.func81 rfl ?_);simp only [Tryz.ntmps81]
   repeat' (first|simp only [WL,ay,WM,Int.reduceToNat,reduceCtorEq,bg,Nat.reduceAdd,Nat.reduceSub,Nat.reduceLT,Nat.reduceEqDiff,Bool.not_true,Bool.not_false,true_and,reduceIte,Bool.false_eq_true,T3,cb,gg,fR nh,fR fa,fM,tw,fk,nc,sW,Tryz.results81,hc2]|simp (disch:=first|omega|(simp only [aU];omega)) only [an,bL]|(with_reducible first|refine ax (hb:=?_)|refine au (hK:=?_)|refine aA (hK:=?_)|refine az (hK:=?_)|refine aV (hK:=fun b=>?_)|refine aI (hK:=?_)|refine cD (lR he (by omega) (fun bj=>?_))|refine cD (fm (ls:=la) (p:=(0,k)) hsa ⟨(by decide:bW 0),hk⟩ ?_)|refine callD_mk (Nl (bj:=bj) hw hsa (by decide) hp (fun x' y' τ' hJ'=>?_))|refine cD (Er (ls:=la) (p:=e) hsa hpe ?_)|refine cD (Blank ?_))|((with_reducible first|refine ai (fun h=>?_) (fun h=>?_)|refine ab (fun h=>?_) (fun h=>?_))<;>(try simp only [h])<;>(try simp only [bf,ba] at h))|omega)
   all_goals first
    | exact ak (ah (ah (ah (ah hJ'.sub)))) (aj rfl) (hkT (O1 (by omega) (by assumption) (by first|exact .inr (by assumption)|exact .inl (by omega)) (by omega)))
    | exact ak (ah (ah (ah (ah hJ'.sub)))) (aj rfl) (hkF (OW (by first|(exact .inl (by omega))|(exact .inr (.inl (by assumption)))|(exact .inr (.inr (.inl ⟨by omega,by assumption⟩)))|(exact .inr (.inr (.inr (by omega)))))))
    | (exfalso;omega)
    | exact absurd trivial (by assumption)
abbrev TP:=ByteArray × ByteArray
abbrev PR:=Except Int (List EvV × Int)
abbrev tp0:TP:=(.empty,.empty)
abbrev mR (t:TP):EvV:=⟨7,.empty,t.2,t.1,1,false⟩
abbrev dM (k:Int) (t:TP):EvV:=⟨k,.empty,t.2,t.1,0,false⟩
abbrev aF (ls:List Ln) (i:Int):Ln:=ls.getD i.toNat (0,[])
def qK (ls:List Ln) (i c:Int):Bool:=decide (c < (aF ls i).1) || blankI ((aF ls i).2.getD (c - (aF ls i).1).toNat 0)
def jO (ls:List Ln) (i c:Int):List Int:=(aF ls i).2.drop (min (max c (aF ls i).1 - (aF ls i).1) ((aF ls i).2.length:Int)).toNat
def bz (ls:List Ln) (i c:Int):List Int × Int :=
 if bU ((jO ls i c).drop (pg (jO ls i c))) 35=true∧(0 < pg (jO ls i c)∨max c (aF ls i).1+(pg (jO ls i c):Nat)=0∨qK ls i (max c (aF ls i).1+(pg (jO ls i c):Nat) - 1)=true) then ([],max c (aF ls i).1+(pg (jO ls i c):Nat))
 else ((jO ls i c).drop (pg (jO ls i c)),max c (aF ls i).1+(pg (jO ls i c):Nat))
def fb (ls:List Ln) (i c x:Int):Bool :=
 decide (0≤c - (aF ls i).1) && (decide (c - (aF ls i).1 < (aF ls i).2.length) && ((aF ls i).2.getD (c - (aF ls i).1).toNat 0 == x && (decide (c - (aF ls i).1+1=(aF ls i).2.length) || blankI ((aF ls i).2.getD (c - (aF ls i).1+1).toNat 0))))
def dy (ls:List Ln):Nat→Int→Int
 | 0,i=>i
 | f+1,i=>if i < ls.length∧dW (aF ls i).2=true then dy ls f (i+1) else i
def fX (ls:List Ln) (i:Int):Except Int (Int × Bool) :=
 if bZ ls (dy ls ls.length i)=true then .ok (dy ls ls.length i,false)
 else if (aF ls (dy ls ls.length i)).2.getD 0 0=9 then .error 5
 else .ok (dy ls ls.length i,true)
def qd (ls:List Ln) (i c:Int):Except Int (Int × Bool) :=
 match fX ls i with
 | .error e=>.error e
 | .ok (k,ok)=>if ok=false∨(aF ls k).1 < c then .ok (i,false) else if c < (aF ls k).1 then .error 7 else .ok (k,true)
def Ao (ls:List Ln) (i c:Int):Bool:=fb ls i c 63 || (qa (cd ls i) c).isSome
def gn (ls:List Ln) (i c:Int):Except Int (TP × Int) :=
 match bS (cd ls i) (-1) (0,c) with
 | .error e=>.error e
 | .ok (v,_,_)=>.ok ((v.a,v.t),if jW v=true then v.q.2 else c)
def ob (a b:TP):Option TP:=if (cf a.1 || cf b.1) && (cf a.2 || cf b.2) then some (a.1++b.1,a.2++b.2) else none
def rN (t:TP):Bool:=cf t.1 && cf t.2
def nX (t:TP):List EvV→Option (List EvV)
 | []=>none
 | e::r=>if e.k=8 then (if rN t=true then some (e::r) else none) else some ((if rN t=true then e else { e with a:=t.1,t:=t.2 })::r)
def l6 (ls:List Ln) (i:Int) (l:List Int) (n:Int) (t:TP):PR :=
 if ¬(gV l).2.2=0 then .error (gV l).2.2
 else if ¬(dK (ls.drop (i+1).toNat) (gV l).1 n).2.2=0 then .error (dK (ls.drop (i+1).toNat) (gV l).1 n).2.2
 else .ok ([⟨7,(dK (ls.drop (i+1).toNat) (gV l).1 n).1,t.2,t.1,if (gV l).1.1=true then 5 else 4,false⟩],i+1+(dK (ls.drop (i+1).toNat) (gV l).1 n).2.1)
def Gg (ls:List Ln) (i c:Int) (ev:List EvV):PR:=if 0 < (bz ls i c).1.length then .error 2 else .ok (ev,i+1)
def kr (ls:List Ln) (i c n d:Int) (t:TP):PR :=
 if bU (bz ls i c).1 124=true∨bU (bz ls i c).1 62=true then l6 ls i (bz ls i c).1 n t
 else match ct ls n d true (i,(bz ls i c).2) with
  | .error e=>.error e
  | .ok (ev,e,_)=>match nX t ev with
   | none=>.error 2
   | some ev=>Gg ls e.1 e.2 ev
def F0 (ls:List Ln) (Sq:Int→Int→Bool→TP→PR) (Mp:Int→Int→TP→PR) (R:Int→Int→Bool→TP→PR) (d n:Int) (i c:Int) (lead:Bool) (t:TP):PR :=
 if fb ls i c 45=true then (if lead=true then Sq i c false t else .error 2)
 else if Ao ls i c=true then (if lead=true then Mp i c t else .error 2)
 else match gn ls i c with
  | .error e=>.error e
  | .ok (more,c2)=>match ob t more with
   | none=>.error 2
   | some t2=>if 0 < (bz ls i c2).1.length then kr ls i c2 n d t2 else R i c2 lead t2
def eJ (ls:List Ln) (Sq:Int→Int→Bool→TP→PR) (Mp:Int→Int→TP→PR) (d n:Int) (pair:Bool):Nat→Int→Int→Bool→TP→PR
 | 0,_,_,_,_=>.error 2
 | f+1,i,c,lead,t =>
  if 0 < (bz ls i c).1.length then F0 ls Sq Mp (eJ ls Sq Mp d n pair f) d n i (bz ls i c).2 lead t
  else match fX ls (i+1) with
   | .error e=>.error e
   | .ok (k,ok) =>
    if ok=false∨(aF ls k).1 < n∨(aF ls k).1=n∧(pair && fb ls k n 45)=false then .ok ([mR t],i+1)
    else if (aF ls k).1=n then Sq k n true t
    else F0 ls Sq Mp (eJ ls Sq Mp d n pair f) d n k (aF ls k).1 true t
def iM (ls:List Ln) (N:Int→Int→Int→Bool→PR) (c:Int) (pair:Bool):Nat→Int→List EvV→PR
 | 0,_,_=>.error 2
 | f+1,i,acc=>match N i (c+1) c false with
  | .error e=>.error e
  | .ok (ev,i2)=>match qd ls i2 c with
   | .error e=>.error e
   | .ok (k,ok) =>
    if ok=false then .ok (acc++ev,i2)
    else if fb ls k c 45=false then (if pair=true then .ok (acc++ev,i2) else .error 2)
    else iM ls N c pair f k (acc++ev)
def dZ (ls:List Ln) (N:Int→Int→Int→Bool→PR) (i c:Int) (pair:Bool) (t:TP):PR :=
 match iM ls N c pair (ls.length+1) i [] with
 | .error e=>.error e
 | .ok (ev,k)=>.ok (dM 3 t::(ev++[ga 4]),k)
def r5 (ls:List Ln) (N:Int→Int→Int→Bool→PR) (i c:Int):PR :=
 match N i (c+1) c false with
 | .error e=>.error e
 | .ok (ev,i2)=>match fX ls i2 with
  | .error e=>.error e
  | .ok (k,ok) =>
   if ok=true∧(aF ls k).1=c∧fb ls k c 58=true then (match N k (c+1) c false with
    | .error e=>.error e
    | .ok (ev2,i3)=>.ok (ev++ev2,i3))
   else .ok (ev++[mR tp0],i2)
def ka (ls:List Ln) (N:Int→Int→Int→Bool→PR) (d i c:Int):PR :=
 match qa (cd ls i) c with
 | none=>.error 2
 | some k=>match ct (cd ls i) (-1) d true (0,c) with
  | .error e=>.error e
  | .ok (ev,_,_)=>match N i (k+1) c true with
   | .error e=>.error e
   | .ok (ev2,i2)=>.ok (ev++ev2,i2)
def mz (ls:List Ln) (N:Int→Int→Int→Bool→PR) (d c:Int):Nat→Int→List EvV→PR
 | 0,_,_=>.error 2
 | f+1,i,acc=>match (if fb ls i c 63=true then r5 ls N i c else ka ls N d i c) with
  | .error e=>.error e
  | .ok (ev,i2)=>match qd ls i2 c with
   | .error e=>.error e
   | .ok (k,ok)=>if ok=false then .ok (acc++ev,i2) else mz ls N d c f k (acc++ev)
def BS (ls:List Ln) (N:Int→Int→Int→Bool→PR) (d i c:Int) (t:TP):PR :=
 match mz ls N d c (ls.length+1) i [] with
 | .error e=>.error e
 | .ok (ev,k)=>.ok (dM 5 t::(ev++[ga 6]),k)
def o6 (ls:List Ln):Nat→Int→Int→Bool→Int→Int→Bool→TP→PR
 | 0,d,n,pair,i,c,lead,t=>eJ ls (fun _ _ _ _=>.error 8) (fun _ _ _=>.error 8) d n pair (2 * ls.length+2) i c lead t
 | f+1,d,n,pair,i,c,lead,t=>eJ ls (dZ ls (fun i c n pair=>o6 ls f (d+1) n pair i c (!pair) tp0)) (BS ls (fun i c n pair=>o6 ls f (d+1) n pair i c (!pair) tp0) (d+1)) d n pair (2 * ls.length+2) i c lead t
def jz (ls:List Ln) (i c:Int):PR :=
 match o6 ls 200 0 (-1) false i c (decide (c=0)) tp0 with
 | .error e=>.error e
 | .ok (ev,k)=>match fX ls k with
  | .error e=>.error e
  | .ok (k2,ok)=>if ok=false then .ok (ev,k2) else if 0 < (aF ls k2).1 then .error 7 else .error 2
abbrev RC (ls:List Ln) (br:Nat) (x y:AV):List AV:=[SL none ls,JP br,x,y]
instance:TStruct Tryz.prog 79:=⟨⟨_,Tryz.underlying79⟩⟩
def bI (e:Int):List PanicEntry:=[{ v:=.iface 79 (.agg #[.int .i64 e]),recovered:=false }]
theorem rl {ls:List Ln}{i:Int} (hs:Small ls) (hi:0≤i∧i < ls.length):(aF ls i).2.length≤2000∧0≤(aF ls i).1∧(aF ls i).1≤2000:=hs.at_ (by omega)
theorem qg {e:Int} (hK:K (.pan (bI e)) σ):ACallF κ Tryz.prog 52 [I e] σ K:=by
 refine ACallF.dropL (aa Tryz.func52 rfl ?_);simp only [Tryz.ntmps52]
 repeat' (first|simp only [WL,WM,Nat.reduceAdd,Nat.reduceSub,true_and]|with_reducible refine aI (hK:=?_)|( refine Bp ?_))
 exact aS ae rfl hK
theorem Fx {ok:Bool} (h1:ok=true→K (.ret (.tup [])) σ) (h2:ok=false→K (.pan (bI 2)) σ):ACallF κ Tryz.prog 64 [B ok] σ K:=by
 refine ACallF.dropL (aa Tryz.func64 rfl ?_);simp only [Tryz.ntmps64]
 repeat' (first|simp only [WL,WM,Nat.reduceAdd,Nat.reduceSub,true_and,pj,Tryz.results64]|with_reducible refine cD (qg ?_)|((with_reducible first|refine ai (fun h=>?_) (fun h=>?_)|refine ab (fun h=>?_) (fun h=>?_))<;>(try simp only [h])<;>(try simp only [bf,ba] at h)))
 ·exact aS ae rfl (h2 (by assumption))
 ·exact ak ae (aj rfl) (h1 (by assumption))
theorem my (h1:K (.ret (.tup [])) σ):ACallF κ Tryz.prog 64 [B true] σ K:=Fx (fun _=>h1) (fun h=>by cases h)
theorem qM (h2:K (.pan (bI 2)) σ):ACallF κ Tryz.prog 64 [B false] σ K:=Fx (fun h=>by cases h) (fun _=>h2)
theorem L4 {e:Int} (h1:e=0→K (.ret (.tup [])) σ) (h2:e≠0→K (.pan (bI e)) σ):ACallF κ Tryz.prog 68 [I e] σ K:=by
 refine ACallF.dropL (aa Tryz.func68 rfl ?_);simp only [Tryz.ntmps68]
 repeat' (first|simp only [WL,ay,WM,reduceCtorEq,bg,Nat.reduceAdd,Nat.reduceSub,true_and,pj,Tryz.results68]|with_reducible refine cD (qg ?_)|((with_reducible first|refine ai (fun h=>?_) (fun h=>?_)|refine ab (fun h=>?_) (fun h=>?_))<;>(try simp only [h])<;>(try simp only [bf,ba] at h)))
 ·exact aS ae rfl (h2 (by assumption))
 ·exact ak ae (aj rfl) (h1 (by assumption))
theorem nb (h1:K (.ret (.tup [])) σ):ACallF κ Tryz.prog 68 [I 0] σ K:=L4 (fun _=>h1) (fun h=>absurd rfl h)
theorem Dy {e:Int} (he:¬e=0) (h2:K (.pan (bI e)) σ):ACallF κ Tryz.prog 68 [I e] σ K:=L4 (fun h=>absurd h he) (fun _=>h2)
theorem Rg {pr br ix:Nat}{ls:List Ln}{x y:AV} [hJ:Hold σ pr ix (RC ls br x y)] {i c:Int} (hs:Small ls) (hi:0≤i∧i < ls.length) (hc:0≤c∧c - (aF ls i).1 < (aF ls i).2.length) (hK:K (.ret (B (qK ls i c))) σ):ACallF κ Tryz.prog 76 [JP pr,I i,I c] σ K:=by
 have ha:=rl hs hi
 unfold qK at hK;dsimp only [aF] at *;refine ACallF.dropL (aa Tryz.func76 rfl ?_);simp only [Tryz.ntmps76]
 repeat' (first|simp only [WL,ay,WM,reduceCtorEq,bg,Nat.reduceAdd,Nat.reduceSub,Nat.reduceEqDiff,Bool.not_false,true_and,reduceIte,Bool.false_eq_true,T3,cb,gg,jm,fR db,fR c9,fR gL,fM,Tryz.results76]|simp (disch:=first|omega|(simp only [aU];omega)) only [an,bL,dO,bL]|(with_reducible first|refine ax (hb:=?_)|refine au (hK:=?_)|refine az (hK:=?_)|refine aV (hK:=fun b=>?_)|refine cD (Blank ?_))|((with_reducible first|refine ai (fun h=>?_) (fun h=>?_)|refine ab (fun h=>?_) (fun h=>?_))<;>(try simp only [h])<;>(try simp only [bf,ba] at h)))
 all_goals first
  | exact ak (ah ae) (aj (congrArg B (by rw [decide_eq_true (by omega)];rfl))) hK
  | exact ak (ah ae) (aj (congrArg B (by rw [decide_eq_false (by omega)];rfl))) hK
theorem eg {pr br ix:Nat}{ls:List Ln}{x y:AV} [hJ:Hold σ pr ix (RC ls br x y)] {i c s:Int} (hs:Small ls) (hi:0≤i∧i < ls.length) (hc:-1000000000≤c∧c≤1000000000) (hK:K (.ret (B (fb ls i c s))) σ):ACallF κ Tryz.prog 61 [JP pr,I i,I c,I s] σ K:=by
 have ha:=rl hs hi
 unfold fb at hK;dsimp only [aF] at *;refine ACallF.dropL (aa Tryz.func61 rfl ?_);simp only [Tryz.ntmps61]
 repeat' (first|simp only [WL,ay,WM,reduceCtorEq,bg,Nat.reduceAdd,Nat.reduceSub,Nat.reduceEqDiff,Bool.not_true,Bool.not_false,true_and,reduceIte,Bool.false_eq_true,T3,cb,gg,jm,fR db,fR c9,fR gL,fM,Tryz.results61]|simp (disch:=first|omega|(simp only [aU];omega)) only [an,bL,dO,bL]|(with_reducible first|refine ax (hb:=?_)|refine au (hK:=?_)|refine az (hK:=?_)|refine aV (hK:=fun b=>?_)|refine cD (Blank ?_))|((with_reducible first|refine ai (fun h=>?_) (fun h=>?_)|refine ab (fun h=>?_) (fun h=>?_))<;>(try simp only [h])<;>(try simp only [bf,ba] at h)))
 all_goals first
  | exact ak (ah ae) (aj (congrArg B (by simp_all;try omega))) hK
abbrev OkP (ls:List Ln) (B:Nat) (i:Int) (r:PR):Prop:=∀ ev i2,r=.ok (ev,i2)→i < i2∧i2≤ls.length∧ev.length≤B * (i2 - i).toNat
theorem OkP.mono {ls:List Ln}{B B':Nat}{i:Int}{r:PR} (h:OkP ls B i r) (hb:B≤B'):OkP ls B' i r:=fun ev i2 hr=>by
 obtain ⟨h1,h2,h3⟩:=h ev i2 hr;exact ⟨h1,h2,Nat.le_trans h3 (Nat.mul_le_mul_right _ hb)⟩
theorem zb {B a b:Nat}{i j k:Int} (h1:i≤j) (h2:j≤k) (ha:a≤B * (j - i).toNat) (hb:b≤B * (k - j).toNat):a+b≤B * (k - i).toNat:=by
 rw [show (k - i).toNat=(j - i).toNat+(k - j).toNat by omega,Nat.mul_add];omega
theorem yo {B a:Nat}{i j:Int} (h1:i < j) (ha:a≤B):a≤B * (j - i).toNat :=
 Nat.le_trans ha (Nat.le_mul_of_pos_right _ (by omega))
theorem sr {B C a b:Nat}{i j:Int} (h1:i < j) (ha:a≤B * (j - i).toNat) (hb:b≤C):a+b≤(B+C) * (j - i).toNat:=by
 have:=yo h1 hb
 rw [Nat.add_mul];omega
theorem ez {ls:List Ln}{i c:Int} (hs:Small ls) (hi:0≤i∧i < ls.length):(bz ls i c).1.length≤2000∧max c (aF ls i).1≤(bz ls i c).2∧(bz ls i c).2≤max c (aF ls i).1+2000∧(0 < (bz ls i c).1.length→Pl ls (i,(bz ls i c).2)):=by
 have ha:(aF ls i).2.length≤2000∧0≤(aF ls i).1∧(aF ls i).1≤2000:=hs.at_ (by omega)
 have hc:(jO ls i c).length=(aF ls i).2.length - (min (max c (aF ls i).1 - (aF ls i).1) ((aF ls i).2.length:Int)).toNat:=by
  unfold jO;rw [List.length_drop]
 have hb:=Jy (jO ls i c)
 unfold bz Pl;split
 ·refine ⟨by simp,by dsimp only;omega,by dsimp only;omega,fun h=>by simp at h⟩
 ·refine ⟨by dsimp only;rw [List.length_drop];omega,by dsimp only;omega,by dsimp only;omega,fun h=>?_⟩
  dsimp only at h ⊢;rw [List.length_drop] at h;omega
theorem kU {ls:List Ln}:∀ (f:Nat) (i:Int),i≤dy ls f i
 | 0,i=>Int.le_refl _
 | f+1,i=>by
  rw [dy];split
  ·have:=kU (ls:=ls) f (i+1);omega
  ·exact Int.le_refl _
theorem kR {ls:List Ln}:∀ (f:Nat) (i:Int),i≤ls.length→dy ls f i≤ls.length
 | 0,i,h=>h
 | f+1,i,h=>by
  rw [dy];split
  ·exact kR f (i+1) (by omega)
  ·exact h
theorem jB {ls:List Ln}{i k:Int}{ok:Bool} (hi:i≤ls.length) (h:fX ls i=.ok (k,ok)):i≤k∧k≤ls.length∧(ok=true→k < ls.length):=by
 have h1:=kU (ls:=ls) ls.length i
 have h2:=kR (ls:=ls) ls.length i hi
 unfold fX at h;split at h
 ·cases h;exact ⟨h1,h2,fun h=>by cases h⟩
 ·rename_i ho
  split at h
  ·cases h
  ·cases h
   exact ⟨h1,h2,fun _=>by
    have:bZ ls (dy ls ls.length i)=false:=by simpa using ho
    unfold bZ at this;simp only [Bool.or_eq_false_iff,decide_eq_false_iff_not] at this;omega⟩
theorem ue {ls:List Ln}{i c k:Int}{ok:Bool} (hi:i≤ls.length) (h:qd ls i c=.ok (k,ok)):i≤k∧k≤ls.length∧(ok=true→k < ls.length∧(aF ls k).1=c):=by
 unfold qd at h;split at h
 ·cases h
 ·rename_i k' ok' hn
  obtain ⟨h1,h2,h3⟩:=jB hi hn;split at h
  ·cases h;exact ⟨Int.le_refl _,hi,fun h=>by cases h⟩
  ·rename_i hc
   split at h
   ·cases h
   ·cases h
    refine ⟨h1,h2,fun _=>?_⟩;have:ok'=true:=by simpa using fun h=>hc (.inl h)
    exact ⟨h3 this,by omega⟩
theorem BQ (d:Int) (l:List Ln):(fx d l).length≤l.length:=by
 unfold fx;rw [List.length_map];exact (List.takeWhile_sublist _).length_le
theorem NO {ls:List Ln}{i n:Int}{l:List Int}{t:TP}{B:Nat} (hi:0≤i∧i < ls.length) (hB:1≤B):OkP ls B i (l6 ls i l n t):=by
 intro ev i2 h;unfold l6 at h;split at h
 ·cases h
 ·split at h
  ·cases h
  ·rename_i hb
   cases h
   have hd:(ls.drop (i+1).toNat).length=ls.length - (i+1).toNat:=List.length_drop
   have ht:0≤(dK (ls.drop (i+1).toNat) (gV l).1 n).2.1∧(dK (ls.drop (i+1).toNat) (gV l).1 n).2.1≤(ls.drop (i+1).toNat).length:=by
    unfold dK;split
    ·simp
    ·have:=BQ (lL (ls.drop (i+1).toNat) (gV l).1.2.2 (min (max (-1) n) 1099511627776)).1 (ls.drop (i+1).toNat)
     dsimp only;omega
   exact ⟨by omega,by omega,yo (by omega) hB⟩
theorem zq {t:TP}{l l':List EvV} (h:nX t l=some l'):l'.length=l.length:=by
 cases l with
 | nil=>cases h
 | cons e r =>
  rw [nX] at h;by_cases h8:e.k=8
  ·rw [if_pos h8] at h
   split at h<;>cases h
   rfl
  ·rw [if_neg h8] at h
   cases h;rfl
theorem Ot {ls:List Ln}{i c n d:Int}{t:TP}{B:Nat} (hs:Small ls) (hi:0≤i∧i < ls.length) (h0:0 < (bz ls i c).1.length) (hB:40000≤B):OkP ls B i (kr ls i c n d t):=by
 intro ev i2 h;have hP:=(ez (c:=c) hs hi).2.2.2 h0
 unfold kr at h;split at h
 ·exact NO hi (by omega) ev i2 h
 ·split at h
  ·cases h
  ·rename_i ev1 e1 t1 hw
   obtain ⟨g1,g2,g3,g4⟩:=cM hs 200 0 (i,(bz ls i c).2) ev1 e1 t1 hP hw;split at h
   ·cases h
   ·rename_i ev2 hset
    have hl:=zq hset
    unfold Gg at h;split at h
    ·cases h
    ·cases h
     unfold Pl at g2;unfold Le2 at g1;unfold Pl at hP;dsimp only at g1 g2 hP;refine ⟨by omega,by omega, ?_⟩;rw [hl];refine Nat.le_trans ?_ (Nat.mul_le_mul_right _ hB);unfold mu at g3;dsimp only at g3;omega
theorem GU {ls:List Ln}{i c e:Int} (h:gn ls i c=.error e):¬e=0:=by
 unfold gn at h;split at h
 ·rename_i ht
  cases h
  unfold bS at ht;split at ht
  ·cases ht;decide
  ·cases ht
  ·exact kp ht
 ·cases h
abbrev QN (ls:List Ln) (B:Nat) (S:Int→Int→Bool→TP→PR) (M:Int→Int→TP→PR):Prop:=(∀ (i c:Int) (b:Bool) (t:TP),0≤i∧i < ls.length→OkP ls B i (S i c b t))∧∀ (i c:Int) (t:TP),0≤i∧i < ls.length→OkP ls B i (M i c t)
theorem Qc {ls:List Ln}{S:Int→Int→Bool→TP→PR}{M:Int→Int→TP→PR}{R:Int→Int→Bool→TP→PR}{d n i c:Int}{lead:Bool}{t:TP}{B:Nat} (hs:Small ls) (hB:40000≤B) (hG:QN ls B S M) (hR:∀ (i c:Int) (b:Bool) (t:TP),0≤i∧i < ls.length→OkP ls B i (R i c b t)) (hi:0≤i∧i < ls.length):OkP ls B i (F0 ls S M R d n i c lead t):=by
 intro ev i2 h;unfold F0 at h;split at h
 ·split at h
  ·exact hG.1 _ _ _ _ hi ev i2 h
  ·cases h
 ·split at h
  ·split at h
   ·exact hG.2 _ _ _ hi ev i2 h
   ·cases h
  ·split at h
   ·cases h
   ·split at h
    ·cases h
    ·split at h
     ·rename_i h0;exact Ot hs hi h0 hB ev i2 h
     ·exact hR _ _ _ _ hi ev i2 h
theorem uG {ls:List Ln}{S:Int→Int→Bool→TP→PR}{M:Int→Int→TP→PR}{d n:Int}{pair:Bool}{B:Nat} (hs:Small ls) (hB:40000≤B) (hG:QN ls B S M):∀ (f:Nat) (i c:Int) (lead:Bool) (t:TP),0≤i∧i < ls.length→OkP ls B i (eJ ls S M d n pair f i c lead t)
 | 0,i,c,lead,t,hi=>fun ev i2 h=>by cases h
 | f+1,i,c,lead,t,hi=>fun ev i2 h=>by
  have ih:=fun i c b t hi=>uG (d:=d) (n:=n) (pair:=pair) hs hB hG f i c b t hi
  rw [eJ] at h;split at h
  ·exact Qc hs hB hG ih hi ev i2 h
  ·split at h
   ·cases h
   ·rename_i k ok hn
    obtain ⟨h1,h2,h3⟩:=jB (by omega) hn;split at h
    ·cases h;exact ⟨by omega,by omega,yo (by omega) (by simp;omega)⟩
    ·rename_i hc
     have hok:ok=true:=by simpa using fun h=>hc (.inl h)
     have hk:=h3 hok
     have up:∀ r:PR,OkP ls B k r→r=.ok (ev,i2)→i < i2∧i2≤ls.length∧ev.length≤B * (i2 - i).toNat:=fun r hr he=>by
      obtain ⟨a1,a2,a3⟩:=hr ev i2 he;exact ⟨by omega,a2,Nat.le_trans a3 (Nat.mul_le_mul_left _ (by omega))⟩
     split at h
     ·exact up _ (hG.1 _ _ _ _ ⟨by omega,hk⟩) h
     ·exact up _ (Qc hs hB hG ih ⟨by omega,hk⟩) h
abbrev lY (ls:List Ln) (B:Nat) (N:Int→Int→Int→Bool→PR):Prop:=∀ (i c n:Int) (b:Bool),0≤i∧i < ls.length→OkP ls B i (N i c n b)
theorem DY {ls:List Ln}{N:Int→Int→Int→Bool→PR}{c:Int}{pair:Bool}{B:Nat} (hG:lY ls B N):∀ (f:Nat) (i:Int) (acc ev:List EvV) (k:Int),0≤i∧i < ls.length→iM ls N c pair f i acc=.ok (ev,k)→i < k∧k≤ls.length∧ev.length≤acc.length+B * (k - i).toNat
 | 0,i,acc,ev,k,hi,h=>by cases h
 | f+1,i,acc,ev,k,hi,h=>by
  rw [iM] at h;split at h
  ·cases h
  ·rename_i ev1 i2 hn
   obtain ⟨a1,a2,a3⟩:=hG _ _ _ _ hi _ _ hn;split at h
   ·cases h
   ·rename_i k' ok hf
    obtain ⟨b1,b2,b3⟩:=ue a2 hf;have hend:acc++ev1=ev→i2=k→i < k∧k≤ls.length∧ev.length≤acc.length+B * (k - i).toNat:=fun h1 h2=>by
     subst h1;subst h2;rw [List.length_append];exact ⟨a1,a2,by omega⟩
    split at h
    ·cases h;exact hend rfl rfl
    ·rename_i hok
     split at h
     ·split at h
      ·cases h;exact hend rfl rfl
      ·cases h
     ·have hk:=b3 (by simpa using hok)
      obtain ⟨c1,c2,c3⟩:=DY hG f k' (acc++ev1) ev k ⟨by omega,hk.1⟩ h;refine ⟨by omega,c2, ?_⟩;rw [List.length_append] at c3;have:=zb (B:=B) (i:=i) (j:=k') (k:=k) (by omega) (by omega) (Nat.le_trans a3 (Nat.mul_le_mul_left _ (by omega))) (Nat.le_refl _)
      omega
theorem R5 {ls:List Ln}{N:Int→Int→Int→Bool→PR}{i c:Int}{pair:Bool}{t:TP}{B:Nat} (hG:lY ls B N) (hi:0≤i∧i < ls.length):OkP ls (B+2) i (dZ ls N i c pair t):=by
 intro ev i2 h;unfold dZ at h;split at h
 ·cases h
 ·rename_i ev1 k hE
  cases h
  obtain ⟨a1,a2,a3⟩:=DY hG _ _ _ _ _ hi hE;refine ⟨a1,a2, ?_⟩;have:=sr (B:=B) (C:=2) (a:=ev1.length) (b:=2) a1 (by simpa using a3) (Nat.le_refl _)
  simpa using this
theorem IR {ls:List Ln}{N:Int→Int→Int→Bool→PR}{i c:Int}{B:Nat} (hG:lY ls B N) (hi:0≤i∧i < ls.length):OkP ls (B+1) i (r5 ls N i c):=by
 intro ev i2 h;unfold r5 at h;split at h
 ·cases h
 ·rename_i ev1 j hn
  obtain ⟨a1,a2,a3⟩:=hG _ _ _ _ hi _ _ hn;split at h
  ·cases h
  ·rename_i k ok hx
   obtain ⟨b1,b2,b3⟩:=jB a2 hx;split at h
   ·rename_i hc
    split at h
    ·cases h
    ·rename_i ev2 j3 hn2
     cases h
     obtain ⟨c1,c2,c3⟩:=hG _ _ _ _ ⟨by omega,b3 hc.1⟩ _ _ hn2;refine ⟨by omega,c2, ?_⟩;rw [List.length_append];have:=zb (B:=B) (i:=i) (j:=k) (k:=i2) (by omega) (by omega) (Nat.le_trans a3 (Nat.mul_le_mul_left _ (by omega))) c3
     rw [Nat.add_mul];omega
   ·cases h
    refine ⟨a1,a2, ?_⟩;rw [List.length_append];exact sr a1 a3 (Nat.le_refl _)
theorem FQ {ls:List Ln}{c k:Int} (hs:Small ls) (h:qa ls c=some k):Pl ls (0,c)∧0≤k∧k≤4000:=by
 unfold qa at h;split at h
 ·cases h
 ·rename_i h0
  have hp:0 < (aH ls (0,c)).length:=by omega
  refine ⟨Pl.of_rest hs hp, ?_⟩;split at h
  ·cases h
  ·rename_i e _ hw
   split at h
   ·rename_i hc
    cases h
    unfold lf bU at hc;simp only [Bool.and_eq_true,decide_eq_true_eq] at hc;have h1:=nS hs hc.1.1.1
    have h2:=cA (p:=(ca ls e).1) hs (by rw [h1];exact hc.1.1.1)
    omega
   ·cases h
theorem Fw {ls:List Ln}{N:Int→Int→Int→Bool→PR}{d i c:Int}{B:Nat} (hs:Small ls) (hG:lY ls B N) (hi:0≤i∧i < ls.length):OkP ls (B+40000) i (ka ls N d i c):=by
 intro ev i2 h;unfold ka at h;split at h
 ·cases h
 ·rename_i k hk
  have hsa:=ff (i:=i) hs
  have hal:(cd ls i).length≤1:=by unfold cd;split<;>simp
  obtain ⟨hP,-⟩:=FQ hsa hk;split at h
  ·cases h
  ·rename_i ev1 e t hw
   obtain ⟨g1,g2,g3,g4⟩:=cM hsa 200 0 (0,c) ev1 e t hP hw;have hl:ev1.length≤40000:=by
    unfold Pl at g2 hP;unfold Le2 at g1;unfold mu at g3;dsimp only at g1 g2 g3 hP;omega
   split at h
   ·cases h
   ·rename_i ev2 j hn
    cases h
    obtain ⟨a1,a2,a3⟩:=hG _ _ _ _ hi _ _ hn;refine ⟨a1,a2, ?_⟩;rw [List.length_append,Nat.add_comm];exact sr a1 a3 hl
theorem zD {ls:List Ln}{N:Int→Int→Int→Bool→PR}{d c:Int}{B:Nat} (hs:Small ls) (hG:lY ls B N):∀ (f:Nat) (i:Int) (acc ev:List EvV) (k:Int),0≤i∧i < ls.length→mz ls N d c f i acc=.ok (ev,k)→i < k∧k≤ls.length∧ev.length≤acc.length+(B+40000) * (k - i).toNat
 | 0,i,acc,ev,k,hi,h=>by cases h
 | f+1,i,acc,ev,k,hi,h=>by
  have hone:OkP ls (B+40000) i (if fb ls i c 63=true then r5 ls N i c else ka ls N d i c):=by
   split
   ·exact (IR hG hi).mono (by omega)
   ·exact Fw hs hG hi
  rw [mz] at h;split at h
  ·cases h
  ·rename_i ev1 i2 hn
   obtain ⟨a1,a2,a3⟩:=hone _ _ hn;split at h
   ·cases h
   ·rename_i k' ok hf
    obtain ⟨b1,b2,b3⟩:=ue a2 hf;split at h
    ·cases h
     rw [List.length_append];exact ⟨a1,a2,by omega⟩
    ·rename_i hok
     have hk:=b3 (by simpa using hok)
     obtain ⟨c1,c2,c3⟩:=zD hs hG f k' (acc++ev1) ev k ⟨by omega,hk.1⟩ h;refine ⟨by omega,c2, ?_⟩;rw [List.length_append] at c3;have:=zb (B:=B+40000) (i:=i) (j:=k') (k:=k) (by omega) (by omega) (Nat.le_trans a3 (Nat.mul_le_mul_left _ (by omega))) (Nat.le_refl _)
     omega
theorem SC {ls:List Ln}{N:Int→Int→Int→Bool→PR}{d i c:Int}{t:TP}{B:Nat} (hs:Small ls) (hG:lY ls B N) (hi:0≤i∧i < ls.length):OkP ls (B+40002) i (BS ls N d i c t):=by
 intro ev i2 h;unfold BS at h;split at h
 ·cases h
 ·rename_i ev1 k hE
  cases h
  obtain ⟨a1,a2,a3⟩:=zD hs hG _ _ _ _ _ hi hE;refine ⟨a1,a2, ?_⟩;have:=sr (B:=B+40000) (C:=2) (a:=ev1.length) (b:=2) a1 (by simpa using a3) (Nat.le_refl _)
  simpa using this
abbrev BP (f:Nat):Nat:=40002 * (f+1)
theorem sQ {ls:List Ln} (hs:Small ls):∀ (f:Nat) (d n:Int) (pair:Bool) (i c:Int) (lead:Bool) (t:TP),0≤i∧i < ls.length→OkP ls (BP f) i (o6 ls f d n pair i c lead t)
 | 0,d,n,pair,i,c,lead,t,hi=>by
  rw [o6];exact uG hs (by decide) ⟨fun _ _ _ _ _ ev i2 h=>(by cases h),fun _ _ _ _ ev i2 h=>(by cases h)⟩ _ _ _ _ _ hi
 | f+1,d,n,pair,i,c,lead,t,hi=>by
  have ih:lY ls (BP f) (fun i c n pair=>o6 ls f (d+1) n pair i c (!pair) tp0):=fun i c n b hi=>sQ hs f _ _ _ _ _ _ _ hi
  rw [o6];refine uG hs (by unfold BP;omega) ⟨fun i c b t hi=>(R5 ih hi).mono (by unfold BP;omega),fun i c t hi=>(SC hs ih hi).mono (by unfold BP;omega)⟩ _ _ _ _ _ hi
theorem LY {ls:List Ln}{i c:Int}{ev:List EvV}{k:Int} (hs:Small ls) (hi:0≤i∧i < ls.length) (h:jz ls i c=.ok (ev,k)):i < k∧k≤ls.length∧ev.length≤20000000000:=by
 unfold jz at h;split at h
 ·cases h
 ·rename_i ev1 k1 hl
  obtain ⟨a1,a2,a3⟩:=sQ hs _ _ _ _ _ _ _ _ hi _ _ hl;have hls:=hs.1
  split at h
  ·cases h
  ·rename_i k2 ok hn
   obtain ⟨b1,b2,b3⟩:=jB a2 hn;split at h
   ·cases h
    refine ⟨by omega,b2,Nat.le_trans a3 ?_⟩;have:=Nat.mul_le_mul (Nat.le_refl (BP 200)) (show (k1 - i).toNat≤2000 by omega)
    unfold BP at *;omega
   ·split at h<;>cases h
end Go.Proofs.YthkabaiamcjdbaaGreat
